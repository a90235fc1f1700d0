/- The operations: each does to worlds what is said of it on pure values (4): pieces, appends, new arrays. The operations: each does to worlds what is said of it on pure values (5): append. The operations: each does to worlds what is said of it on pure values (6): append. -/
import Derived.Test.YtmeekpinkfpnhabP02
set_option linter.unusedSimpArgs false
set_option linter.unusedSectionVars false
set_option linter.unusedVariables false
set_option linter.unnecessarySimpa false
set_option linter.all false
namespace Go.Proofs.Ytmeekpinkfpnhab
open Go.RowKit
section
variable {P : Program} {w0 w : World} {h : Heap} {k : Nat} {m : Mem} {β : Bl} {nm : Nm}
theorem RD.piece {v : Value} {xs : List DV} (hr : RD m v (.sl xs)) {sz l hh : Nat} (hsz : ∀ x ∈ xs, x.cells.length = sz) (h1 : l ≤ hh) (h2 : hh ≤ xs.length) :
    ∃ a cap, v = .slice a xs.length cap ∧ xs.length ≤ cap ∧ cap ≤ maxLen ∧ ∀ mm, hh ≤ mm → mm ≤ cap → RD m (.slice (if mm = l then a else a.map (·.add (l * sz))) (hh - l) (mm - l)) (.sl ((xs.take hh).drop l)) := by
  cases hr with
  | nil =>
    refine ⟨_, 0, rfl, Nat.le_refl _, by simp [maxLen], fun mm h3 h4 => ?_⟩
    simp at h2
    have e1 : mm = 0 := by omega
    have e2 : l = 0 := by omega
    subst e1; subst e2; subst h2
    exact .nil
  | @sl b o n cap sz' _ hn hcap hmax hsz' hs hc =>
    refine ⟨_, cap, by rw [hn], by omega, hmax, fun mm h3 h4 => ?_⟩
    by_cases he : mm = l
    · have e1 : hh = l := by omega
      subst he
      subst e1
      rw [if_pos rfl]
      have : (xs.take hh).drop hh = [] := by rw [List.drop_eq_nil_iff]; simp; omega
      rw [this]
      refine .sl (sz := sz) (by simp) (by omega) (by unfold maxLen; omega) (by simp) (fun i j x d hx => by simp at hx) (fun i j x d c hx => by simp at hx)
    · rw [if_neg he]
      simp only [Option.map_some, add_none']
      have hget : ∀ (i : Nat) (x : DV), ((xs.take hh).drop l)[i]? = some x → xs[l + i]? = some x := fun i x hx => by
        rw [List.getElem?_drop, List.getElem?_take] at hx
        split at hx
        · exact hx
        · cases hx
      have hes : ∀ (i : Nat) (x : DV), xs[i]? = some x → sz' = sz := fun i x hx => (hsz' x (List.mem_of_getElem? hx)).symm.trans (hsz x (List.mem_of_getElem? hx))
      refine .sl (sz := sz) (by simp; omega) (by omega) (by omega) (fun x hx => hsz x (List.mem_of_mem_take (List.mem_of_mem_drop hx))) (fun i j x d hx hd => ?_) (fun i j x d c hx hd hcm => ?_)
      · have hx' := hget i x hx
        have := hes _ _ hx'
        subst this
        obtain ⟨c, h5⟩ := hs _ _ _ _ hx' hd
        exact ⟨c, by rw [← h5]; congr 1; rw [Nat.add_mul]; omega⟩
      · have hx' := hget i x hx
        have := hes _ _ hx'
        subst this
        refine hc _ _ _ _ _ hx' hd (by rw [← hcm]; congr 1; rw [Nat.add_mul]; omega)
theorem run_sliceBound' (kk : IntKind) (i : Int) (y : Nat) (code : BoundsCode) (h0 : 0 ≤ i) (h1 : i ≤ y) (w : World) : (Instr.sliceBound (.int kk i) y code).run P w = .ok i.toNat w := by
  rw [run_sliceBound_if, if_pos ⟨h0, h1⟩]
theorem bounds_ok {len cap : Nat} {lo hi mx : Option Value} {alo ahi amx : Option AV} (hlo : ∀ v, lo = some v → ∃ a kk, alo = some a ∧ v = .int kk (intOf' a)) (hlo' : lo = none → alo = none)
    (hhi : ∀ v, hi = some v → ∃ a kk, ahi = some a ∧ v = .int kk (intOf' a)) (hhi' : hi = none → ahi = none)
    (hmx : ∀ v, mx = some v → ∃ a kk, amx = some a ∧ v = .int kk (intOf' a)) (hmx' : mx = none → amx = none) (he : ∀ a, amx = some a → ∃ b, ahi = some b ∧ intOf' a = intOf' b)
    (h0 : 0 ≤ (alo.map intOf').getD 0) (h1 : (alo.map intOf').getD 0 ≤ (ahi.map intOf').getD len) (h2 : (ahi.map intOf').getD len ≤ len) (h3 : len ≤ cap) (sl : Bool) :
    (Instr.sliceBounds sl len cap lo hi mx).run P w = .ok (((alo.map intOf').getD 0).toNat, ((ahi.map intOf').getD len).toNat, if amx.isSome then ((ahi.map intOf').getD len).toNat else cap) w := by
  cases mx with
  | none =>
    have := hmx' rfl; subst this
    cases hi with
    | none =>
      have := hhi' rfl; subst this
      cases lo with
      | none => have := hlo' rfl; subst this; simp [Instr.sliceBounds]
      | some v =>
        obtain ⟨a, kk, rfl, rfl⟩ := hlo v rfl
        simp only [Option.map_some, Option.getD_some, Option.map_none, Option.getD_none] at h0 h1
        simp [Instr.sliceBounds, run_sliceBound' kk _ len _ h0 h1]
    | some u =>
      obtain ⟨b, kk, rfl, rfl⟩ := hhi u rfl
      simp only [Option.map_some, Option.getD_some] at h1 h2
      have hb := run_sliceBound' (P := P) kk (intOf' b) cap (if sl then .sliceAcap else .sliceAlen) (by omega) (by omega) w
      cases lo with
      | none => have := hlo' rfl; subst this; simp [Instr.sliceBounds, hb]
      | some v =>
        obtain ⟨a, kk', rfl, rfl⟩ := hlo v rfl
        simp only [Option.map_some, Option.getD_some] at h0 h1
        simp [Instr.sliceBounds, hb, run_sliceBound' kk' (intOf' a) (intOf' b).toNat .sliceB h0 (by omega)]
  | some x =>
    obtain ⟨c, kk'', rfl, rfl⟩ := hmx x rfl
    obtain ⟨b, rfl, hcb⟩ := he c rfl
    cases hi with
    | none => have := hhi' rfl; cases this
    | some u =>
      obtain ⟨b', kk, hb', rfl⟩ := hhi u rfl
      cases hb'
      simp only [Option.map_some, Option.getD_some] at h1 h2
      have hb := run_sliceBound' (P := P) kk'' (intOf' c) cap (if sl then .slice3Acap else .slice3Alen) (by omega) (by omega) w
      have hb2 := run_sliceBound' (P := P) kk (intOf' b) (intOf' b).toNat .slice3B (by omega) (by omega) w
      rw [hcb] at hb
      cases lo with
      | none => have := hlo' rfl; subst this; simp [Instr.sliceBounds, hcb, hb, hb2]
      | some v =>
        obtain ⟨a, kk', rfl, rfl⟩ := hlo v rfl
        simp only [Option.map_some, Option.getD_some] at h0 h1
        simp [Instr.sliceBounds, hcb, hb, hb2, run_sliceBound' kk' (intOf' a) (intOf' b).toNat .slice3C h0 (by omega)]
theorem slice_ok {t : TypeId} {v : Value} {a : AV} {lo hi mx : Option Value} {alo ahi amx : Option AV} (H : HRel P w0 h k m β w) (hbn : β nm = none) (hk : nm.1 < k) (hv : R m β v a)
    (hlo : ∀ v, lo = some v → ∃ a, alo = some a ∧ R m β v a) (hlo' : lo = none → alo = none) (hhi : ∀ v, hi = some v → ∃ a, ahi = some a ∧ R m β v a) (hhi' : hi = none → ahi = none)
    (hmx : ∀ v, mx = some v → ∃ a, amx = some a ∧ R m β v a) (hmx' : mx = none → amx = none) (hok : okSlice P t a alo ahi amx) (he : hasT P (elT P t) = true) :
    VRes P w0 h k m β w nm (effSlice nm a alo ahi amx P t) (Instr.sliceAt t v lo hi mx) := by
  obtain ⟨i1, i2, i3, h0, hok⟩ := hok
  have ilo : ∀ v, lo = some v → ∃ a kk, alo = some a ∧ v = .int kk (intOf' a) := fun v hv => by
    obtain ⟨a, ha, hr⟩ := hlo v hv; obtain ⟨kk, hk⟩ := hr.int (i1 a ha); exact ⟨a, kk, ha, hk⟩
  have ihi : ∀ v, hi = some v → ∃ a kk, ahi = some a ∧ v = .int kk (intOf' a) := fun v hv => by
    obtain ⟨a, ha, hr⟩ := hhi v hv; obtain ⟨kk, hk⟩ := hr.int (i2 a ha); exact ⟨a, kk, ha, hk⟩
  have imx : ∀ v, mx = some v → ∃ a kk, amx = some a ∧ v = .int kk (intOf' a) := fun v hv => by
    obtain ⟨a, ha, hr⟩ := hmx v hv; obtain ⟨kk, hk⟩ := hr.int (i3 a ha).1; exact ⟨a, kk, ha, hk⟩
  have hsl : ∀ (a0 : Option Addr) (n cap : Nat), slT P t = true → v = .slice a0 n cap → (alo.map intOf').getD 0 ≤ (ahi.map intOf').getD n → (ahi.map intOf').getD n ≤ n → n ≤ cap →
      (Instr.sliceAt t v lo hi mx).run P w = .ok (.slice (if (if amx.isSome then ((ahi.map intOf').getD n).toNat else cap) = ((alo.map intOf').getD 0).toNat then a0 else a0.map (·.add (((alo.map intOf').getD 0).toNat * szT P (elT P t))))
        (((ahi.map intOf').getD n).toNat - ((alo.map intOf').getD 0).toNat) ((if amx.isSome then ((ahi.map intOf').getD n).toNat else cap) - ((alo.map intOf').getD 0).toNat)) w := by
    intro a0 n cap hs hv h1 h2 h3
    subst hv
    have hb := bounds_ok (P := P) (w := w) ilo hlo' ihi hhi' imx hmx' (fun a ha => (i3 a ha).2) h0 h1 h2 h3 true
    simp only [Instr.sliceAt, Instr.slice, Sem.run_bind, run_underlying (slT_of hs), Result.andThen_ok, hb, run_sizeOf' (hasT_info he), Sem.run_pure]
  have hlist : ∀ xs, slT P t = true → RD m v (.sl xs) → (alo.map intOf').getD 0 ≤ (ahi.map intOf').getD xs.length → (ahi.map intOf').getD xs.length ≤ xs.length → (∀ y ∈ xs, y.cells.length = szT P (elT P t)) →
      VRes P w0 h k m β w nm (pure' (.d (.sl ((xs.take ((ahi.map intOf').getD xs.length).toNat).drop ((alo.map intOf').getD 0).toNat))))
        (Instr.sliceAt t v lo hi mx) := by
    intro xs hs hr h1 h2 hsz
    obtain ⟨a0, cap, hv', hc1, hc2, hp⟩ := hr.piece (l := ((alo.map intOf').getD 0).toNat) (hh := ((ahi.map intOf').getD xs.length).toNat) hsz (by omega) (by omega)
    have hrun := hsl a0 xs.length cap hs hv' h1 h2 hc1
    cases amx with
    | none => exact VRes.same H hrun rfl (.d (hp cap (by omega) (Nat.le_refl _)))
    | some mm =>
      simp only [Option.isSome_some, if_true] at hrun
      have hq := hp _ (Nat.le_refl _) (by omega)
      exact VRes.same H hrun rfl (.d hq)
  cases hv with
  | d hd =>
    cases hd with
    | nil => obtain ⟨h1, _, h3, h4, h5⟩ := hok; exact hlist [] h1 .nil h3 h4 h5
    | sl hn hcap hmax hsz hs hc => obtain ⟨h1, _, h3, h4, h5⟩ := hok; exact hlist _ h1 (.sl hn hcap hmax hsz hs hc) h3 h4 h5
    | st => obtain ⟨_, h2, _⟩ := hok; simp [isList] at h2
    | @v x hx =>
      cases v with
      | string s =>
        obtain ⟨h1, rfl, h3, h4⟩ := hok
        have emx : mx = none := by
          cases mx with
          | none => rfl
          | some x => obtain ⟨a, ha, _⟩ := hmx x rfl; cases ha
        subst emx
        have hb := bounds_ok (P := P) (w := w) ilo hlo' ihi hhi' imx hmx' (fun a ha => (i3 a ha).2) h0 h3 h4 (Nat.le_refl s.size) false
        refine VRes.same (v := .string (s.extract ((alo.map intOf').getD 0).toNat ((ahi.map intOf').getD s.size).toNat)) H ?_ rfl (.d (.v rfl))
        simp only [Instr.sliceAt, Instr.slice, Sem.run_bind, run_underlying (strT_of h1), Result.andThen_ok, hb, Sem.run_pure, Option.isSome_none, Bool.false_eq_true, if_false]
      | _ => obtain ⟨_, h2, _⟩ := hok; simp [isList] at h2
  | nil => obtain ⟨h1, _, h3, h4, h5⟩ := hok; exact hlist [] h1 .nil h3 h4 h5
  | own hr hb hv hl ha => obtain ⟨h1, _, h3, h4, h5⟩ := hok; exact hlist _ h1 hr h3 h4 h5
  | @arr n off len cap o p hb hver hc hm ho =>
    obtain ⟨h1, rfl, h3, h4⟩ := hok
    have hrun := hsl _ len cap h1 rfl h3 h4 hc
    simp only [Option.isSome_none, Bool.false_eq_true, if_false] at hrun
    by_cases he' : cap = ((alo.map intOf').getD 0).toNat
    · rw [if_pos he'] at hrun
      refine VRes.same H hrun rfl (.arr hb hver (by omega) (by omega) (.inl (by omega)))
    · rw [if_neg he'] at hrun
      simp only [Option.map_some, add_none'] at hrun
      refine VRes.same H hrun rfl (.arr hb hver (by omega) (by omega) ?_)
      rcases ho with ho | ho
      · left; omega
      · right; rw [ho]
  | _ => obtain ⟨_, h2, _⟩ := hok; simp [isList] at h2
structure NW (m : Mem) (sz : Nat) (news : List Value) (ys : List DV) : Prop where
  len : news.length = ys.length * sz
  one : ∀ c ∈ news, c.oneCell' = true
  get : ∀ (i j : Nat) (x d : DV), ys[i]? = some x → x.cells[j]? = some d → j < sz ∧ ∃ c, news[i * sz + j]? = some c ∧ RD m c d
theorem idx_lt {i j n sz : Nat} (hi : i < n) (hj : j < sz) : i * sz + j < n * sz := by
  have : (i + 1) * sz ≤ n * sz := Nat.mul_le_mul_right _ hi
  rw [Nat.add_mul] at this; omega
theorem loaded {v : Value} {xs : List DV} {sz : Nat} (hr : RD m v (.sl xs)) (hsz : ∀ x ∈ xs, x.cells.length = sz) (hone : ∀ b o v, m b o = some v → v.oneCell' = true) :
    ∃ a cap news, v = .slice a xs.length cap ∧ xs.length ≤ cap ∧ cap ≤ maxLen ∧ NW m sz news xs ∧ (∀ w : World, (∀ b o v, m b o = some v → w.cell? ⟨b, o, none⟩ = some v) → (Builtin.firstCells sz xs.length v).run P w = .ok news.toArray w) ∧ (a = none → cap = 0) := by
  cases hr with
  | @nil a => exact ⟨a, 0, [], rfl, Nat.le_refl _, by simp [maxLen], ⟨by simp, by simp, fun i j x d hx => by simp at hx⟩, fun _ _ => by cases a <;> simp [Builtin.firstCells, loadCells, loadCellsFrom], fun _ => rfl⟩
  | @sl b o n cap sz' _ hn hcap hmax hsz' hs hc =>
    have hcell : ∀ q, q < xs.length * sz → ∃ c x d, m b (o + q) = some c ∧ xs[q / sz]? = some x ∧ x.cells[q % sz]? = some d ∧ RD m c d := fun q hq => by
      have hpos : 0 < sz := by
        rcases Nat.eq_zero_or_pos sz with e | e
        · rw [e] at hq; omega
        · exact e
      have hd : q / sz < xs.length := Nat.div_lt_of_lt_mul (by rw [Nat.mul_comm]; omega)
      have hx := List.getElem?_eq_getElem hd
      have hl := hsz _ (List.getElem_mem hd)
      have he : sz' = sz := (hsz' _ (List.getElem_mem hd)).symm.trans hl
      subst he
      have hj : q % sz' < xs[q / sz'].cells.length := by rw [hl]; exact Nat.mod_lt _ hpos
      have hdd := List.getElem?_eq_getElem hj
      obtain ⟨c, h1⟩ := hs _ _ _ _ hx hdd
      have h2 := hc _ _ _ _ _ hx hdd h1
      rw [Nat.add_assoc, Nat.div_add_mod'] at h1
      exact ⟨c, _, _, h1, hx, hdd, h2⟩
    have hf : ∀ w : World, (∀ b o v, m b o = some v → w.cell? ⟨b, o, none⟩ = some v) → ∀ q, q < xs.length * sz → w.cell? ((⟨b, o, none⟩ : Addr).add q) = some ((m b (o + q)).getD undef) := fun w hmem q hq => by
      obtain ⟨c, _, _, h1, _⟩ := hcell q hq
      rw [add_none', h1]; exact hmem _ _ _ h1
    refine ⟨some ⟨b, o, none⟩, cap, (List.range (xs.length * sz)).map fun q => (m b (o + q)).getD undef, by rw [hn], by omega, hmax, ⟨by simp, fun c hc => ?_, fun i j x d hx hd => ?_⟩, ?_, fun h => by cases h⟩
    · obtain ⟨q, hq, rfl⟩ := List.mem_map.1 hc
      obtain ⟨c, _, _, h1, _⟩ := hcell q (List.mem_range.1 hq)
      rw [h1]; exact hone _ _ _ h1
    · have hj : j < sz := by have := (List.getElem?_eq_some_iff.1 hd).1; have := hsz x (List.mem_of_getElem? hx); omega
      have hi : i < xs.length := (List.getElem?_eq_some_iff.1 hx).1
      refine ⟨hj, ?_⟩
      have hq := idx_lt hi hj
      obtain ⟨c, x', d', h1, h2, h3, h4⟩ := hcell _ hq
      rw [show (i * sz + j) / sz = i by rw [Nat.mul_comm, Nat.mul_add_div (by omega)]; simp [Nat.div_eq_of_lt hj]] at h2
      rw [show (i * sz + j) % sz = j by rw [Nat.mul_comm, Nat.mul_add_mod]; exact Nat.mod_eq_of_lt hj] at h3
      rw [hx] at h2; cases h2
      rw [hd] at h3; cases h3
      refine ⟨c, ?_, h4⟩
      rw [List.getElem?_map, List.getElem?_range hq]
      simp [h1]
    · intro w hmem
      show (loadCells ⟨b, o, none⟩ (xs.length * sz)).run P w = _
      rw [run_loadCells w _ _ _ (hf w hmem)]
end
section
variable {P : Program} {w0 w : World} {h : Heap} {k : Nat} {m : Mem} {β : Bl} {nm : Nm}
theorem RD.append {b cap sz : Nat} {xs ys : List DV} (hcap : (xs ++ ys).length ≤ cap) (hmax : cap ≤ maxLen) (h1 : ∀ x ∈ xs, x.cells.length = sz) (h2 : ∀ x ∈ ys, x.cells.length = sz)
    (hx : ∀ (i j : Nat) (x d : DV), xs[i]? = some x → x.cells[j]? = some d → ∃ c, m b (i * sz + j) = some c ∧ RD m c d)
    (hy : ∀ (i j : Nat) (x d : DV), ys[i]? = some x → x.cells[j]? = some d → ∃ c, m b ((xs.length + i) * sz + j) = some c ∧ RD m c d) : RD m (.slice (some ⟨b, 0, none⟩) (xs ++ ys).length cap) (.sl (xs ++ ys)) := by
  have key : ∀ (i j : Nat) (x d : DV), (xs ++ ys)[i]? = some x → x.cells[j]? = some d → ∃ c, m b (0 + i * sz + j) = some c ∧ RD m c d := fun i j x d he hd => by
    rw [Nat.zero_add]
    by_cases hi : i < xs.length
    · rw [List.getElem?_append_left hi] at he
      exact hx i j x d he hd
    · rw [List.getElem?_append_right (by omega)] at he
      have := hy (i - xs.length) j x d he hd
      rwa [show xs.length + (i - xs.length) = i by omega] at this
  refine .sl (sz := sz) rfl hcap hmax (fun x hx => ?_) (fun i j x d he hd => ?_) fun i j x d c he hd hc => ?_
  · rcases List.mem_append.1 hx with h | h
    · exact h1 x h
    · exact h2 x h
  · obtain ⟨c, h3, _⟩ := key i j x d he hd; exact ⟨c, h3⟩
  · obtain ⟨c', h3, h4⟩ := key i j x d he hd
    rw [hc] at h3; cases h3; exact h4
theorem source {v : Value} {x : AV} {sz : Nat} (H : HRel P w0 h k m β w) (hv : R m β v x)
    (hok : okSrc sz h x) :
    ∃ news, NW m sz news (newsOf h x) ∧ (∀ y ∈ newsOf h x, y.cells.length = sz) ∧ (∀ w, (Builtin.lenOf v).run P w = .ok (newsOf h x).length w) ∧
      (Builtin.firstCells sz (newsOf h x).length v).run P w = .ok news.toArray w ∧ (Builtin.firstCells sz (newsOf h x).length v).run P w.drew = .ok news.toArray w.drew := by
  have hlist : ∀ ys, newsOf h x = ys → RD m v (.sl ys) → (∀ y ∈ ys, y.cells.length = sz) → ∃ news, NW m sz news (newsOf h x) ∧ (∀ y ∈ newsOf h x, y.cells.length = sz) ∧ (∀ w, (Builtin.lenOf v).run P w = .ok (newsOf h x).length w) ∧
      (Builtin.firstCells sz (newsOf h x).length v).run P w = .ok news.toArray w ∧ (Builtin.firstCells sz (newsOf h x).length v).run P w.drew = .ok news.toArray w.drew := by
    intro ys e hr hsz
    rw [e]
    obtain ⟨a, cap, news, rfl, _, _, hN, h1, _⟩ := loaded (P := P) hr hsz (fun b o v hm => (H.mem b o v hm).2)
    exact ⟨news, hN, hsz, fun w => by simp [Builtin.lenOf], h1 w (fun b o v hm => (H.mem b o v hm).1), h1 w.drew (fun b o v hm => (H.mem b o v hm).1)⟩
  cases hv with
  | d hd =>
    obtain ⟨h1, h2⟩ := hok
    cases hd with
    | nil => exact hlist [] rfl .nil h2
    | sl hn hcap hmax hsz hs hc => exact hlist _ rfl (.sl hn hcap hmax hsz hs hc) h2
    | _ => simp [isList] at h1
  | nil => exact hlist [] rfl .nil hok.2
  | own hr hb hv hl ha => exact hlist _ rfl hr hok.2
  | @arr n off len cap o p hb hver hc hm ho =>
    obtain ⟨his, rfl, hl, hd⟩ := hok
    obtain ⟨e, cs, hn, hcs, _⟩ := cells_of his
    rw [hcs] at hl hd
    have hne : newsOf h (.arr n off len) = ((cs.drop off).take len).map AV.toD := by simp [newsOf, hcs]
    have hlen : (newsOf h (.arr n off len)).length = len := by rw [hne]; simp; omega
    obtain ⟨q, hq, _, c, c1, c2, c3, c4⟩ := H.obj n _ hn
    rw [hb] at hq; cases hq
    have hcell : ∀ j, j < len → ∃ u, c[off + j]? = some u ∧ w.cell? ⟨p.1, off + j, none⟩ = some u ∧ u.oneCell' = true ∧ RD m u (cs.getD (off + j) .junk).toD := fun j hj => by
      have hj' : off + j < c.size := by omega
      have h1 : c[off + j]? = some c[off + j] := Array.getElem?_eq_getElem hj'
      have h2 : cs[off + j]? = some (cs[off + j]'(by omega)) := List.getElem?_eq_getElem (by omega)
      obtain ⟨h3, h4⟩ := c3 (off + j) _ _ h1 h2
      refine ⟨_, h1, by simp [World.cell?, c1], h3, ?_⟩
      rw [List.getD_eq_getElem?_getD, h2]
      have hm : cs[off + j]'(by omega) ∈ (cs.drop off).take len := List.mem_of_getElem? (i := j) (by rw [List.getElem?_take, if_pos hj, List.getElem?_drop]; exact h2)
      exact h4.toD (toD_of (hd _ hm).1)
    have hone : ∀ y ∈ newsOf h (.arr n off len), y.cells.length = 1 := fun y hy => by
      rw [hne] at hy
      obtain ⟨a, ha, rfl⟩ := List.mem_map.1 hy
      exact (hd a ha).2
    refine ⟨(List.range len).map fun j => (c[off + j]?).getD undef, ⟨by rw [hlen]; simp, fun u hu => ?_, fun i j x d hx hd' => ?_⟩, hone, fun w => by rw [hlen]; simp [Builtin.lenOf], ?_, ?_⟩
    · obtain ⟨j, hj, rfl⟩ := List.mem_map.1 hu
      obtain ⟨u, h1, _, h2, _⟩ := hcell j (List.mem_range.1 hj)
      rw [h1]; exact h2
    · have hi : i < len := by have := (List.getElem?_eq_some_iff.1 hx).1; omega
      have hl1 := hone x (List.mem_of_getElem? hx)
      have hj : j < x.cells.length := (List.getElem?_eq_some_iff.1 hd').1
      have hj0 : j = 0 := by omega
      subst hj0
      refine ⟨by omega, ?_⟩
      obtain ⟨u, h1, _, _, h2⟩ := hcell i hi
      refine ⟨u, by rw [List.getElem?_map, List.getElem?_range (by omega)]; simp [h1], ?_⟩
      rw [hne, List.getElem?_map, List.getElem?_take, if_pos hi, List.getElem?_drop] at hx
      have h2' : cs[off + i]? = some (cs[off + i]'(by omega)) := List.getElem?_eq_getElem (by omega)
      rw [h2'] at hx
      simp only [Option.map_some, Option.some.injEq] at hx
      rw [List.getD_eq_getElem?_getD, h2'] at h2
      simp only [Option.getD_some, hx] at h2
      have hcl := h2.cells
      cases h2 with
      | v hv1 => simp only [DV.cells, List.getElem?_cons_zero, Option.some.injEq] at hd'; subst hd'; exact .v hv1
      | nil => simp only [DV.cells, List.getElem?_cons_zero, Option.some.injEq] at hd'; subst hd'; exact .nil
      | sl a1 a2 a3 a4 a5 a6 => simp only [DV.cells, List.getElem?_cons_zero, Option.some.injEq] at hd'; subst hd'; exact .sl a1 a2 a3 a4 a5 a6
      | st => obtain ⟨u', h1', _, h3', _⟩ := hcell i hi; rw [h1] at h1'; cases h1'; simp [Value.oneCell'] at h3'
    all_goals
      rw [hlen]
      rcases ho with ho | ho
      · subst ho
        simp [Builtin.firstCells, loadCells, loadCellsFrom]
      · subst ho
        show (loadCells _ (len * 1)).run P _ = _
        rw [run_loadCells _ _ (len * 1) (fun j => (c[o + j]?).getD undef) (fun j hj => ?_)]
        · simp
        · obtain ⟨u, h1, h2, _⟩ := hcell j (by omega)
          rw [add_none', h1]
          exact h2
  | _ => obtain ⟨h1, _⟩ := hok; simp [isList] at h1
end
section
variable {P : Program} {w0 w : World} {h : Heap} {k : Nat} {m : Mem} {β : Bl} {nm : Nm}
theorem run_app_room {t : TypeId} {base : Option Addr} {sLen sCap n : Nat} {vx : Value} {news : List Value} (hs : slT P t = true) (hI : (P.info? (elT P t)).isSome = true) (hx : (Builtin.lenOf vx).run P w = .ok n w)
    (hn : (Builtin.firstCells (szT P (elT P t)) n vx).run P w = .ok news.toArray w) (hroom : sLen + n ≤ sCap) (ty : TypeId) (w' : World)
    (hst : ∀ a, base = some a → (storeCells (a.add (sLen * szT P (elT P t))) news).run P w = .ok () w') (hst' : base = none → w' = w) : (Builtin.append_ #[t, t] ty #[.slice base sLen sCap, vx]).run P w = .ok (.slice base (sLen + n) sCap) w' := by
  cases base with
  | none =>
    have := hst' rfl; subst this
    simp [Builtin.append_, run_underlying (slT_of hs), run_sizeOf' hI, hx, hroom, hn]
  | some a => simp [Builtin.append_, run_underlying (slT_of hs), run_sizeOf' hI, hx, hroom, hn, hst a rfl]
theorem run_app_new {t : TypeId} {base : Option Addr} {sLen sCap n : Nat} {vx : Value} {olds news : List Value} {i : TypeInfo} {z : Value} (hs : slT P t = true) (hi : P.info? (elT P t) = some i) (hz : i.zero = some z) (hx : (Builtin.lenOf vx).run P w = .ok n w)
    (hn : (Builtin.firstCells (szT P (elT P t)) n vx).run P w.drew = .ok news.toArray w.drew) (ho : (Builtin.firstCells (szT P (elT P t)) sLen (.slice base sLen sCap)).run P w.drew = .ok olds.toArray w.drew)
    (hroom : sCap < sLen + n) (hlim : sLen + n ≤ 16777216) (hby : bytesT P (elT P t) ≤ 1024) (ty : TypeId) :
    (Builtin.append_ #[t, t] ty #[.slice base sLen sCap, vx]).run P w = .ok (.slice (some ⟨w.heap.size, 0, none⟩) (sLen + n) (grownCap w (sLen + n) sCap (elT P t)))
      (w.drew.alloc (.cells (olds.toArray ++ (news.toArray ++ Builtin.zeroCells z.cells (grownCap w (sLen + n) sCap (elT P t) - (sLen + n)))) (elT P t))) := by
  have hI : (P.info? (elT P t)).isSome = true := by simp [hi]
  have hb : i.bytes ≤ 1024 := by simpa [bytesT, hi] using hby
  have h48 := growslice_fits (bytes := i.bytes) hroom (Nat.le_trans (Nat.mul_le_mul hlim hb) (by decide))
  have h48' : ¬ (281474976710656 < Builtin.nextslicecap (sLen + n) sCap * i.bytes) := by omega
  have hmax : ¬ (9223372036854775807 < ((sLen : Int) + (n : Int))) := by omega
  have hzr : (zeroValue (elT P t)).run P w.drew = .ok z w.drew := run_zero hi hz _
  simp [Builtin.append_, run_underlying (slT_of hs), run_sizeOf' hI, hx, Nat.not_le.2 hroom, hn, ho, typeInfo, hi, h48', hzr, IntKind.max, IntKind.bits, IntKind.signed, hmax, newRow, grownCap, Question.forced]
theorem flat_idx {sz : Nat} : ∀ {ys : List DV} (hys : ∀ y ∈ ys, y.cells.length = sz) {r : Nat} {d : DV}, (ys.flatMap DV.cells)[r]? = some d → ∃ q j y, ys[q]? = some y ∧ y.cells[j]? = some d ∧ r = q * sz + j
  | [], _, r, d, h => by simp at h
  | y :: ys, hys, r, d, h => by
    rw [List.flatMap_cons] at h
    have hy := hys y (by simp)
    by_cases hr : r < y.cells.length
    · rw [List.getElem?_append_left hr] at h
      exact ⟨0, r, y, rfl, h, by omega⟩
    · rw [List.getElem?_append_right (by omega)] at h
      obtain ⟨q, j, z, h1, h2, h3⟩ := flat_idx (fun z hz => hys z (by simp [hz])) h
      refine ⟨q + 1, j, z, by simpa using h1, h2, ?_⟩
      rw [Nat.add_mul]; omega
theorem flat_len {sz : Nat} : ∀ {ys : List DV} (_ : ∀ y ∈ ys, y.cells.length = sz), (flatD ys).length = ys.length * sz
  | [], _ => by simp [flatD]
  | y :: ys, hys => by
    have h1 := flat_len (ys := ys) fun z hz => hys z (by simp [hz])
    have h2 := hys y (by simp)
    simp only [flatD, List.length_map, List.flatMap_cons, List.length_append, List.length_cons] at h1 ⊢
    rw [h1, h2, Nat.add_mul]; omega
theorem append_gro {t : TypeId} {vs vx : Value} {n : Nm} {len : Nat} {cs : List AV} {i : TypeInfo} {z : Value} {news : List Value} {ys : List DV} (H : HRel P w0 h k m β w) (hvs : R m β vs (.gro n len)) (hs : slT P t = true) (hi : P.info? (elT P t) = some i) (hz0 : i.zero = some z) (hzs : z.cells.size = szT P (elT P t)) (hsz0 : 0 < szT P (elT P t)) (hby : bytesT P (elT P t) ≤ 1024)
    (hN : NW m (szT P (elT P t)) news ys) (hys : ∀ y ∈ ys, y.cells.length = szT P (elT P t)) (hlen : ∀ w, (Builtin.lenOf vx).run P w = .ok ys.length w) (hn1 : (Builtin.firstCells (szT P (elT P t)) ys.length vx).run P w = .ok news.toArray w) (hn2 : (Builtin.firstCells (szT P (elT P t)) ys.length vx).run P w.drew = .ok news.toArray w.drew)
    (hn : h n = some (.gro (elT P t) len cs)) (hcs : cs.length = len * szT P (elT P t)) (hlim : len + ys.length ≤ 16777216) (ty : TypeId) :
    ∃ v w' m' β', (Builtin.append_ #[t, t] ty #[vs, vx]).run P w = .ok v w' ∧ m.le m' ∧ β.le β' ∧ (∀ x, β x = none → β' x = none) ∧ HRel P w0 (upd h n (some (.gro (elT P t) (len + ys.length) (cs ++ flatD ys)))) k m' β' w' ∧ R m' β' v (.gro n (len + ys.length)) := by
  have hI : (P.info? (elT P t)).isSome = true := by simp [hi]
  cases hvs with
  | @gro _ _ _ p v hx hb hv hvl ha =>
  obtain ⟨q, hq, hver, hob⟩ := H.obj n _ hn
  rw [hb] at hq; cases hq
  rw [hv] at hver; cases hver
  obtain ⟨base, hxv, hab⟩ := ha rfl
  clear ha hx
  subst hxv
  have hkn : n.1 < k := H.dom n p hb
  have grow : ys ≠ [] → ∀ b c q, β n = some q → q.le ⟨b, c, some (len + ys.length)⟩ := fun hy b c q hq => by
    rw [hb] at hq; cases hq
    have := List.length_pos_iff.2 hy
    exact .inr ⟨_, _, hv, rfl, by omega⟩
  have hflat : ∀ (r : Nat) (a : AV), (flatD ys)[r]? = some a → ∃ u, news[r]? = some u ∧ u.oneCell' = true ∧ R m β u a := fun r a hr => by
    unfold flatD at hr
    rw [List.getElem?_map, Option.map_eq_some_iff] at hr
    obtain ⟨d, hd, rfl⟩ := hr
    obtain ⟨q, j, y, h1, h2, h3⟩ := flat_idx hys hd
    obtain ⟨_, c, h4, h5⟩ := hN.get q j y d h1 h2
    subst h3
    exact ⟨c, h4, hN.one c (List.mem_of_getElem? h4), .d h5⟩
  have hfl := flat_len hys
  obtain ⟨olds, ho1, ho2, ho3, hc0, hcm⟩ : ∃ olds : List Value, olds.length = len * szT P (elT P t) ∧ (Builtin.firstCells (szT P (elT P t)) len (.slice base len p.2)).run P w.drew = .ok olds.toArray w.drew ∧ (∀ (r : Nat) (a : AV), cs[r]? = some a → ∃ u, olds[r]? = some u ∧ u.oneCell' = true ∧ R m β u a) ∧ len ≤ p.2 ∧ p.2 ≤ maxLen := by
    rcases hob with ⟨h1, h2, h3⟩ | ⟨C, g1, g2, g3, g4, g5, g6, g7⟩
    · subst h1; subst h3
      refine ⟨[], by simp, ?_, fun r a hr => by simp at hr, by omega, by rw [h2]; simp [maxLen]⟩
      cases base <;> simp [Builtin.firstCells, loadCells, loadCellsFrom]
    · have hm : len * szT P (elT P t) ≤ C.size := by rw [g2]; exact Nat.mul_le_mul_right _ g3
      refine ⟨(List.range (len * szT P (elT P t))).map fun j => (C[j]?).getD undef, by simp, ?_, fun r a hr => ?_, g3, g4⟩
      · rcases hab with ⟨e1, e2⟩ | e1
        · subst e1; cases base <;> simp [Builtin.firstCells, loadCells, loadCellsFrom]
        · subst e1
          show (loadCells _ (len * szT P (elT P t))).run P _ = _
          have hcell : ∀ j, j < len * szT P (elT P t) → w.drew.cell? ((⟨p.1, 0, none⟩ : Addr).add j) = some ((C[j]?).getD undef) := fun j hj => by
            have hj' : j < C.size := by omega
            rw [add_none', Array.getElem?_eq_getElem hj', Nat.zero_add]
            have g1' : w.drew.heap[p.1]? = _ := g1
            simp [World.cell?, g1', hj']
          rw [run_loadCells _ _ (len * szT P (elT P t)) (fun j => (C[j]?).getD undef) hcell]
          first | done | simp
      · have hr' := (List.getElem?_eq_some_iff.1 hr).1
        have hj' : r < C.size := by omega
        obtain ⟨u1, u2⟩ := g6 r _ a (Array.getElem?_eq_getElem hj') hr
        exact ⟨C[r], by rw [List.getElem?_map, List.getElem?_range (by omega)]; simp [hj'], u1, u2⟩
  have hboth : ∀ (L : List Value), (∀ r, r < len * szT P (elT P t) → L[r]? = olds[r]?) → (∀ r, r < ys.length * szT P (elT P t) → L[len * szT P (elT P t) + r]? = news[r]?) → ∀ (r : Nat) (u : Value) (a : AV), L[r]? = some u → (cs ++ flatD ys)[r]? = some a → u.oneCell' = true ∧ R m β u a := by
    intro L h1 h2 r u a hu ha
    by_cases hr : r < len * szT P (elT P t)
    · rw [List.getElem?_append_left (by omega)] at ha
      obtain ⟨u', e1, e2, e3⟩ := ho3 r a ha
      rw [h1 r hr, e1] at hu; cases hu
      exact ⟨e2, e3⟩
    · rw [List.getElem?_append_right (by omega), hcs] at ha
      obtain ⟨u', e1, e2, e3⟩ := hflat _ a ha
      have hlt := (List.getElem?_eq_some_iff.1 ha).1
      have := h2 (r - len * szT P (elT P t)) (by omega)
      rw [show len * szT P (elT P t) + (r - len * szT P (elT P t)) = r by omega, hu, e1] at this
      cases this
      exact ⟨e2, e3⟩
  have hcl : (cs ++ flatD ys).length = (len + ys.length) * szT P (elT P t) := by rw [List.length_append, hcs, hfl, Nat.add_mul]
  by_cases hroom : p.2 < len + ys.length
  · have hy : ys ≠ [] := fun e => by subst e; simp at hroom; omega
    have hrun := run_app_new hs hi hz0 (hlen w) hn2 ho2 hroom hlim hby ty
    have hge := grownCap_ge w (len + ys.length) p.2 (elT P t)
    have hle := grownCap_le_maxLen w (len + ys.length) p.2 (elT P t) (by unfold maxLen; omega)
    generalize grownCap w (len + ys.length) p.2 (elT P t) = nc at hrun hge hle
    generalize hC : olds.toArray ++ (news.toArray ++ Builtin.zeroCells z.cells (nc - (len + ys.length))) = C at hrun
    have hlC : C.size = nc * szT P (elT P t) := by
      rw [← hC]
      simp only [Array.size_append, List.size_toArray, size_zeroCells, hzs, ho1, hN.len]
      rw [← Nat.add_mul, ← Nat.add_mul]
      congr 1; omega
    have hCx : ∀ r, r < len * szT P (elT P t) → C.toList[r]? = olds[r]? := fun q hq => by
      rw [Array.getElem?_toList, ← hC, Array.getElem?_append_left (by simp [ho1]; exact hq), List.getElem?_toArray]
    have hCy : ∀ r, r < ys.length * szT P (elT P t) → C.toList[len * szT P (elT P t) + r]? = news[r]? := fun q hq => by
      rw [Array.getElem?_toList, ← hC, Array.getElem?_append_right (by simp [ho1]), Array.getElem?_append_left (by simp [ho1, hN.len]; exact hq)]
      simp [ho1]
    have hf := fun o => H.fresh (Nat.le_refl w.heap.size) o
    refine ⟨_, _, m, updB β n ⟨w.heap.size, nc, some (len + ys.length)⟩, hrun, .rfl' m, updB_le (grow hy _ _), fun x h0 => updB_none (fun e => by subst e; rw [hb] at h0; cases h0) h0, ?_, ?_⟩
    · refine H.upd1 (grow hy _ _) hkn (Below.alloc (Below.drew H.ext) (by simpa using H.size) _) (.rfl' m) (fun b o v hv => ?_) ?_ (fun _ => H.size) ?_
      · obtain ⟨h1, h2⟩ := H.mem b o v hv
        exact ⟨(World.cell?_alloc_lt w.drew _ ⟨b, o, none⟩ (H.mem_lt hv)).trans h1, h2⟩
      · refine ⟨rfl, .inr ⟨C, heap_alloc_new w.drew _, hlC, by show len + ys.length ≤ nc; omega, hle, hcl, fun r u a hu ha => ?_, fun o => hf o⟩⟩
        obtain ⟨e1, e2⟩ := hboth C.toList hCx hCy r u a (by rw [Array.getElem?_toList]; exact hu) ha
        exact ⟨e1, e2.mono (.rfl' m) (updB_le (grow hy _ _))⟩
      · intro x' p' ob' _ hx hp hr
        have := H.lt hx hp hr
        exact ⟨fun _ => Nat.ne_of_lt this, heap_alloc_old w.drew _ this, fun o => rfl⟩
    · exact .gro (p := ⟨w.heap.size, nc, some (len + ys.length)⟩) ⟨_, _, rfl⟩ (updB_self _ _ _) rfl (Nat.le_refl _) fun _ => ⟨some ⟨w.heap.size, 0, none⟩, rfl, .inr rfl⟩
  · by_cases hy : ys = []
    · subst hy
      have hnn : news = [] := List.eq_nil_of_length_eq_zero (by rw [hN.len]; simp)
      subst hnn
      have hrun := run_app_room (base := base) (sLen := len) (sCap := p.2) hs hI (hlen w) hn1 (by simpa using hc0) ty w (fun a _ => rfl) (fun _ => rfl)
      refine ⟨_, w, m, β, hrun, .rfl' m, .rfl' β, fun _ h => h, ?_, .gro ⟨_, _, rfl⟩ hb hv (Nat.le_refl _) fun _ => ⟨base, rfl, hab⟩⟩
      have e : upd h n (some (.gro (elT P t) (len + ([] : List DV).length) (cs ++ flatD []))) = h := by
        have e2 : cs ++ flatD [] = cs := by simp [flatD]
        rw [e2]
        funext x; unfold upd; split
        · subst_vars; exact hn.symm
        · rfl
      rw [e]; exact H
    · have hpos := List.length_pos_iff.2 hy
      have he : ¬ (len = 0 ∧ p.2 = 0) := fun e => by omega
      rcases hob with hob | ⟨C, g1, g2, g3, g4, g5, g6, g7⟩
      · exact absurd ⟨hob.1, hob.2.1⟩ he
      have ha' : base = some ⟨p.1, 0, none⟩ := hab.resolve_left he
      subst ha'
      have hB : w0.heap.size ≤ p.1 := H.new n p _ hb hn he
      have hfit : (len + ys.length) * szT P (elT P t) ≤ C.size := by rw [g2]; exact Nat.mul_le_mul_right _ (by omega)
      have hst := run_storeCells_at P p.1 (len * szT P (elT P t)) (elT P t) news 0 C w g1 (by rw [hN.len]; rw [Nat.add_mul] at hfit; omega) hN.one
      generalize hC' : (C.toList.take (len * szT P (elT P t) + 0) ++ news ++ C.toList.drop (len * szT P (elT P t) + 0 + news.length)).toArray = C' at hst
      have hlC : len * szT P (elT P t) ≤ C.size := by rw [Nat.add_mul] at hfit; omega
      have hszC' : C'.size = C.size := by
        rw [← hC']
        simp [hN.len]
        rw [Nat.add_mul] at hfit
        omega
      have hlo : ∀ q, q < len * szT P (elT P t) → C'[q]? = C[q]? := fun q hq => by
        rw [← hC']
        simp only [Nat.add_zero, List.getElem?_toArray]
        rw [List.append_assoc, List.getElem?_append_left (by simp; omega), List.getElem?_take, if_pos hq, Array.getElem?_toList]
      have hmi : ∀ q, q < ys.length * szT P (elT P t) → C'[len * szT P (elT P t) + q]? = news[q]? := fun q hq => by
        rw [← hC']
        simp only [Nat.add_zero, List.getElem?_toArray]
        rw [List.append_assoc, List.getElem?_append_right (by simp; omega), List.getElem?_append_left (by simp [hN.len]; rw [Nat.min_eq_left hlC]; omega)]
        simp [Nat.min_eq_left hlC]
      have hrun := run_app_room (base := some ⟨p.1, 0, none⟩) (sLen := len) (sCap := p.2) hs hI (hlen w) hn1 (by omega) ty (w.setRow p.1 C') (fun a e => by cases e; rw [add_none', Nat.zero_add]; exact hst) (fun e => by cases e)
      refine ⟨_, _, m, updB β n ⟨p.1, p.2, some (len + ys.length)⟩, hrun, .rfl' m, updB_le (grow hy _ _), fun x h0 => updB_none (fun e => by subst e; rw [hb] at h0; cases h0) h0, ?_, .gro (p := ⟨p.1, p.2, some (len + ys.length)⟩) ⟨_, _, rfl⟩ (updB_self _ _ _) rfl (Nat.le_refl _) fun _ => ⟨some ⟨p.1, 0, none⟩, rfl, .inr rfl⟩⟩
      refine H.upd1 (grow hy _ _) hkn (H.ext.trans ⟨rfl, rfl, rfl, by simp [World.setRow], fun k hk => setRow_other w p.1 k C' (by omega)⟩) (.rfl' m) (fun b o v hv => ?_) ?_ (fun _ => hB) ?_
      · have hb' : b ≠ p.1 := fun e => by subst e; rw [g7] at hv; cases hv
        obtain ⟨h2, h3⟩ := H.mem b o v hv
        exact ⟨(cell_setRow_other w p.1 C' ⟨b, o, none⟩ hb').trans h2, h3⟩
      · refine ⟨rfl, .inr ⟨C', setRow_heap w p.1 C C' (elT P t) _ g1, hszC'.trans g2, by show len + ys.length ≤ p.2; omega, g4, hcl, fun r u a hu ha => ?_, g7⟩⟩
        by_cases hr : r < len * szT P (elT P t)
        · rw [List.getElem?_append_left (by omega)] at ha
          rw [hlo r hr] at hu
          obtain ⟨e1, e2⟩ := g6 r u a hu ha
          exact ⟨e1, e2.mono (.rfl' m) (updB_le (grow hy _ _))⟩
        · rw [List.getElem?_append_right (by omega), hcs] at ha
          obtain ⟨u', e1, e2, e3⟩ := hflat _ a ha
          have hlt := (List.getElem?_eq_some_iff.1 ha).1
          have := hmi (r - len * szT P (elT P t)) (by omega)
          rw [show len * szT P (elT P t) + (r - len * szT P (elT P t)) = r by omega, hu, e1] at this
          cases this
          exact ⟨e2, e3.mono (.rfl' m) (updB_le (grow hy _ _))⟩
      · intro x' p' ob' hx' hob' hp' hr'
        have hne : p'.1 ≠ p.1 := fun e => hx' (H.inj x' n p' p ob' _ hob' hn hp' hb hr' he e)
        exact ⟨fun _ => hne, setRow_other w p.1 p'.1 C' hne, fun o => rfl⟩
theorem append_ok {t : TypeId} {vs vx : Value} {s x : AV} (H : HRel P w0 h k m β w) (hbn : β nm = none) (hk : nm.1 < k) (hvs : R m β vs s) (hvx : R m β vx x) (hok : okAppend P t t s x h) (ty : TypeId) :
    VRes P w0 h k m β w nm (effAppend P nm t s x h) (Builtin.append_ #[t, t] ty #[vs, vx]) := by
  obtain ⟨hs, _, hsz0, hby, hz, hx, hss⟩ := hok
  obtain ⟨i, z, hi, hz0, hzs, hsi, h1, _⟩ := zeroOk_of hz
  have hI : (P.info? (elT P t)).isSome = true := by simp [hi]
  obtain ⟨news, hN, hys, hlen, hn1, hn2⟩ := source H hvx hx
  generalize hY : newsOf h x = ys at hN hys hlen hn1 hn2 hss
  have big : ∀ (tn : Nm) (xs : List DV) (base : Option Addr) (cap : Nat), (∀ c q, β tn = some q → q.le ⟨w.heap.size, c, some (xs ++ ys).length⟩) → tn.1 < k → vs = .slice base xs.length cap → RD m vs (.sl xs) → (∀ y ∈ xs, y.cells.length = szT P (elT P t)) → cap < xs.length + ys.length → xs.length + ys.length ≤ 16777216 →
      ∃ v w' m' β', (Builtin.append_ #[t, t] ty #[vs, vx]).run P w = .ok v w' ∧ m.le m' ∧ β.le β' ∧ (∀ n, n ≠ tn → β n = none → β' n = none) ∧ HRel P w0 (upd h tn (some (.perm (elT P t) (xs ++ ys).length))) k m' β' w' ∧ R m' β' v (.own tn (xs ++ ys)) := by
    intro tn xs base cap hbn hk hv hr hxs hroom hlim
    obtain ⟨a, cap', olds, hv', hc1, hc2, hO, ho, _⟩ := loaded (P := P) hr hxs (fun b o v hm => (H.mem b o v hm).2)
    rw [hv] at hv'; cases hv'
    have ho2 := ho w.drew (fun b o v hm => (H.mem b o v hm).1)
    rw [hv] at ho2
    have hrun := run_app_new hs hi hz0 (hlen w) hn2 ho2 hroom hlim hby ty
    rw [← hv] at hrun
    have hge := grownCap_ge w (xs.length + ys.length) cap (elT P t)
    have hle := grownCap_le_maxLen w (xs.length + ys.length) cap (elT P t) (by unfold maxLen; omega)
    generalize grownCap w (xs.length + ys.length) cap (elT P t) = nc at hrun hge hle
    generalize hC : olds.toArray ++ (news.toArray ++ Builtin.zeroCells z.cells (nc - (xs.length + ys.length))) = C at hrun
    have hlC : C.size = nc * szT P (elT P t) := by
      rw [← hC]
      simp only [Array.size_append, List.size_toArray, size_zeroCells, hzs, hO.len, hN.len]
      rw [← Nat.add_mul, ← Nat.add_mul]
      congr 1; omega
    have hCx : ∀ q, q < xs.length * szT P (elT P t) → C[q]? = olds[q]? := fun q hq => by
      rw [← hC, Array.getElem?_append_left (by simp [hO.len]; exact hq), List.getElem?_toArray]
    have hCy : ∀ q, q < ys.length * szT P (elT P t) → C[xs.length * szT P (elT P t) + q]? = news[q]? := fun q hq => by
      rw [← hC, Array.getElem?_append_right (by simp [hO.len]), Array.getElem?_append_left (by simp [hO.len, hN.len]; exact hq)]
      simp [hO.len]
    have hf := fun o => H.fresh (Nat.le_refl w.heap.size) o
    have hCg : ∀ q c, q < (xs ++ ys).length * szT P (elT P t) → C[q]? = some c → c.oneCell' = true := fun q c hq hc => by
      rw [List.length_append, Nat.add_mul] at hq
      by_cases hlt : q < xs.length * szT P (elT P t)
      · rw [hCx q hlt] at hc; exact hO.one c (List.mem_of_getElem? hc)
      · have := hCy (q - xs.length * szT P (elT P t)) (by omega)
        rw [show xs.length * szT P (elT P t) + (q - xs.length * szT P (elT P t)) = q by omega, hc] at this
        exact hN.one c (List.mem_of_getElem? this.symm)
    let f : Nat → Option Value := fun q => if q < (xs ++ ys).length * szT P (elT P t) then C[q]? else none
    have hmm : ∀ q, m.add w.heap.size f w.heap.size q = f q := fun q => Mem.add_new _ _ (hf q)
    refine ⟨_, _, m.add w.heap.size f, updB β tn ⟨w.heap.size, nc, some (xs ++ ys).length⟩, hrun, Mem.add_le _ _ _, updB_le (hbn nc), fun n hn => updB_none hn, ?_, ?_⟩
    · refine H.upd1 (hbn nc) hk (Below.alloc (Below.drew H.ext) (by simpa using H.size) _) (Mem.add_le _ _ _) (fun b o v hv => ?_) ?_ (fun _ => H.size) ?_
      · by_cases hb : b = w.heap.size
        · subst hb
          rw [hmm o] at hv
          simp only [f] at hv
          split at hv
          · rename_i hlt
            exact ⟨(World.cell?_alloc_new w.drew C (elT P t) o).trans hv, hCg o v hlt hv⟩
          · cases hv
        · rw [Mem.add_ne _ _ hb] at hv
          obtain ⟨h1, h2⟩ := H.mem b o v hv
          exact ⟨(World.cell?_alloc_lt w.drew _ ⟨b, o, none⟩ (H.mem_lt hv)).trans h1, h2⟩
      · refine ⟨rfl, .inr ⟨C, heap_alloc_new w.drew _, hlC, ?_, fun o ho => ?_⟩⟩
        · simp only [List.length_append]; omega
        · rw [hmm o]
          simp only [f]
          rw [if_neg (by omega)]
      · intro x' p' ob' _ hx hp hr
        have := H.lt hx hp hr
        exact ⟨fun _ => Nat.ne_of_lt this, heap_alloc_old w.drew _ this, fun o => Mem.add_ne _ _ (Nat.ne_of_lt this) o⟩
    · refine .own (p := ⟨w.heap.size, nc, some (xs ++ ys).length⟩) ?_ (updB_self _ _ _) rfl (Nat.le_refl _) fun _ => ⟨some ⟨w.heap.size, 0, none⟩, by simp, .inr rfl⟩
      have hrd : RD (m.add w.heap.size f) (.slice (some ⟨w.heap.size, 0, none⟩) (xs ++ ys).length nc) (.sl (xs ++ ys)) := by
        refine RD.append (by simpa using hge) hle hxs hys (fun q j y d hy hd => ?_) fun q j y d hy hd => ?_
        · obtain ⟨hj, c, h2, h3⟩ := hO.get q j y d hy hd
          have hq : q < xs.length := (List.getElem?_eq_some_iff.1 hy).1
          have hlt := idx_lt hq hj
          refine ⟨c, ?_, h3.mono (Mem.add_le _ _ _)⟩
          rw [hmm]
          simp only [f]
          rw [if_pos (by simp only [List.length_append, Nat.add_mul]; omega), hCx _ hlt, h2]
        · obtain ⟨hj, c, h2, h3⟩ := hN.get q j y d hy hd
          have hq : q < ys.length := (List.getElem?_eq_some_iff.1 hy).1
          have hlt := idx_lt hq hj
          refine ⟨c, ?_, h3.mono (Mem.add_le _ _ _)⟩
          rw [hmm]
          simp only [f]
          rw [if_pos (by simp only [List.length_append, Nat.add_mul]; omega), Nat.add_mul, Nat.add_assoc, hCy _ hlt, h2]
      rwa [List.length_append] at hrd
  cases hvs with
  | nil =>
    simp only [effAppend, VRes, Eff.ap, List.foldl_cons, List.foldl_nil, hY]
    by_cases hy : ys = []
    · subst hy
      have hnn : news = [] := List.eq_nil_of_length_eq_zero (by rw [hN.len]; simp)
      subst hnn
      have hrun := run_app_room (base := none) (sLen := 0) (sCap := 0) hs hI (hlen w) hn1 (by simp) ty w (fun a _ => rfl) (fun _ => rfl)
      refine ⟨_, w, m, updB β nm ⟨0, 0, some 0⟩, hrun, .rfl' m, updB_le (le_new hbn), fun n hn => updB_none hn, by simpa using H.perm0 hbn hk _ 0 0, ?_⟩
      exact .own (p := ⟨0, 0, some 0⟩) (v := 0) .nil (updB_self _ _ _) rfl (Nat.le_refl _) fun _ => ⟨none, rfl, .inl ⟨rfl, rfl⟩⟩
    · have hpos : 0 < ys.length := List.length_pos_iff.2 hy
      have hss' : ys.length ≤ 16777216 := hss
      have := big nm [] none 0 (fun c => le_new hbn) hk rfl .nil (by simp) (by simpa using hpos) (by simpa using hss')
      simpa using this
  | @own _ n xs p v hr hb hv hvl ha =>
    obtain ⟨hn, hxs, hlim⟩ := hss
    simp only [effAppend, VRes, Eff.ap, List.foldl_cons, List.foldl_nil, hY]
    obtain ⟨q, hq, hver, hob⟩ := H.obj n _ hn
    rw [hb] at hq; cases hq
    rw [hv] at hver; cases hver
    obtain ⟨base, hxv, ha⟩ := ha rfl
    obtain ⟨hc1, hc2⟩ : xs.length ≤ p.2 ∧ p.2 ≤ maxLen := by
      obtain ⟨a9, c9, e9, h9, h10, _⟩ := hr.piece (l := 0) (hh := 0) hxs (Nat.le_refl _) (Nat.zero_le _)
      rw [hxv] at e9
      cases e9
      exact ⟨h9, h10⟩
    have hkn : n.1 < k := H.dom n p hb
    have grow : ys ≠ [] → ∀ b c q, β n = some q → q.le ⟨b, c, some (xs ++ ys).length⟩ := fun hy b c q hq => by
      rw [hb] at hq; cases hq
      have := List.length_pos_iff.2 hy
      exact .inr ⟨_, _, hv, rfl, by simp only [List.length_append]; omega⟩
    by_cases hroom : p.2 < xs.length + ys.length
    · have hy : ys ≠ [] := fun e => by subst e; simp at hroom; omega
      obtain ⟨v, w', m', β', g1, g2, g3, g4, g5⟩ := big n xs base p.2 (grow hy _) hkn hxv hr hxs hroom hlim
      exact ⟨v, w', m', β', g1, g2, g3, fun x hx h0 => g4 x (fun e => by subst e; rw [hb] at h0; cases h0) h0, g5⟩
    · by_cases hy : ys = []
      · subst hy
        have hnn : news = [] := List.eq_nil_of_length_eq_zero (by rw [hN.len]; simp)
        subst hnn
        have hrun := run_app_room (base := base) (sLen := xs.length) (sCap := p.2) hs hI (hlen w) hn1 (by simpa using hc1) ty w (fun a _ => rfl) (fun _ => rfl)
        rw [← hxv] at hrun
        rw [List.append_nil]
        refine ⟨_, w, m, β, hrun, .rfl' m, .rfl' β, fun _ _ h => h, ?_, .own (by simpa [hxv] using hr) hb hv (Nat.le_refl _) fun _ => ⟨base, by simp, ha⟩⟩
        have e : upd h n (some (.perm (elT P t) xs.length)) = h := by funext x; unfold upd; split
                                                                      · subst_vars; exact hn.symm
                                                                      · rfl
        rw [e]; exact H
      · have he : ¬ (xs.length = 0 ∧ p.2 = 0) := fun e => by have := List.length_pos_iff.2 hy; omega
        rcases hob with hob | ⟨C, g1, g2, g3, g4⟩
        · exact absurd hob he
        have ha' : base = some ⟨p.1, 0, none⟩ := ha.resolve_left he
        subst ha'
        have hB : w0.heap.size ≤ p.1 := H.new n p _ hb hn he
        have hfit : (xs.length + ys.length) * szT P (elT P t) ≤ C.size := by rw [g2]; exact Nat.mul_le_mul_right _ (by omega)
        have hst := run_storeCells_at P p.1 (xs.length * szT P (elT P t)) (elT P t) news 0 C w g1 (by rw [hN.len]; rw [Nat.add_mul] at hfit; omega) hN.one
        generalize hC' : (C.toList.take (xs.length * szT P (elT P t) + 0) ++ news ++ C.toList.drop (xs.length * szT P (elT P t) + 0 + news.length)).toArray = C' at hst
        have hlC : xs.length * szT P (elT P t) ≤ C.size := by rw [Nat.add_mul] at hfit; omega
        have hszC' : C'.size = C.size := by
          rw [← hC']
          simp [hN.len]
          rw [Nat.add_mul] at hfit
          omega
        have hlo : ∀ q, q < xs.length * szT P (elT P t) → C'[q]? = C[q]? := fun q hq => by
          rw [← hC']
          simp only [Nat.add_zero, List.getElem?_toArray]
          rw [List.append_assoc, List.getElem?_append_left (by simp; omega), List.getElem?_take, if_pos hq, Array.getElem?_toList]
        have hmi : ∀ q, q < ys.length * szT P (elT P t) → C'[xs.length * szT P (elT P t) + q]? = news[q]? := fun q hq => by
          rw [← hC']
          simp only [Nat.add_zero, List.getElem?_toArray]
          rw [List.append_assoc, List.getElem?_append_right (by simp; omega), List.getElem?_append_left (by simp [hN.len]; rw [Nat.min_eq_left hlC]; omega)]
          simp [Nat.min_eq_left hlC]
        have hrun := run_app_room (base := some ⟨p.1, 0, none⟩) (sLen := xs.length) (sCap := p.2) hs hI (hlen w) hn1 (by omega) ty (w.setRow p.1 C') (fun a e => by cases e; rw [add_none', Nat.zero_add]; exact hst) (fun e => by cases e)
        rw [← hxv] at hrun
        let f : Nat → Option Value := fun q => if xs.length * szT P (elT P t) ≤ q ∧ q < (xs ++ ys).length * szT P (elT P t) then C'[q]? else none
        have hmo : ∀ q, xs.length * szT P (elT P t) ≤ q → m.add p.1 f p.1 q = f q := fun q hq => Mem.add_new _ _ (g4 q hq)
        refine ⟨_, _, m.add p.1 f, updB β n ⟨p.1, p.2, some (xs ++ ys).length⟩, hrun, Mem.add_le _ _ _, updB_le (grow hy _ _), fun x hx h0 => updB_none (fun e => by subst e; rw [hb] at h0; cases h0) h0, ?_, ?_⟩
        · refine H.upd1 (grow hy _ _) hkn (H.ext.trans ⟨rfl, rfl, rfl, by simp [World.setRow], fun k hk => setRow_other w p.1 k C' (by omega)⟩) (Mem.add_le _ _ _) (fun b o v hv => ?_) ?_ (fun _ => hB) ?_
          · by_cases hb' : b = p.1
            · subst hb'
              rw [cell_setRow_same w p.1 o C C' (elT P t) _ g1]
              cases hmv : m p.1 o with
              | some u =>
                have := Mem.add_le m p.1 f p.1 o u hmv
                rw [hv] at this; cases this
                obtain ⟨h2, h3⟩ := H.mem _ _ _ hmv
                have ho : o < xs.length * szT P (elT P t) := by
                  rcases Nat.lt_or_ge o (xs.length * szT P (elT P t)) with h | h
                  · exact h
                  · rw [g4 o h] at hmv; cases hmv
                rw [hlo o ho]
                simp [World.cell?, g1] at h2
                exact ⟨h2, h3⟩
              | none =>
                rw [Mem.add_new _ _ hmv] at hv
                simp only [f] at hv
                split at hv
                · rename_i hlt
                  refine ⟨hv, ?_⟩
                  have hlt2 := hlt.2
                  rw [List.length_append, Nat.add_mul] at hlt2
                  have := hmi (o - xs.length * szT P (elT P t)) (by omega)
                  rw [show xs.length * szT P (elT P t) + (o - xs.length * szT P (elT P t)) = o by omega, hv] at this
                  exact hN.one _ (List.mem_of_getElem? this.symm)
                · cases hv
            · rw [Mem.add_ne _ _ hb'] at hv
              obtain ⟨h2, h3⟩ := H.mem b o v hv
              exact ⟨(cell_setRow_other w p.1 C' ⟨b, o, none⟩ hb').trans h2, h3⟩
          · refine ⟨rfl, .inr ⟨C', setRow_heap w p.1 C C' (elT P t) _ g1, hszC'.trans g2, ?_, fun o ho => ?_⟩⟩
            · simp only [List.length_append]; omega
            · have hge : xs.length * szT P (elT P t) ≤ (xs ++ ys).length * szT P (elT P t) := Nat.mul_le_mul_right _ (by simp)
              rw [hmo o (by omega)]
              simp only [f]
              rw [if_neg (by omega)]
          · intro x' p' ob' hx' hob' hp' hr'
            have hne : p'.1 ≠ p.1 := fun e => hx' (H.inj x' n p' p ob' _ hob' hn hp' hb hr' he e)
            exact ⟨fun _ => hne, setRow_other w p.1 p'.1 C' hne, fun o => Mem.add_ne _ _ hne o⟩
        · refine .own (p := ⟨p.1, p.2, some (xs ++ ys).length⟩) ?_ (updB_self _ _ _) rfl (Nat.le_refl _) fun _ => ⟨some ⟨p.1, 0, none⟩, by simp, .inr rfl⟩
          have hrd : RD (m.add p.1 f) (.slice (some ⟨p.1, 0, none⟩) (xs ++ ys).length p.2) (.sl (xs ++ ys)) := by
            rw [hxv] at hr
            refine RD.append (by simp; omega) hc2 hxs hys (fun q j y d hy hd => ?_) fun q j y d hy hd => ?_
            · obtain ⟨c, h2, h3⟩ := hr.cell hxs hy hd
              exact ⟨c, Mem.add_le _ _ _ _ _ _ (by rwa [Nat.zero_add] at h2), h3.mono (Mem.add_le _ _ _)⟩
            · obtain ⟨hj, c, h2, h3⟩ := hN.get q j y d hy hd
              have hq : q < ys.length := (List.getElem?_eq_some_iff.1 hy).1
              have hlt := idx_lt hq hj
              refine ⟨c, ?_, h3.mono (Mem.add_le _ _ _)⟩
              rw [Nat.add_mul, Nat.add_assoc, hmo _ (by omega)]
              simp only [f]
              rw [if_pos (by simp only [List.length_append, Nat.add_mul]; omega), hmi _ hlt, h2]
          rwa [List.length_append] at hrd
  | @gro _ n len p v hgx hb hv hvl ha =>
    obtain ⟨hn, hlim⟩ := hss
    split at hn
    · rename_i e' len' cs hcs
      obtain ⟨rfl, rfl, hcl⟩ := hn
      obtain ⟨v', w', m', β', q1, q2, q3, q4, q5, q6⟩ := append_gro H (.gro hgx hb hv hvl ha) hs hi hz0 hzs hsz0 hby hN hys hlen hn1 hn2 hcs hcl hlim ty
      simp only [effAppend, VRes, Eff.ap, List.foldl_cons, List.foldl_nil, hY, groCs, hcs]
      exact ⟨v', w', m', β', q1, q2, q3, fun x _ h0 => q4 x h0, q5, q6⟩
    · exact hn.elim
  | _ => exact hss.elim
end
end Go.Proofs.Ytmeekpinkfpnhab
