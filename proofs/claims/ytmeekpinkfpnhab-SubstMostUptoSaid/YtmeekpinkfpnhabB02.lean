/- The operations: each does to worlds what is said of it on pure values (4): pieces, appends, new arrays. The operations: each does to worlds what is said of it on pure values (5): append. The operations: each does to worlds what is said of it on pure values (6): append. The operations: each does to worlds what is said of it on pure values (7): new arrays, lengths; all operations in one. The operations: each does to worlds what is said of it on pure values (8): maps. All operations that are no calls of functions, in one theorem. Contracts of functions on pure values; code on pure values. -/
import Derived.Test.YtmeekpinkfpnhabB01
import Derived.MapKept
import Derived.Laws.IdiomRangeMap
set_option linter.unusedSimpArgs false
set_option linter.unusedSectionVars false
set_option linter.unusedVariables false
set_option linter.unnecessarySimpa false
set_option linter.all false
namespace Go.Proofs.Ytmeekpinkfpnhab
open Go.RowKit
section
variable {P : Program} {w0 w : World} {h : Heap} {k : Nat} {m : Mem} {β : Bl} {nm : Nm}
/-! ### pieces -/
theorem RD.piece {v : Value} {xs : List DV} (hr : RD m v (.sl xs)) {sz l hh : Nat} (hsz : ∀ x ∈ xs, x.cells.length = sz) (h1 : l ≤ hh) (h2 : hh ≤ xs.length) :
    ∃ a cap, v = .slice a xs.length cap ∧ xs.length ≤ cap ∧ cap ≤ maxLen ∧ ∀ mm, hh ≤ mm → mm ≤ cap → RD m (.slice (if mm = l then a else a.map (·.add (l * sz))) (hh - l) (mm - l)) (.sl ((xs.take hh).drop l)) := by
  cases hr with
  | nil =>
    refine ⟨_, 0, rfl, Nat.le_refl _, by simp [maxLen], fun mm h3 h4 => ?_⟩
    simp at h2
    have e1 : mm = 0 := by omega
    have e2 : l = 0 := by omega
    subst e1; subst e2; subst h2
    exact .nil
  | @sl b o n cap sz' _ hn hcap hmax hsz' hs hc =>
    refine ⟨_, cap, by rw [hn], by omega, hmax, fun mm h3 h4 => ?_⟩
    by_cases he : mm = l
    · have e1 : hh = l := by omega
      subst he
      subst e1
      rw [if_pos rfl]
      have : (xs.take hh).drop hh = [] := by rw [List.drop_eq_nil_iff]; simp; omega
      rw [this]
      refine .sl (sz := sz) (by simp) (by omega) (by unfold maxLen; omega) (by simp) (fun i j x d hx => by simp at hx) (fun i j x d c hx => by simp at hx)
    · rw [if_neg he]
      simp only [Option.map_some, add_none']
      have hget : ∀ (i : Nat) (x : DV), ((xs.take hh).drop l)[i]? = some x → xs[l + i]? = some x := fun i x hx => by
        rw [List.getElem?_drop, List.getElem?_take] at hx
        split at hx
        · exact hx
        · cases hx
      have hes : ∀ (i : Nat) (x : DV), xs[i]? = some x → sz' = sz := fun i x hx => (hsz' x (List.mem_of_getElem? hx)).symm.trans (hsz x (List.mem_of_getElem? hx))
      refine .sl (sz := sz) (by simp; omega) (by omega) (by omega) (fun x hx => hsz x (List.mem_of_mem_take (List.mem_of_mem_drop hx))) (fun i j x d hx hd => ?_) (fun i j x d c hx hd hcm => ?_)
      · have hx' := hget i x hx
        have := hes _ _ hx'
        subst this
        obtain ⟨c, h5⟩ := hs _ _ _ _ hx' hd
        exact ⟨c, by rw [← h5]; congr 1; rw [Nat.add_mul]; omega⟩
      · have hx' := hget i x hx
        have := hes _ _ hx'
        subst this
        refine hc _ _ _ _ _ hx' hd (by rw [← hcm]; congr 1; rw [Nat.add_mul]; omega)
theorem run_sliceBound' (kk : IntKind) (i : Int) (y : Nat) (code : BoundsCode) (h0 : 0 ≤ i) (h1 : i ≤ y) (w : World) : (Instr.sliceBound (.int kk i) y code).run P w = .ok i.toNat w := by
  rw [run_sliceBound_if, if_pos ⟨h0, h1⟩]
theorem bounds_ok {len cap : Nat} {lo hi mx : Option Value} {alo ahi amx : Option AV} (hlo : ∀ v, lo = some v → ∃ a kk, alo = some a ∧ v = .int kk (intOf' a)) (hlo' : lo = none → alo = none)
    (hhi : ∀ v, hi = some v → ∃ a kk, ahi = some a ∧ v = .int kk (intOf' a)) (hhi' : hi = none → ahi = none)
    (hmx : ∀ v, mx = some v → ∃ a kk, amx = some a ∧ v = .int kk (intOf' a)) (hmx' : mx = none → amx = none) (he : ∀ a, amx = some a → ∃ b, ahi = some b ∧ intOf' a = intOf' b)
    (h0 : 0 ≤ (alo.map intOf').getD 0) (h1 : (alo.map intOf').getD 0 ≤ (ahi.map intOf').getD len) (h2 : (ahi.map intOf').getD len ≤ len) (h3 : len ≤ cap) (sl : Bool) :
    (Instr.sliceBounds sl len cap lo hi mx).run P w = .ok (((alo.map intOf').getD 0).toNat, ((ahi.map intOf').getD len).toNat, if amx.isSome then ((ahi.map intOf').getD len).toNat else cap) w := by
  cases mx with
  | none =>
    have := hmx' rfl; subst this
    cases hi with
    | none =>
      have := hhi' rfl; subst this
      cases lo with
      | none => have := hlo' rfl; subst this; simp [Instr.sliceBounds]
      | some v =>
        obtain ⟨a, kk, rfl, rfl⟩ := hlo v rfl
        simp only [Option.map_some, Option.getD_some, Option.map_none, Option.getD_none] at h0 h1
        simp [Instr.sliceBounds, run_sliceBound' kk _ len _ h0 h1]
    | some u =>
      obtain ⟨b, kk, rfl, rfl⟩ := hhi u rfl
      simp only [Option.map_some, Option.getD_some] at h1 h2
      have hb := run_sliceBound' (P := P) kk (intOf' b) cap (if sl then .sliceAcap else .sliceAlen) (by omega) (by omega) w
      cases lo with
      | none => have := hlo' rfl; subst this; simp [Instr.sliceBounds, hb]
      | some v =>
        obtain ⟨a, kk', rfl, rfl⟩ := hlo v rfl
        simp only [Option.map_some, Option.getD_some] at h0 h1
        simp [Instr.sliceBounds, hb, run_sliceBound' kk' (intOf' a) (intOf' b).toNat .sliceB h0 (by omega)]
  | some x =>
    obtain ⟨c, kk'', rfl, rfl⟩ := hmx x rfl
    obtain ⟨b, rfl, hcb⟩ := he c rfl
    cases hi with
    | none => have := hhi' rfl; cases this
    | some u =>
      obtain ⟨b', kk, hb', rfl⟩ := hhi u rfl
      cases hb'
      simp only [Option.map_some, Option.getD_some] at h1 h2
      have hb := run_sliceBound' (P := P) kk'' (intOf' c) cap (if sl then .slice3Acap else .slice3Alen) (by omega) (by omega) w
      have hb2 := run_sliceBound' (P := P) kk (intOf' b) (intOf' b).toNat .slice3B (by omega) (by omega) w
      rw [hcb] at hb
      cases lo with
      | none => have := hlo' rfl; subst this; simp [Instr.sliceBounds, hcb, hb, hb2]
      | some v =>
        obtain ⟨a, kk', rfl, rfl⟩ := hlo v rfl
        simp only [Option.map_some, Option.getD_some] at h0 h1
        simp [Instr.sliceBounds, hcb, hb, hb2, run_sliceBound' kk' (intOf' a) (intOf' b).toNat .slice3C h0 (by omega)]
theorem slice_ok {t : TypeId} {v : Value} {a : AV} {lo hi mx : Option Value} {alo ahi amx : Option AV} (H : HRel P w0 h k m β w) (hbn : β nm = none) (hk : nm.1 < k) (hv : R m β v a)
    (hlo : ∀ v, lo = some v → ∃ a, alo = some a ∧ R m β v a) (hlo' : lo = none → alo = none) (hhi : ∀ v, hi = some v → ∃ a, ahi = some a ∧ R m β v a) (hhi' : hi = none → ahi = none)
    (hmx : ∀ v, mx = some v → ∃ a, amx = some a ∧ R m β v a) (hmx' : mx = none → amx = none) (hok : okSlice P t a alo ahi amx) (he : hasT P (elT P t) = true) :
    VRes P w0 h k m β w nm (effSlice nm a alo ahi amx P t) (Instr.sliceAt t v lo hi mx) := by
  obtain ⟨i1, i2, i3, h0, hok⟩ := hok
  have ilo : ∀ v, lo = some v → ∃ a kk, alo = some a ∧ v = .int kk (intOf' a) := fun v hv => by
    obtain ⟨a, ha, hr⟩ := hlo v hv; obtain ⟨kk, hk⟩ := hr.int (i1 a ha); exact ⟨a, kk, ha, hk⟩
  have ihi : ∀ v, hi = some v → ∃ a kk, ahi = some a ∧ v = .int kk (intOf' a) := fun v hv => by
    obtain ⟨a, ha, hr⟩ := hhi v hv; obtain ⟨kk, hk⟩ := hr.int (i2 a ha); exact ⟨a, kk, ha, hk⟩
  have imx : ∀ v, mx = some v → ∃ a kk, amx = some a ∧ v = .int kk (intOf' a) := fun v hv => by
    obtain ⟨a, ha, hr⟩ := hmx v hv; obtain ⟨kk, hk⟩ := hr.int (i3 a ha).1; exact ⟨a, kk, ha, hk⟩
  have hsl : ∀ (a0 : Option Addr) (n cap : Nat), slT P t = true → v = .slice a0 n cap → (alo.map intOf').getD 0 ≤ (ahi.map intOf').getD n → (ahi.map intOf').getD n ≤ n → n ≤ cap →
      (Instr.sliceAt t v lo hi mx).run P w = .ok (.slice (if (if amx.isSome then ((ahi.map intOf').getD n).toNat else cap) = ((alo.map intOf').getD 0).toNat then a0 else a0.map (·.add (((alo.map intOf').getD 0).toNat * szT P (elT P t))))
        (((ahi.map intOf').getD n).toNat - ((alo.map intOf').getD 0).toNat) ((if amx.isSome then ((ahi.map intOf').getD n).toNat else cap) - ((alo.map intOf').getD 0).toNat)) w := by
    intro a0 n cap hs hv h1 h2 h3
    subst hv
    have hb := bounds_ok (P := P) (w := w) ilo hlo' ihi hhi' imx hmx' (fun a ha => (i3 a ha).2) h0 h1 h2 h3 true
    simp only [Instr.sliceAt, Instr.slice, Sem.run_bind, run_underlying (slT_of hs), Result.andThen_ok, hb, run_sizeOf' (hasT_info he), Sem.run_pure]
  have hlist : ∀ xs, slT P t = true → RD m v (.sl xs) → (alo.map intOf').getD 0 ≤ (ahi.map intOf').getD xs.length → (ahi.map intOf').getD xs.length ≤ xs.length → (∀ y ∈ xs, y.cells.length = szT P (elT P t)) →
      VRes P w0 h k m β w nm (pure' (.d (.sl ((xs.take ((ahi.map intOf').getD xs.length).toNat).drop ((alo.map intOf').getD 0).toNat))))
        (Instr.sliceAt t v lo hi mx) := by
    intro xs hs hr h1 h2 hsz
    obtain ⟨a0, cap, hv', hc1, hc2, hp⟩ := hr.piece (l := ((alo.map intOf').getD 0).toNat) (hh := ((ahi.map intOf').getD xs.length).toNat) hsz (by omega) (by omega)
    have hrun := hsl a0 xs.length cap hs hv' h1 h2 hc1
    cases amx with
    | none => exact VRes.same H hrun rfl (.d (hp cap (by omega) (Nat.le_refl _)))
    | some mm =>
      simp only [Option.isSome_some, if_true] at hrun
      have hq := hp _ (Nat.le_refl _) (by omega)
      exact VRes.same H hrun rfl (.d hq)
  cases hv with
  | d hd =>
    cases hd with
    | nil => obtain ⟨h1, _, h3, h4, h5⟩ := hok; exact hlist [] h1 .nil h3 h4 h5
    | sl hn hcap hmax hsz hs hc => obtain ⟨h1, _, h3, h4, h5⟩ := hok; exact hlist _ h1 (.sl hn hcap hmax hsz hs hc) h3 h4 h5
    | st => obtain ⟨_, h2, _⟩ := hok; simp [isList] at h2
    | @v x hx =>
      cases v with
      | string s =>
        obtain ⟨h1, rfl, h3, h4⟩ := hok
        have emx : mx = none := by
          cases mx with
          | none => rfl
          | some x => obtain ⟨a, ha, _⟩ := hmx x rfl; cases ha
        subst emx
        have hb := bounds_ok (P := P) (w := w) ilo hlo' ihi hhi' imx hmx' (fun a ha => (i3 a ha).2) h0 h3 h4 (Nat.le_refl s.size) false
        refine VRes.same (v := .string (s.extract ((alo.map intOf').getD 0).toNat ((ahi.map intOf').getD s.size).toNat)) H ?_ rfl (.d (.v rfl))
        simp only [Instr.sliceAt, Instr.slice, Sem.run_bind, run_underlying (strT_of h1), Result.andThen_ok, hb, Sem.run_pure, Option.isSome_none, Bool.false_eq_true, if_false]
      | _ => obtain ⟨_, h2, _⟩ := hok; simp [isList] at h2
  | nil => obtain ⟨h1, _, h3, h4, h5⟩ := hok; exact hlist [] h1 .nil h3 h4 h5
  | own hr hb hv hl ha => obtain ⟨h1, _, h3, h4, h5⟩ := hok; exact hlist _ h1 hr h3 h4 h5
  | @arr n off len cap o p hb hver hc hm ho =>
    obtain ⟨h1, rfl, h3, h4⟩ := hok
    have hrun := hsl _ len cap h1 rfl h3 h4 hc
    simp only [Option.isSome_none, Bool.false_eq_true, if_false] at hrun
    by_cases he' : cap = ((alo.map intOf').getD 0).toNat
    · rw [if_pos he'] at hrun
      refine VRes.same H hrun rfl (.arr hb hver (by omega) (by omega) (.inl (by omega)))
    · rw [if_neg he'] at hrun
      simp only [Option.map_some, add_none'] at hrun
      refine VRes.same H hrun rfl (.arr hb hver (by omega) (by omega) ?_)
      rcases ho with ho | ho
      · left; omega
      · right; rw [ho]
  | _ => obtain ⟨_, h2, _⟩ := hok; simp [isList] at h2
/-! ### appends -/
structure NW (m : Mem) (sz : Nat) (news : List Value) (ys : List DV) : Prop where
  len : news.length = ys.length * sz
  one : ∀ c ∈ news, c.oneCell' = true
  get : ∀ (i j : Nat) (x d : DV), ys[i]? = some x → x.cells[j]? = some d → j < sz ∧ ∃ c, news[i * sz + j]? = some c ∧ RD m c d
theorem idx_lt {i j n sz : Nat} (hi : i < n) (hj : j < sz) : i * sz + j < n * sz := by
  have : (i + 1) * sz ≤ n * sz := Nat.mul_le_mul_right _ hi
  rw [Nat.add_mul] at this; omega
theorem loaded {v : Value} {xs : List DV} {sz : Nat} (hr : RD m v (.sl xs)) (hsz : ∀ x ∈ xs, x.cells.length = sz) (hone : ∀ b o v, m b o = some v → v.oneCell' = true) :
    ∃ a cap news, v = .slice a xs.length cap ∧ xs.length ≤ cap ∧ cap ≤ maxLen ∧ NW m sz news xs ∧ (∀ w : World, (∀ b o v, m b o = some v → w.cell? ⟨b, o, none⟩ = some v) → (Builtin.firstCells sz xs.length v).run P w = .ok news.toArray w) ∧ (a = none → cap = 0) := by
  cases hr with
  | @nil a => exact ⟨a, 0, [], rfl, Nat.le_refl _, by simp [maxLen], ⟨by simp, by simp, fun i j x d hx => by simp at hx⟩, fun _ _ => by cases a <;> simp [Builtin.firstCells, loadCells, loadCellsFrom], fun _ => rfl⟩
  | @sl b o n cap sz' _ hn hcap hmax hsz' hs hc =>
    have hcell : ∀ q, q < xs.length * sz → ∃ c x d, m b (o + q) = some c ∧ xs[q / sz]? = some x ∧ x.cells[q % sz]? = some d ∧ RD m c d := fun q hq => by
      have hpos : 0 < sz := by
        rcases Nat.eq_zero_or_pos sz with e | e
        · rw [e] at hq; omega
        · exact e
      have hd : q / sz < xs.length := Nat.div_lt_of_lt_mul (by rw [Nat.mul_comm]; omega)
      have hx := List.getElem?_eq_getElem hd
      have hl := hsz _ (List.getElem_mem hd)
      have he : sz' = sz := (hsz' _ (List.getElem_mem hd)).symm.trans hl
      subst he
      have hj : q % sz' < xs[q / sz'].cells.length := by rw [hl]; exact Nat.mod_lt _ hpos
      have hdd := List.getElem?_eq_getElem hj
      obtain ⟨c, h1⟩ := hs _ _ _ _ hx hdd
      have h2 := hc _ _ _ _ _ hx hdd h1
      rw [Nat.add_assoc, Nat.div_add_mod'] at h1
      exact ⟨c, _, _, h1, hx, hdd, h2⟩
    have hf : ∀ w : World, (∀ b o v, m b o = some v → w.cell? ⟨b, o, none⟩ = some v) → ∀ q, q < xs.length * sz → w.cell? ((⟨b, o, none⟩ : Addr).add q) = some ((m b (o + q)).getD undef) := fun w hmem q hq => by
      obtain ⟨c, _, _, h1, _⟩ := hcell q hq
      rw [add_none', h1]; exact hmem _ _ _ h1
    refine ⟨some ⟨b, o, none⟩, cap, (List.range (xs.length * sz)).map fun q => (m b (o + q)).getD undef, by rw [hn], by omega, hmax, ⟨by simp, fun c hc => ?_, fun i j x d hx hd => ?_⟩, ?_, fun h => by cases h⟩
    · obtain ⟨q, hq, rfl⟩ := List.mem_map.1 hc
      obtain ⟨c, _, _, h1, _⟩ := hcell q (List.mem_range.1 hq)
      rw [h1]; exact hone _ _ _ h1
    · have hj : j < sz := by have := (List.getElem?_eq_some_iff.1 hd).1; have := hsz x (List.mem_of_getElem? hx); omega
      have hi : i < xs.length := (List.getElem?_eq_some_iff.1 hx).1
      refine ⟨hj, ?_⟩
      have hq := idx_lt hi hj
      obtain ⟨c, x', d', h1, h2, h3, h4⟩ := hcell _ hq
      rw [show (i * sz + j) / sz = i by rw [Nat.mul_comm, Nat.mul_add_div (by omega)]; simp [Nat.div_eq_of_lt hj]] at h2
      rw [show (i * sz + j) % sz = j by rw [Nat.mul_comm, Nat.mul_add_mod]; exact Nat.mod_eq_of_lt hj] at h3
      rw [hx] at h2; cases h2
      rw [hd] at h3; cases h3
      refine ⟨c, ?_, h4⟩
      rw [List.getElem?_map, List.getElem?_range hq]
      simp [h1]
    · intro w hmem
      show (loadCells ⟨b, o, none⟩ (xs.length * sz)).run P w = _
      rw [run_loadCells w _ _ _ (hf w hmem)]
end
end Go.Proofs.Ytmeekpinkfpnhab
namespace Go.Proofs.Ytmeekpinkfpnhab
open Go.RowKit
section
variable {P : Program} {w0 w : World} {h : Heap} {k : Nat} {m : Mem} {β : Bl} {nm : Nm}
theorem RD.append {b cap sz : Nat} {xs ys : List DV} (hcap : (xs ++ ys).length ≤ cap) (hmax : cap ≤ maxLen) (h1 : ∀ x ∈ xs, x.cells.length = sz) (h2 : ∀ x ∈ ys, x.cells.length = sz)
    (hx : ∀ (i j : Nat) (x d : DV), xs[i]? = some x → x.cells[j]? = some d → ∃ c, m b (i * sz + j) = some c ∧ RD m c d)
    (hy : ∀ (i j : Nat) (x d : DV), ys[i]? = some x → x.cells[j]? = some d → ∃ c, m b ((xs.length + i) * sz + j) = some c ∧ RD m c d) : RD m (.slice (some ⟨b, 0, none⟩) (xs ++ ys).length cap) (.sl (xs ++ ys)) := by
  have key : ∀ (i j : Nat) (x d : DV), (xs ++ ys)[i]? = some x → x.cells[j]? = some d → ∃ c, m b (0 + i * sz + j) = some c ∧ RD m c d := fun i j x d he hd => by
    rw [Nat.zero_add]
    by_cases hi : i < xs.length
    · rw [List.getElem?_append_left hi] at he
      exact hx i j x d he hd
    · rw [List.getElem?_append_right (by omega)] at he
      have := hy (i - xs.length) j x d he hd
      rwa [show xs.length + (i - xs.length) = i by omega] at this
  refine .sl (sz := sz) rfl hcap hmax (fun x hx => ?_) (fun i j x d he hd => ?_) fun i j x d c he hd hc => ?_
  · rcases List.mem_append.1 hx with h | h
    · exact h1 x h
    · exact h2 x h
  · obtain ⟨c, h3, _⟩ := key i j x d he hd; exact ⟨c, h3⟩
  · obtain ⟨c', h3, h4⟩ := key i j x d he hd
    rw [hc] at h3; cases h3; exact h4
theorem source {v : Value} {x : AV} {sz : Nat} (H : HRel P w0 h k m β w) (hv : R m β v x)
    (hok : okSrc sz h x) :
    ∃ news, NW m sz news (newsOf h x) ∧ (∀ y ∈ newsOf h x, y.cells.length = sz) ∧ (∀ w, (Builtin.lenOf v).run P w = .ok (newsOf h x).length w) ∧
      (Builtin.firstCells sz (newsOf h x).length v).run P w = .ok news.toArray w ∧ (Builtin.firstCells sz (newsOf h x).length v).run P w.drew = .ok news.toArray w.drew := by
  have hlist : ∀ ys, newsOf h x = ys → RD m v (.sl ys) → (∀ y ∈ ys, y.cells.length = sz) → ∃ news, NW m sz news (newsOf h x) ∧ (∀ y ∈ newsOf h x, y.cells.length = sz) ∧ (∀ w, (Builtin.lenOf v).run P w = .ok (newsOf h x).length w) ∧
      (Builtin.firstCells sz (newsOf h x).length v).run P w = .ok news.toArray w ∧ (Builtin.firstCells sz (newsOf h x).length v).run P w.drew = .ok news.toArray w.drew := by
    intro ys e hr hsz
    rw [e]
    obtain ⟨a, cap, news, rfl, _, _, hN, h1, _⟩ := loaded (P := P) hr hsz (fun b o v hm => (H.mem b o v hm).2)
    exact ⟨news, hN, hsz, fun w => by simp [Builtin.lenOf], h1 w (fun b o v hm => (H.mem b o v hm).1), h1 w.drew (fun b o v hm => (H.mem b o v hm).1)⟩
  cases hv with
  | d hd =>
    obtain ⟨h1, h2⟩ := hok
    cases hd with
    | nil => exact hlist [] rfl .nil h2
    | sl hn hcap hmax hsz hs hc => exact hlist _ rfl (.sl hn hcap hmax hsz hs hc) h2
    | _ => simp [isList] at h1
  | nil => exact hlist [] rfl .nil hok.2
  | own hr hb hv hl ha => exact hlist _ rfl hr hok.2
  | @arr n off len cap o p hb hver hc hm ho =>
    obtain ⟨his, rfl, hl, hd⟩ := hok
    obtain ⟨e, cs, hn, hcs, _⟩ := cells_of his
    rw [hcs] at hl hd
    have hne : newsOf h (.arr n off len) = ((cs.drop off).take len).map AV.toD := by simp [newsOf, hcs]
    have hlen : (newsOf h (.arr n off len)).length = len := by rw [hne]; simp; omega
    obtain ⟨q, hq, _, c, c1, c2, c3, c4⟩ := H.obj n _ hn
    rw [hb] at hq; cases hq
    have hcell : ∀ j, j < len → ∃ u, c[off + j]? = some u ∧ w.cell? ⟨p.1, off + j, none⟩ = some u ∧ u.oneCell' = true ∧ RD m u (cs.getD (off + j) .junk).toD := fun j hj => by
      have hj' : off + j < c.size := by omega
      have h1 : c[off + j]? = some c[off + j] := Array.getElem?_eq_getElem hj'
      have h2 : cs[off + j]? = some (cs[off + j]'(by omega)) := List.getElem?_eq_getElem (by omega)
      obtain ⟨h3, h4⟩ := c3 (off + j) _ _ h1 h2
      refine ⟨_, h1, by simp [World.cell?, c1], h3, ?_⟩
      rw [List.getD_eq_getElem?_getD, h2]
      have hm : cs[off + j]'(by omega) ∈ (cs.drop off).take len := List.mem_of_getElem? (i := j) (by rw [List.getElem?_take, if_pos hj, List.getElem?_drop]; exact h2)
      exact h4.toD (toD_of (hd _ hm).1)
    have hone : ∀ y ∈ newsOf h (.arr n off len), y.cells.length = 1 := fun y hy => by
      rw [hne] at hy
      obtain ⟨a, ha, rfl⟩ := List.mem_map.1 hy
      exact (hd a ha).2
    refine ⟨(List.range len).map fun j => (c[off + j]?).getD undef, ⟨by rw [hlen]; simp, fun u hu => ?_, fun i j x d hx hd' => ?_⟩, hone, fun w => by rw [hlen]; simp [Builtin.lenOf], ?_, ?_⟩
    · obtain ⟨j, hj, rfl⟩ := List.mem_map.1 hu
      obtain ⟨u, h1, _, h2, _⟩ := hcell j (List.mem_range.1 hj)
      rw [h1]; exact h2
    · have hi : i < len := by have := (List.getElem?_eq_some_iff.1 hx).1; omega
      have hl1 := hone x (List.mem_of_getElem? hx)
      have hj : j < x.cells.length := (List.getElem?_eq_some_iff.1 hd').1
      have hj0 : j = 0 := by omega
      subst hj0
      refine ⟨by omega, ?_⟩
      obtain ⟨u, h1, _, _, h2⟩ := hcell i hi
      refine ⟨u, by rw [List.getElem?_map, List.getElem?_range (by omega)]; simp [h1], ?_⟩
      rw [hne, List.getElem?_map, List.getElem?_take, if_pos hi, List.getElem?_drop] at hx
      have h2' : cs[off + i]? = some (cs[off + i]'(by omega)) := List.getElem?_eq_getElem (by omega)
      rw [h2'] at hx
      simp only [Option.map_some, Option.some.injEq] at hx
      rw [List.getD_eq_getElem?_getD, h2'] at h2
      simp only [Option.getD_some, hx] at h2
      have hcl := h2.cells
      cases h2 with
      | v hv1 => simp only [DV.cells, List.getElem?_cons_zero, Option.some.injEq] at hd'; subst hd'; exact .v hv1
      | nil => simp only [DV.cells, List.getElem?_cons_zero, Option.some.injEq] at hd'; subst hd'; exact .nil
      | sl a1 a2 a3 a4 a5 a6 => simp only [DV.cells, List.getElem?_cons_zero, Option.some.injEq] at hd'; subst hd'; exact .sl a1 a2 a3 a4 a5 a6
      | st => obtain ⟨u', h1', _, h3', _⟩ := hcell i hi; rw [h1] at h1'; cases h1'; simp [Value.oneCell'] at h3'
    all_goals
      rw [hlen]
      rcases ho with ho | ho
      · subst ho
        simp [Builtin.firstCells, loadCells, loadCellsFrom]
      · subst ho
        show (loadCells _ (len * 1)).run P _ = _
        rw [run_loadCells _ _ (len * 1) (fun j => (c[o + j]?).getD undef) (fun j hj => ?_)]
        · simp
        · obtain ⟨u, h1, h2, _⟩ := hcell j (by omega)
          rw [add_none', h1]
          exact h2
  | _ => obtain ⟨h1, _⟩ := hok; simp [isList] at h1
end
end Go.Proofs.Ytmeekpinkfpnhab
namespace Go.Proofs.Ytmeekpinkfpnhab
open Go.RowKit
theorem idx_div {i j i' j' sz : Nat} (hj : j < sz) (hj' : j' < sz) (h : i * sz + j = i' * sz + j') : i = i' ∧ j = j' := by
  have h1 : (i * sz + j) / sz = i := by rw [Nat.mul_comm, Nat.mul_add_div (by omega)]; simp [Nat.div_eq_of_lt hj]
  have h2 : (i' * sz + j') / sz = i' := by rw [Nat.mul_comm, Nat.mul_add_div (by omega)]; simp [Nat.div_eq_of_lt hj']
  rw [h] at h1
  have : i = i' := h1.symm.trans h2
  subst this
  exact ⟨rfl, by omega⟩
section
variable {P : Program} {w0 w : World} {h : Heap} {k : Nat} {m : Mem} {β : Bl} {nm : Nm}
theorem NW.mono {sz : Nat} {news : List Value} {ys : List DV} {m' : Mem} (hN : NW m sz news ys) (hm : m.le m') : NW m' sz news ys :=
  ⟨hN.len, hN.one, fun i j x d hx hd => let ⟨h1, c, h2, h3⟩ := hN.get i j x d hx hd; ⟨h1, c, h2, h3.mono hm⟩⟩
theorem run_app_room {t : TypeId} {base : Option Addr} {sLen sCap n : Nat} {vx : Value} {news : List Value} (hs : slT P t = true) (hI : (P.info? (elT P t)).isSome = true) (hx : (Builtin.lenOf vx).run P w = .ok n w)
    (hn : (Builtin.firstCells (szT P (elT P t)) n vx).run P w = .ok news.toArray w) (hroom : sLen + n ≤ sCap) (ty : TypeId) (w' : World)
    (hst : ∀ a, base = some a → (storeCells (a.add (sLen * szT P (elT P t))) news).run P w = .ok () w') (hst' : base = none → w' = w) : (Builtin.append_ #[t, t] ty #[.slice base sLen sCap, vx]).run P w = .ok (.slice base (sLen + n) sCap) w' := by
  cases base with
  | none =>
    have := hst' rfl; subst this
    simp [Builtin.append_, run_underlying (slT_of hs), run_sizeOf' hI, hx, hroom, hn]
  | some a => simp [Builtin.append_, run_underlying (slT_of hs), run_sizeOf' hI, hx, hroom, hn, hst a rfl]
theorem run_app_new {t : TypeId} {base : Option Addr} {sLen sCap n : Nat} {vx : Value} {olds news : List Value} {i : TypeInfo} {z : Value} (hs : slT P t = true) (hi : P.info? (elT P t) = some i) (hz : i.zero = some z) (hx : (Builtin.lenOf vx).run P w = .ok n w)
    (hn : (Builtin.firstCells (szT P (elT P t)) n vx).run P w.drew = .ok news.toArray w.drew) (ho : (Builtin.firstCells (szT P (elT P t)) sLen (.slice base sLen sCap)).run P w.drew = .ok olds.toArray w.drew)
    (hroom : sCap < sLen + n) (hlim : sLen + n ≤ 16777216) (hby : bytesT P (elT P t) ≤ 1024) (ty : TypeId) :
    (Builtin.append_ #[t, t] ty #[.slice base sLen sCap, vx]).run P w = .ok (.slice (some ⟨w.heap.size, 0, none⟩) (sLen + n) (grownCap w (sLen + n) sCap (elT P t)))
      (w.drew.alloc (.cells (olds.toArray ++ (news.toArray ++ Builtin.zeroCells z.cells (grownCap w (sLen + n) sCap (elT P t) - (sLen + n)))) (elT P t))) := by
  have hI : (P.info? (elT P t)).isSome = true := by simp [hi]
  have hb : i.bytes ≤ 1024 := by simpa [bytesT, hi] using hby
  have h48 := growslice_fits (bytes := i.bytes) hroom (Nat.le_trans (Nat.mul_le_mul hlim hb) (by decide))
  have h48' : ¬ (281474976710656 < Builtin.nextslicecap (sLen + n) sCap * i.bytes) := by omega
  have hmax : ¬ (9223372036854775807 < ((sLen : Int) + (n : Int))) := by omega
  have hzr : (zeroValue (elT P t)).run P w.drew = .ok z w.drew := run_zero hi hz _
  simp [Builtin.append_, run_underlying (slT_of hs), run_sizeOf' hI, hx, Nat.not_le.2 hroom, hn, ho, typeInfo, hi, h48', hzr, IntKind.max, IntKind.bits, IntKind.signed, hmax, newRow, grownCap, Question.forced]
theorem flat_idx {sz : Nat} : ∀ {ys : List DV} (hys : ∀ y ∈ ys, y.cells.length = sz) {r : Nat} {d : DV}, (ys.flatMap DV.cells)[r]? = some d → ∃ q j y, ys[q]? = some y ∧ y.cells[j]? = some d ∧ r = q * sz + j
  | [], _, r, d, h => by simp at h
  | y :: ys, hys, r, d, h => by
    rw [List.flatMap_cons] at h
    have hy := hys y (by simp)
    by_cases hr : r < y.cells.length
    · rw [List.getElem?_append_left hr] at h
      exact ⟨0, r, y, rfl, h, by omega⟩
    · rw [List.getElem?_append_right (by omega)] at h
      obtain ⟨q, j, z, h1, h2, h3⟩ := flat_idx (fun z hz => hys z (by simp [hz])) h
      refine ⟨q + 1, j, z, by simpa using h1, h2, ?_⟩
      rw [Nat.add_mul]; omega
theorem flat_len {sz : Nat} : ∀ {ys : List DV} (_ : ∀ y ∈ ys, y.cells.length = sz), (flatD ys).length = ys.length * sz
  | [], _ => by simp [flatD]
  | y :: ys, hys => by
    have h1 := flat_len (ys := ys) fun z hz => hys z (by simp [hz])
    have h2 := hys y (by simp)
    simp only [flatD, List.length_map, List.flatMap_cons, List.length_append, List.length_cons] at h1 ⊢
    rw [h1, h2, Nat.add_mul]; omega
theorem append_gro {t : TypeId} {vs vx : Value} {n : Nm} {len : Nat} {cs : List AV} {i : TypeInfo} {z : Value} {news : List Value} {ys : List DV} (H : HRel P w0 h k m β w) (hvs : R m β vs (.gro n len)) (hs : slT P t = true) (hi : P.info? (elT P t) = some i) (hz0 : i.zero = some z) (hzs : z.cells.size = szT P (elT P t)) (hsz0 : 0 < szT P (elT P t)) (hby : bytesT P (elT P t) ≤ 1024)
    (hN : NW m (szT P (elT P t)) news ys) (hys : ∀ y ∈ ys, y.cells.length = szT P (elT P t)) (hlen : ∀ w, (Builtin.lenOf vx).run P w = .ok ys.length w) (hn1 : (Builtin.firstCells (szT P (elT P t)) ys.length vx).run P w = .ok news.toArray w) (hn2 : (Builtin.firstCells (szT P (elT P t)) ys.length vx).run P w.drew = .ok news.toArray w.drew)
    (hn : h n = some (.gro (elT P t) len cs)) (hcs : cs.length = len * szT P (elT P t)) (hlim : len + ys.length ≤ 16777216) (ty : TypeId) :
    ∃ v w' m' β', (Builtin.append_ #[t, t] ty #[vs, vx]).run P w = .ok v w' ∧ m.le m' ∧ β.le β' ∧ (∀ x, β x = none → β' x = none) ∧ HRel P w0 (upd h n (some (.gro (elT P t) (len + ys.length) (cs ++ flatD ys)))) k m' β' w' ∧ R m' β' v (.gro n (len + ys.length)) := by
  have hI : (P.info? (elT P t)).isSome = true := by simp [hi]
  cases hvs with
  | @gro _ _ _ p v hx hb hv hvl ha =>
  obtain ⟨q, hq, hver, hob⟩ := H.obj n _ hn
  rw [hb] at hq; cases hq
  rw [hv] at hver; cases hver
  obtain ⟨base, hxv, hab⟩ := ha rfl
  clear ha hx
  subst hxv
  have hkn : n.1 < k := H.dom n p hb
  have grow : ys ≠ [] → ∀ b c q, β n = some q → q.le ⟨b, c, some (len + ys.length)⟩ := fun hy b c q hq => by
    rw [hb] at hq; cases hq
    have := List.length_pos_iff.2 hy
    exact .inr ⟨_, _, hv, rfl, by omega⟩
  have hflat : ∀ (r : Nat) (a : AV), (flatD ys)[r]? = some a → ∃ u, news[r]? = some u ∧ u.oneCell' = true ∧ R m β u a := fun r a hr => by
    unfold flatD at hr
    rw [List.getElem?_map, Option.map_eq_some_iff] at hr
    obtain ⟨d, hd, rfl⟩ := hr
    obtain ⟨q, j, y, h1, h2, h3⟩ := flat_idx hys hd
    obtain ⟨_, c, h4, h5⟩ := hN.get q j y d h1 h2
    subst h3
    exact ⟨c, h4, hN.one c (List.mem_of_getElem? h4), .d h5⟩
  have hfl := flat_len hys
  -- what is there
  obtain ⟨olds, ho1, ho2, ho3, hc0, hcm⟩ : ∃ olds : List Value, olds.length = len * szT P (elT P t) ∧ (Builtin.firstCells (szT P (elT P t)) len (.slice base len p.2)).run P w.drew = .ok olds.toArray w.drew ∧ (∀ (r : Nat) (a : AV), cs[r]? = some a → ∃ u, olds[r]? = some u ∧ u.oneCell' = true ∧ R m β u a) ∧ len ≤ p.2 ∧ p.2 ≤ maxLen := by
    rcases hob with ⟨h1, h2, h3⟩ | ⟨C, g1, g2, g3, g4, g5, g6, g7⟩
    · subst h1; subst h3
      refine ⟨[], by simp, ?_, fun r a hr => by simp at hr, by omega, by rw [h2]; simp [maxLen]⟩
      cases base <;> simp [Builtin.firstCells, loadCells, loadCellsFrom]
    · have hm : len * szT P (elT P t) ≤ C.size := by rw [g2]; exact Nat.mul_le_mul_right _ g3
      refine ⟨(List.range (len * szT P (elT P t))).map fun j => (C[j]?).getD undef, by simp, ?_, fun r a hr => ?_, g3, g4⟩
      · rcases hab with ⟨e1, e2⟩ | e1
        · subst e1; cases base <;> simp [Builtin.firstCells, loadCells, loadCellsFrom]
        · subst e1
          show (loadCells _ (len * szT P (elT P t))).run P _ = _
          have hcell : ∀ j, j < len * szT P (elT P t) → w.drew.cell? ((⟨p.1, 0, none⟩ : Addr).add j) = some ((C[j]?).getD undef) := fun j hj => by
            have hj' : j < C.size := by omega
            rw [add_none', Array.getElem?_eq_getElem hj', Nat.zero_add]
            have g1' : w.drew.heap[p.1]? = _ := g1
            simp [World.cell?, g1', hj']
          rw [run_loadCells _ _ (len * szT P (elT P t)) (fun j => (C[j]?).getD undef) hcell]
          first | done | simp
      · have hr' := (List.getElem?_eq_some_iff.1 hr).1
        have hj' : r < C.size := by omega
        obtain ⟨u1, u2⟩ := g6 r _ a (Array.getElem?_eq_getElem hj') hr
        exact ⟨C[r], by rw [List.getElem?_map, List.getElem?_range (by omega)]; simp [hj'], u1, u2⟩
  have hboth : ∀ (L : List Value), (∀ r, r < len * szT P (elT P t) → L[r]? = olds[r]?) → (∀ r, r < ys.length * szT P (elT P t) → L[len * szT P (elT P t) + r]? = news[r]?) → ∀ (r : Nat) (u : Value) (a : AV), L[r]? = some u → (cs ++ flatD ys)[r]? = some a → u.oneCell' = true ∧ R m β u a := by
    intro L h1 h2 r u a hu ha
    by_cases hr : r < len * szT P (elT P t)
    · rw [List.getElem?_append_left (by omega)] at ha
      obtain ⟨u', e1, e2, e3⟩ := ho3 r a ha
      rw [h1 r hr, e1] at hu; cases hu
      exact ⟨e2, e3⟩
    · rw [List.getElem?_append_right (by omega), hcs] at ha
      obtain ⟨u', e1, e2, e3⟩ := hflat _ a ha
      have hlt := (List.getElem?_eq_some_iff.1 ha).1
      have := h2 (r - len * szT P (elT P t)) (by omega)
      rw [show len * szT P (elT P t) + (r - len * szT P (elT P t)) = r by omega, hu, e1] at this
      cases this
      exact ⟨e2, e3⟩
  have hcl : (cs ++ flatD ys).length = (len + ys.length) * szT P (elT P t) := by rw [List.length_append, hcs, hfl, Nat.add_mul]
  by_cases hroom : p.2 < len + ys.length
  · have hy : ys ≠ [] := fun e => by subst e; simp at hroom; omega
    have hrun := run_app_new hs hi hz0 (hlen w) hn2 ho2 hroom hlim hby ty
    have hge := grownCap_ge w (len + ys.length) p.2 (elT P t)
    have hle := grownCap_le_maxLen w (len + ys.length) p.2 (elT P t) (by unfold maxLen; omega)
    generalize grownCap w (len + ys.length) p.2 (elT P t) = nc at hrun hge hle
    generalize hC : olds.toArray ++ (news.toArray ++ Builtin.zeroCells z.cells (nc - (len + ys.length))) = C at hrun
    have hlC : C.size = nc * szT P (elT P t) := by
      rw [← hC]
      simp only [Array.size_append, List.size_toArray, size_zeroCells, hzs, ho1, hN.len]
      rw [← Nat.add_mul, ← Nat.add_mul]
      congr 1; omega
    have hCx : ∀ r, r < len * szT P (elT P t) → C.toList[r]? = olds[r]? := fun q hq => by
      rw [Array.getElem?_toList, ← hC, Array.getElem?_append_left (by simp [ho1]; exact hq), List.getElem?_toArray]
    have hCy : ∀ r, r < ys.length * szT P (elT P t) → C.toList[len * szT P (elT P t) + r]? = news[r]? := fun q hq => by
      rw [Array.getElem?_toList, ← hC, Array.getElem?_append_right (by simp [ho1]), Array.getElem?_append_left (by simp [ho1, hN.len]; exact hq)]
      simp [ho1]
    have hf := fun o => H.fresh (Nat.le_refl w.heap.size) o
    refine ⟨_, _, m, updB β n ⟨w.heap.size, nc, some (len + ys.length)⟩, hrun, .rfl' m, updB_le (grow hy _ _), fun x h0 => updB_none (fun e => by subst e; rw [hb] at h0; cases h0) h0, ?_, ?_⟩
    · refine H.upd1 (grow hy _ _) hkn (Below.alloc (Below.drew H.ext) (by simpa using H.size) _) (.rfl' m) (fun b o v hv => ?_) ?_ (fun _ => H.size) ?_
      · obtain ⟨h1, h2⟩ := H.mem b o v hv
        exact ⟨(World.cell?_alloc_lt w.drew _ ⟨b, o, none⟩ (H.mem_lt hv)).trans h1, h2⟩
      · refine ⟨rfl, .inr ⟨C, heap_alloc_new w.drew _, hlC, by show len + ys.length ≤ nc; omega, hle, hcl, fun r u a hu ha => ?_, fun o => hf o⟩⟩
        obtain ⟨e1, e2⟩ := hboth C.toList hCx hCy r u a (by rw [Array.getElem?_toList]; exact hu) ha
        exact ⟨e1, e2.mono (.rfl' m) (updB_le (grow hy _ _))⟩
      · intro x' p' ob' _ hx hp hr
        have := H.lt hx hp hr
        exact ⟨fun _ => Nat.ne_of_lt this, heap_alloc_old w.drew _ this, fun o => rfl⟩
    · exact .gro (p := ⟨w.heap.size, nc, some (len + ys.length)⟩) ⟨_, _, rfl⟩ (updB_self _ _ _) rfl (Nat.le_refl _) fun _ => ⟨some ⟨w.heap.size, 0, none⟩, rfl, .inr rfl⟩
  · by_cases hy : ys = []
    · subst hy
      have hnn : news = [] := List.eq_nil_of_length_eq_zero (by rw [hN.len]; simp)
      subst hnn
      have hrun := run_app_room (base := base) (sLen := len) (sCap := p.2) hs hI (hlen w) hn1 (by simpa using hc0) ty w (fun a _ => rfl) (fun _ => rfl)
      refine ⟨_, w, m, β, hrun, .rfl' m, .rfl' β, fun _ h => h, ?_, .gro ⟨_, _, rfl⟩ hb hv (Nat.le_refl _) fun _ => ⟨base, rfl, hab⟩⟩
      have e : upd h n (some (.gro (elT P t) (len + ([] : List DV).length) (cs ++ flatD []))) = h := by
        have e2 : cs ++ flatD [] = cs := by simp [flatD]
        rw [e2]
        funext x; unfold upd; split
        · subst_vars; exact hn.symm
        · rfl
      rw [e]; exact H
    · have hpos := List.length_pos_iff.2 hy
      have he : ¬ (len = 0 ∧ p.2 = 0) := fun e => by omega
      rcases hob with hob | ⟨C, g1, g2, g3, g4, g5, g6, g7⟩
      · exact absurd ⟨hob.1, hob.2.1⟩ he
      have ha' : base = some ⟨p.1, 0, none⟩ := hab.resolve_left he
      subst ha'
      have hB : w0.heap.size ≤ p.1 := H.new n p _ hb hn he
      have hfit : (len + ys.length) * szT P (elT P t) ≤ C.size := by rw [g2]; exact Nat.mul_le_mul_right _ (by omega)
      have hst := run_storeCells_at P p.1 (len * szT P (elT P t)) (elT P t) news 0 C w g1 (by rw [hN.len]; rw [Nat.add_mul] at hfit; omega) hN.one
      generalize hC' : (C.toList.take (len * szT P (elT P t) + 0) ++ news ++ C.toList.drop (len * szT P (elT P t) + 0 + news.length)).toArray = C' at hst
      have hlC : len * szT P (elT P t) ≤ C.size := by rw [Nat.add_mul] at hfit; omega
      have hszC' : C'.size = C.size := by
        rw [← hC']
        simp [hN.len]
        rw [Nat.add_mul] at hfit
        omega
      have hlo : ∀ q, q < len * szT P (elT P t) → C'[q]? = C[q]? := fun q hq => by
        rw [← hC']
        simp only [Nat.add_zero, List.getElem?_toArray]
        rw [List.append_assoc, List.getElem?_append_left (by simp; omega), List.getElem?_take, if_pos hq, Array.getElem?_toList]
      have hmi : ∀ q, q < ys.length * szT P (elT P t) → C'[len * szT P (elT P t) + q]? = news[q]? := fun q hq => by
        rw [← hC']
        simp only [Nat.add_zero, List.getElem?_toArray]
        rw [List.append_assoc, List.getElem?_append_right (by simp; omega), List.getElem?_append_left (by simp [hN.len]; rw [Nat.min_eq_left hlC]; omega)]
        simp [Nat.min_eq_left hlC]
      have hrun := run_app_room (base := some ⟨p.1, 0, none⟩) (sLen := len) (sCap := p.2) hs hI (hlen w) hn1 (by omega) ty (w.setRow p.1 C') (fun a e => by cases e; rw [add_none', Nat.zero_add]; exact hst) (fun e => by cases e)
      refine ⟨_, _, m, updB β n ⟨p.1, p.2, some (len + ys.length)⟩, hrun, .rfl' m, updB_le (grow hy _ _), fun x h0 => updB_none (fun e => by subst e; rw [hb] at h0; cases h0) h0, ?_, .gro (p := ⟨p.1, p.2, some (len + ys.length)⟩) ⟨_, _, rfl⟩ (updB_self _ _ _) rfl (Nat.le_refl _) fun _ => ⟨some ⟨p.1, 0, none⟩, rfl, .inr rfl⟩⟩
      refine H.upd1 (grow hy _ _) hkn (H.ext.trans ⟨rfl, rfl, rfl, by simp [World.setRow], fun k hk => setRow_other w p.1 k C' (by omega)⟩) (.rfl' m) (fun b o v hv => ?_) ?_ (fun _ => hB) ?_
      · have hb' : b ≠ p.1 := fun e => by subst e; rw [g7] at hv; cases hv
        obtain ⟨h2, h3⟩ := H.mem b o v hv
        exact ⟨(cell_setRow_other w p.1 C' ⟨b, o, none⟩ hb').trans h2, h3⟩
      · refine ⟨rfl, .inr ⟨C', setRow_heap w p.1 C C' (elT P t) _ g1, hszC'.trans g2, by show len + ys.length ≤ p.2; omega, g4, hcl, fun r u a hu ha => ?_, g7⟩⟩
        by_cases hr : r < len * szT P (elT P t)
        · rw [List.getElem?_append_left (by omega)] at ha
          rw [hlo r hr] at hu
          obtain ⟨e1, e2⟩ := g6 r u a hu ha
          exact ⟨e1, e2.mono (.rfl' m) (updB_le (grow hy _ _))⟩
        · rw [List.getElem?_append_right (by omega), hcs] at ha
          obtain ⟨u', e1, e2, e3⟩ := hflat _ a ha
          have hlt := (List.getElem?_eq_some_iff.1 ha).1
          have := hmi (r - len * szT P (elT P t)) (by omega)
          rw [show len * szT P (elT P t) + (r - len * szT P (elT P t)) = r by omega, hu, e1] at this
          cases this
          exact ⟨e2, e3.mono (.rfl' m) (updB_le (grow hy _ _))⟩
      · intro x' p' ob' hx' hob' hp' hr'
        have hne : p'.1 ≠ p.1 := fun e => hx' (H.inj x' n p' p ob' _ hob' hn hp' hb hr' he e)
        exact ⟨fun _ => hne, setRow_other w p.1 p'.1 C' hne, fun o => rfl⟩
theorem append_ok {t : TypeId} {vs vx : Value} {s x : AV} (H : HRel P w0 h k m β w) (hbn : β nm = none) (hk : nm.1 < k) (hvs : R m β vs s) (hvx : R m β vx x) (hok : okAppend P t t s x h) (ty : TypeId) :
    VRes P w0 h k m β w nm (effAppend P nm t s x h) (Builtin.append_ #[t, t] ty #[vs, vx]) := by
  obtain ⟨hs, _, hsz0, hby, hz, hx, hss⟩ := hok
  obtain ⟨i, z, hi, hz0, hzs, hsi, h1, _⟩ := zeroOk_of hz
  have hI : (P.info? (elT P t)).isSome = true := by simp [hi]
  obtain ⟨news, hN, hys, hlen, hn1, hn2⟩ := source H hvx hx
  generalize hY : newsOf h x = ys at hN hys hlen hn1 hn2 hss
  -- the new block, behind a list that is read
  have big : ∀ (tn : Nm) (xs : List DV) (base : Option Addr) (cap : Nat), (∀ c q, β tn = some q → q.le ⟨w.heap.size, c, some (xs ++ ys).length⟩) → tn.1 < k → vs = .slice base xs.length cap → RD m vs (.sl xs) → (∀ y ∈ xs, y.cells.length = szT P (elT P t)) → cap < xs.length + ys.length → xs.length + ys.length ≤ 16777216 →
      ∃ v w' m' β', (Builtin.append_ #[t, t] ty #[vs, vx]).run P w = .ok v w' ∧ m.le m' ∧ β.le β' ∧ (∀ n, n ≠ tn → β n = none → β' n = none) ∧ HRel P w0 (upd h tn (some (.perm (elT P t) (xs ++ ys).length))) k m' β' w' ∧ R m' β' v (.own tn (xs ++ ys)) := by
    intro tn xs base cap hbn hk hv hr hxs hroom hlim
    obtain ⟨a, cap', olds, hv', hc1, hc2, hO, ho, _⟩ := loaded (P := P) hr hxs (fun b o v hm => (H.mem b o v hm).2)
    rw [hv] at hv'; cases hv'
    have ho2 := ho w.drew (fun b o v hm => (H.mem b o v hm).1)
    rw [hv] at ho2
    have hrun := run_app_new hs hi hz0 (hlen w) hn2 ho2 hroom hlim hby ty
    rw [← hv] at hrun
    have hge := grownCap_ge w (xs.length + ys.length) cap (elT P t)
    have hle := grownCap_le_maxLen w (xs.length + ys.length) cap (elT P t) (by unfold maxLen; omega)
    generalize grownCap w (xs.length + ys.length) cap (elT P t) = nc at hrun hge hle
    generalize hC : olds.toArray ++ (news.toArray ++ Builtin.zeroCells z.cells (nc - (xs.length + ys.length))) = C at hrun
    have hlC : C.size = nc * szT P (elT P t) := by
      rw [← hC]
      simp only [Array.size_append, List.size_toArray, size_zeroCells, hzs, hO.len, hN.len]
      rw [← Nat.add_mul, ← Nat.add_mul]
      congr 1; omega
    have hCx : ∀ q, q < xs.length * szT P (elT P t) → C[q]? = olds[q]? := fun q hq => by
      rw [← hC, Array.getElem?_append_left (by simp [hO.len]; exact hq), List.getElem?_toArray]
    have hCy : ∀ q, q < ys.length * szT P (elT P t) → C[xs.length * szT P (elT P t) + q]? = news[q]? := fun q hq => by
      rw [← hC, Array.getElem?_append_right (by simp [hO.len]), Array.getElem?_append_left (by simp [hO.len, hN.len]; exact hq)]
      simp [hO.len]
    have hf := fun o => H.fresh (Nat.le_refl w.heap.size) o
    have hCg : ∀ q c, q < (xs ++ ys).length * szT P (elT P t) → C[q]? = some c → c.oneCell' = true := fun q c hq hc => by
      rw [List.length_append, Nat.add_mul] at hq
      by_cases hlt : q < xs.length * szT P (elT P t)
      · rw [hCx q hlt] at hc; exact hO.one c (List.mem_of_getElem? hc)
      · have := hCy (q - xs.length * szT P (elT P t)) (by omega)
        rw [show xs.length * szT P (elT P t) + (q - xs.length * szT P (elT P t)) = q by omega, hc] at this
        exact hN.one c (List.mem_of_getElem? this.symm)
    let f : Nat → Option Value := fun q => if q < (xs ++ ys).length * szT P (elT P t) then C[q]? else none
    have hmm : ∀ q, m.add w.heap.size f w.heap.size q = f q := fun q => Mem.add_new _ _ (hf q)
    refine ⟨_, _, m.add w.heap.size f, updB β tn ⟨w.heap.size, nc, some (xs ++ ys).length⟩, hrun, Mem.add_le _ _ _, updB_le (hbn nc), fun n hn => updB_none hn, ?_, ?_⟩
    · refine H.upd1 (hbn nc) hk (Below.alloc (Below.drew H.ext) (by simpa using H.size) _) (Mem.add_le _ _ _) (fun b o v hv => ?_) ?_ (fun _ => H.size) ?_
      · by_cases hb : b = w.heap.size
        · subst hb
          rw [hmm o] at hv
          simp only [f] at hv
          split at hv
          · rename_i hlt
            exact ⟨(World.cell?_alloc_new w.drew C (elT P t) o).trans hv, hCg o v hlt hv⟩
          · cases hv
        · rw [Mem.add_ne _ _ hb] at hv
          obtain ⟨h1, h2⟩ := H.mem b o v hv
          exact ⟨(World.cell?_alloc_lt w.drew _ ⟨b, o, none⟩ (H.mem_lt hv)).trans h1, h2⟩
      · refine ⟨rfl, .inr ⟨C, heap_alloc_new w.drew _, hlC, ?_, fun o ho => ?_⟩⟩
        · simp only [List.length_append]; omega
        · rw [hmm o]
          simp only [f]
          rw [if_neg (by omega)]
      · intro x' p' ob' _ hx hp hr
        have := H.lt hx hp hr
        exact ⟨fun _ => Nat.ne_of_lt this, heap_alloc_old w.drew _ this, fun o => Mem.add_ne _ _ (Nat.ne_of_lt this) o⟩
    · refine .own (p := ⟨w.heap.size, nc, some (xs ++ ys).length⟩) ?_ (updB_self _ _ _) rfl (Nat.le_refl _) fun _ => ⟨some ⟨w.heap.size, 0, none⟩, by simp, .inr rfl⟩
      have hrd : RD (m.add w.heap.size f) (.slice (some ⟨w.heap.size, 0, none⟩) (xs ++ ys).length nc) (.sl (xs ++ ys)) := by
        refine RD.append (by simpa using hge) hle hxs hys (fun q j y d hy hd => ?_) fun q j y d hy hd => ?_
        · obtain ⟨hj, c, h2, h3⟩ := hO.get q j y d hy hd
          have hq : q < xs.length := (List.getElem?_eq_some_iff.1 hy).1
          have hlt := idx_lt hq hj
          refine ⟨c, ?_, h3.mono (Mem.add_le _ _ _)⟩
          rw [hmm]
          simp only [f]
          rw [if_pos (by simp only [List.length_append, Nat.add_mul]; omega), hCx _ hlt, h2]
        · obtain ⟨hj, c, h2, h3⟩ := hN.get q j y d hy hd
          have hq : q < ys.length := (List.getElem?_eq_some_iff.1 hy).1
          have hlt := idx_lt hq hj
          refine ⟨c, ?_, h3.mono (Mem.add_le _ _ _)⟩
          rw [hmm]
          simp only [f]
          rw [if_pos (by simp only [List.length_append, Nat.add_mul]; omega), Nat.add_mul, Nat.add_assoc, hCy _ hlt, h2]
      rwa [List.length_append] at hrd
  cases hvs with
  | nil =>
    simp only [effAppend, VRes, Eff.ap, List.foldl_cons, List.foldl_nil, hY]
    by_cases hy : ys = []
    · subst hy
      have hnn : news = [] := List.eq_nil_of_length_eq_zero (by rw [hN.len]; simp)
      subst hnn
      have hrun := run_app_room (base := none) (sLen := 0) (sCap := 0) hs hI (hlen w) hn1 (by simp) ty w (fun a _ => rfl) (fun _ => rfl)
      refine ⟨_, w, m, updB β nm ⟨0, 0, some 0⟩, hrun, .rfl' m, updB_le (le_new hbn), fun n hn => updB_none hn, by simpa using H.perm0 hbn hk _ 0 0, ?_⟩
      exact .own (p := ⟨0, 0, some 0⟩) (v := 0) .nil (updB_self _ _ _) rfl (Nat.le_refl _) fun _ => ⟨none, rfl, .inl ⟨rfl, rfl⟩⟩
    · have hpos : 0 < ys.length := List.length_pos_iff.2 hy
      have hss' : ys.length ≤ 16777216 := hss
      have := big nm [] none 0 (fun c => le_new hbn) hk rfl .nil (by simp) (by simpa using hpos) (by simpa using hss')
      simpa using this
  | @own _ n xs p v hr hb hv hvl ha =>
    obtain ⟨hn, hxs, hlim⟩ := hss
    simp only [effAppend, VRes, Eff.ap, List.foldl_cons, List.foldl_nil, hY]
    obtain ⟨q, hq, hver, hob⟩ := H.obj n _ hn
    rw [hb] at hq; cases hq
    rw [hv] at hver; cases hver
    obtain ⟨base, hxv, ha⟩ := ha rfl
    obtain ⟨hc1, hc2⟩ : xs.length ≤ p.2 ∧ p.2 ≤ maxLen := by
      obtain ⟨a9, c9, e9, h9, h10, _⟩ := hr.piece (l := 0) (hh := 0) hxs (Nat.le_refl _) (Nat.zero_le _)
      rw [hxv] at e9
      cases e9
      exact ⟨h9, h10⟩
    have hkn : n.1 < k := H.dom n p hb
    have grow : ys ≠ [] → ∀ b c q, β n = some q → q.le ⟨b, c, some (xs ++ ys).length⟩ := fun hy b c q hq => by
      rw [hb] at hq; cases hq
      have := List.length_pos_iff.2 hy
      exact .inr ⟨_, _, hv, rfl, by simp only [List.length_append]; omega⟩
    by_cases hroom : p.2 < xs.length + ys.length
    · have hy : ys ≠ [] := fun e => by subst e; simp at hroom; omega
      obtain ⟨v, w', m', β', g1, g2, g3, g4, g5⟩ := big n xs base p.2 (grow hy _) hkn hxv hr hxs hroom hlim
      exact ⟨v, w', m', β', g1, g2, g3, fun x hx h0 => g4 x (fun e => by subst e; rw [hb] at h0; cases h0) h0, g5⟩
    · by_cases hy : ys = []
      · subst hy
        have hnn : news = [] := List.eq_nil_of_length_eq_zero (by rw [hN.len]; simp)
        subst hnn
        have hrun := run_app_room (base := base) (sLen := xs.length) (sCap := p.2) hs hI (hlen w) hn1 (by simpa using hc1) ty w (fun a _ => rfl) (fun _ => rfl)
        rw [← hxv] at hrun
        rw [List.append_nil]
        refine ⟨_, w, m, β, hrun, .rfl' m, .rfl' β, fun _ _ h => h, ?_, .own (by simpa [hxv] using hr) hb hv (Nat.le_refl _) fun _ => ⟨base, by simp, ha⟩⟩
        have e : upd h n (some (.perm (elT P t) xs.length)) = h := by funext x; unfold upd; split
                                                                      · subst_vars; exact hn.symm
                                                                      · rfl
        rw [e]; exact H
      · have he : ¬ (xs.length = 0 ∧ p.2 = 0) := fun e => by have := List.length_pos_iff.2 hy; omega
        rcases hob with hob | ⟨C, g1, g2, g3, g4⟩
        · exact absurd hob he
        have ha' : base = some ⟨p.1, 0, none⟩ := ha.resolve_left he
        subst ha'
        have hB : w0.heap.size ≤ p.1 := H.new n p _ hb hn he
        have hfit : (xs.length + ys.length) * szT P (elT P t) ≤ C.size := by rw [g2]; exact Nat.mul_le_mul_right _ (by omega)
        have hst := run_storeCells_at P p.1 (xs.length * szT P (elT P t)) (elT P t) news 0 C w g1 (by rw [hN.len]; rw [Nat.add_mul] at hfit; omega) hN.one
        generalize hC' : (C.toList.take (xs.length * szT P (elT P t) + 0) ++ news ++ C.toList.drop (xs.length * szT P (elT P t) + 0 + news.length)).toArray = C' at hst
        have hlC : xs.length * szT P (elT P t) ≤ C.size := by rw [Nat.add_mul] at hfit; omega
        have hszC' : C'.size = C.size := by
          rw [← hC']
          simp [hN.len]
          rw [Nat.add_mul] at hfit
          omega
        have hlo : ∀ q, q < xs.length * szT P (elT P t) → C'[q]? = C[q]? := fun q hq => by
          rw [← hC']
          simp only [Nat.add_zero, List.getElem?_toArray]
          rw [List.append_assoc, List.getElem?_append_left (by simp; omega), List.getElem?_take, if_pos hq, Array.getElem?_toList]
        have hmi : ∀ q, q < ys.length * szT P (elT P t) → C'[xs.length * szT P (elT P t) + q]? = news[q]? := fun q hq => by
          rw [← hC']
          simp only [Nat.add_zero, List.getElem?_toArray]
          rw [List.append_assoc, List.getElem?_append_right (by simp; omega), List.getElem?_append_left (by simp [hN.len]; rw [Nat.min_eq_left hlC]; omega)]
          simp [Nat.min_eq_left hlC]
        have hrun := run_app_room (base := some ⟨p.1, 0, none⟩) (sLen := xs.length) (sCap := p.2) hs hI (hlen w) hn1 (by omega) ty (w.setRow p.1 C') (fun a e => by cases e; rw [add_none', Nat.zero_add]; exact hst) (fun e => by cases e)
        rw [← hxv] at hrun
        let f : Nat → Option Value := fun q => if xs.length * szT P (elT P t) ≤ q ∧ q < (xs ++ ys).length * szT P (elT P t) then C'[q]? else none
        have hmo : ∀ q, xs.length * szT P (elT P t) ≤ q → m.add p.1 f p.1 q = f q := fun q hq => Mem.add_new _ _ (g4 q hq)
        refine ⟨_, _, m.add p.1 f, updB β n ⟨p.1, p.2, some (xs ++ ys).length⟩, hrun, Mem.add_le _ _ _, updB_le (grow hy _ _), fun x hx h0 => updB_none (fun e => by subst e; rw [hb] at h0; cases h0) h0, ?_, ?_⟩
        · refine H.upd1 (grow hy _ _) hkn (H.ext.trans ⟨rfl, rfl, rfl, by simp [World.setRow], fun k hk => setRow_other w p.1 k C' (by omega)⟩) (Mem.add_le _ _ _) (fun b o v hv => ?_) ?_ (fun _ => hB) ?_
          · by_cases hb' : b = p.1
            · subst hb'
              rw [cell_setRow_same w p.1 o C C' (elT P t) _ g1]
              cases hmv : m p.1 o with
              | some u =>
                have := Mem.add_le m p.1 f p.1 o u hmv
                rw [hv] at this; cases this
                obtain ⟨h2, h3⟩ := H.mem _ _ _ hmv
                have ho : o < xs.length * szT P (elT P t) := by
                  rcases Nat.lt_or_ge o (xs.length * szT P (elT P t)) with h | h
                  · exact h
                  · rw [g4 o h] at hmv; cases hmv
                rw [hlo o ho]
                simp [World.cell?, g1] at h2
                exact ⟨h2, h3⟩
              | none =>
                rw [Mem.add_new _ _ hmv] at hv
                simp only [f] at hv
                split at hv
                · rename_i hlt
                  refine ⟨hv, ?_⟩
                  have hlt2 := hlt.2
                  rw [List.length_append, Nat.add_mul] at hlt2
                  have := hmi (o - xs.length * szT P (elT P t)) (by omega)
                  rw [show xs.length * szT P (elT P t) + (o - xs.length * szT P (elT P t)) = o by omega, hv] at this
                  exact hN.one _ (List.mem_of_getElem? this.symm)
                · cases hv
            · rw [Mem.add_ne _ _ hb'] at hv
              obtain ⟨h2, h3⟩ := H.mem b o v hv
              exact ⟨(cell_setRow_other w p.1 C' ⟨b, o, none⟩ hb').trans h2, h3⟩
          · refine ⟨rfl, .inr ⟨C', setRow_heap w p.1 C C' (elT P t) _ g1, hszC'.trans g2, ?_, fun o ho => ?_⟩⟩
            · simp only [List.length_append]; omega
            · have hge : xs.length * szT P (elT P t) ≤ (xs ++ ys).length * szT P (elT P t) := Nat.mul_le_mul_right _ (by simp)
              rw [hmo o (by omega)]
              simp only [f]
              rw [if_neg (by omega)]
          · intro x' p' ob' hx' hob' hp' hr'
            have hne : p'.1 ≠ p.1 := fun e => hx' (H.inj x' n p' p ob' _ hob' hn hp' hb hr' he e)
            exact ⟨fun _ => hne, setRow_other w p.1 p'.1 C' hne, fun o => Mem.add_ne _ _ hne o⟩
        · refine .own (p := ⟨p.1, p.2, some (xs ++ ys).length⟩) ?_ (updB_self _ _ _) rfl (Nat.le_refl _) fun _ => ⟨some ⟨p.1, 0, none⟩, by simp, .inr rfl⟩
          have hrd : RD (m.add p.1 f) (.slice (some ⟨p.1, 0, none⟩) (xs ++ ys).length p.2) (.sl (xs ++ ys)) := by
            rw [hxv] at hr
            refine RD.append (by simp; omega) hc2 hxs hys (fun q j y d hy hd => ?_) fun q j y d hy hd => ?_
            · obtain ⟨c, h2, h3⟩ := hr.cell hxs hy hd
              exact ⟨c, Mem.add_le _ _ _ _ _ _ (by rwa [Nat.zero_add] at h2), h3.mono (Mem.add_le _ _ _)⟩
            · obtain ⟨hj, c, h2, h3⟩ := hN.get q j y d hy hd
              have hq : q < ys.length := (List.getElem?_eq_some_iff.1 hy).1
              have hlt := idx_lt hq hj
              refine ⟨c, ?_, h3.mono (Mem.add_le _ _ _)⟩
              rw [Nat.add_mul, Nat.add_assoc, hmo _ (by omega)]
              simp only [f]
              rw [if_pos (by simp only [List.length_append, Nat.add_mul]; omega), hmi _ hlt, h2]
          rwa [List.length_append] at hrd
  | @gro _ n len p v hgx hb hv hvl ha =>
    obtain ⟨hn, hlim⟩ := hss
    split at hn
    · rename_i e' len' cs hcs
      obtain ⟨rfl, rfl, hcl⟩ := hn
      obtain ⟨v', w', m', β', q1, q2, q3, q4, q5, q6⟩ := append_gro H (.gro hgx hb hv hvl ha) hs hi hz0 hzs hsz0 hby hN hys hlen hn1 hn2 hcs hcl hlim ty
      simp only [effAppend, VRes, Eff.ap, List.foldl_cons, List.foldl_nil, hY, groCs, hcs]
      exact ⟨v', w', m', β', q1, q2, q3, fun x _ h0 => q4 x h0, q5, q6⟩
    · exact hn.elim
  | _ => exact hss.elim
end
end Go.Proofs.Ytmeekpinkfpnhab
namespace Go.Proofs.Ytmeekpinkfpnhab
open Go.RowKit
section
variable {P : Program} {w0 w : World} {h : Heap} {k : Nat} {m : Mem} {β : Bl} {nm : Nm}
theorem flat_get {cs : List AV} : ∀ (n i : Nat), i < n * cs.length → (List.replicate n cs).flatten[i]? = cs[i % cs.length]?
  | 0, i, hi => by simp at hi
  | n + 1, i, hi => by
    rw [List.replicate_succ, List.flatten_cons]
    by_cases hl : i < cs.length
    · rw [List.getElem?_append_left hl, Nat.mod_eq_of_lt hl]
    · rw [List.getElem?_append_right (by omega), flat_get n (i - cs.length) (by rw [Nat.add_mul] at hi; omega), ← Nat.mod_eq_sub_mod (by omega)]
theorem makeSlice_ok {t : TypeId} {vl vc : Value} {al ac : AV} (H : HRel P w0 h k m β w) (hbn : β nm = none) (hk : nm.1 < k) (hl : R m β vl al) (hc : R m β vc ac) (hok : okMakeSlice P t al ac) :
    VRes P w0 h k m β w nm (effMakeSlice P nm t al) (Instr.makeSlice t vl vc) := by
  obtain ⟨hs, h1, h2, h3, h4, h5, h6, h7, hz⟩ := hok
  obtain ⟨i, z, hi, hz0, hzs, hsi, hone, hzA⟩ := zeroOk_of hz
  have hI : (P.info? (elT P t)).isSome = true := by simp [hi]
  obtain ⟨k1, rfl⟩ := hl.int h1
  obtain ⟨k2, rfl⟩ := hc.int h2
  rw [h3]
  clear h3
  obtain ⟨N, hN⟩ : ∃ N : Nat, intOf' al = N := ⟨(intOf' al).toNat, by omega⟩
  rw [hN] at hl h4 h5 ⊢
  have hw : IntKind.i64.wrap (N : Int) = N := wrap_i64 (by omega) (by omega)
  have hb : i.bytes ≤ 1024 := by simpa [bytesT, hi] using h6
  have hbn' : ¬ ((i.bytes : Int) * (N : Int) > 281474976710656) := by
    have h8 : N ≤ 16777216 := by omega
    have : i.bytes * N ≤ 1024 * 16777216 := Nat.mul_le_mul hb h8
    have h9 : ((i.bytes * N : Nat) : Int) = (i.bytes : Int) * (N : Int) := by simp
    omega
  obtain ⟨hc1, hc2⟩ := constAV_cells (m := m) (β := β) hone
  have hzl : (zeroAV P (elT P t)).length = szT P (elT P t) := by rw [hzA, ← hc1, hzs]
  have hrun : ∀ cells : Array Value, (if N * szT P (elT P t) = 0 then cells = #[] else cells = (Array.range (N * szT P (elT P t))).map (z.cells[· % z.cells.size]!)) → (Instr.makeSlice t (.int k1 N) (.int k2 N)).run P w = .ok (.slice (some ⟨w.heap.size, 0, none⟩) N N) (w.alloc (.cells cells (elT P t))) := by
    intro cells hcells
    by_cases h0 : N * szT P (elT P t) = 0
    · rw [if_pos h0] at hcells
      subst hcells
      have hN0 : N = 0 := by rcases Nat.mul_eq_zero.1 h0 with h | h <;> omega
      subst hN0
      have hw0 : IntKind.i64.wrap 0 = 0 := wrap_i64 (by omega) (by omega)
      simp [Instr.makeSlice, run_underlying (slT_of hs), asInt, asIntOf, typeInfo, hi, hw0, run_sizeOf' hI, newRow]
      have e0 : Array.range 0 = #[] := by decide
      rw [e0, Array.map_empty]
    · rw [if_neg h0] at hcells
      have hN0 : N ≠ 0 := fun e => h0 (by rw [e]; simp)
      have hs0 : szT P (elT P t) ≠ 0 := by omega
      subst hcells
      have hzr := run_zero hi hz0 w
      have hneg : ¬ ((N : Int) < 0) := by omega
      simp only [Instr.makeSlice, Sem.run_bind, run_underlying (slT_of hs), Result.andThen_ok, asInt, asIntOf, Sem.run_pure, typeInfo, run_program, hi, hw]
      have e2 : ¬ ((2 : Int) ^ 48 < (i.bytes : Int) * (N : Int)) := by simpa using hbn'
      simp only [e2, hneg, gt_iff_lt, Int.lt_irrefl, decide_false, Bool.or_false, Bool.false_or, Bool.false_eq_true, if_false, Sem.run_pure, Result.andThen_ok, run_askRoom, Sem.run_bind, run_sizeOf' hI, Int.toNat_natCast]
      rw [if_neg h0]
      simp [hzr, newRow]
  have hcs : ∀ cells : Array Value, (if N * szT P (elT P t) = 0 then cells = #[] else cells = (Array.range (N * szT P (elT P t))).map (z.cells[· % z.cells.size]!)) → cells.size = N * szT P (elT P t) := by
    intro cells hcells
    split at hcells
    · rename_i h0; subst hcells; simp [h0]
    · subst hcells; simp
  obtain ⟨cells, hcells⟩ : ∃ cells : Array Value, (if N * szT P (elT P t) = 0 then cells = #[] else cells = (Array.range (N * szT P (elT P t))).map (z.cells[· % z.cells.size]!)) := by
    split
    · exact ⟨_, rfl⟩
    · exact ⟨_, rfl⟩
  refine ⟨_, _, m, updB β nm ⟨w.heap.size, 0, none⟩, hrun cells hcells, .rfl' m, updB_le (le_new hbn), fun n hn => updB_none hn, ?_, ?_⟩
  · simp only [effMakeSlice, Eff.ap, List.foldl_cons, List.foldl_nil, hN, Int.toNat_natCast]
    refine H.alloc hbn hk (by rw [hcs _ hcells]; simp [hzl]) fun q v a hv ha => ?_
    have hq : q < N * szT P (elT P t) := by have := (Array.getElem?_eq_some_iff.1 hv).1; rw [hcs _ hcells] at this; exact this
    rw [if_neg (by omega)] at hcells
    subst hcells
    rw [flat_get _ _ (by rw [hzl]; exact hq), hzl, hzA] at ha
    simp only [Array.getElem?_map, Array.getElem?_range, hq, if_true, Option.map_some, Option.some.injEq] at hv
    have hm : q % szT P (elT P t) < z.cells.size := by rw [hzs]; exact Nat.mod_lt _ h7
    rw [hzs, getElem!_pos z.cells _ hm] at hv
    exact hc2 _ v a (by rw [Array.getElem?_eq_getElem hm, hv]) ha
  · simp only [effMakeSlice, hN, Int.toNat_natCast]
    exact .arr (p := ⟨w.heap.size, 0, none⟩) (updB_self _ _ _) rfl (Nat.le_refl _) (by unfold maxLen; omega) (.inr rfl)
theorem len_ok {t ty : TypeId} {v : Value} {a : AV} (H : HRel P w0 h k m β w) (hv : R m β v a) (hok : okLen P t a) : VRes P w0 h k m β w nm (pure' (.d (.v (.int .i64 ((lenA a).getD 0))))) (Builtin.len_ #[t] ty #[v]) := by
  have hsl : ∀ a0 n cap, slT P t = true → v = .slice a0 n cap → (lenA a) = some n → VRes P w0 h k m β w nm (pure' (.d (.v (.int .i64 ((lenA a).getD 0))))) (Builtin.len_ #[t] ty #[v]) := by
    intro a0 n cap hs hv hl
    subst hv
    refine VRes.same (v := .int .i64 n) H ?_ rfl (by rw [hl]; exact .d (.v rfl))
    simp [Builtin.len_, run_underlying (slT_of hs), goInt]
  cases hv with
  | d hd =>
    cases hd with
    | @v x hx =>
      cases v with
      | string s =>
        refine VRes.same (v := .int .i64 s.size) H ?_ rfl (.d (.v rfl))
        simp [Builtin.len_, run_underlying (strT_of hok), goInt]
      | _ => obtain ⟨_, h2⟩ := hok; simp [lenA] at h2
    | nil => exact hsl _ _ _ hok.1 rfl rfl
    | sl hn _ _ _ _ _ => exact hsl _ _ _ hok.1 rfl (by rw [hn]; rfl)
    | st => obtain ⟨_, h2⟩ := hok; simp [lenA] at h2
  | nil => exact hsl _ _ _ hok.1 rfl rfl
  | own hr hb hv hl ha =>
    generalize hxx : DV.sl _ = y at hr
    cases hr with
    | nil => cases hxx; exact hsl _ _ _ hok.1 rfl rfl
    | sl hn _ _ _ _ _ => cases hxx; exact hsl _ _ _ hok.1 rfl (by rw [hn]; rfl)
    | _ => cases hxx
  | arr hb hver hc hm ho => exact hsl _ _ _ hok.1 rfl rfl
  | gro hx hb hv hl ha => obtain ⟨a, c, rfl⟩ := hx; exact hsl _ _ _ hok.1 rfl rfl
  | _ => obtain ⟨_, h2⟩ := hok; simp [lenA] at h2
theorem R.i64 {v : Value} {a : AV} (hv : R m β v a) (ha : isI64 a = true) : v = .int .i64 (intOf' a) := by
  cases hv with
  | d hd =>
    cases hd with
    | v _ =>
      cases v with
      | int kk n => cases kk <;> first | rfl | simp [isI64] at ha
      | _ => simp [isI64] at ha
    | _ => simp [isI64] at ha
  | _ => simp [isI64] at ha
def opndOk (n : Nat) : Operand → Bool
  | .tmp i => decide (i < n)
  | .const v => v.cells.all (·.oneCell')
  | _ => true
def opOk (n : Nat) (op : Op) : Bool := op.operands.all (opndOk n)
theorem ev_ok {s : St} {a : Act} {n : Nat} (hT : TRel m β s.t a.tmps) (hn : a.tmps.size = n) {x : Operand} (hx : opndOk n x = true) : R m β (a.eval x) (s.ev x) := by
  refine hT.ev hn x ?_ ?_
  · cases x <;> first | exact hx | rfl
  · intro v e
    subst e
    simp only [opndOk, Array.all_eq_true_iff_forall_mem] at hx
    exact hx
def NRes (P : Program) (w0 : World) (h : Heap) (k : Nat) (m : Mem) (β : Bl) (w : World) (nm : Nm) (e : Eff) (s : Sem Next) : Prop :=
  ∃ v w' m' β', (s.run P w = .ok (.value v) w' ∨ s.run P w = .ok .skip w' ∧ v = undef) ∧ m.le m' ∧ β.le β' ∧ (∀ n, n ≠ nm → β n = none → β' n = none) ∧ HRel P w0 (e.ap h) k m' β' w' ∧ R m' β' v e.val
theorem NRes.val {e : Eff} {s : Sem Value} (hv : VRes P w0 h k m β w nm e s) : NRes P w0 h k m β w nm e (do pure (.value (← s))) := by
  obtain ⟨v, w', m', β', h1, h2⟩ := hv
  exact ⟨v, w', m', β', .inl (by simp [h1]), h2⟩
theorem NRes.unit {e : Eff} {s : Sem Unit} (hv : URes P w0 h k m β w e s) : NRes P w0 h k m β w nm e (do s; pure .skip) := by
  obtain ⟨w', m', β', h1, h2, h3, h4, h5, h6⟩ := hv
  refine ⟨undef, w', m', β', .inr ⟨by simp [h1], rfl⟩, h2, h3, fun n _ hn => h4 n hn, h5, by rw [h6]; exact .junk⟩
theorem NRes.pure {a : AV} {v : Value} (H : HRel P w0 h k m β w) (hv : R m β v a) : NRes P w0 h k m β w nm (pure' a) (Pure.pure (.value v)) :=
  ⟨v, w, m, β, .inl rfl, .rfl' m, .rfl' β, fun _ _ h => h, H, hv⟩
theorem parts_ok {s : St} {a : Act} {n : Nat} (hT : TRel m β s.t a.tmps) (hn : a.tmps.size = n) {ps : Array (Nat × Operand)} (hps : ∀ x ∈ ps, opndOk n x.2 = true) :
    (ps.map fun x => (x.1, a.eval x.2)).size = (ps.toList.map fun x => (x.1, s.ev x.2)).length ∧ ∀ (i : Nat) (x : Nat × Value) (y : Nat × AV), (ps.map fun x => (x.1, a.eval x.2))[i]? = some x → (ps.toList.map fun x => (x.1, s.ev x.2))[i]? = some y → x.1 = y.1 ∧ R m β x.2 y.2 := by
  refine ⟨by simp, fun i x y hx hy => ?_⟩
  rw [Array.getElem?_map, Option.map_eq_some_iff] at hx
  rw [List.getElem?_map, Option.map_eq_some_iff] at hy
  obtain ⟨p, hp, rfl⟩ := hx
  obtain ⟨q, hq, rfl⟩ := hy
  rw [Array.getElem?_toList, hp] at hq
  cases hq
  exact ⟨rfl, ev_ok hT hn (hps p (Array.mem_of_getElem? hp))⟩
end
end Go.Proofs.Ytmeekpinkfpnhab
namespace Go.Proofs.Ytmeekpinkfpnhab
open Go.RowKit
def idxM (k : Int) : List (Int × DV) → Option Nat
  | [] => none
  | p :: m => if k = p.1 then some 0 else (idxM k m).map (· + 1)
theorem idxM_some {k : Int} : ∀ {es : List (Int × DV)} {i : Nat}, idxM k es = some i → ∃ x, es[i]? = some (k, x) ∧ getM k es = some x ∧ ∀ v, putM k v es = es.set i (k, v)
  | p :: m, i, h => by
    unfold idxM at h
    by_cases hk : k = p.1
    · rw [if_pos hk] at h; cases h
      subst hk
      exact ⟨p.2, rfl, by simp [getM], fun v => by simp [putM]⟩
    · rw [if_neg hk] at h
      obtain ⟨j, hj, rfl⟩ := Option.map_eq_some_iff.1 h
      obtain ⟨x, h1, h2, h3⟩ := idxM_some hj
      exact ⟨x, by simpa using h1, by simpa [getM, hk] using h2, fun v => by simp [putM, hk, h3]⟩
theorem idxM_none {k : Int} : ∀ {es : List (Int × DV)}, idxM k es = none → getM k es = none ∧ ∀ v, putM k v es = es ++ [(k, v)]
  | [], _ => ⟨rfl, fun _ => rfl⟩
  | p :: m, h => by
    unfold idxM at h
    by_cases hk : k = p.1
    · rw [if_pos hk] at h; cases h
    · rw [if_neg hk] at h
      obtain ⟨h1, h2⟩ := idxM_none (es := m) (by simpa using h)
      exact ⟨by simpa [getM, hk] using h1, fun v => by simp [putM, hk, h2]⟩
section
variable {P : Program} {w0 w : World} {h : Heap} {k : Nat} {m : Mem} {β : Bl} {nm : Nm}
theorem mapT_of {t : TypeId} (ht : (mapT P t).isSome = true) : ∃ kt, P.underlying t = some (.map kt ((mapT P t).getD 0)) ∧ P.underlying kt = some (.int .i64) := by
  unfold mapT at ht ⊢
  cases hd : P.underlying t with
  | none => simp [hd] at ht
  | some d =>
    cases d <;> simp [hd] at ht ⊢
    rename_i kt e
    cases hk : P.underlying kt with
    | none => simp [hk] at ht
    | some d2 =>
      cases d2 <;> simp [hk] at ht ⊢
      rename_i ik
      cases ik <;> simp at ht ⊢
      exact hk
theorem findNow_idx {j : Int} : ∀ (l : List MapEntry) (es : List (Int × DV)) (i : Nat), l.length = es.length → (∀ (i : Nat) (x : MapEntry) (y : Int × DV), l[i]? = some x → es[i]? = some y → x.key = .int .i64 y.1) →
    Instr.findNow (.int .i64) (.int .i64 j) l i = some (match idxM j es with | none => none | some d => (l[d]?).map fun x => (i + d, x.val))
  | [], [], _, _, _ => rfl
  | [], _ :: _, _, h, _ => by simp at h
  | _ :: _, [], _, h, _ => by simp at h
  | x :: l, y :: es, i, h, H => by
    have h0 := H 0 x y rfl rfl
    have ih := findNow_idx (j := j) l es (i + 1) (by simpa using h) fun q a b ha hb => H (q + 1) a b (by simpa using ha) (by simpa using hb)
    unfold Instr.findNow idxM
    rw [h0]
    simp only [Instr.sameNow, if_true]
    by_cases hk : j = y.1
    · have : (j == y.1) = true := by simpa using hk
      rw [this, if_pos hk]; simp
    · have : (j == y.1) = false := by simpa using hk
      rw [this, if_neg hk]
      simp only [ih]
      cases idxM j es with
      | none => rfl
      | some d => simp [Nat.add_assoc, Nat.add_comm 1 d]
theorem run_key {kt : TypeId} (hk : P.underlying kt = some (.int .i64)) (e : Bool) (j : Int) (w : World) : (Instr.checkKey e 10000 kt (.int .i64 j)).run P w = .ok () w := by
  have : ∀ d, (Instr.checkKey e (d + 1) kt (.int .i64 j)).run P w = .ok () w := fun d => by simp [Instr.checkKey, run_underlying hk]
  obtain ⟨d, hd⟩ : ∃ d, 10000 = d + 1 := ⟨9999, rfl⟩
  rw [hd]; exact this d
theorem run_find {kt : TypeId} (hk : P.underlying kt = some (.int .i64)) {j : Int} {l : List MapEntry} {es : List (Int × DV)} (hl : l.length = es.length) (H : ∀ (i : Nat) (x : MapEntry) (y : Int × DV), l[i]? = some x → es[i]? = some y → x.key = .int .i64 y.1) (w : World) :
    (Instr.findKey kt (.int .i64 j) l).run P w = .ok (match idxM j es with | none => none | some d => (l[d]?).map fun x => (d, x.val)) w := by
  have := findNow_idx (j := j) l es 0 hl H
  simp only [Nat.zero_add] at this
  simp [Instr.findKey, run_underlying hk, this]
theorem look_ok {t : TypeId} {va vk : Value} {a j : AV} (H : HRel P w0 h k m β w) (ha : R m β va a) (hj : R m β vk j) (c : Bool) (hok : okLook P t a j h) :
    VRes P w0 h k m β w nm (effLook P t a j c h) (Instr.lookup t va vk c) := by
  obtain ⟨h1, h2, h3, h4, h5⟩ := hok
  obtain ⟨kt, hT, hK⟩ := mapT_of h1
  have ek := hj.i64 h2
  subst ek
  generalize het : (mapT P t).getD 0 = et at *
  obtain ⟨i, z, hi, hz0, hzs, hsi, hone, hzA⟩ := zeroOk_of h3
  have hzr := run_zero hi hz0 w
  have hzt : zeroT P et = some z := by simp [zeroT, hi, hz0]
  have ezd : zeroD P et = constAV z := by unfold zeroD; rw [hzt]
  have hRz : RD m z (zeroD P et).toD := by
    have hR : R m β z (zeroD P et) := by
      rw [ezd]
      have := TRel.ev (m := m) (β := β) (s := ⟨fun _ => .junk, h, k⟩) (a := { tmps := #[], defers := [] }) (n := 0) (fun i v hi => by simp at hi) rfl (.const z) rfl (fun v e c hc => by
        cases e
        obtain ⟨q, hq, rfl⟩ := Array.mem_iff_getElem.1 hc
        exact hone q _ (Array.getElem?_eq_getElem hq))
      exact this
    exact hR.toD (toD_of h4)
  -- what is asked
  have main : ∀ (l : Array MapEntry) (es : List (Int × DV)), l.size = es.length → (∀ (i : Nat) (x : MapEntry) (y : Int × DV), l[i]? = some x → es[i]? = some y → x.key = .int .i64 y.1 ∧ RD m x.val y.2) → ∀ (sm : Sem (Array MapEntry)), sm.run P w = .ok l w →
      ∃ v, (do
        let es ← sm
        Instr.checkKey es.isEmpty 10000 kt (.int .i64 (intOf' j))
        let (v, ok) ← match ← Instr.findKey kt (.int .i64 (intOf' j)) es.toList with
          | some (_, v) => pure (v, true)
          | none => pure (← zeroValue et, false)
        pure (if c then Value.tuple #[v, .bool ok] else v) : Sem Value).run P w = .ok v w ∧ R m β v (if c then .tup [.d ((getM (intOf' j) es).getD (zeroD P et).toD), .d (.v (.bool (getM (intOf' j) es).isSome))] else .d ((getM (intOf' j) es).getD (zeroD P et).toD)) := by
    intro l es hl hH sm hsm
    have hf := run_find (P := P) hK (j := intOf' j) (l := l.toList) (es := es) (by simpa using hl) (fun q x y hx hy => (hH q x y (by simpa using hx) hy).1) w
    have fin : ∀ (v : Value) (d : DV) (b : Bool), RD m v d → R m β (if c then Value.tuple #[v, .bool b] else v) (if c then .tup [.d d, .d (.v (.bool b))] else .d d) := by
      intro v d b hv
      cases c with
      | false => exact .d hv
      | true =>
        refine .tup rfl fun q x y hx hy => ?_
        match q, hx, hy with
        | 0, hx, hy => simp at hx hy; subst hx; subst hy; exact .d hv
        | 1, hx, hy => simp at hx hy; subst hx; subst hy; exact .d (.v rfl)
        | q + 2, hx, hy => simp at hy
    cases hq : idxM (intOf' j) es with
    | none =>
      obtain ⟨g1, _⟩ := idxM_none hq
      rw [hq] at hf
      refine ⟨if c then .tuple #[z, .bool false] else z, ?_, ?_⟩
      · simp only [Sem.run_bind, hsm, Result.andThen_ok, run_key hK, hf, Sem.run_pure, hzr]
      · rw [g1]; exact fin z _ false hRz
    | some d =>
      obtain ⟨x, g1, g2, _⟩ := idxM_some hq
      have hlt : d < l.size := by rw [hl]; exact (List.getElem?_eq_some_iff.1 g1).1
      have hld : l.toList[d]? = some l[d] := by simp [hlt]
      simp only [hq, hld, Option.map_some] at hf
      refine ⟨if c then .tuple #[l[d].val, .bool true] else l[d].val, ?_, ?_⟩
      · simp only [Sem.run_bind, hsm, Result.andThen_ok, run_key hK, hf, Option.map_some, Sem.run_pure]
      · rw [g2]; exact fin _ _ true (hH d l[d] _ (Array.getElem?_eq_getElem hlt) g1).2
  cases a with
  | map n =>
    cases ha with
    | @map _ p hb hv =>
      have h5 : isMapO h n := h5
      unfold isMapO at h5
      split at h5
      · rename_i es hes
        obtain ⟨p', hp', _, l, clock, g1, ⟨g2, gc, gb⟩, g3⟩ := H.obj n _ hes
        rw [hb] at hp'; cases hp'
        have hgo : (getObj p.1).run P w = .ok (.map l clock) w := by simp [getObj, Sem.run, g1]
        obtain ⟨v, e1, e2⟩ := main l es g2 g3 (pure l) rfl
        refine VRes.same H (v := v) ?_ rfl ?_
        · simp only [Sem.run_bind, Sem.run_pure, Result.andThen_ok] at e1
          simp only [Instr.lookup, Sem.run_bind, run_underlying hT, Result.andThen_ok, hgo, Sem.run_pure]
          exact e1
        · simp only [effLook, askM, mapEs, hes, het]; exact e2
      · exact h5.elim
  | d x =>
    have h5 : isNilM (.d x) := h5
    unfold isNilM at h5
    split at h5
    · rename_i e
      cases e
      cases ha with
      | d hd =>
        cases hd with
        | v _ =>
          obtain ⟨v, e1, e2⟩ := main #[] [] rfl (fun i x y hx => by simp at hx) (pure #[]) rfl
          refine VRes.same H (v := v) ?_ rfl ?_
          · simp only [Sem.run_bind, Sem.run_pure, Result.andThen_ok] at e1
            simp only [Instr.lookup, Sem.run_bind, run_underlying hT, Result.andThen_ok, Sem.run_pure]
            exact e1
          · simp only [effLook, askM, het]; exact e2
    · exact h5.elim
  | _ => exact False.elim h5
theorem makeMap_ok {t : TypeId} (H : HRel P w0 h k m β w) (hbn : β nm = none) (hk : nm.1 < k) : VRes P w0 h k m β w nm ⟨.map nm, [], [(nm, some (.map []))]⟩ (Instr.makeMap t none) := by
  refine ⟨.map (some w.heap.size), w.alloc (.map #[] 0), m, updB β nm ⟨w.heap.size, 0, none⟩, ?_, .rfl' m, updB_le (le_new hbn), fun n hn => updB_none hn, ?_, .map (p := ⟨w.heap.size, 0, none⟩) (updB_self _ _ _) rfl⟩
  · simp [Instr.makeMap]
  · refine H.upd1 (le_new hbn) hk (Below.alloc H.ext H.size _) (.rfl' m) (fun b o v hv => ?_) ⟨rfl, #[], 0, heap_alloc_new w _, ⟨rfl, rfl, fun i x hx => by simp at hx⟩, fun i x y hx => by simp at hx⟩ (fun _ => H.size) ?_
    · obtain ⟨h1, h2⟩ := H.mem b o v hv
      exact ⟨(World.cell?_alloc_lt w _ ⟨b, o, none⟩ (H.mem_lt hv)).trans h1, h2⟩
    · intro x p' ob' _ hx hp hr
      have := H.lt hx hp hr
      exact ⟨fun _ => Nat.ne_of_lt this, heap_alloc_old w _ this, fun _ => rfl⟩
theorem range_ok {t : TypeId} {va : Value} {a : AV} (H : HRel P w0 h k m β w) (hbn : β nm = none) (hk : nm.1 < k) (ha : R m β va a) (hok : okRange P t a h) : VRes P w0 h k m β w nm (effRange nm a h) (Instr.range t va) := by
  obtain ⟨h1, h5⟩ := hok
  obtain ⟨kt, hT, hK⟩ := mapT_of h1
  cases a with
  | map n =>
    cases ha with
    | @map _ q hb hv =>
      have h5 : isMapO h n := h5
      unfold isMapO at h5
      split at h5
      · rename_i es hes
        obtain ⟨p', hp', _, l, clock, g1, ⟨g2, gc, gb⟩, g3⟩ := H.obj n _ hes
        rw [hb] at hp'; cases hp'
        have hne : n ≠ nm := fun e => by subst e; rw [hb] at hbn; cases hbn
        have hmE : mapEs h n = es := by simp [mapEs, hes]
        refine ⟨.pointer (some ⟨w.heap.size, 0, none⟩), w.alloc (.mapIter (some q.1) clock #[] clock), m, updB β nm ⟨w.heap.size, 0, none⟩, ?_, .rfl' m, updB_le (le_new hbn), fun n hn => updB_none hn, ?_, .ptr (p := ⟨w.heap.size, 0, none⟩) (updB_self _ _ _) rfl⟩
        · exact run_range_map w t kt _ q.1 l clock hT g1
        · show HRel P w0 (upd h nm (some (.iter n (mapEs h n).length []))) k m _ _
          rw [hmE]
          refine H.upd1 (le_new hbn) hk (Below.alloc H.ext H.size _) (.rfl' m) (fun b o v hv => ?_) ⟨rfl, q, #[], (updB_ne _ _ hne).trans hb, hv, ?_, rfl⟩ (fun _ => H.size) ?_
          · obtain ⟨h1, h2⟩ := H.mem b o v hv
            exact ⟨(World.cell?_alloc_lt w _ ⟨b, o, none⟩ (H.mem_lt hv)).trans h1, h2⟩
          · rw [← gc]; exact heap_alloc_new w _
          · intro x p' ob' _ hx hp hr
            have := H.lt hx hp hr
            exact ⟨fun _ => Nat.ne_of_lt this, heap_alloc_old w _ this, fun _ => rfl⟩
      · exact h5.elim
  | _ => exact h5.elim
theorem entry_ok {va : Value} {a : AV} (H : HRel P w0 h k m β w) (ha : R m β va a) (hok : okEntry a h) : VRes P w0 h k m β w nm (effEntry a h) (Instr.entry va) := by
  cases a with
  | ptr n off =>
    cases off with
    | succ _ => exact False.elim hok
    | zero =>
      cases ha with
      | @ptr _ _ p hb hv =>
        cases hn : h n with
        | none => simp [okEntry, hn] at hok
        | some ob =>
          cases ob with
          | iter src sz seen =>
            simp only [okEntry, hn] at hok
            obtain ⟨h1, h2, i, h3, h4⟩ := hok
            unfold isMapO at h1
            split at h1
            · rename_i es hes
              obtain ⟨p', hp', _, q, sn, f1, f2, f3, f4⟩ := H.obj n _ hn
              rw [hb] at hp'; cases hp'
              obtain ⟨q', hq', _, l, clock, g1, ⟨g2, gc, gb⟩, g3⟩ := H.obj src _ hes
              rw [f1] at hq'; cases hq'
              have hmE : mapEs h src = es := by simp [mapEs, hes]
              rw [hmE] at h2
              have hil : i < l.size := by rw [g2, h2]; exact h4
              have hie : i < es.length := by omega
              have hg : (getObj p.1).run P w = .ok (.mapIter (some q.1) sz sn sz) w := by simp [getObj, Sem.run, f3]
              have hg' : (getObj q.1).run P w = .ok (.map l clock) w := by simp [getObj, Sem.run, g1]
              have hbk : sn.back? = some i := by
                rw [← f4] at h3
                simpa using h3
              have hfi : l.find? (fun e => e.born == i) = some l[i] := by
                rw [Array.find?_eq_some_iff_getElem]
                refine ⟨by simpa using gb i l[i] (Array.getElem?_eq_getElem hil), i, hil, rfl, fun j hj => ?_⟩
                have := gb j l[j] (Array.getElem?_eq_getElem (by omega))
                simp [this]; omega
              have hx := g3 i l[i] es[i] (Array.getElem?_eq_getElem hil) (List.getElem?_eq_getElem hie)
              refine VRes.same H (v := .tuple #[l[i].key, l[i].val]) ?_ ?_ ?_
              · have hcl : clock = sz := by rw [gc, h2]
                simp [Instr.entry, hg, hg', hbk, hfi, hcl]
              · simp [effEntry, hn]
              · simp only [effEntry, hn, hmE, h3, Option.getD_some]
                rw [List.getD_eq_getElem?_getD, List.getElem?_eq_getElem hie, Option.getD_some]
                refine .tup rfl fun j v a hj ha => ?_
                match j, hj, ha with
                | 0, hj, ha => simp at hj ha; subst hj; subst ha; rw [hx.1]; exact .d (.v rfl)
                | 1, hj, ha => simp at hj ha; subst hj; subst ha; exact .d hx.2
                | j + 2, hj, ha => simp at hj
            · exact h1.elim
          | _ => simp [okEntry, hn] at hok
  | _ => exact False.elim hok
theorem put_ok {t : TypeId} {va vk vx : Value} {a j x : AV} (H : HRel P w0 h k m β w) (ha : R m β va a) (hj : R m β vk j) (hx : R m β vx x) (hok : okPut P t a j x h) :
    URes P w0 h k m β w (effPut a j x h) (Instr.mapUpdate t va vk vx) := by
  obtain ⟨h1, h2, h3, h5⟩ := hok
  obtain ⟨kt, hT, hK⟩ := mapT_of h1
  have ek := hj.i64 h2
  subst ek
  have hd := hx.toD (toD_of h3)
  cases a with
  | map n =>
    cases ha with
    | @map _ p hb hv =>
      have h5 : isMapO h n := h5
      unfold isMapO at h5
      split at h5
      · rename_i es hes
        obtain ⟨p', hp', _, l, clock, g1, ⟨g2, gc, gb⟩, g3⟩ := H.obj n _ hes
        rw [hb] at hp'; cases hp'
        have hlt : p.1 < w.heap.size := (Array.getElem?_eq_some_iff.1 g1).1
        have hgo : (getObj p.1).run P w = .ok (.map l clock) w := by simp [getObj, Sem.run, g1]
        have hf := run_find (P := P) hK (j := intOf' j) (l := l.toList) (es := es) (by simpa using g2) (fun q x y hx hy => (g3 q x y (by simpa using hx) hy).1) w
        have hat : ∀ o, ({ w with heap := w.heap.setIfInBounds p.1 o } : World).heap[p.1]? = some o := fun o => by simp [hlt]
        have hother : ∀ o b, b ≠ p.1 → ({ w with heap := w.heap.setIfInBounds p.1 o } : World).heap[b]? = w.heap[b]? := fun o b hne => by simp [Ne.symm hne]
        have eβ : updB β n p = β := by
          funext y; unfold updB; split
          · subst_vars; exact hb.symm
          · rfl
        have fin : ∀ (l' : Array MapEntry) (clock' : Nat), (l'.size = (putM (intOf' j) x.toD es).length ∧ clock' = (putM (intOf' j) x.toD es).length ∧ ∀ (i : Nat) (x : MapEntry), l'[i]? = some x → x.born = i) → (∀ (i : Nat) (e : MapEntry) (y : Int × DV), l'[i]? = some e → (putM (intOf' j) x.toD es)[i]? = some y → e.key = .int .i64 y.1 ∧ RD m e.val y.2) →
            (Instr.mapUpdate t (.map (some p.1)) (.int .i64 (intOf' j)) vx).run P w = .ok () { w with heap := w.heap.setIfInBounds p.1 (.map l' clock') } → URes P w0 h k m β w (effPut (.map n) j x h) (Instr.mapUpdate t (.map (some p.1)) (.int .i64 (intOf' j)) vx) := by
          intro l' clock' hs hl' hrun
          refine ⟨_, m, β, hrun, .rfl' m, .rfl' β, fun _ hn => hn, ?_, rfl⟩
          simp only [effPut, Eff.ap, List.foldl_cons, List.foldl_nil, mapEs, hes]
          have hB : w0.heap.size ≤ p.1 := H.new n p _ hb hes trivial
          have := H.upd1 (n := n) (p := p) (ob := .map (putM (intOf' j) x.toD es)) (m' := m) (w' := { w with heap := w.heap.setIfInBounds p.1 (.map l' clock') }) (le_old hb) (H.dom n p hb) (H.ext.trans ⟨rfl, rfl, rfl, by simp, fun b hbb => hother _ b (by omega)⟩) (.rfl' m) (fun b o v hmv => ?_) ?_ (fun _ => hB) ?_
          · rwa [eβ] at this
          · obtain ⟨q1, q2⟩ := H.mem b o v hmv
            refine ⟨?_, q2⟩
            have hne : b ≠ p.1 := fun e => by
              subst e
              unfold World.cell? at q1
              simp [g1] at q1
            unfold World.cell? at q1 ⊢
            rw [hother _ b hne]; exact q1
          · rw [eβ]; exact ⟨hv, l', clock', hat _, hs, hl'⟩
          · intro y p' ob' hy hob hp' hr
            have hne : p'.1 ≠ p.1 := fun e => hy (H.inj y n p' p ob' _ hob hes hp' hb hr trivial e)
            exact ⟨fun _ => hne, hother _ _ hne, fun _ => rfl⟩
        cases hq : idxM (intOf' j) es with
        | none =>
          obtain ⟨_, q2⟩ := idxM_none hq
          rw [hq] at hf
          refine fin (l.push { key := .int .i64 (intOf' j), val := vx, born := clock }) (clock + 1) ⟨by simp [q2, g2], by simp [q2, gc], fun i e he => by
            rw [Array.getElem?_push] at he
            by_cases hi : i = l.size
            · subst hi; simp at he; subst he; simp only [gc, g2]
            · rw [if_neg hi] at he; exact gb i e he⟩ (fun i e y he hy => ?_) ?_
          · rw [q2] at hy
            rw [Array.getElem?_push] at he
            by_cases hi : i = l.size
            · subst hi
              simp at he
              subst he
              rw [g2, List.getElem?_append_right (Nat.le_refl _)] at hy
              simp at hy
              subst hy
              exact ⟨rfl, hd⟩
            · rw [if_neg hi] at he
              have hlt2 : i < l.size := (Array.getElem?_eq_some_iff.1 he).1
              rw [List.getElem?_append_left (by omega)] at hy
              exact g3 i e y he hy
          · simp [Instr.mapUpdate, run_underlying hT, hgo, run_key hK, hf, MapKept.run_setObj_map _ g1]
        | some d =>
          obtain ⟨u, q1, _, q2⟩ := idxM_some hq
          have hdl : d < l.size := by rw [g2]; exact (List.getElem?_eq_some_iff.1 q1).1
          have hld : l.toList[d]? = some l[d] := by simp [hdl]
          simp only [hq, hld, Option.map_some] at hf
          have hkey : ((l[d]?).map (·.key)).getD (.int .i64 (intOf' j)) = .int .i64 (intOf' j) := by
            rw [Array.getElem?_eq_getElem hdl]
            exact (g3 d l[d] _ (Array.getElem?_eq_getElem hdl) q1).1
          have hbits : Instr.sameBits 10000 (.int .i64 (intOf' j)) (.int .i64 (intOf' j)) = true := by
            have : ∀ d, Instr.sameBits d (.int .i64 (intOf' j)) (.int .i64 (intOf' j)) = true := fun d => by cases d <;> simp [Instr.sameBits]
            exact this _
          have hst : (Instr.keyThatStays (.int .i64 (intOf' j)) (.int .i64 (intOf' j))).run P w = .ok (.int .i64 (intOf' j)) w := by
            simp only [Instr.keyThatStays]
            rw [if_pos hbits]
            simp
          refine fin (l.modify d fun e => { e with key := .int .i64 (intOf' j), val := vx }) clock ⟨by simp [q2, g2], by simp [q2, gc], fun i e he => by
            rw [Array.getElem?_modify] at he
            by_cases hi : d = i
            · subst hi
              rw [if_pos rfl, Array.getElem?_eq_getElem hdl] at he
              simp at he; subst he
              exact gb d l[d] (Array.getElem?_eq_getElem hdl)
            · rw [if_neg hi] at he; exact gb i e he⟩ (fun i e y he hy => ?_) ?_
          · rw [q2, List.getElem?_set] at hy
            rw [Array.getElem?_modify] at he
            by_cases hi : d = i
            · subst hi
              rw [if_pos rfl] at he hy
              rw [Array.getElem?_eq_getElem hdl] at he
              simp at he
              subst he
              rw [if_pos (by omega)] at hy
              cases hy
              exact ⟨rfl, hd⟩
            · rw [if_neg hi] at he hy
              exact g3 i e y he hy
          · simp only [Instr.mapUpdate, Sem.run_bind, run_underlying hT, hgo, run_key hK, hf, Result.andThen_ok, hkey, hst, MapKept.run_setObj_map _ g1]
      · exact h5.elim
  | _ => exact h5.elim
end
end Go.Proofs.Ytmeekpinkfpnhab
namespace Go.Proofs.Ytmeekpinkfpnhab
open Go.RowKit
section
variable {P : Program} {w0 w : World} {m : Mem} {β : Bl} {nm : Nm} {s : St} {a : Act} {n : Nat}
theorem evs_ok (hT : TRel m β s.t a.tmps) (hn : a.tmps.size = n) {xs : Array Operand} (hxs : ∀ x ∈ xs, opndOk n x = true) :
    (xs.map a.eval).size = (xs.toList.map s.ev).length ∧ ∀ (i : Nat) (v : Value) (b : AV), (xs.map a.eval)[i]? = some v → (xs.toList.map s.ev)[i]? = some b → R m β v b := by
  refine ⟨by simp, fun i v b hv hb => ?_⟩
  rw [Array.getElem?_map, Option.map_eq_some_iff] at hv
  rw [List.getElem?_map, Option.map_eq_some_iff] at hb
  obtain ⟨p, hp, rfl⟩ := hv
  obtain ⟨q, hq, rfl⟩ := hb
  rw [Array.getElem?_toList, hp] at hq
  cases hq
  exact ev_ok hT hn (hxs p (Array.mem_of_getElem? hp))
theorem R.bool {v : Value} {b : AV} (hv : R m β v b) (ha : isBool b = true) : v = .bool (boolOf' b) := by
  cases hv with
  | d hd =>
    cases hd with
    | v _ => cases v <;> simp_all [isBool, boolOf']
    | _ => simp [isBool] at ha
  | _ => simp [isBool] at ha
theorem isNil_run {v : Value} {A : AV} {c : Bool} (hv : R m β v A) (hc : isNilA A = some c) : ∃ a n cap, v = .slice a n cap ∧ a.isNone = c := by
  unfold isNilA at hc
  split at hc
  · cases hc; cases hv; exact ⟨_, _, _, rfl, rfl⟩
  · cases hc; cases hv; exact ⟨_, _, _, rfl, rfl⟩
  · cases hc
    cases hv with
    | d hd =>
      generalize hx : DV.sl _ = y at hd
      cases hd with
      | nil => cases hx
      | sl => exact ⟨_, _, _, rfl, rfl⟩
      | _ => cases hx
  · cases hc
theorem nil_run {b : BinOp} {t e : TypeId} {v u : Value} {A B : AV} {c : Bool} (ht : P.underlying t = some (.slice e)) (hv : R m β v A) (hu : R m β u B) (hc : nilCmp b A B = some c) (x y : Operand) : (do eqGuard b t x y v u; binOp b t v u : Sem Value).run P w = .ok (.bool c) w := by
  unfold nilCmp at hc
  split at hc
  · cases hu
    have eq : ∀ (a : Option Addr) (n cap : Nat), (Op.equal t (.slice a n cap) (.slice none 0 0)).run P w = .ok a.isNone w := by
      intro a n cap
      have : ∀ d, (Op.equalIn (d + 1) t (.slice a n cap) (.slice none 0 0)).run P w = .ok a.isNone w := fun d => by
        cases a <;> simp [Op.equalIn, run_underlying ht]
      obtain ⟨d, hd⟩ : ∃ d, Op.maxDepth = d + 1 := ⟨9999, rfl⟩
      unfold Op.equal
      rw [hd]; exact this d
    split at hc
    · obtain ⟨a, n, cap, rfl, rfl⟩ := isNil_run hv hc
      simp [eqGuard, binOp, eq]
    · obtain ⟨c', h1, rfl⟩ := Option.map_eq_some_iff.1 hc
      obtain ⟨a, n, cap, rfl, rfl⟩ := isNil_run hv h1
      simp [eqGuard, binOp, eq]
    · cases hc
  · cases hc
theorem okBuiltin_of {h : Heap} {b : Builtin} {ts : List TypeId} {az : List AV} (hok : okBuiltin P h b ts az) :
    (b = .len ∧ ∃ x t tt, az = [x] ∧ ts = t :: tt ∧ okLen P t x) ∨ (b = .append ∧ ∃ x y t, az = [x, y] ∧ ts = [t, t] ∧ okAppend P t t x y h) ∨ ((b = .min ∨ b = .max) ∧ ∃ x y, az = [x, y] ∧ isI64 x = true ∧ isI64 y = true) := by
  cases b
  case len =>
    match az, ts, hok with
    | [x], t :: tt, hok => exact .inl ⟨rfl, x, t, tt, rfl, rfl, hok⟩
  case append =>
    match az, ts, hok with
    | [x, y], [t, t'], hok =>
      have e : t = t' := hok.2.1
      subst e
      exact .inr (.inl ⟨rfl, x, y, t, rfl, rfl, hok⟩)
  case min =>
    match az, hok with
    | [x, y], hok => exact .inr (.inr ⟨.inl rfl, x, y, rfl, hok.1, hok.2⟩)
  case max =>
    match az, hok with
    | [x, y], hok => exact .inr (.inr ⟨.inr rfl, x, y, rfl, hok.1, hok.2⟩)
  all_goals
    exfalso
    revert hok
    unfold okBuiltin
    split <;> simp_all
theorem op_ok (H : HRel P w0 s.h s.k m β w) (hT : TRel m β s.t a.tmps) (hn : a.tmps.size = n) (o : Oper) (hop : opOk n o.op = true) (hbn : β nm = none) (hk : nm.1 < s.k) (hok : okOf P o.op s.ev s.h) :
    NRes P w0 s.h s.k m β w nm (effOf P nm o.op s.ev s.h) (execOp a.eval o) := by
  obtain ⟨dst, op, ty, pos, after, guard⟩ := o
  simp only [opOk, Array.all_eq_true_iff_forall_mem] at hop
  have ev := fun x hx => ev_ok hT hn (hop x hx)
  cases op with
  | move x => exact .pure H (ev x (by simp [Op.operands]))
  | assign x => exact .pure H (ev x (by simp [Op.operands]))
  | pick c x y =>
    have hc := (ev c (by simp [Op.operands])).bool hok
    refine ⟨if boolOf' (s.ev c) then a.eval x else a.eval y, w, m, β, .inl ?_, .rfl' m, .rfl' β, fun _ _ h => h, H, ?_⟩
    · simp [execOp, hc, asBool]
    · simp only [effOf, pure']
      split
      · exact ev x (by simp [Op.operands])
      · exact ev y (by simp [Op.operands])
  | alloc e => exact .val (alloc_ok H hbn hk hok)
  | box e x => exact .val (box_ok H hbn hk (ev x (by simp [Op.operands])) hok)
  | build t ps =>
    obtain ⟨h1, h2, h3⟩ := hok
    obtain ⟨h4, h5⟩ := parts_ok hT hn (ps := ps) (fun x hx => hop x.2 (by simp [Op.operands]; exact ⟨x.1, by simpa using hx⟩))
    exact .val (build_ok H h4 h5 h1 h2 h3)
  | buildSlice t len ps =>
    obtain ⟨h4, h5⟩ := parts_ok hT hn (ps := ps) (fun x hx => hop x.2 (by simp [Op.operands]; exact ⟨x.1, by simpa using hx⟩))
    exact .val (buildSlice_ok H hbn hk h4 h5 hok)
  | load t x => exact .val (load_ok H hok.1 (ev x (by simp [Op.operands])) hok.2)
  | store t x y => exact .unit (store_ok H hok.1 (ev x (by simp [Op.operands])) (ev y (by simp [Op.operands])) hok.2)
  | nilCheck x =>
    have hx := ev x (by simp [Op.operands])
    have hpl : isPlace (s.ev x) = true := hok
    have : ∃ ad, a.eval x = .pointer (some ad) := by
      clear hok
      generalize a.eval x = v at hx
      generalize s.ev x = b at hx hpl
      cases hx <;> first | exact ⟨_, rfl⟩ | simp [isPlace] at hpl
    obtain ⟨ad, had⟩ := this
    refine ⟨a.eval x, w, m, β, .inl ?_, .rfl' m, .rfl' β, fun _ _ h => h, H, hx⟩
    simp [execOp, had]
  | binOp b t x y ty' =>
    have r1 := ev x (by simp [Op.operands])
    have r2 := ev y (by simp [Op.operands])
    simp only [okOf] at hok
    simp only [effOf]
    cases hc : nilCmp b (s.ev x) (s.ev y) with
    | none =>
      rw [hc] at hok
      obtain ⟨h1, h2, h3⟩ := hok
      obtain ⟨e1, _⟩ := r1.val h1
      obtain ⟨e2, _⟩ := r2.val h2
      obtain ⟨h4, h5⟩ := bin_run (P := P) (w := w) h3 x y
      refine .val (VRes.same H ?_ rfl (.d (.v h5)))
      rw [e1, e2]
      exact h4
    | some c =>
      rw [hc] at hok
      refine .val (VRes.same (v := .bool c) H ?_ rfl (.d (.v rfl)))
      exact nil_run (slT_of hok) r1 r2 hc x y
  | unOp u t x =>
    obtain ⟨h1, h3⟩ := hok
    obtain ⟨e1, _⟩ := (ev x (by simp [Op.operands])).val h1
    obtain ⟨h4, h5⟩ := un_run (P := P) (w := w) h3
    refine .val (VRes.same H ?_ rfl (.d (.v h5)))
    rw [e1]
    exact h4
  | fieldAddr t x f =>
    obtain ⟨h1, fl, h2, h3, h4⟩ := hok
    have := fieldAddr_ok (nm := nm) H (ev x (by simp [Op.operands])) h1 h2 h3 h4
    simp only [effOf, h2, Option.getD_some]
    exact .val this
  | field t x f =>
    obtain ⟨fl, h2, h3, h4, h5⟩ := hok
    have := field_ok (nm := nm) H (ev x (by simp [Op.operands])) h5 h2 h3 h4
    simp only [effOf, h2, Option.getD_some]
    exact .val this
  | indexAddr t x i =>
    obtain ⟨h1, h2, h3⟩ := hok
    exact .val (indexAddr_ok H (ev x (by simp [Op.operands])) (ev i (by simp [Op.operands])) h1 h2 h3)
  | index t x i =>
    obtain ⟨h1, h2, h3⟩ := hok
    have hx := ev x (by simp [Op.operands])
    obtain ⟨kk, hi⟩ := (ev i (by simp [Op.operands])).int h2
    generalize hA : s.ev x = A at hx h3
    generalize hV : a.eval x = V at hx
    split at h3
    · rename_i st
      obtain ⟨h4, h5⟩ := h3
      cases hx with
      | d hd =>
        cases hd with
        | v _ =>
          have hlt : (intOf' (s.ev i)).toNat < st.size := by omega
          refine .val (VRes.same (v := .int .u8 (byteAt st (intOf' (s.ev i)).toNat)) H ?_ rfl ?_)
          · rw [hV, hi]
            have hb : byteAt st (intOf' (s.ev i)).toNat = (st[(intOf' (s.ev i)).toNat]'hlt).toNat := by
              unfold byteAt
              rw [getElem?_pos st _ hlt]
            simp only [Instr.index, Sem.run_bind, run_asIntOf', Result.andThen_ok, run_underlying (strT_of h1)]
            rw [if_pos h4, getElem?_pos st _ hlt, hb]
            rfl
          · simp only [effOf, hA]
            exact .d (.v rfl)
    · exact h3.elim
  | slice t x lo hi mx =>
    obtain ⟨h1, h2, h3⟩ := hok
    have key : ∀ (l : Option Operand), (∀ x, l = some x → opndOk n x = true) → (∀ v, l.map a.eval = some v → ∃ b, l.map s.ev = some b ∧ R m β v b) ∧ (l.map a.eval = none → l.map s.ev = none) := by
      intro l hl
      cases l with
      | none => exact ⟨fun v hv => by simp at hv, fun _ => rfl⟩
      | some x => exact ⟨fun v hv => by simp at hv; subst hv; exact ⟨_, rfl, ev_ok hT hn (hl x rfl)⟩, fun hv => by simp at hv⟩
    obtain ⟨l1, l2⟩ := key lo fun x hx => hop x (by subst hx; simp [Op.operands])
    obtain ⟨l3, l4⟩ := key hi fun x hx => hop x (by subst hx; simp [Op.operands])
    obtain ⟨l5, l6⟩ := key mx fun x hx => hop x (by subst hx; simp [Op.operands])
    exact .val (slice_ok H hbn hk (ev x (by simp [Op.operands])) l1 l2 l3 l4 l5 l6 h1 h3)
  | makeFunc f first caps =>
    obtain ⟨h1, h2⟩ := evs_ok hT hn (xs := first) (fun x hx => hop x (by simp [Op.operands, hx]))
    obtain ⟨h3, h4⟩ := evs_ok hT hn (xs := caps) (fun x hx => hop x (by simp [Op.operands, hx]))
    refine .val (VRes.same (v := .func f (first.map a.eval) (caps.map a.eval)) H rfl rfl (.fn h1 h3 h2 h4))
  | makeSlice t l c => exact .val (makeSlice_ok H hbn hk (ev l (by simp [Op.operands])) (ev c (by simp [Op.operands])) hok)
  | extract x i =>
    have hx := ev x (by simp [Op.operands])
    simp only [okOf] at hok
    simp only [effOf]
    generalize s.ev x = A at hx hok
    generalize hV : a.eval x = V at hx
    split at hok
    · rename_i vs
      cases hx with
      | @tup us _ hl hr =>
        have hu : us[i]? = some (us[i]'(by omega)) := Array.getElem?_eq_getElem (by omega)
        refine .val (VRes.same (v := us[i]'(by omega)) H ?_ rfl ?_)
        · rw [hV]
          simp [Instr.extract, hu]
        · simp only [pure']
          rw [List.getD_eq_getElem?_getD, List.getElem?_eq_getElem hok]
          exact hr i _ _ hu (List.getElem?_eq_getElem hok)
    · exact hok.elim
  | makeMap t r =>
    cases r with
    | none => exact .val (makeMap_ok H hbn hk)
    | some _ => exact hok.elim
  | entry x => exact .val (entry_ok H (ev x (by simp [Op.operands])) hok)
  | range t x => exact .val (range_ok H hbn hk (ev x (by simp [Op.operands])) hok)
  | mapUpdate t x y z => exact .unit (put_ok H (ev x (by simp [Op.operands])) (ev y (by simp [Op.operands])) (ev z (by simp [Op.operands])) hok)
  | insert t x y z => exact .unit (put_ok H (ev x (by simp [Op.operands])) (ev y (by simp [Op.operands])) (ev z (by simp [Op.operands])) hok)
  | lookup t x y c => exact .val (look_ok H (ev x (by simp [Op.operands])) (ev y (by simp [Op.operands])) c hok)
  | call c =>
    obtain ⟨callee, args, ats⟩ := c
    cases callee with
    | builtin b =>
      have hargs := evs_ok hT hn (xs := args) (fun x hx => hop x (by simp [Op.operands, Call.operands, hx]))
      have hsz : (args.map a.eval).size = (args.toList.map s.ev).length := hargs.1
      have hR := hargs.2
      simp only [okOf] at hok
      simp only [effOf]
      generalize args.toList.map s.ev = az at hok hsz hR
      have two : ∀ x y, az = [x, y] → ∃ v0 v1, args.map a.eval = #[v0, v1] ∧ R m β v0 x ∧ R m β v1 y := by
        intro x y e
        subst e
        have h2 : (args.map a.eval).size = 2 := hsz
        refine ⟨(args.map a.eval)[0]'(by omega), (args.map a.eval)[1]'(by omega), ?_, hR 0 _ x (Array.getElem?_eq_getElem (by omega)) rfl, hR 1 _ y (Array.getElem?_eq_getElem (by omega)) rfl⟩
        apply Array.ext
        · exact h2
        · intro i h3 h4
          have : i < 2 := h4
          match i, this with
          | 0, _ => rfl
          | 1, _ => rfl
      have one : ∀ x, az = [x] → ∃ v0, args.map a.eval = #[v0] ∧ R m β v0 x := by
        intro x e
        subst e
        have h2 : (args.map a.eval).size = 1 := hsz
        refine ⟨(args.map a.eval)[0]'(by omega), ?_, hR 0 _ x (Array.getElem?_eq_getElem (by omega)) rfl⟩
        apply Array.ext
        · exact h2
        · intro i h3 h4
          have : i < 1 := h4
          match i, this with
          | 0, _ => rfl
      clear hR hsz hargs
      rcases okBuiltin_of hok with ⟨rfl, x, t, tt, rfl, hat, hl⟩ | ⟨rfl, x, y, t, rfl, hat, hl⟩ | ⟨hb, x, y, rfl, h1, h2⟩
      · obtain ⟨v0, e2, r0⟩ := one x rfl
        have hat0 : ats[0]? = some t := by rw [← Array.getElem?_toList, hat]; rfl
        obtain ⟨v, w', m', β', g1, g2⟩ := len_ok (nm := nm) (ty := ty) H r0 hl
        refine ⟨v, w', m', β', .inl ?_, ?_⟩
        · have e3 : Builtin.len_ ats ty #[v0] = Builtin.len_ #[t] ty #[v0] := by simp [Builtin.len_, hat0]
          simp [execOp, resolve, invoke, builtin, e2, e3, g1]
        · simpa [effBuiltin] using g2
      · obtain ⟨v0, v1, e2, r0, r1⟩ := two x y rfl
        have e1 : ats = #[t, t] := by apply Array.ext'; simpa using hat
        subst e1
        obtain ⟨v, w', m', β', g1, g2⟩ := append_ok H hbn hk r0 r1 hl ty
        refine ⟨v, w', m', β', .inl ?_, ?_⟩
        · simp [execOp, resolve, invoke, builtin, e2, g1]
        · simpa [effBuiltin] using g2
      · obtain ⟨v0, v1, e2, r0, r1⟩ := two x y rfl
        have q0 := r0.i64 h1
        have q1 := r1.i64 h2
        subst q0; subst q1
        rcases hb with rfl | rfl
        · refine ⟨.int .i64 (if intOf' y < intOf' x then intOf' y else intOf' x), w, m, β, .inl ?_, .rfl' m, .rfl' β, fun _ _ h => h, H, .d (.v rfl)⟩
          simp [execOp, resolve, invoke, builtin, e2, run_min_int2]
        · refine ⟨.int .i64 (if intOf' y > intOf' x then intOf' y else intOf' x), w, m, β, .inl ?_, .rfl' m, .rfl' β, fun _ _ h => h, H, .d (.v rfl)⟩
          simp [execOp, resolve, invoke, builtin, e2, run_max_int2]
    | _ => exact hok.elim
  | _ => exact hok.elim
end
end Go.Proofs.Ytmeekpinkfpnhab
namespace Go.Proofs.Ytmeekpinkfpnhab
open Go.RowKit
def Tri (P : Program) (f : FuncId) (args : List AV) (e : Eff) : Prop :=
  ∀ (w0 : World) (h : Heap) (k : Nat) (m : Mem) (β : Bl) (w : World) (cargs : Array Value), HRel P w0 h k m β w → (∀ x ∈ e.rd, h x.1 = x.2) → (∀ x ∈ e.wr, x.1.1 < k ∧ (h x.1 = none → β x.1 = none)) →
    cargs.size = args.length → (∀ (i : Nat) (v : Value) (a : AV), cargs[i]? = some v → args[i]? = some a → R m β v a) →
    Calls P f cargs w fun en w' => ∃ v m' β', en = .returned v ∧ m.le m' ∧ β.le β' ∧ (∀ n, (∀ x ∈ e.wr, x.1 ≠ n) → β n = none → β' n = none) ∧ HRel P w0 (e.ap h) k m' β' w' ∧ R m' β' v e.val
def St.step (s : St) (o : Oper) (e : Eff) : St := ⟨match o.dst with | some d => set s.t d e.val | none => s.t, e.ap s.h, s.k⟩
def coL : List AV → List AV → Prop
  | [], [] => True
  | a :: az, b :: bs => (b = a ∨ b = a.dat) ∧ coL az bs
  | _, _ => False
def enterOk (P : Program) (f : FuncId) : Prop := ∀ args w, Sem.run P (callFunc f args) w = .ok (.enter f args) w
def CallOK (P : Program) (tick i : Nat) (f : Operand) (args : Array Operand) (s : St) (e : Eff) : Prop :=
  ∃ g first caps az, s.ev f = .fn (.func g) first caps ∧ enterOk P g ∧ coL (args.toList.map s.ev) az ∧ Tri P g (first ++ az ++ caps) e ∧ (∀ x ∈ e.rd, s.h x.1 = x.2) ∧ (∀ x ∈ e.wr, s.h x.1 ≠ none ∨ x.1.1 = tick ∧ x.1.2 % 1000 = i)
def ActOK (P : Program) (tick i : Nat) (o : Oper) (s : St) (e : Eff) : Prop :=
  match o.op with
  | .call ⟨.value f, args, _⟩ => CallOK P tick i f args s e
  | op => okOf P op s.ev s.h ∧ e = effOf P (tick, i) op s.ev s.h
def nop : Eff := ⟨.un, [], []⟩
def guardOk : AV → Prop
  | .un => True
  | x => isBool x = true
def guardB (b : Bool) : AV → Bool
  | .d (.v (.bool c)) => c == b
  | _ => false
def gslot (ops : Array Oper) (j : Nat) : Option Nat := (ops[j]?).bind (·.dst)
def gval (ops : Array Oper) (s : St) (j : Nat) : AV := match gslot ops j with | some d => s.t d | none => .junk
def isCallV : Op → Bool
  | .call ⟨.value _, _, _⟩ => true
  | _ => false
def runF (P : Program) (ops : Array Oper) (tick : Nat) : List Oper → Nat → St → (St → Prop) → Prop
  | [], _, s, K => K s
  | o :: rest, i, s, K =>
    match o.guard with
    | none => ∃ e, ActOK P tick i o s e ∧ runF P ops tick rest (i + 1) (s.step o e) K
    | some (j, b) => guardOk (gval ops s j) ∧ (guardB b (gval ops s j) = true → ∃ e, ActOK P tick i o s e ∧ runF P ops tick rest (i + 1) (s.step o e) K) ∧
        (guardB b (gval ops s j) = false → runF P ops tick rest (i + 1) (s.step o nop) K)
def CallK (P : Program) (ops : Array Oper) (tick i : Nat) (o : Oper) (rest : List Oper) (s : St) (K : St → Prop) : Prop := ∃ e, ActOK P tick i o s e ∧ runF P ops tick rest (i + 1) (s.step o e) K
def runL (P : Program) (ops : Array Oper) (tick : Nat) : List Oper → Nat → St → (St → Prop) → Prop
  | [], _, s, K => K s
  | o :: rest, i, s, K =>
    match o.guard with
    | none => if isCallV o.op then CallK P ops tick i o rest s K
        else okOf P o.op s.ev s.h ∧ runL P ops tick rest (i + 1) (s.step o (effOf P (tick, i) o.op s.ev s.h)) K
    | some (j, b) => guardOk (gval ops s j) ∧
        if guardB b (gval ops s j) = true then (if isCallV o.op then CallK P ops tick i o rest s K
          else okOf P o.op s.ev s.h ∧ runL P ops tick rest (i + 1) (s.step o (effOf P (tick, i) o.op s.ev s.h)) K)
        else runL P ops tick rest (i + 1) (s.step o nop) K
theorem runF_of {P : Program} {ops : Array Oper} {tick : Nat} {K : St → Prop} : ∀ (l : List Oper) (i : Nat) (s : St), runL P ops tick l i s K → runF P ops tick l i s K
  | [], _, _, h => h
  | o :: rest, i, s, h => by
    have act : (if isCallV o.op then CallK P ops tick i o rest s K else okOf P o.op s.ev s.h ∧ runL P ops tick rest (i + 1) (s.step o (effOf P (tick, i) o.op s.ev s.h)) K) → ∃ e, ActOK P tick i o s e ∧ runF P ops tick rest (i + 1) (s.step o e) K := by
      intro hh
      by_cases hc : isCallV o.op = true
      · rw [if_pos hc] at hh; exact hh
      · rw [if_neg hc] at hh
        refine ⟨_, ?_, runF_of rest _ _ hh.2⟩
        unfold ActOK
        split
        · rename_i heq; rw [heq] at hc; simp [isCallV] at hc
        · exact ⟨hh.1, rfl⟩
    unfold runF
    rw [runL] at h
    split at h
    · exact act h
    · rename_i j b _
      refine ⟨h.1, fun hb => act (by have h2 := h.2; rw [if_pos hb] at h2; exact h2), fun hb => runF_of rest _ _ (by have h2 := h.2; rw [if_neg (by rw [hb]; decide)] at h2; exact h2)⟩
def dstOk (n : Nat) (o : Oper) : Bool := match o.dst with | some d => decide (d < n) | none => true
def regOk (n : Nat) (ops : List Oper) : Bool := ops.all (fun o => opOk n o.op && dstOk n o) && decide (ops.length < 1000)
section
variable {P : Program} {w0 w : World} {m : Mem} {β : Bl} {s : St} {a : Act} {n : Nat}
theorem coL_R : ∀ {az bs : List AV}, coL az bs → az.length = bs.length ∧ ∀ {m : Mem} {β : Bl} (i : Nat) (v : Value) (a b : AV), az[i]? = some a → bs[i]? = some b → R m β v a → R m β v b
  | [], [], _ => ⟨rfl, fun i v a b h => by simp at h⟩
  | [], _ :: _, h => h.elim
  | _ :: _, [], h => h.elim
  | x :: xs, y :: ys, h => by
    obtain ⟨h1, h2⟩ := h
    obtain ⟨h3, h4⟩ := coL_R h2
    refine ⟨by simp [h3], fun i v a b ha hb hr => ?_⟩
    cases i with
    | zero =>
      simp at ha hb
      subst ha; subst hb
      rcases h1 with rfl | rfl
      · exact hr
      · exact hr.dat
    | succ i => exact h4 i v a b (by simpa using ha) (by simpa using hb) hr
structure Goes (P : Program) (w0 : World) (m : Mem) (β : Bl) (s' : St) (m' : Mem) (β' : Bl) (a' : Act) (w' : World) : Prop where
  mem : m.le m'
  bl : β.le β'
  heap : HRel P w0 s'.h s'.k m' β' w'
  slots : TRel m' β' s'.t a'.tmps
theorem put_size (a : Act) (d : Option Tmp) (v : Value) : (a.put d v).tmps.size = a.tmps.size := by cases d <;> simp [Act.put]
theorem put_defers (a : Act) (d : Option Tmp) (v : Value) : (a.put d v).defers = a.defers := by cases d <;> rfl
theorem step_slots {o : Oper} {e : Eff} {m' : Mem} {β' : Bl} {v : Value} (hT : TRel m β s.t a.tmps) (hm : m.le m') (hb : β.le β') (hr : R m' β' v e.val) : TRel m' β' (s.step o e).t (a.put o.dst v).tmps := by
  unfold St.step
  cases hd : o.dst with
  | none => exact hT.mono hm hb
  | some d => exact (hT.mono hm hb).put hr
theorem act_sound {tick i : Nat} {o : Oper} {e : Eff} {K : Act → World → Prop} {Q : Exit → Act → World → Prop} (hact : ActOK P tick i o s e) (hop : opOk n o.op = true) (hn : a.tmps.size = n) (hk : tick < s.k) (hi : i < 1000)
    (H : HRel P w0 s.h s.k m β w) (hT : TRel m β s.t a.tmps) (hfresh : ∀ j, j % 1000 = i → β (tick, j) = none)
    (hK : ∀ v m' β' w', Goes P w0 m β (s.step o e) m' β' (a.put o.dst v) w' → (∀ x, ¬ (x.1 = tick ∧ x.2 % 1000 = i) → β x = none → β' x = none) → K (a.put o.dst v) w') : o.wp P a w K Q := by
  obtain ⟨dst, op, ty, pos, after, guard⟩ := o
  have plain : okOf P op s.ev s.h ∧ e = effOf P (tick, i) op s.ev s.h → Oper.wp P ⟨dst, op, ty, pos, after, guard⟩ a w K Q := by
    rintro ⟨h1, rfl⟩
    obtain ⟨v, w', m', β', hr, h3, h4, h5, h6, h7⟩ := op_ok H hT hn ⟨dst, op, ty, pos, after, guard⟩ hop (hfresh i (Nat.mod_eq_of_lt hi)) hk h1
    have hgo := hK v m' β' w' ⟨h3, h4, h6, step_slots hT h3 h4 h7⟩ fun x hx => h5 x fun e => hx (by subst e; exact ⟨rfl, Nat.mod_eq_of_lt hi⟩)
    unfold Oper.wp
    rcases hr with hr | ⟨hr, rfl⟩
    · rw [hr]; exact hgo
    · rw [hr]; exact hgo
  by_cases hc : isCallV op = true
  · cases op <;> simp [isCallV] at hc
    rename_i c
    obtain ⟨callee, args, ats⟩ := c
    cases callee <;> simp [isCallV] at hc
    rename_i f
    obtain ⟨g, first, caps, az, hf, hent, hco, htri, hrd, hwr⟩ := hact
    simp only [opOk, Array.all_eq_true_iff_forall_mem] at hop
    have hfv := ev_ok hT hn (hop f (by simp [Op.operands, Call.operands]))
    rw [hf] at hfv
    obtain ⟨ha1, ha2⟩ := evs_ok hT hn (xs := args) (fun x hx => hop x (by simp [Op.operands, Call.operands, hx]))
    generalize hV : a.eval f = V at hfv
    cases hfv with
    | @fn _ fs cs _ _ h1 h2 h3 h4 =>
      have hres : (execOp a.eval ⟨dst, .call ⟨.value f, args, ats⟩, ty, pos, after, guard⟩).run P w = .ok (.enter g (fs ++ args.map a.eval ++ cs)) w := by
        simp [execOp, resolve, Deferred.ofValue, hV, invoke, hent _ w]
      obtain ⟨hl, hcR⟩ := coL_R hco
      have hlen : (fs ++ args.map a.eval ++ cs).size = (first ++ az ++ caps).length := by
        have : args.size = az.length := by simpa using hl
        simp [h1, h2, this]
      have hargs : ∀ (q : Nat) (v : Value) (b : AV), (fs ++ args.map a.eval ++ cs)[q]? = some v → (first ++ az ++ caps)[q]? = some b → R m β v b := by
        intro q v b hv hb
        have hla : (args.map a.eval).size = az.length := by rw [ha1, hl]
        by_cases q1 : q < first.length
        · rw [Array.getElem?_append_left (by simp; omega), Array.getElem?_append_left (by omega)] at hv
          rw [List.getElem?_append_left (by simp; omega), List.getElem?_append_left q1] at hb
          exact h3 q v b hv hb
        · by_cases q2 : q < first.length + az.length
          · rw [Array.getElem?_append_left (by simp at hla ⊢; omega), Array.getElem?_append_right (by omega)] at hv
            rw [List.getElem?_append_left (by simp; omega), List.getElem?_append_right (by omega)] at hb
            rw [h1] at hv
            have hq : q - first.length < (args.toList.map s.ev).length := by rw [hl]; omega
            exact hcR _ v _ b (List.getElem?_eq_getElem hq) hb (ha2 _ v _ hv (List.getElem?_eq_getElem hq))
          · rw [Array.getElem?_append_right (by simp at hla ⊢; omega)] at hv
            rw [List.getElem?_append_right (by simp; omega)] at hb
            have e1 : q - (fs ++ args.map a.eval).size = q - (first ++ az).length := by simp at hla ⊢; omega
            rw [e1] at hv
            exact h4 _ v b hv hb
      have hcalls := htri w0 s.h s.k m β w _ H hrd (fun x hx => by
        rcases hwr x hx with h | ⟨h, h'⟩
        · obtain ⟨ob, hob⟩ := Option.ne_none_iff_exists'.1 h
          obtain ⟨p, hp, _⟩ := H.obj _ _ hob
          exact ⟨H.dom _ _ hp, fun h0 => absurd h0 h⟩
        · exact ⟨by omega, fun _ => by have := hfresh x.1.2 h'; rw [← h] at this; exact this⟩) hlen hargs
      unfold Oper.wp
      rw [hres]
      refine hcalls.mono ?_
      rintro en w' ⟨v, m', β', rfl, g1, g2, g3, g4, g5⟩
      refine hK v m' β' w' ⟨g1, g2, g4, step_slots hT g1 g2 g5⟩ fun x hx h0 => ?_
      by_cases hin : ∃ y ∈ e.wr, y.1 = x
      · obtain ⟨y, hy, rfl⟩ := hin
        rcases hwr y hy with h | h
        · obtain ⟨ob, hob⟩ := Option.ne_none_iff_exists'.1 h
          obtain ⟨p, hp, _⟩ := H.obj _ _ hob
          rw [hp] at h0; cases h0
        · exact absurd h hx
      · exact g3 x (fun y hy e => hin ⟨y, hy, e⟩) h0
  · refine plain ?_
    unfold ActOK at hact
    simp only at hact
    split at hact
    · simp [isCallV] at hc
    · exact hact
theorem CallK.pure {tick i : Nat} {dst : Option Tmp} {g : FuncId} {args : Array Operand} {ats : Array TypeId} {ty : TypeId} {pos : String} {after : Array Edge} {guard : Option (Nat × Bool)} {ops : Array Oper} {rest : List Oper} {K : St → Prop} {az : List AV} {v : AV} (hent : enterOk P g) (ht : Tri P g az (pure' v))
    (hco : coL (args.toList.map s.ev) az) (hk : runL P ops tick rest (i + 1) (s.step ⟨dst, .call ⟨.value (.func g), args, ats⟩, ty, pos, after, guard⟩ (pure' v)) K) : CallK P ops tick i ⟨dst, .call ⟨.value (.func g), args, ats⟩, ty, pos, after, guard⟩ rest s K :=
  ⟨pure' v, ⟨g, [], [], az, rfl, hent, hco, by simpa using ht, fun x hx => (by cases hx), fun x hx => (by cases hx)⟩, runF_of _ _ _ hk⟩
theorem CallK.eff {tick i : Nat} {dst : Option Tmp} {g : FuncId} {args : Array Operand} {ats : Array TypeId} {ty : TypeId} {pos : String} {after : Array Edge} {guard : Option (Nat × Bool)} {ops : Array Oper} {rest : List Oper} {K : St → Prop} {az : List AV} {e : Eff} (hent : enterOk P g) (ht : Tri P g az e)
    (hco : coL (args.toList.map s.ev) az) (hrd : ∀ x ∈ e.rd, s.h x.1 = x.2) (hwr : ∀ x ∈ e.wr, s.h x.1 ≠ none ∨ x.1.1 = tick ∧ x.1.2 % 1000 = i) (hk : runL P ops tick rest (i + 1) (s.step ⟨dst, .call ⟨.value (.func g), args, ats⟩, ty, pos, after, guard⟩ e) K) : CallK P ops tick i ⟨dst, .call ⟨.value (.func g), args, ats⟩, ty, pos, after, guard⟩ rest s K :=
  ⟨e, ⟨g, [], [], az, rfl, hent, hco, by simpa using ht, hrd, hwr⟩, runF_of _ _ _ hk⟩
theorem gval_sound {ops : Array Oper} {j : Nat} {b : Bool} (hT : TRel m β s.t a.tmps) (hn : a.tmps.size = n) (hd : ∀ o ∈ ops, dstOk n o = true) (hg : guardOk (gval ops s j)) : (yielded ops a.tmps j == some b) = guardB b (gval ops s j) := by
  unfold gval gslot at hg ⊢
  cases ho : ops[j]? with
  | none => simp [ho, guardOk, isBool] at hg
  | some o =>
    simp only [ho, Option.bind_some] at hg ⊢
    cases hdd : o.dst with
    | none => simp [hdd, guardOk, isBool] at hg
    | some d =>
      simp only [hdd] at hg ⊢
      have := hd o (Array.mem_of_getElem? ho)
      simp only [dstOk, hdd, decide_eq_true_eq] at this
      have hlt : d < a.tmps.size := by rw [hn]; exact this
      have hv : a.tmps[d]? = some a.tmps[d] := Array.getElem?_eq_getElem hlt
      have hr := hT d _ hv
      have hq : isBool (s.t d) = true → (yielded ops a.tmps j == some b) = guardB b (s.t d) := fun hq => by
        have hb := hr.bool hq
        have e : s.t d = .d (.v (.bool (boolOf' (s.t d)))) := by
          generalize s.t d = x at hq
          cases x with
          | d y => cases y with
            | v z => cases z <;> simp_all [isBool, boolOf']
            | _ => simp [isBool] at hq
          | _ => simp [isBool] at hq
        rw [e]
        simp only [yielded, ho, Option.bind_some, hdd, hv, hb, guardB, boolOf']
        rfl
      generalize hx : s.t d = x at hg hr hq
      cases x with
      | un =>
        cases hu : a.tmps[d] with
        | _ => rw [hu] at hr; cases hr <;> simp [yielded, ho, hdd, hv, hu, guardB]
      | _ => exact hq hg
theorem runF_sound {ops : Array Oper} {tick : Nat} {Q : Exit → Act → World → Prop} {K : St → Prop} (hd : ∀ o ∈ ops, dstOk n o = true) : ∀ (l : List Oper) (i : Nat) (s : St) (m : Mem) (β : Bl) (a : Act) (w : World), runF P ops tick l i s K → (∀ o ∈ l, opOk n o.op = true) → i + l.length ≤ 1000 → a.tmps.size = n → tick < s.k →
    HRel P w0 s.h s.k m β w → TRel m β s.t a.tmps → (∀ j, i ≤ j % 1000 → β (tick, j) = none) →
    (∀ s' m' β' a' w', K s' → a'.tmps.size = n → a'.defers = a.defers → s'.k = s.k → Goes P w0 m β s' m' β' a' w' → (∀ x, x.1 ≠ tick → β x = none → β' x = none) → Q .normal a' w') → wpList P ops Q l a w
  | [], i, s, m, β, a, w, hr, _, _, hn, _, H, hT, _, hQ => hQ s m β a w hr hn rfl rfl ⟨.rfl' m, .rfl' β, H, hT⟩ fun _ _ h => h
  | o :: rest, i, s, m, β, a, w, hr, hop, hi, hn, hk, H, hT, hfr, hQ => by
    have hlen : i < 1000 := by simp at hi; omega
    have hop1 := hop o (by simp)
    -- what follows an operation's effect
    have next : ∀ (e : Eff), runF P ops tick rest (i + 1) (s.step o e) K → ∀ v m' β' w', Goes P w0 m β (s.step o e) m' β' (a.put o.dst v) w' → (∀ x, ¬ (x.1 = tick ∧ x.2 % 1000 = i) → β x = none → β' x = none) → wpList P ops Q rest (a.put o.dst v) w' := by
      intro e hre v m' β' w' hg hb
      refine runF_sound hd rest (i + 1) (s.step o e) m' β' (a.put o.dst v) w' hre (fun o ho => hop o (by simp [ho])) (by simp at hi; omega) (by rw [put_size, hn]) hk hg.heap hg.slots (fun j hj => ?_) ?_
      · exact hb (tick, j) (fun h => by have := h.2; simp at this; omega) (hfr j (by omega))
      · intro s' m'' β'' a' w'' h1 h2 h3 h4 h5 h6
        refine hQ s' m'' β'' a' w'' h1 h2 (h3.trans (put_defers _ _ _)) h4 ⟨hg.mem.trans h5.mem, hg.bl.trans h5.bl, h5.heap, h5.slots⟩ fun x hx h0 => h6 x hx (hb x (fun h => hx h.1) h0)
    have act : (∃ e, ActOK P tick i o s e ∧ runF P ops tick rest (i + 1) (s.step o e) K) → o.wp P a w (wpList P ops Q rest) Q := by
      rintro ⟨e, h1, h2⟩
      exact act_sound h1 hop1 hn hk hlen H hT (fun j hj => hfr j (by omega)) fun v m' β' w' hg hb => next e h2 v m' β' w' hg hb
    unfold wpList
    rw [runF] at hr
    split at hr
    · rename_i hg
      rw [if_pos (by simp [Region.wanted, hg])]
      exact .inl (act hr)
    · rename_i j b hg
      obtain ⟨h1, h2, h3⟩ := hr
      have hy := gval_sound (b := b) hT hn hd h1
      by_cases hb : guardB b (gval ops s j) = true
      · rw [if_pos (by simp [Region.wanted, hg, hb] at hy ⊢; exact hy)]
        exact .inl (act (h2 hb))
      · have hb' : guardB b (gval ops s j) = false := by simpa using hb
        rw [if_neg (by simp [Region.wanted, hg, hb'] at hy ⊢; exact hy)]
        exact next nop (h3 hb') undef m β w ⟨.rfl' m, .rfl' β, H, step_slots (e := nop) hT (.rfl' m) (.rfl' β) .un⟩ fun _ _ h => h
end
end Go.Proofs.Ytmeekpinkfpnhab
