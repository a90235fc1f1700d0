/- Bindings in whatever order, made to rise. No program in sight. Arrays that a call makes: frozen as lists. slices.SortFunc of bindings, in an array. Maps whose order is not told; lists that grow and are not frozen: steps ahead of code. subst.list. subst.list, of whatever bindings. The unifier: Both. The unifier: Both, where there is an answer. subst.list of the nil map; subst.Unify, subst.Match. FRSTH subst.Unify, subst.Match: their answers. FRSTH -/
import Derived.Test.YtmeekpinkfpnhabB03
import Derived.Test.YtmeekpinkfpnhabB04
import Derived.Test.YtmeekpinkfpnhabB06
import Derived.Test.YtmeekpinkfpnhabB08
import Derived.Test.YtmeekpinkfpnhabB10
import Derived.Test.YtmeekpinkfpnhabB11
import Derived.Shelf.SlSortCmp.WholeK
import Derived.Sort.LotA
import Derived.Ground.SlsfProg
set_option linter.unusedSimpArgs false
set_option linter.unusedSectionVars false
set_option linter.unusedVariables false
set_option linter.unnecessarySimpa false
set_option linter.all false
namespace Go.Proofs.Ytmeekpinkfpnhab
def sortB (b : Bs) : Bs := b.mergeSort fun p q => decide (p.1 ≤ q.1)
theorem sortB_len (b : Bs) : (sortB b).length = b.length := by unfold sortB; simp
theorem perm_unmap {α β : Type} (f : α → β) {l l' : List β} (h : l.Perm l') : ∀ b : List α, l = b.map f → ∃ b' : List α, l' = b'.map f ∧ b.Perm b' := by
  induction h with
  | nil => intro b hb; exact ⟨[], rfl, by cases b with | nil => exact .nil | cons => cases hb⟩
  | cons x _ ih =>
    intro b hb
    cases b with
    | nil => cases hb
    | cons y b =>
      rw [List.map_cons] at hb
      injection hb with h1 h2
      obtain ⟨b', h3, h4⟩ := ih b h2
      exact ⟨y :: b', by rw [List.map_cons, h1, h3], h4.cons y⟩
  | swap x y l =>
    intro b hb
    match b, hb with
    | p :: q :: b, hb =>
      simp only [List.map_cons, List.cons.injEq] at hb
      obtain ⟨h1, h2, h3⟩ := hb
      exact ⟨q :: p :: b, by simp [h1, h2, h3], .swap q p b⟩
  | trans _ _ ih1 ih2 =>
    intro b hb
    obtain ⟨b1, h1, h2⟩ := ih1 b hb
    obtain ⟨b2, h3, h4⟩ := ih2 b1 h1
    exact ⟨b2, h3, h2.trans h4⟩
theorem key_inj {b : Bs} (hnd : (b.map (·.1)).Nodup) {p q : Int × Tm} (hp : p ∈ b) (hq : q ∈ b) (h : p.1 = q.1) : p = q := by
  induction b with
  | nil => cases hp
  | cons x b ih =>
    rw [List.map_cons, List.nodup_cons] at hnd
    obtain ⟨h1, h2⟩ := hnd
    rcases List.mem_cons.1 hp with e1 | hp'
    · rcases List.mem_cons.1 hq with e2 | hq'
      · rw [e1, e2]
      · subst e1
        exact absurd (List.mem_map.2 ⟨q, hq', h.symm⟩) h1
    · rcases List.mem_cons.1 hq with e2 | hq'
      · subst e2
        exact absurd (List.mem_map.2 ⟨p, hp', h⟩) h1
      · exact ih h2 hp' hq'
theorem sortB_perm {b b' : Bs} (hnd : (b.map (·.1)).Nodup) (h : b.Perm b') : sortB b = sortB b' := by
  have h1 := List.mergeSort_perm b fun p q : Int × Tm => decide (p.1 ≤ q.1)
  have h2 := List.mergeSort_perm b' fun p q : Int × Tm => decide (p.1 ≤ q.1)
  have s1 := List.pairwise_mergeSort (le := fun p q : Int × Tm => decide (p.1 ≤ q.1)) (fun a b c h1 h2 => by simp at h1 h2 ⊢; omega) (fun a b => by simp; omega) b
  have s2 := List.pairwise_mergeSort (le := fun p q : Int × Tm => decide (p.1 ≤ q.1)) (fun a b c h1 h2 => by simp at h1 h2 ⊢; omega) (fun a b => by simp; omega) b'
  refine List.Perm.eq_of_pairwise (le := fun p q : Int × Tm => decide (p.1 ≤ q.1) = true) (fun x y hx hy h3 h4 => ?_) s1 s2 (h1.trans (h.trans h2.symm))
  have hx' : x ∈ b := h1.mem_iff.1 hx
  have hy' : y ∈ b := h.mem_iff.2 (h2.mem_iff.1 hy)
  refine key_inj hnd hx' hy' ?_
  simp at h3 h4; omega
def seenB (b : Bs) (seen : List Nat) : Bs := seen.map fun i => b.getD i (0, .mk 0 0 [])
theorem seenB_snoc (b : Bs) (seen : List Nat) {i : Nat} (hi : i < b.length) : seenB b (seen ++ [i]) = seenB b seen ++ [b[i]] := by
  unfold seenB
  rw [List.map_append, List.map_cons, List.map_nil, List.getD_eq_getElem?_getD, List.getElem?_eq_getElem hi, Option.getD_some]
theorem seenB_all {b : Bs} {seen : List Nat} (hnd : seen.Nodup) (hlt : ∀ i ∈ seen, i < b.length) (hall : ∀ i, i < b.length → i ∈ seen) : (seenB b seen).Perm b := by
  have hp : seen.Perm (List.range b.length) := (List.perm_ext_iff_of_nodup hnd List.nodup_range).2 fun i => ⟨fun h => List.mem_range.2 (hlt i h), fun h => hall i (List.mem_range.1 h)⟩
  have h2 := hp.map fun i => b.getD i (0, .mk 0 0 [])
  have h3 : (List.range b.length).map (fun i => b.getD i (0, .mk 0 0 [])) = b := by
    apply List.ext_getElem
    · simp
    · intro i h1 h2
      simp at h1
      simp [List.getD_eq_getElem?_getD, h1]
  rw [h3] at h2
  exact h2
theorem seen_le : ∀ {n : Nat} {seen : List Nat}, seen.Nodup → (∀ i ∈ seen, i < n) → seen.length ≤ n
  | 0, seen, _, h => by
    cases seen with
    | nil => simp
    | cons x l => exact absurd (h x (by simp)) (by omega)
  | n + 1, seen, hnd, h => by
    have h1 := seen_le (n := n) (seen := seen.erase n) (hnd.erase n) fun i hi => by
      rw [hnd.mem_erase_iff] at hi
      have := h i hi.2
      omega
    rw [List.length_erase] at h1
    split at h1 <;> omega
end Go.Proofs.Ytmeekpinkfpnhab
namespace Go.Proofs.Ytmeekpinkfpnhab
open Go.RowKit
section
variable {P : Program} {w0 : World} {nn : Nat} {Q : Exit → St → Prop} {s : St}
def flatC (ys : List DV) : List AV := ys.flatMap fun y => y.cells.map AV.d
theorem flatC_len {sz : Nat} : ∀ {ys : List DV}, (∀ y ∈ ys, y.cells.length = sz) → (flatC ys).length = ys.length * sz
  | [], _ => by simp [flatC]
  | y :: ys, h => by
    have h1 := h y (by simp)
    have h2 := flatC_len (ys := ys) fun z hz => h z (List.mem_cons_of_mem _ hz)
    simp only [flatC, List.flatMap_cons, List.length_append, List.length_map, List.length_cons] at h2 ⊢
    rw [h1, h2, Nat.add_mul]; omega
theorem flatC_at {sz : Nat} : ∀ {ys : List DV}, (∀ y ∈ ys, y.cells.length = sz) → ∀ {i j : Nat} {x d : DV}, ys[i]? = some x → x.cells[j]? = some d → (flatC ys)[i * sz + j]? = some (.d d)
  | y :: ys, h, i, j, x, d, hx, hd => by
    have h1 := h y (by simp)
    simp only [flatC, List.flatMap_cons]
    cases i with
    | zero =>
      simp at hx; subst hx
      have hj := (List.getElem?_eq_some_iff.1 hd).1
      rw [Nat.zero_mul, Nat.zero_add, List.getElem?_append_left (by rw [List.length_map]; exact hj), List.getElem?_map, hd]; rfl
    | succ i =>
      have hx : ys[i]? = some x := by simpa using hx
      have h2 := flatC_at (fun z hz => h z (List.mem_cons_of_mem _ hz)) hx hd
      have e : (i + 1) * sz + j = sz + (i * sz + j) := by rw [Nat.add_mul]; omega
      rw [e, List.getElem?_append_right (by rw [List.length_map, h1]; omega), List.length_map, h1]
      rw [show sz + (i * sz + j) - sz = i * sz + j by omega]
      exact h2
theorem R.dat2 {m : Mem} {β : Bl} {x : Value} {d : DV} (h : R m β x (.d d)) : RD m x d := by cases h; assumption
theorem ghost_freeze {i : Nat} {n : Nm} {e : TypeId} {ys : List DV} {len sz : Nat} (hi : s.t i = .arr n 0 len) (hob : s.h n = some (.cells e (flatC ys))) (hl : len = ys.length) (hsz : ∀ y ∈ ys, y.cells.length = sz) : Ghost P w0 nn s ⟨set s.t i (.d (.sl ys)), upd s.h n none, s.k⟩ := by
  intro m β a w h1 h2 h3
  obtain ⟨p, hp, hv, c, c1, c2, c3, c4⟩ := h2.obj n _ hob
  have hlen := flatC_len hsz
  -- what is frozen now
  obtain ⟨f, hf⟩ : ∃ f : Nat → Option Value, ∀ o, f o = if o < ys.length * sz then c[o]? else none := ⟨_, fun _ => rfl⟩
  have hle := Mem.add_le m p.1 f
  have hnew : ∀ o, m.add p.1 f p.1 o = f o := fun o => Mem.add_new _ _ (c4 o)
  refine ⟨m.add p.1 f, β, Nat.le_refl _, ⟨hle, .rfl' β, ⟨h2.ext, fun b o v hm => ?_, h2.dom, fun x q ob hx ho hr => ?_, fun x ob ho => ?_, fun x y q q' ob ob' g1 g2 g3 g4 g5 g6 => ?_⟩, fun j v hj => ?_⟩, fun _ _ h => h⟩
  · by_cases hb : b = p.1
    · subst hb
      rw [hnew, hf] at hm
      split at hm
      · rename_i hlt
        refine ⟨?_, ?_⟩
        · unfold World.cell?
          rw [c1]; exact hm
        · exact (c3 o v _ hm (List.getElem?_eq_getElem (by rw [hlen]; exact hlt))).1
      · cases hm
    · rw [Mem.add_ne _ _ hb] at hm; exact h2.mem b o v hm
  · have hxn : x ≠ n := fun e => by subst e; simp [upd] at ho
    have ho : upd s.h n none x = some ob := ho
    rw [upd_ne _ _ hxn] at ho
    exact h2.new x q ob hx ho hr
  · have hxn : x ≠ n := fun e => by subst e; simp [upd] at ho
    have ho : upd s.h n none x = some ob := ho
    rw [upd_ne _ _ hxn] at ho
    obtain ⟨q, hq, hobk⟩ := h2.obj x ob ho
    refine ⟨q, hq, hobk.keep hle (.rfl' β) fun hr => ⟨rfl, fun o => ?_⟩⟩
    refine Mem.add_ne _ _ (fun e => hxn (h2.inj x n q p ob _ ho hob hq hp hr trivial e)) o
  · have hxn : x ≠ n := fun e => by subst e; simp [upd] at g1
    have hyn : y ≠ n := fun e => by subst e; simp [upd] at g2
    have g1 : upd s.h n none x = some ob := g1
    have g2 : upd s.h n none y = some ob' := g2
    rw [upd_ne _ _ hxn] at g1
    rw [upd_ne _ _ hyn] at g2
    exact h2.inj x y q q' ob ob' g1 g2 g3 g4 g5 g6
  · show R _ _ v (set s.t i _ j)
    unfold set
    split
    · subst_vars
      have := h3 _ v hj
      rw [hi] at this
      generalize hA : AV.arr n 0 ys.length = A at this
      cases this with
      | @arr n' off' len' cap o q hb hver hc hm ho =>
        cases hA
        rw [hp] at hb; cases hb
        refine .d ?_
        by_cases h0 : ys.length = 0
        · have : ys = [] := List.eq_nil_of_length_eq_zero h0
          subst this
          exact .sl (sz := sz) rfl hc hm hsz (fun i j x d hx => by simp at hx) (fun i j x d cv hx => by simp at hx)
        · have ho : o = 0 := by rcases ho with ho | ho; exact absurd ho h0; exact ho
          subst ho
          have cell : ∀ (i j : Nat) (x d : DV), ys[i]? = some x → x.cells[j]? = some d → ∃ cv, m.add p.1 f p.1 (0 + i * sz + j) = some cv ∧ RD (m.add p.1 f) cv d := by
            intro i j x d hx hd
            have h4 := flatC_at hsz hx hd
            have hlt : i * sz + j < ys.length * sz := by rw [← hlen]; exact (List.getElem?_eq_some_iff.1 h4).1
            have hcs : i * sz + j < c.size := by omega
            have h5 := Array.getElem?_eq_getElem hcs
            refine ⟨c[i * sz + j], ?_, ?_⟩
            · rw [Nat.zero_add, hnew, hf, if_pos hlt]; exact h5
            · have hr := (c3 _ _ _ h5 h4).2
              exact hr.dat2.mono hle
          exact .sl (sz := sz) rfl hc hm hsz (fun i j x d hx hd => let ⟨cv, q1, _⟩ := cell i j x d hx hd; ⟨cv, q1⟩) fun i j x d cv hx hd hcv => by
            obtain ⟨cv', q1, q2⟩ := cell i j x d hx hd
            rw [hcv] at q1; cases q1; exact q2
      | _ => cases hA
    · exact (h3 j v hj).mono hle (.rfl' β)
def arrE (e : TypeId) (n' : Nm) (len : Nat) (cs : List AV) : Eff := ⟨.arr n' 0 len, [(n', none)], [(n', some (.cells e cs))]⟩
end
attribute [go_sem] arrE
end Go.Proofs.Ytmeekpinkfpnhab
namespace Go.Proofs
open Go.Shelf
def YtmeekpinkfpnhablaysSortF_ren : Go.Shelf.Ren := ⟨fun | 6 => 76 | 15 => 106 | 14 => 105 | 28 => 135 | 29 => 136 | 20 => 127 | 21 => 128 | 22 => 129 | 23 => 130 | 24 => 131 | 25 => 132 | 26 => 133 | 27 => 134 | 46 => 147 | 47 => 148 | 48 => 149 | 49 => 150 | 50 => 151 | 57 => 157 | n => n, fun | 22 => 25 | 24 => 69 | 25 => 119 | 3 => 3 | 39 => 148 | 0 => 0 | 53 => 179 | 55 => 181 | 4 => 4 | 46 => 173 | 45 => 172 | 50 => 150 | 5 => 5 | 9 => 9 | 66 => 187 | 70 => 191 | 76 => 196 | 77 => 197 | n => n, fun | n => n⟩
theorem YtmeekpinkfpnhablaysSortF : Go.Proofs.SlLaysF0.n6 Try.prog YtmeekpinkfpnhablaysSortF_ren := {
  mixed := by kernel_rfl
  f6 := ⟨Try.f76.name, by decide, Try.func76.trans (congrArg some (by kernel_rfl))⟩
  f14 := ⟨Try.f105.name, by decide, Try.func105.trans (congrArg some (by kernel_rfl))⟩
  f15 := Try.func106.trans (congrArg some (by kernel_rfl))
  f20 := ⟨Try.f127.name, by decide, Try.func127.trans (congrArg some (by kernel_rfl))⟩
  f21 := ⟨Try.f128.name, by decide, Try.func128.trans (congrArg some (by kernel_rfl))⟩
  f22 := ⟨Try.f129.name, by decide, Try.func129.trans (congrArg some (by kernel_rfl))⟩
  f23 := ⟨Try.f130.name, by decide, Try.func130.trans (congrArg some (by kernel_rfl))⟩
  f24 := ⟨Try.f131.name, by decide, Try.func131.trans (congrArg some (by kernel_rfl))⟩
  f25 := ⟨Try.f132.name, by decide, Try.func132.trans (congrArg some (by kernel_rfl))⟩
  f26 := ⟨Try.f133.name, by decide, Try.func133.trans (congrArg some (by kernel_rfl))⟩
  f27 := ⟨Try.f134.name, by decide, Try.func134.trans (congrArg some (by kernel_rfl))⟩
  f28 := Try.func135.trans (congrArg some (by kernel_rfl))
  f29 := Try.func136.trans (congrArg some (by kernel_rfl))
  f46 := ⟨Try.f147.name, by decide, Try.func147.trans (congrArg some (by kernel_rfl))⟩
  f47 := Try.func148.trans (congrArg some (by kernel_rfl))
  f48 := Try.func149.trans (congrArg some (by kernel_rfl))
  f49 := ⟨Try.f150.name, by decide, Try.func150.trans (congrArg some (by kernel_rfl))⟩
  f50 := ⟨Try.f151.name, by decide, Try.func151.trans (congrArg some (by kernel_rfl))⟩
  f57 := ⟨Try.f157.name, by decide, Try.func157.trans (congrArg some (by kernel_rfl))⟩
  t0 := Try.underlying0
  a0 := Try.isAgg0
  z0 := Try.sizeOf0
  v0 := Try.zeroValue0
  t3 := Try.underlying3
  a3 := Try.isAgg3
  z3 := Try.sizeOf3
  v3 := Try.zeroValue3
  t4 := Try.underlying4
  a4 := Try.isAgg4
  z4 := Try.sizeOf4
  v4 := Try.zeroValue4
  t5 := Try.underlying5
  a5 := Try.isAgg5
  z5 := Try.sizeOf5
  v5 := Try.zeroValue5
  t9 := Try.underlying9
  a9 := Try.isAgg9
  z9 := Try.sizeOf9
  v9 := Try.zeroValue9
  t22 := Try.underlying25
  a22 := Try.isAgg25
  z22 := Try.sizeOf25
  v22 := Try.zeroValue25
  t25 := Try.underlying119
  a25 := Try.isAgg119
  z25 := Try.sizeOf119
  v25 := Try.zeroValue119
  t39 := Try.underlying148
  a39 := Try.isAgg148
  z39 := Try.sizeOf148
  v39 := Try.zeroValue148
  t45 := Try.underlying172
  a45 := Try.isAgg172
  z45 := Try.sizeOf172
  v45 := Try.zeroValue172
  t46 := Try.underlying173
  a46 := Try.isAgg173
  z46 := Try.sizeOf173
  v46 := Try.zeroValue173
  t50 := Try.underlying150
  a50 := Try.isAgg150
  z50 := Try.sizeOf150
  v50 := Try.zeroValue150
  t53 := Try.underlying179
  a53 := Try.isAgg179
  z53 := Try.sizeOf179
  v53 := Try.zeroValue179
  t55 := Try.underlying181
  a55 := Try.isAgg181
  z55 := Try.sizeOf181
  v55 := Try.zeroValue181
  t66 := Try.underlying187
  a66 := Try.isAgg187
  z66 := Try.sizeOf187
  v66 := Try.zeroValue187
  t70 := Try.underlying191
  a70 := Try.isAgg191
  z70 := Try.sizeOf191
  v70 := Try.zeroValue191
  t76 := Try.underlying196
  a76 := Try.isAgg196
  z76 := Try.sizeOf196
  v76 := Try.zeroValue196
  t77 := Try.underlying197
  a77 := Try.isAgg197
  z77 := Try.sizeOf197
  v77 := Try.zeroValue197 }
end Go.Proofs
namespace Go.Proofs.Ytmeekpinkfpnhab
open Go.RowKit Go.Shelf Go.Sort
set_option maxHeartbeats 1000000 in
set_option maxRecDepth 100000 in
theorem lessB (x y : Int) (a1 a2 a3 b1 b2 b3 : Value) (hx : -1000000 ≤ x ∧ x ≤ 1000000) (hy : -1000000 ≤ y ∧ y ≤ 1000000) (W : World) :
    Calls Try.prog 77 #[.agg #[.int .i64 x, a1, a2, a3], .agg #[.int .i64 y, b1, b2, b3]] W fun e w' => e = .returned (.int .i64 (x - y)) ∧ ∃ q os', w' = Go.Sort.grow (W.drewN q) os' := by
  go_enter Try.func77, Try.ntmps77
  go_wp2_with fail
  go_ret
  exact ⟨rfl, 0, _, by rw [alloc_eq_grow, alloc_eq_grow, grow_grow]; rfl⟩
def sortBE (n : Nm) (b : Bs) : Eff := ⟨.junk, [(n, some (.cells 69 (flatC (b.map bdDV))))], [(n, some (.cells 69 (flatC ((sortB b).map bdDV))))]⟩
theorem bd_four (b : Bs) : ∀ y ∈ b.map bdDV, y.cells.length = 4 := fun y hy => by
  obtain ⟨p, _, rfl⟩ := List.mem_map.1 hy; rfl
theorem heap_sortedV {w : World} {g n : Nat} {os : Array Obj} {cur : Array Value} {e : TypeId} {fr : Nat × Nat} (d : Array Value) (hb : w.heap[g]? = some (.cells cur e fr)) :
    (Go.Sort.grow (putRow id (Sort.ahead w n) g 0 d) os).heap[g]? = some (.cells (putCells id 0 d cur) e fr) := by
  have hg : g < w.heap.size := (Array.getElem?_eq_some_iff.1 hb).1
  rw [heap_grow_old _ _ (by simpa using hg)]
  simp [putRow, mapBlock, Sort.ahead, Array.getElem?_modify, hb, onCells]
theorem grownBy_sortedV {w : World} {g n : Nat} {os : Array Obj} (d : Array Value) : w.grownBy (Go.Sort.grow (putRow id (Sort.ahead w n) g 0 d) os) (some g) := by
  refine ⟨rfl, rfl, rfl, by simp, fun k hk hne => ?_⟩
  rw [heap_grow_old _ _ (by simpa using hk)]
  have : g ≠ k := fun e => hne (by rw [e])
  simp [putRow, mapBlock, Sort.ahead, Array.getElem?_modify, this]
theorem putCells_at (cur F : Array Value) {j : Nat} (h : j < F.size) (h2 : F.size ≤ cur.size) : (putCells id 0 F cur)[j]? = some F[j] := by
  simp [putCells, h, show j < cur.size by omega]
def places (b : Bs) (hne : 0 < b.length) : List (Fin b.length) := (List.finRange b.length).mergeSort fun x y => !decide (b[y].1 - b[x].1 < 0)
theorem places_map (b : Bs) (hne : 0 < b.length) : (places b hne).map (fun i => b[i]) = sortB b := by
  unfold places sortB
  refine (List.map_mergeSort (s := fun p q : Int × Tm => decide (p.1 ≤ q.1)) fun x _ y _ => ?_).trans ?_
  · rw [Bool.eq_iff_iff]; simp
  · congr 1
    apply List.ext_getElem
    · simp
    · intro i h1 h2; simp
set_option maxHeartbeats 4000000 in
set_option maxRecDepth 100000 in
theorem sortF_tri (b : Bs) (hne : 0 < b.length) (hz : b.length ≤ 4000000) (hnd : (b.map (·.1)).Nodup) (hr : ∀ p ∈ b, -1000000 ≤ p.1 ∧ p.1 ≤ 1000000) (n' : Nm) :
    Tri Try.prog 76 [.arr n' 0 b.length, .fn (.func 77) [] []] (sortBE n' b) := by
  intro w0 h k m β w cargs H hrd hwr hsz hargs
  have hob : h n' = some (.cells 69 (flatC (b.map bdDV))) := hrd (n', some (.cells 69 (flatC (b.map bdDV)))) (by simp [sortBE])
  obtain ⟨hk, _⟩ := hwr (n', some (.cells 69 (flatC ((sortB b).map bdDV)))) (by simp [sortBE])
  have hk : n'.1 < k := hk
  obtain ⟨v, fv, rfl⟩ : ∃ v fv, cargs = #[v, fv] := by
    obtain ⟨l⟩ := cargs
    match l, hsz with
    | [v, fv], _ => exact ⟨v, fv, rfl⟩
  have hv := hargs 0 v (.arr n' 0 b.length) (by simp) (by simp)
  have hf := hargs 1 fv (.fn (.func 77) [] []) (by simp) (by simp)
  obtain rfl : fv = .func (.func 77) #[] #[] := by
    cases hf with
    | fn h1 h2 _ _ =>
      simp only [List.length_nil] at h1 h2
      rw [Array.eq_empty_of_size_eq_zero h1, Array.eq_empty_of_size_eq_zero h2]
  generalize hA : AV.arr n' 0 b.length = A at hv
  cases hv with
  | @arr n off len cap o p hb hver hc hm ho =>
    cases hA
    obtain ⟨q, hq, hver', c, c1, c2, c3, c4⟩ := H.obj n' _ hob
    rw [hb] at hq; cases hq
    have ho : o = 0 := by rcases ho with h | h; omega; exact h
    subst ho
    have hfl : (flatC (b.map bdDV)).length = b.length * 4 := by rw [flatC_len (bd_four b), List.length_map]
    rw [hfl] at c2
    have cell : ∀ (q : Fin b.length) (j : Nat), j < 4 → ∃ (u : Value) (d : DV), c[q.1 * 4 + j]? = some u ∧ (bdDV b[q]).cells[j]? = some d ∧ u.oneCell' = true ∧ R m β u (.d d) := fun q j hj => by
      have h1 : (b.map bdDV)[q.1]? = some (bdDV b[q]) := by rw [List.getElem?_map, List.getElem?_eq_getElem q.2]; rfl
      have h2 : j < (bdDV b[q]).cells.length := by rw [bdDV_cells]; exact hj
      have h3 := flatC_at (bd_four b) h1 (List.getElem?_eq_getElem h2)
      have h4 : q.1 * 4 + j < c.size := by have := q.2; omega
      obtain ⟨h5, h6⟩ := c3 _ _ _ (Array.getElem?_eq_getElem h4) h3
      exact ⟨_, _, Array.getElem?_eq_getElem h4, List.getElem?_eq_getElem h2, h5, h6⟩
    haveI : Inhabited (Fin b.length) := ⟨⟨0, hne⟩⟩
    obtain ⟨enc, henc⟩ : ∃ enc : Fin b.length → List Value, ∀ q, enc q = [(c[q.1 * 4]?).getD undef, (c[q.1 * 4 + 1]?).getD undef, (c[q.1 * 4 + 2]?).getD undef, (c[q.1 * 4 + 3]?).getD undef] := ⟨fun q => _, fun q => rfl⟩
    have hk4 : ∀ q, (enc q).length = 4 := fun q => by rw [henc]; rfl
    have henc' : ∀ (q : Fin b.length) (j : Nat), j < 4 → (enc q)[j]! = (c[q.1 * 4 + j]?).getD undef := fun q j hj => by
      rw [henc]
      match j, hj with
      | 0, _ => rfl
      | 1, _ => rfl
      | 2, _ => rfl
      | 3, _ => rfl
    have hfst : ∀ q : Fin b.length, c[q.1 * 4]? = some (.int .i64 b[q].1) := fun q => by
      obtain ⟨u, d, h1, h2, _, h4⟩ := cell q 0 (by omega)
      rw [bdDV_cells] at h2
      cases h2
      have := h4.dat2
      cases this
      exact h1
    have h1 : ∀ q, ∀ u ∈ enc q, u.oneCell' = true := fun q u hu => by
      rw [henc] at hu
      have key : ∀ j, j < 4 → ((c[q.1 * 4 + j]?).getD undef).oneCell' = true := fun j hj => by
        obtain ⟨u, d, e1, _, e3, _⟩ := cell q j hj
        rw [e1]; exact e3
      simp only [List.mem_cons, List.not_mem_nil, or_false] at hu
      rcases hu with rfl | rfl | rfl | rfl
      · exact key 0 (by omega)
      · exact key 1 (by omega)
      · exact key 2 (by omega)
      · exact key 3 (by omega)
    have hsz4 : ∀ i j : Nat, i < b.length → j < 4 → i * 4 + j < c.size := fun i j h1 h2 => by omega
    -- what the library's contract asks
    have eg : ∀ args w, (callFunc 77 args).run Try.prog w = .ok (.enter 77 args) w := (enter77)
    have hcmp : CmpLays Try.prog 77 #[] enc 4 (fun x y => b[x].1 - b[y].1) p.1 0 b.length w := fun mm os dk _ x y => by
      have e1 : ∀ q : Fin b.length, (enc q).toArray = #[.int .i64 b[q].1, (c[q.1 * 4 + 1]?).getD undef, (c[q.1 * 4 + 2]?).getD undef, (c[q.1 * 4 + 3]?).getD undef] := fun q => by
        rw [henc, hfst q]; rfl
      rw [e1 x, e1 y]
      exact lessB _ _ _ _ _ _ _ _ (hr _ (List.getElem_mem _)) (hr _ (List.getElem_mem _)) _
    have hO : SWO (ltOf fun x y : Fin b.length => b[x].1 - b[y].1) := ⟨fun x => by unfold ltOf; simp, fun x y z h1 h2 => by unfold ltOf at *; simp at *; omega, fun x y z h1 h2 => by unfold ltOf at *; simp at *; omega⟩
    have hT : ∀ x y : Fin b.length, ltOf (fun x y => b[x].1 - b[y].1) x y = false → ltOf (fun x y => b[x].1 - b[y].1) y x = false → x = y := fun x y h1 h2 => by
      have h3 : b[x].1 = b[y].1 := by unfold ltOf at *; simp at *; omega
      have hx := x.2
      have hy := y.2
      rcases Nat.lt_trichotomy x.1 y.1 with h | h | h
      · have := List.pairwise_iff_getElem.1 hnd x.1 y.1 (by rw [List.length_map]; exact hx) (by rw [List.length_map]; exact hy) h
        rw [List.getElem_map, List.getElem_map] at this
        exact absurd h3 this
      · exact Fin.ext h
      · have := List.pairwise_iff_getElem.1 hnd y.1 x.1 (by rw [List.length_map]; exact hy) (by rw [List.length_map]; exact hx) h
        rw [List.getElem_map, List.getElem_map] at this
        exact absurd h3.symm this
    have hdl : (List.finRange b.length).toArray.size = b.length := by simp
    have hdg : ∀ i : Nat, i < b.length → ((List.finRange b.length).toArray[i]!).1 = i := fun i hi => by
      rw [getElem!_pos _ i (by rw [hdl]; exact hi)]; simp
    have hH : HoldsK enc 4 w p.1 0 (List.finRange b.length).toArray := fun j hj => by
      rw [size_flatK, hdl] at hj
      have h2 : j / 4 < b.length := by omega
      have h3 := hdg _ h2
      have h4 : j < c.size := by omega
      refine ⟨?_, by simp [World.frozen?, c1]⟩
      rw [get_flatK _ _ _ _ (by rw [hdl]; exact hj), henc' _ _ (by omega), h3]
      have e : j / 4 * 4 + j % 4 = j := by omega
      rw [e]
      simp [World.cell?, c1, h4]
    have aE : ∀ w, (isAgg 69).run Try.prog w = .ok true w := fun w => by simp [isAgg, run_underlying Try.underlying69]
    have zE : ∀ w, (Go.sizeOf 69).run Try.prog w = .ok 4 w := fun w => by rw [run_sizeOf' (by kernel_rfl)]; rfl
    have hS := AnyQ.slices_SortFunc YtmeekpinkfpnhablaysSortF 4 aE zE enc hk4 h1 (fun x y : Fin b.length => b[x].1 - b[y].1) hO 77 #[] p.1 0 cap (List.finRange b.length).toArray w eg (by rw [hdl]; exact hcmp) hH (H.lt hob hb trivial) (by rw [hdl]; omega)
    rw [hdl] at hS
    refine hS.mono ?_
    rintro en w' ⟨rfl, d', n, obs, hp, hso, hw'⟩
    have hd' : d' = (places b hne).toArray := by
      have := sorted_unique_holds hO hT (List.finRange b.length).toArray d' (by rw [hdl]; exact hp) (by rw [hdl]; exact hso)
      apply Array.toList_inj.1
      rw [this]; unfold places ltOf; simp
    subst hd'
    obtain ⟨D, hD⟩ : ∃ D, D = places b hne := ⟨_, rfl⟩
    have hDm := places_map b hne
    rw [← hD] at hw' hDm
    have hDl : D.length = b.length := by
      have := congrArg List.length hDm
      rw [List.length_map, sortB_len] at this; exact this
    have hw2 : w' = Go.Sort.grow (putRow id (Sort.ahead w n) p.1 0 (flatK enc 4 D.toArray)) obs := hw'
    clear hw' hS hH hcmp hso hp
    have g := grownBy_sortedV (w := w) (g := p.1) (n := n) (os := obs) (flatK enc 4 D.toArray)
    have hsx := heap_sortedV (w := w) (n := n) (os := obs) (flatK enc 4 D.toArray) c1
    have hfs : (flatK enc 4 D.toArray).size = b.length * 4 := by rw [size_flatK]; simp [hDl]
    have hat : ∀ j, (hj : j < b.length * 4) → (putCells id 0 (flatK enc 4 D.toArray) c)[j]? = some ((flatK enc 4 D.toArray)[j]'(by rw [hfs]; exact hj)) := fun j hj => putCells_at c _ (by rw [hfs]; exact hj) (by rw [hfs]; exact c2)
    rw [← hw2] at g hsx
    clear hw2
    have hget : ∀ j, (hj : j < b.length * 4) → (flatK enc 4 D.toArray)[j]'(by rw [hfs]; exact hj) = (enc (D[j / 4]'(by omega)))[j % 4]! := fun j hj => by
      have h2 := get_flatK enc 4 D.toArray j (by simp [hDl]; exact hj)
      rw [getElem!_pos _ j (by rw [hfs]; exact hj), getElem!_pos D.toArray (j / 4) (by simp; omega)] at h2
      simpa using h2
    generalize hC : putCells id 0 (flatK enc 4 D.toArray) c = C at hsx hat
    have hlC : C.size = c.size := by rw [← hC]; simp [putCells]
    have hB : w0.heap.size ≤ p.1 := H.new n' p _ hb hob trivial
    have eβ : updB β n' p = β := by
      funext y; unfold updB; split
      · subst_vars; exact hb.symm
      · rfl
    have hext : Below w0.heap.size w0 w' := H.ext.trans ⟨g.os, g.tape, g.output, g.size, fun i hi => g.block i (Nat.lt_of_lt_of_le hi H.size) (by simp; omega)⟩
    have H2 := H.upd1 (n := n') (p := p) (ob := .cells 69 (flatC ((sortB b).map bdDV))) (m' := m) (w' := w') (le_old hb) hk hext (.rfl' m) (fun b o v hv => ?_) ?_ (fun _ => hB) ?_
    · rw [eβ] at H2
      exact ⟨_, m, β, rfl, .rfl' m, .rfl' β, fun _ _ h => h, H2, .junk⟩
    · obtain ⟨k1, k2⟩ := H.mem b o v hv
      have hne : b ≠ p.1 := fun e => by subst e; rw [c4] at hv; cases hv
      refine ⟨?_, k2⟩
      have := g.block b (H.mem_lt hv) (by simpa using hne)
      unfold World.cell? at k1 ⊢
      rw [this]; exact k1
    · rw [eβ]
      have hfl2 : (flatC ((sortB b).map bdDV)).length = b.length * 4 := by rw [flatC_len (bd_four _), List.length_map, sortB_len]
      refine ⟨hver, C, hsx, by rw [hfl2, hlC]; exact c2, fun r u x hu hx => ?_, c4⟩
      have hr4 : r < b.length * 4 := by rw [← hfl2]; exact (List.getElem?_eq_some_iff.1 hx).1
      have hq : r / 4 < D.length := by omega
      obtain ⟨u', d, e1, e2, e3, e4⟩ := cell D[r / 4] (r % 4) (by omega)
      have hu2 := hat r hr4
      rw [hget r hr4, henc' _ _ (by omega), e1, Option.getD_some, hu] at hu2
      cases hu2
      refine ⟨e3, ?_⟩
      have h5 : (sortB b)[r / 4]? = some b[D[r / 4]] := by rw [← hDm, List.getElem?_map, List.getElem?_eq_getElem hq]; rfl
      have h6 : ((sortB b).map bdDV)[r / 4]? = some (bdDV b[D[r / 4]]) := by rw [List.getElem?_map, h5]; rfl
      have h7 := flatC_at (bd_four (sortB b)) h6 e2
      rw [show r / 4 * 4 + r % 4 = r by omega, hx] at h7
      cases h7
      exact e4
    · intro x p' ob' hx hox hpx hr
      have hne : p'.1 ≠ p.1 := fun e => hx (H.inj x n' p' p ob' _ hox hob hpx hb hr trivial e)
      exact ⟨fun _ => hne, g.block _ (H.lt hox hpx hr) (by simpa using hne), fun _ => rfl⟩
  | _ => cases hA
end Go.Proofs.Ytmeekpinkfpnhab
namespace Go.Proofs.Ytmeekpinkfpnhab
open Go.RowKit
section
variable {P : Program} {w0 : World} {n : Nat} {Q : Exit → St → Prop} {s : St}
theorem HRel.name_eq {w : World} {h : Heap} {k : Nat} {m : Mem} {β : Bl} {x : Nm} {p : Bk} (hb : β x = some p) : updB β x p = β := by
  funext y; unfold updB; split
  · subst_vars; exact hb.symm
  · rfl
theorem HRel.retell {w : World} {h : Heap} {k : Nat} {m : Mem} {β : Bl} (H : HRel P w0 h k m β w) {x : Nm} {ob ob' : Ob} {p : Bk} (hx : h x = some ob) (hb : β x = some p) (ho : ObOK P m β w p ob') (hr : ob.real p) (hn : w0.heap.size ≤ p.1) : HRel P w0 (upd h x (some ob')) k m β w := by
  have H2 := H.upd1 (n := x) (p := p) (ob := ob') (m' := m) (w' := w) (le_old hb) (H.dom x p hb) H.ext (.rfl' m) H.mem (by rw [show updB β x p = β from by funext y; unfold updB; split; (subst_vars; exact hb.symm); rfl]; exact ho) (fun _ => hn) (fun y p' ob'' hy hoy hpy hr' => ⟨fun _ => fun e => hy (H.inj y x p' p ob'' ob hoy hx hpy hb hr' hr e), rfl, fun _ => rfl⟩)
  rw [show updB β x p = β from by funext y; unfold updB; split; (subst_vars; exact hb.symm); rfl] at H2
  exact H2
theorem ghost_bag {x : Nm} {es es' : List (Int × DV)} (hx : s.h x = some (.map es)) (hp : es'.Perm es) : Ghost P w0 n s ⟨s.t, upd s.h x (some (.bag es')), s.k⟩ := by
  intro m β a w h1 h2 h3
  obtain ⟨p, hb, hob⟩ := h2.obj x _ hx
  exact ⟨m, β, Nat.le_refl _, ⟨.rfl' m, .rfl' β, h2.retell hx hb ⟨es, hp, hob⟩ trivial (h2.new x p _ hb hx trivial), h3⟩, fun _ _ h => h⟩
theorem awp_bag {c : Code} {x : Nm} {es : List (Int × DV)} (hx : s.h x = some (.bag es)) (h : ∀ es', es.Perm es' → awp P w0 n c Q ⟨s.t, upd s.h x (some (.map es')), s.k⟩) : awp P w0 n c Q s := by
  intro m β a w h1 h2 h3
  obtain ⟨p, hb, es', hp, hob⟩ := h2.obj x _ hx
  exact h es' hp m β a w h1 (h2.retell hx hb hob trivial (h2.new x p _ hb hx trivial)) h3
theorem ghost_gro {i : Nat} {e : TypeId} (hi : s.t i = .nil) : Ghost P w0 n s ⟨set s.t i (.gro (s.k, 0) 0), upd s.h (s.k, 0) (some (.gro e 0 [])), s.k + 1⟩ := by
  intro m β a w h1 h2 h3
  have hn : β (s.k, 0) = none := by
    cases hn : β (s.k, 0) with
    | none => rfl
    | some p => have := h2.dom _ _ hn; simp at this
  have hle := updB_le (le_new (p := ⟨0, 0, some 0⟩) hn)
  have H1 : HRel P w0 (upd s.h (s.k, 0) (some (.gro e 0 []))) (s.k + 1) m (updB β (s.k, 0) ⟨0, 0, some 0⟩) w :=
    (h2.tick (Nat.le_succ s.k)).upd1 (le_new hn) (Nat.lt_succ_self _) h2.ext (.rfl' m) h2.mem ⟨rfl, .inl ⟨rfl, rfl, rfl⟩⟩ (fun hr => absurd ⟨rfl, rfl⟩ hr) (fun y p' ob' hy hoy hpy hr => ⟨fun hr' => absurd ⟨rfl, rfl⟩ hr', rfl, fun _ => rfl⟩)
  refine ⟨m, _, Nat.le_succ _, ⟨.rfl' m, hle, H1, fun j v hj => ?_⟩, fun x hx => updB_none fun e => by subst e; simp at hx⟩
  show R m _ v (set s.t i _ j)
  unfold set
  split
  · subst_vars
    have := h3 _ v hj
    rw [hi] at this
    cases this with
    | nil => exact .gro (p := ⟨0, 0, some 0⟩) (v := 0) ⟨_, _, rfl⟩ (updB_self _ _ _) rfl (Nat.le_refl _) fun _ => ⟨none, rfl, .inl ⟨rfl, rfl⟩⟩
  · exact (h3 j v hj).mono (.rfl' m) hle
theorem ghost_arr {i : Nat} {x : Nm} {e : TypeId} {len : Nat} {cs : List AV} (hi : s.t i = .gro x len) (hx : s.h x = some (.gro e len cs)) (hl : 0 < len) : Ghost P w0 n s ⟨set s.t i (.arr (s.k, 0) 0 len), upd (upd s.h x none) (s.k, 0) (some (.cells e cs)), s.k + 1⟩ := by
  intro m β a w h1 h2 h3
  have hn : β (s.k, 0) = none := by
    cases hn : β (s.k, 0) with
    | none => rfl
    | some p => have := h2.dom _ _ hn; simp at this
  obtain ⟨p, hb, hver, hob⟩ := h2.obj x _ hx
  have hreal : ¬ (len = 0 ∧ p.2 = 0) := fun e => by omega
  rcases hob with h | ⟨c, c1, c2, c3, c4, c5, c6, c7⟩
  · exact absurd ⟨h.1, h.2.1⟩ hreal
  have hle := updB_le (le_new (p := ⟨p.1, p.2, none⟩) hn)
  have hxk : x.1 < s.k := h2.dom x p hb
  have hne : x ≠ (s.k, 0) := fun e => by rw [e] at hxk; simp at hxk
  have hm : len * szT P e ≤ c.size := by rw [c2]; exact Nat.mul_le_mul_right _ c3
  have hB := h2.new x p _ hb hx hreal
  have H1 := ((h2.del x).tick (Nat.le_succ s.k)).upd1 (n := (s.k, 0)) (p := ⟨p.1, p.2, none⟩) (ob := .cells e cs) (m' := m) (w' := w) (le_new hn) (Nat.lt_succ_self _) h2.ext (.rfl' m) h2.mem
    ⟨rfl, c, c1, by omega, fun j v a hj ha => ⟨(c6 j v a hj ha).1, (c6 j v a hj ha).2.mono (.rfl' m) hle⟩, c7⟩ (fun _ => hB) (fun y p' ob' hy hoy hpy hr => ⟨fun _ e => ?_, rfl, fun _ => rfl⟩)
  · refine ⟨m, _, Nat.le_succ _, ⟨.rfl' m, hle, H1, fun j v hj => ?_⟩, fun x hx => updB_none fun e => by subst e; simp at hx⟩
    show R m _ v (set s.t i _ j)
    unfold set
    split
    · subst_vars
      have hv := h3 _ v hj
      rw [hi] at hv
      cases hv with
      | gro g1 g2 g3 g4 g5 =>
        rw [hb] at g2; cases g2
        rw [hver] at g3; cases g3
        obtain ⟨a, rfl, g6⟩ := g5 rfl
        rcases g6 with g6 | g6
        · exact absurd g6 hreal
        · subst g6
          exact .arr (p := ⟨p.1, p.2, none⟩) (updB_self _ _ _) rfl c3 c4 (.inr rfl)
    · exact (h3 j v hj).mono (.rfl' m) hle
  · have hyx : y ≠ x := fun e2 => by subst e2; simp [upd] at hoy
    rw [upd_ne _ _ hyx] at hoy
    exact hyx (h2.inj y x p' p ob' _ hoy hx hpy hb hr hreal e)
end
end Go.Proofs.Ytmeekpinkfpnhab
namespace Go.Proofs.Ytmeekpinkfpnhab
open Go.RowKit
theorem bsE_getD (b : Bs) {i : Nat} (hi : i < b.length) : (bsE b).getD i default = (b[i].1, tmDV b[i].2) := by
  unfold bsE
  rw [List.getD_eq_getElem?_getD, List.getElem?_map, List.getElem?_eq_getElem hi]; rfl
theorem bsE_len (b : Bs) : (bsE b).length = b.length := by unfold bsE; simp
theorem flatD_eq (ys : List DV) : flatD ys = flatC ys := by unfold flatD flatC; rw [List.map_flatMap]
theorem flatD_snoc (ys : List DV) (y : DV) : flatD (ys ++ [y]) = flatD ys ++ flatD [y] := by unfold flatD; simp
theorem FrX.fr {k : Nat} {n : Nm} {h0 h : Heap} (hf : FrX k n h0 h) (hn : h n = h0 n) : Fr k h0 h := fun x hx => by
  by_cases e : x = n
  · subst e; exact hn
  · exact hf x hx e
set_option maxHeartbeats 4000000 in
set_option maxRecDepth 20000 in
theorem list0_tri (mm : Nm) : Tri Try.prog 45 [.map mm] (rdE [(mm, .bag (bsE []))] (.d (.sl []))) := by
  refine tri_enter_ro Try.func45 rfl Try.ntmps45 (by simp only [List.length_cons, List.length_nil]; omega) fun w0 h0 k hro => ?_
  obtain ⟨n1, em⟩ := hro.get (mm, .bag (bsE [])) (by simp)
  refine awp_bag em fun es' hp => ?_
  obtain rfl : es' = [] := by have := hp.length_eq; exact List.eq_nil_of_length_eq_zero this.symm
  have q1 := nmne n1
  repeat' (first | refine awp_seq_k fun K hK => ?_ | ((first | refine awp_region_k (by kernel_rfl) fun R hR => ?_ | refine awp_draw mixed (by kernel_rfl) (by kernel_rfl) fun R hR => ?_); simp only [go_sem, em, q1, effRange, okRange]) | ((first | (refine hR _ ?_; clear hR R) | refine awp_skip ?_ | refine awp_exit ?_ | refine awp_ret ?_); try simp only [thenA, inBlockA, reduceIte, reduceCtorEq, Nat.reduceEqDiff, if_false, if_true]) | ((first | refine hK _ ?_ | (clear hK K; first | refine hK _ ?_ | (clear hK K; first | refine hK _ ?_ | (clear hK K; first | refine hK _ ?_ | (clear hK K; refine hK _ ?_))))); clear hK K) | refine awp_true rfl rfl ?_ | refine awp_false rfl rfl ?_ | refine awp_block ?_ | refine And.intro (by first | ((repeat' first | omega | exact trivial | rfl | assumption | (intro a e; subst e; rfl) | exact map_sz fun a => (by simp only [go_sem]) | refine And.intro ?_ ?_); done) | fail) ?_ | fail)
  refine awp_loopN (fun j σ => σ.t 7 = .ptr (k + 1 + 1, 1) 0 ∧ σ.t 3 = .nil ∧ σ.h (k + 1 + 1, 1) = some (.iter mm 0 []) ∧ σ.h mm = some (.map []) ∧ FrX k mm h0 σ.h ∧ k + 1 + 1 < σ.k) ?_ ?_
  · refine ⟨0, ?_, ?_, ?_, ?_, ?_, ?_⟩
    · simp only [go_sem, ]
    · simp only [go_sem, ]
    · simp only [go_sem, ]
    · simp only [go_sem, q1]
    · exact ((FrX.rfl' k mm h0).updn _).updk (by omega) _
    · show k + 1 + 1 < k + 1 + 1 + 1; omega
  · rintro j σ ⟨s7, s3, sI, sM, hF, hk⟩
    refine awp_seq_k fun K hK => ?_
    refine awp_next_k (by kernel_rfl) s7 sI sM rfl fun R hR => ⟨fun _ => ?_, fun i hi _ => by simp at hi⟩
    simp only [go_sem, endE]
    have q3 := nmne (b := σ.k) (Nat.lt_trans n1 (show k < σ.k by omega))
    repeat' (first | (refine awp_ghost (ghost_bag (x := mm) (es := []) (es' := bsE []) ?_ ?_) ?_; (focus (simp only [go_sem, sM]; done)); (focus exact .refl _); simp only [go_sem]) | refine awp_seq_k fun K hK => ?_ | ((first | refine awp_region_k (by kernel_rfl) fun R hR => ?_ | refine awp_draw mixed (by kernel_rfl) (by kernel_rfl) fun R hR => ?_); simp only [go_sem, s3]) | ((first | (refine hR _ ?_; clear hR R) | refine awp_skip ?_ | refine awp_exit ?_ | refine awp_ret ?_); try simp only [thenA, inBlockA, reduceIte, reduceCtorEq, Nat.reduceEqDiff, if_false, if_true]) | ((first | refine hK _ ?_ | (clear hK K; first | refine hK _ ?_ | (clear hK K; first | refine hK _ ?_ | (clear hK K; first | refine hK _ ?_ | (clear hK K; refine hK _ ?_))))); clear hK K) | refine awp_true rfl rfl ?_ | refine awp_false rfl rfl ?_ | refine awp_block ?_ | ((first | refine CallK.pure (enter76) (sort1_tri [] (.fn (.func 77) [] []) (by simp)) ?_ ?_ | refine CallD.pure (enter76) (sort1_tri [] (.fn (.func 77) [] []) (by simp)) ?_ ?_); (focus first | ((repeat (first | exact trivial | refine ⟨(by first | exact Or.inl rfl | exact Or.inr rfl), ?_⟩)); done) | (simp only [coL, AV.dat, true_or, or_true, AV.d.injEq, go_sem]; done)); simp only [go_sem, s3]) | refine And.intro (by first | ((repeat' first | omega | exact trivial | rfl | assumption | (intro a e; subst e; rfl) | exact map_sz fun a => (by simp only [go_sem]) | refine And.intro ?_ ?_); done) | fail) ?_ | fail)
    refine ret_ro (by simp only [Try.results45, resOkL, resOk, Try.ntmps45, List.toList_toArray]; decide) ?_ ((hF.updn _).fr (by simp only [upd_self]; exact em.symm))
    simp only [resA, resV, Try.results45, go_sem, s3]
    exact .dat rfl
end Go.Proofs.Ytmeekpinkfpnhab
namespace Go.Proofs.Ytmeekpinkfpnhab
open Go.RowKit
set_option maxHeartbeats 8000000 in
set_option maxRecDepth 20000 in
theorem listN_tri (mm : Nm) (b : Bs) (hne : 0 < b.length) (hz : b.length ≤ 4000000) (hnd : (b.map (·.1)).Nodup) (hr : ∀ p ∈ b, -1000000 ≤ p.1 ∧ p.1 ≤ 1000000) (hs : ∀ p ∈ b, p.2.size ≤ 4000000) : Tri Try.prog 45 [.map mm] (rdE [(mm, .bag (bsE b))] (.d (.sl ((sortB b).map bdDV)))) := by
  refine tri_enter_ro Try.func45 rfl Try.ntmps45 (by simp only [List.length_cons, List.length_nil]; omega) fun w0 h0 k hro => ?_
  obtain ⟨n1, em⟩ := hro.get (mm, .bag (bsE b)) (by simp)
  refine awp_bag em fun es' hp => ?_
  obtain ⟨b', rfl, hpb⟩ := perm_unmap (fun p : Int × Tm => (p.1, tmDV p.2)) hp b rfl
  have hlb : b'.length = b.length := hpb.length_eq.symm
  have q1 := nmne n1
  repeat' (first | (refine awp_ghost (ghost_gro (i := 3) (e := 69) ?_) ?_; (focus (simp only [go_sem]; done)); simp only [go_sem]) | refine awp_seq_k fun K hK => ?_ | ((first | refine awp_region_k (by kernel_rfl) fun R hR => ?_ | refine awp_draw mixed (by kernel_rfl) (by kernel_rfl) fun R hR => ?_); simp only [go_sem, em, q1, effRange, okRange]) | ((first | (refine hR _ ?_; clear hR R) | refine awp_skip ?_ | refine awp_exit ?_ | refine awp_ret ?_); try simp only [thenA, inBlockA, reduceIte, reduceCtorEq, Nat.reduceEqDiff, if_false, if_true]) | ((first | refine hK _ ?_ | (clear hK K; first | refine hK _ ?_ | (clear hK K; first | refine hK _ ?_ | (clear hK K; first | refine hK _ ?_ | (clear hK K; refine hK _ ?_))))); clear hK K) | refine awp_true rfl rfl ?_ | refine awp_false rfl rfl ?_ | refine awp_block ?_ | refine And.intro (by first | ((repeat' first | omega | exact trivial | rfl | assumption | (intro a e; subst e; rfl) | exact map_sz fun a => (by simp only [go_sem]) | refine And.intro ?_ ?_); done) | fail) ?_ | fail)
  refine awp_loopN (fun j σ => ∃ seen : List Nat, j = b'.length - seen.length ∧ seen.Nodup ∧ (∀ i ∈ seen, i < b'.length) ∧ σ.t 7 = .ptr (k + 1 + 1 + 1, 1) 0 ∧ σ.t 3 = .gro (k + 1 + 1, 0) seen.length ∧ σ.h (k + 1 + 1, 0) = some (.gro 69 seen.length (flatD ((seenB b' seen).map bdDV))) ∧ σ.h (k + 1 + 1 + 1, 1) = some (.iter mm b'.length seen) ∧ σ.h mm = some (.map (bsE b')) ∧ FrX k mm h0 σ.h ∧ k + 1 + 1 + 1 < σ.k) ?_ ?_
  · refine ⟨b'.length, [], rfl, List.nodup_nil, (by simp), ?_, ?_, ?_, ?_, ?_, ?_, ?_⟩
    · simp only [go_sem, ]
    · simp only [go_sem, List.length_nil]
    · simp only [go_sem, ]; rfl
    · simp only [go_sem, ]
    · simp only [go_sem, q1]; rfl
    · exact (((FrX.rfl' k mm h0).updn _).updk (by omega) _).updk (by omega) _
    · show k + 1 + 1 + 1 < k + 1 + 1 + 1 + 1; omega
  · rintro j σ ⟨seen, hj, sn, sl, s7, s3, sG, sI, sM, hF, hk⟩
    have l2 := ltne (show k + 1 + 1 < σ.k by omega)
    have l3 := ltne hk
    have q3 := nmne (b := σ.k) (Nat.lt_trans n1 (show k < σ.k by omega))
    refine awp_seq_k fun K hK => ?_
    refine awp_next_k (by kernel_rfl) s7 sI sM (bsE_len b') fun R hR => ⟨fun hall => ?_, fun i hi hns => ?_⟩
    · have hperm : (seenB b' seen).Perm b' := seenB_all sn sl fun i hi => hall i (by rw [bsE_len]; exact hi)
      have hLl : seen.length = (seenB b' seen).length := by simp [seenB]
      rw [hLl] at s3 sG
      rw [flatD_eq] at sG
      have hpb2 : b.Perm (seenB b' seen) := hpb.trans hperm.symm
      have hsort := sortB_perm hnd hpb2
      have hLn := hpb2.length_eq
      have hLnd : ((seenB b' seen).map (·.1)).Nodup := (hpb2.map _).nodup_iff.1 hnd
      have hLr : ∀ p ∈ seenB b' seen, -1000000 ≤ p.1 ∧ p.1 ≤ 1000000 := fun p hp => hr p (hpb2.mem_iff.2 hp)
      have hpm : (bsE b).Perm (bsE b') := hpb.map _
      generalize seenB b' seen = L at *
      have hlen2 : L.length = ((sortB L).map bdDV).length := by rw [List.length_map, sortB_len]
      simp only [go_sem, endE]
      repeat' (first | (refine awp_ghost (ghost_arr (i := 3) (x := (k + 1 + 1, 0)) (e := 69) (len := L.length) (cs := flatC (L.map bdDV)) ?_ ?_ (by omega)) ?_; (focus (simp only [go_sem, s3]; done)); (focus (simp only [go_sem, sG]; done)); simp only [go_sem]) | (refine CallK.eff (enter76) (sortF_tri L (by omega) (by omega) hLnd hLr (σ.k + 1, 0)) ?_ ?_ ?_ ?_; (focus exact ⟨.inl rfl, .inl rfl, trivial⟩); (focus (intro x hx; rcases List.mem_singleton.1 hx with rfl; simp only [go_sem, q1, q3]; done)); (focus (intro x hx; rcases List.mem_singleton.1 hx with rfl; left; simp only [go_sem, q1, q3]; done)); simp only [sortBE]; simp only [go_sem, q1, q3]) | (refine awp_ghost (ghost_freeze (i := 3) (n := (σ.k + 1, 0)) (e := 69) (ys := (sortB L).map bdDV) (len := L.length) (sz := 4) ?_ ?_ hlen2 (bd_four _)) ?_; (focus (simp only [go_sem]; done)); (focus (simp only [go_sem, q1, q3]; done)); simp only [go_sem]) | (refine awp_ghost (ghost_bag (x := mm) (es := bsE b') (es' := bsE b) ?_ hpm) ?_; (focus (simp only [go_sem, sM, q1, q3]; done)); simp only [go_sem]) | refine awp_seq_k fun K hK => ?_ | ((first | refine awp_region_k (by kernel_rfl) fun R hR => ?_ | refine awp_draw mixed (by kernel_rfl) (by kernel_rfl) fun R hR => ?_); simp only [go_sem, s3]) | ((first | (refine hR _ ?_; clear hR R) | refine awp_skip ?_ | refine awp_exit ?_ | refine awp_ret ?_); try simp only [thenA, inBlockA, reduceIte, reduceCtorEq, Nat.reduceEqDiff, if_false, if_true]) | ((first | refine hK _ ?_ | (clear hK K; first | refine hK _ ?_ | (clear hK K; first | refine hK _ ?_ | (clear hK K; first | refine hK _ ?_ | (clear hK K; refine hK _ ?_))))); clear hK K) | refine awp_true rfl rfl ?_ | refine awp_false rfl rfl ?_ | refine awp_block ?_ | refine And.intro (by first | ((repeat' first | omega | exact trivial | rfl | assumption | (intro a e; subst e; rfl) | exact map_sz fun a => (by simp only [go_sem]) | refine And.intro ?_ ?_); done) | fail) ?_ | fail)
      refine ret_ro (by simp only [Try.results45, resOkL, resOk, Try.ntmps45, List.toList_toArray]; decide) ?_ (FrX.fr (n := mm) (by repeat (first | exact FrX.rfl' _ _ _ | assumption | refine FrX.updk ?_ (by omega) _ | refine FrX.updn ?_ _)) (by simp only [go_sem, q1, q3]; exact em.symm))
      simp only [resA, resV, Try.results45, go_sem]
      rw [hsort]
      exact .dat rfl
    · rw [bsE_len] at hi
      have hsl : seen.length < b'.length := by
        have h1 : (i :: seen).Nodup := List.nodup_cons.2 ⟨hns, sn⟩
        have h2 := seen_le h1 (n := b'.length) fun x hx => by
          rcases List.mem_cons.1 hx with rfl | hx
          · exact hi
          · exact sl x hx
        simp at h2; omega
      have hgl : (seen ++ [i]).getLast? = some i := by simp
      have exs : ∀ n : Nat, (∃ j, some i = some j ∧ j < n) = (i < n) := fun n => by simp
      have e1 := bsE_getD b' hi
      have hcs : b'[i].2.size ≤ 4000000 := hs _ (hpb.mem_iff.2 (List.getElem_mem hi))
      have hfl : (flatD ((seenB b' seen).map bdDV)).length = seen.length * 4 := by rw [flatD_eq, flatC_len (bd_four _)]; simp [seenB]
      have hsn : flatD ((seenB b' seen).map bdDV) ++ flatD [bdDV (b'[i].1, b'[i].2)] = flatD ((seenB b' (seen ++ [i])).map bdDV) := by
        rw [seenB_snoc b' seen hi, List.map_append, List.map_cons, List.map_nil, flatD_snoc]
      simp only [go_sem, comesE, e1]
      repeat' (first | refine awp_seq_k fun K hK => ?_ | ((first | refine awp_region_k (by kernel_rfl) fun R hR => ?_ | refine awp_draw mixed (by kernel_rfl) (by kernel_rfl) fun R hR => ?_); simp only [go_sem, s3, s7, sG, sI, sM, l2, l3, q1, q3, effEntry, okEntry, hgl, exs, hi, e1, bsE_len, hfl, groCs, Option.getD_some, List.length_cons, List.length_nil, Nat.zero_add]) | ((first | (refine hR _ ?_; clear hR R) | refine awp_skip ?_ | refine awp_exit ?_ | refine awp_ret ?_); try simp only [thenA, inBlockA, reduceIte, reduceCtorEq, Nat.reduceEqDiff, if_false, if_true]) | ((first | refine hK _ ?_ | (clear hK K; first | refine hK _ ?_ | (clear hK K; first | refine hK _ ?_ | (clear hK K; first | refine hK _ ?_ | (clear hK K; refine hK _ ?_))))); clear hK K) | refine awp_true rfl rfl ?_ | refine awp_false rfl rfl ?_ | refine awp_block ?_ | ((first | refine CallK.pure (enter56) (copied_tri b'[i].2 hcs) ?_ ?_ | refine CallD.pure (enter56) (copied_tri b'[i].2 hcs) ?_ ?_); (focus first | ((repeat (first | exact trivial | refine ⟨(by first | exact Or.inl rfl | exact Or.inr rfl), ?_⟩)); done) | (simp only [coL, AV.dat, true_or, or_true, AV.d.injEq, go_sem]; done)); simp only [go_sem, s3, s7, sG, sI, sM, l2, l3, q1, q3, effEntry, okEntry, hgl, exs, hi, e1, bsE_len, hfl, groCs, Option.getD_some, List.length_cons, List.length_nil, Nat.zero_add]) | refine And.intro (by first | ((repeat' first | omega | exact trivial | rfl | assumption | (intro a e; subst e; rfl) | exact map_sz fun a => (by simp only [go_sem]) | refine And.intro ?_ ?_); done) | fail) ?_ | fail)
      refine ⟨b'.length - (seen ++ [i]).length, by simp; omega, seen ++ [i], rfl, ?_, ?_, ?_, ?_, ?_, ?_, ?_, ?_, ?_⟩
      · rw [List.nodup_append]
        exact ⟨sn, by simp, fun a ha b hb e => by simp at hb; subst hb; subst e; exact hns ha⟩
      · intro x hx
        rcases List.mem_append.1 hx with hx | hx
        · exact sl x hx
        · simp at hx; subst hx; exact hi
      · simp only [go_sem, s7]
      · simp only [go_sem, List.length_append, List.length_cons, List.length_nil, Nat.zero_add]
      · simp only [go_sem, l2, List.length_append, List.length_cons, List.length_nil, Nat.zero_add]
        rw [← hsn]; rfl
      · simp only [go_sem, l3]
      · simp only [go_sem, sM, q1, q3]
      · exact (by repeat (first | exact FrX.rfl' _ _ _ | assumption | refine FrX.updk ?_ (by omega) _ | refine FrX.updn ?_ _))
      · show k + 1 + 1 + 1 < σ.k + 1 + 1 + 1; omega
theorem list_tri (mm : Nm) (b : Bs) (hz : b.length ≤ 4000000) (hnd : (b.map (·.1)).Nodup) (hr : ∀ p ∈ b, -1000000 ≤ p.1 ∧ p.1 ≤ 1000000) (hs : ∀ p ∈ b, p.2.size ≤ 4000000) : Tri Try.prog 45 [.map mm] (rdE [(mm, .bag (bsE b))] (.d (.sl ((sortB b).map bdDV)))) := by
  rcases Nat.eq_zero_or_pos b.length with h | h
  · obtain rfl := List.eq_nil_of_length_eq_zero h
    have e : sortB [] = [] := List.eq_nil_of_length_eq_zero (by rw [sortB_len]; rfl)
    rw [e]
    exact list0_tri mm
  · exact listN_tri mm b h hz hnd hr hs
end Go.Proofs.Ytmeekpinkfpnhab
namespace Go.Proofs.Ytmeekpinkfpnhab
open Go.RowKit
def bagE (n' : Nm) (es : List (Int × DV)) (v : AV) : Eff := ⟨v, [(n', none)], [(n', some (.bag es))]⟩
attribute [go_sem] bagE
theorem ret_bagE {P : Program} {fn : Func} {n' q : Nm} {es : List (Int × DV)} {v val : AV} {h0 : Heap} {k : Nat} {s : St} (h1 : resOkL P fn.ntmps s fn.results.toList) (h2 : resA P s fn.results.toList = v) (hco : Co k (some (n', q)) v val) (hq : k ≤ q.1) (hn' : n'.1 < k) (h0' : h0 n' = none)
    (hp : s.h q = some (.bag es)) (hfr : Fr k h0 s.h) : RetOK P fn (bagE n' es val) h0 k s := by
  have e1 : (bagE n' es val).ap h0 n' = some (.bag es) := by simp [bagE, Eff.ap, upd]
  refine ⟨h1, some (n', q), ?_, fun x hx hxn => ?_, ?_, ?_⟩
  · rw [h2]; exact hco
  · have hxn := hxn _ rfl
    simp only at hxn
    simp [bagE, Eff.ap, upd, hxn, hfr x hx]
  · rintro y hy
    cases hy
    exact ⟨hn', hq, h0', ⟨_, by simp only [bagE]; exact List.mem_cons_self .., rfl⟩, _, e1, hp, rfl⟩
  · intro x hx ob ho y hy
    simp only [bagE, List.mem_cons, List.not_mem_nil, or_false] at hx
    subst hx
    cases ho; cases hy
set_option maxHeartbeats 1000000 in
set_option maxRecDepth 20000 in
theorem bothF_tri (n : Nat) (x y : Tm) (b : Bs) (h1 : oneF n [] x y = some (false, b)) : Tri Try.prog 46 [.d (tmDV x), .d (tmDV y)] (pure' (.tup [.d (.v (.map none)), bA false, iA 0])) := by
  refine tri_enter Try.func46 rfl Try.ntmps46 (by simp only [List.length_cons, List.length_nil]; omega) fun w0 h0 k hrd hwr => ?_
  have hnd : [((k + 1, 2) : Nm), (k + 1, 0)].Nodup := by simp
  have hT1 := uone_tri (k + 1, 2) (k + 1, 0) hnd n [] x y _ h1
  have hA1 : ∀ h : Heap, h (k + 1, 2) = some (.cells 122 [.map (k + 1, 0)]) → h (k + 1, 0) = some (.map []) → Ag (k + 1 + 1 + 1) [(k + 1, 2), (k + 1, 0)] (oL (unL (k + 1, 2) (k + 1, 0) [])) h := fun h e1 e2 => unL_ag hnd (by simp only; omega) (by simp only; omega) e1 e2
  repeat' (first | refine awp_seq_k fun K hK => ?_ | ((first | refine awp_region_k (by kernel_rfl) fun R hR => ?_ | refine awp_draw mixed (by kernel_rfl) (by kernel_rfl) fun R hR => ?_); simp only [go_sem]) | ((first | (refine hR _ ?_; clear hR R) | refine awp_skip ?_ | refine awp_exit ?_ | refine awp_ret ?_); try simp only [thenA, inBlockA, reduceIte, reduceCtorEq, Nat.reduceEqDiff, if_false, if_true]) | ((first | refine hK _ ?_ | (clear hK K; first | refine hK _ ?_ | (clear hK K; first | refine hK _ ?_ | (clear hK K; first | refine hK _ ?_ | (clear hK K; refine hK _ ?_))))); clear hK K) | refine awp_true rfl rfl ?_ | refine awp_false rfl rfl ?_ | refine awp_block ?_ | ((first | refine CallK.chg (enter78) (hT1) ?_ (hA1 _ (by simp only [go_sem, ]) (by simp only [go_sem, ])) (Fr.rfl' _ _) ?_ | refine CallD.chg (enter78) (hT1) ?_ (hA1 _ (by simp only [go_sem, ]) (by simp only [go_sem, ])) (Fr.rfl' _ _) (by first | assumption | exact List.cons_ne_nil _ _) ?_); (focus first | ((repeat (first | exact trivial | refine ⟨(by first | exact Or.inl rfl | exact Or.inr rfl), ?_⟩)); done) | (simp only [coL, AV.dat, true_or, or_true, AV.d.injEq, go_sem]; done)); simp only [go_sem]) | refine And.intro (by first | ((repeat' first | omega | exact trivial | rfl | assumption | (intro a e; subst e; rfl) | exact map_sz fun a => (by simp only [go_sem]) | refine And.intro ?_ ?_); done) | fail) ?_ | fail)
  refine ret_pure (by simp only [Try.results46, resOkL, resOk, Try.ntmps46, List.toList_toArray]; decide) ?_ (by repeat (first | exact Fr.rfl' _ _ | assumption | refine Fr.updk ?_ (by omega) _ | refine Fr.stH ?_ _ (by intro n hn; simp only [List.mem_cons, List.not_mem_nil, or_false] at hn; rcases hn with rfl | rfl | rfl <;> (simp only; omega)) | refine Fr.stH ?_ _ (by intro n hn; simp only [List.mem_cons, List.not_mem_nil, or_false] at hn; rcases hn with rfl | rfl <;> (simp only; omega))))
  simp only [resA, resV, Try.results46, go_sem]
  exact .t3 (.dat rfl) (.dat rfl) (.dat rfl)
def greatB (sz : Tm → Int) (x : Tm) (b : Bs) : Bool := decide (sz x > 120) || b.any fun p => decide (sz p.2 > 120)
theorem great_perm {sz : Tm → Int} {x : Tm} {b b' : Bs} (h : b.Perm b') : greatB sz x b = greatB sz x b' := by
  unfold greatB
  congr 1
  rw [Bool.eq_iff_iff, List.any_eq_true, List.any_eq_true]
  exact ⟨fun ⟨p, h1, h2⟩ => ⟨p, h.mem_iff.1 h1, h2⟩, fun ⟨p, h1, h2⟩ => ⟨p, h.mem_iff.2 h1, h2⟩⟩
theorem great_snoc {sz : Tm → Int} {x : Tm} {b : Bs} {p : Int × Tm} : greatB sz x (b ++ [p]) = (greatB sz x b || decide (sz p.2 > 120)) := by
  unfold greatB; rw [List.any_append]; simp [Bool.or_assoc]
section
variable (n : Nat) (x y : Tm) (b : Bs) (h1 : oneF n [] x y = some (true, b)) (hz : b.length ≤ 4000000) (sz : Tm → Int) (KnR : List (Int × Int) → Prop) (hK0 : KnR []) (hKb : ∀ kn, KnR kn → KnOk kn)
  (hsx : ∀ kn, KnR kn → ∃ kn', KnR kn' ∧ sizeF n b x kn = some (sz x, kn')) (hsb : ∀ p ∈ b, ∀ kn, KnR kn → ∃ kn', KnR kn' ∧ sizeF n b p.2 kn = some (sz p.2, kn'))
include h1 hz hK0 hKb hsx hsb
set_option maxHeartbeats 8000000 in
set_option maxRecDepth 20000 in
theorem bothM_tri (hg : greatB sz x b = true) : Tri Try.prog 46 [.d (tmDV x), .d (tmDV y)] (pure' (.tup [.d (.v (.map none)), bA false, iA 2])) := by
  obtain ⟨kn0, hkn0, h2⟩ := hsx [] hK0
  refine tri_enter Try.func46 rfl Try.ntmps46 (by simp only [List.length_cons, List.length_nil]; omega) fun w0 h0 k hrd hwr => ?_
  have hnd : [((k + 1, 2) : Nm), (k + 1, 0)].Nodup := by simp
  have hnd3 : [((k + 1, 2) : Nm), (k + 1, 0), (k + 1 + 1 + 1, 0)].Nodup := by simp
  have hT1 := uone_tri (k + 1, 2) (k + 1, 0) hnd n [] x y _ h1
  have hT2 := usize_tri (k + 1, 2) (k + 1, 0) (k + 1 + 1 + 1, 0) hnd3 b n x [] _ (hKb _ hK0) h2
  have hA1 : ∀ h : Heap, h (k + 1, 2) = some (.cells 122 [.map (k + 1, 0)]) → h (k + 1, 0) = some (.map []) → Ag (k + 1 + 1 + 1) [(k + 1, 2), (k + 1, 0)] (oL (unL (k + 1, 2) (k + 1, 0) [])) h := fun h e1 e2 => unL_ag hnd (by simp only; omega) (by simp only; omega) e1 e2
  have hA2 : ∀ h : Heap, h (k + 1, 2) = some (.cells 122 [.map (k + 1, 0)]) → h (k + 1, 0) = some (.map (bsE b)) → h (k + 1 + 1 + 1, 0) = some (.map []) → Ag (k + 1 + 1 + 1 + 1) [(k + 1, 2), (k + 1, 0), (k + 1 + 1 + 1, 0)] (oL (szL (k + 1, 2) (k + 1, 0) (k + 1 + 1 + 1, 0) b [])) h := fun h e1 e2 e3 => szL_ag hnd3 (by simp only; omega) (by simp only; omega) (by simp only; omega) e1 e2 e3
  have eo1 : ∀ kn, oL (szL (k + 1, 2) (k + 1, 0) (k + 1 + 1 + 1, 0) b kn) (k + 1, 2) = .cells 122 [.map (k + 1, 0)] := fun kn => oL_mem (l := szL (k + 1, 2) (k + 1, 0) (k + 1 + 1 + 1, 0) b kn) (p := ((k + 1, 2), _)) hnd3 (List.mem_cons_self ..)
  have eo2 : ∀ kn, oL (szL (k + 1, 2) (k + 1, 0) (k + 1 + 1 + 1, 0) b kn) (k + 1, 0) = .map (bsE b) := fun kn => oL_mem (l := szL (k + 1, 2) (k + 1, 0) (k + 1 + 1 + 1, 0) b kn) (p := ((k + 1, 0), _)) hnd3 (List.mem_cons_of_mem _ (List.mem_cons_self ..))
  have eo3 : ∀ kn, oL (szL (k + 1, 2) (k + 1, 0) (k + 1 + 1 + 1, 0) b kn) (k + 1 + 1 + 1, 0) = .map (knE kn) := fun kn => oL_mem (l := szL (k + 1, 2) (k + 1, 0) (k + 1 + 1 + 1, 0) b kn) (p := ((k + 1 + 1 + 1, 0), _)) hnd3 (List.mem_cons_of_mem _ (List.mem_cons_of_mem _ (List.mem_cons_self ..)))
  repeat' (first | refine awp_seq_k fun K hK => ?_ | ((first | refine awp_region_k (by kernel_rfl) fun R hR => ?_ | refine awp_draw mixed (by kernel_rfl) (by kernel_rfl) fun R hR => ?_); simp only [go_sem, effRange, okRange, eo1, eo2]) | ((first | (refine hR _ ?_; clear hR R) | refine awp_skip ?_ | refine awp_exit ?_ | refine awp_ret ?_); try simp only [thenA, inBlockA, reduceIte, reduceCtorEq, Nat.reduceEqDiff, if_false, if_true]) | ((first | refine hK _ ?_ | (clear hK K; first | refine hK _ ?_ | (clear hK K; first | refine hK _ ?_ | (clear hK K; first | refine hK _ ?_ | (clear hK K; refine hK _ ?_))))); clear hK K) | refine awp_true rfl rfl ?_ | refine awp_false rfl rfl ?_ | refine awp_block ?_ | ((first | refine CallK.chg (enter78) (hT1) ?_ (hA1 _ (by simp only [go_sem, ]) (by simp only [go_sem, ])) (Fr.rfl' _ _) ?_ | refine CallD.chg (enter78) (hT1) ?_ (hA1 _ (by simp only [go_sem, ]) (by simp only [go_sem, ])) (Fr.rfl' _ _) (by first | assumption | exact List.cons_ne_nil _ _) ?_); (focus first | ((repeat (first | exact trivial | refine ⟨(by first | exact Or.inl rfl | exact Or.inr rfl), ?_⟩)); done) | (simp only [coL, AV.dat, true_or, or_true, AV.d.injEq, go_sem]; done)); simp only [go_sem, effRange, okRange, eo1, eo2]) | ((first | refine CallK.chg (enter79) (hT2) ?_ (hA2 _ (by show upd _ _ _ _ = _; rw [upd_ne _ _ (nmk1 _)]; exact (unL_st hnd).1) (by show upd _ _ _ _ = _; rw [upd_ne _ _ (nmk1 _)]; exact (unL_st hnd).2) (by show upd _ _ _ _ = _; rw [upd_self])) (Fr.rfl' _ _) ?_ | refine CallD.chg (enter79) (hT2) ?_ (hA2 _ (by show upd _ _ _ _ = _; rw [upd_ne _ _ (nmk1 _)]; exact (unL_st hnd).1) (by show upd _ _ _ _ = _; rw [upd_ne _ _ (nmk1 _)]; exact (unL_st hnd).2) (by show upd _ _ _ _ = _; rw [upd_self])) (Fr.rfl' _ _) (by first | assumption | exact List.cons_ne_nil _ _) ?_); (focus first | ((repeat (first | exact trivial | refine ⟨(by first | exact Or.inl rfl | exact Or.inr rfl), ?_⟩)); done) | (simp only [coL, AV.dat, true_or, or_true, AV.d.injEq, go_sem]; done)); simp only [go_sem, effRange, okRange, eo1, eo2]) | refine And.intro (by first | ((repeat' first | omega | exact trivial | rfl | assumption | (intro a e; subst e; rfl) | exact map_sz fun a => (by simp only [go_sem]) | refine And.intro ?_ ?_); done) | fail) ?_ | fail)
  refine awp_loopN (fun j σ => ∃ (seen : List Nat) (kn : List (Int × Int)), j = b.length - seen.length ∧ seen.Nodup ∧ (∀ i ∈ seen, i < b.length) ∧ KnR kn ∧ σ.t 7 = .ptr (k + 1, 2) 0 ∧ σ.t 8 = .map (k + 1 + 1 + 1, 0) ∧ σ.t 9 = bA (greatB sz x (seenB b seen)) ∧ σ.t 33 = .ptr (k + 1 + 1 + 1 + 1 + 1, 4) 0 ∧ σ.h (k + 1, 2) = some (.cells 122 [.map (k + 1, 0)]) ∧ σ.h (k + 1, 0) = some (.map (bsE b)) ∧ σ.h (k + 1 + 1 + 1, 0) = some (.map (knE kn)) ∧ σ.h (k + 1 + 1 + 1 + 1 + 1, 4) = some (.iter (k + 1, 0) b.length seen) ∧ Fr k h0 σ.h ∧ k + 1 + 1 + 1 + 1 + 1 < σ.k) ?_ ?_
  · refine ⟨b.length, [], kn0, rfl, List.nodup_nil, by simp, hkn0, ?_, ?_, ?_, ?_, ?_, ?_, ?_, ?_, ?_, ?_⟩
    · simp only [go_sem, ]
    · simp only [go_sem, ]
    · simp only [go_sem, greatB, seenB, List.map_nil, List.any_nil, Bool.or_false]
    · simp only [go_sem, ]
    · simp only [go_sem, eo1]
    · simp only [go_sem, eo2]
    · simp only [go_sem, eo3]
    · simp only [go_sem, eo1, eo2, bsE_len]
    · exact (by repeat (first | exact Fr.rfl' _ _ | assumption | refine Fr.updk ?_ (by omega) _ | refine Fr.stH ?_ _ (by intro n hn; simp only [List.mem_cons, List.not_mem_nil, or_false] at hn; rcases hn with rfl | rfl | rfl <;> (simp only; omega)) | refine Fr.stH ?_ _ (by intro n hn; simp only [List.mem_cons, List.not_mem_nil, or_false] at hn; rcases hn with rfl | rfl <;> (simp only; omega))))
    · show k + 1 + 1 + 1 + 1 + 1 < k + 1 + 1 + 1 + 1 + 1 + 1; omega
  · rintro j σ ⟨seen, kn, hj, sn, sl, hkn, s7, s8, s9, s33, su, sm, sk, sI, hF, hk⟩
    have l1 := ltne (show k + 1 < σ.k by omega)
    have l3 := ltne (show k + 1 + 1 + 1 < σ.k by omega)
    have l5 := ltne hk
    refine awp_seq_k fun K hK => ?_
    refine awp_next_k (by kernel_rfl) s33 sI sm (bsE_len b) fun R hR => ⟨fun hall => ?_, fun i hi hns => ?_⟩
    · have hperm : (seenB b seen).Perm b := seenB_all sn sl fun i hi => hall i (by rw [bsE_len]; exact hi)
      rw [great_perm hperm] at s9
      simp only [go_sem, endE]
      rw [hg] at s9
      repeat' (first | refine awp_seq_k fun K hK => ?_ | ((first | refine awp_region_k (by kernel_rfl) fun R hR => ?_ | refine awp_draw mixed (by kernel_rfl) (by kernel_rfl) fun R hR => ?_); simp only [go_sem, s9]) | ((first | (refine hR _ ?_; clear hR R) | refine awp_skip ?_ | refine awp_exit ?_ | refine awp_ret ?_); try simp only [thenA, inBlockA, reduceIte, reduceCtorEq, Nat.reduceEqDiff, if_false, if_true]) | ((first | refine hK _ ?_ | (clear hK K; first | refine hK _ ?_ | (clear hK K; first | refine hK _ ?_ | (clear hK K; first | refine hK _ ?_ | (clear hK K; refine hK _ ?_))))); clear hK K) | refine awp_true rfl rfl ?_ | refine awp_false rfl rfl ?_ | refine awp_block ?_ | refine And.intro (by first | ((repeat' first | omega | exact trivial | rfl | assumption | (intro a e; subst e; rfl) | exact map_sz fun a => (by simp only [go_sem]) | refine And.intro ?_ ?_); done) | fail) ?_ | fail)
      (first | refine ret_pure ?_ ?_ ?_ | refine ret_ro ?_ ?_ ?_); focus exact (by simp only [Try.results46, resOkL, resOk, Try.ntmps46, List.toList_toArray]; first | decide | (simp only [go_sem]; done) | (simp only [go_sem]; and_intros <;> first | omega | rfl | decide))
      rotate_left; focus exact (by repeat (first | exact Fr.rfl' _ _ | assumption | refine Fr.updk ?_ (by omega) _))
      simp only [resA, resV, Try.results46, go_sem]
      all_goals try (first | exact Co.t2 (.dat rfl) (.dat rfl) | exact Co.t3 (.dat rfl) (.dat rfl) (.dat rfl))
    · rw [bsE_len] at hi
      have hsl : seen.length < b.length := by
        have h1 : (i :: seen).Nodup := List.nodup_cons.2 ⟨hns, sn⟩
        have h2 := seen_le h1 (n := b.length) fun x hx => by
          rcases List.mem_cons.1 hx with rfl | hx
          · exact hi
          · exact sl x hx
        simp at h2; omega
      have hgl : (seen ++ [i]).getLast? = some i := by simp
      have exs : ∀ n : Nat, (∃ j, some i = some j ∧ j < n) = (i < n) := fun n => by simp
      have e1 := bsE_getD b hi
      obtain ⟨kn1, hkn1, h3⟩ := hsb b[i] (List.getElem_mem hi) kn hkn
      have hT3 := usize_tri (k + 1, 2) (k + 1, 0) (k + 1 + 1 + 1, 0) hnd3 b n b[i].2 kn _ (hKb _ hkn) h3
      have hA3 : ∀ h : Heap, h (k + 1, 2) = some (.cells 122 [.map (k + 1, 0)]) → h (k + 1, 0) = some (.map (bsE b)) → h (k + 1 + 1 + 1, 0) = some (.map (knE kn)) → Ag (k + 1 + 1 + 1 + 1) [(k + 1, 2), (k + 1, 0), (k + 1 + 1 + 1, 0)] (oL (szL (k + 1, 2) (k + 1, 0) (k + 1 + 1 + 1, 0) b kn)) h := fun h e1 e2 e3 => szL_ag hnd3 (by simp only; omega) (by simp only; omega) (by simp only; omega) e1 e2 e3
      have hgs : greatB sz x (seenB b (seen ++ [i])) = (greatB sz x (seenB b seen) || decide (sz b[i].2 > 120)) := by rw [seenB_snoc b seen hi, great_snoc]
      have hnod : (seen ++ [i]).Nodup := by
        rw [List.nodup_append]
        exact ⟨sn, by simp, fun a ha c hc e => by simp at hc; subst hc; subst e; exact hns ha⟩
      have hlts : ∀ x ∈ seen ++ [i], x < b.length := fun x hx => by
        rcases List.mem_append.1 hx with hx | hx
        · exact sl x hx
        · simp at hx; subst hx; exact hi
      simp only [go_sem, comesE, e1]
      cases hgr : greatB sz x (seenB b seen) with
      | true =>
        rw [hgr] at s9 hgs
        repeat' (first | refine awp_seq_k fun K hK => ?_ | ((first | refine awp_region_k (by kernel_rfl) fun R hR => ?_ | refine awp_draw mixed (by kernel_rfl) (by kernel_rfl) fun R hR => ?_); simp only [go_sem, s7, s8, s9, s33, su, sm, sk, sI, l1, l3, l5, effEntry, okEntry, hgl, exs, hi, e1, bsE_len, Option.getD_some]) | ((first | (refine hR _ ?_; clear hR R) | refine awp_skip ?_ | refine awp_exit ?_ | refine awp_ret ?_); try simp only [thenA, inBlockA, reduceIte, reduceCtorEq, Nat.reduceEqDiff, if_false, if_true]) | ((first | refine hK _ ?_ | (clear hK K; first | refine hK _ ?_ | (clear hK K; first | refine hK _ ?_ | (clear hK K; first | refine hK _ ?_ | (clear hK K; refine hK _ ?_))))); clear hK K) | refine awp_true rfl rfl ?_ | refine awp_false rfl rfl ?_ | refine awp_block ?_ | refine And.intro (by first | ((repeat' first | omega | exact trivial | rfl | assumption | (intro a e; subst e; rfl) | exact map_sz fun a => (by simp only [go_sem]) | refine And.intro ?_ ?_); done) | fail) ?_ | fail)
        refine ⟨b.length - (seen ++ [i]).length, by simp; omega, seen ++ [i], kn, rfl, hnod, hlts, hkn, ?_, ?_, ?_, ?_, ?_, ?_, ?_, ?_, ?_, ?_⟩
        · simp only [go_sem, s7]
        · simp only [go_sem, s8]
        · simp only [go_sem, hgs, Bool.true_or]
        · simp only [go_sem, s33]
        · simp only [go_sem, su, l1]
        · simp only [go_sem, sm, l1]
        · simp only [go_sem, sk, l3]
        · simp only [go_sem, l5]
        · exact (by repeat (first | exact Fr.rfl' _ _ | assumption | refine Fr.updk ?_ (by omega) _ | refine Fr.stH ?_ _ (by intro n hn; simp only [List.mem_cons, List.not_mem_nil, or_false] at hn; rcases hn with rfl | rfl | rfl <;> (simp only; omega)) | refine Fr.stH ?_ _ (by intro n hn; simp only [List.mem_cons, List.not_mem_nil, or_false] at hn; rcases hn with rfl | rfl <;> (simp only; omega))))
        · show k + 1 + 1 + 1 + 1 + 1 < σ.k + 1 + 1 + 1; omega
      | false =>
        rw [hgr] at s9 hgs
        repeat' (first | refine awp_seq_k fun K hK => ?_ | ((first | refine awp_region_k (by kernel_rfl) fun R hR => ?_ | refine awp_draw mixed (by kernel_rfl) (by kernel_rfl) fun R hR => ?_); simp only [go_sem, s7, s8, s9, s33, su, sm, sk, sI, l1, l3, l5, effEntry, okEntry, hgl, exs, hi, e1, bsE_len, Option.getD_some]) | ((first | (refine hR _ ?_; clear hR R) | refine awp_skip ?_ | refine awp_exit ?_ | refine awp_ret ?_); try simp only [thenA, inBlockA, reduceIte, reduceCtorEq, Nat.reduceEqDiff, if_false, if_true]) | ((first | refine hK _ ?_ | (clear hK K; first | refine hK _ ?_ | (clear hK K; first | refine hK _ ?_ | (clear hK K; first | refine hK _ ?_ | (clear hK K; refine hK _ ?_))))); clear hK K) | refine awp_true rfl rfl ?_ | refine awp_false rfl rfl ?_ | refine awp_block ?_ | ((first | refine CallK.chg (enter79) (hT3) ?_ (hA3 _ (by simp only [go_sem, su, l1]) (by simp only [go_sem, sm, l1]) (by simp only [go_sem, sk, l3])) (Fr.rfl' _ _) ?_ | refine CallD.chg (enter79) (hT3) ?_ (hA3 _ (by simp only [go_sem, su, l1]) (by simp only [go_sem, sm, l1]) (by simp only [go_sem, sk, l3])) (Fr.rfl' _ _) (by first | assumption | exact List.cons_ne_nil _ _) ?_); (focus first | ((repeat (first | exact trivial | refine ⟨(by first | exact Or.inl rfl | exact Or.inr rfl), ?_⟩)); done) | (simp only [coL, AV.dat, true_or, or_true, AV.d.injEq, go_sem]; done)); simp only [go_sem, s7, s8, s9, s33, su, sm, sk, sI, l1, l3, l5, effEntry, okEntry, hgl, exs, hi, e1, bsE_len, Option.getD_some]) | refine And.intro (by first | ((repeat' first | omega | exact trivial | rfl | assumption | (intro a e; subst e; rfl) | exact map_sz fun a => (by simp only [go_sem]) | refine And.intro ?_ ?_); done) | fail) ?_ | fail)
        refine ⟨b.length - (seen ++ [i]).length, by simp; omega, seen ++ [i], kn1, rfl, hnod, hlts, hkn1, ?_, ?_, ?_, ?_, ?_, ?_, ?_, ?_, ?_, ?_⟩
        · simp only [go_sem, s7]
        · simp only [go_sem, s8]
        · simp only [go_sem, hgs, Bool.false_or]
        · simp only [go_sem, s33]
        · simp only [go_sem, eo1]
        · simp only [go_sem, eo2]
        · simp only [go_sem, eo3]
        · simp only [go_sem, l5]
        · exact (by repeat (first | exact Fr.rfl' _ _ | assumption | refine Fr.updk ?_ (by omega) _ | refine Fr.stH ?_ _ (by intro n hn; simp only [List.mem_cons, List.not_mem_nil, or_false] at hn; rcases hn with rfl | rfl | rfl <;> (simp only; omega)) | refine Fr.stH ?_ _ (by intro n hn; simp only [List.mem_cons, List.not_mem_nil, or_false] at hn; rcases hn with rfl | rfl <;> (simp only; omega))))
        · show k + 1 + 1 + 1 + 1 + 1 < σ.k + 1 + 1 + 1; omega
end
end Go.Proofs.Ytmeekpinkfpnhab
namespace Go.Proofs.Ytmeekpinkfpnhab
open Go.RowKit
def thruB (m : Nat) (b : Bs) : Bs := b.map fun p => (p.1, thruT m b p.2)
theorem thruB_put {b : Bs} (hnd : (b.map (·.1)).Nodup) (m : Nat) {i : Nat} (hi : i < b.length) {seen : List Nat} (hl : ∀ j ∈ seen, j < b.length) (hns : i ∉ seen) : putM b[i].1 (tmDV (thruT m b b[i].2)) (bsE (seenB (thruB m b) seen)) = bsE (seenB (thruB m b) (seen ++ [i])) := by
  have hb2 : (thruB m b).length = b.length := by simp [thruB]
  have e1 : (thruB m b)[i]'(by omega) = (b[i].1, thruT m b b[i].2) := by simp [thruB]
  rw [putM_bs, seenB_snoc _ _ (by omega), e1]
  refine lookB_not fun hm => ?_
  obtain ⟨p, hp, e2⟩ := List.mem_map.1 hm
  obtain ⟨j, hj, rfl⟩ := List.mem_map.1 hp
  have hjl := hl j hj
  have e3 : ((thruB m b).getD j (0, .mk 0 0 [])).1 = b[j].1 := by
    rw [List.getD_eq_getElem?_getD, List.getElem?_eq_getElem (by omega), Option.getD_some]; simp [thruB]
  rw [e3] at e2
  have hne : j ≠ i := fun e => hns (e ▸ hj)
  rcases Nat.lt_or_ge j i with h | h
  · have := List.pairwise_iff_getElem.1 hnd j i (by rw [List.length_map]; exact hjl) (by rw [List.length_map]; exact hi) h
    rw [List.getElem_map, List.getElem_map] at this
    exact this e2
  · have := List.pairwise_iff_getElem.1 hnd i j (by rw [List.length_map]; exact hi) (by rw [List.length_map]; exact hjl) (by omega)
    rw [List.getElem_map, List.getElem_map] at this
    exact this e2.symm
section
variable (n : Nat) (x y : Tm) (b : Bs) (h1 : oneF n [] x y = some (true, b)) (hz : b.length ≤ 4000000) (sz : Tm → Int) (KnR : List (Int × Int) → Prop) (hK0 : KnR []) (hKb : ∀ kn, KnR kn → KnOk kn)
  (hsx : ∀ kn, KnR kn → ∃ kn', KnR kn' ∧ sizeF n b x kn = some (sz x, kn')) (hsb : ∀ p ∈ b, ∀ kn, KnR kn → ∃ kn', KnR kn' ∧ sizeF n b p.2 kn = some (sz p.2, kn'))
  (hnd : (b.map (·.1)).Nodup) (hbs : ∀ p ∈ b, p.2.size ≤ 4000000) (m : Nat) (hth : ∀ p ∈ b, thruOk m b p.2 = true)
include h1 hz hK0 hKb hsx hsb hnd hbs hth
set_option maxHeartbeats 8000000 in
set_option maxRecDepth 20000 in
theorem bothT_tri (hg : greatB sz x b = false) (n' : Nm) : Tri Try.prog 46 [.d (tmDV x), .d (tmDV y)] (bagE n' (bsE (thruB m b)) (.tup [.map n', bA true, iA 0])) := by
  obtain ⟨kn0, hkn0, h2⟩ := hsx [] hK0
  refine tri_enter Try.func46 rfl Try.ntmps46 (by simp only [List.length_cons, List.length_nil]; omega) fun w0 h0 k hrd hwr => ?_
  have hn1 : n'.1 < k := hwr (n', some (.bag (bsE (thruB m b)))) (by simp [bagE])
  have hn2 : h0 n' = none := hrd (n', none) (by simp [bagE])
  clear hrd hwr
  have hnd2 : [((k + 1, 2) : Nm), (k + 1, 0)].Nodup := by simp
  have hnd3 : [((k + 1, 2) : Nm), (k + 1, 0), (k + 1 + 1 + 1, 0)].Nodup := by simp
  have hT1 := uone_tri (k + 1, 2) (k + 1, 0) hnd2 n [] x y _ h1
  have hT2 := usize_tri (k + 1, 2) (k + 1, 0) (k + 1 + 1 + 1, 0) hnd3 b n x [] _ (hKb _ hK0) h2
  have hA1 : ∀ h : Heap, h (k + 1, 2) = some (.cells 122 [.map (k + 1, 0)]) → h (k + 1, 0) = some (.map []) → Ag (k + 1 + 1 + 1) [(k + 1, 2), (k + 1, 0)] (oL (unL (k + 1, 2) (k + 1, 0) [])) h := fun h e1 e2 => unL_ag hnd2 (by simp only; omega) (by simp only; omega) e1 e2
  have hA2 : ∀ h : Heap, h (k + 1, 2) = some (.cells 122 [.map (k + 1, 0)]) → h (k + 1, 0) = some (.map (bsE b)) → h (k + 1 + 1 + 1, 0) = some (.map []) → Ag (k + 1 + 1 + 1 + 1) [(k + 1, 2), (k + 1, 0), (k + 1 + 1 + 1, 0)] (oL (szL (k + 1, 2) (k + 1, 0) (k + 1 + 1 + 1, 0) b [])) h := fun h e1 e2 e3 => szL_ag hnd3 (by simp only; omega) (by simp only; omega) (by simp only; omega) e1 e2 e3
  have eo1 : ∀ kn, oL (szL (k + 1, 2) (k + 1, 0) (k + 1 + 1 + 1, 0) b kn) (k + 1, 2) = .cells 122 [.map (k + 1, 0)] := fun kn => oL_mem (l := szL (k + 1, 2) (k + 1, 0) (k + 1 + 1 + 1, 0) b kn) (p := ((k + 1, 2), _)) hnd3 (List.mem_cons_self ..)
  have eo2 : ∀ kn, oL (szL (k + 1, 2) (k + 1, 0) (k + 1 + 1 + 1, 0) b kn) (k + 1, 0) = .map (bsE b) := fun kn => oL_mem (l := szL (k + 1, 2) (k + 1, 0) (k + 1 + 1 + 1, 0) b kn) (p := ((k + 1, 0), _)) hnd3 (List.mem_cons_of_mem _ (List.mem_cons_self ..))
  have eo3 : ∀ kn, oL (szL (k + 1, 2) (k + 1, 0) (k + 1 + 1 + 1, 0) b kn) (k + 1 + 1 + 1, 0) = .map (knE kn) := fun kn => oL_mem (l := szL (k + 1, 2) (k + 1, 0) (k + 1 + 1 + 1, 0) b kn) (p := ((k + 1 + 1 + 1, 0), _)) hnd3 (List.mem_cons_of_mem _ (List.mem_cons_of_mem _ (List.mem_cons_self ..)))
  repeat' (first | refine awp_seq_k fun K hK => ?_ | ((first | refine awp_region_k (by kernel_rfl) fun R hR => ?_ | refine awp_draw mixed (by kernel_rfl) (by kernel_rfl) fun R hR => ?_); simp only [go_sem, effRange, okRange, eo1, eo2]) | ((first | (refine hR _ ?_; clear hR R) | refine awp_skip ?_ | refine awp_exit ?_ | refine awp_ret ?_); try simp only [thenA, inBlockA, reduceIte, reduceCtorEq, Nat.reduceEqDiff, if_false, if_true]) | ((first | refine hK _ ?_ | (clear hK K; first | refine hK _ ?_ | (clear hK K; first | refine hK _ ?_ | (clear hK K; first | refine hK _ ?_ | (clear hK K; refine hK _ ?_))))); clear hK K) | refine awp_true rfl rfl ?_ | refine awp_false rfl rfl ?_ | refine awp_block ?_ | ((first | refine CallK.chg (enter78) (hT1) ?_ (hA1 _ (by simp only [go_sem, ]) (by simp only [go_sem, ])) (Fr.rfl' _ _) ?_ | refine CallD.chg (enter78) (hT1) ?_ (hA1 _ (by simp only [go_sem, ]) (by simp only [go_sem, ])) (Fr.rfl' _ _) (by first | assumption | exact List.cons_ne_nil _ _) ?_); (focus first | ((repeat (first | exact trivial | refine ⟨(by first | exact Or.inl rfl | exact Or.inr rfl), ?_⟩)); done) | (simp only [coL, AV.dat, true_or, or_true, AV.d.injEq, go_sem]; done)); simp only [go_sem, effRange, okRange, eo1, eo2]) | ((first | refine CallK.chg (enter79) (hT2) ?_ (hA2 _ (by show upd _ _ _ _ = _; rw [upd_ne _ _ (nmk1 _)]; exact (unL_st hnd2).1) (by show upd _ _ _ _ = _; rw [upd_ne _ _ (nmk1 _)]; exact (unL_st hnd2).2) (by show upd _ _ _ _ = _; rw [upd_self])) (Fr.rfl' _ _) ?_ | refine CallD.chg (enter79) (hT2) ?_ (hA2 _ (by show upd _ _ _ _ = _; rw [upd_ne _ _ (nmk1 _)]; exact (unL_st hnd2).1) (by show upd _ _ _ _ = _; rw [upd_ne _ _ (nmk1 _)]; exact (unL_st hnd2).2) (by show upd _ _ _ _ = _; rw [upd_self])) (Fr.rfl' _ _) (by first | assumption | exact List.cons_ne_nil _ _) ?_); (focus first | ((repeat (first | exact trivial | refine ⟨(by first | exact Or.inl rfl | exact Or.inr rfl), ?_⟩)); done) | (simp only [coL, AV.dat, true_or, or_true, AV.d.injEq, go_sem]; done)); simp only [go_sem, effRange, okRange, eo1, eo2]) | refine And.intro (by first | ((repeat' first | omega | exact trivial | rfl | assumption | (intro a e; subst e; rfl) | exact map_sz fun a => (by simp only [go_sem]) | refine And.intro ?_ ?_); done) | fail) ?_ | fail)
  refine awp_loopN (fun j σ => ∃ (seen : List Nat) (kn : List (Int × Int)), j = b.length - seen.length ∧ seen.Nodup ∧ (∀ i ∈ seen, i < b.length) ∧ KnR kn ∧ σ.t 7 = .ptr (k + 1, 2) 0 ∧ σ.t 8 = .map (k + 1 + 1 + 1, 0) ∧ σ.t 9 = bA (greatB sz x (seenB b seen)) ∧ σ.t 33 = .ptr (k + 1 + 1 + 1 + 1 + 1, 4) 0 ∧ σ.h (k + 1, 2) = some (.cells 122 [.map (k + 1, 0)]) ∧ σ.h (k + 1, 0) = some (.map (bsE b)) ∧ σ.h (k + 1 + 1 + 1, 0) = some (.map (knE kn)) ∧ σ.h (k + 1 + 1 + 1 + 1 + 1, 4) = some (.iter (k + 1, 0) b.length seen) ∧ Fr k h0 σ.h ∧ k + 1 + 1 + 1 + 1 + 1 < σ.k) ?_ ?_
  · refine ⟨b.length, [], kn0, rfl, List.nodup_nil, by simp, hkn0, ?_, ?_, ?_, ?_, ?_, ?_, ?_, ?_, ?_, ?_⟩
    · simp only [go_sem, ]
    · simp only [go_sem, ]
    · simp only [go_sem, greatB, seenB, List.map_nil, List.any_nil, Bool.or_false]
    · simp only [go_sem, ]
    · simp only [go_sem, eo1]
    · simp only [go_sem, eo2]
    · simp only [go_sem, eo3]
    · simp only [go_sem, eo1, eo2, bsE_len]
    · exact (by repeat (first | exact Fr.rfl' _ _ | assumption | refine Fr.updk ?_ (by omega) _ | refine Fr.stH ?_ _ (by intro n hn; simp only [List.mem_cons, List.not_mem_nil, or_false] at hn; rcases hn with rfl | rfl | rfl <;> (simp only; omega)) | refine Fr.stH ?_ _ (by intro n hn; simp only [List.mem_cons, List.not_mem_nil, or_false] at hn; rcases hn with rfl | rfl <;> (simp only; omega))))
    · show k + 1 + 1 + 1 + 1 + 1 < k + 1 + 1 + 1 + 1 + 1 + 1; omega
  · rintro j σ ⟨seen, kn, hj, sn, sl, hkn, s7, s8, s9, s33, su, sm, sk, sI, hF, hk⟩
    have l1 := ltne (show k + 1 < σ.k by omega)
    have l3 := ltne (show k + 1 + 1 + 1 < σ.k by omega)
    have l5 := ltne hk
    refine awp_seq_k fun K hK => ?_
    refine awp_next_k (by kernel_rfl) s33 sI sm (bsE_len b) fun R hR => ⟨fun hall => ?_, fun i hi hns => ?_⟩
    · have hperm : (seenB b seen).Perm b := seenB_all sn sl fun i hi => hall i (by rw [bsE_len]; exact hi)
      rw [great_perm hperm] at s9
      simp only [go_sem, endE]
      rw [hg] at s9
      repeat' (first | refine awp_seq_k fun K hK => ?_ | ((first | refine awp_region_k (by kernel_rfl) fun R hR => ?_ | refine awp_draw mixed (by kernel_rfl) (by kernel_rfl) fun R hR => ?_); simp only [go_sem, s7, s8, s9, su, sm, l1, l3, effRange, okRange]) | ((first | (refine hR _ ?_; clear hR R) | refine awp_skip ?_ | refine awp_exit ?_ | refine awp_ret ?_); try simp only [thenA, inBlockA, reduceIte, reduceCtorEq, Nat.reduceEqDiff, if_false, if_true]) | ((first | refine hK _ ?_ | (clear hK K; first | refine hK _ ?_ | (clear hK K; first | refine hK _ ?_ | (clear hK K; first | refine hK _ ?_ | (clear hK K; refine hK _ ?_))))); clear hK K) | refine awp_true rfl rfl ?_ | refine awp_false rfl rfl ?_ | refine awp_block ?_ | refine And.intro (by first | ((repeat' first | omega | exact trivial | rfl | assumption | (intro a e; subst e; rfl) | exact map_sz fun a => (by simp only [go_sem]) | refine And.intro ?_ ?_); done) | fail) ?_ | fail)
      have hb2 : (thruB m b).length = b.length := by simp [thruB]
      refine awp_loopN (fun j τ => ∃ seen2 : List Nat, j = b.length - seen2.length ∧ seen2.Nodup ∧ (∀ i ∈ seen2, i < b.length) ∧ τ.t 7 = .ptr (k + 1, 2) 0 ∧ τ.t 12 = .map (σ.k + 1 + 1, 0) ∧ τ.t 52 = .ptr (σ.k + 1 + 1 + 1, 4) 0 ∧ τ.h (k + 1, 2) = some (.cells 122 [.map (k + 1, 0)]) ∧ τ.h (k + 1, 0) = some (.map (bsE b)) ∧ τ.h (σ.k + 1 + 1, 0) = some (.map (bsE (seenB (thruB m b) seen2))) ∧ τ.h (σ.k + 1 + 1 + 1, 4) = some (.iter (k + 1, 0) b.length seen2) ∧ Fr k h0 τ.h ∧ σ.k + 1 + 1 + 1 < τ.k) ?_ ?_
      · refine ⟨b.length, [], rfl, List.nodup_nil, by simp, ?_, ?_, ?_, ?_, ?_, ?_, ?_, ?_, ?_⟩
        · simp only [go_sem, s7]
        · simp only [go_sem, ]
        · simp only [go_sem, ]
        · simp only [go_sem, su, l1]
        · simp only [go_sem, sm, l1]
        · simp only [go_sem, ]; rfl
        · simp only [go_sem, sm, l1, bsE_len]
        · exact (by repeat (first | exact Fr.rfl' _ _ | assumption | refine Fr.updk ?_ (by omega) _))
        · show σ.k + 1 + 1 + 1 < σ.k + 1 + 1 + 1 + 1; omega
      · rintro j τ ⟨seen2, tj, tn, tl, t7, t12, t52, tu, tm, to, tI, tF, tk⟩
        have m1 := ltne (show k + 1 < τ.k by omega)
        have m2 := ltne (show σ.k + 1 + 1 < τ.k by omega)
        have m3 := ltne tk
        refine awp_seq_k fun K hK => ?_
        refine awp_next_k (by kernel_rfl) t52 tI tm (bsE_len b) fun R hR => ⟨fun hall2 => ?_, fun i hi hns => ?_⟩
        · have hperm2 : (seenB (thruB m b) seen2).Perm (thruB m b) := seenB_all tn (fun i hi => by rw [hb2]; exact tl i hi) fun i hi => hall2 i (by rw [bsE_len, ← hb2]; exact hi)
          have hpm : (bsE (thruB m b)).Perm (bsE (seenB (thruB m b) seen2)) := hperm2.symm.map _
          simp only [go_sem, endE]
          repeat' (first | (refine awp_ghost (ghost_bag (x := (σ.k + 1 + 1, 0)) (es := bsE (seenB (thruB m b) seen2)) (es' := bsE (thruB m b)) ?_ hpm) ?_; (focus (simp only [go_sem, to]; done)); simp only [go_sem]) | refine awp_seq_k fun K hK => ?_ | ((first | refine awp_region_k (by kernel_rfl) fun R hR => ?_ | refine awp_draw mixed (by kernel_rfl) (by kernel_rfl) fun R hR => ?_); simp only [go_sem, t12]) | ((first | (refine hR _ ?_; clear hR R) | refine awp_skip ?_ | refine awp_exit ?_ | refine awp_ret ?_); try simp only [thenA, inBlockA, reduceIte, reduceCtorEq, Nat.reduceEqDiff, if_false, if_true]) | ((first | refine hK _ ?_ | (clear hK K; first | refine hK _ ?_ | (clear hK K; first | refine hK _ ?_ | (clear hK K; first | refine hK _ ?_ | (clear hK K; refine hK _ ?_))))); clear hK K) | refine awp_true rfl rfl ?_ | refine awp_false rfl rfl ?_ | refine awp_block ?_ | refine And.intro (by first | ((repeat' first | omega | exact trivial | rfl | assumption | (intro a e; subst e; rfl) | exact map_sz fun a => (by simp only [go_sem]) | refine And.intro ?_ ?_); done) | fail) ?_ | fail)
          refine ret_bagE (q := (σ.k + 1 + 1, 0)) (by simp only [Try.results46, resOkL, resOk, Try.ntmps46, List.toList_toArray]; decide) (by simp only [resA, resV, Try.results46, go_sem]; rfl) (Co.t3 (.map rfl) (.dat rfl) (.dat rfl)) (by simp only; omega) hn1 hn2 ?_ ?_
          · simp only [go_sem, ]
          · exact (by repeat (first | exact Fr.rfl' _ _ | assumption | refine Fr.updk ?_ (by omega) _))
        · rw [bsE_len] at hi
          have hsl : seen2.length < b.length := by
            have h1 : (i :: seen2).Nodup := List.nodup_cons.2 ⟨hns, tn⟩
            have h2 := seen_le h1 (n := b.length) fun x hx => by
              rcases List.mem_cons.1 hx with rfl | hx
              · exact hi
              · exact tl x hx
            simp at h2; omega
          have hgl : (seen2 ++ [i]).getLast? = some i := by simp
          have exs : ∀ n : Nat, (∃ j, some i = some j ∧ j < n) = (i < n) := fun n => by simp
          have e1 := bsE_getD b hi
          have hnod : (seen2 ++ [i]).Nodup := by
            rw [List.nodup_append]
            exact ⟨tn, by simp, fun a ha c hc e => by simp at hc; subst hc; subst e; exact hns ha⟩
          have hlts : ∀ x ∈ seen2 ++ [i], x < b.length := fun x hx => by
            rcases List.mem_append.1 hx with hx | hx
            · exact tl x hx
            · simp at hx; subst hx; exact hi
          have hT4 := through_tri (k + 1, 2) (k + 1, 0) b hbs m b[i].2 (hbs _ (List.getElem_mem hi)) (hth _ (List.getElem_mem hi))
          have hpm := thruB_put hnd m hi tl hns
          simp only [go_sem, comesE, e1]
          repeat' (first | refine awp_seq_k fun K hK => ?_ | ((first | refine awp_region_k (by kernel_rfl) fun R hR => ?_ | refine awp_draw mixed (by kernel_rfl) (by kernel_rfl) fun R hR => ?_); simp only [go_sem, t7, t12, t52, tu, tm, to, tI, l1, m1, m2, m3, effEntry, okEntry, hgl, exs, hi, e1, bsE_len, hpm, AV.toD, Option.getD_some]) | ((first | (refine hR _ ?_; clear hR R) | refine awp_skip ?_ | refine awp_exit ?_ | refine awp_ret ?_); try simp only [thenA, inBlockA, reduceIte, reduceCtorEq, Nat.reduceEqDiff, if_false, if_true]) | ((first | refine hK _ ?_ | (clear hK K; first | refine hK _ ?_ | (clear hK K; first | refine hK _ ?_ | (clear hK K; first | refine hK _ ?_ | (clear hK K; refine hK _ ?_))))); clear hK K) | refine awp_true rfl rfl ?_ | refine awp_false rfl rfl ?_ | refine awp_block ?_ | ((first | refine CallK.look (enter80) (hT4) ?_ (unR_ok (k := τ.k) (by simp only; omega) (by simp only; omega) (by simp only [go_sem, tu, m1, l1]) (by simp only [go_sem, tm, m1, l1])) (Fr.rfl' _ _) ?_ | refine CallD.look (enter80) (hT4) ?_ (unR_ok (k := τ.k) (by simp only; omega) (by simp only; omega) (by simp only [go_sem, tu, m1, l1]) (by simp only [go_sem, tm, m1, l1])) (Fr.rfl' _ _) (by first | assumption | exact List.cons_ne_nil _ _) ?_); (focus first | ((repeat (first | exact trivial | refine ⟨(by first | exact Or.inl rfl | exact Or.inr rfl), ?_⟩)); done) | (simp only [coL, AV.dat, true_or, or_true, AV.d.injEq, go_sem]; done)); simp only [go_sem, t7, t12, t52, tu, tm, to, tI, l1, m1, m2, m3, effEntry, okEntry, hgl, exs, hi, e1, bsE_len, hpm, AV.toD, Option.getD_some]) | refine And.intro (by first | ((repeat' first | omega | exact trivial | rfl | assumption | (intro a e; subst e; rfl) | exact map_sz fun a => (by simp only [go_sem]) | refine And.intro ?_ ?_); done) | fail) ?_ | fail)
          refine ⟨b.length - (seen2 ++ [i]).length, by simp; omega, seen2 ++ [i], rfl, hnod, hlts, ?_, ?_, ?_, ?_, ?_, ?_, ?_, ?_, ?_⟩
          · simp only [go_sem, t7]
          · simp only [go_sem, t12]
          · simp only [go_sem, t52]
          · simp only [go_sem, tu, m1, l1]
          · simp only [go_sem, tm, m1, l1]
          · simp only [go_sem, m2]
          · simp only [go_sem, m3]
          · exact (by repeat (first | exact Fr.rfl' _ _ | assumption | refine Fr.updk ?_ (by omega) _))
          · show σ.k + 1 + 1 + 1 < τ.k + 1 + 1 + 1; omega
    · rw [bsE_len] at hi
      have hsl : seen.length < b.length := by
        have h1 : (i :: seen).Nodup := List.nodup_cons.2 ⟨hns, sn⟩
        have h2 := seen_le h1 (n := b.length) fun x hx => by
          rcases List.mem_cons.1 hx with rfl | hx
          · exact hi
          · exact sl x hx
        simp at h2; omega
      have hgl : (seen ++ [i]).getLast? = some i := by simp
      have exs : ∀ n : Nat, (∃ j, some i = some j ∧ j < n) = (i < n) := fun n => by simp
      have e1 := bsE_getD b hi
      obtain ⟨kn1, hkn1, h3⟩ := hsb b[i] (List.getElem_mem hi) kn hkn
      have hT3 := usize_tri (k + 1, 2) (k + 1, 0) (k + 1 + 1 + 1, 0) hnd3 b n b[i].2 kn _ (hKb _ hkn) h3
      have hA3 : ∀ h : Heap, h (k + 1, 2) = some (.cells 122 [.map (k + 1, 0)]) → h (k + 1, 0) = some (.map (bsE b)) → h (k + 1 + 1 + 1, 0) = some (.map (knE kn)) → Ag (k + 1 + 1 + 1 + 1) [(k + 1, 2), (k + 1, 0), (k + 1 + 1 + 1, 0)] (oL (szL (k + 1, 2) (k + 1, 0) (k + 1 + 1 + 1, 0) b kn)) h := fun h e1 e2 e3 => szL_ag hnd3 (by simp only; omega) (by simp only; omega) (by simp only; omega) e1 e2 e3
      have hgs : greatB sz x (seenB b (seen ++ [i])) = (greatB sz x (seenB b seen) || decide (sz b[i].2 > 120)) := by rw [seenB_snoc b seen hi, great_snoc]
      have hnod : (seen ++ [i]).Nodup := by
        rw [List.nodup_append]
        exact ⟨sn, by simp, fun a ha c hc e => by simp at hc; subst hc; subst e; exact hns ha⟩
      have hlts : ∀ x ∈ seen ++ [i], x < b.length := fun x hx => by
        rcases List.mem_append.1 hx with hx | hx
        · exact sl x hx
        · simp at hx; subst hx; exact hi
      simp only [go_sem, comesE, e1]
      cases hgr : greatB sz x (seenB b seen) with
      | true =>
        rw [hgr] at s9 hgs
        repeat' (first | refine awp_seq_k fun K hK => ?_ | ((first | refine awp_region_k (by kernel_rfl) fun R hR => ?_ | refine awp_draw mixed (by kernel_rfl) (by kernel_rfl) fun R hR => ?_); simp only [go_sem, s7, s8, s9, s33, su, sm, sk, sI, l1, l3, l5, effEntry, okEntry, hgl, exs, hi, e1, bsE_len, Option.getD_some]) | ((first | (refine hR _ ?_; clear hR R) | refine awp_skip ?_ | refine awp_exit ?_ | refine awp_ret ?_); try simp only [thenA, inBlockA, reduceIte, reduceCtorEq, Nat.reduceEqDiff, if_false, if_true]) | ((first | refine hK _ ?_ | (clear hK K; first | refine hK _ ?_ | (clear hK K; first | refine hK _ ?_ | (clear hK K; first | refine hK _ ?_ | (clear hK K; refine hK _ ?_))))); clear hK K) | refine awp_true rfl rfl ?_ | refine awp_false rfl rfl ?_ | refine awp_block ?_ | refine And.intro (by first | ((repeat' first | omega | exact trivial | rfl | assumption | (intro a e; subst e; rfl) | exact map_sz fun a => (by simp only [go_sem]) | refine And.intro ?_ ?_); done) | fail) ?_ | fail)
        refine ⟨b.length - (seen ++ [i]).length, by simp; omega, seen ++ [i], kn, rfl, hnod, hlts, hkn, ?_, ?_, ?_, ?_, ?_, ?_, ?_, ?_, ?_, ?_⟩
        · simp only [go_sem, s7]
        · simp only [go_sem, s8]
        · simp only [go_sem, hgs, Bool.true_or]
        · simp only [go_sem, s33]
        · simp only [go_sem, su, l1]
        · simp only [go_sem, sm, l1]
        · simp only [go_sem, sk, l3]
        · simp only [go_sem, l5]
        · exact (by repeat (first | exact Fr.rfl' _ _ | assumption | refine Fr.updk ?_ (by omega) _ | refine Fr.stH ?_ _ (by intro n hn; simp only [List.mem_cons, List.not_mem_nil, or_false] at hn; rcases hn with rfl | rfl | rfl <;> (simp only; omega)) | refine Fr.stH ?_ _ (by intro n hn; simp only [List.mem_cons, List.not_mem_nil, or_false] at hn; rcases hn with rfl | rfl <;> (simp only; omega))))
        · show k + 1 + 1 + 1 + 1 + 1 < σ.k + 1 + 1 + 1; omega
      | false =>
        rw [hgr] at s9 hgs
        repeat' (first | refine awp_seq_k fun K hK => ?_ | ((first | refine awp_region_k (by kernel_rfl) fun R hR => ?_ | refine awp_draw mixed (by kernel_rfl) (by kernel_rfl) fun R hR => ?_); simp only [go_sem, s7, s8, s9, s33, su, sm, sk, sI, l1, l3, l5, effEntry, okEntry, hgl, exs, hi, e1, bsE_len, Option.getD_some]) | ((first | (refine hR _ ?_; clear hR R) | refine awp_skip ?_ | refine awp_exit ?_ | refine awp_ret ?_); try simp only [thenA, inBlockA, reduceIte, reduceCtorEq, Nat.reduceEqDiff, if_false, if_true]) | ((first | refine hK _ ?_ | (clear hK K; first | refine hK _ ?_ | (clear hK K; first | refine hK _ ?_ | (clear hK K; first | refine hK _ ?_ | (clear hK K; refine hK _ ?_))))); clear hK K) | refine awp_true rfl rfl ?_ | refine awp_false rfl rfl ?_ | refine awp_block ?_ | ((first | refine CallK.chg (enter79) (hT3) ?_ (hA3 _ (by simp only [go_sem, su, l1]) (by simp only [go_sem, sm, l1]) (by simp only [go_sem, sk, l3])) (Fr.rfl' _ _) ?_ | refine CallD.chg (enter79) (hT3) ?_ (hA3 _ (by simp only [go_sem, su, l1]) (by simp only [go_sem, sm, l1]) (by simp only [go_sem, sk, l3])) (Fr.rfl' _ _) (by first | assumption | exact List.cons_ne_nil _ _) ?_); (focus first | ((repeat (first | exact trivial | refine ⟨(by first | exact Or.inl rfl | exact Or.inr rfl), ?_⟩)); done) | (simp only [coL, AV.dat, true_or, or_true, AV.d.injEq, go_sem]; done)); simp only [go_sem, s7, s8, s9, s33, su, sm, sk, sI, l1, l3, l5, effEntry, okEntry, hgl, exs, hi, e1, bsE_len, Option.getD_some]) | refine And.intro (by first | ((repeat' first | omega | exact trivial | rfl | assumption | (intro a e; subst e; rfl) | exact map_sz fun a => (by simp only [go_sem]) | refine And.intro ?_ ?_); done) | fail) ?_ | fail)
        refine ⟨b.length - (seen ++ [i]).length, by simp; omega, seen ++ [i], kn1, rfl, hnod, hlts, hkn1, ?_, ?_, ?_, ?_, ?_, ?_, ?_, ?_, ?_, ?_⟩
        · simp only [go_sem, s7]
        · simp only [go_sem, s8]
        · simp only [go_sem, hgs, Bool.false_or]
        · simp only [go_sem, s33]
        · simp only [go_sem, eo1]
        · simp only [go_sem, eo2]
        · simp only [go_sem, eo3]
        · simp only [go_sem, l5]
        · exact (by repeat (first | exact Fr.rfl' _ _ | assumption | refine Fr.updk ?_ (by omega) _ | refine Fr.stH ?_ _ (by intro n hn; simp only [List.mem_cons, List.not_mem_nil, or_false] at hn; rcases hn with rfl | rfl | rfl <;> (simp only; omega)) | refine Fr.stH ?_ _ (by intro n hn; simp only [List.mem_cons, List.not_mem_nil, or_false] at hn; rcases hn with rfl | rfl <;> (simp only; omega))))
        · show k + 1 + 1 + 1 + 1 + 1 < σ.k + 1 + 1 + 1; omega
end
end Go.Proofs.Ytmeekpinkfpnhab
namespace Go.Proofs.Ytmeekpinkfpnhab
open Go.RowKit
theorem HRel.alloc_any {P : Program} {w0 w : World} {h : Heap} {k : Nat} {m : Mem} {β : Bl} (H : HRel P w0 h k m β w) (o : Obj) : HRel P w0 h k m β (w.alloc o) :=
  ⟨Below.alloc H.ext H.size _, fun b x v hv => ⟨(World.cell?_alloc_lt w _ ⟨b, x, none⟩ (H.mem_lt hv)).trans (H.mem b x v hv).1, (H.mem b x v hv).2⟩, H.dom, H.new, fun n ob hn => by
    obtain ⟨p, hp, ho⟩ := H.obj n ob hn
    exact ⟨p, hp, ho.keep (.rfl' m) (.rfl' β) fun hr => ⟨heap_alloc_old w _ (ho.lt hr), fun _ => rfl⟩⟩, H.inj⟩
set_option maxHeartbeats 1000000 in
set_option maxRecDepth 100000 in
theorem list_nil : Tri Try.prog 45 [.d (.v (.map none))] (pure' (.d (.sl []))) := by
  intro w0 h k m β w cargs H hrd hwr hsz hargs
  obtain ⟨v, rfl⟩ : ∃ v, cargs = #[v] := by
    obtain ⟨l⟩ := cargs
    match l, hsz with
    | [v], _ => exact ⟨v, rfl⟩
  have hv := hargs 0 v (.d (.v (.map none))) (by simp) (by simp)
  obtain rfl : v = .map none := by
    have := hv.dat2
    cases this; rfl
  have hP : Calls Try.prog 76 #[.slice none 0 0, .func (.func 77) #[] #[]] (w.alloc (.mapIter none 0 #[] 0)) fun en w' => ∃ v m' β', en = .returned v ∧ m.le m' ∧ β.le β' ∧ (∀ n, (∀ x ∈ (pure' AV.junk).wr, x.1 ≠ n) → β n = none → β' n = none) ∧ HRel Try.prog w0 ((pure' AV.junk).ap h) k m' β' w' ∧ R m' β' v .junk :=
    sort1_tri [] (.fn (.func 77) [] []) (by simp) w0 h k m β _ _ (H.alloc_any _) (fun x hx => by cases hx) (fun x hx => by cases hx) rfl fun i v b hi hb => by
      match i, hi, hb with
      | 0, hi, hb => simp at hi hb; subst hi; subst hb; exact .d .nil
      | 1, hi, hb => simp at hi hb; subst hi; subst hb; exact .fn rfl rfl (fun i v a h => by simp at h) (fun i v a h => by simp at h)
      | i + 2, hi, hb => simp at hi
  have hrg := run_range_nilMap (P := Try.prog) w 71 _ _ Try.underlying71
  have hnx : ∀ ty, (Instr.next (.pointer (some ⟨w.heap.size, 0, none⟩)) false ty).run Try.prog (w.alloc (.mapIter none 0 #[] 0)) = _ := fun ty => run_next_nilMap w ty 0 0 #[]
  go_enter Try.func45, Try.ntmps45
  go_wp2_with fail
  refine wp_loop_rounds 1 ?_
  rw [rounds_succ]
  go_wp2_with fail
  refine hP.mono ?_
  rintro e w' ⟨v, m', β', rfl, p1, p2, p3, p4, p5⟩
  go_wp2_with fail
  go_ret
  exact ⟨_, m', β', rfl, p1, p2, p3, p4, .d .nil⟩
end Go.Proofs.Ytmeekpinkfpnhab
namespace Go.Proofs.Ytmeekpinkfpnhab
open Go.RowKit
theorem bagRo {n : Nm} {k : Nat} {es : List (Int × DV)} (h : Heap) (h1 : n.1 < k) (e : h n = some (.bag es)) : RoOK k [(n, .bag es)] h := ⟨fun x hx => by
  simp only [List.mem_cons, List.not_mem_nil, or_false] at hx; subst hx; exact ⟨h1, e⟩⟩
section
variable (g : List Int) (x y : Tm)
set_option maxHeartbeats 1000000 in
set_option maxRecDepth 20000 in
theorem unifyE_tri (he : allOk g [x, y] ≠ 0) : Tri Try.prog 16 [.d (sgDV g), .d (tmDV x), .d (tmDV y)] (pure' (.tup [.d (.sl []), bA false, iA (allOk g [x, y])])) := by
  have hA := all_tri (g := g) (l := [x, y])
  have hq : (allOk g [x, y] != 0) = true := by simpa using he
  generalize allOk g [x, y] = e at *
  refine tri_enter Try.func16 rfl Try.ntmps16 (by simp only [List.length_cons, List.length_nil]; omega) fun w0 h0 k hrd hwr => ?_
  repeat' (first | refine awp_seq_k fun K hK => ?_ | ((first | refine awp_region_k (by kernel_rfl) fun R hR => ?_ | refine awp_draw mixed (by kernel_rfl) (by kernel_rfl) fun R hR => ?_); simp only [go_sem, hq]) | ((first | (refine hR _ ?_; clear hR R) | refine awp_skip ?_ | refine awp_exit ?_ | refine awp_ret ?_); try simp only [thenA, inBlockA, reduceIte, reduceCtorEq, Nat.reduceEqDiff, if_false, if_true]) | ((first | refine hK _ ?_ | (clear hK K; first | refine hK _ ?_ | (clear hK K; first | refine hK _ ?_ | (clear hK K; first | refine hK _ ?_ | (clear hK K; refine hK _ ?_))))); clear hK K) | refine awp_true rfl rfl ?_ | refine awp_false rfl rfl ?_ | refine awp_block ?_ | ((first | refine CallK.pure (enter43) (hA) ?_ ?_ | refine CallD.pure (enter43) (hA) ?_ ?_); (focus first | ((repeat (first | exact trivial | refine ⟨(by first | exact Or.inl rfl | exact Or.inr rfl), ?_⟩)); done) | (simp only [coL, AV.dat, true_or, or_true, AV.d.injEq, go_sem]; done)); simp only [go_sem, hq]) | refine And.intro (by first | ((repeat' first | omega | exact trivial | rfl | assumption | (intro a e; subst e; rfl) | exact map_sz fun a => (by simp only [go_sem]) | refine And.intro ?_ ?_); done) | fail) ?_ | fail)
  (first | refine ret_pure ?_ ?_ ?_ | refine ret_ro ?_ ?_ ?_); focus exact (by simp only [Try.results16, resOkL, resOk, Try.ntmps16, List.toList_toArray]; first | decide | (simp only [go_sem]; done) | (simp only [go_sem]; and_intros <;> first | omega | rfl | decide))
  rotate_left; focus exact (by repeat (first | exact Fr.rfl' _ _ | assumption | refine Fr.updk ?_ (by omega) _ | refine Fr.stH ?_ _ (by intro n hn; simp only [List.mem_cons, List.not_mem_nil, or_false] at hn; subst hn; simp only; omega)))
  simp only [resA, resV, Try.results16, go_sem]
  all_goals try (first | exact Co.t2 (.dat rfl) (.dat rfl) | exact Co.t3 (.dat rfl) (.dat rfl) (.dat rfl))
set_option maxHeartbeats 1000000 in
set_option maxRecDepth 20000 in
theorem unifyF_tri (h0 : allOk g [x, y] = 0) (c : Int) (hB : Tri Try.prog 46 [.d (tmDV x), .d (tmDV y)] (pure' (.tup [.d (.v (.map none)), bA false, iA c]))) : Tri Try.prog 16 [.d (sgDV g), .d (tmDV x), .d (tmDV y)] (pure' (.tup [.d (.sl []), bA false, iA c])) := by
  have hA := all_tri (g := g) (l := [x, y])
  rw [h0] at hA
  clear h0
  refine tri_enter Try.func16 rfl Try.ntmps16 (by simp only [List.length_cons, List.length_nil]; omega) fun w0 h0 k hrd hwr => ?_
  repeat' (first | refine awp_seq_k fun K hK => ?_ | ((first | refine awp_region_k (by kernel_rfl) fun R hR => ?_ | refine awp_draw mixed (by kernel_rfl) (by kernel_rfl) fun R hR => ?_); simp only [go_sem, bne_self_eq_false]) | ((first | (refine hR _ ?_; clear hR R) | refine awp_skip ?_ | refine awp_exit ?_ | refine awp_ret ?_); try simp only [thenA, inBlockA, reduceIte, reduceCtorEq, Nat.reduceEqDiff, if_false, if_true]) | ((first | refine hK _ ?_ | (clear hK K; first | refine hK _ ?_ | (clear hK K; first | refine hK _ ?_ | (clear hK K; first | refine hK _ ?_ | (clear hK K; refine hK _ ?_))))); clear hK K) | refine awp_true rfl rfl ?_ | refine awp_false rfl rfl ?_ | refine awp_block ?_ | ((first | refine CallK.pure (enter43) (hA) ?_ ?_ | refine CallD.pure (enter43) (hA) ?_ ?_ | refine CallK.pure (enter46) (hB) ?_ ?_ | refine CallD.pure (enter46) (hB) ?_ ?_ | refine CallK.pure (enter45) (list_nil) ?_ ?_ | refine CallD.pure (enter45) (list_nil) ?_ ?_); (focus first | ((repeat (first | exact trivial | refine ⟨(by first | exact Or.inl rfl | exact Or.inr rfl), ?_⟩)); done) | (simp only [coL, AV.dat, true_or, or_true, AV.d.injEq, go_sem]; done)); simp only [go_sem, bne_self_eq_false]) | refine And.intro (by first | ((repeat' first | omega | exact trivial | rfl | assumption | (intro a e; subst e; rfl) | exact map_sz fun a => (by simp only [go_sem]) | refine And.intro ?_ ?_); done) | fail) ?_ | fail)
  (first | refine ret_pure ?_ ?_ ?_ | refine ret_ro ?_ ?_ ?_); focus exact (by simp only [Try.results16, resOkL, resOk, Try.ntmps16, List.toList_toArray]; first | decide | (simp only [go_sem]; done) | (simp only [go_sem]; and_intros <;> first | omega | rfl | decide))
  rotate_left; focus exact (by repeat (first | exact Fr.rfl' _ _ | assumption | refine Fr.updk ?_ (by omega) _ | refine Fr.stH ?_ _ (by intro n hn; simp only [List.mem_cons, List.not_mem_nil, or_false] at hn; subst hn; simp only; omega)))
  simp only [resA, resV, Try.results16, go_sem]
  all_goals try (first | exact Co.t2 (.dat rfl) (.dat rfl) | exact Co.t3 (.dat rfl) (.dat rfl) (.dat rfl))
set_option maxHeartbeats 1000000 in
set_option maxRecDepth 20000 in
theorem unifyT_tri (h0 : allOk g [x, y] = 0) (b : Bs) (hz : b.length ≤ 4000000) (hnd : (b.map (·.1)).Nodup) (hr : ∀ p ∈ b, -1000000 ≤ p.1 ∧ p.1 ≤ 1000000) (hs : ∀ p ∈ b, p.2.size ≤ 4000000) (hB : ∀ n', Tri Try.prog 46 [.d (tmDV x), .d (tmDV y)] (bagE n' (bsE b) (.tup [.map n', bA true, iA 0]))) :
    Tri Try.prog 16 [.d (sgDV g), .d (tmDV x), .d (tmDV y)] (pure' (.tup [.d (.sl ((sortB b).map bdDV)), bA true, iA 0])) := by
  have hA := all_tri (g := g) (l := [x, y])
  rw [h0] at hA
  clear h0
  refine tri_enter Try.func16 rfl Try.ntmps16 (by simp only [List.length_cons, List.length_nil]; omega) fun w0 h0 k hrd hwr => ?_
  refine awp_new fun hnew => ?_
  have hnn : NoNew h0 k := hnew
  have hnn := hnn.at
  have hB := hB (k + 1 + 1 + 1, 2)
  have hL := list_tri (k + 1 + 1 + 1, 2) b hz hnd hr hs
  repeat' (first | refine awp_seq_k fun K hK => ?_ | ((first | refine awp_region_k (by kernel_rfl) fun R hR => ?_ | refine awp_draw mixed (by kernel_rfl) (by kernel_rfl) fun R hR => ?_); simp only [go_sem, hnn, bne_self_eq_false]) | ((first | (refine hR _ ?_; clear hR R) | refine awp_skip ?_ | refine awp_exit ?_ | refine awp_ret ?_); try simp only [thenA, inBlockA, reduceIte, reduceCtorEq, Nat.reduceEqDiff, if_false, if_true]) | ((first | refine hK _ ?_ | (clear hK K; first | refine hK _ ?_ | (clear hK K; first | refine hK _ ?_ | (clear hK K; first | refine hK _ ?_ | (clear hK K; refine hK _ ?_))))); clear hK K) | refine awp_true rfl rfl ?_ | refine awp_false rfl rfl ?_ | refine awp_block ?_ | ((first | refine CallK.pure (enter43) (hA) ?_ ?_ | refine CallD.pure (enter43) (hA) ?_ ?_ | refine CallK.look (enter45) (hL) ?_ (bagRo (k := k + 1 + 1 + 1 + 1) _ (Nat.lt_succ_self _) (by simp only [go_sem, ])) (Fr.rfl' _ _) ?_ | refine CallD.look (enter45) (hL) ?_ (bagRo (k := k + 1 + 1 + 1 + 1) _ (Nat.lt_succ_self _) (by simp only [go_sem, ])) (Fr.rfl' _ _) (by first | assumption | exact List.cons_ne_nil _ _) ?_); (focus first | ((repeat (first | exact trivial | refine ⟨(by first | exact Or.inl rfl | exact Or.inr rfl), ?_⟩)); done) | (simp only [coL, AV.dat, true_or, or_true, AV.d.injEq, go_sem]; done)); simp only [go_sem, hnn, bne_self_eq_false]) | ((first | refine CallK.eff (enter46) (hB) ?_ ?_ ?_ ?_ | refine CallD.eff (enter46) (hB) ?_ ?_ ?_ ?_); (focus first | ((repeat (first | exact trivial | refine ⟨(by first | exact Or.inl rfl | exact Or.inr rfl), ?_⟩)); done) | (simp only [coL, AV.dat, true_or, or_true, AV.d.injEq, go_sem]; done)); (focus (simp only [go_sem, hnn, bne_self_eq_false]; done)); (focus (simp only [go_sem, hnn, bne_self_eq_false]; done)); simp only [go_sem, hnn, bne_self_eq_false]) | refine And.intro (by first | ((repeat' first | omega | exact trivial | rfl | assumption | (intro a e; subst e; rfl) | exact map_sz fun a => (by simp only [go_sem]) | refine And.intro ?_ ?_); done) | fail) ?_ | fail)
  (first | refine ret_pure ?_ ?_ ?_ | refine ret_ro ?_ ?_ ?_); focus exact (by simp only [Try.results16, resOkL, resOk, Try.ntmps16, List.toList_toArray]; first | decide | (simp only [go_sem]; done) | (simp only [go_sem]; and_intros <;> first | omega | rfl | decide))
  rotate_left; focus exact (by repeat (first | exact Fr.rfl' _ _ | assumption | refine Fr.updk ?_ (by omega) _ | refine Fr.stH ?_ _ (by intro n hn; simp only [List.mem_cons, List.not_mem_nil, or_false] at hn; subst hn; simp only; omega)))
  simp only [resA, resV, Try.results16, go_sem]
  all_goals try (first | exact Co.t2 (.dat rfl) (.dat rfl) | exact Co.t3 (.dat rfl) (.dat rfl) (.dat rfl))
set_option maxHeartbeats 1000000 in
set_option maxRecDepth 20000 in
theorem matchE_tri (he : allOk g [x, y] ≠ 0) : Tri Try.prog 15 [.d (sgDV g), .d (tmDV x), .d (tmDV y)] (pure' (.tup [.d (.sl []), bA false, iA (allOk g [x, y])])) := by
  have hA := all_tri (g := g) (l := [x, y])
  have hq : (allOk g [x, y] != 0) = true := by simpa using he
  generalize allOk g [x, y] = e at *
  refine tri_enter Try.func15 rfl Try.ntmps15 (by simp only [List.length_cons, List.length_nil]; omega) fun w0 h0 k hrd hwr => ?_
  repeat' (first | refine awp_seq_k fun K hK => ?_ | ((first | refine awp_region_k (by kernel_rfl) fun R hR => ?_ | refine awp_draw mixed (by kernel_rfl) (by kernel_rfl) fun R hR => ?_); simp only [go_sem, hq]) | ((first | (refine hR _ ?_; clear hR R) | refine awp_skip ?_ | refine awp_exit ?_ | refine awp_ret ?_); try simp only [thenA, inBlockA, reduceIte, reduceCtorEq, Nat.reduceEqDiff, if_false, if_true]) | ((first | refine hK _ ?_ | (clear hK K; first | refine hK _ ?_ | (clear hK K; first | refine hK _ ?_ | (clear hK K; first | refine hK _ ?_ | (clear hK K; refine hK _ ?_))))); clear hK K) | refine awp_true rfl rfl ?_ | refine awp_false rfl rfl ?_ | refine awp_block ?_ | ((first | refine CallK.pure (enter43) (hA) ?_ ?_ | refine CallD.pure (enter43) (hA) ?_ ?_); (focus first | ((repeat (first | exact trivial | refine ⟨(by first | exact Or.inl rfl | exact Or.inr rfl), ?_⟩)); done) | (simp only [coL, AV.dat, true_or, or_true, AV.d.injEq, go_sem]; done)); simp only [go_sem, hq]) | refine And.intro (by first | ((repeat' first | omega | exact trivial | rfl | assumption | (intro a e; subst e; rfl) | exact map_sz fun a => (by simp only [go_sem]) | refine And.intro ?_ ?_); done) | fail) ?_ | fail)
  (first | refine ret_pure ?_ ?_ ?_ | refine ret_ro ?_ ?_ ?_); focus exact (by simp only [Try.results15, resOkL, resOk, Try.ntmps15, List.toList_toArray]; first | decide | (simp only [go_sem]; done) | (simp only [go_sem]; and_intros <;> first | omega | rfl | decide))
  rotate_left; focus exact (by repeat (first | exact Fr.rfl' _ _ | assumption | refine Fr.updk ?_ (by omega) _ | refine Fr.stH ?_ _ (by intro n hn; simp only [List.mem_cons, List.not_mem_nil, or_false] at hn; subst hn; simp only; omega)))
  simp only [resA, resV, Try.results15, go_sem]
  all_goals try (first | exact Co.t2 (.dat rfl) (.dat rfl) | exact Co.t3 (.dat rfl) (.dat rfl) (.dat rfl))
set_option maxHeartbeats 1000000 in
set_option maxRecDepth 20000 in
theorem matchF_tri (h0 : allOk g [x, y] = 0) (hx : x.size ≤ 4000000) (h1 : (meet x y []).1 = false) : Tri Try.prog 15 [.d (sgDV g), .d (tmDV x), .d (tmDV y)] (pure' (.tup [.d (.sl []), bA false, iA 0])) := by
  have hA := all_tri (g := g) (l := [x, y])
  rw [h0] at hA
  clear h0
  refine tri_enter Try.func15 rfl Try.ntmps15 (by simp only [List.length_cons, List.length_nil]; omega) fun w0 h0 k hrd hwr => ?_
  have hM := meet_tri x hx y (k + 1 + 1 + 1, 0) []
  rw [h1] at hM
  repeat' (first | refine awp_seq_k fun K hK => ?_ | ((first | refine awp_region_k (by kernel_rfl) fun R hR => ?_ | refine awp_draw mixed (by kernel_rfl) (by kernel_rfl) fun R hR => ?_); simp only [go_sem, bne_self_eq_false]) | ((first | (refine hR _ ?_; clear hR R) | refine awp_skip ?_ | refine awp_exit ?_ | refine awp_ret ?_); try simp only [thenA, inBlockA, reduceIte, reduceCtorEq, Nat.reduceEqDiff, if_false, if_true]) | ((first | refine hK _ ?_ | (clear hK K; first | refine hK _ ?_ | (clear hK K; first | refine hK _ ?_ | (clear hK K; first | refine hK _ ?_ | (clear hK K; refine hK _ ?_))))); clear hK K) | refine awp_true rfl rfl ?_ | refine awp_false rfl rfl ?_ | refine awp_block ?_ | ((first | refine CallK.pure (enter43) (hA) ?_ ?_ | refine CallD.pure (enter43) (hA) ?_ ?_ | refine CallK.chg (enter44) (hM) ?_ (agM _ (by simp only [go_sem, bsE, List.map_nil])) (Fr.rfl' _ _) ?_ | refine CallD.chg (enter44) (hM) ?_ (agM _ (by simp only [go_sem, bsE, List.map_nil])) (Fr.rfl' _ _) (by first | assumption | exact List.cons_ne_nil _ _) ?_); (focus first | ((repeat (first | exact trivial | refine ⟨(by first | exact Or.inl rfl | exact Or.inr rfl), ?_⟩)); done) | (simp only [coL, AV.dat, true_or, or_true, AV.d.injEq, go_sem]; done)); simp only [go_sem, bne_self_eq_false]) | refine And.intro (by first | ((repeat' first | omega | exact trivial | rfl | assumption | (intro a e; subst e; rfl) | exact map_sz fun a => (by simp only [go_sem]) | refine And.intro ?_ ?_); done) | fail) ?_ | fail)
  (first | refine ret_pure ?_ ?_ ?_ | refine ret_ro ?_ ?_ ?_); focus exact (by simp only [Try.results15, resOkL, resOk, Try.ntmps15, List.toList_toArray]; first | decide | (simp only [go_sem]; done) | (simp only [go_sem]; and_intros <;> first | omega | rfl | decide))
  rotate_left; focus exact (by repeat (first | exact Fr.rfl' _ _ | assumption | refine Fr.updk ?_ (by omega) _ | refine Fr.stH ?_ _ (by intro n hn; simp only [List.mem_cons, List.not_mem_nil, or_false] at hn; subst hn; simp only; omega)))
  simp only [resA, resV, Try.results15, go_sem]
  all_goals try (first | exact Co.t2 (.dat rfl) (.dat rfl) | exact Co.t3 (.dat rfl) (.dat rfl) (.dat rfl))
set_option maxHeartbeats 1000000 in
set_option maxRecDepth 20000 in
theorem matchT_tri (h0 : allOk g [x, y] = 0) (hx : x.size ≤ 4000000) (b : Bs) (h1 : meet x y [] = (true, b)) (hz : b.length ≤ 4000000) (hnd : (b.map (·.1)).Nodup) (hr : ∀ p ∈ b, -1000000 ≤ p.1 ∧ p.1 ≤ 1000000) (hs : ∀ p ∈ b, p.2.size ≤ 4000000) :
    Tri Try.prog 15 [.d (sgDV g), .d (tmDV x), .d (tmDV y)] (pure' (.tup [.d (.sl ((sortB b).map bdDV)), bA true, iA 0])) := by
  have hA := all_tri (g := g) (l := [x, y])
  rw [h0] at hA
  clear h0
  refine tri_enter Try.func15 rfl Try.ntmps15 (by simp only [List.length_cons, List.length_nil]; omega) fun w0 h0 k hrd hwr => ?_
  have hM := meet_tri x hx y (k + 1 + 1 + 1, 0) []
  rw [h1] at hM
  have hL := list_tri (k + 1 + 1 + 1, 0) b hz hnd hr hs
  repeat' (first | (refine awp_ghost (ghost_bag (x := (k + 1 + 1 + 1, 0)) (es := bsE b) (es' := bsE b) ?_ (.refl _)) ?_; (focus (simp only [go_sem, mtO]; done)); simp only [go_sem]) | refine awp_seq_k fun K hK => ?_ | ((first | refine awp_region_k (by kernel_rfl) fun R hR => ?_ | refine awp_draw mixed (by kernel_rfl) (by kernel_rfl) fun R hR => ?_); simp only [go_sem, bne_self_eq_false]) | ((first | (refine hR _ ?_; clear hR R) | refine awp_skip ?_ | refine awp_exit ?_ | refine awp_ret ?_); try simp only [thenA, inBlockA, reduceIte, reduceCtorEq, Nat.reduceEqDiff, if_false, if_true]) | ((first | refine hK _ ?_ | (clear hK K; first | refine hK _ ?_ | (clear hK K; first | refine hK _ ?_ | (clear hK K; first | refine hK _ ?_ | (clear hK K; refine hK _ ?_))))); clear hK K) | refine awp_true rfl rfl ?_ | refine awp_false rfl rfl ?_ | refine awp_block ?_ | ((first | refine CallK.pure (enter43) (hA) ?_ ?_ | refine CallD.pure (enter43) (hA) ?_ ?_ | refine CallK.chg (enter44) (hM) ?_ (agM _ (by simp only [go_sem, bsE, List.map_nil])) (Fr.rfl' _ _) ?_ | refine CallD.chg (enter44) (hM) ?_ (agM _ (by simp only [go_sem, bsE, List.map_nil])) (Fr.rfl' _ _) (by first | assumption | exact List.cons_ne_nil _ _) ?_ | refine CallK.look (enter45) (hL) ?_ (bagRo (k := k + 1 + 1 + 1 + 1) _ (Nat.lt_succ_self _) (by simp only [go_sem, ])) (Fr.rfl' _ _) ?_ | refine CallD.look (enter45) (hL) ?_ (bagRo (k := k + 1 + 1 + 1 + 1) _ (Nat.lt_succ_self _) (by simp only [go_sem, ])) (Fr.rfl' _ _) (by first | assumption | exact List.cons_ne_nil _ _) ?_); (focus first | ((repeat (first | exact trivial | refine ⟨(by first | exact Or.inl rfl | exact Or.inr rfl), ?_⟩)); done) | (simp only [coL, AV.dat, true_or, or_true, AV.d.injEq, go_sem]; done)); simp only [go_sem, bne_self_eq_false]) | refine And.intro (by first | ((repeat' first | omega | exact trivial | rfl | assumption | (intro a e; subst e; rfl) | exact map_sz fun a => (by simp only [go_sem]) | refine And.intro ?_ ?_); done) | fail) ?_ | fail)
  (first | refine ret_pure ?_ ?_ ?_ | refine ret_ro ?_ ?_ ?_); focus exact (by simp only [Try.results15, resOkL, resOk, Try.ntmps15, List.toList_toArray]; first | decide | (simp only [go_sem]; done) | (simp only [go_sem]; and_intros <;> first | omega | rfl | decide))
  rotate_left; focus exact (by repeat (first | exact Fr.rfl' _ _ | assumption | refine Fr.updk ?_ (by omega) _ | refine Fr.stH ?_ _ (by intro n hn; simp only [List.mem_cons, List.not_mem_nil, or_false] at hn; subst hn; simp only; omega)))
  simp only [resA, resV, Try.results15, go_sem]
  all_goals try (first | exact Co.t2 (.dat rfl) (.dat rfl) | exact Co.t3 (.dat rfl) (.dat rfl) (.dat rfl))
end
end Go.Proofs.Ytmeekpinkfpnhab
