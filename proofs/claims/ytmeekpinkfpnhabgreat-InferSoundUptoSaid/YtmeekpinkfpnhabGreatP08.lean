/- What models, clauses, lists of numbers, handed in, read as. -/
import Derived.Test.YtmeekpinkfpnhabGreatP04
import Derived.Test.YtmeekpinkfpnhabGreatP05
import Derived.Test.YtmeekpinkfpnhabGreatP06
import Derived.Test.YtmeekpinkfpnhabGreatP07
import Derived.OpenShut
import Derived.JoinedCond
import Derived.Test.YtmeekpinkfpnhabGreatRows
set_option linter.all false
namespace Go.Proofs.YtmeekpinkfpnhabGreat
open Go.ChangeShapes Go.WideShapes Go.RowKit
def ArgOf (P : Program) (T : TypeId) {α : Type} (g : α → DV) (ok : α → Prop) (sz : α → Nat) : Prop :=
 ∀ {H : Type} {enc : TypeId × Value → H} {w : World} {v : Value} {d : DataW H} {ps : List MemPlace} {b0 : Nat}, Value.okWide P w .any b0 T v → DataW.Trod enc P w 0 (fun _ => true) true T v d ps → ∃ a, ok a ∧ sz a ≤ bk d ∧ R (fullM w) (fun _ => none) v (.d (g a))
section
variable {P : Program} {T E : TypeId} {α : Type} {g : α → DV} {ok : α → Prop} {sz : α → Nat}
theorem argOf_struct {fs : Array Field} (ht : P.underlying T = some (.struct fs)) (h : Reads P T g ok sz) (hg : ∀ a, ∃ ds, g a = .st ds) : ArgOf P T g ok sz := by
 intro H enc w v d ps b0 hval hd
 obtain ⟨cs, rfl, _⟩ := okWide_struct ht hval
 obtain ⟨n, hn⟩ := hd
 obtain ⟨a, h1, h2, h3⟩ := h n (fun _ => rfl) hn
 obtain ⟨ds, hds⟩ := hg a
 exact ⟨a, h1, h2, arg_struct hds h3 (fun _ _ _ h => h)⟩
theorem argOf_slice (ht : P.underlying T = some (.slice E)) {f : α → List DV} (h : Reads P T (fun a => .sl (f a)) ok sz) : ArgOf P T (fun a => .sl (f a)) ok sz := by
 intro H enc w v d ps b0 hval hd
 obtain ⟨a', len, cap, rfl⟩ := okWide_slice ht hval
 obtain ⟨n, hn⟩ := hd
 obtain ⟨a, h1, h2, h3⟩ := h n (fun _ => rfl) hn
 exact ⟨a, h1, h2, arg_cell rfl h3 (fun _ _ _ h => h)⟩
end
end Go.Proofs.YtmeekpinkfpnhabGreat
namespace Go.Proofs.YtmeekpinkfpnhabGreat
theorem formAll_mem {g : List Int} : ∀ {l : List Tm}, formAll g l = 0 → ∀ x ∈ l, formOne g x.v x.f x.us.length = 0
 | y :: l, h, x, hx => by
  rw [formAll] at h
  by_cases hy : formOne g y.v y.f y.us.length = 0
  ·simp [hy] at h
   rcases List.mem_cons.1 hx with rfl | hx
   ·exact hy
   ·exact formAll_mem h x hx
  ·simp [hy] at h
theorem formOne_v {g : List Int} {v f : Int} {n : Nat} (h : formOne g v f n = 0) : 0 ≤ v := by
 unfold formOne at h
 split at h
 ·split at h
  ·cases h
  ·omega
 ·omega
theorem own_form {g : List Int} {t : Tm} (h : own g t = 0) : form g t = 0 ∧ count t 120 ≤ 120 := by
 unfold own at h
 split at h
 ·cases h
 ·exact ⟨h, by omega⟩
theorem own_parts {g : List Int} {t : Tm} (h : own g t = 0) : (parts t).length ≤ 120 := by
 have h2 := (own_form h).2
 have := count_parts t 120 (by omega) h2
 omega
theorem own_each {g : List Int} {t : Tm} (h : own g t = 0) {u : Tm} (hu : u ∈ parts t) : formOne g u.v u.f u.us.length = 0 := formAll_mem (by rw [formAll_parts]; exact (own_form h).1) u hu
theorem own_v {g : List Int} {t : Tm} (h : own g t = 0) {u : Tm} (hu : u ∈ parts t) : 0 ≤ u.v := formOne_v (own_each h hu)
mutual
theorem size_parts : ∀ t : Tm, t.size = (parts t).length
 | .mk v f us => by rw [parts, Tm.size, List.length_append, sizes_parts us]; simp; omega
theorem sizes_parts : ∀ us : List Tm, Tm.size.sizes us = (partsL us).length
 | [] => rfl
 | x :: xs => by rw [partsL, Tm.size.sizes, List.length_append, size_parts x, sizes_parts xs]
end
theorem parts_len (t : Tm) : (parts t).length = t.size := (size_parts t).symm
theorem Tm.sizes_sum (us : List Tm) : Tm.size.sizes us = (us.map Tm.size).sum := by
 induction us with
 | nil => rfl
 | cons x xs ih => simp [Tm.size.sizes, ih]
end Go.Proofs.YtmeekpinkfpnhabGreat
namespace Go.Proofs.YtmeekpinkfpnhabGreat
open Go.ChangeShapes Go.WideShapes Go.RowKit
mutual
theorem bk_le {H : Type} : ∀ d : DataW H, bk d ≤ Rows.uptoBulk d
 | .lit l => by cases l <;> simp [Rows.uptoBulk, bk]
 | .nil => by simp [Rows.uptoBulk, bk]
 | .ptr d => by have := bk_le d; simp [Rows.uptoBulk, bk]; omega
 | .slice e s => by have := bkL_le e; have := bkL_le s; simp [Rows.uptoBulk, bk]; omega
 | .agg p => by have := bkL_le p; simp [Rows.uptoBulk, bk]; omega
 | .iface _ d => by have := bk_le d; simp [Rows.uptoBulk, bk]; omega
 | .map _ => by simp [Rows.uptoBulk, bk]
 | .held _ => by simp [Rows.uptoBulk, bk]
theorem bkL_le {H : Type} : ∀ l : List (DataW H), bkL l ≤ Rows.uptoBulkAll l
 | [] => by simp [bkL]
 | x :: xs => by have := bk_le x; have := bkL_le xs; simp [Rows.uptoBulkAll, bkL]; omega
end
theorem laid : laidOutB Tryz.prog = true := by kernel_rfl
theorem bulk {H : Type} {l : List (DataW H)} (hk : Rows.uptoSmall H l = true) : bkL l ≤ 1048576 :=
 Nat.le_trans (bkL_le l) (of_decide_eq_true hk)
set_option maxRecDepth 20000 in
theorem term_reads : Reads Tryz.prog 63 tmDV (fun _ => True) Tm.size := by
 intro n
 induction n using Nat.strongRecOn with
 | ind n ih =>
  refine ReadsN.map (reads_struct Tryz.underlying63 rfl (by kernel_rfl) fun m hm => readsF_cons rfl (reads_int Tryz.underlying3 m) (readsF_cons rfl (reads_int Tryz.underlying3 m) (readsF_cons rfl (reads_slice Tryz.underlying61 (by decide +kernel) fun m' hm' => ih m' (by omega)) readsF_nil))) (fun p => Tm.mk p.1 p.2.1 p.2.2.1) fun p _ => ⟨?_, trivial, ?_⟩
  ·rw [tmDV_eq]; rfl
  ·rw [Tm.size, Tm.sizes_sum]; omega
set_option maxRecDepth 20000 in
theorem sig_reads : Reads Tryz.prog 24 sgDV (fun _ => True) (fun g => g.length + 1) := by
 intro n
 refine ReadsN.map (reads_struct Tryz.underlying24 rfl (by kernel_rfl) fun m hm => readsF_cons rfl (reads_slice Tryz.underlying22 (by decide +kernel) fun m' hm' => reads_int Tryz.underlying3 m') readsF_nil) (fun p => p.1) fun p _ => ⟨rfl, trivial, ?_⟩
 have : ∀ l : List Int, (l.map fun _ => 1).sum = l.length := fun l => by induction l <;> simp_all <;> omega
 simp only [this]; omega
theorem sig_arg : ArgOf Tryz.prog 24 sgDV (fun _ => True) (fun g => g.length + 1) := argOf_struct Tryz.underlying24 sig_reads fun a => ⟨_, rfl⟩
end Go.Proofs.YtmeekpinkfpnhabGreat
namespace Go.Proofs.YtmeekpinkfpnhabGreat
open Go.RowKit
section
variable {P : Program} {ops : Array Oper} {tick : Nat} {K : St → Prop}
theorem CallD.eff {s : St} {i : Nat} {dst : Option Tmp} {g : FuncId} {args : Array Operand} {ats : Array TypeId} {ty : TypeId} {pos : String} {after : Array Edge} {guard : Option (Nat × Bool)} {rest : List Oper} {acc : Acc} {az : List AV} {e : Eff} (hent : enterOk P g) (ht : Tri P g az e)
  (hco : coL (args.toList.map s.ev) az) (hrd : ∀ x ∈ e.rd, s.h x.1 = x.2) (hwr : ∀ x ∈ e.wr, s.h x.1 ≠ none ∨ x.1.1 = tick ∧ x.1.2 % 1000 = i)
  (hk : chk ops ⟨dst, .call ⟨.value (.func g), args, ats⟩, ty, pos, after, guard⟩ acc e.R_ e.W_ ∧ runD P ops tick rest (i + 1) (s.step ⟨dst, .call ⟨.value (.func g), args, ats⟩, ty, pos, after, guard⟩ e) (addF acc i e.R_ e.W_) K) :
  CallD P ops tick i ⟨dst, .call ⟨.value (.func g), args, ats⟩, ty, pos, after, guard⟩ rest s acc K :=
 ⟨e, ⟨g, [], [], az, rfl, hent, hco, by simpa using ht, hrd, hwr⟩, hk.1, runE_of _ _ _ _ hk.2⟩
theorem CallD.val {s : St} {i : Nat} {dst : Option Tmp} {f : Operand} {g : FuncId} {first caps : List AV} {args : Array Operand} {ats : Array TypeId} {ty : TypeId} {pos : String} {after : Array Edge} {guard : Option (Nat × Bool)} {rest : List Oper} {acc : Acc} {az : List AV} {e : Eff}
  (hf : s.ev f = .fn (.func g) first caps) (hent : enterOk P g) (ht : Tri P g (first ++ az ++ caps) e)
  (hco : coL (args.toList.map s.ev) az) (hrd : ∀ x ∈ e.rd, s.h x.1 = x.2) (hwr : ∀ x ∈ e.wr, s.h x.1 ≠ none ∨ x.1.1 = tick ∧ x.1.2 % 1000 = i)
  (hk : chk ops ⟨dst, .call ⟨.value f, args, ats⟩, ty, pos, after, guard⟩ acc e.R_ e.W_ ∧ runD P ops tick rest (i + 1) (s.step ⟨dst, .call ⟨.value f, args, ats⟩, ty, pos, after, guard⟩ e) (addF acc i e.R_ e.W_) K) :
  CallD P ops tick i ⟨dst, .call ⟨.value f, args, ats⟩, ty, pos, after, guard⟩ rest s acc K :=
 ⟨e, ⟨g, first, caps, az, hf, hent, hco, ht, hrd, hwr⟩, hk.1, runE_of _ _ _ _ hk.2⟩
end
def runI (c : Bool) (A B : Prop) : Prop := if c then A else B
@[go_sem] theorem runI_t (A B : Prop) : runI true A B = A := rfl
@[go_sem] theorem runI_f (A B : Prop) : runI false A B = B := rfl
section
variable {P : Program} {ops : Array Oper} {tick : Nat} {s : St} {K : St → Prop} {i : Nat} {rest : List Oper} {acc : Acc}
 {dst : Option Tmp} {op : Op} {ty : TypeId} {pos : String} {after : Array Edge} {j : Nat} {b : Bool}
@[go_sem] theorem runL_nil : runL P ops tick [] i s K = K s := rfl
@[go_sem] theorem runL_none : runL P ops tick (⟨dst, op, ty, pos, after, none⟩ :: rest) i s K = runI (isCallV op) (CallK P ops tick i ⟨dst, op, ty, pos, after, none⟩ rest s K)
  (okOf P op s.ev s.h ∧ runL P ops tick rest (i + 1) (s.step ⟨dst, op, ty, pos, after, none⟩ (effOf P (tick, i) op s.ev s.h)) K) := (Eq.trans rfl (Eq.refl _))
@[go_sem] theorem runL_t (h : gval ops s j = .d (.v (.bool b))) : runL P ops tick (⟨dst, op, ty, pos, after, some (j, b)⟩ :: rest) i s K = runI (isCallV op) (CallK P ops tick i ⟨dst, op, ty, pos, after, some (j, b)⟩ rest s K)
  (okOf P op s.ev s.h ∧ runL P ops tick rest (i + 1) (s.step ⟨dst, op, ty, pos, after, some (j, b)⟩ (effOf P (tick, i) op s.ev s.h)) K) := by
 show (guardOk (gval ops s j) ∧ if guardB b (gval ops s j) = true then _ else _) = _
 rw [h]; simp [guardOk, isBool, guardB, runI]
@[go_sem] theorem runL_f (h : gval ops s j = .d (.v (.bool !b))) : runL P ops tick (⟨dst, op, ty, pos, after, some (j, b)⟩ :: rest) i s K = runL P ops tick rest (i + 1) (s.step ⟨dst, op, ty, pos, after, some (j, b)⟩ nop) K := by
 show (guardOk (gval ops s j) ∧ if guardB b (gval ops s j) = true then _ else _) = _
 rw [h]; cases b <;> simp [guardOk, isBool, guardB]
@[go_sem] theorem runL_u (h : gval ops s j = .un) : runL P ops tick (⟨dst, op, ty, pos, after, some (j, b)⟩ :: rest) i s K = runL P ops tick rest (i + 1) (s.step ⟨dst, op, ty, pos, after, some (j, b)⟩ nop) K := by
 show (guardOk (gval ops s j) ∧ if guardB b (gval ops s j) = true then _ else _) = _
 rw [h]; simp [guardOk, guardB]
@[go_sem] theorem runD_nil : runD P ops tick [] i s acc K = K s := rfl
@[go_sem] theorem runD_none : runD P ops tick (⟨dst, op, ty, pos, after, none⟩ :: rest) i s acc K = runI (isCallV op) (CallD P ops tick i ⟨dst, op, ty, pos, after, none⟩ rest s acc K)
  (okOf P op s.ev s.h ∧ chk ops ⟨dst, op, ty, pos, after, none⟩ acc (effOf P (tick, i) op s.ev s.h).R_ (effOf P (tick, i) op s.ev s.h).W_ ∧
   runD P ops tick rest (i + 1) (s.step ⟨dst, op, ty, pos, after, none⟩ (effOf P (tick, i) op s.ev s.h)) (addF acc i (effOf P (tick, i) op s.ev s.h).R_ (effOf P (tick, i) op s.ev s.h).W_) K) := (Eq.trans rfl (Eq.refl _))
@[go_sem] theorem runD_t (h : gval ops s j = .d (.v (.bool b))) : runD P ops tick (⟨dst, op, ty, pos, after, some (j, b)⟩ :: rest) i s acc K = runI (isCallV op) (CallD P ops tick i ⟨dst, op, ty, pos, after, some (j, b)⟩ rest s acc K)
  (okOf P op s.ev s.h ∧ chk ops ⟨dst, op, ty, pos, after, some (j, b)⟩ acc (effOf P (tick, i) op s.ev s.h).R_ (effOf P (tick, i) op s.ev s.h).W_ ∧
   runD P ops tick rest (i + 1) (s.step ⟨dst, op, ty, pos, after, some (j, b)⟩ (effOf P (tick, i) op s.ev s.h)) (addF acc i (effOf P (tick, i) op s.ev s.h).R_ (effOf P (tick, i) op s.ev s.h).W_) K) := by
 show (guardOk (gval ops s j) ∧ if guardB b (gval ops s j) = true then _ else _) = _
 rw [h]; simp [guardOk, isBool, guardB, runI]
@[go_sem] theorem runD_f (h : gval ops s j = .d (.v (.bool !b))) : runD P ops tick (⟨dst, op, ty, pos, after, some (j, b)⟩ :: rest) i s acc K = runD P ops tick rest (i + 1) (s.step ⟨dst, op, ty, pos, after, some (j, b)⟩ nop) acc K := by
 show (guardOk (gval ops s j) ∧ if guardB b (gval ops s j) = true then _ else _) = _
 rw [h]; cases b <;> simp [guardOk, isBool, guardB]
@[go_sem] theorem runD_u (h : gval ops s j = .un) : runD P ops tick (⟨dst, op, ty, pos, after, some (j, b)⟩ :: rest) i s acc K = runD P ops tick rest (i + 1) (s.step ⟨dst, op, ty, pos, after, some (j, b)⟩ nop) acc K := by
 show (guardOk (gval ops s j) ∧ if guardB b (gval ops s j) = true then _ else _) = _
 rw [h]; simp [guardOk, guardB]
end
attribute [go_sem] ite_self List.any_nil List.any_cons Region.binds Bool.or_false Bool.false_or Bool.true_or Bool.or_true Bool.and_true Bool.true_and Bool.and_false Bool.false_and
attribute [go_sem] chk addF Eff.R_ Eff.W_ edgeB edge2 Far isCallV okOf effOf St.step St.ev constAV constC Eff.ap List.foldl_cons List.foldl_nil slotsOf List.getD_cons_zero List.getD_cons_succ pure' List.map_cons List.map_nil
attribute [go_sem] Bool.false_eq_true if_false if_true reduceIte reduceCtorEq Nat.reduceEqDiff and_true true_and and_self stOK isInt isBool isVal isI64 valOf intOf' boolOf' addTo isPlace Option.getD_some Option.getD_none gval gslot List.getElem?_toArray List.getElem?_cons_zero List.getElem?_cons_succ Option.bind_some
attribute [go_sem] Nat.reduceAdd Nat.zero_add Nat.add_zero objCells objTy isCells effLoad okLoad effStore okStore setR effIndexAddr okIndexAddr listOf isList binV okBin inK unV okUn okLen lenA effBuiltin okBuiltin effAppend srcRd okAppend okSrc okDest newsOf effBuildSlice okBuildSlice effSlice okSlice effMakeSlice okMakeSlice fillA okFill placeT nilCmp isNilA
attribute [go_sem] Option.some.injEq exists_eq_left' exists_eq_left List.drop_succ_cons List.drop_zero List.take_succ_cons List.take_zero List.length_cons List.length_nil Nat.reduceLeDiff Option.map_some Option.map_none Nat.lt_add_one Nat.reduceMul List.set_cons_zero List.set_cons_succ List.append_assoc List.nil_append List.append_nil List.cons_append
attribute [go_sem] isStruct Prod.mk.injEq ne_eq not_false_eq_true Bool.not_true Bool.not_false forall_const false_implies implies_true Nat.le_refl Option.isSome_some decide_eq_true_eq decide_eq_false_iff_not nop not_true_eq_false decide_true decide_false true_implies List.toList_toArray List.length_map AV.toD AV.toD? List.mem_cons List.not_mem_nil or_false forall_eq forall_eq_or_imp false_or List.range_succ List.range_zero
attribute [go_sem] ownEff newEff Nat.reduceMod Nat.reduceLT true_or or_true
theorem nat_ne (n : Nat) : ((n = n + 1) = False) ∧ ((n = n + 1 + 1) = False) ∧ ((n = n + 1 + 1 + 1) = False) ∧ ((n = n + 1 + 1 + 1 + 1) = False) ∧ ((n = n + 1 + 1 + 1 + 1 + 1) = False) ∧ ((n = n + 1 + 1 + 1 + 1 + 1 + 1) = False) ∧ ((n = n + 1 + 1 + 1 + 1 + 1 + 1 + 1) = False) ∧
  ((n + 1 = n) = False) ∧ ((n + 1 + 1 = n) = False) ∧ ((n + 1 + 1 + 1 = n) = False) ∧ ((n + 1 + 1 + 1 + 1 = n) = False) ∧ ((n + 1 + 1 + 1 + 1 + 1 = n) = False) ∧ ((n + 1 + 1 + 1 + 1 + 1 + 1 = n) = False) ∧ ((n + 1 + 1 + 1 + 1 + 1 + 1 + 1 = n) = False) := by
 and_intros <;> (apply eq_false; omega)
theorem ltne {a b : Nat} (h : a < b) : ((a = b) = False) ∧ ((a = b + 1) = False) ∧ ((a = b + 1 + 1) = False) ∧ ((a = b + 1 + 1 + 1) = False) ∧ ((a = b + 1 + 1 + 1 + 1) = False) ∧ ((a = b + 1 + 1 + 1 + 1 + 1) = False) ∧ ((a = b + 1 + 1 + 1 + 1 + 1 + 1) = False) ∧ ((a = b + 1 + 1 + 1 + 1 + 1 + 1 + 1) = False) ∧
  ((b = a) = False) ∧ ((b + 1 = a) = False) ∧ ((b + 1 + 1 = a) = False) ∧ ((b + 1 + 1 + 1 = a) = False) ∧ ((b + 1 + 1 + 1 + 1 = a) = False) ∧ ((b + 1 + 1 + 1 + 1 + 1 = a) = False) ∧ ((b + 1 + 1 + 1 + 1 + 1 + 1 = a) = False) ∧ ((b + 1 + 1 + 1 + 1 + 1 + 1 + 1 = a) = False) := by
 and_intros <;> (apply eq_false; omega)
theorem nmne {n : Nm} {b : Nat} (h : n.1 < b) : (∀ j, (n = (b, j)) = False) ∧ (∀ j, (n = (b + 1, j)) = False) ∧ (∀ j, (n = (b + 1 + 1, j)) = False) ∧ (∀ j, (n = (b + 1 + 1 + 1, j)) = False) ∧ (∀ j, (n = (b + 1 + 1 + 1 + 1, j)) = False) ∧ (∀ j, (n = (b + 1 + 1 + 1 + 1 + 1, j)) = False) ∧ (∀ j, (n = (b + 1 + 1 + 1 + 1 + 1 + 1, j)) = False) ∧
  (∀ j, ((b, j) = n) = False) ∧ (∀ j, ((b + 1, j) = n) = False) ∧ (∀ j, ((b + 1 + 1, j) = n) = False) ∧ (∀ j, ((b + 1 + 1 + 1, j) = n) = False) ∧ (∀ j, ((b + 1 + 1 + 1 + 1, j) = n) = False) ∧ (∀ j, ((b + 1 + 1 + 1 + 1 + 1, j) = n) = False) ∧ (∀ j, ((b + 1 + 1 + 1 + 1 + 1 + 1, j) = n) = False) := by
 and_intros <;> (intro j; apply eq_false; intro e; first | (rw [e] at h; simp only at h; omega) | (rw [← e] at h; simp only at h; omega))
def NoNew (h : Heap) (b : Nat) : Prop := ∀ x : Nm, b ≤ x.1 → h x = none
theorem NoNew.at {h : Heap} {b : Nat} (hn : NoNew h b) : (∀ j, h (b, j) = none) ∧ (∀ j, h (b + 1, j) = none) ∧ (∀ j, h (b + 1 + 1, j) = none) ∧ (∀ j, h (b + 1 + 1 + 1, j) = none) ∧ (∀ j, h (b + 1 + 1 + 1 + 1, j) = none) ∧ (∀ j, h (b + 1 + 1 + 1 + 1 + 1, j) = none) ∧ (∀ j, h (b + 1 + 1 + 1 + 1 + 1 + 1, j) = none) := by
 and_intros <;> (intro j; apply hn; simp only; omega)
attribute [go_sem] nat_ne
theorem map_sz {α : Type} {g : α → DV} {n : Nat} {l : List α} (h : ∀ a, (g a).cells.length = n) : ∀ y ∈ l.map g, y.cells.length = n := fun y hy => by
 obtain ⟨a, _, rfl⟩ := List.mem_map.1 hy
 exact h a
theorem co_i {k : Nat} {a b : Int} (h : a = b) : Co k none (iA a) (iA b) := by rw [h]; exact .dat rfl
theorem co_b {k : Nat} {a b : Bool} (h : a = b) : Co k none (bA a) (bA b) := by rw [h]; exact .dat rfl
section
variable {P : Program} {w0 : World} {n : Nat} {Q : Exit → St → Prop} {s : St}
theorem awp_new {c : Code} (h : NoNew s.h s.k → awp P w0 n c Q s) : awp P w0 n c Q s := awp_known h
theorem CallK.new {tick i : Nat} {dst : Option Tmp} {g : FuncId} {args : Array Operand} {ats : Array TypeId} {ty : TypeId} {pos : String} {after : Array Edge} {guard : Option (Nat × Bool)} {ops : Array Oper} {rest : List Oper} {K : St → Prop} {az : List AV} {e : TypeId} {ys : List DV} (hi : i % 1000 = i) (hent : enterOk P g) (ht : ∀ n', Tri P g az (newEff e n' ys))
  (hco : coL (args.toList.map s.ev) az) (hrd : s.h (tick, i) = none) (hk : runL P ops tick rest (i + 1) (s.step ⟨dst, .call ⟨.value (.func g), args, ats⟩, ty, pos, after, guard⟩ (newEff e (tick, i) ys)) K) : CallK P ops tick i ⟨dst, .call ⟨.value (.func g), args, ats⟩, ty, pos, after, guard⟩ rest s K :=
 CallK.eff hent (ht (tick, i)) hco (fun x hx => by simp only [newEff, List.mem_cons, List.not_mem_nil, or_false] at hx; subst hx; exact hrd) (fun x hx => by simp only [newEff, List.mem_cons, List.not_mem_nil, or_false] at hx; subst hx; exact .inr ⟨rfl, hi⟩) hk
end
section
variable {P : Program} {w0 : World} {n : Nat} {Q : Exit → St → Prop} {s : St}
theorem aK {id : Nat} {l : List Oper} (h : ∀ K : St → Prop, (∀ s', Q .normal s' → K s') → runL P l.toArray s.k l 0 { s with k := s.k + 1 } K) (e : regOk n l = true := by kernel_rfl) : awp P w0 n (.region id l.toArray false) Q s := awp_region_k e h
theorem aD (hm : P.follows .mixedOrders = true) {id : Nat} {l : List Oper} (h : ∀ K : St → Prop, (∀ s', Q .normal s' → K s') → runD P l.toArray s.k l 0 { s with k := s.k + 1 } [] K) (e : regOk n l = true := by kernel_rfl) (e' : Region.lexB .any l.toArray = true := by kernel_rfl) : awp P w0 n (.region id l.toArray true) Q s := awp_draw hm e e' h
theorem aT {c : Operand} {x y : Code} (k : awp P w0 n x Q s) (hb : s.ev c = .d (.v (.bool true)) := by exact rfl) (hc : opndOk n c = true := by exact rfl) : awp P w0 n (.cond c x y) Q s := awp_true hb hc k
theorem aF {c : Operand} {x y : Code} (k : awp P w0 n y Q s) (hb : s.ev c = .d (.v (.bool false)) := by exact rfl) (hc : opndOk n c = true := by exact rfl) : awp P w0 n (.cond c x y) Q s := awp_false hb hc k
theorem aQ {x y : Code} (h : ∀ K : St → Prop, (∀ s, awp P w0 n y Q s → K s) → awp P w0 n x (thenA K Q) s) : awp P w0 n (.seq x y) Q s := awp_seq_k h
theorem aB {id : Nat} {c : Code} (h : awp P w0 n c (inBlockA id Q) s) : awp P w0 n (.block id c) Q s := awp_block h
def exOf : Code → Option Exit
 | .skip => some .normal
 | .exit id => some (.exit id)
 | .ret => some .ret
 | _ => none
theorem aZ {c : Code} {e : Exit} (he : exOf c = some e) (h : Q e s) : awp P w0 n c Q s := by
 cases c <;> first | (cases he; first | exact awp_skip h | exact awp_exit h | exact awp_ret h) | cases he
theorem aE {f : FuncId} {fn : Func} {c : Code} {args : List AV} {e : Eff} {n : Nat} (hf : P.funcs[f]? = some fn) (hb : fn.body = some c) (hnt : fn.ntmps = n) (h : ∀ (w0 : World) (h0 : Heap) (k : Nat), (∀ x ∈ e.rd, h0 x.1 = x.2) → (∀ x ∈ e.wr, x.1.1 < k) → awp P w0 n c (retQ P fn e h0 k) ⟨slotsOf args, h0, k⟩) (hlen : args.length ≤ n := by simp only [List.length_cons, List.length_nil]; omega) : Tri P f args e := tri_enter hf hb hnt hlen h
end
theorem aN {a b : Prop} (k : b) (h : a := by first | ((repeat' first | omega | exact trivial | rfl | assumption | (intro a e; subst e; rfl) | exact map_sz fun a => (by simp only [go_sem]) | refine And.intro ?_ ?_); done) | fail) : a ∧ b := ⟨h, k⟩
theorem aC {a : Prop} (h : a := by first | ((repeat (first | exact trivial | refine ⟨(by first | exact Or.inl rfl | exact Or.inr rfl), ?_⟩)); done) | (simp only [coL, AV.dat, true_or, or_true, AV.d.injEq, go_sem]; done) | fail) : a := h
theorem aP {a b : Prop} (k : b) (e : a = b := by (simp only [thenA, inBlockA, reduceIte, reduceCtorEq, Nat.reduceEqDiff, if_false, if_true]; exact rfl)) : a := e.mpr k
theorem okA {P : Program} {fn : Func} {N : Nat} {a : Array ResultVar} {s : St} (hn : fn.ntmps = N) (hr : fn.results = a) (h : resOkL P N s a.toList := by simp only [resOkL, resOk, List.toList_toArray]; first | decide | (simp only [go_sem]; done) | (simp only [go_sem]; and_intros <;> first | omega | rfl | decide)) : resOkL P fn.ntmps s fn.results.toList := by rw [hn, hr]; exact h
theorem frA {k : Nat} {h0 h : Heap} (e : Fr k h0 h := by repeat (first | exact Fr.rfl' _ _ | assumption | refine Fr.updk ?_ (by omega) _)) : Fr k h0 h := e
theorem anA {a : Prop} (h : a := by first | ((repeat (first | exact Fr.rfl' _ _ | assumption | refine Fr.updk ?_ (by omega) _)); done) | fail) : a := h
theorem coA {k : Nat} {r : Ren} {a b : AV} (h : Co k r a b := by first | exact Co.t2 (.dat rfl) (.dat rfl) | exact Co.t3 (.dat rfl) (.dat rfl) (.dat rfl)) : Co k r a b := h
def rdE (ro : List (Nm × Ob)) (v : AV) : Eff := ⟨v, ro.map fun x => (x.1, some x.2), []⟩
structure RoOK (k : Nat) (ro : List (Nm × Ob)) (h : Heap) : Prop where
 get : ∀ x ∈ ro, x.1.1 < k ∧ h x.1 = some x.2
theorem RoOK.fr {k : Nat} {ro : List (Nm × Ob)} {h0 h : Heap} (hr : RoOK k ro h0) (hf : Fr k h0 h) : RoOK k ro h := ⟨fun x hx => ⟨(hr.get x hx).1, (hf _ (hr.get x hx).1).trans (hr.get x hx).2⟩⟩
theorem RoOK.rd {k : Nat} {ro : List (Nm × Ob)} {h : Heap} {v : AV} (hr : RoOK k ro h) : ∀ x ∈ (rdE ro v).rd, h x.1 = x.2 := fun x hx => by
 obtain ⟨y, hy, rfl⟩ := List.mem_map.1 hx
 exact (hr.get y hy).2
theorem rdE_nil (v : AV) : rdE [] v = pure' v := rfl
def stE (N : List Nm) (O O' : Nm → Ob) (v : AV) : Eff := ⟨v, N.map fun n => (n, some (O n)), N.map fun n => (n, some (O' n))⟩
theorem fold_upd (N : List Nm) (O : Nm → Ob) : ∀ (h : Heap) (x : Nm), (N.map fun n => (n, some (O n))).foldl (fun h x => upd h x.1 x.2) h x = if x ∈ N then some (O x) else h x := by
 induction N with
 | nil => intro h x; rfl
 | cons n N ih =>
  intro h x
  simp only [List.map_cons, List.foldl_cons, ih, List.mem_cons]
  by_cases h1 : x ∈ N
  ·simp [h1]
  ·by_cases h2 : x = n
   ·subst h2; simp [h1, upd]
   ·simp [h1, h2, upd]
theorem stE_ap (N : List Nm) (O O' : Nm → Ob) (v : AV) (h : Heap) (x : Nm) : (stE N O O' v).ap h x = if x ∈ N then some (O' x) else h x := fold_upd N O' h x
def stH (N : List Nm) (O : Nm → Ob) (h : Heap) : Heap := fun x => if x ∈ N then some (O x) else h x
@[go_sem] theorem stH_get (N : List Nm) (O : Nm → Ob) (h : Heap) (x : Nm) : stH N O h x = if x ∈ N then some (O x) else h x := (Eq.trans rfl (Eq.refl _))
theorem stE_apH (N : List Nm) (O O' : Nm → Ob) (v : AV) (h : Heap) : (stE N O O' v).ap h = stH N O' h := funext fun x => stE_ap N O O' v h x
structure Ag (k : Nat) (N : List Nm) (O : Nm → Ob) (h : Heap) : Prop where
 get : ∀ n ∈ N, n.1 < k ∧ h n = some (O n)
def FrN (k : Nat) (N : List Nm) (h0 h : Heap) : Prop := ∀ x : Nm, x.1 < k → x ∉ N → h x = h0 x
theorem FrN.rfl' (k : Nat) (N : List Nm) (h : Heap) : FrN k N h h := fun _ _ _ => rfl
theorem FrN.updk {k : Nat} {N : List Nm} {h0 h : Heap} (hf : FrN k N h0 h) {k' i : Nat} (hn : k ≤ k') (o : Option Ob) : FrN k N h0 (upd h (k', i) o) := fun x hx hxn => by
 rw [upd_ne _ _ (fun e => by subst e; simp only at hx; omega)]; exact hf x hx hxn
theorem FrN.updn {k : Nat} {N : List Nm} {h0 h : Heap} (hf : FrN k N h0 h) {n : Nm} (hn : n ∈ N) (o : Option Ob) : FrN k N h0 (upd h n o) := fun x hx hxn => by
 rw [upd_ne _ _ (fun e => by subst e; exact hxn hn)]; exact hf x hx hxn
theorem FrN.stH {k : Nat} {N : List Nm} {h0 h : Heap} (hf : FrN k N h0 h) (O : Nm → Ob) : FrN k N h0 (stH N O h) := fun x hx hxn => by
 rw [stH_get, if_neg hxn]; exact hf x hx hxn
theorem Fr.stH {k : Nat} {N : List Nm} {h0 h : Heap} (hf : Fr k h0 h) (O : Nm → Ob) (hN : ∀ n ∈ N, k ≤ n.1) : Fr k h0 (stH N O h) := fun x hx => by
 rw [stH_get, if_neg (fun h => by have := hN x h; omega)]; exact hf x hx
theorem FrN.of {k : Nat} {h0 h : Heap} (N : List Nm) (hf : Fr k h0 h) : FrN k N h0 h := fun x hx _ => hf x hx
theorem Ag.updk {k : Nat} {N : List Nm} {O : Nm → Ob} {h : Heap} (ha : Ag k N O h) {k' i : Nat} (hn : k ≤ k') (o : Option Ob) : Ag k N O (upd h (k', i) o) := ⟨fun n hnN =>
 ⟨(ha.get n hnN).1, by rw [upd_ne _ _ (fun e => by have := (ha.get n hnN).1; subst e; simp only at this; omega)]; exact (ha.get n hnN).2⟩⟩
theorem Ag.stN {k : Nat} {N : List Nm} (hN : ∀ n ∈ N, n.1 < k) (O' : Nm → Ob) (h : Heap) : Ag k N O' (Go.Proofs.YtmeekpinkfpnhabGreat.stH N O' h) := ⟨fun n hn => ⟨hN n hn, by rw [stH_get, if_pos hn]⟩⟩
theorem Ag.fr {k : Nat} {N : List Nm} {O : Nm → Ob} {h h' : Heap} (ha : Ag k N O h) (hf : Fr k h h') : Ag k N O h' := ⟨fun n hn => ⟨(ha.get n hn).1, (hf n (ha.get n hn).1).trans (ha.get n hn).2⟩⟩
theorem Ag.rd {k : Nat} {N : List Nm} {O O' : Nm → Ob} {h : Heap} {v : AV} (ha : Ag k N O h) : ∀ x ∈ (stE N O O' v).rd, h x.1 = x.2 := fun x hx => by
 obtain ⟨y, hy, rfl⟩ := List.mem_map.1 hx
 exact (ha.get y hy).2
theorem Ag.wr {k : Nat} {N : List Nm} {O O' : Nm → Ob} {h : Heap} {v : AV} {tick i : Nat} (ha : Ag k N O h) : ∀ x ∈ (stE N O O' v).wr, h x.1 ≠ none ∨ x.1.1 = tick ∧ x.1.2 % 1000 = i := fun x hx => by
 obtain ⟨y, hy, rfl⟩ := List.mem_map.1 hx
 exact .inl (by rw [(ha.get y hy).2]; simp)
section
variable {P : Program} {w0 : World} {n : Nat} {Q : Exit → St → Prop} {s : St}
theorem tri_enter_ro {f : FuncId} {fn : Func} {c : Code} {args : List AV} {ro : List (Nm × Ob)} {v : AV} {n : Nat} (hf : P.funcs[f]? = some fn) (hb : fn.body = some c) (hnt : fn.ntmps = n) (hlen : args.length ≤ n)
  (h : ∀ (w0 : World) (h0 : Heap) (k : Nat), RoOK k ro h0 → awp P w0 n c (retQ P fn (rdE ro v) h0 k) ⟨slotsOf args, h0, k⟩) : Tri P f args (rdE ro v) := by
 refine tri_enter hf hb hnt hlen fun w0 h0 k hrd _ => awp_known fun hnew => h w0 h0 k ⟨fun x hx => ?_⟩
 have h1 : h0 x.1 = some x.2 := hrd (x.1, some x.2) (List.mem_map.2 ⟨x, hx, rfl⟩)
 refine ⟨?_, h1⟩
 rcases Nat.lt_or_ge x.1.1 k with hlt | hge
 ·exact hlt
 ·have := hnew x.1 hge
  simp only at this
  rw [this] at h1; cases h1
theorem tri_enter_st {f : FuncId} {fn : Func} {c : Code} {args : List AV} {N : List Nm} {O O' : Nm → Ob} {v : AV} {n : Nat} (hf : P.funcs[f]? = some fn) (hb : fn.body = some c) (hnt : fn.ntmps = n) (hlen : args.length ≤ n)
  (h : ∀ (w0 : World) (h0 : Heap) (k : Nat), Ag k N O h0 → awp P w0 n c (retQ P fn (stE N O O' v) h0 k) ⟨slotsOf args, h0, k⟩) : Tri P f args (stE N O O' v) := by
 refine tri_enter hf hb hnt hlen fun w0 h0 k hrd hwr => h w0 h0 k ⟨fun x hx => ⟨?_, hrd (x, some (O x)) (List.mem_map.2 ⟨x, hx, rfl⟩)⟩⟩
 exact hwr (x, some (O' x)) (List.mem_map.2 ⟨x, hx, rfl⟩)
theorem ret_ro {fn : Func} {ro : List (Nm × Ob)} {v : AV} {h0 : Heap} {k : Nat} {s : St} (h1 : resOkL P fn.ntmps s fn.results.toList) (h2 : Co k none (resA P s fn.results.toList) v) (h3 : Fr k h0 s.h) : RetOK P fn (rdE ro v) h0 k s :=
 ⟨h1, none, h2, fun x hx _ => h3 x hx, fun y hy => (by cases hy), fun x hx => (by cases hx)⟩
def Cl (k : Nat) (N : List Nm) (O : Nm → Ob) : Prop := ∀ n ∈ N, ∀ x ∈ (O n).names, x.1 < k
theorem ret_st {fn : Func} {N : List Nm} {O O' : Nm → Ob} {v : AV} {h0 : Heap} {k : Nat} {s : St} (h1 : resOkL P fn.ntmps s fn.results.toList) (h2 : Co k none (resA P s fn.results.toList) v) (ha : Ag k N O' s.h) (hf : FrN k N h0 s.h) (hc : Cl k N O') : RetOK P fn (stE N O O' v) h0 k s := by
 refine ⟨h1, none, h2, fun x hx _ => ?_, fun y hy => (by cases hy), fun x hx ob ho y hy => ?_⟩
 ·rw [stE_ap]
  by_cases hN : x ∈ N
  ·rw [if_pos hN]; exact (ha.get x hN).2
  ·rw [if_neg hN]; exact hf x hx hN
 ·obtain ⟨z, hz, rfl⟩ := List.mem_map.1 hx
  cases ho
  exact hc z hz y hy
section
variable {ops : Array Oper} {rest : List Oper} {K : St → Prop} {tick i : Nat} {dst : Option Tmp} {f : Operand} {g : FuncId} {first caps : List AV} {args : Array Operand} {ats : Array TypeId} {ty : TypeId} {pos : String} {after : Array Edge} {guard : Option (Nat × Bool)} {az : List AV} {ro : List (Nm × Ob)} {v : AV} {k : Nat} {h0 : Heap}
theorem CallK.look (hent : enterOk P g) (ht : Tri P g az (rdE ro v)) (hco : coL (args.toList.map s.ev) az) (hro : RoOK k ro h0) (hfr : Fr k h0 s.h)
  (hk : runL P ops tick rest (i + 1) (s.step ⟨dst, .call ⟨.value (.func g), args, ats⟩, ty, pos, after, guard⟩ (pure' v)) K) : CallK P ops tick i ⟨dst, .call ⟨.value (.func g), args, ats⟩, ty, pos, after, guard⟩ rest s K :=
 ⟨rdE ro v, ⟨g, [], [], az, rfl, hent, hco, by simpa using ht, (hro.fr hfr).rd, fun x hx => by cases hx⟩, runF_of _ _ _ hk⟩
theorem CallK.vlook (hf : s.ev f = .fn (.func g) first caps) (hent : enterOk P g) (ht : Tri P g (first ++ az ++ caps) (rdE ro v)) (hco : coL (args.toList.map s.ev) az) (hro : RoOK k ro h0) (hfr : Fr k h0 s.h)
  (hk : runL P ops tick rest (i + 1) (s.step ⟨dst, .call ⟨.value f, args, ats⟩, ty, pos, after, guard⟩ (pure' v)) K) : CallK P ops tick i ⟨dst, .call ⟨.value f, args, ats⟩, ty, pos, after, guard⟩ rest s K :=
 ⟨rdE ro v, ⟨g, first, caps, az, hf, hent, hco, ht, (hro.fr hfr).rd, fun x hx => by cases hx⟩, runF_of _ _ _ hk⟩
variable {N : List Nm} {O O' : Nm → Ob}
theorem CallK.chg (hent : enterOk P g) (ht : Tri P g az (stE N O O' v)) (hco : coL (args.toList.map s.ev) az) (ha : Ag k N O h0) (hfr : Fr k h0 s.h)
  (hk : runL P ops tick rest (i + 1) ⟨match dst with | some d => set s.t d v | none => s.t, stH N O' s.h, s.k⟩ K) : CallK P ops tick i ⟨dst, .call ⟨.value (.func g), args, ats⟩, ty, pos, after, guard⟩ rest s K :=
 ⟨stE N O O' v, ⟨g, [], [], az, rfl, hent, hco, by simpa using ht, (ha.fr hfr).rd, (ha.fr hfr).wr⟩, runF_of _ _ _ (by unfold St.step; rw [stE_apH]; exact hk)⟩
theorem CallK.vchg (hf : s.ev f = .fn (.func g) first caps) (hent : enterOk P g) (ht : Tri P g (first ++ az ++ caps) (stE N O O' v)) (hco : coL (args.toList.map s.ev) az) (ha : Ag k N O h0) (hfr : Fr k h0 s.h)
  (hk : runL P ops tick rest (i + 1) ⟨match dst with | some d => set s.t d v | none => s.t, stH N O' s.h, s.k⟩ K) : CallK P ops tick i ⟨dst, .call ⟨.value f, args, ats⟩, ty, pos, after, guard⟩ rest s K :=
 ⟨stE N O O' v, ⟨g, first, caps, az, hf, hent, hco, ht, (ha.fr hfr).rd, (ha.fr hfr).wr⟩, runF_of _ _ _ (by unfold St.step; rw [stE_apH]; exact hk)⟩
end
theorem ghost_nn {i : Nat} {xs : List DV} (hi : s.t i = .nn xs) : Ghost P w0 n s ⟨set s.t i (.d (.sl xs)), s.h, s.k⟩ := by
 intro m β a w h1 h2 h3
 refine ⟨m, β, Nat.le_refl _, ⟨.rfl' m, .rfl' β, h2, fun j v hj => ?_⟩, fun _ _ h => h⟩
 show R m _ v (set s.t i _ j)
 unfold set
 split
 ·subst_vars
  have := h3 _ v hj
  rw [hi] at this
  cases this with
  | nn hr => exact .d hr
 ·exact h3 j v hj
theorem awp_nn {c : Code} {i : Nat} (j : Nat) {xs : List DV} (hj : s.t j = .d (.v (.bool false))) (hi : s.t i = .nn xs) (h : awp P w0 n c Q ⟨set s.t i (.d (.sl xs)), s.h, s.k⟩) : awp P w0 n c Q s := awp_ghost (ghost_nn hi) h
theorem Tri.nils {f : FuncId} {xs : List DV} {e : Eff} (h1 : xs = [] → Tri P f [.nil] e) (h2 : Tri P f [.nn xs] e) : Tri P f [.d (.sl xs)] e := by
 intro w0 h k m β w cargs H hrd hwr hsz hargs
 have hlt : 0 < cargs.size := by rw [hsz]; exact Nat.one_pos
 have hv := hargs 0 cargs[0] _ (Array.getElem?_eq_getElem hlt) rfl
 have one : ∀ (A : AV), R m β cargs[0] A → ∀ (i : Nat) (v : Value) (a : AV), cargs[i]? = some v → [A][i]? = some a → R m β v a := by
  intro A hA i v a hi ha
  match i with
  | 0 => simp at ha; subst ha; rw [Array.getElem?_eq_getElem hlt] at hi; cases hi; exact hA
  | i + 1 => simp at ha
 have nil : cargs[0] = .slice none 0 0 → xs = [] → Calls P f cargs w fun en w' => ∃ v m' β', en = .returned v ∧ m.le m' ∧ β.le β' ∧ (∀ n, (∀ x ∈ e.wr, x.1 ≠ n) → β n = none → β' n = none) ∧ HRel P w0 (e.ap h) k m' β' w' ∧ R m' β' v e.val := fun e0 ex =>
  h1 ex w0 h k m β w cargs H hrd hwr hsz (one .nil (by rw [e0]; exact .nil))
 have nn : ∀ a n cap, cargs[0] = .slice (some a) n cap → RD m (.slice (some a) n cap) (.sl xs) → Calls P f cargs w fun en w' => ∃ v m' β', en = .returned v ∧ m.le m' ∧ β.le β' ∧ (∀ n, (∀ x ∈ e.wr, x.1 ≠ n) → β n = none → β' n = none) ∧ HRel P w0 (e.ap h) k m' β' w' ∧ R m' β' v e.val := fun a n cap e0 hd =>
  h2 w0 h k m β w cargs H hrd hwr hsz (one (.nn xs) (by rw [e0]; exact .nn hd))
 generalize hc : cargs[0] = c at hv
 cases hv with
 | d hd =>
  generalize hx : DV.sl xs = y at hd
  cases hd with
  | @nil a =>
   cases hx
   cases a with
   | none => exact nil hc rfl
   | some a => exact nn a 0 0 hc .nil
  | sl q1 q2 q3 q4 q5 q6 => cases hx; exact nn _ _ _ hc (.sl q1 q2 q3 q4 q5 q6)
  | _ => cases hx
theorem ghost_box {b : Nm} {e e' : TypeId} (hb : s.h b = some (.cells e' [.nil])) : Ghost P w0 n s ⟨s.t, upd (upd s.h (s.k, 0) (some (.perm e 0))) b (some (.cells e' [.own (s.k, 0) []])), s.k + 1⟩ := by
 intro m β a w h1 h2 h3
 have hn : β (s.k, 0) = none := by
  cases hn : β (s.k, 0) with
  | none => rfl
  | some p => have := h2.dom _ _ hn; simp at this
 have hle := updB_le (le_new (p := ⟨0, 0, some 0⟩) hn)
 have H1 := (h2.tick (Nat.le_succ s.k)).perm0 hn (Nat.lt_succ_self _) e 0 0
 obtain ⟨p, hp, hv, c, c1, c2, c3, c4⟩ := h2.obj b _ hb
 have hbk : b.1 < s.k := h2.dom b p hp
 have hbn : b ≠ (s.k, 0) := fun e => by rw [e] at hbk; simp at hbk
 have hp' : updB β (s.k, 0) ⟨0, 0, some 0⟩ b = some p := (updB_ne _ _ hbn).trans hp
 have hB : w0.heap.size ≤ p.1 := h2.new b p _ hp hb trivial
 have eβ : updB (updB β (s.k, 0) ⟨0, 0, some 0⟩) b p = updB β (s.k, 0) ⟨0, 0, some 0⟩ := by
  funext y; unfold updB; split
  ·subst_vars; rw [if_neg hbn]; exact hp.symm
  ·rfl
 have H2 := H1.upd1 (n := b) (p := p) (ob := .cells e' [.own (s.k, 0) []]) (m' := m) (w' := w) (le_old hp') (Nat.lt_succ_of_lt hbk) H1.ext (.rfl' m) H1.mem ?_ (fun _ => hB) ?_
 ·rw [eβ] at H2
  exact ⟨m, _, Nat.le_succ _, ⟨.rfl' m, hle, H2, h3.mono (.rfl' m) hle⟩, fun x hx => updB_none fun e => by subst e; simp at hx⟩
 ·rw [eβ]
  refine ⟨hv, c, c1, c2, fun i v x hi hx => ?_, c4⟩
  match i with
  | 0 =>
   obtain ⟨k1, k2⟩ := c3 0 v .nil hi rfl
   simp at hx; subst hx
   refine ⟨k1, ?_⟩
   cases k2 with
   | nil => exact .own (p := ⟨0, 0, some 0⟩) (v := 0) .nil (updB_self _ _ _) rfl (Nat.le_refl _) fun _ => ⟨none, rfl, .inl ⟨rfl, rfl⟩⟩
  | i + 1 => simp at hx
 ·intro x p' ob' hx hob hpx hr
  refine ⟨fun _ => ?_, rfl, fun _ => rfl⟩
  by_cases hxk : x = (s.k, 0)
  ·subst hxk
   rw [upd_self] at hob; cases hob
   rw [updB_self] at hpx; cases hpx
   exact absurd ⟨rfl, rfl⟩ hr
  ·rw [upd_ne _ _ hxk] at hob
   rw [updB_ne _ _ hxk] at hpx
   exact fun e => hx (h2.inj x b p' p ob' _ hob hb hpx hp hr trivial e)
end
section
variable {P : Program} {w0 : World} {n : Nat} {f : FuncId} {fn : Func} {c : Code} {args : List AV} {v : AV} {n : Nat}
theorem aER {ro : List (Nm × Ob)} (hf : P.funcs[f]? = some fn) (hb : fn.body = some c) (hnt : fn.ntmps = n) (h : ∀ (w0 : World) (h0 : Heap) (k : Nat), RoOK k ro h0 → awp P w0 n c (retQ P fn (rdE ro v) h0 k) ⟨slotsOf args, h0, k⟩) (hlen : args.length ≤ n := by simp only [List.length_cons, List.length_nil]; omega) : Tri P f args (rdE ro v) := tri_enter_ro hf hb hnt hlen h
theorem aES {N : List Nm} {O O' : Nm → Ob} (hf : P.funcs[f]? = some fn) (hb : fn.body = some c) (hnt : fn.ntmps = n) (h : ∀ (w0 : World) (h0 : Heap) (k : Nat), Ag k N O h0 → awp P w0 n c (retQ P fn (stE N O O' v) h0 k) ⟨slotsOf args, h0, k⟩) (hlen : args.length ≤ n := by simp only [List.length_cons, List.length_nil]; omega) : Tri P f args (stE N O O' v) := tri_enter_st hf hb hnt hlen h
end
theorem frT {k : Nat} {h0 h : Heap} (e : Fr k h0 h := by repeat (first | exact Fr.rfl' _ _ | assumption | refine Fr.updk ?_ (by omega) _ | refine Fr.stH ?_ _ (by intro n hn; simp only [List.mem_cons, List.not_mem_nil, or_false] at hn; subst hn; simp only; omega))) : Fr k h0 h := e
theorem frS {k : Nat} {h0 h : Heap} (e : Fr k h0 h := by repeat (first | exact Fr.rfl' _ _ | assumption | refine Fr.updk ?_ (by omega) _ | refine Fr.stH ?_ _ (by intro n hn; simp only [List.mem_cons, List.not_mem_nil, or_false] at hn; rcases hn with rfl | rfl | rfl <;> (simp only; omega)) | refine Fr.stH ?_ _ (by intro n hn; simp only [List.mem_cons, List.not_mem_nil, or_false] at hn; rcases hn with rfl | rfl <;> (simp only; omega)))) : Fr k h0 h := e
end Go.Proofs.YtmeekpinkfpnhabGreat
namespace Go.Proofs.YtmeekpinkfpnhabGreat
structure Lt where
 y : Bool
 a : Tm
 b : Tm
def Lt.size (l : Lt) : Nat := l.a.size + l.b.size + 1
def litL (g : List Int) : List Lt → Int
 | [] => 0
 | l :: c => if own g l.a ≠ 0 then own g l.a else if own g l.b ≠ 0 then own g l.b else litL g c
def clOk (g : List Int) (c : List Lt) : Int := if c.length > 8 then 2 else litL g c
def clsL (g : List Int) : List (List Lt) → Int
 | [] => 0
 | c :: l => if clOk g c ≠ 0 then clOk g c else clsL g l
def clsOk (g : List Int) (l : List (List Lt)) : Int := if sigOk g ≠ 0 then sigOk g else if l.length > 60 then 2 else clsL g l
def termsOf (c : List Lt) : List Tm := c.flatMap fun l => [l.a, l.b]
theorem litL_all {g : List Int} : ∀ {c : List Lt}, litL g c = 0 → ∀ l ∈ c, own g l.a = 0 ∧ own g l.b = 0
 | x :: c, h, l, hl => by
  rw [litL] at h
  by_cases h1 : own g x.a = 0
  ·by_cases h2 : own g x.b = 0
   ·simp [h1, h2] at h
    rcases List.mem_cons.1 hl with rfl | hl
    ·exact ⟨h1, h2⟩
    ·exact litL_all h l hl
   ·simp [h1, h2] at h
  ·simp [h1] at h
theorem clOk_all {g : List Int} {c : List Lt} (h : clOk g c = 0) : c.length ≤ 8 ∧ ∀ l ∈ c, own g l.a = 0 ∧ own g l.b = 0 := by
 unfold clOk at h
 split at h
 ·cases h
 ·exact ⟨by omega, litL_all h⟩
theorem clsL_all {g : List Int} : ∀ {l : List (List Lt)}, clsL g l = 0 → ∀ c ∈ l, clOk g c = 0
 | x :: l, h, c, hc => by
  rw [clsL] at h
  by_cases h1 : clOk g x = 0
  ·simp [h1] at h
   rcases List.mem_cons.1 hc with rfl | hc
   ·exact h1
   ·exact clsL_all h c hc
  ·simp [h1] at h
theorem clsOk_all {g : List Int} {l : List (List Lt)} (h : clsOk g l = 0) : sigOk g = 0 ∧ l.length ≤ 60 ∧ ∀ c ∈ l, clOk g c = 0 := by
 unfold clsOk at h
 by_cases hs : sigOk g = 0
 ·simp [hs] at h
  by_cases h2 : l.length > 60
  ·simp [h2] at h
  ·simp [h2] at h; exact ⟨hs, by omega, clsL_all h⟩
 ·simp [hs] at h
def addV (o : List Int) (x : Tm) : List Int := if x.v > 0 ∧ o.contains x.v = false then o ++ [x.v] else o
def addVs (o : List Int) (l : List Tm) : List Int := l.foldl addV o
def firstVars (l : List Tm) : List Int := addVs [] (l.flatMap parts)
mutual
def pre : Tm → List Tm
 | .mk v f us => .mk v f us :: preL us
def preL : List Tm → List Tm
 | [] => []
 | x :: xs => pre x ++ preL xs
end
theorem pre_eq (t : Tm) : pre t = t :: preL t.us := by cases t; rw [pre]; rfl
theorem addVs_filter : ∀ (l : List Tm) (o : List Int), addVs o l = addVs o (l.filter fun x => decide (x.v > 0))
 | [], _ => rfl
 | x :: l, o => by
  by_cases h : x.v > 0
  ·rw [List.filter_cons_of_pos (by simpa using h)]
   exact addVs_filter l _
  ·rw [List.filter_cons_of_neg (by simpa using h)]
   have : addV o x = o := by unfold addV; rw [if_neg (by simp [h])]
   show addVs (addV o x) l = _
   rw [this]; exact addVs_filter l o
def Bare (t : Tm) : Prop := ∀ x ∈ parts t, x.v > 0 → x.us = []
mutual
theorem pre_filter : ∀ t : Tm, Bare t → (pre t).filter (fun x => decide (x.v > 0)) = (parts t).filter fun x => decide (x.v > 0)
 | .mk v f us, h => by
  have hL := preL_filter us fun x hx => h x (by rw [parts]; exact List.mem_append_left _ hx)
  rw [pre, parts, List.filter_append]
  by_cases hv : v > 0
  ·have := h (.mk v f us) (by rw [parts]; simp) hv
   simp only [Tm.us] at this
   subst this
   simp [preL, partsL]
  ·rw [List.filter_cons_of_neg (by simpa [Tm.v] using hv), hL]
   simp [Tm.v, hv]
theorem preL_filter : ∀ us : List Tm, (∀ x ∈ partsL us, x.v > 0 → x.us = []) → (preL us).filter (fun x => decide (x.v > 0)) = (partsL us).filter fun x => decide (x.v > 0)
 | [], _ => rfl
 | x :: xs, h => by
  rw [preL, partsL, List.filter_append, List.filter_append]
  rw [pre_filter x fun y hy => h y (by rw [partsL]; exact List.mem_append_left _ hy), preL_filter xs fun y hy => h y (by rw [partsL]; exact List.mem_append_right _ hy)]
end
theorem own_bare {g : List Int} {t : Tm} (h : own g t = 0) : Bare t := fun x hx hv => by
 have h1 := own_each h hx
 unfold formOne at h1
 rw [if_pos (by omega)] at h1
 split at h1
 ·cases h1
 ·split at h1
  ·cases h1
  ·rename_i h2
   have : x.us.length = 0 := by
    rcases Nat.eq_zero_or_pos x.us.length with h3 | h3
    ·exact h3
    ·exact absurd (.inl h3) h2
   exact List.eq_nil_of_length_eq_zero this
theorem addVs_append (o : List Int) (a b : List Tm) : addVs o (a ++ b) = addVs (addVs o a) b := List.foldl_append
theorem stands_eq {l : List Tm} (h : ∀ t ∈ l, Bare t) : ∀ o, addVs o (l.flatMap pre) = addVs o (l.flatMap parts) := by
 induction l with
 | nil => intro o; rfl
 | cons t l ih =>
  intro o
  rw [List.flatMap_cons, List.flatMap_cons, addVs_append, addVs_append, ih fun u hu => h u (List.mem_cons_of_mem _ hu)]
  congr 1
  rw [addVs_filter, pre_filter t (h t List.mem_cons_self), ← addVs_filter]
theorem addV_len (o : List Int) (x : Tm) : (addV o x).length ≤ o.length + 1 := by unfold addV; split <;> simp
theorem addVs_len : ∀ (l : List Tm) (o : List Int), (addVs o l).length ≤ o.length + l.length
 | [], _ => Nat.le_refl _
 | x :: l, o => by
  have h1 := addV_len o x
  have h2 := addVs_len l (addV o x)
  show (addVs (addV o x) l).length ≤ _
  simp only [List.length_cons]; omega
theorem addV_mem {o : List Int} {x : Tm} {v : Int} (h : v ∈ addV o x) : v ∈ o ∨ v = x.v ∧ x.v > 0 := by
 unfold addV at h
 split at h
 ·rename_i hc
  rcases List.mem_append.1 h with h | h
  ·exact .inl h
  ·exact .inr ⟨by simpa using h, hc.1⟩
 ·exact .inl h
theorem addVs_mem : ∀ {l : List Tm} {o : List Int} {v : Int}, v ∈ addVs o l → v ∈ o ∨ ∃ x ∈ l, v = x.v ∧ x.v > 0
 | [], _, _, h => .inl h
 | x :: l, o, v, h => by
  rcases addVs_mem (l := l) (o := addV o x) h with h | ⟨y, hy, h⟩
  ·rcases addV_mem h with h | h
   ·exact .inl h
   ·exact .inr ⟨x, by simp, h⟩
  ·exact .inr ⟨y, by simp [hy], h⟩
theorem addVs_keep : ∀ {l : List Tm} {o : List Int} {v : Int}, v ∈ o → v ∈ addVs o l
 | [], _, _, h => h
 | x :: l, o, v, h => addVs_keep (l := l) (by unfold addV; split; exact List.mem_append_left _ h; exact h)
theorem addVs_has : ∀ {l : List Tm} {o : List Int} {x : Tm}, x ∈ l → x.v > 0 → x.v ∈ addVs o l
 | y :: l, o, x, hx, hv => by
  rcases List.mem_cons.1 hx with rfl | hx
  ·refine addVs_keep (l := l) ?_
   unfold addV
   split
   ·simp
   ·rename_i hc
    have : o.contains x.v = true := by
     cases h : o.contains x.v with
     | true => rfl
     | false => exact absurd ⟨hv, h⟩ hc
    simpa using this
  ·exact addVs_has (l := l) hx hv
theorem addVs_nodup : ∀ {l : List Tm} {o : List Int}, o.Nodup → (addVs o l).Nodup
 | [], _, h => h
 | x :: l, o, h => by
  refine addVs_nodup (l := l) ?_
  unfold addV
  split
  ·rename_i hc
   rw [List.nodup_append]
   refine ⟨h, by simp, fun a ha b hb e => ?_⟩
   simp at hb
   subst hb; subst e
   simp at hc
   exact hc.2 ha
  ·exact h
end Go.Proofs.YtmeekpinkfpnhabGreat
namespace Go.Proofs.YtmeekpinkfpnhabGreat
open Go.RowKit
section
variable {P : Program} {ops : Array Oper} {tick : Nat} {K : St → Prop} {s : St} {i : Nat} {dst : Option Tmp} {f : Operand} {g : FuncId} {first caps : List AV} {args : Array Operand} {ats : Array TypeId} {ty : TypeId} {pos : String} {after : Array Edge} {guard : Option (Nat × Bool)} {rest : List Oper} {acc : Acc} {az : List AV}
theorem CallD.new {e : TypeId} {ys : List DV} (hi : i % 1000 = i) (hent : enterOk P g) (ht : ∀ n', Tri P g az (newEff e n' ys)) (hco : coL (args.toList.map s.ev) az) (hrd : s.h (tick, i) = none)
  (hk : chk ops ⟨dst, .call ⟨.value (.func g), args, ats⟩, ty, pos, after, guard⟩ acc [(tick, i)] [(tick, i)] ∧ runD P ops tick rest (i + 1) (s.step ⟨dst, .call ⟨.value (.func g), args, ats⟩, ty, pos, after, guard⟩ (newEff e (tick, i) ys)) (addF acc i [(tick, i)] [(tick, i)]) K) :
  CallD P ops tick i ⟨dst, .call ⟨.value (.func g), args, ats⟩, ty, pos, after, guard⟩ rest s acc K :=
 CallD.eff hent (ht (tick, i)) hco (fun x hx => by simp only [newEff, List.mem_cons, List.not_mem_nil, or_false] at hx; subst hx; exact hrd) (fun x hx => by simp only [newEff, List.mem_cons, List.not_mem_nil, or_false] at hx; subst hx; exact .inr ⟨rfl, hi⟩) hk
variable {N : List Nm} {O O' : Nm → Ob} {v : AV} {k : Nat} {h0 : Heap}
theorem addF_ne {acc : Acc} {i : Nat} {N : List Nm} (h : N ≠ []) : addF acc i N N = (i, N, N) :: acc := by
 cases N with
 | nil => exact absurd rfl h
 | cons => rfl
theorem stE_RW (N : List Nm) (O O' : Nm → Ob) (v : AV) : (stE N O O' v).R_ = N ∧ (stE N O O' v).W_ = N := by
 constructor <;> simp only [stE, Eff.R_, Eff.W_, List.map_map] <;> exact List.map_id' N
theorem CallD.chg (hent : enterOk P g) (ht : Tri P g az (stE N O O' v)) (hco : coL (args.toList.map s.ev) az) (ha : Ag k N O h0) (hfr : Fr k h0 s.h) (hne : N ≠ [])
  (hk : chk ops ⟨dst, .call ⟨.value (.func g), args, ats⟩, ty, pos, after, guard⟩ acc N N ∧ runD P ops tick rest (i + 1) ⟨match dst with | some d => set s.t d v | none => s.t, stH N O' s.h, s.k⟩ ((i, N, N) :: acc) K) :
  CallD P ops tick i ⟨dst, .call ⟨.value (.func g), args, ats⟩, ty, pos, after, guard⟩ rest s acc K := by
 obtain ⟨e1, e2⟩ := stE_RW N O O' v
 refine CallD.eff hent ht hco (ha.fr hfr).rd (ha.fr hfr).wr ?_
 rw [e1, e2]
 unfold St.step
 rw [stE_apH, addF_ne hne]
 exact hk
theorem CallD.vchg (hf : s.ev f = .fn (.func g) first caps) (hent : enterOk P g) (ht : Tri P g (first ++ az ++ caps) (stE N O O' v)) (hco : coL (args.toList.map s.ev) az) (ha : Ag k N O h0) (hfr : Fr k h0 s.h) (hne : N ≠ [])
  (hk : chk ops ⟨dst, .call ⟨.value f, args, ats⟩, ty, pos, after, guard⟩ acc N N ∧ runD P ops tick rest (i + 1) ⟨match dst with | some d => set s.t d v | none => s.t, stH N O' s.h, s.k⟩ ((i, N, N) :: acc) K) :
  CallD P ops tick i ⟨dst, .call ⟨.value f, args, ats⟩, ty, pos, after, guard⟩ rest s acc K := by
 obtain ⟨e1, e2⟩ := stE_RW N O O' v
 refine CallD.val hf hent ht hco (ha.fr hfr).rd (ha.fr hfr).wr ?_
 rw [e1, e2]
 unfold St.step
 rw [stE_apH, addF_ne hne]
 exact hk
variable {ro : List (Nm × Ob)}
theorem rdE_RW (ro : List (Nm × Ob)) (v : AV) : (rdE ro v).R_ = ro.map (·.1) ∧ (rdE ro v).W_ = [] := by
 constructor
 ·simp only [rdE, Eff.R_, List.map_map]; rfl
 ·rfl
theorem addF_rd {acc : Acc} {i : Nat} (h : ro ≠ []) : addF acc i (ro.map (·.1)) [] = (i, ro.map (·.1), []) :: acc := by
 cases ro with
 | nil => exact absurd rfl h
 | cons => rfl
theorem CallD.look (hent : enterOk P g) (ht : Tri P g az (rdE ro v)) (hco : coL (args.toList.map s.ev) az) (hro : RoOK k ro h0) (hfr : Fr k h0 s.h) (hne : ro ≠ [])
  (hk : chk ops ⟨dst, .call ⟨.value (.func g), args, ats⟩, ty, pos, after, guard⟩ acc (ro.map (·.1)) [] ∧ runD P ops tick rest (i + 1) (s.step ⟨dst, .call ⟨.value (.func g), args, ats⟩, ty, pos, after, guard⟩ (pure' v)) ((i, ro.map (·.1), []) :: acc) K) :
  CallD P ops tick i ⟨dst, .call ⟨.value (.func g), args, ats⟩, ty, pos, after, guard⟩ rest s acc K := by
 obtain ⟨e1, e2⟩ := rdE_RW ro v
 refine CallD.eff hent ht hco (hro.fr hfr).rd (fun x hx => by cases hx) ?_
 rw [e1, e2, addF_rd hne]
 exact hk
theorem CallD.vlook (hf : s.ev f = .fn (.func g) first caps) (hent : enterOk P g) (ht : Tri P g (first ++ az ++ caps) (rdE ro v)) (hco : coL (args.toList.map s.ev) az) (hro : RoOK k ro h0) (hfr : Fr k h0 s.h) (hne : ro ≠ [])
  (hk : chk ops ⟨dst, .call ⟨.value f, args, ats⟩, ty, pos, after, guard⟩ acc (ro.map (·.1)) [] ∧ runD P ops tick rest (i + 1) (s.step ⟨dst, .call ⟨.value f, args, ats⟩, ty, pos, after, guard⟩ (pure' v)) ((i, ro.map (·.1), []) :: acc) K) :
  CallD P ops tick i ⟨dst, .call ⟨.value f, args, ats⟩, ty, pos, after, guard⟩ rest s acc K := by
 obtain ⟨e1, e2⟩ := rdE_RW ro v
 refine CallD.val hf hent ht hco (hro.fr hfr).rd (fun x hx => by cases hx) ?_
 rw [e1, e2, addF_rd hne]
 exact hk
end
def ltDV (l : Lt) : DV := .st [bD l.y, iD l.a.v, iD l.a.f, .sl (l.a.us.map tmDV), iD l.b.v, iD l.b.f, .sl (l.b.us.map tmDV)]
@[go_sem] theorem ltDV_cells (l : Lt) : (ltDV l).cells = [bD l.y, iD l.a.v, iD l.a.f, .sl (l.a.us.map tmDV), iD l.b.v, iD l.b.f, .sl (l.b.us.map tmDV)] := (Eq.trans rfl (Eq.refl _))
@[go_sem] theorem ltDV_fold (l : Lt) : DV.st [bD l.y, iD l.a.v, iD l.a.f, .sl (l.a.us.map tmDV), iD l.b.v, iD l.b.f, .sl (l.b.us.map tmDV)] = ltDV l := (Eq.trans rfl (Eq.refl _))
abbrev gI (l : List Int) : DV := .sl (l.map iD)
abbrev clDV (c : List Lt) : DV := .sl (c.map ltDV)
end Go.Proofs.YtmeekpinkfpnhabGreat
namespace Go.Proofs.YtmeekpinkfpnhabGreat
open Go.ChangeShapes Go.WideShapes Go.RowKit
theorem sum_one (l : List Int) : (l.map fun _ => 1).sum = l.length := by
 induction l with
 | nil => rfl
 | cons x xs ih => simp only [List.map_cons, List.sum_cons, List.length_cons, ih]; omega
set_option maxRecDepth 20000 in
theorem ints_reads : Reads Tryz.prog 22 (fun l : List Int => .sl (l.map iD)) (fun _ => True) (fun l => l.length + 1) := by
 intro n
 refine ReadsN.map (reads_slice Tryz.underlying22 (by decide +kernel) fun m _ => reads_int Tryz.underlying3 m) (fun l => l) fun l _ => ⟨rfl, trivial, ?_⟩
 rw [sum_one]; exact Nat.le_refl _
set_option maxRecDepth 20000 in
theorem lit_reads : Reads Tryz.prog 66 ltDV (fun _ => True) Lt.size := by
 intro n
 refine ReadsN.map (reads_struct Tryz.underlying66 rfl (by kernel_rfl) fun m hm => readsF_cons rfl (reads_bool Tryz.underlying4 m) (readsF_cons rfl (term_reads m) (readsF_cons rfl (term_reads m) readsF_nil))) (fun p => ⟨p.1, p.2.1, p.2.2.1⟩) fun p _ => ⟨?_, trivial, ?_⟩
 ·simp only [tmDV_cells]; rfl
 ·unfold Lt.size; simp only; omega
set_option maxRecDepth 20000 in
theorem clause_reads : Reads Tryz.prog 35 (fun c : List Lt => clDV c) (fun _ => True) (fun c => (c.map Lt.size).sum + 1) := by
 intro n
 exact ReadsN.map (reads_slice Tryz.underlying35 (by decide +kernel) fun m _ => lit_reads m) (fun l => l) fun l _ => ⟨rfl, trivial, Nat.le_refl _⟩
end Go.Proofs.YtmeekpinkfpnhabGreat
