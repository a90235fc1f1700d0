/- Texts read: number, where it does not give up. -/
import Derived.Test.YtmeekpinkfpnhabDoorP01
import Derived.Test.YtmeekpinkfpnhabDoorP07
import Derived.Lib.ItoaNum
import Derived.Lib.ItoaLen
import Derived.Lib.Join
import Derived.Lib.Strings
import Derived.Lib.AppendIntMem
import Derived.Lib.AtoiErrMem
import Derived.Shelf.Strings.Prefix
import Derived.Shelf.Strings.OnBuilder
import Derived.Shelf.Strconv.Itoa3
import Derived.Shelf.Strconv.Atoi
import Derived.Ground.NamesProg
import Derived.Test.YtmeekpinkfpnhabDoorRows
import Derived.LaidMore
import Derived.Stop.LaidErr
import Derived.Lib.LaidTab
import Derived.Defers
import Derived.Recover
import Derived.Lib.Atoi
set_option linter.all false
namespace Go.Proofs.YtmeekpinkfpnhabDoor
open Go
abbrev By := List UInt8
def bs (l : By) : ByteArray := ⟨l.toArray⟩
theorem bs_size (l : By) : (bs l).size = l.length := by simp [bs, ByteArray.size]
theorem bs_app (a b : By) : bs a ++ bs b = bs (a ++ b) := by
 apply ByteArray.ext
 simp [bs, ByteArray.data_append]
theorem bs_list (l : By) : (bs l).data.toList = l := by simp [bs]
theorem bs_toList (l : By) : (bs l).toList = l := by rw [ByteArray.toList_eq]; simp [bs]
theorem bs_of (s : ByteArray) : s = bs s.data.toList := by cases s; rfl
abbrev dig (n : Int) : By := Lib.decDigits n.toNat
theorem dig_len {n : Nat} (h : n < 9223372036854775808) : (Lib.decDigits n).length ≤ 20 := by
 have key : ∀ (k m : Nat), m < 10 ^ (k + 1) → (Lib.decDigits m).length ≤ k + 1 := by
  intro k
  induction k with
  | zero => intro m hm; rw [Lib.decDigits, dif_pos (by simpa using hm)]; simp
  | succ k ih =>
   intro m hm
   rw [Lib.decDigits]
   split
   ·simp
   ·have h2 : m / 10 < 10 ^ (k + 1) := by rw [Nat.pow_succ] at hm; omega
    have := ih (m / 10) h2
    simp only [List.length_append, List.length_cons, List.length_nil]; omega
 exact key 19 n (by omega)
mutual
def tmT : Tm → By
 | .mk v f us => if v > 0 then 88 :: dig v else 102 :: dig f ++ (match tmTs us with | [] => [] | x :: l => 40 :: Lib.join (x :: l) [44] ++ [41])
def tmTs : List Tm → List By
 | [] => []
 | t :: ts => tmT t :: tmTs ts
end
theorem tmTs_map : ∀ us : List Tm, tmTs us = us.map tmT
 | [] => rfl
 | t :: ts => by rw [tmTs, List.map_cons, tmTs_map ts]
def argT (us : List Tm) : By := if us = [] then [] else 40 :: Lib.join (us.map tmT) [44] ++ [41]
theorem tmT_eq (t : Tm) : tmT t = if t.v > 0 then 88 :: dig t.v else 102 :: dig t.f ++ argT t.us := by
 cases t with
 | mk v f us =>
  rw [tmT]
  simp only [Tm.v, Tm.f, Tm.us, tmTs_map, argT]
  cases us <;> rfl
def ltT (l : Lt) : By := tmT l.a ++ (if l.y = true then [32, 61, 32] else [32, 33, 61, 32]) ++ tmT l.b
def clT (c : List Lt) : By := if c = [] then [36, 102, 97, 108, 115, 101] else Lib.join (c.map ltT) [32, 124, 32]
def smT (t : Tm) : Prop := ∀ u ∈ parts t, 0 ≤ u.v ∧ u.v ≤ 1000 ∧ 0 ≤ u.f ∧ u.f ≤ 1000
theorem smT_self {t : Tm} (h : smT t) : 0 ≤ t.v ∧ t.v ≤ 1000 ∧ 0 ≤ t.f ∧ t.f ≤ 1000 := h t (by cases t; rw [parts]; simp)
theorem partsL_mem {us : List Tm} {u x : Tm} (hu : u ∈ us) (hx : x ∈ parts u) : x ∈ partsL us := by
 induction us with
 | nil => cases hu
 | cons y ys ih =>
  rw [partsL, List.mem_append]
  rcases List.mem_cons.1 hu with rfl | hu
  ·exact .inl hx
  ·exact .inr (ih hu)
theorem smT_arg {t u : Tm} (h : smT t) (hu : u ∈ t.us) : smT u := fun x hx => h x (by
 cases t with
 | mk v f us => rw [parts, List.mem_append]; exact .inl (partsL_mem hu hx))
theorem smT_own {g : List Int} {t : Tm} (hs : sigOk g = 0) (h : own g t = 0) : smT t := fun u hu => by
 have h1 := own_each h hu
 have h2 := own_v h hu
 have hg : g.length ≤ 12 := by
  unfold sigOk at hs
  split at hs
  ·cases hs
  ·omega
 unfold formOne at h1
 refine ⟨h2, ?_⟩
 repeat' (split at h1)
 all_goals first | (exfalso; omega) | (refine ⟨?_, ?_, ?_⟩ <;> simp_all <;> omega)
theorem joinTail_sum (sep : By) : ∀ l : List By, (Lib.joinTail sep l).length ≤ (l.map fun x => x.length + sep.length).sum
 | [] => by simp [Lib.joinTail]
 | y :: l => by
  have h2 := joinTail_sum sep l
  simp only [Lib.joinTail, List.map_cons, List.flatten_cons, List.length_append, List.sum_cons] at h2 ⊢
  omega
theorem join_sum (sep : By) : ∀ l : List By, (Lib.join l sep).length ≤ (l.map fun x => x.length + sep.length).sum
 | [] => by simp [Lib.join_nil]
 | x :: l => by
  have := joinTail_sum sep l
  rw [Lib.join_cons, List.length_append, List.map_cons, List.sum_cons]; omega
theorem sum_le {α : Type} {f g : α → Nat} : ∀ {l : List α}, (∀ x ∈ l, f x ≤ g x) → (l.map f).sum ≤ (l.map g).sum
 | [], _ => by simp
 | x :: l, h => by
  have h1 := h x (by simp)
  have h2 := sum_le (l := l) fun y hy => h y (by simp [hy])
  simp only [List.map_cons, List.sum_cons]; omega
theorem sum_mul (n : Nat) {α : Type} (f : α → Nat) : ∀ l : List α, (l.map fun x => n * f x).sum = n * (l.map f).sum
 | [] => by simp
 | x :: l => by simp only [List.map_cons, List.sum_cons, sum_mul n f l, Nat.mul_add]
theorem tmT_len : ∀ t : Tm, smT t → (tmT t).length + 1 ≤ 26 * t.size := by
 intro t
 induction t using Tm.ind with
 | h t ih =>
  intro hs
  obtain ⟨v0, v1, f0, f1⟩ := smT_self hs
  have hdv : (dig t.v).length ≤ 20 := dig_len (n := t.v.toNat) (by omega)
  have hdf : (dig t.f).length ≤ 20 := dig_len (n := t.f.toNat) (by omega)
  have e : t.size = 1 + (t.us.map Tm.size).sum := by cases t; rw [Tm.size, Tm.sizes_sum]; rfl
  rw [tmT_eq]
  split
  ·simp only [List.length_cons]; omega
  ·have h1 := join_sum [44] (t.us.map tmT)
   have h2 : ((t.us.map tmT).map fun x => x.length + ([44] : By).length).sum ≤ (t.us.map fun u => 26 * u.size).sum := by
    rw [List.map_map]
    exact sum_le fun u hu => ih u hu (smT_arg hs hu)
   rw [sum_mul] at h2
   unfold argT
   split
   ·simp only [List.length_cons, List.length_append, List.length_nil]; omega
   ·simp only [List.length_cons, List.length_append, List.length_nil]; omega
theorem ltT_len {l : Lt} (ha : smT l.a) (hb : smT l.b) : (ltT l).length + 3 ≤ 26 * l.a.size + 26 * l.b.size + 7 := by
 have h1 := tmT_len _ ha
 have h2 := tmT_len _ hb
 unfold ltT
 split <;> simp only [List.length_append, List.length_cons, List.length_nil] <;> omega
end Go.Proofs.YtmeekpinkfpnhabDoor
namespace Go.Proofs
open Go.Shelf
def YtmeekpinkfpnhabDoorlaysPrefix_ren : Go.Shelf.Ren := ⟨fun | 99 => 58 | 206 => 63 | n => n, fun | 9 => 9 | 4 => 4 | 3 => 3 | n => n, fun | n => n⟩
theorem YtmeekpinkfpnhabDoorlaysPrefix : Go.Proofs.Lays.n99 Tryd.prog YtmeekpinkfpnhabDoorlaysPrefix_ren := {
 mixed := by kernel_rfl
 f99 := Tryd.func58.trans (congrArg some (by kernel_rfl))
 f206 := Tryd.func63.trans (congrArg some (by kernel_rfl))
 t3 := Tryd.underlying3
 a3 := Tryd.isAgg3
 z3 := Tryd.sizeOf3
 v3 := Tryd.zeroValue3
 t4 := Tryd.underlying4
 a4 := Tryd.isAgg4
 z4 := Tryd.sizeOf4
 v4 := Tryd.zeroValue4
 t9 := Tryd.underlying9
 a9 := Tryd.isAgg9
 z9 := Tryd.sizeOf9
 v9 := Tryd.zeroValue9 }
def YtmeekpinkfpnhabDoorlaysJoin_ren : Go.Shelf.Ren := ⟨fun | 156 => 24 | 165 => 42 | 166 => 43 | 169 => 44 | 240 => 56 | 241 => 57 | 276 => 61 | 277 => 62 | n => n, fun | 31 => 50 | 9 => 9 | 3 => 3 | 4 => 4 | 0 => 0 | 20 => 20 | 72 => 73 | 76 => 77 | 70 => 70 | 37 => 71 | 75 => 76 | 127 => 93 | 164 => 96 | 5 => 5 | 80 => 79 | n => n, fun | n => n⟩
theorem YtmeekpinkfpnhabDoorlaysJoin : Go.Proofs.Lays.n156 Tryd.prog YtmeekpinkfpnhabDoorlaysJoin_ren := {
 mixed := by kernel_rfl
 f156 := Tryd.func24.trans (congrArg some (by kernel_rfl))
 f165 := Tryd.func42.trans (congrArg some (by kernel_rfl))
 f166 := Tryd.func43.trans (congrArg some (by kernel_rfl))
 f169 := Tryd.func44.trans (congrArg some (by kernel_rfl))
 f240 := Tryd.func56.trans (congrArg some (by kernel_rfl))
 f241 := Tryd.func57.trans (congrArg some (by kernel_rfl))
 f276 := Tryd.func61.trans (congrArg some (by kernel_rfl))
 f277 := Tryd.func62.trans (congrArg some (by kernel_rfl))
 t0 := Tryd.underlying0
 a0 := Tryd.isAgg0
 z0 := Tryd.sizeOf0
 v0 := Tryd.zeroValue0
 t3 := Tryd.underlying3
 a3 := Tryd.isAgg3
 z3 := Tryd.sizeOf3
 v3 := Tryd.zeroValue3
 t4 := Tryd.underlying4
 a4 := Tryd.isAgg4
 z4 := Tryd.sizeOf4
 v4 := Tryd.zeroValue4
 t9 := Tryd.underlying9
 a9 := Tryd.isAgg9
 z9 := Tryd.sizeOf9
 v9 := Tryd.zeroValue9
 t20 := Tryd.underlying20
 a20 := Tryd.isAgg20
 z20 := Tryd.sizeOf20
 v20 := Tryd.zeroValue20
 t31 := Tryd.underlying50
 a31 := Tryd.isAgg50
 z31 := Tryd.sizeOf50
 v31 := Tryd.zeroValue50
 t37 := Tryd.underlying71
 a37 := Tryd.isAgg71
 z37 := Tryd.sizeOf71
 v37 := Tryd.zeroValue71
 t70 := Tryd.underlying70
 a70 := Tryd.isAgg70
 z70 := Tryd.sizeOf70
 v70 := Tryd.zeroValue70
 t72 := Tryd.underlying73
 a72 := Tryd.isAgg73
 z72 := Tryd.sizeOf73
 v72 := Tryd.zeroValue73
 t75 := Tryd.underlying76
 a75 := Tryd.isAgg76
 z75 := Tryd.sizeOf76
 v75 := Tryd.zeroValue76
 t76 := Tryd.underlying77
 a76 := Tryd.isAgg77
 z76 := Tryd.sizeOf77
 v76 := Tryd.zeroValue77
 t127 := Tryd.underlying93
 a127 := Tryd.isAgg93
 z127 := Tryd.sizeOf93
 v127 := Tryd.zeroValue93
 t164 := Tryd.underlying96
 a164 := Tryd.isAgg96
 z164 := Tryd.sizeOf96
 v164 := Tryd.zeroValue96 }
def YtmeekpinkfpnhabDoorlaysItoa_ren : Go.Shelf.Ren := ⟨fun | 171 => 39 | 243 => 54 | 246 => 60 | 283 => 66 | 284 => 67 | 285 => 68 | 286 => 69 | 129 => 76 | 317 => 75 | 318 => 77 | 319 => 78 | 320 => 79 | 337 => 83 | 338 => 84 | n => n, fun | 3 => 3 | 9 => 9 | 2 => 2 | 4 => 4 | 171 => 100 | 0 => 0 | 53 => 101 | 37 => 71 | 5 => 5 | 173 => 104 | 212 => 114 | 51 => 115 | 20 => 20 | 213 => 116 | 46 => 117 | 232 => 130 | 233 => 131 | n => n, fun | 17 => 1 | 18 => 4 | 19 => 5 | n => n⟩
theorem YtmeekpinkfpnhabDoorlaysItoa : Go.Proofs.LaysM.n171 Tryd.prog YtmeekpinkfpnhabDoorlaysItoa_ren := {
 mixed := by kernel_rfl
 f129 := Tryd.func76.trans (congrArg some (by kernel_rfl))
 f171 := Tryd.func39.trans (congrArg some (by kernel_rfl))
 f243 := Tryd.func54.trans (congrArg some (by kernel_rfl))
 f246 := Tryd.func60.trans (congrArg some (by kernel_rfl))
 f283 := Tryd.func66.trans (congrArg some (by kernel_rfl))
 f284 := Tryd.func67.trans (congrArg some (by kernel_rfl))
 f285 := Tryd.func68.trans (congrArg some (by kernel_rfl))
 f286 := Tryd.func69.trans (congrArg some (by kernel_rfl))
 f317 := Tryd.func75.trans (congrArg some (by kernel_rfl))
 f318 := Tryd.func77.trans (congrArg some (by kernel_rfl))
 f319 := Tryd.func78.trans (congrArg some (by kernel_rfl))
 f320 := Tryd.func79.trans (congrArg some (by kernel_rfl))
 f337 := Tryd.func83.trans (congrArg some (by kernel_rfl))
 f338 := Tryd.func84.trans (congrArg some (by kernel_rfl))
 t0 := Tryd.underlying0
 a0 := Tryd.isAgg0
 z0 := Tryd.sizeOf0
 v0 := Tryd.zeroValue0
 t2 := Tryd.underlying2
 a2 := Tryd.isAgg2
 z2 := Tryd.sizeOf2
 v2 := Tryd.zeroValue2
 t3 := Tryd.underlying3
 a3 := Tryd.isAgg3
 z3 := Tryd.sizeOf3
 v3 := Tryd.zeroValue3
 t4 := Tryd.underlying4
 a4 := Tryd.isAgg4
 z4 := Tryd.sizeOf4
 v4 := Tryd.zeroValue4
 t5 := Tryd.underlying5
 a5 := Tryd.isAgg5
 z5 := Tryd.sizeOf5
 v5 := Tryd.zeroValue5
 t9 := Tryd.underlying9
 a9 := Tryd.isAgg9
 z9 := Tryd.sizeOf9
 v9 := Tryd.zeroValue9
 t20 := Tryd.underlying20
 a20 := Tryd.isAgg20
 z20 := Tryd.sizeOf20
 v20 := Tryd.zeroValue20
 t37 := Tryd.underlying71
 a37 := Tryd.isAgg71
 z37 := Tryd.sizeOf71
 v37 := Tryd.zeroValue71
 t46 := Tryd.underlying117
 a46 := Tryd.isAgg117
 z46 := Tryd.sizeOf117
 v46 := Tryd.zeroValue117
 t51 := Tryd.underlying115
 a51 := Tryd.isAgg115
 z51 := Tryd.sizeOf115
 v51 := Tryd.zeroValue115
 t53 := Tryd.underlying101
 a53 := Tryd.isAgg101
 z53 := Tryd.sizeOf101
 v53 := Tryd.zeroValue101
 t171 := Tryd.underlying100
 a171 := Tryd.isAgg100
 z171 := Tryd.sizeOf100
 v171 := Tryd.zeroValue100
 t173 := Tryd.underlying104
 a173 := Tryd.isAgg104
 z173 := Tryd.sizeOf104
 v173 := Tryd.zeroValue104
 t212 := Tryd.underlying114
 a212 := Tryd.isAgg114
 z212 := Tryd.sizeOf114
 v212 := Tryd.zeroValue114
 t213 := Tryd.underlying116
 a213 := Tryd.isAgg116
 z213 := Tryd.sizeOf116
 t232 := Tryd.underlying130
 a232 := Tryd.isAgg130
 z232 := Tryd.sizeOf130
 v232 := Tryd.zeroValue130
 t233 := Tryd.underlying131
 a233 := Tryd.isAgg131
 z233 := Tryd.sizeOf131
 v233 := Tryd.zeroValue131
 g17 := by kernel_rfl
 g18 := by kernel_rfl
 g19 := by kernel_rfl
 i0 := by kernel_rfl
 i2 := by kernel_rfl
 i3 := by kernel_rfl
 i4 := by kernel_rfl
 i5 := by kernel_rfl
 i9 := by kernel_rfl
 i20 := by kernel_rfl
 i37 := by kernel_rfl
 i46 := by kernel_rfl
 i51 := by kernel_rfl
 i53 := by kernel_rfl
 i171 := by kernel_rfl
 i173 := by kernel_rfl
 i212 := by kernel_rfl
 i232 := by kernel_rfl
 i233 := by kernel_rfl
 m17 := by kernel_rfl
 m18 := by kernel_rfl
 m19 := by kernel_rfl }
def YtmeekpinkfpnhabDoorlaysAtoi_ren : Go.Shelf.Ren := ⟨fun | 172 => 59 | 244 => 64 | 245 => 65 | 247 => 70 | 279 => 71 | 280 => 72 | 281 => 73 | 282 => 74 | 287 => 80 | 316 => 81 | 171 => 39 | 205 => 82 | 321 => 85 | 322 => 86 | 243 => 54 | 246 => 60 | 283 => 66 | 284 => 67 | 285 => 68 | 286 => 69 | 129 => 76 | 317 => 75 | 318 => 77 | 319 => 78 | 320 => 79 | 337 => 83 | 338 => 84 | n => n, fun | 9 => 9 | 3 => 3 | 75 => 76 | 76 => 77 | 4 => 4 | 5 => 5 | 167 => 106 | 37 => 71 | 0 => 0 | 85 => 107 | 2 => 2 | 168 => 109 | 53 => 101 | 175 => 119 | 46 => 117 | 210 => 123 | 127 => 93 | 145 => 129 | 143 => 127 | 21 => 21 | 171 => 100 | 173 => 104 | 212 => 114 | 51 => 115 | 20 => 20 | 213 => 116 | 232 => 130 | 233 => 131 | 80 => 79 | n => n, fun | 15 => 2 | 16 => 3 | 17 => 1 | 18 => 4 | 19 => 5 | n => n⟩
theorem YtmeekpinkfpnhabDoorlaysAtoi : Go.Proofs.Lays.n172 Tryd.prog YtmeekpinkfpnhabDoorlaysAtoi_ren := {
 mixed := by kernel_rfl
 f129 := Tryd.func76.trans (congrArg some (by kernel_rfl))
 f171 := Tryd.func39.trans (congrArg some (by kernel_rfl))
 f172 := Tryd.func59.trans (congrArg some (by kernel_rfl))
 f205 := Tryd.func82.trans (congrArg some (by kernel_rfl))
 f243 := Tryd.func54.trans (congrArg some (by kernel_rfl))
 f244 := Tryd.func64.trans (congrArg some (by kernel_rfl))
 f245 := Tryd.func65.trans (congrArg some (by kernel_rfl))
 f246 := Tryd.func60.trans (congrArg some (by kernel_rfl))
 f247 := Tryd.func70.trans (congrArg some (by kernel_rfl))
 f279 := Tryd.func71.trans (congrArg some (by kernel_rfl))
 f280 := Tryd.func72.trans (congrArg some (by kernel_rfl))
 f281 := Tryd.func73.trans (congrArg some (by kernel_rfl))
 f282 := Tryd.func74.trans (congrArg some (by kernel_rfl))
 f283 := Tryd.func66.trans (congrArg some (by kernel_rfl))
 f284 := Tryd.func67.trans (congrArg some (by kernel_rfl))
 f285 := Tryd.func68.trans (congrArg some (by kernel_rfl))
 f286 := Tryd.func69.trans (congrArg some (by kernel_rfl))
 f287 := Tryd.func80.trans (congrArg some (by kernel_rfl))
 f316 := Tryd.func81.trans (congrArg some (by kernel_rfl))
 f317 := Tryd.func75.trans (congrArg some (by kernel_rfl))
 f318 := Tryd.func77.trans (congrArg some (by kernel_rfl))
 f319 := Tryd.func78.trans (congrArg some (by kernel_rfl))
 f320 := Tryd.func79.trans (congrArg some (by kernel_rfl))
 f321 := Tryd.func85.trans (congrArg some (by kernel_rfl))
 f322 := Tryd.func86.trans (congrArg some (by kernel_rfl))
 f337 := Tryd.func83.trans (congrArg some (by kernel_rfl))
 f338 := Tryd.func84.trans (congrArg some (by kernel_rfl))
 t0 := Tryd.underlying0
 a0 := Tryd.isAgg0
 z0 := Tryd.sizeOf0
 v0 := Tryd.zeroValue0
 t2 := Tryd.underlying2
 a2 := Tryd.isAgg2
 z2 := Tryd.sizeOf2
 v2 := Tryd.zeroValue2
 t3 := Tryd.underlying3
 a3 := Tryd.isAgg3
 z3 := Tryd.sizeOf3
 v3 := Tryd.zeroValue3
 t4 := Tryd.underlying4
 a4 := Tryd.isAgg4
 z4 := Tryd.sizeOf4
 v4 := Tryd.zeroValue4
 t5 := Tryd.underlying5
 a5 := Tryd.isAgg5
 z5 := Tryd.sizeOf5
 v5 := Tryd.zeroValue5
 t9 := Tryd.underlying9
 a9 := Tryd.isAgg9
 z9 := Tryd.sizeOf9
 v9 := Tryd.zeroValue9
 t20 := Tryd.underlying20
 a20 := Tryd.isAgg20
 z20 := Tryd.sizeOf20
 v20 := Tryd.zeroValue20
 t21 := Tryd.underlying21
 a21 := Tryd.isAgg21
 z21 := Tryd.sizeOf21
 v21 := Tryd.zeroValue21
 t37 := Tryd.underlying71
 a37 := Tryd.isAgg71
 z37 := Tryd.sizeOf71
 v37 := Tryd.zeroValue71
 t46 := Tryd.underlying117
 a46 := Tryd.isAgg117
 z46 := Tryd.sizeOf117
 v46 := Tryd.zeroValue117
 t51 := Tryd.underlying115
 a51 := Tryd.isAgg115
 z51 := Tryd.sizeOf115
 v51 := Tryd.zeroValue115
 t53 := Tryd.underlying101
 a53 := Tryd.isAgg101
 z53 := Tryd.sizeOf101
 v53 := Tryd.zeroValue101
 t75 := Tryd.underlying76
 a75 := Tryd.isAgg76
 z75 := Tryd.sizeOf76
 v75 := Tryd.zeroValue76
 t76 := Tryd.underlying77
 a76 := Tryd.isAgg77
 z76 := Tryd.sizeOf77
 v76 := Tryd.zeroValue77
 t85 := Tryd.underlying107
 a85 := Tryd.isAgg107
 z85 := Tryd.sizeOf107
 v85 := Tryd.zeroValue107
 t127 := Tryd.underlying93
 a127 := Tryd.isAgg93
 z127 := Tryd.sizeOf93
 v127 := Tryd.zeroValue93
 t143 := Tryd.underlying127
 a143 := Tryd.isAgg127
 z143 := Tryd.sizeOf127
 v143 := Tryd.zeroValue127
 t145 := Tryd.underlying129
 a145 := Tryd.isAgg129
 z145 := Tryd.sizeOf129
 v145 := Tryd.zeroValue129
 t167 := Tryd.underlying106
 a167 := Tryd.isAgg106
 z167 := Tryd.sizeOf106
 v167 := Tryd.zeroValue106
 t168 := Tryd.underlying109
 a168 := Tryd.isAgg109
 z168 := Tryd.sizeOf109
 v168 := Tryd.zeroValue109
 t171 := Tryd.underlying100
 a171 := Tryd.isAgg100
 z171 := Tryd.sizeOf100
 v171 := Tryd.zeroValue100
 t173 := Tryd.underlying104
 a173 := Tryd.isAgg104
 z173 := Tryd.sizeOf104
 v173 := Tryd.zeroValue104
 t175 := Tryd.underlying119
 a175 := Tryd.isAgg119
 z175 := Tryd.sizeOf119
 v175 := Tryd.zeroValue119
 t210 := Tryd.underlying123
 a210 := Tryd.isAgg123
 z210 := Tryd.sizeOf123
 v210 := Tryd.zeroValue123
 t212 := Tryd.underlying114
 a212 := Tryd.isAgg114
 z212 := Tryd.sizeOf114
 v212 := Tryd.zeroValue114
 t213 := Tryd.underlying116
 a213 := Tryd.isAgg116
 z213 := Tryd.sizeOf116
 t232 := Tryd.underlying130
 a232 := Tryd.isAgg130
 z232 := Tryd.sizeOf130
 v232 := Tryd.zeroValue130
 t233 := Tryd.underlying131
 a233 := Tryd.isAgg131
 z233 := Tryd.sizeOf131
 v233 := Tryd.zeroValue131
 g15 := by kernel_rfl
 g16 := by kernel_rfl
 g17 := by kernel_rfl
 g18 := by kernel_rfl
 g19 := by kernel_rfl }
theorem YtmeekpinkfpnhabDoorextra : Builder.Extra Tryd.prog YtmeekpinkfpnhabDoorlaysJoin_ren := {
 sizeBuilder := by kernel_rfl
 liesBuilder := by kernel_rfl
 t5 := Tryd.underlying5
 a5 := Tryd.isAgg5
 z5 := Tryd.sizeOf5
 v5 := Tryd.zeroValue5
 infoByte := by kernel_rfl
 cellsByte := by kernel_rfl
 sizeByte := by kernel_rfl
 neB5 := by decide }
end Go.Proofs
namespace Go.Proofs.YtmeekpinkfpnhabDoor
open Go.RowKit Go.Sort Go.Shelf
abbrev sA (l : By) : AV := .d (.v (.string (bs l)))
abbrev sD (l : By) : DV := .v (.string (bs l))
@[go_sem] theorem mk_bs (l : By) : (⟨l.toArray⟩ : ByteArray) = bs l := rfl
attribute [go_sem] bs_size bs_app
@[go_sem] theorem bs_eq (a b : By) : ((bs a).toList == (bs b).toList) = (a == b) := by rw [bs_toList, bs_toList]
theorem RD.str {m : Mem} {x : Value} {s : ByteArray} (h : RD m x (.v (.string s))) : x = .string s := by cases h; rfl
theorem R.strv {m : Mem} {β : Bl} {x : Value} {s : ByteArray} (h : R m β x (.d (.v (.string s)))) : x = .string s := by cases h with | d h => exact h.str
theorem R.intv {m : Mem} {β : Bl} {x : Value} {n : Int} (h : R m β x (iA n)) : x = .int .i64 n := by cases h with | d h => exact h.int_
theorem args1 {cargs : Array Value} {az : List AV} {a : AV} (hz : az = [a]) (hsz : cargs.size = az.length) {m : Mem} {β : Bl} (h : ∀ (i : Nat) (v : Value) (a : AV), cargs[i]? = some v → az[i]? = some a → R m β v a) : ∃ v, cargs = #[v] ∧ R m β v a := by
 subst hz
 obtain ⟨l⟩ := cargs
 match l, hsz with
 | [v], _ => exact ⟨v, rfl, h 0 v a (by simp) (by simp)⟩
theorem args2 {cargs : Array Value} {az : List AV} {a b : AV} (hz : az = [a, b]) (hsz : cargs.size = az.length) {m : Mem} {β : Bl} (h : ∀ (i : Nat) (v : Value) (a : AV), cargs[i]? = some v → az[i]? = some a → R m β v a) : ∃ v u, cargs = #[v, u] ∧ R m β v a ∧ R m β u b := by
 subst hz
 obtain ⟨l⟩ := cargs
 match l, hsz with
 | [v, u], _ => exact ⟨v, u, rfl, h 0 v a (by simp) (by simp), h 1 u b (by simp) (by simp)⟩
theorem below_growth (w : World) (k : Nat) (os : Array Obj) : Ext w (Sort.grow (w.drewN k) os) := by
 refine (Ext.draws (Ext.rfl' w) k).step ⟨rfl, rfl, rfl, by simp, fun i hi => ?_⟩
 show ((w.drewN k).heap ++ os)[i]? = _
 rw [Array.getElem?_append_left hi]
theorem itoa_tri (n : Int) (h0 : 0 ≤ n) (h1 : n ≤ 9223372036854775807) : Tri Tryd.prog 39 [iA n] (pure' (sA (dig n))) := by
 intro w0 h k m β w cargs H hrd hwr hsz hargs
 obtain ⟨v, rfl, hv⟩ := args1 rfl hsz hargs
 obtain rfl := hv.intv
 have ht : Lib.TabIs Tryd.prog w "internal/strconv.uint64pow10" .u64 Lib.pow10Tab := (Lib.tabBelow_of_tabIs w0.ok.1).on H.ext |>.here
 refine (Any.strconv_Itoa YtmeekpinkfpnhabDoorlaysItoa n (by omega) h1 w ht).mono ?_
 rintro e w' ⟨rfl, q, os, rfl⟩
 refine ⟨_, m, β, rfl, .rfl' m, .rfl' β, fun _ _ h => h, H.grow (below_growth w q os), ?_⟩
 have e : Lib.itoa n = dig n := by unfold Lib.itoa; rw [if_neg (by omega)]
 rw [e]
 exact .d (.v rfl)
theorem prefix_tri (s p : ByteArray) : Tri Tryd.prog 58 [.d (.v (.string s)), .d (.v (.string p))] (pure' (bA (Lib.hasPrefix s.data.toList p.data.toList))) := by
 intro w0 h k m β w cargs H hrd hwr hsz hargs
 obtain ⟨v, u, rfl, hv, hu⟩ := args2 rfl hsz hargs
 obtain rfl := hv.strv
 obtain rfl := hu.strv
 refine (Any.strings_HasPrefix YtmeekpinkfpnhabDoorlaysPrefix s p w).mono ?_
 rintro e w' ⟨rfl, rfl⟩
 exact ⟨_, m, β, rfl, .rfl' m, .rfl' β, fun _ _ h => h, H, .d (.v rfl)⟩
theorem atoi_tri (s : ByteArray) (n : Int) (hl : s.size ≤ 18) (hn : Lib.atoi s.data.toList = some n) : Tri Tryd.prog 59 [.d (.v (.string s))] (pure' (.tup [iA n, .d (.v .nilIface)])) := by
 intro w0 h k m β w cargs H hrd hwr hsz hargs
 obtain ⟨v, rfl, hv⟩ := args1 rfl hsz hargs
 obtain rfl := hv.strv
 refine (Any.strconv_Atoi YtmeekpinkfpnhabDoorlaysAtoi s n hl hn w).mono ?_
 rintro e w' ⟨rfl, t, rfl⟩
 refine ⟨_, m, β, rfl, .rfl' m, .rfl' β, fun _ _ h => h, H.grow (Lib.bytesWorld_below w _ t), ?_⟩
 refine .tup rfl fun i v a hv ha => ?_
 match i with
 | 0 => simp at hv ha; subst hv; subst ha; exact .d (.v rfl)
 | 1 => simp at hv ha; subst hv; subst ha; exact .d (.v rfl)
 | i + 2 => simp at hv
theorem join_tri (l : List By) (sep : By) (hN : l.length ≤ 140737488355328) (hlen : (Lib.join l sep).length ≤ 140737488355328) : Tri Tryd.prog 24 [.d (.sl (l.map sD)), sA sep] (pure' (sA (Lib.join l sep))) := by
 intro w0 h k m β w cargs H hrd hwr hsz hargs
 obtain ⟨v, u, rfl, hv, hu⟩ := args2 rfl hsz hargs
 obtain rfl := hu.strv
 have hv : RD m v (.sl (l.map sD)) := by cases hv with | d h => exact h
 have hd : (l.map bs).map (·.data.toList) = l := by
  rw [List.map_map]
  exact (List.map_congr_left fun x _ => bs_list x).trans (List.map_id' l)
 rcases hv.slice_ with ⟨⟨a, rfl⟩, h0⟩ | ⟨b, o, cap, rfl, h1, h2⟩
 ·have : l = [] := by simpa using h0
  subst this
  refine (Any.strings_Join_none YtmeekpinkfpnhabDoorlaysJoin YtmeekpinkfpnhabDoorextra a 0 (bs sep) w).mono ?_
  rintro e w' ⟨rfl, rfl⟩
  exact ⟨_, m, β, rfl, .rfl' m, .rfl' β, fun _ _ h => h, H, .d (.v rfl)⟩
 ·rw [List.length_map] at h1 hv ⊢
  have hc : ∀ (j : Nat) x, (l.map bs)[j]? = some x → w.cell? ⟨b, o + j, none⟩ = some (.string x) := fun j x hj => by
   rw [List.getElem?_map, Option.map_eq_some_iff] at hj
   obtain ⟨y, hy, rfl⟩ := hj
   obtain ⟨c, hc, hr⟩ := hv.cell (sz := 1) (fun x hx => by obtain ⟨t, _, rfl⟩ := List.mem_map.1 hx; rfl) (i := j) (j := 0) (x := sD y) (d := sD y) (by rw [List.getElem?_map, hy]; rfl) rfl
   rw [hr.str] at hc
   simpa using (H.mem _ _ _ hc).1
  by_cases hl : l = []
  ·subst hl
   refine (Any.strings_Join_none YtmeekpinkfpnhabDoorlaysJoin YtmeekpinkfpnhabDoorextra _ cap (bs sep) w).mono ?_
   rintro e w' ⟨rfl, rfl⟩
   exact ⟨_, m, β, rfl, .rfl' m, .rfl' β, fun _ _ h => h, H, .d (.v rfl)⟩
  ·have hb : b < w.heap.size := by
    obtain ⟨x, l', rfl⟩ := List.exists_cons_of_ne_nil hl
    exact cell_lt (hc 0 (bs x) rfl)
   have := Any.strings_Join YtmeekpinkfpnhabDoorlaysJoin YtmeekpinkfpnhabDoorextra b o cap (l.map bs) (bs sep) w hc hb (by simpa using hN) (by simpa using h1) (by rw [hd, bs_list]; exact hlen)
   rw [hd, bs_list, List.length_map] at this
   refine this.mono ?_
   rintro e w' ⟨rfl, hw⟩
   exact ⟨_, m, β, rfl, .rfl' m, .rfl' β, fun _ _ h => h, H.grow hw, .d (.v rfl)⟩
end Go.Proofs.YtmeekpinkfpnhabDoor
namespace Go.Proofs.YtmeekpinkfpnhabDoor
open Go.ChangeShapes Go.WideShapes Go.RowKit
set_option maxRecDepth 20000 in
theorem str_arg : ArgOf Tryd.prog 9 sD (fun _ => True) (fun l => l.length + 1) := by
 intro H enc w v d ps b0 hval hd
 obtain ⟨s, _, h2, h3⟩ := argOf_string Tryd.underlying9 hval hd
 have e := bs_of s
 refine ⟨s.data.toList, trivial, ?_, ?_⟩
 ·have : (bs s.data.toList).size = s.data.toList.length := bs_size _
  rw [← e] at this
  simp only at h2 ⊢
  omega
 ·show R _ _ v (.d (.v (.string (bs s.data.toList))))
  rw [← e]; exact h3
end Go.Proofs.YtmeekpinkfpnhabDoor
namespace Go.Proofs.YtmeekpinkfpnhabDoor
open Go
theorem gTab : Tryd.prog.globalNamed "internal/strconv.uint64pow10" = some 1 := by kernel_rfl
theorem gTabType : (Tryd.prog.globals[1]?).map (·.type) = some 114 := by kernel_rfl
theorem gES : Tryd.prog.globalNamed "strconv.ErrSyntax" = some 2 := by kernel_rfl
theorem gESType : (Tryd.prog.globals[2]?).map (·.type) = some 76 := by kernel_rfl
theorem gER : Tryd.prog.globalNamed "strconv.ErrRange" = some 3 := by kernel_rfl
theorem gERType : (Tryd.prog.globals[3]?).map (·.type) = some 76 := by kernel_rfl
theorem cells101 : Tryd.prog.cellsOf 101 = 1 := by kernel_rfl
theorem cells114 : Tryd.prog.cellsOf 114 = 20 := by kernel_rfl
theorem cells129 : Tryd.prog.cellsOf 129 = 1 := by kernel_rfl
theorem cells9 : Tryd.prog.cellsOf 9 = 1 := by kernel_rfl
theorem star : "*" ++ "errors.errorString" = "*errors.errorString" := by decide
theorem row127 (u : TypeId) (h : Tryd.prog.typeName? 3 u = some "*errors.errorString") : u = 127 :=
 typeName_ptr_named (nm := "errors.errorString") (by rw [star]; kernel_rfl) (by kernel_rfl) (by decide) u (by rw [star]; exact h)
theorem gok {W : World} (h : laidMetH Tryd.prog Rows.textWritesUptoRow.laid W) : GOK W := by
 have h1 : laidMet Tryd.prog Rows.textWritesUptoRow.laid W := h
 have h2 : laidMet Tryd.prog (("internal/strconv.uint64pow10", Lib.tabData .u64 Lib.pow10Tab) :: [("strconv.ErrRange", Rows.laid_strconv_ErrRange), ("strconv.ErrSyntax", Rows.laid_strconv_ErrSyntax)]) W := h1.tail.tail
 have t := Lib.tabIs_of_head gTab gTabType Tryd.underlying114 Tryd.underlying101 cells101 cells114 h2
 obtain ⟨a1, s1, hv1, -, -, -⟩ := laid_sentinel h2.tail gER gERType Tryd.underlying76 row127 Tryd.underlying127 Tryd.underlying129 rfl rfl Tryd.underlying9 cells129 cells9
 obtain ⟨a0, s0, hv0, -, -, -⟩ := laid_sentinel h2.tail.tail gES gESType Tryd.underlying76 row127 Tryd.underlying127 Tryd.underlying129 rfl rfl Tryd.underlying9 cells129 cells9
 exact ⟨t, ⟨_, _, hv0⟩, ⟨_, _, hv1⟩⟩
end Go.Proofs.YtmeekpinkfpnhabDoor
namespace Go.Proofs.YtmeekpinkfpnhabDoor
open Go.RowKit
def DR (C : FuncId) (m : Mem) (β : Bl) (ds : List Deferred) : Option AV → Prop
 | none => ds = []
 | some A => ∃ v, ds = [{ target := .fn (.func C) #[v], args := #[] }] ∧ R m β v A
theorem DR.mono {C : FuncId} {m m' : Mem} {β β' : Bl} {ds : List Deferred} {o : Option AV} (h : DR C m β ds o) (hm : m.le m') (hb : β.le β') : DR C m' β' ds o := by
 cases o with
 | none => exact h
 | some A => obtain ⟨v, h1, h2⟩ := h; exact ⟨v, h1, h2.mono hm hb⟩
def awpT (P : Program) (w0 : GW) (n : Nat) (C : FuncId) (c : Code) (o : Option AV) (Q : Exit → St → Option AV → Prop) (s : St) : Prop :=
 ∀ (m : Mem) (β : Bl) (a : Act) (w : World), a.tmps.size = n → DR C m β a.defers o → HRel P w0 s.h s.k m β w → TRel m β s.t a.tmps →
  c.wp P (fun e a' w' => ∃ s' m' β' o', Q e s' o' ∧ a'.tmps.size = n ∧ DR C m' β' a'.defers o' ∧ s.k ≤ s'.k ∧ Goes P w0 m β s' m' β' a' w' ∧ ∀ x, x.1 < s.k → β x = none → β' x = none) a w
def thenT (next : St → Option AV → Prop) (Q : Exit → St → Option AV → Prop) : Exit → St → Option AV → Prop
 | .normal, s, o => next s o
 | e, s, o => Q e s o
section
variable {P : Program} {w0 : GW} {n : Nat} {C : FuncId} {Q : Exit → St → Option AV → Prop} {s : St} {o : Option AV}
theorem awpT_of {c : Code} (h : awp P w0 n c (fun e s' => Q e s' o) s) : awpT P w0 n C c o Q s := by
 intro m β a w h1 hd h2 h3
 refine wp_mono (h m β a w h1 h2 h3) fun e a' w' ⟨s', m', β', q, g1, g2, g3, g4, g5⟩ => ⟨s', m', β', o, q, g1, ?_, g3, g4, g5⟩
 rw [g2]; exact hd.mono g4.mem g4.bl
theorem awpT_seq {x y : Code} (h : awpT P w0 n C x o (thenT (fun s' o' => awpT P w0 n C y o' Q s') Q) s) : awpT P w0 n C (.seq x y) o Q s := by
 intro m β a w h1 hd h2 h3
 refine wp_seq (wp_mono (h m β a w h1 hd h2 h3) fun e a' w' hq => ?_)
 obtain ⟨s', m', β', o', q, g1, gd, g3, g4, g5⟩ := hq
 cases e with
 | normal =>
  refine wp_mono (q m' β' a' w' g1 gd g4.heap g4.slots) fun e a'' w'' hq => ?_
  obtain ⟨s'', m'', β'', o'', q', k1, kd, k3, k4, k5⟩ := hq
  exact ⟨s'', m'', β'', o'', q', k1, kd, by omega, ⟨g4.mem.trans k4.mem, g4.bl.trans k4.bl, k4.heap, k4.slots⟩, fun x hx h0 => k5 x (by omega) (g5 x hx h0)⟩
 | _ => exact ⟨s', m', β', o', q, g1, gd, g3, g4, g5⟩
theorem awpT_first {x y : Code} (h : awp P w0 n x (thenA (fun s' => awpT P w0 n C y o Q s') (fun e s' => Q e s' o)) s) : awpT P w0 n C (.seq x y) o Q s := by
 refine awpT_seq (awpT_of (awp_mono h fun e s' hq => ?_))
 cases e <;> exact hq
theorem awpT_defer {id : Nat} {t c : Tmp} {ty ty2 : TypeId} {p1 p2 : String} {e1 e2 : Array Edge} {ats : Array TypeId} (ht : t < n) (hc : c < n)
  (h : Q .normal ⟨set s.t t (.fn (.func C) [] [s.t c]), s.h, s.k + 1⟩ (some (s.t c))) :
  awpT P w0 n C (.region id #[⟨some t, .makeFunc (.func C) #[] #[.tmp c], ty, p1, e1, none⟩, ⟨none, .defer ⟨.value (.tmp t), #[], ats⟩, ty2, p2, e2, none⟩] false) none Q s := by
 intro m β a w h1 hd h2 h3
 have hd : a.defers = [] := hd
 refine wp_region_list ?_
 have hlt : c < a.tmps.size := by rw [h1]; exact hc
 have hv : a.tmps[c]? = some (a.tmps.getD c undef) := by
  rw [← Array.getElem_eq_getD (h := hlt)]; exact Array.getElem?_eq_getElem hlt
 have hr := h3 c _ hv
 have hE : a.eval (.tmp c) = a.tmps.getD c undef := rfl
 generalize a.tmps.getD c undef = V at *
 clear hv
 have hput : (a.put (some t) (.func (.func C) #[] #[V])).eval (.tmp t) = .func (.func C) #[] #[V] := by
  simp [Act.eval, Act.put, h1, ht]
 unfold wpList
 rw [if_pos (by simp [Region.wanted])]
 refine .inl ?_
 unfold Oper.wp
 have r1 : (execOp a.eval ⟨some t, .makeFunc (.func C) #[] #[.tmp c], ty, p1, e1, none⟩).run P w = .ok (.value (.func (.func C) #[] #[V])) w := by
  simp [execOp, hE]
  rfl
 rw [r1, Oper.upon_value]
 unfold wpList
 rw [if_pos (by simp [Region.wanted])]
 refine .inl ?_
 unfold Oper.wp
 have r2 : (execOp (a.put (some t) (.func (.func C) #[] #[V])).eval ⟨none, .defer ⟨.value (.tmp t), #[], ats⟩, ty2, p2, e2, none⟩).run P w = .ok (.defer { target := .fn (.func C) #[V], args := #[] }) w := by
  simp [execOp, resolve, hput, Deferred.ofValue]
 rw [r2, Oper.upon_defer]
 show wpList P _ _ [] _ w
 refine ⟨⟨set s.t t (.fn (.func C) [] [s.t c]), s.h, s.k + 1⟩, m, β, some (s.t c), h, ?_, ⟨_, ?_, hr⟩, Nat.le_succ _, ⟨.rfl' m, .rfl' β, h2.tick (Nat.le_succ _), ?_⟩, fun _ _ h => h⟩
 ·simp [Act.put, h1]
 ·simp [Act.put, hd]
 ·refine h3.put (a := a) (.fn (by rfl) (by rfl) (fun i v a h1 => by simp at h1) fun i v b hi hb => ?_)
  match i with
  | 0 => simp at hi hb; subst hi; subst hb; exact hr
  | i + 1 => simp at hi
end
def retT (P : Program) (fn : Func) (e : Eff) (h0 : Heap) (k : Nat) : Exit → St → Option AV → Prop
 | .ret, s, _ => RetOK P fn e h0 k s
 | .normal, s, _ => RetOK P fn e h0 k s
 | _, _, _ => False
theorem tri_enterT {P : Program} {C f : FuncId} {fn : Func} {c : Code} {args : List AV} {e : Eff} {n : Nat} (hf : P.funcs[f]? = some fn) (hb : fn.body = some c) (hnt : fn.ntmps = n) (hlen : args.length ≤ n) (hent : enterOk P C)
  (hidle : ∀ v w, CallsD P C #[v] .returning w fun e u' w' => e = .returned (.tuple #[]) ∧ u' = .returning ∧ w' = w)
  (h : ∀ (w0 : GW) (h0 : Heap) (k : Nat), (∀ x ∈ e.rd, h0 x.1 = x.2) → (∀ x ∈ e.wr, x.1.1 < k) → awpT P w0 n C c none (retT P fn e h0 k) ⟨slotsOf args, h0, k⟩) : Tri P f args e := by
 subst hnt
 intro w0 h0 k m β w cargs H hrd hwr hsz hargs
 refine calls_of_wp_defers hf hb (wp_mono (h w0 h0 k hrd (fun x hx => (hwr x hx).1) m β _ w ?_ rfl H ?_) ?_)
 ·simp; omega
 ·intro i v hi
  show R m β v (args.getD i .junk)
  by_cases hlt : i < cargs.size
  ·rw [Array.getElem?_append_left hlt] at hi
   have ha : args[i]? = some (args[i]'(by omega)) := List.getElem?_eq_getElem (by omega)
   have := hargs i v _ hi ha
   rwa [show args.getD i AV.junk = args[i]'(by omega) from by simp only [List.getD_eq_getElem?_getD, ha, Option.getD_some]]
  ·rw [show args.getD i AV.junk = .junk from by simp only [List.getD_eq_getElem?_getD, List.getElem?_eq_none (show args.length ≤ i by omega)]; rfl]
   exact .junk
 ·rintro en a' w' ⟨s', m', β', o', hq, g1, gd, g3, g4, g5⟩
  have fin : RetOK P fn e h0 k s' → ∃ v, (results fn a'.tmps).run P w' = .ok v w' ∧ ∃ v' m' β', Ending.returned v = .returned v' ∧ m.le m' ∧ β.le β' ∧ (∀ n, (∀ x ∈ e.wr, x.1 ≠ n) → β n = none → β' n = none) ∧ HRel P w0 (e.ap h0) k m' β' w' ∧ R m' β' v' e.val := by
   rintro ⟨h1, ren, h2, h3⟩
   obtain ⟨v, hv, hR⟩ := results_ok g4.heap g4.slots g1 h1
   obtain ⟨β'', k1, k2, k3, k4, k5⟩ := leave H g4.bl g5 g4.heap h3 (fun x hx => (hwr x hx).1) (fun y hy => by
    obtain ⟨_, _, q1, ⟨z, hz, hz'⟩, _⟩ := h3.2.1 y hy
    rw [← hz'] at q1 ⊢
    exact (hwr z hz).2 q1)
   exact ⟨v, hv, v, m', β'', rfl, g4.mem, k1, k2, k3, h2.R hR k4 k5⟩
  have all : RetOK P fn e h0 k s' → Leaves P fn a'.tmps (fun en w' => ∃ v m' β', en = .returned v ∧ m.le m' ∧ β.le β' ∧ (∀ n, (∀ x ∈ e.wr, x.1 ≠ n) → β n = none → β' n = none) ∧ HRel P w0 (e.ap h0) k m' β' w' ∧ R m' β' v e.val) a'.defers .returning w' := by
   intro hr
   have hfin := fin hr
   cases o' with
   | none => rw [show a'.defers = [] from gd]; exact hfin
   | some A =>
    obtain ⟨v, hd, _⟩ := gd
    rw [hd]
    refine leaves_cons (f := C) (args := #[v]) (by simp) (by simp [invoke, hent _ w']) ((hidle v w').mono ?_)
    rintro en u w'' ⟨rfl, rfl, rfl⟩
    exact hfin
  cases en with
  | normal => exact all hq
  | ret => exact all hq
  | _ => exact hq.elim
end Go.Proofs.YtmeekpinkfpnhabDoor
namespace Go.Proofs.YtmeekpinkfpnhabDoor
open Go
def hasAt (l : By) (at' : Nat) (p : By) : Bool := Lib.hasPrefix (l.drop at') p
def isDg (b : UInt8) : Bool := decide (48 ≤ b.toNat) && decide (b.toNat ≤ 57)
def dgAt (l : By) (at' : Nat) : By := (l.drop at').takeWhile isDg
def ddF : Nat → Nat → By
 | 0, _ => []
 | q + 1, n => if n < 10 then [UInt8.ofNat (48 + n)] else ddF q (n / 10) ++ [UInt8.ofNat (48 + n % 10)]
theorem ddF_eq : ∀ (q n : Nat), n < 10 ^ q → ddF (q + 1) n = Lib.decDigits n
 | 0, n, h => by rw [ddF, Lib.decDigits, dif_pos (by omega), if_pos (by omega)]
 | q + 1, n, h => by
  rw [ddF, Lib.decDigits]
  by_cases hn : n < 10
  ·rw [if_pos hn, dif_pos hn]
  ·rw [if_neg hn, dif_neg hn, ddF_eq q (n / 10) (by rw [Nat.pow_succ] at h; omega)]
def rdN (l : By) (at' : Nat) : Option (Nat × Nat) :=
 match Lib.decNat (dgAt l at') with
 | some n => if (dgAt l at').length ≤ 9 ∧ ddF 20 n = dgAt l at' then some (n, at' + (dgAt l at').length) else none
 | none => none
def rdA (R : Nat → Option (Tm × Nat)) (l : By) : Nat → Nat → List Tm → Option (List Tm × Nat)
 | 0, _, _ => none
 | q + 1, i, acc => match R i with
  | none => none
  | some (t, j) => if acc.length + 1 > 3 then none else if hasAt l j [44] then rdA R l q (j + 1) (acc ++ [t]) else if hasAt l j [41] then some (acc ++ [t], j + 1) else none
def rdT (l : By) : Nat → Nat → Option (Tm × Nat)
 | 0, _ => none
 | f + 1, i =>
  if hasAt l i [88] then (match rdN l (i + 1) with | some (n, j) => if n > 0 then some (.mk n 0 [], j) else none | none => none)
  else if hasAt l i [102] then (match rdN l (i + 1) with
   | some (n, j) => if hasAt l j [40] then (match rdA (rdT l f) l 4 (j + 1) [] with | some (us, m) => some (.mk 0 n us, m) | none => none) else some (.mk 0 n [], j)
   | none => none)
  else none
def rdL (l : By) (f i : Nat) : Option (Lt × Nat) :=
 match rdT l f i with
 | none => none
 | some (a, j) => if hasAt l j [32, 61, 32] then (match rdT l f (j + 3) with | some (b, m) => some (⟨true, a, b⟩, m) | none => none)
  else if hasAt l j [32, 33, 61, 32] then (match rdT l f (j + 4) with | some (b, m) => some (⟨false, a, b⟩, m) | none => none)
  else none
def rdC (l : By) (f : Nat) : Nat → Nat → List Lt → Option (List Lt × Nat)
 | 0, _, _ => none
 | q + 1, i, acc => match rdL l f i with
  | none => none
  | some (x, j) => if hasAt l j [32, 124, 32] then rdC l f q (j + 3) (acc ++ [x]) else some (acc ++ [x], j)
def rdK (l : By) (f q i : Nat) : Option (List Lt × Nat) := if hasAt l i [36, 102, 97, 108, 115, 101] then some ([], i + 6) else rdC l f q i []
theorem hasAt_len {l p : By} {i : Nat} (h : hasAt l i p = true) : i + p.length ≤ l.length ∨ p = [] := by
 unfold hasAt Lib.hasPrefix at h
 rw [List.isPrefixOf_iff_prefix] at h
 have := h.length_le
 rw [List.length_drop] at this
 by_cases hp : p = []
 ·exact .inr hp
 ·have : 0 < p.length := List.length_pos_iff.2 hp
  left; omega
theorem isDg_val {b : UInt8} (h : isDg b = true) : Lib.digitVal b = some (b.toNat - 48) := by
 unfold isDg at h
 simp only [Bool.and_eq_true, decide_eq_true_eq] at h
 unfold Lib.digitVal
 rw [if_pos h]
theorem takeWhile_all {α : Type} (p : α → Bool) : ∀ (x : List α) (b : α), b ∈ x.takeWhile p → p b = true
 | [], b, h => by simp at h
 | a :: x, b, h => by
  rw [List.takeWhile_cons] at h
  split at h
  ·rename_i hp
   rcases List.mem_cons.1 h with rfl | h
   ·exact hp
   ·exact takeWhile_all p x b h
  ·cases h
theorem dgAt_dg (l : By) (i : Nat) : ∀ b ∈ dgAt l i, isDg b = true := fun b hb => by
 unfold dgAt at hb
 exact takeWhile_all isDg _ b hb
theorem dgAt_pre (l : By) (i : Nat) : dgAt l i <+: l.drop i := List.takeWhile_prefix _
theorem dgAt_len (l : By) (i : Nat) : (dgAt l i).length ≤ l.length - i := by
 have := (dgAt_pre l i).length_le
 rwa [List.length_drop] at this
theorem dgAt_take (l : By) (i : Nat) : (l.drop i).take (dgAt l i).length = dgAt l i := (List.prefix_iff_eq_take.1 (dgAt_pre l i)).symm
theorem dgAt_in {l : By} {i j : Nat} (h : j < (dgAt l i).length) : ∃ b, l[i + j]? = some b ∧ isDg b = true := by
 have e : (dgAt l i)[j]? = (l.drop i)[j]? := by
  rw [← dgAt_take l i, List.getElem?_take_of_lt h]
 rw [List.getElem?_drop, List.getElem?_eq_getElem h] at e
 exact ⟨_, e.symm, dgAt_dg l i _ (List.getElem_mem h)⟩
theorem takeWhile_stop {α : Type} (p : α → Bool) : ∀ (x : List α) (b : α), x[(x.takeWhile p).length]? = some b → p b = false
 | [], b, h => by simp at h
 | a :: x, b, h => by
  rw [List.takeWhile_cons] at h
  split at h
  ·simp only [List.length_cons, List.getElem?_cons_succ] at h
   exact takeWhile_stop p x b h
  ·rename_i hn
   simp at h
   subst h
   simpa using hn
theorem dgAt_out {l : By} {i : Nat} {b : UInt8} (h : l[i + (dgAt l i).length]? = some b) : isDg b = false := by
 rw [← List.getElem?_drop] at h
 exact takeWhile_stop isDg (l.drop i) b h
theorem atoi_dg {ds : By} (h : ∀ b ∈ ds, isDg b = true) : Lib.atoi ds = (Lib.decNat ds).map fun (m : Nat) => (m : Int) := by
 cases ds with
 | nil => rfl
 | cons b r =>
  have hb := h b (by simp)
  unfold isDg at hb
  simp only [Bool.and_eq_true, decide_eq_true_eq] at hb
  rw [Lib.atoi]
  have h1 : (b == 45) = false := by rw [beq_eq_false_iff_ne]; rintro rfl; exact absurd hb.1 (by decide)
  have h2 : (b == 43) = false := by rw [beq_eq_false_iff_ne]; rintro rfl; exact absurd hb.1 (by decide)
  rw [h1, h2]; rfl
theorem pow_digits : ∀ (ds : By) (acc n : Nat), Lib.decFrom acc ds = some n → n < (acc + 1) * 10 ^ ds.length
 | [], acc, n, h => by simp [Lib.decFrom] at h; subst h; simp
 | b :: ds, acc, n, h => by
  rw [Lib.decFrom] at h
  split at h
  ·rename_i d hd
   have h1 := pow_digits ds _ n h
   have h2 : d ≤ 9 := by
    unfold Lib.digitVal at hd
    split at hd
    ·cases hd; omega
    ·cases hd
   rw [List.length_cons, Nat.pow_succ]
   have h3 : (acc * 10 + d + 1) * 10 ^ ds.length ≤ ((acc + 1) * 10) * 10 ^ ds.length := Nat.mul_le_mul_right _ (by omega)
   have h4 : ((acc + 1) * 10) * 10 ^ ds.length = (acc + 1) * (10 ^ ds.length * 10) := by rw [Nat.mul_assoc, Nat.mul_comm 10]
   omega
  ·cases h
theorem rdN_lt {l : By} {i n j : Nat} (h : rdN l i = some (n, j)) : n < 1000000000 := by
 unfold rdN at h
 split at h
 ·rename_i m hm
  split at h
  ·rename_i hc
   cases h
   unfold Lib.decNat at hm
   split at hm
   ·cases hm
   ·have h1 := pow_digits _ _ _ hm
    have h2 : 10 ^ (dgAt l i).length ≤ 10 ^ 9 := Nat.pow_le_pow_right (by omega) hc.1
    omega
  ·cases h
 ·cases h
theorem rdN_some {l : By} {i n j : Nat} (h : rdN l i = some (n, j)) : Lib.atoi (dgAt l i) = some (n : Int) ∧ (dgAt l i).length ≤ 9 ∧ Lib.decDigits n = dgAt l i ∧ j = i + (dgAt l i).length := by
 have h0 := h
 unfold rdN at h
 split at h
 ·rename_i m hm
  split at h
  ·rename_i hc
   cases h
   have hlt := rdN_lt h0
   refine ⟨?_, hc.1, ?_, rfl⟩
   rotate_left
   ·rw [← ddF_eq 19 n (by omega)]; exact hc.2
   rw [atoi_dg (dgAt_dg l i), hm]; rfl
  ·cases h
 ·cases h
theorem rdN_le {l : By} {i n j : Nat} (h : rdN l i = some (n, j)) (hi : i ≤ l.length) : i ≤ j ∧ j ≤ l.length := by
 obtain ⟨_, _, _, rfl⟩ := rdN_some h
 have := dgAt_len l i
 omega
theorem hasAt_le {l p : By} {i : Nat} (h : hasAt l i p = true) (hi : i ≤ l.length) : i + p.length ≤ l.length := by
 rcases hasAt_len h with h | rfl
 ·exact h
 ·simpa using hi
theorem rdA_le {R : Nat → Option (Tm × Nat)} {l : By} (hR : ∀ i t j, i ≤ l.length → R i = some (t, j) → i ≤ j ∧ j ≤ l.length) : ∀ (q i : Nat) (acc us : List Tm) (j : Nat), i ≤ l.length → rdA R l q i acc = some (us, j) → i ≤ j ∧ j ≤ l.length
 | 0, _, _, _, _, _, h => by cases h
 | q + 1, i, acc, us, j, hi, h => by
  rw [rdA] at h
  cases hr : R i with
  | none => rw [hr] at h; cases h
  | some p =>
   obtain ⟨t, m⟩ := p
   rw [hr] at h
   simp only at h
   obtain ⟨h1, h2⟩ := hR i t m hi hr
   split at h
   ·cases h
   ·split at h
    ·rename_i hc
     have := hasAt_le hc h2
     simp at this
     have := rdA_le hR q (m + 1) _ us j this h
     omega
    ·split at h
     ·rename_i hc
      have := hasAt_le hc h2
      simp at this
      cases h; omega
     ·cases h
theorem rdT_le (l : By) : ∀ (f i : Nat) (t : Tm) (j : Nat), i ≤ l.length → rdT l f i = some (t, j) → i ≤ j ∧ j ≤ l.length
 | 0, _, _, _, _, h => by cases h
 | f + 1, i, t, j, hi, h => by
  rw [rdT] at h
  split at h
  ·rename_i hX
   have h1 := hasAt_le hX hi
   simp at h1
   split at h
   ·rename_i n m hn
    have := rdN_le hn h1
    split at h
    ·cases h; omega
    ·cases h
   ·cases h
  ·split at h
   ·rename_i hf
    have h1 := hasAt_le hf hi
    simp at h1
    split at h
    ·rename_i n m hn
     have h2 := rdN_le hn h1
     split at h
     ·rename_i hb
      have h3 := hasAt_le hb h2.2
      simp at h3
      split at h
      ·rename_i us m' ha
       have h4 := rdA_le (rdT_le l f) 4 _ _ _ _ h3 ha
       cases h; omega
      ·cases h
     ·cases h; omega
    ·cases h
   ·cases h
end Go.Proofs.YtmeekpinkfpnhabDoor
namespace Go.Proofs.YtmeekpinkfpnhabDoor
open Go.RowKit
def rdO (l : By) (i : Nat) : Ob := .cells 86 [sA l, iA i]
theorem rdO_eq (l : By) (i : Nat) : rdO l i = .cells 86 [sA l, iA i] := rfl
theorem rdO_cl (b : Nm) (l : By) (i k : Nat) : Cl k [b] fun _ => rdO l i := fun n hn x hx => by simp [rdO, Ob.names, namesL, AV.names] at hx
abbrev rdE1 (b : Nm) (l : By) (i j : Nat) (v : AV) : Eff := stE [b] (fun _ => rdO l i) (fun _ => rdO l j) v
theorem bs_ext (l : By) (i j : Nat) : (bs l).extract i j = bs ((l.drop i).take (j - i)) := by
 have h := Lib.extract_data (bs l) i j
 rw [bs_list] at h
 rw [bs_of ((bs l).extract i j), h]
theorem bs_extE (l : By) (i : Nat) : (bs l).extract i l.length = bs (l.drop i) := by
 rw [bs_ext, List.take_of_length_le (by simp)]
theorem agRd {b : Nm} {l : By} {j k : Nat} {h : Heap} (hb : b.1 < k) (e : h b = some (.cells 86 [sA l, iA j])) : Ag k [b] (fun _ => rdO l j) h :=
 ⟨fun n hn => by simp only [List.mem_cons, List.not_mem_nil, or_false] at hn; subst hn; exact ⟨hb, e⟩⟩
theorem prefix_bs (a p : By) : Tri Tryd.prog 58 [sA a, sA p] (pure' (bA (Lib.hasPrefix a p))) := by
 have := prefix_tri (bs a) (bs p)
 rwa [bs_list, bs_list] at this
set_option maxRecDepth 20000 in
theorem need_tri (b : Nm) : Tri Tryd.prog 48 [.ptr b 0, bA true] (pure' .junk) := by
 refine tri_enter Tryd.func48 rfl Tryd.ntmps48 (by simp only [List.length_cons, List.length_nil]; omega) fun w0 h0 k hrd hwr => ?_
 repeat' (first | refine awp_seq_k fun K hK => ?_ | ((first | refine awp_region_k (by kernel_rfl) fun R hR => ?_ | refine awp_draw mixed (by kernel_rfl) (by kernel_rfl) fun R hR => ?_); simp only [go_sem]) | ((first | (refine hR _ ?_; clear hR R) | refine awp_skip ?_ | refine awp_exit ?_ | refine awp_ret ?_); try simp only [thenA, inBlockA, reduceIte, reduceCtorEq, Nat.reduceEqDiff, if_false, if_true]) | ((first | refine hK _ ?_ | (clear hK K; first | refine hK _ ?_ | (clear hK K; first | refine hK _ ?_ | (clear hK K; first | refine hK _ ?_ | (clear hK K; refine hK _ ?_))))); clear hK K) | refine awp_true rfl rfl ?_ | refine awp_false rfl rfl ?_ | refine awp_block ?_ | refine And.intro (by first | ((repeat' first | omega | exact trivial | rfl | assumption | (intro a e; subst e; rfl) | exact map_sz fun a => (by simp only [go_sem]) | refine And.intro ?_ ?_); done) | fail) ?_ | fail)
 exact (ret_pure (fn := Tryd.f48) (v := .junk) trivial .junk (by repeat (first | exact Fr.rfl' _ _ | assumption | refine Fr.updk ?_ (by omega) _))).2
set_option maxHeartbeats 1000000 in
set_option maxRecDepth 20000 in
theorem take_yes (b : Nm) (l p : By) (i : Nat) (hl : l.length ≤ 4000000) (hi : i ≤ l.length) (hpl : p.length ≤ 100) (hp : hasAt l i p = true) : Tri Tryd.prog 49 [.ptr b 0, sA p] (rdE1 b l i (i + p.length) (bA true)) := by
 refine tri_enter_st Tryd.func49 rfl Tryd.ntmps49 (by simp only [List.length_cons, List.length_nil]; omega) fun w0 h0 k hag => ?_
 obtain ⟨hb, eb⟩ := hag.get b (by simp)
 rw [rdO_eq] at eb
 have qb := nmne hb
 have hP := prefix_bs (l.drop i) p
 rw [show Lib.hasPrefix (l.drop i) p = true from hp] at hP
 have e1 : ((i : Int) + (p.length : Int)) = ((i + p.length : Nat) : Int) := by omega
 repeat' (first | refine awp_seq_k fun K hK => ?_ | ((first | refine awp_region_k (by kernel_rfl) fun R hR => ?_ | refine awp_draw mixed (by kernel_rfl) (by kernel_rfl) fun R hR => ?_); simp only [go_sem, eb, qb, bs_extE, e1, Int.toNat_natCast]) | ((first | (refine hR _ ?_; clear hR R) | refine awp_skip ?_ | refine awp_exit ?_ | refine awp_ret ?_); try simp only [thenA, inBlockA, reduceIte, reduceCtorEq, Nat.reduceEqDiff, if_false, if_true]) | ((first | refine hK _ ?_ | (clear hK K; first | refine hK _ ?_ | (clear hK K; first | refine hK _ ?_ | (clear hK K; first | refine hK _ ?_ | (clear hK K; refine hK _ ?_))))); clear hK K) | refine awp_true rfl rfl ?_ | refine awp_false rfl rfl ?_ | refine awp_block ?_ | ((first | refine CallK.pure (enter58) (hP) ?_ ?_ | refine CallD.pure (enter58) (hP) ?_ ?_); (focus first | ((repeat (first | exact trivial | refine ⟨(by first | exact Or.inl rfl | exact Or.inr rfl), ?_⟩)); done) | (simp only [coL, AV.dat, true_or, or_true, AV.d.injEq, go_sem]; done)); simp only [go_sem, eb, qb, bs_extE, e1, Int.toNat_natCast]) | refine And.intro (by first | ((repeat' first | omega | exact trivial | rfl | assumption | (intro a e; subst e; rfl) | exact map_sz fun a => (by simp only [go_sem]) | refine And.intro ?_ ?_); done) | fail) ?_ | fail)
 refine ret_st (by simp only [Tryd.results49, resOkL, resOk, Tryd.ntmps49, List.toList_toArray]; first | decide | (simp only [go_sem]; done) | (simp only [go_sem]; and_intros <;> first | omega | rfl | decide)) (by simp only [resA, resV, Tryd.results49, go_sem]; first | exact .dat rfl | exact Co.t2 (.dat rfl) (.dat rfl) | exact Co.t3 (.dat rfl) (.dat rfl) (.dat rfl)) ?_ ?_ ?_
 ·exact agRd hb (by simp only [go_sem, qb])
 ·refine FrN.updn (by repeat (first | exact FrN.rfl' _ _ _ | assumption | refine FrN.updk ?_ (by omega) _ | refine FrN.stH ?_ _)) (by simp) _
 ·exact rdO_cl _ _ _ _
set_option maxHeartbeats 1000000 in
set_option maxRecDepth 20000 in
theorem take_no (b : Nm) (l p : By) (i : Nat) (hl : l.length ≤ 4000000) (hi : i ≤ l.length) (hp : hasAt l i p = false) : Tri Tryd.prog 49 [.ptr b 0, sA p] (rdE1 b l i i (bA false)) := by
 refine tri_enter_st Tryd.func49 rfl Tryd.ntmps49 (by simp only [List.length_cons, List.length_nil]; omega) fun w0 h0 k hag => ?_
 obtain ⟨hb, eb⟩ := hag.get b (by simp)
 rw [rdO_eq] at eb
 have qb := nmne hb
 have hP := prefix_bs (l.drop i) p
 rw [show Lib.hasPrefix (l.drop i) p = false from hp] at hP
 repeat' (first | refine awp_seq_k fun K hK => ?_ | ((first | refine awp_region_k (by kernel_rfl) fun R hR => ?_ | refine awp_draw mixed (by kernel_rfl) (by kernel_rfl) fun R hR => ?_); simp only [go_sem, eb, qb, bs_extE, Int.toNat_natCast]) | ((first | (refine hR _ ?_; clear hR R) | refine awp_skip ?_ | refine awp_exit ?_ | refine awp_ret ?_); try simp only [thenA, inBlockA, reduceIte, reduceCtorEq, Nat.reduceEqDiff, if_false, if_true]) | ((first | refine hK _ ?_ | (clear hK K; first | refine hK _ ?_ | (clear hK K; first | refine hK _ ?_ | (clear hK K; first | refine hK _ ?_ | (clear hK K; refine hK _ ?_))))); clear hK K) | refine awp_true rfl rfl ?_ | refine awp_false rfl rfl ?_ | refine awp_block ?_ | ((first | refine CallK.pure (enter58) (hP) ?_ ?_ | refine CallD.pure (enter58) (hP) ?_ ?_); (focus first | ((repeat (first | exact trivial | refine ⟨(by first | exact Or.inl rfl | exact Or.inr rfl), ?_⟩)); done) | (simp only [coL, AV.dat, true_or, or_true, AV.d.injEq, go_sem]; done)); simp only [go_sem, eb, qb, bs_extE, Int.toNat_natCast]) | refine And.intro (by first | ((repeat' first | omega | exact trivial | rfl | assumption | (intro a e; subst e; rfl) | exact map_sz fun a => (by simp only [go_sem]) | refine And.intro ?_ ?_); done) | fail) ?_ | fail)
 refine ret_st (by simp only [Tryd.results49, resOkL, resOk, Tryd.ntmps49, List.toList_toArray]; first | decide | (simp only [go_sem]; done) | (simp only [go_sem]; and_intros <;> first | omega | rfl | decide)) (by simp only [resA, resV, Tryd.results49, go_sem]; first | exact .dat rfl | exact Co.t2 (.dat rfl) (.dat rfl) | exact Co.t3 (.dat rfl) (.dat rfl) (.dat rfl)) ?_ ?_ ?_
 ·exact agRd hb (by simp only [go_sem, eb, qb])
 ·exact (by repeat (first | exact FrN.rfl' _ _ _ | assumption | refine FrN.updk ?_ (by omega) _ | refine FrN.stH ?_ _))
 ·exact rdO_cl _ _ _ _
theorem byteAt_bs {l : By} {i : Nat} {c : UInt8} (h : l[i]? = some c) : byteAt (bs l) i = (c.toNat : Int) := by
 obtain ⟨hi, e⟩ := List.getElem?_eq_some_iff.1 h
 unfold byteAt
 have h1 : (bs l)[i]? = some c := by
  rw [getElem?_pos (bs l) i (by rw [bs_size]; exact hi)]
  have : (bs l)[i]'(by rw [bs_size]; exact hi) = l[i] := by
   show (bs l).data[i]'_ = l[i]
   simp [bs]
  rw [this, e]
 rw [h1]
theorem atoi_bs (ds : By) (n : Nat) (hl : ds.length ≤ 18) (hn : Lib.atoi ds = some (n : Int)) : Tri Tryd.prog 59 [sA ds] (pure' (.tup [iA n, .d (.v .nilIface)])) :=
 atoi_tri (bs ds) n (by rw [bs_size]; exact hl) (by rw [bs_list]; exact hn)
set_option maxHeartbeats 4000000 in
set_option maxRecDepth 20000 in
theorem number_tri (b : Nm) (l : By) (i n e : Nat) (hl : l.length ≤ 4000000) (hi : i ≤ l.length) (hr : rdN l i = some (n, e)) : Tri Tryd.prog 50 [.ptr b 0] (rdE1 b l i e (iA n)) := by
 obtain ⟨hat, hd9, hdg, rfl⟩ := rdN_some hr
 have hnl := rdN_lt hr
 have hdl := dgAt_len l i
 refine tri_enter_st Tryd.func50 rfl Tryd.ntmps50 (by simp only [List.length_cons, List.length_nil]; omega) fun w0 h0 k hag => ?_
 obtain ⟨hb, eb⟩ := hag.get b (by simp)
 rw [rdO_eq] at eb
 have qb := nmne hb
 generalize hnd : (dgAt l i).length = nd at *
 repeat' (first | refine awp_seq_k fun K hK => ?_ | ((first | refine awp_region_k (by kernel_rfl) fun R hR => ?_ | refine awp_draw mixed (by kernel_rfl) (by kernel_rfl) fun R hR => ?_); simp only [go_sem, eb, qb]) | ((first | (refine hR _ ?_; clear hR R) | refine awp_skip ?_ | refine awp_exit ?_ | refine awp_ret ?_); try simp only [thenA, inBlockA, reduceIte, reduceCtorEq, Nat.reduceEqDiff, if_false, if_true]) | ((first | refine hK _ ?_ | (clear hK K; first | refine hK _ ?_ | (clear hK K; first | refine hK _ ?_ | (clear hK K; first | refine hK _ ?_ | (clear hK K; refine hK _ ?_))))); clear hK K) | refine awp_true rfl rfl ?_ | refine awp_false rfl rfl ?_ | refine awp_block ?_ | refine And.intro (by first | ((repeat' first | omega | exact trivial | rfl | assumption | (intro a e; subst e; rfl) | exact map_sz fun a => (by simp only [go_sem]) | refine And.intro ?_ ?_); done) | fail) ?_ | fail)
 refine awp_loop (fun σ => ∃ j : Nat, σ.t 0 = .ptr b 0 ∧ σ.t 3 = iA i ∧ σ.h b = some (.cells 86 [sA l, iA (i + j : Nat)]) ∧ FrN k [b] h0 σ.h ∧ k < σ.k ∧ j ≤ nd) (fun σ => i + nd - (intOf' ((objCells σ.h b).getD 1 .junk)).toNat) ?_ ?_
 ·refine ⟨0, ?_⟩
  simp only [go_sem, eb, Nat.add_zero]
  and_intros; all_goals try (first | rfl | omega | assumption | ((repeat (first | exact Fr.rfl' _ _ | assumption | refine Fr.updk ?_ (by omega) _)); done))
  exact FrN.rfl' _ _ _
 ·rintro σ ⟨j, s0, s3, sh, hF, hk, hj⟩
  have qb := nmne (show b.1 < σ.k by omega)
  rcases Nat.lt_or_ge j nd with hlt | hge
  ·obtain ⟨c, hc, hdc⟩ := dgAt_in (l := l) (i := i) (j := j) (by omega)
   have hc2 := byteAt_bs hc
   unfold isDg at hdc
   simp only [Bool.and_eq_true, decide_eq_true_eq] at hdc
   have h19 : decide (((i + j : Nat) : Int) < (l.length : Int)) = true := by simp; omega
   have h30 : decide ((c.toNat : Int) ≥ 48) = true := by simp; omega
   have h42 : decide ((c.toNat : Int) ≤ 57) = true := by simp; omega
   have e1 : (((i + j : Nat) : Int) + 1) = ((i + (j + 1) : Nat) : Int) := by omega
   repeat' (first | refine awp_seq_k fun K hK => ?_ | ((first | refine awp_region_k (by kernel_rfl) fun R hR => ?_ | refine awp_draw mixed (by kernel_rfl) (by kernel_rfl) fun R hR => ?_); simp only [go_sem, s0, s3, sh, qb, hc2, h19, h30, h42, e1, Int.toNat_natCast]) | ((first | (refine hR _ ?_; clear hR R) | refine awp_skip ?_ | refine awp_exit ?_ | refine awp_ret ?_); try simp only [thenA, inBlockA, reduceIte, reduceCtorEq, Nat.reduceEqDiff, if_false, if_true]) | ((first | refine hK _ ?_ | (clear hK K; first | refine hK _ ?_ | (clear hK K; first | refine hK _ ?_ | (clear hK K; first | refine hK _ ?_ | (clear hK K; refine hK _ ?_))))); clear hK K) | refine awp_true rfl rfl ?_ | refine awp_false rfl rfl ?_ | refine awp_block ?_ | refine And.intro (by first | ((repeat' first | omega | exact trivial | rfl | assumption | (intro a e; subst e; rfl) | exact map_sz fun a => (by simp only [go_sem]) | refine And.intro ?_ ?_); done) | fail) ?_ | fail)
   refine ⟨⟨j + 1, ?_⟩, ?_⟩
   rotate_left
   ·simp only [go_sem, sh, qb, Int.toNat_natCast]; omega
   simp only [go_sem, s0, s3, sh, qb]
   and_intros; all_goals try (first | rfl | omega | assumption | ((repeat (first | exact Fr.rfl' _ _ | assumption | refine Fr.updk ?_ (by omega) _)); done))
   exact FrN.updn hF (by simp) _
  ·have hjn : j = nd := by omega
   rw [hjn] at sh
   have hA := atoi_bs (dgAt l i) n (by omega) hat
   have hI := itoa_tri (n : Int) (by omega) (by omega)
   rw [show dig (n : Int) = dgAt l i from hdg] at hI
   have hex : (bs l).extract i (i + nd) = bs (dgAt l i) := by rw [bs_ext, Nat.add_sub_cancel_left, ← hnd, dgAt_take]
   have e9 : ((i + nd : Nat) : Int) - (i : Int) = (nd : Int) := by omega
   have hd9' : decide ((nd : Int) ≤ 9) = true := by simp; omega
   rcases Nat.lt_or_ge (i + nd) l.length with hlt | hge2
   ·have hc := List.getElem?_eq_getElem hlt
    have hdc := dgAt_out (l := l) (i := i) (b := l[i + nd]) (by rw [hnd]; exact hc)
    have hc2 := byteAt_bs hc
    have h19 : decide (((i + nd : Nat) : Int) < (l.length : Int)) = true := by simp; omega
    unfold isDg at hdc
    generalize l[i + nd] = c at *
    cases h48 : decide (48 ≤ c.toNat) with
    | true =>
     have h30 : decide ((c.toNat : Int) ≥ 48) = true := by simp at h48 ⊢; omega
     have h42 : decide ((c.toNat : Int) ≤ 57) = false := by
      rw [h48] at hdc
      simp at hdc ⊢; omega
     repeat' (first | refine awp_seq_k fun K hK => ?_ | ((first | refine awp_region_k (by kernel_rfl) fun R hR => ?_ | refine awp_draw mixed (by kernel_rfl) (by kernel_rfl) fun R hR => ?_); simp only [go_sem, s0, s3, sh, qb, hc2, h19, h30, h42, hex, e9, hd9', beq_self_eq_true, Int.toNat_natCast]) | ((first | (refine hR _ ?_; clear hR R) | refine awp_skip ?_ | refine awp_exit ?_ | refine awp_ret ?_); try simp only [thenA, inBlockA, reduceIte, reduceCtorEq, Nat.reduceEqDiff, if_false, if_true]) | ((first | refine hK _ ?_ | (clear hK K; first | refine hK _ ?_ | (clear hK K; first | refine hK _ ?_ | (clear hK K; first | refine hK _ ?_ | (clear hK K; refine hK _ ?_))))); clear hK K) | refine awp_true rfl rfl ?_ | refine awp_false rfl rfl ?_ | refine awp_block ?_ | ((first | refine CallK.pure (enter59) (hA) ?_ ?_ | refine CallD.pure (enter59) (hA) ?_ ?_ | refine CallK.pure (enter39) (hI) ?_ ?_ | refine CallD.pure (enter39) (hI) ?_ ?_ | refine CallK.pure (enter48) (need_tri b) ?_ ?_ | refine CallD.pure (enter48) (need_tri b) ?_ ?_); (focus first | ((repeat (first | exact trivial | refine ⟨(by first | exact Or.inl rfl | exact Or.inr rfl), ?_⟩)); done) | (simp only [coL, AV.dat, true_or, or_true, AV.d.injEq, go_sem]; done)); simp only [go_sem, s0, s3, sh, qb, hc2, h19, h30, h42, hex, e9, hd9', beq_self_eq_true, Int.toNat_natCast]) | refine And.intro (by first | ((repeat' first | omega | exact trivial | rfl | assumption | (intro a e; subst e; rfl) | exact map_sz fun a => (by simp only [go_sem]) | refine And.intro ?_ ?_); done) | fail) ?_ | fail)
     refine ret_st (by simp only [Tryd.results50, resOkL, resOk, Tryd.ntmps50, List.toList_toArray]; first | decide | (simp only [go_sem]; done) | (simp only [go_sem]; and_intros <;> first | omega | rfl | decide)) (by simp only [resA, resV, Tryd.results50, go_sem]; first | exact .dat rfl | exact Co.t2 (.dat rfl) (.dat rfl) | exact Co.t3 (.dat rfl) (.dat rfl) (.dat rfl)) ?_ ?_ ?_
     ·exact agRd (by assumption) (by simp only [go_sem, sh, qb])
     ·exact (by repeat (first | exact FrN.rfl' _ _ _ | assumption | refine FrN.updk ?_ (by omega) _ | refine FrN.stH ?_ _))
     ·exact rdO_cl _ _ _ _
    | false =>
     have h30 : decide ((c.toNat : Int) ≥ 48) = false := by simp at h48 ⊢; omega
     repeat' (first | refine awp_seq_k fun K hK => ?_ | ((first | refine awp_region_k (by kernel_rfl) fun R hR => ?_ | refine awp_draw mixed (by kernel_rfl) (by kernel_rfl) fun R hR => ?_); simp only [go_sem, s0, s3, sh, qb, hc2, h19, h30, hex, e9, hd9', beq_self_eq_true, Int.toNat_natCast]) | ((first | (refine hR _ ?_; clear hR R) | refine awp_skip ?_ | refine awp_exit ?_ | refine awp_ret ?_); try simp only [thenA, inBlockA, reduceIte, reduceCtorEq, Nat.reduceEqDiff, if_false, if_true]) | ((first | refine hK _ ?_ | (clear hK K; first | refine hK _ ?_ | (clear hK K; first | refine hK _ ?_ | (clear hK K; first | refine hK _ ?_ | (clear hK K; refine hK _ ?_))))); clear hK K) | refine awp_true rfl rfl ?_ | refine awp_false rfl rfl ?_ | refine awp_block ?_ | ((first | refine CallK.pure (enter59) (hA) ?_ ?_ | refine CallD.pure (enter59) (hA) ?_ ?_ | refine CallK.pure (enter39) (hI) ?_ ?_ | refine CallD.pure (enter39) (hI) ?_ ?_ | refine CallK.pure (enter48) (need_tri b) ?_ ?_ | refine CallD.pure (enter48) (need_tri b) ?_ ?_); (focus first | ((repeat (first | exact trivial | refine ⟨(by first | exact Or.inl rfl | exact Or.inr rfl), ?_⟩)); done) | (simp only [coL, AV.dat, true_or, or_true, AV.d.injEq, go_sem]; done)); simp only [go_sem, s0, s3, sh, qb, hc2, h19, h30, hex, e9, hd9', beq_self_eq_true, Int.toNat_natCast]) | refine And.intro (by first | ((repeat' first | omega | exact trivial | rfl | assumption | (intro a e; subst e; rfl) | exact map_sz fun a => (by simp only [go_sem]) | refine And.intro ?_ ?_); done) | fail) ?_ | fail)
     refine ret_st (by simp only [Tryd.results50, resOkL, resOk, Tryd.ntmps50, List.toList_toArray]; first | decide | (simp only [go_sem]; done) | (simp only [go_sem]; and_intros <;> first | omega | rfl | decide)) (by simp only [resA, resV, Tryd.results50, go_sem]; first | exact .dat rfl | exact Co.t2 (.dat rfl) (.dat rfl) | exact Co.t3 (.dat rfl) (.dat rfl) (.dat rfl)) ?_ ?_ ?_
     ·exact agRd (by assumption) (by simp only [go_sem, sh, qb])
     ·exact (by repeat (first | exact FrN.rfl' _ _ _ | assumption | refine FrN.updk ?_ (by omega) _ | refine FrN.stH ?_ _))
     ·exact rdO_cl _ _ _ _
   ·have h19 : decide (((i + nd : Nat) : Int) < (l.length : Int)) = false := by simp; omega
    repeat' (first | refine awp_seq_k fun K hK => ?_ | ((first | refine awp_region_k (by kernel_rfl) fun R hR => ?_ | refine awp_draw mixed (by kernel_rfl) (by kernel_rfl) fun R hR => ?_); simp only [go_sem, s0, s3, sh, qb, h19, hex, e9, hd9', beq_self_eq_true, Int.toNat_natCast]) | ((first | (refine hR _ ?_; clear hR R) | refine awp_skip ?_ | refine awp_exit ?_ | refine awp_ret ?_); try simp only [thenA, inBlockA, reduceIte, reduceCtorEq, Nat.reduceEqDiff, if_false, if_true]) | ((first | refine hK _ ?_ | (clear hK K; first | refine hK _ ?_ | (clear hK K; first | refine hK _ ?_ | (clear hK K; first | refine hK _ ?_ | (clear hK K; refine hK _ ?_))))); clear hK K) | refine awp_true rfl rfl ?_ | refine awp_false rfl rfl ?_ | refine awp_block ?_ | ((first | refine CallK.pure (enter59) (hA) ?_ ?_ | refine CallD.pure (enter59) (hA) ?_ ?_ | refine CallK.pure (enter39) (hI) ?_ ?_ | refine CallD.pure (enter39) (hI) ?_ ?_ | refine CallK.pure (enter48) (need_tri b) ?_ ?_ | refine CallD.pure (enter48) (need_tri b) ?_ ?_); (focus first | ((repeat (first | exact trivial | refine ⟨(by first | exact Or.inl rfl | exact Or.inr rfl), ?_⟩)); done) | (simp only [coL, AV.dat, true_or, or_true, AV.d.injEq, go_sem]; done)); simp only [go_sem, s0, s3, sh, qb, h19, hex, e9, hd9', beq_self_eq_true, Int.toNat_natCast]) | refine And.intro (by first | ((repeat' first | omega | exact trivial | rfl | assumption | (intro a e; subst e; rfl) | exact map_sz fun a => (by simp only [go_sem]) | refine And.intro ?_ ?_); done) | fail) ?_ | fail)
    refine ret_st (by simp only [Tryd.results50, resOkL, resOk, Tryd.ntmps50, List.toList_toArray]; first | decide | (simp only [go_sem]; done) | (simp only [go_sem]; and_intros <;> first | omega | rfl | decide)) (by simp only [resA, resV, Tryd.results50, go_sem]; first | exact .dat rfl | exact Co.t2 (.dat rfl) (.dat rfl) | exact Co.t3 (.dat rfl) (.dat rfl) (.dat rfl)) ?_ ?_ ?_
    ·exact agRd (by assumption) (by simp only [go_sem, sh, qb])
    ·exact (by repeat (first | exact FrN.rfl' _ _ _ | assumption | refine FrN.updk ?_ (by omega) _ | refine FrN.stH ?_ _))
    ·exact rdO_cl _ _ _ _
end Go.Proofs.YtmeekpinkfpnhabDoor
