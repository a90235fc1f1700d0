/- InferSound: what the document says, whatever is handed in, where it is of bulk at most 1048576. -/
import Derived.Test.YtmeekpinkfpnhabGreatP14
import Derived.Test.YtmeekpinkfpnhabGreatP39
set_option linter.all false
namespace Go.Proofs.YtmeekpinkfpnhabGreat.inferSound
open Go.ChangeShapes Go.WideShapes Go.ChangeAt Go.RowKit
set_option linter.unusedVariables false
theorem own : ownKnob Tryz.prog.godebug = none := by kernel_rfl
set_option maxRecDepth 100000 in
theorem contract (H : Type) (enc : TypeId × Value → H) (W : World) (base : Nat) (args : Array Value) (ds gs : List (DataW H)) (before : List MemPlace)
  (hval : ∀ (j : Nat) t v, Tryz.f6.params[j]? = some t → args[j]? = some v → Value.okWide Tryz.prog W .any base t v)
  (hW : DataW.Whole enc Tryz.prog Tryz.f6.params.toList Rows.inferSoundSpec.vars false W args.toList ds gs before) (hk : Rows.uptoSmall H (ds ++ gs) = true) :
  Calls Tryz.prog 6 args W fun e W' => ∃ v, e = .returned v ∧ Rows.inferSoundSpec.post enc Tryz.prog Tryz.f6 false true false false W args v W' := by
 have hW' := hW
 obtain ⟨p, q, hA0, hV, rfl, hfz, hnd⟩ := hW
 have hA : DataW.TrodAll enc Tryz.prog W 0 (fun _ => true) true Tryz.f6.params.toList args.toList ds p := hA0
 have hA1 := hA
 rw [Tryz.params6] at hA1 hval
 obtain ⟨v0, vs0, d0, ds0, p0, q0, hargs, rfl, rfl, h0, r0⟩ := trodAll_cons hA1
 obtain ⟨v1, vs1, d1, ds1, p1, q1, rfl, rfl, rfl, h1, r1⟩ := trodAll_cons r0
 obtain ⟨v2, vs2, d2, ds2, p2, q2, rfl, rfl, rfl, h2, r2⟩ := trodAll_cons r1
 obtain ⟨v3, vs3, d3, ds3, p3, q3, rfl, rfl, rfl, h3, r3⟩ := trodAll_cons r2
 obtain ⟨rfl, rfl, rfl⟩ := trodAll_nil r3
 obtain rfl : args = #[v0, v1, v2, v3] := by cases args; simp_all
 obtain ⟨rfl, rfl⟩ := trodVars_none hV
 obtain ⟨a0, k0, s0, x0⟩ := sig_arg (hval 0 24 v0 rfl rfl) h0
 obtain ⟨a1, k1, s1, x1⟩ := clauses_arg (hval 1 25 v1 rfl rfl) h1
 obtain ⟨a2, k2, s2, x2⟩ := inf_arg (hval 2 40 v2 rfl rfl) h2
 obtain ⟨a3, k3, s3, x3⟩ := model_arg (hval 3 53 v3 rfl rfl) h3
 try dsimp only at s0
 try dsimp only at s1
 try dsimp only at s2
 try dsimp only at s3
 have hb := bulk hk
 simp only [List.cons_append, List.nil_append, List.append_nil, bkL] at hb
 refine ((inferSound_law a0 a1 a2 a3 k0 k1 k2 k3 (by omega)).start rfl fun i x a hx ha => ?_).mono fun e W1 ⟨he, hg⟩ => ?_
 ·match i, hx, ha with
  | 0, hx, ha => cases hx; cases ha; exact x0
  | 1, hx, ha => cases hx; cases ha; exact x1
  | 2, hx, ha => cases hx; cases ha; exact x2
  | 3, hx, ha => cases hx; cases ha; exact x3
  | i + 4, hx, ha => simp at hx
 subst he
 simp only [List.append_nil] at hW'
 refine ⟨_, rfl, post_below (pv := []) hW' hg (fun _ _ _ => (trodAll_cons_mk (shut_bool Tryz.underlying4 _) trodAll_mk0)) (fun sp hsp => args_below laid hg hA (by rw [Tryz.params6]; decide +kernel) (fun y hy => hW'.lt y (by simpa using hy)) (fun y hy => hsp y (by simpa using hy))) (fun _ _ => rfl) (by simp) (ok_one (by kernel_rfl) rfl (okWide_bool_mk Tryz.underlying4 _))⟩
set_option maxRecDepth 100000 in
theorem lifted (os : Os) (started : os.Started) (H : Type) (enc : TypeId × Value → H) (F : Stop.Interp) :
  ReturnsInHanded {} Tryz.checked os 6 .any ((Rows.OpenSpec.upto Rows.inferSoundSpec).pre6 enc Tryz.prog Tryz.f6 Rows.inferSoundUptoRow.domain false) (((Rows.OpenSpec.upto Rows.inferSoundSpec).at F).post enc Tryz.prog Tryz.f6 false true false false) := by
 refine returnsInHanded_of_cond (C := Tryz.checked) (s := Rows.OpenSpec.upto Rows.inferSoundSpec) (k := Rows.uptoSmall) rfl own started (by kernel_rfl) Tryz.func6
  (OpenSpec.witness (enc := enc) (C := Tryz.checked) (s := Rows.OpenSpec.upto Rows.inferSoundSpec) (k := Rows.uptoSmall) rfl false ⟨#[], #[.agg #[.slice none 0 0], .slice none 0 0, .agg #[.int .i64 0, .int .i64 0, .int .i64 0, .int .i64 0, .int .i64 0, .bool false, .bool false, .slice none 0 0], .agg #[.int .i64 0, .slice none 0 0]], []⟩ 8 (by kernel_rfl) (by kernel_rfl) (by kernel_rfl)
   (x := ([.agg [.nil], .nil, .agg [.lit (.int .i64 0), .lit (.int .i64 0), .lit (.int .i64 0), .lit (.int .i64 0), .lit (.int .i64 0), .lit (.bool false), .lit (.bool false), .nil], .agg [.lit (.int .i64 0), .nil]], [], [])) (by kernel_rfl) rfl (by kernel_rfl)) ?_
 intro W base args ds gs before hval hW _ hk _
 exact contract H enc W base args ds gs before hval hW hk
theorem over : Rows.inferSoundUptoRow.holds Tryz.pinned (Rows.OpenSpec.upto Rows.inferSoundSpec) :=
 OpenClaim.holds_of_cond 6 Tryz.f6 rfl rfl rfl rfl rfl rfl rfl ⟨rfl, rfl, rfl, rfl, rfl⟩ rfl rfl rfl rfl rfl (by kernel_rfl) Tryz.func6 (by kernel_rfl)
  (of_decide_eq_true (by kernel_rfl)) (by unfold Func.isWrapper; first | (rw [if_pos (by decide +kernel)]; kernel_rfl) | (rw [if_neg (by decide +kernel)]; exact ⟨rfl, rfl⟩))
  (fun os started H enc _ F => lifted os started H enc F)
theorem proved : Rows.InferSoundUptoSaid :=
 over
end Go.Proofs.YtmeekpinkfpnhabGreat.inferSound
namespace Go.Proofs.YtmeekpinkfpnhabGreat
theorem inferSound_holds : Rows.InferSoundUptoSaid := inferSound.proved
end Go.Proofs.YtmeekpinkfpnhabGreat
