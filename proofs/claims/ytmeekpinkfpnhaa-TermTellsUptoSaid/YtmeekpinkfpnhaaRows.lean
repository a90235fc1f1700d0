/-
  NARROWER THAN 'FOR EVERY INPUT', by the rows' own cells (each row's printed sentence says how): OrderTells: loops · ModelTells: loops · ClauseTells: loops · ClauseHangs: loops · RewriteSteps: loops · RewriteFalls: loops · ModelHangs: loops · TermTells: loops · TermPuts: loops · TermBack: loops.
  DERIVED. THE GIVEN ROWS OF THIS SEAT. 10 by the template 'for every input the law returns true; each argument reads behind the call as it read before'; 0 by the template 'total and deterministic' (their statements: YtmeekpinkfpnhaaTotals.lean).
  GIVEN WITH THE SEED: the statements are not yours to turn. If you find one false, say at which input.
  Laid BY PROGRAM, IN A SANDBOX (cutbox-rows.mjs): the forced cells as the released guide's own fill.sh prints them over the translation 512f80313f7d1e93… (all of the seat's roots in one cut). By AI agents, Wed Nov 11 2026. No macro, syntax, notation, axiom, sorry.
-/
import Derived.Test.YtmeekpinkfpnhaaChecked
import GoSem.Claim
import GoSem.ClaimJoined
import GoSem.ClaimMapViews
import Derived.JoinedTies
import Derived.KernelRfl
namespace Go.Proofs.Ytmeekpinkfpnhaa
/- THE CELL 'sum', in the pinned program and in every row, IS THE sha256 OF THE DUMP (.gsa) THAT YtmeekpinkfpnhaaProg.lean LOADS. Nothing in Lean hashes anything: it is a label: what it is worth is what the hold of that sum in a sandbox is worth. -/
noncomputable def Try.pinned : Pinned := { name := "ytmeekpinkfpnhaa", sum := "512f80313f7d1e93bd36d4afef47b23ccfa93b999e084c0b7e92bc7f53b9a98f", checked := Try.checked }
namespace Rows
def none {H : Type} : Left H := { results := [], args := [] }

/-- 'superposelaw.OrderTells': WHATEVER THE INPUT: true; the input reads as it did. -/
def orderTellsSpec : ChangeSpec := { name := "orderTells", fn := fun _ => fun
  | [d1, d2, d3] => { results := [.lit (.bool true)], args := [d1, d2, d3] }
  | _ => none }
def orderTellsRow : OpenClaim := { program := "ytmeekpinkfpnhaa", sum := "512f80313f7d1e93bd36d4afef47b23ccfa93b999e084c0b7e92bc7f53b9a98f", func := "superpose/superposelaw.OrderTells", spec := "orderTells", unfollowed := true, recurses := true, loops := true, plainKeys := false, apart := false }
def OrderTellsSaid : Prop := orderTellsRow.holds Try.pinned (OpenSpec.ofChange orderTellsSpec)

/-- ITS FALSE NEIGHBOUR: 'it returns false'. Refute it at one input. -/
def orderTellsWrong : ChangeSpec := { name := "orderTells", fn := fun _ => fun
  | [d1, d2, d3] => { results := [.lit (.bool false)], args := [d1, d2, d3] }
  | _ => none }
def OrderTellsWrongFalsely : Prop := orderTellsRow.holds Try.pinned (OpenSpec.ofChange orderTellsWrong)

/-- 'superposelaw.ModelTells': WHATEVER THE INPUT: true; the input reads as it did. -/
def modelTellsSpec : ChangeSpec := { name := "modelTells", fn := fun _ => fun
  | [d1, d2, d3, d4, d5] => { results := [.lit (.bool true)], args := [d1, d2, d3, d4, d5] }
  | _ => none }
def modelTellsRow : OpenClaim := { program := "ytmeekpinkfpnhaa", sum := "512f80313f7d1e93bd36d4afef47b23ccfa93b999e084c0b7e92bc7f53b9a98f", func := "superpose/superposelaw.ModelTells", spec := "modelTells", unfollowed := true, recurses := true, loops := true, plainKeys := false, apart := false }
def ModelTellsSaid : Prop := modelTellsRow.holds Try.pinned (OpenSpec.ofChange modelTellsSpec)

/-- ITS FALSE NEIGHBOUR: 'it returns false'. Refute it at one input. -/
def modelTellsWrong : ChangeSpec := { name := "modelTells", fn := fun _ => fun
  | [d1, d2, d3, d4, d5] => { results := [.lit (.bool false)], args := [d1, d2, d3, d4, d5] }
  | _ => none }
def ModelTellsWrongFalsely : Prop := modelTellsRow.holds Try.pinned (OpenSpec.ofChange modelTellsWrong)

/-- 'superposelaw.ClauseTells': WHATEVER THE INPUT: true; the input reads as it did. -/
def clauseTellsSpec : ChangeSpec := { name := "clauseTells", fn := fun _ => fun
  | [d1, d2, d3] => { results := [.lit (.bool true)], args := [d1, d2, d3] }
  | _ => none }
def clauseTellsRow : OpenClaim := { program := "ytmeekpinkfpnhaa", sum := "512f80313f7d1e93bd36d4afef47b23ccfa93b999e084c0b7e92bc7f53b9a98f", func := "superpose/superposelaw.ClauseTells", spec := "clauseTells", inPlace := ["maps.clone"], unfollowed := true, recurses := true, loops := true, plainKeys := false, apart := false }
def ClauseTellsSaid : Prop := clauseTellsRow.holds Try.pinned (OpenSpec.ofChange clauseTellsSpec)

/-- ITS FALSE NEIGHBOUR: 'it returns false'. Refute it at one input. -/
def clauseTellsWrong : ChangeSpec := { name := "clauseTells", fn := fun _ => fun
  | [d1, d2, d3] => { results := [.lit (.bool false)], args := [d1, d2, d3] }
  | _ => none }
def ClauseTellsWrongFalsely : Prop := clauseTellsRow.holds Try.pinned (OpenSpec.ofChange clauseTellsWrong)

/-- 'superposelaw.ClauseHangs': WHATEVER THE INPUT: true; the input reads as it did. -/
def clauseHangsSpec : ChangeSpec := { name := "clauseHangs", fn := fun _ => fun
  | [d1, d2, d3, d4] => { results := [.lit (.bool true)], args := [d1, d2, d3, d4] }
  | _ => none }
def clauseHangsRow : OpenClaim := { program := "ytmeekpinkfpnhaa", sum := "512f80313f7d1e93bd36d4afef47b23ccfa93b999e084c0b7e92bc7f53b9a98f", func := "superpose/superposelaw.ClauseHangs", spec := "clauseHangs", inPlace := ["maps.clone"], unfollowed := true, recurses := true, loops := true, plainKeys := false, apart := false }
def ClauseHangsSaid : Prop := clauseHangsRow.holds Try.pinned (OpenSpec.ofChange clauseHangsSpec)

/-- ITS FALSE NEIGHBOUR: 'it returns false'. Refute it at one input. -/
def clauseHangsWrong : ChangeSpec := { name := "clauseHangs", fn := fun _ => fun
  | [d1, d2, d3, d4] => { results := [.lit (.bool false)], args := [d1, d2, d3, d4] }
  | _ => none }
def ClauseHangsWrongFalsely : Prop := clauseHangsRow.holds Try.pinned (OpenSpec.ofChange clauseHangsWrong)

/-- 'superposelaw.RewriteSteps': WHATEVER THE INPUT: true; the input reads as it did. -/
def rewriteStepsSpec : ChangeSpec := { name := "rewriteSteps", fn := fun _ => fun
  | [d1, d2, d3] => { results := [.lit (.bool true)], args := [d1, d2, d3] }
  | _ => none }
def rewriteStepsRow : OpenClaim := { program := "ytmeekpinkfpnhaa", sum := "512f80313f7d1e93bd36d4afef47b23ccfa93b999e084c0b7e92bc7f53b9a98f", func := "superpose/superposelaw.RewriteSteps", spec := "rewriteSteps", unfollowed := true, recurses := true, loops := true, plainKeys := false, apart := false }
def RewriteStepsSaid : Prop := rewriteStepsRow.holds Try.pinned (OpenSpec.ofChange rewriteStepsSpec)

/-- ITS FALSE NEIGHBOUR: 'it returns false'. Refute it at one input. -/
def rewriteStepsWrong : ChangeSpec := { name := "rewriteSteps", fn := fun _ => fun
  | [d1, d2, d3] => { results := [.lit (.bool false)], args := [d1, d2, d3] }
  | _ => none }
def RewriteStepsWrongFalsely : Prop := rewriteStepsRow.holds Try.pinned (OpenSpec.ofChange rewriteStepsWrong)

/-- 'superposelaw.RewriteFalls': WHATEVER THE INPUT: true; the input reads as it did. -/
def rewriteFallsSpec : ChangeSpec := { name := "rewriteFalls", fn := fun _ => fun
  | [d1, d2, d3] => { results := [.lit (.bool true)], args := [d1, d2, d3] }
  | _ => none }
def rewriteFallsRow : OpenClaim := { program := "ytmeekpinkfpnhaa", sum := "512f80313f7d1e93bd36d4afef47b23ccfa93b999e084c0b7e92bc7f53b9a98f", func := "superpose/superposelaw.RewriteFalls", spec := "rewriteFalls", unfollowed := true, recurses := true, loops := true, plainKeys := false, apart := false }
def RewriteFallsSaid : Prop := rewriteFallsRow.holds Try.pinned (OpenSpec.ofChange rewriteFallsSpec)

/-- ITS FALSE NEIGHBOUR: 'it returns false'. Refute it at one input. -/
def rewriteFallsWrong : ChangeSpec := { name := "rewriteFalls", fn := fun _ => fun
  | [d1, d2, d3] => { results := [.lit (.bool false)], args := [d1, d2, d3] }
  | _ => none }
def RewriteFallsWrongFalsely : Prop := rewriteFallsRow.holds Try.pinned (OpenSpec.ofChange rewriteFallsWrong)

/-- 'superposelaw.ModelHangs': WHATEVER THE INPUT: true; the input reads as it did. -/
def modelHangsSpec : ChangeSpec := { name := "modelHangs", fn := fun _ => fun
  | [d1, d2, d3, d4] => { results := [.lit (.bool true)], args := [d1, d2, d3, d4] }
  | _ => none }
def modelHangsRow : OpenClaim := { program := "ytmeekpinkfpnhaa", sum := "512f80313f7d1e93bd36d4afef47b23ccfa93b999e084c0b7e92bc7f53b9a98f", func := "superpose/superposelaw.ModelHangs", spec := "modelHangs", inPlace := ["maps.clone"], unfollowed := true, recurses := true, loops := true, plainKeys := false, apart := false }
def ModelHangsSaid : Prop := modelHangsRow.holds Try.pinned (OpenSpec.ofChange modelHangsSpec)

/-- ITS FALSE NEIGHBOUR: 'it returns false'. Refute it at one input. -/
def modelHangsWrong : ChangeSpec := { name := "modelHangs", fn := fun _ => fun
  | [d1, d2, d3, d4] => { results := [.lit (.bool false)], args := [d1, d2, d3, d4] }
  | _ => none }
def ModelHangsWrongFalsely : Prop := modelHangsRow.holds Try.pinned (OpenSpec.ofChange modelHangsWrong)

/-- 'superposelaw.TermTells': WHATEVER THE INPUT: true; the input reads as it did. -/
def termTellsSpec : ChangeSpec := { name := "termTells", fn := fun _ => fun
  | [d1, d2] => { results := [.lit (.bool true)], args := [d1, d2] }
  | _ => none }
def termTellsRow : OpenClaim := { program := "ytmeekpinkfpnhaa", sum := "512f80313f7d1e93bd36d4afef47b23ccfa93b999e084c0b7e92bc7f53b9a98f", func := "superpose/superposelaw.TermTells", spec := "termTells", unfollowed := true, recurses := true, loops := true, plainKeys := false, apart := false }
def TermTellsSaid : Prop := termTellsRow.holds Try.pinned (OpenSpec.ofChange termTellsSpec)

/-- ITS FALSE NEIGHBOUR: 'it returns false'. Refute it at one input. -/
def termTellsWrong : ChangeSpec := { name := "termTells", fn := fun _ => fun
  | [d1, d2] => { results := [.lit (.bool false)], args := [d1, d2] }
  | _ => none }
def TermTellsWrongFalsely : Prop := termTellsRow.holds Try.pinned (OpenSpec.ofChange termTellsWrong)

/-- 'superposelaw.TermPuts': WHATEVER THE INPUT: true; the input reads as it did. -/
def termPutsSpec : ChangeSpec := { name := "termPuts", fn := fun _ => fun
  | [d1, d2, d3, d4] => { results := [.lit (.bool true)], args := [d1, d2, d3, d4] }
  | _ => none }
def termPutsRow : OpenClaim := { program := "ytmeekpinkfpnhaa", sum := "512f80313f7d1e93bd36d4afef47b23ccfa93b999e084c0b7e92bc7f53b9a98f", func := "superpose/superposelaw.TermPuts", spec := "termPuts", unfollowed := true, recurses := true, loops := true, plainKeys := false, apart := false }
def TermPutsSaid : Prop := termPutsRow.holds Try.pinned (OpenSpec.ofChange termPutsSpec)

/-- ITS FALSE NEIGHBOUR: 'it returns false'. Refute it at one input. -/
def termPutsWrong : ChangeSpec := { name := "termPuts", fn := fun _ => fun
  | [d1, d2, d3, d4] => { results := [.lit (.bool false)], args := [d1, d2, d3, d4] }
  | _ => none }
def TermPutsWrongFalsely : Prop := termPutsRow.holds Try.pinned (OpenSpec.ofChange termPutsWrong)

/-- 'superposelaw.TermBack': WHATEVER THE INPUT: true; the input reads as it did. -/
def termBackSpec : ChangeSpec := { name := "termBack", fn := fun _ => fun
  | [d1, d2, d3, d4] => { results := [.lit (.bool true)], args := [d1, d2, d3, d4] }
  | _ => none }
def termBackRow : OpenClaim := { program := "ytmeekpinkfpnhaa", sum := "512f80313f7d1e93bd36d4afef47b23ccfa93b999e084c0b7e92bc7f53b9a98f", func := "superpose/superposelaw.TermBack", spec := "termBack", unfollowed := true, recurses := true, loops := true, plainKeys := false, apart := false }
def TermBackSaid : Prop := termBackRow.holds Try.pinned (OpenSpec.ofChange termBackSpec)

/-- ITS FALSE NEIGHBOUR: 'it returns false'. Refute it at one input. -/
def termBackWrong : ChangeSpec := { name := "termBack", fn := fun _ => fun
  | [d1, d2, d3, d4] => { results := [.lit (.bool false)], args := [d1, d2, d3, d4] }
  | _ => none }
def TermBackWrongFalsely : Prop := termBackRow.holds Try.pinned (OpenSpec.ofChange termBackWrong)

/- THE SECOND FORM. 'bulk': how many values and letters a reading holds, each counted each time it is reached (what is shared counts as often as it is met; a slice's spare places count too). A statement '..UptoSaid' is the law's where the arguments, and the package variables that the reading takes, are together of bulk at most 1048576: NARROWER than '..Said'. Prove '..Said' where nothing that the law and all that it calls make is longer than what came in: it says more and counts as full. Else prove '..UptoSaid'. A law counts once. -/
mutual
def uptoBulk {H : Type} : DataW H → Nat
  | .lit (.string bytes) => bytes.length + 1
  | .lit _ => 1
  | .nil => 1
  | .ptr d => uptoBulk d + 1
  | .slice elems spare => uptoBulkAll elems + uptoBulkAll spare + 1
  | .agg parts => uptoBulkAll parts + 1
  | .iface _ d => uptoBulk d + 1
  | .map entries => uptoBulkEntries entries + 1
  | .held _ => 1
def uptoBulkAll {H : Type} : List (DataW H) → Nat
  | [] => 0
  | d :: r => uptoBulk d + uptoBulkAll r
def uptoBulkEntries {H : Type} : List (Lit × DataW H) → Nat
  | [] => 0
  | x :: r => uptoBulkEntry x + uptoBulkEntries r
def uptoBulkEntry {H : Type} : Lit × DataW H → Nat
  | (.string bytes, d) => bytes.length + uptoBulk d + 1
  | (_, d) => uptoBulk d + 1
 end
def uptoSmall : (H : Type) → List (DataW H) → Bool := fun _ ds => decide (uptoBulkAll ds ≤ 1048576)
def OpenSpec.upto (s : _root_.Go.ChangeSpec) : _root_.Go.OpenSpec := { _root_.Go.OpenSpec.ofChange s with cond := some uptoSmall }

/-- 'superposelaw.OrderTells', WHERE WHAT IT READS IS OF BULK AT MOST 1048576: true; the input reads as it did. -/
def orderTellsUptoRow : OpenClaim := { program := "ytmeekpinkfpnhaa", sum := "512f80313f7d1e93bd36d4afef47b23ccfa93b999e084c0b7e92bc7f53b9a98f", func := "superpose/superposelaw.OrderTells", spec := "orderTells", unfollowed := true, recurses := true, loops := true, plainKeys := false, apart := false, narrowed := true }
def OrderTellsUptoSaid : Prop := orderTellsUptoRow.holds Try.pinned (OpenSpec.upto orderTellsSpec)

/-- 'superposelaw.ModelTells', WHERE WHAT IT READS IS OF BULK AT MOST 1048576: true; the input reads as it did. -/
def modelTellsUptoRow : OpenClaim := { program := "ytmeekpinkfpnhaa", sum := "512f80313f7d1e93bd36d4afef47b23ccfa93b999e084c0b7e92bc7f53b9a98f", func := "superpose/superposelaw.ModelTells", spec := "modelTells", unfollowed := true, recurses := true, loops := true, plainKeys := false, apart := false, narrowed := true }
def ModelTellsUptoSaid : Prop := modelTellsUptoRow.holds Try.pinned (OpenSpec.upto modelTellsSpec)

/-- 'superposelaw.ClauseTells', WHERE WHAT IT READS IS OF BULK AT MOST 1048576: true; the input reads as it did. -/
def clauseTellsUptoRow : OpenClaim := { program := "ytmeekpinkfpnhaa", sum := "512f80313f7d1e93bd36d4afef47b23ccfa93b999e084c0b7e92bc7f53b9a98f", func := "superpose/superposelaw.ClauseTells", spec := "clauseTells", inPlace := ["maps.clone"], unfollowed := true, recurses := true, loops := true, plainKeys := false, apart := false, narrowed := true }
def ClauseTellsUptoSaid : Prop := clauseTellsUptoRow.holds Try.pinned (OpenSpec.upto clauseTellsSpec)

/-- 'superposelaw.ClauseHangs', WHERE WHAT IT READS IS OF BULK AT MOST 1048576: true; the input reads as it did. -/
def clauseHangsUptoRow : OpenClaim := { program := "ytmeekpinkfpnhaa", sum := "512f80313f7d1e93bd36d4afef47b23ccfa93b999e084c0b7e92bc7f53b9a98f", func := "superpose/superposelaw.ClauseHangs", spec := "clauseHangs", inPlace := ["maps.clone"], unfollowed := true, recurses := true, loops := true, plainKeys := false, apart := false, narrowed := true }
def ClauseHangsUptoSaid : Prop := clauseHangsUptoRow.holds Try.pinned (OpenSpec.upto clauseHangsSpec)

/-- 'superposelaw.RewriteSteps', WHERE WHAT IT READS IS OF BULK AT MOST 1048576: true; the input reads as it did. -/
def rewriteStepsUptoRow : OpenClaim := { program := "ytmeekpinkfpnhaa", sum := "512f80313f7d1e93bd36d4afef47b23ccfa93b999e084c0b7e92bc7f53b9a98f", func := "superpose/superposelaw.RewriteSteps", spec := "rewriteSteps", unfollowed := true, recurses := true, loops := true, plainKeys := false, apart := false, narrowed := true }
def RewriteStepsUptoSaid : Prop := rewriteStepsUptoRow.holds Try.pinned (OpenSpec.upto rewriteStepsSpec)

/-- 'superposelaw.RewriteFalls', WHERE WHAT IT READS IS OF BULK AT MOST 1048576: true; the input reads as it did. -/
def rewriteFallsUptoRow : OpenClaim := { program := "ytmeekpinkfpnhaa", sum := "512f80313f7d1e93bd36d4afef47b23ccfa93b999e084c0b7e92bc7f53b9a98f", func := "superpose/superposelaw.RewriteFalls", spec := "rewriteFalls", unfollowed := true, recurses := true, loops := true, plainKeys := false, apart := false, narrowed := true }
def RewriteFallsUptoSaid : Prop := rewriteFallsUptoRow.holds Try.pinned (OpenSpec.upto rewriteFallsSpec)

/-- 'superposelaw.ModelHangs', WHERE WHAT IT READS IS OF BULK AT MOST 1048576: true; the input reads as it did. -/
def modelHangsUptoRow : OpenClaim := { program := "ytmeekpinkfpnhaa", sum := "512f80313f7d1e93bd36d4afef47b23ccfa93b999e084c0b7e92bc7f53b9a98f", func := "superpose/superposelaw.ModelHangs", spec := "modelHangs", inPlace := ["maps.clone"], unfollowed := true, recurses := true, loops := true, plainKeys := false, apart := false, narrowed := true }
def ModelHangsUptoSaid : Prop := modelHangsUptoRow.holds Try.pinned (OpenSpec.upto modelHangsSpec)

/-- 'superposelaw.TermTells', WHERE WHAT IT READS IS OF BULK AT MOST 1048576: true; the input reads as it did. -/
def termTellsUptoRow : OpenClaim := { program := "ytmeekpinkfpnhaa", sum := "512f80313f7d1e93bd36d4afef47b23ccfa93b999e084c0b7e92bc7f53b9a98f", func := "superpose/superposelaw.TermTells", spec := "termTells", unfollowed := true, recurses := true, loops := true, plainKeys := false, apart := false, narrowed := true }
def TermTellsUptoSaid : Prop := termTellsUptoRow.holds Try.pinned (OpenSpec.upto termTellsSpec)

/-- 'superposelaw.TermPuts', WHERE WHAT IT READS IS OF BULK AT MOST 1048576: true; the input reads as it did. -/
def termPutsUptoRow : OpenClaim := { program := "ytmeekpinkfpnhaa", sum := "512f80313f7d1e93bd36d4afef47b23ccfa93b999e084c0b7e92bc7f53b9a98f", func := "superpose/superposelaw.TermPuts", spec := "termPuts", unfollowed := true, recurses := true, loops := true, plainKeys := false, apart := false, narrowed := true }
def TermPutsUptoSaid : Prop := termPutsUptoRow.holds Try.pinned (OpenSpec.upto termPutsSpec)

/-- 'superposelaw.TermBack', WHERE WHAT IT READS IS OF BULK AT MOST 1048576: true; the input reads as it did. -/
def termBackUptoRow : OpenClaim := { program := "ytmeekpinkfpnhaa", sum := "512f80313f7d1e93bd36d4afef47b23ccfa93b999e084c0b7e92bc7f53b9a98f", func := "superpose/superposelaw.TermBack", spec := "termBack", unfollowed := true, recurses := true, loops := true, plainKeys := false, apart := false, narrowed := true }
def TermBackUptoSaid : Prop := termBackUptoRow.holds Try.pinned (OpenSpec.upto termBackSpec)

end Rows
end Go.Proofs.Ytmeekpinkfpnhaa
