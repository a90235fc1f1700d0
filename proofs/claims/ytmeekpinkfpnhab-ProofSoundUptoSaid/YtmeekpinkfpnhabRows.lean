/-
  NARROWER THAN 'FOR EVERY INPUT', by the rows' own cells (each row's printed sentence says how): SubstApplies: loops · SubstUnifies: loops · SubstMost: loops · ProofSound: loops · OrderHolds: loops.
  DERIVED. THE GIVEN ROWS OF THIS SEAT. 5 by the template 'for every input the law returns true; each argument reads behind the call as it read before'; 0 by the template 'total and deterministic' (their statements: YtmeekpinkfpnhabTotals.lean).
  GIVEN WITH THE SEED: the statements are not yours to turn. If you find one false, say at which input.
  Laid BY PROGRAM, IN A SANDBOX (cutbox-rows.mjs): the forced cells as the released guide's own fill.sh prints them over the translation 09af1efd053b7c55… (all of the seat's roots in one cut). By AI agents, Wed Nov 11 2026. No macro, syntax, notation, axiom, sorry.
-/
import Derived.Test.YtmeekpinkfpnhabChecked
import GoSem.Claim
import GoSem.ClaimJoined
import GoSem.ClaimMapViews
import Derived.JoinedTies
import Derived.KernelRfl
namespace Go.Proofs.Ytmeekpinkfpnhab
/- THE CELL 'sum', in the pinned program and in every row, IS THE sha256 OF THE DUMP (.gsa) THAT YtmeekpinkfpnhabProg.lean LOADS. Nothing in Lean hashes anything: it is a label: what it is worth is what the hold of that sum in a sandbox is worth. -/
noncomputable def Try.pinned : Pinned := { name := "ytmeekpinkfpnhab", sum := "09af1efd053b7c5545d5fc562f43e79dd2df0d096bc4b693efa1cafb7ab19531", checked := Try.checked }
namespace Rows
def none {H : Type} : Left H := { results := [], args := [] }

/-- 'superposelaw.SubstApplies': WHATEVER THE INPUT: true; the input reads as it did. -/
def substAppliesSpec : ChangeSpec := { name := "substApplies", fn := fun _ => fun
  | [d1, d2, d3] => { results := [.lit (.bool true)], args := [d1, d2, d3] }
  | _ => none }
def substAppliesRow : OpenClaim := { program := "ytmeekpinkfpnhab", sum := "09af1efd053b7c5545d5fc562f43e79dd2df0d096bc4b693efa1cafb7ab19531", func := "superpose/superposelaw.SubstApplies", spec := "substApplies", unfollowed := true, recurses := true, loops := true, plainKeys := false, apart := false }
def SubstAppliesSaid : Prop := substAppliesRow.holds Try.pinned (OpenSpec.ofChange substAppliesSpec)

/-- ITS FALSE NEIGHBOUR: 'it returns false'. Refute it at one input. -/
def substAppliesWrong : ChangeSpec := { name := "substApplies", fn := fun _ => fun
  | [d1, d2, d3] => { results := [.lit (.bool false)], args := [d1, d2, d3] }
  | _ => none }
def SubstAppliesWrongFalsely : Prop := substAppliesRow.holds Try.pinned (OpenSpec.ofChange substAppliesWrong)

/-- 'superposelaw.SubstUnifies': WHATEVER THE INPUT: true; the input reads as it did. -/
def substUnifiesSpec : ChangeSpec := { name := "substUnifies", fn := fun _ => fun
  | [d1, d2, d3] => { results := [.lit (.bool true)], args := [d1, d2, d3] }
  | _ => none }
def substUnifiesRow : OpenClaim := { program := "ytmeekpinkfpnhab", sum := "09af1efd053b7c5545d5fc562f43e79dd2df0d096bc4b693efa1cafb7ab19531", func := "superpose/superposelaw.SubstUnifies", spec := "substUnifies", unfollowed := true, recurses := true, loops := true, plainKeys := false, apart := false }
def SubstUnifiesSaid : Prop := substUnifiesRow.holds Try.pinned (OpenSpec.ofChange substUnifiesSpec)

/-- ITS FALSE NEIGHBOUR: 'it returns false'. Refute it at one input. -/
def substUnifiesWrong : ChangeSpec := { name := "substUnifies", fn := fun _ => fun
  | [d1, d2, d3] => { results := [.lit (.bool false)], args := [d1, d2, d3] }
  | _ => none }
def SubstUnifiesWrongFalsely : Prop := substUnifiesRow.holds Try.pinned (OpenSpec.ofChange substUnifiesWrong)

/-- 'superposelaw.SubstMost': WHATEVER THE INPUT: true; the input reads as it did. -/
def substMostSpec : ChangeSpec := { name := "substMost", fn := fun _ => fun
  | [d1, d2, d3, d4] => { results := [.lit (.bool true)], args := [d1, d2, d3, d4] }
  | _ => none }
def substMostRow : OpenClaim := { program := "ytmeekpinkfpnhab", sum := "09af1efd053b7c5545d5fc562f43e79dd2df0d096bc4b693efa1cafb7ab19531", func := "superpose/superposelaw.SubstMost", spec := "substMost", unfollowed := true, recurses := true, loops := true, plainKeys := false, apart := false }
def SubstMostSaid : Prop := substMostRow.holds Try.pinned (OpenSpec.ofChange substMostSpec)

/-- ITS FALSE NEIGHBOUR: 'it returns false'. Refute it at one input. -/
def substMostWrong : ChangeSpec := { name := "substMost", fn := fun _ => fun
  | [d1, d2, d3, d4] => { results := [.lit (.bool false)], args := [d1, d2, d3, d4] }
  | _ => none }
def SubstMostWrongFalsely : Prop := substMostRow.holds Try.pinned (OpenSpec.ofChange substMostWrong)

/-- 'superposelaw.ProofSound': WHATEVER THE INPUT: true; the input reads as it did. -/
def proofSoundSpec : ChangeSpec := { name := "proofSound", fn := fun _ => fun
  | [d1, d2, d3, d4] => { results := [.lit (.bool true)], args := [d1, d2, d3, d4] }
  | _ => none }
def proofSoundRow : OpenClaim := { program := "ytmeekpinkfpnhab", sum := "09af1efd053b7c5545d5fc562f43e79dd2df0d096bc4b693efa1cafb7ab19531", func := "superpose/superposelaw.ProofSound", spec := "proofSound", unfollowed := true, recurses := true, loops := true, plainKeys := false, apart := false }
def ProofSoundSaid : Prop := proofSoundRow.holds Try.pinned (OpenSpec.ofChange proofSoundSpec)

/-- ITS FALSE NEIGHBOUR: 'it returns false'. Refute it at one input. -/
def proofSoundWrong : ChangeSpec := { name := "proofSound", fn := fun _ => fun
  | [d1, d2, d3, d4] => { results := [.lit (.bool false)], args := [d1, d2, d3, d4] }
  | _ => none }
def ProofSoundWrongFalsely : Prop := proofSoundRow.holds Try.pinned (OpenSpec.ofChange proofSoundWrong)

/-- 'superposelaw.OrderHolds': WHATEVER THE INPUT: true; the input reads as it did. -/
def orderHoldsSpec : ChangeSpec := { name := "orderHolds", fn := fun _ => fun
  | [d1, d2, d3, d4, d5] => { results := [.lit (.bool true)], args := [d1, d2, d3, d4, d5] }
  | _ => none }
def orderHoldsRow : OpenClaim := { program := "ytmeekpinkfpnhab", sum := "09af1efd053b7c5545d5fc562f43e79dd2df0d096bc4b693efa1cafb7ab19531", func := "superpose/superposelaw.OrderHolds", spec := "orderHolds", unfollowed := true, recurses := true, loops := true, plainKeys := false, apart := false }
def OrderHoldsSaid : Prop := orderHoldsRow.holds Try.pinned (OpenSpec.ofChange orderHoldsSpec)

/-- ITS FALSE NEIGHBOUR: 'it returns false'. Refute it at one input. -/
def orderHoldsWrong : ChangeSpec := { name := "orderHolds", fn := fun _ => fun
  | [d1, d2, d3, d4, d5] => { results := [.lit (.bool false)], args := [d1, d2, d3, d4, d5] }
  | _ => none }
def OrderHoldsWrongFalsely : Prop := orderHoldsRow.holds Try.pinned (OpenSpec.ofChange orderHoldsWrong)

/- THE SECOND FORM. 'bulk': how many values and letters a reading holds, each counted each time it is reached (what is shared counts as often as it is met; a slice's spare places count too). A statement '..UptoSaid' is the law's where the arguments, and the package variables that the reading takes, are together of bulk at most 1048576: NARROWER than '..Said'. Prove '..Said' where nothing that the law and all that it calls make is longer than what came in: it says more and counts as full. Else prove '..UptoSaid'. A law counts once. -/
mutual
def uptoBulk {H : Type} : DataW H → Nat
  | .lit (.string bytes) => bytes.length + 1
  | .lit _ => 1
  | .nil => 1
  | .ptr d => uptoBulk d + 1
  | .slice elems spare => uptoBulkAll elems + uptoBulkAll spare + 1
  | .agg parts => uptoBulkAll parts + 1
  | .iface _ d => uptoBulk d + 1
  | .map entries => uptoBulkEntries entries + 1
  | .held _ => 1
def uptoBulkAll {H : Type} : List (DataW H) → Nat
  | [] => 0
  | d :: r => uptoBulk d + uptoBulkAll r
def uptoBulkEntries {H : Type} : List (Lit × DataW H) → Nat
  | [] => 0
  | x :: r => uptoBulkEntry x + uptoBulkEntries r
def uptoBulkEntry {H : Type} : Lit × DataW H → Nat
  | (.string bytes, d) => bytes.length + uptoBulk d + 1
  | (_, d) => uptoBulk d + 1
 end
def uptoSmall : (H : Type) → List (DataW H) → Bool := fun _ ds => decide (uptoBulkAll ds ≤ 1048576)
def OpenSpec.upto (s : _root_.Go.ChangeSpec) : _root_.Go.OpenSpec := { _root_.Go.OpenSpec.ofChange s with cond := some uptoSmall }

/-- 'superposelaw.SubstApplies', WHERE WHAT IT READS IS OF BULK AT MOST 1048576: true; the input reads as it did. -/
def substAppliesUptoRow : OpenClaim := { program := "ytmeekpinkfpnhab", sum := "09af1efd053b7c5545d5fc562f43e79dd2df0d096bc4b693efa1cafb7ab19531", func := "superpose/superposelaw.SubstApplies", spec := "substApplies", unfollowed := true, recurses := true, loops := true, plainKeys := false, apart := false, narrowed := true }
def SubstAppliesUptoSaid : Prop := substAppliesUptoRow.holds Try.pinned (OpenSpec.upto substAppliesSpec)

/-- 'superposelaw.SubstUnifies', WHERE WHAT IT READS IS OF BULK AT MOST 1048576: true; the input reads as it did. -/
def substUnifiesUptoRow : OpenClaim := { program := "ytmeekpinkfpnhab", sum := "09af1efd053b7c5545d5fc562f43e79dd2df0d096bc4b693efa1cafb7ab19531", func := "superpose/superposelaw.SubstUnifies", spec := "substUnifies", unfollowed := true, recurses := true, loops := true, plainKeys := false, apart := false, narrowed := true }
def SubstUnifiesUptoSaid : Prop := substUnifiesUptoRow.holds Try.pinned (OpenSpec.upto substUnifiesSpec)

/-- 'superposelaw.SubstMost', WHERE WHAT IT READS IS OF BULK AT MOST 1048576: true; the input reads as it did. -/
def substMostUptoRow : OpenClaim := { program := "ytmeekpinkfpnhab", sum := "09af1efd053b7c5545d5fc562f43e79dd2df0d096bc4b693efa1cafb7ab19531", func := "superpose/superposelaw.SubstMost", spec := "substMost", unfollowed := true, recurses := true, loops := true, plainKeys := false, apart := false, narrowed := true }
def SubstMostUptoSaid : Prop := substMostUptoRow.holds Try.pinned (OpenSpec.upto substMostSpec)

/-- 'superposelaw.ProofSound', WHERE WHAT IT READS IS OF BULK AT MOST 1048576: true; the input reads as it did. -/
def proofSoundUptoRow : OpenClaim := { program := "ytmeekpinkfpnhab", sum := "09af1efd053b7c5545d5fc562f43e79dd2df0d096bc4b693efa1cafb7ab19531", func := "superpose/superposelaw.ProofSound", spec := "proofSound", unfollowed := true, recurses := true, loops := true, plainKeys := false, apart := false, narrowed := true }
def ProofSoundUptoSaid : Prop := proofSoundUptoRow.holds Try.pinned (OpenSpec.upto proofSoundSpec)

/-- 'superposelaw.OrderHolds', WHERE WHAT IT READS IS OF BULK AT MOST 1048576: true; the input reads as it did. -/
def orderHoldsUptoRow : OpenClaim := { program := "ytmeekpinkfpnhab", sum := "09af1efd053b7c5545d5fc562f43e79dd2df0d096bc4b693efa1cafb7ab19531", func := "superpose/superposelaw.OrderHolds", spec := "orderHolds", unfollowed := true, recurses := true, loops := true, plainKeys := false, apart := false, narrowed := true }
def OrderHoldsUptoSaid : Prop := orderHoldsUptoRow.holds Try.pinned (OpenSpec.upto orderHoldsSpec)

end Rows
end Go.Proofs.Ytmeekpinkfpnhab
