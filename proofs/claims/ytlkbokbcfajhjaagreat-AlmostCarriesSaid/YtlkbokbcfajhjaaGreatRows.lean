/-
  No cell of these rows narrows 'for every input' (looked for: loops, veiled, ifaces, maps, wideKeys, modest, calm, conditions, laid).
  DERIVED. THE GIVEN ROWS OF THIS SEAT. 4 by the template 'for every input the law returns true; each argument reads behind the call as it read before'; 0 by the template 'total and deterministic' (their statements: YtlkbokbcfajhjaaGreatTotals.lean).
  GIVEN WITH THE SEED: the statements are not yours to turn. If you find one false, say at which input.
  Laid BY PROGRAM, IN A SANDBOX (cutbox-rows.mjs): the forced cells as the released guide's own fill.sh prints them over the translation e20317b4035e59d0… (all of the seat's roots in one cut). By AI agents, Wed Nov 11 2026. No macro, syntax, notation, axiom, sorry.
-/
import Derived.Test.YtlkbokbcfajhjaaGreatChecked
import GoSem.Claim
import GoSem.ClaimJoined
import GoSem.ClaimMapViews
import Derived.JoinedTies
import Derived.KernelRfl
namespace Go.Proofs.YtlkbokbcfajhjaaGreat
/- THE CELL 'sum', in the pinned program and in every row, IS THE sha256 OF THE DUMP (.gsa) THAT YtlkbokbcfajhjaaGreatProg.lean LOADS. Nothing in Lean hashes anything: it is a label: what it is worth is what the hold of that sum in a sandbox is worth. -/
noncomputable def Tryz.pinned : Pinned := { name := "ytlkbokbcfajhjaagreat", sum := "e20317b4035e59d04caa0078a2373042332772a17202c014e1bf3f3085ed07e8", checked := Tryz.checked }
namespace Rows
def none {H : Type} : Left H := { results := [], args := [] }

/-- 'sphenoidlaw20.AlmostCarries': WHATEVER THE INPUT: true; the input reads as it did. -/
def almostCarriesSpec : ChangeSpec := { name := "almostCarries", fn := fun _ => fun
  | [d1, d2, d3, d4] => { results := [.lit (.bool true)], args := [d1, d2, d3, d4] }
  | _ => none }
def almostCarriesRow : OpenClaim := { program := "ytlkbokbcfajhjaagreat", sum := "e20317b4035e59d04caa0078a2373042332772a17202c014e1bf3f3085ed07e8", func := "sphenoid/sphenoidlaw20.AlmostCarries", spec := "almostCarries", unfollowed := true, recurses := true, plainKeys := false, apart := false }
def AlmostCarriesSaid : Prop := almostCarriesRow.holds Tryz.pinned (OpenSpec.ofChange almostCarriesSpec)

/-- ITS FALSE NEIGHBOUR: 'it returns false'. Refute it at one input. -/
def almostCarriesWrong : ChangeSpec := { name := "almostCarries", fn := fun _ => fun
  | [d1, d2, d3, d4] => { results := [.lit (.bool false)], args := [d1, d2, d3, d4] }
  | _ => none }
def AlmostCarriesWrongFalsely : Prop := almostCarriesRow.holds Tryz.pinned (OpenSpec.ofChange almostCarriesWrong)

/-- 'sphenoidlaw14.VertexFills': WHATEVER THE INPUT: true; the input reads as it did. -/
def vertexFillsSpec : ChangeSpec := { name := "vertexFills", fn := fun _ => fun
  | [d1, d2, d3] => { results := [.lit (.bool true)], args := [d1, d2, d3] }
  | _ => none }
def vertexFillsRow : OpenClaim := { program := "ytlkbokbcfajhjaagreat", sum := "e20317b4035e59d04caa0078a2373042332772a17202c014e1bf3f3085ed07e8", func := "sphenoid/sphenoidlaw14.VertexFills", spec := "vertexFills", unfollowed := true, recurses := true, plainKeys := false, apart := false }
def VertexFillsSaid : Prop := vertexFillsRow.holds Tryz.pinned (OpenSpec.ofChange vertexFillsSpec)

/-- ITS FALSE NEIGHBOUR: 'it returns false'. Refute it at one input. -/
def vertexFillsWrong : ChangeSpec := { name := "vertexFills", fn := fun _ => fun
  | [d1, d2, d3] => { results := [.lit (.bool false)], args := [d1, d2, d3] }
  | _ => none }
def VertexFillsWrongFalsely : Prop := vertexFillsRow.holds Tryz.pinned (OpenSpec.ofChange vertexFillsWrong)

/-- 'sphenoidlaw14.VertexProofs': WHATEVER THE INPUT: true; the input reads as it did. -/
def vertexProofsSpec : ChangeSpec := { name := "vertexProofs", fn := fun _ => fun
  | [d1, d2] => { results := [.lit (.bool true)], args := [d1, d2] }
  | _ => none }
def vertexProofsRow : OpenClaim := { program := "ytlkbokbcfajhjaagreat", sum := "e20317b4035e59d04caa0078a2373042332772a17202c014e1bf3f3085ed07e8", func := "sphenoid/sphenoidlaw14.VertexProofs", spec := "vertexProofs", unfollowed := true, recurses := true, plainKeys := false, apart := false }
def VertexProofsSaid : Prop := vertexProofsRow.holds Tryz.pinned (OpenSpec.ofChange vertexProofsSpec)

/-- ITS FALSE NEIGHBOUR: 'it returns false'. Refute it at one input. -/
def vertexProofsWrong : ChangeSpec := { name := "vertexProofs", fn := fun _ => fun
  | [d1, d2] => { results := [.lit (.bool false)], args := [d1, d2] }
  | _ => none }
def VertexProofsWrongFalsely : Prop := vertexProofsRow.holds Tryz.pinned (OpenSpec.ofChange vertexProofsWrong)

/-- 'sphenoidlaw14.VertexStays': WHATEVER THE INPUT: true; the input reads as it did. -/
def vertexStaysSpec : ChangeSpec := { name := "vertexStays", fn := fun _ => fun
  | [d1, d2, d3] => { results := [.lit (.bool true)], args := [d1, d2, d3] }
  | _ => none }
def vertexStaysRow : OpenClaim := { program := "ytlkbokbcfajhjaagreat", sum := "e20317b4035e59d04caa0078a2373042332772a17202c014e1bf3f3085ed07e8", func := "sphenoid/sphenoidlaw14.VertexStays", spec := "vertexStays", unfollowed := true, recurses := true, plainKeys := false, apart := false }
def VertexStaysSaid : Prop := vertexStaysRow.holds Tryz.pinned (OpenSpec.ofChange vertexStaysSpec)

/-- ITS FALSE NEIGHBOUR: 'it returns false'. Refute it at one input. -/
def vertexStaysWrong : ChangeSpec := { name := "vertexStays", fn := fun _ => fun
  | [d1, d2, d3] => { results := [.lit (.bool false)], args := [d1, d2, d3] }
  | _ => none }
def VertexStaysWrongFalsely : Prop := vertexStaysRow.holds Tryz.pinned (OpenSpec.ofChange vertexStaysWrong)

/- THE SECOND FORM. 'bulk': how many values and letters a reading holds, each counted each time it is reached (what is shared counts as often as it is met; a slice's spare places count too). A statement '..UptoSaid' is the law's where the arguments, and the package variables that the reading takes, are together of bulk at most 1048576: NARROWER than '..Said'. Prove '..Said' where nothing that the law and all that it calls make is longer than what came in: it says more and counts as full. Else prove '..UptoSaid'. A law counts once. -/
mutual
def uptoBulk {H : Type} : DataW H → Nat
  | .lit (.string bytes) => bytes.length + 1
  | .lit _ => 1
  | .nil => 1
  | .ptr d => uptoBulk d + 1
  | .slice elems spare => uptoBulkAll elems + uptoBulkAll spare + 1
  | .agg parts => uptoBulkAll parts + 1
  | .iface _ d => uptoBulk d + 1
  | .map entries => uptoBulkEntries entries + 1
  | .held _ => 1
def uptoBulkAll {H : Type} : List (DataW H) → Nat
  | [] => 0
  | d :: r => uptoBulk d + uptoBulkAll r
def uptoBulkEntries {H : Type} : List (Lit × DataW H) → Nat
  | [] => 0
  | x :: r => uptoBulkEntry x + uptoBulkEntries r
def uptoBulkEntry {H : Type} : Lit × DataW H → Nat
  | (.string bytes, d) => bytes.length + uptoBulk d + 1
  | (_, d) => uptoBulk d + 1
 end
def uptoSmall : (H : Type) → List (DataW H) → Bool := fun _ ds => decide (uptoBulkAll ds ≤ 1048576)
def OpenSpec.upto (s : _root_.Go.ChangeSpec) : _root_.Go.OpenSpec := { _root_.Go.OpenSpec.ofChange s with cond := some uptoSmall }

/-- 'sphenoidlaw20.AlmostCarries', WHERE WHAT IT READS IS OF BULK AT MOST 1048576: true; the input reads as it did. -/
def almostCarriesUptoRow : OpenClaim := { program := "ytlkbokbcfajhjaagreat", sum := "e20317b4035e59d04caa0078a2373042332772a17202c014e1bf3f3085ed07e8", func := "sphenoid/sphenoidlaw20.AlmostCarries", spec := "almostCarries", unfollowed := true, recurses := true, plainKeys := false, apart := false, narrowed := true }
def AlmostCarriesUptoSaid : Prop := almostCarriesUptoRow.holds Tryz.pinned (OpenSpec.upto almostCarriesSpec)

/-- 'sphenoidlaw14.VertexFills', WHERE WHAT IT READS IS OF BULK AT MOST 1048576: true; the input reads as it did. -/
def vertexFillsUptoRow : OpenClaim := { program := "ytlkbokbcfajhjaagreat", sum := "e20317b4035e59d04caa0078a2373042332772a17202c014e1bf3f3085ed07e8", func := "sphenoid/sphenoidlaw14.VertexFills", spec := "vertexFills", unfollowed := true, recurses := true, plainKeys := false, apart := false, narrowed := true }
def VertexFillsUptoSaid : Prop := vertexFillsUptoRow.holds Tryz.pinned (OpenSpec.upto vertexFillsSpec)

/-- 'sphenoidlaw14.VertexProofs', WHERE WHAT IT READS IS OF BULK AT MOST 1048576: true; the input reads as it did. -/
def vertexProofsUptoRow : OpenClaim := { program := "ytlkbokbcfajhjaagreat", sum := "e20317b4035e59d04caa0078a2373042332772a17202c014e1bf3f3085ed07e8", func := "sphenoid/sphenoidlaw14.VertexProofs", spec := "vertexProofs", unfollowed := true, recurses := true, plainKeys := false, apart := false, narrowed := true }
def VertexProofsUptoSaid : Prop := vertexProofsUptoRow.holds Tryz.pinned (OpenSpec.upto vertexProofsSpec)

/-- 'sphenoidlaw14.VertexStays', WHERE WHAT IT READS IS OF BULK AT MOST 1048576: true; the input reads as it did. -/
def vertexStaysUptoRow : OpenClaim := { program := "ytlkbokbcfajhjaagreat", sum := "e20317b4035e59d04caa0078a2373042332772a17202c014e1bf3f3085ed07e8", func := "sphenoid/sphenoidlaw14.VertexStays", spec := "vertexStays", unfollowed := true, recurses := true, plainKeys := false, apart := false, narrowed := true }
def VertexStaysUptoSaid : Prop := vertexStaysUptoRow.holds Tryz.pinned (OpenSpec.upto vertexStaysSpec)

end Rows
end Go.Proofs.YtlkbokbcfajhjaaGreat
