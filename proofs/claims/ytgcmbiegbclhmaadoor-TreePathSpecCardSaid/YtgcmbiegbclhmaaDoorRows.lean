/-
  NARROWER THAN 'FOR EVERY INPUT', by the rows' own cells (each row's printed sentence says how): TreeRootSpec: laid · TreePathSpec: laid · TreeBinds: laid · TreeParts: laid · TreeLimits: laid · TreeLeafSpec: laid · TreeClimbs: laid · TreeHidden: laid.
  DERIVED. THE GIVEN ROWS OF THIS SEAT. 8 by the template 'for every input the law returns true; each argument reads behind the call as it read before'; 0 by the template 'total and deterministic' (their statements: YtgcmbiegbclhmaaDoorTotals.lean).
  GIVEN WITH THE SEED: the statements are not yours to turn. If you find one false, say at which input.
  Laid BY PROGRAM, IN A SANDBOX (cutbox-rows.mjs): the forced cells as the released guide's own fill.sh prints them over the translation 24ae5c77662e73f8… (all of the seat's roots in one cut). By AI agents, Wed Nov 11 2026. No macro, syntax, notation, axiom, sorry.
-/
import Derived.Test.YtgcmbiegbclhmaaDoorChecked
import GoSem.Claim
import GoSem.ClaimJoined
import GoSem.ClaimMapViews
import Derived.JoinedTies
import Derived.KernelRfl
namespace Go.Proofs.YtgcmbiegbclhmaaDoor
/- THE CELL 'sum', in the pinned program and in every row, IS THE sha256 OF THE DUMP (.gsa) THAT YtgcmbiegbclhmaaDoorProg.lean LOADS. Nothing in Lean hashes anything: it is a label: what it is worth is what the hold of that sum in a sandbox is worth. -/
noncomputable def Tryd.pinned : Pinned := { name := "ytgcmbiegbclhmaadoor", sum := "24ae5c77662e73f8bb896a61bcd57a50aeae1f4943e019755ad7ad09d899d388", checked := Tryd.checked }
namespace Rows
def none {H : Type} : Left H := { results := [], args := [] }

/- WHAT THE LISTED PACKAGE-LEVEL VARIABLES READ AS WHEN THE CALL BEGINS. Each datum BY PROGRAM (the guide's laid-datum.mjs) off the statement by which the dump's own 'gosem.cut.vars' lays the variable. In a bare row this is a premise. The card (YtgcmbiegbclhmaaDoorCards.lean) ties it to the program's text. -/
def laid_sizar_digest_start {H : Type} : DataW H := .agg [.lit (.int .u32 1779033703), .lit (.int .u32 3144134277), .lit (.int .u32 1013904242), .lit (.int .u32 2773480762), .lit (.int .u32 1359893119), .lit (.int .u32 2600822924), .lit (.int .u32 528734635), .lit (.int .u32 1541459225)]
def laid_sizar_digest_numbers {H : Type} : DataW H := .agg [.lit (.int .u32 1116352408), .lit (.int .u32 1899447441), .lit (.int .u32 3049323471), .lit (.int .u32 3921009573), .lit (.int .u32 961987163), .lit (.int .u32 1508970993), .lit (.int .u32 2453635748), .lit (.int .u32 2870763221), .lit (.int .u32 3624381080), .lit (.int .u32 310598401), .lit (.int .u32 607225278), .lit (.int .u32 1426881987), .lit (.int .u32 1925078388), .lit (.int .u32 2162078206), .lit (.int .u32 2614888103), .lit (.int .u32 3248222580), .lit (.int .u32 3835390401), .lit (.int .u32 4022224774), .lit (.int .u32 264347078), .lit (.int .u32 604807628), .lit (.int .u32 770255983), .lit (.int .u32 1249150122), .lit (.int .u32 1555081692), .lit (.int .u32 1996064986), .lit (.int .u32 2554220882), .lit (.int .u32 2821834349), .lit (.int .u32 2952996808), .lit (.int .u32 3210313671), .lit (.int .u32 3336571891), .lit (.int .u32 3584528711), .lit (.int .u32 113926993), .lit (.int .u32 338241895), .lit (.int .u32 666307205), .lit (.int .u32 773529912), .lit (.int .u32 1294757372), .lit (.int .u32 1396182291), .lit (.int .u32 1695183700), .lit (.int .u32 1986661051), .lit (.int .u32 2177026350), .lit (.int .u32 2456956037), .lit (.int .u32 2730485921), .lit (.int .u32 2820302411), .lit (.int .u32 3259730800), .lit (.int .u32 3345764771), .lit (.int .u32 3516065817), .lit (.int .u32 3600352804), .lit (.int .u32 4094571909), .lit (.int .u32 275423344), .lit (.int .u32 430227734), .lit (.int .u32 506948616), .lit (.int .u32 659060556), .lit (.int .u32 883997877), .lit (.int .u32 958139571), .lit (.int .u32 1322822218), .lit (.int .u32 1537002063), .lit (.int .u32 1747873779), .lit (.int .u32 1955562222), .lit (.int .u32 2024104815), .lit (.int .u32 2227730452), .lit (.int .u32 2361852424), .lit (.int .u32 2428436474), .lit (.int .u32 2756734187), .lit (.int .u32 3204031479), .lit (.int .u32 3329325298)]

/-- 'sizarlaw41.TreeRootSpec': WHATEVER THE INPUT: true; the input reads as it did. -/
def treeRootSpecSpec : ChangeSpec := { name := "treeRootSpec", fn := fun _ => fun
  | [d1, d2, d3] => { results := [.lit (.bool true)], args := [d1, d2, d3] }
  | _ => none }
def treeRootSpecRow : OpenClaim := { program := "ytgcmbiegbclhmaadoor", sum := "24ae5c77662e73f8bb896a61bcd57a50aeae1f4943e019755ad7ad09d899d388", func := "sizar/sizarlaw41.TreeRootSpec", spec := "treeRootSpec", unfollowed := true, recurses := true, named := ["sizar/digest.start", "sizar/digest.numbers"], apart := false, laid := [("sizar/digest.start", laid_sizar_digest_start), ("sizar/digest.numbers", laid_sizar_digest_numbers)] }
def TreeRootSpecSaid : Prop := treeRootSpecRow.holds Tryd.pinned (OpenSpec.ofChange treeRootSpecSpec)

/-- ITS FALSE NEIGHBOUR: 'it returns false'. Refute it at one input. -/
def treeRootSpecWrong : ChangeSpec := { name := "treeRootSpec", fn := fun _ => fun
  | [d1, d2, d3] => { results := [.lit (.bool false)], args := [d1, d2, d3] }
  | _ => none }
def TreeRootSpecWrongFalsely : Prop := treeRootSpecRow.holds Tryd.pinned (OpenSpec.ofChange treeRootSpecWrong)

/-- 'sizarlaw41.TreePathSpec': WHATEVER THE INPUT: true; the input reads as it did. -/
def treePathSpecSpec : ChangeSpec := { name := "treePathSpec", fn := fun _ => fun
  | [d1, d2, d3, d4, d5] => { results := [.lit (.bool true)], args := [d1, d2, d3, d4, d5] }
  | _ => none }
def treePathSpecRow : OpenClaim := { program := "ytgcmbiegbclhmaadoor", sum := "24ae5c77662e73f8bb896a61bcd57a50aeae1f4943e019755ad7ad09d899d388", func := "sizar/sizarlaw41.TreePathSpec", spec := "treePathSpec", unfollowed := true, recurses := true, named := ["sizar/digest.start", "sizar/digest.numbers"], apart := false, laid := [("sizar/digest.start", laid_sizar_digest_start), ("sizar/digest.numbers", laid_sizar_digest_numbers)] }
def TreePathSpecSaid : Prop := treePathSpecRow.holds Tryd.pinned (OpenSpec.ofChange treePathSpecSpec)

/-- ITS FALSE NEIGHBOUR: 'it returns false'. Refute it at one input. -/
def treePathSpecWrong : ChangeSpec := { name := "treePathSpec", fn := fun _ => fun
  | [d1, d2, d3, d4, d5] => { results := [.lit (.bool false)], args := [d1, d2, d3, d4, d5] }
  | _ => none }
def TreePathSpecWrongFalsely : Prop := treePathSpecRow.holds Tryd.pinned (OpenSpec.ofChange treePathSpecWrong)

/-- 'sizarlaw41.TreeBinds': WHATEVER THE INPUT: true; the input reads as it did. -/
def treeBindsSpec : ChangeSpec := { name := "treeBinds", fn := fun _ => fun
  | [d1, d2, d3, d4, d5, d6] => { results := [.lit (.bool true)], args := [d1, d2, d3, d4, d5, d6] }
  | _ => none }
def treeBindsRow : OpenClaim := { program := "ytgcmbiegbclhmaadoor", sum := "24ae5c77662e73f8bb896a61bcd57a50aeae1f4943e019755ad7ad09d899d388", func := "sizar/sizarlaw41.TreeBinds", spec := "treeBinds", unfollowed := true, recurses := true, named := ["sizar/digest.start", "sizar/digest.numbers"], apart := false, laid := [("sizar/digest.start", laid_sizar_digest_start), ("sizar/digest.numbers", laid_sizar_digest_numbers)] }
def TreeBindsSaid : Prop := treeBindsRow.holds Tryd.pinned (OpenSpec.ofChange treeBindsSpec)

/-- ITS FALSE NEIGHBOUR: 'it returns false'. Refute it at one input. -/
def treeBindsWrong : ChangeSpec := { name := "treeBinds", fn := fun _ => fun
  | [d1, d2, d3, d4, d5, d6] => { results := [.lit (.bool false)], args := [d1, d2, d3, d4, d5, d6] }
  | _ => none }
def TreeBindsWrongFalsely : Prop := treeBindsRow.holds Tryd.pinned (OpenSpec.ofChange treeBindsWrong)

/-- 'sizarlaw41.TreeParts': WHATEVER THE INPUT: true; the input reads as it did. -/
def treePartsSpec : ChangeSpec := { name := "treeParts", fn := fun _ => fun
  | [d] => { results := [.lit (.bool true)], args := [d] }
  | _ => none }
def treePartsRow : OpenClaim := { program := "ytgcmbiegbclhmaadoor", sum := "24ae5c77662e73f8bb896a61bcd57a50aeae1f4943e019755ad7ad09d899d388", func := "sizar/sizarlaw41.TreeParts", spec := "treeParts", unfollowed := true, recurses := true, named := ["sizar/digest.start", "sizar/digest.numbers"], apart := false, laid := [("sizar/digest.start", laid_sizar_digest_start), ("sizar/digest.numbers", laid_sizar_digest_numbers)] }
def TreePartsSaid : Prop := treePartsRow.holds Tryd.pinned (OpenSpec.ofChange treePartsSpec)

/-- ITS FALSE NEIGHBOUR: 'it returns false'. Refute it at one input. -/
def treePartsWrong : ChangeSpec := { name := "treeParts", fn := fun _ => fun
  | [d] => { results := [.lit (.bool false)], args := [d] }
  | _ => none }
def TreePartsWrongFalsely : Prop := treePartsRow.holds Tryd.pinned (OpenSpec.ofChange treePartsWrong)

/-- 'sizarlaw41.TreeLimits': WHATEVER THE INPUT: true; the input reads as it did. -/
def treeLimitsSpec : ChangeSpec := { name := "treeLimits", fn := fun _ => fun
  | [d1, d2] => { results := [.lit (.bool true)], args := [d1, d2] }
  | _ => none }
def treeLimitsRow : OpenClaim := { program := "ytgcmbiegbclhmaadoor", sum := "24ae5c77662e73f8bb896a61bcd57a50aeae1f4943e019755ad7ad09d899d388", func := "sizar/sizarlaw41.TreeLimits", spec := "treeLimits", unfollowed := true, recurses := true, named := ["sizar/digest.start", "sizar/digest.numbers"], apart := false, laid := [("sizar/digest.start", laid_sizar_digest_start), ("sizar/digest.numbers", laid_sizar_digest_numbers)] }
def TreeLimitsSaid : Prop := treeLimitsRow.holds Tryd.pinned (OpenSpec.ofChange treeLimitsSpec)

/-- ITS FALSE NEIGHBOUR: 'it returns false'. Refute it at one input. -/
def treeLimitsWrong : ChangeSpec := { name := "treeLimits", fn := fun _ => fun
  | [d1, d2] => { results := [.lit (.bool false)], args := [d1, d2] }
  | _ => none }
def TreeLimitsWrongFalsely : Prop := treeLimitsRow.holds Tryd.pinned (OpenSpec.ofChange treeLimitsWrong)

/-- 'sizarlaw41.TreeLeafSpec': WHATEVER THE INPUT: true; the input reads as it did. -/
def treeLeafSpecSpec : ChangeSpec := { name := "treeLeafSpec", fn := fun _ => fun
  | [d1, d2, d3, d4] => { results := [.lit (.bool true)], args := [d1, d2, d3, d4] }
  | _ => none }
def treeLeafSpecRow : OpenClaim := { program := "ytgcmbiegbclhmaadoor", sum := "24ae5c77662e73f8bb896a61bcd57a50aeae1f4943e019755ad7ad09d899d388", func := "sizar/sizarlaw41.TreeLeafSpec", spec := "treeLeafSpec", unfollowed := true, recurses := true, named := ["sizar/digest.start", "sizar/digest.numbers"], apart := false, laid := [("sizar/digest.start", laid_sizar_digest_start), ("sizar/digest.numbers", laid_sizar_digest_numbers)] }
def TreeLeafSpecSaid : Prop := treeLeafSpecRow.holds Tryd.pinned (OpenSpec.ofChange treeLeafSpecSpec)

/-- ITS FALSE NEIGHBOUR: 'it returns false'. Refute it at one input. -/
def treeLeafSpecWrong : ChangeSpec := { name := "treeLeafSpec", fn := fun _ => fun
  | [d1, d2, d3, d4] => { results := [.lit (.bool false)], args := [d1, d2, d3, d4] }
  | _ => none }
def TreeLeafSpecWrongFalsely : Prop := treeLeafSpecRow.holds Tryd.pinned (OpenSpec.ofChange treeLeafSpecWrong)

/-- 'sizarlaw41.TreeClimbs': WHATEVER THE INPUT: true; the input reads as it did. -/
def treeClimbsSpec : ChangeSpec := { name := "treeClimbs", fn := fun _ => fun
  | [d1, d2] => { results := [.lit (.bool true)], args := [d1, d2] }
  | _ => none }
def treeClimbsRow : OpenClaim := { program := "ytgcmbiegbclhmaadoor", sum := "24ae5c77662e73f8bb896a61bcd57a50aeae1f4943e019755ad7ad09d899d388", func := "sizar/sizarlaw41.TreeClimbs", spec := "treeClimbs", unfollowed := true, recurses := true, named := ["sizar/digest.start", "sizar/digest.numbers"], apart := false, laid := [("sizar/digest.start", laid_sizar_digest_start), ("sizar/digest.numbers", laid_sizar_digest_numbers)] }
def TreeClimbsSaid : Prop := treeClimbsRow.holds Tryd.pinned (OpenSpec.ofChange treeClimbsSpec)

/-- ITS FALSE NEIGHBOUR: 'it returns false'. Refute it at one input. -/
def treeClimbsWrong : ChangeSpec := { name := "treeClimbs", fn := fun _ => fun
  | [d1, d2] => { results := [.lit (.bool false)], args := [d1, d2] }
  | _ => none }
def TreeClimbsWrongFalsely : Prop := treeClimbsRow.holds Tryd.pinned (OpenSpec.ofChange treeClimbsWrong)

/-- 'sizarlaw41.TreeHidden': WHATEVER THE INPUT: true; the input reads as it did. -/
def treeHiddenSpec : ChangeSpec := { name := "treeHidden", fn := fun _ => fun
  | [d1, d2, d3] => { results := [.lit (.bool true)], args := [d1, d2, d3] }
  | _ => none }
def treeHiddenRow : OpenClaim := { program := "ytgcmbiegbclhmaadoor", sum := "24ae5c77662e73f8bb896a61bcd57a50aeae1f4943e019755ad7ad09d899d388", func := "sizar/sizarlaw41.TreeHidden", spec := "treeHidden", unfollowed := true, recurses := true, named := ["sizar/digest.start", "sizar/digest.numbers"], apart := false, laid := [("sizar/digest.start", laid_sizar_digest_start), ("sizar/digest.numbers", laid_sizar_digest_numbers)] }
def TreeHiddenSaid : Prop := treeHiddenRow.holds Tryd.pinned (OpenSpec.ofChange treeHiddenSpec)

/-- ITS FALSE NEIGHBOUR: 'it returns false'. Refute it at one input. -/
def treeHiddenWrong : ChangeSpec := { name := "treeHidden", fn := fun _ => fun
  | [d1, d2, d3] => { results := [.lit (.bool false)], args := [d1, d2, d3] }
  | _ => none }
def TreeHiddenWrongFalsely : Prop := treeHiddenRow.holds Tryd.pinned (OpenSpec.ofChange treeHiddenWrong)

/- THE SECOND FORM. 'bulk': how many values and letters a reading holds, each counted each time it is reached (what is shared counts as often as it is met; a slice's spare places count too). A statement '..UptoSaid' is the law's where the arguments, and the package variables that the reading takes, are together of bulk at most 1048576: NARROWER than '..Said'. Prove '..Said' where nothing that the law and all that it calls make is longer than what came in: it says more and counts as full. Else prove '..UptoSaid'. A law counts once. -/
mutual
def uptoBulk {H : Type} : DataW H → Nat
  | .lit (.string bytes) => bytes.length + 1
  | .lit _ => 1
  | .nil => 1
  | .ptr d => uptoBulk d + 1
  | .slice elems spare => uptoBulkAll elems + uptoBulkAll spare + 1
  | .agg parts => uptoBulkAll parts + 1
  | .iface _ d => uptoBulk d + 1
  | .map entries => uptoBulkEntries entries + 1
  | .held _ => 1
def uptoBulkAll {H : Type} : List (DataW H) → Nat
  | [] => 0
  | d :: r => uptoBulk d + uptoBulkAll r
def uptoBulkEntries {H : Type} : List (Lit × DataW H) → Nat
  | [] => 0
  | x :: r => uptoBulkEntry x + uptoBulkEntries r
def uptoBulkEntry {H : Type} : Lit × DataW H → Nat
  | (.string bytes, d) => bytes.length + uptoBulk d + 1
  | (_, d) => uptoBulk d + 1
 end
def uptoSmall : (H : Type) → List (DataW H) → Bool := fun _ ds => decide (uptoBulkAll ds ≤ 1048576)
def OpenSpec.upto (s : _root_.Go.ChangeSpec) : _root_.Go.OpenSpec := { _root_.Go.OpenSpec.ofChange s with cond := some uptoSmall }

/-- 'sizarlaw41.TreeRootSpec', WHERE WHAT IT READS IS OF BULK AT MOST 1048576: true; the input reads as it did. -/
def treeRootSpecUptoRow : OpenClaim := { program := "ytgcmbiegbclhmaadoor", sum := "24ae5c77662e73f8bb896a61bcd57a50aeae1f4943e019755ad7ad09d899d388", func := "sizar/sizarlaw41.TreeRootSpec", spec := "treeRootSpec", unfollowed := true, recurses := true, named := ["sizar/digest.start", "sizar/digest.numbers"], apart := false, laid := [("sizar/digest.start", laid_sizar_digest_start), ("sizar/digest.numbers", laid_sizar_digest_numbers)], narrowed := true }
def TreeRootSpecUptoSaid : Prop := treeRootSpecUptoRow.holds Tryd.pinned (OpenSpec.upto treeRootSpecSpec)

/-- 'sizarlaw41.TreePathSpec', WHERE WHAT IT READS IS OF BULK AT MOST 1048576: true; the input reads as it did. -/
def treePathSpecUptoRow : OpenClaim := { program := "ytgcmbiegbclhmaadoor", sum := "24ae5c77662e73f8bb896a61bcd57a50aeae1f4943e019755ad7ad09d899d388", func := "sizar/sizarlaw41.TreePathSpec", spec := "treePathSpec", unfollowed := true, recurses := true, named := ["sizar/digest.start", "sizar/digest.numbers"], apart := false, laid := [("sizar/digest.start", laid_sizar_digest_start), ("sizar/digest.numbers", laid_sizar_digest_numbers)], narrowed := true }
def TreePathSpecUptoSaid : Prop := treePathSpecUptoRow.holds Tryd.pinned (OpenSpec.upto treePathSpecSpec)

/-- 'sizarlaw41.TreeBinds', WHERE WHAT IT READS IS OF BULK AT MOST 1048576: true; the input reads as it did. -/
def treeBindsUptoRow : OpenClaim := { program := "ytgcmbiegbclhmaadoor", sum := "24ae5c77662e73f8bb896a61bcd57a50aeae1f4943e019755ad7ad09d899d388", func := "sizar/sizarlaw41.TreeBinds", spec := "treeBinds", unfollowed := true, recurses := true, named := ["sizar/digest.start", "sizar/digest.numbers"], apart := false, laid := [("sizar/digest.start", laid_sizar_digest_start), ("sizar/digest.numbers", laid_sizar_digest_numbers)], narrowed := true }
def TreeBindsUptoSaid : Prop := treeBindsUptoRow.holds Tryd.pinned (OpenSpec.upto treeBindsSpec)

/-- 'sizarlaw41.TreeParts', WHERE WHAT IT READS IS OF BULK AT MOST 1048576: true; the input reads as it did. -/
def treePartsUptoRow : OpenClaim := { program := "ytgcmbiegbclhmaadoor", sum := "24ae5c77662e73f8bb896a61bcd57a50aeae1f4943e019755ad7ad09d899d388", func := "sizar/sizarlaw41.TreeParts", spec := "treeParts", unfollowed := true, recurses := true, named := ["sizar/digest.start", "sizar/digest.numbers"], apart := false, laid := [("sizar/digest.start", laid_sizar_digest_start), ("sizar/digest.numbers", laid_sizar_digest_numbers)], narrowed := true }
def TreePartsUptoSaid : Prop := treePartsUptoRow.holds Tryd.pinned (OpenSpec.upto treePartsSpec)

/-- 'sizarlaw41.TreeLimits', WHERE WHAT IT READS IS OF BULK AT MOST 1048576: true; the input reads as it did. -/
def treeLimitsUptoRow : OpenClaim := { program := "ytgcmbiegbclhmaadoor", sum := "24ae5c77662e73f8bb896a61bcd57a50aeae1f4943e019755ad7ad09d899d388", func := "sizar/sizarlaw41.TreeLimits", spec := "treeLimits", unfollowed := true, recurses := true, named := ["sizar/digest.start", "sizar/digest.numbers"], apart := false, laid := [("sizar/digest.start", laid_sizar_digest_start), ("sizar/digest.numbers", laid_sizar_digest_numbers)], narrowed := true }
def TreeLimitsUptoSaid : Prop := treeLimitsUptoRow.holds Tryd.pinned (OpenSpec.upto treeLimitsSpec)

/-- 'sizarlaw41.TreeLeafSpec', WHERE WHAT IT READS IS OF BULK AT MOST 1048576: true; the input reads as it did. -/
def treeLeafSpecUptoRow : OpenClaim := { program := "ytgcmbiegbclhmaadoor", sum := "24ae5c77662e73f8bb896a61bcd57a50aeae1f4943e019755ad7ad09d899d388", func := "sizar/sizarlaw41.TreeLeafSpec", spec := "treeLeafSpec", unfollowed := true, recurses := true, named := ["sizar/digest.start", "sizar/digest.numbers"], apart := false, laid := [("sizar/digest.start", laid_sizar_digest_start), ("sizar/digest.numbers", laid_sizar_digest_numbers)], narrowed := true }
def TreeLeafSpecUptoSaid : Prop := treeLeafSpecUptoRow.holds Tryd.pinned (OpenSpec.upto treeLeafSpecSpec)

/-- 'sizarlaw41.TreeClimbs', WHERE WHAT IT READS IS OF BULK AT MOST 1048576: true; the input reads as it did. -/
def treeClimbsUptoRow : OpenClaim := { program := "ytgcmbiegbclhmaadoor", sum := "24ae5c77662e73f8bb896a61bcd57a50aeae1f4943e019755ad7ad09d899d388", func := "sizar/sizarlaw41.TreeClimbs", spec := "treeClimbs", unfollowed := true, recurses := true, named := ["sizar/digest.start", "sizar/digest.numbers"], apart := false, laid := [("sizar/digest.start", laid_sizar_digest_start), ("sizar/digest.numbers", laid_sizar_digest_numbers)], narrowed := true }
def TreeClimbsUptoSaid : Prop := treeClimbsUptoRow.holds Tryd.pinned (OpenSpec.upto treeClimbsSpec)

/-- 'sizarlaw41.TreeHidden', WHERE WHAT IT READS IS OF BULK AT MOST 1048576: true; the input reads as it did. -/
def treeHiddenUptoRow : OpenClaim := { program := "ytgcmbiegbclhmaadoor", sum := "24ae5c77662e73f8bb896a61bcd57a50aeae1f4943e019755ad7ad09d899d388", func := "sizar/sizarlaw41.TreeHidden", spec := "treeHidden", unfollowed := true, recurses := true, named := ["sizar/digest.start", "sizar/digest.numbers"], apart := false, laid := [("sizar/digest.start", laid_sizar_digest_start), ("sizar/digest.numbers", laid_sizar_digest_numbers)], narrowed := true }
def TreeHiddenUptoSaid : Prop := treeHiddenUptoRow.holds Tryd.pinned (OpenSpec.upto treeHiddenSpec)

end Rows
end Go.Proofs.YtgcmbiegbclhmaaDoor
