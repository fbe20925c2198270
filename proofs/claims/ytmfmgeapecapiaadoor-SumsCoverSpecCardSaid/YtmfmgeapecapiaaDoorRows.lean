/-
  NARROWER THAN 'FOR EVERY INPUT', by the rows' own cells (each row's printed sentence says how): DiscloseShown: laid · DiscloseTrue: laid · DiscloseMets: laid · DiscloseStable: laid · DisclosePlaces: laid · SumsChanged: laid · SumsShown: laid · SumsCoverSpec: laid · SumsBound: laid · SumsParts: laid · SumsDisjoint: laid.
  DERIVED. THE GIVEN ROWS OF THIS SEAT. 11 by the template 'for every input the law returns true; each argument reads behind the call as it read before'; 0 by the template 'total and deterministic' (their statements: YtmfmgeapecapiaaDoorTotals.lean).
  GIVEN WITH THE SEED: the statements are not yours to turn. If you find one false, say at which input.
  Laid BY PROGRAM, IN A SANDBOX (cutbox-rows.mjs): the forced cells as the released guide's own fill.sh prints them over the translation f5cf5e0a03e8a67d… (all of the seat's roots in one cut). By AI agents, Wed Nov 11 2026. No macro, syntax, notation, axiom, sorry.
-/
import Derived.Test.YtmfmgeapecapiaaDoorChecked
import GoSem.Claim
import GoSem.ClaimJoined
import GoSem.ClaimMapViews
import Derived.JoinedTies
import Derived.KernelRfl
namespace Go.Proofs.YtmfmgeapecapiaaDoor
/- THE CELL 'sum', in the pinned program and in every row, IS THE sha256 OF THE DUMP (.gsa) THAT YtmfmgeapecapiaaDoorProg.lean LOADS. Nothing in Lean hashes anything: it is a label: what it is worth is what the hold of that sum in a sandbox is worth. -/
noncomputable def Tryd.pinned : Pinned := { name := "ytmfmgeapecapiaadoor", sum := "f5cf5e0a03e8a67d0b35aad6ee8612b62f286b92cdff7f6bc7b423aa347c7c9c", checked := Tryd.checked }
namespace Rows
def none {H : Type} : Left H := { results := [], args := [] }

/- WHAT THE LISTED PACKAGE-LEVEL VARIABLES READ AS WHEN THE CALL BEGINS. Each datum BY PROGRAM (the guide's laid-datum.mjs) off the statement by which the dump's own 'gosem.cut.vars' lays the variable. In a bare row this is a premise. The card (YtmfmgeapecapiaaDoorCards.lean) ties it to the program's text. -/
def laid_sizar_digest_start {H : Type} : DataW H := .agg [.lit (.int .u32 1779033703), .lit (.int .u32 3144134277), .lit (.int .u32 1013904242), .lit (.int .u32 2773480762), .lit (.int .u32 1359893119), .lit (.int .u32 2600822924), .lit (.int .u32 528734635), .lit (.int .u32 1541459225)]
def laid_sizar_digest_numbers {H : Type} : DataW H := .agg [.lit (.int .u32 1116352408), .lit (.int .u32 1899447441), .lit (.int .u32 3049323471), .lit (.int .u32 3921009573), .lit (.int .u32 961987163), .lit (.int .u32 1508970993), .lit (.int .u32 2453635748), .lit (.int .u32 2870763221), .lit (.int .u32 3624381080), .lit (.int .u32 310598401), .lit (.int .u32 607225278), .lit (.int .u32 1426881987), .lit (.int .u32 1925078388), .lit (.int .u32 2162078206), .lit (.int .u32 2614888103), .lit (.int .u32 3248222580), .lit (.int .u32 3835390401), .lit (.int .u32 4022224774), .lit (.int .u32 264347078), .lit (.int .u32 604807628), .lit (.int .u32 770255983), .lit (.int .u32 1249150122), .lit (.int .u32 1555081692), .lit (.int .u32 1996064986), .lit (.int .u32 2554220882), .lit (.int .u32 2821834349), .lit (.int .u32 2952996808), .lit (.int .u32 3210313671), .lit (.int .u32 3336571891), .lit (.int .u32 3584528711), .lit (.int .u32 113926993), .lit (.int .u32 338241895), .lit (.int .u32 666307205), .lit (.int .u32 773529912), .lit (.int .u32 1294757372), .lit (.int .u32 1396182291), .lit (.int .u32 1695183700), .lit (.int .u32 1986661051), .lit (.int .u32 2177026350), .lit (.int .u32 2456956037), .lit (.int .u32 2730485921), .lit (.int .u32 2820302411), .lit (.int .u32 3259730800), .lit (.int .u32 3345764771), .lit (.int .u32 3516065817), .lit (.int .u32 3600352804), .lit (.int .u32 4094571909), .lit (.int .u32 275423344), .lit (.int .u32 430227734), .lit (.int .u32 506948616), .lit (.int .u32 659060556), .lit (.int .u32 883997877), .lit (.int .u32 958139571), .lit (.int .u32 1322822218), .lit (.int .u32 1537002063), .lit (.int .u32 1747873779), .lit (.int .u32 1955562222), .lit (.int .u32 2024104815), .lit (.int .u32 2227730452), .lit (.int .u32 2361852424), .lit (.int .u32 2428436474), .lit (.int .u32 2756734187), .lit (.int .u32 3204031479), .lit (.int .u32 3329325298)]

/-- 'sizarlaw42.DiscloseShown': WHATEVER THE INPUT: true; the input reads as it did. -/
def discloseShownSpec : ChangeSpec := { name := "discloseShown", fn := fun _ => fun
  | [d] => { results := [.lit (.bool true)], args := [d] }
  | _ => none }
def discloseShownRow : OpenClaim := { program := "ytmfmgeapecapiaadoor", sum := "f5cf5e0a03e8a67d0b35aad6ee8612b62f286b92cdff7f6bc7b423aa347c7c9c", func := "sizar/sizarlaw42.DiscloseShown", spec := "discloseShown", unfollowed := true, recurses := true, named := ["sizar/digest.start", "sizar/digest.numbers"], apart := false, laid := [("sizar/digest.start", laid_sizar_digest_start), ("sizar/digest.numbers", laid_sizar_digest_numbers)] }
def DiscloseShownSaid : Prop := discloseShownRow.holds Tryd.pinned (OpenSpec.ofChange discloseShownSpec)

/-- ITS FALSE NEIGHBOUR: 'it returns false'. Refute it at one input. -/
def discloseShownWrong : ChangeSpec := { name := "discloseShown", fn := fun _ => fun
  | [d] => { results := [.lit (.bool false)], args := [d] }
  | _ => none }
def DiscloseShownWrongFalsely : Prop := discloseShownRow.holds Tryd.pinned (OpenSpec.ofChange discloseShownWrong)

/-- 'sizarlaw42.DiscloseTrue': WHATEVER THE INPUT: true; the input reads as it did. -/
def discloseTrueSpec : ChangeSpec := { name := "discloseTrue", fn := fun _ => fun
  | [d1, d2] => { results := [.lit (.bool true)], args := [d1, d2] }
  | _ => none }
def discloseTrueRow : OpenClaim := { program := "ytmfmgeapecapiaadoor", sum := "f5cf5e0a03e8a67d0b35aad6ee8612b62f286b92cdff7f6bc7b423aa347c7c9c", func := "sizar/sizarlaw42.DiscloseTrue", spec := "discloseTrue", unfollowed := true, recurses := true, named := ["sizar/digest.start", "sizar/digest.numbers"], apart := false, laid := [("sizar/digest.start", laid_sizar_digest_start), ("sizar/digest.numbers", laid_sizar_digest_numbers)] }
def DiscloseTrueSaid : Prop := discloseTrueRow.holds Tryd.pinned (OpenSpec.ofChange discloseTrueSpec)

/-- ITS FALSE NEIGHBOUR: 'it returns false'. Refute it at one input. -/
def discloseTrueWrong : ChangeSpec := { name := "discloseTrue", fn := fun _ => fun
  | [d1, d2] => { results := [.lit (.bool false)], args := [d1, d2] }
  | _ => none }
def DiscloseTrueWrongFalsely : Prop := discloseTrueRow.holds Tryd.pinned (OpenSpec.ofChange discloseTrueWrong)

/-- 'sizarlaw42.DiscloseMets': WHATEVER THE INPUT: true; the input reads as it did. -/
def discloseMetsSpec : ChangeSpec := { name := "discloseMets", fn := fun _ => fun
  | [d1, d2] => { results := [.lit (.bool true)], args := [d1, d2] }
  | _ => none }
def discloseMetsRow : OpenClaim := { program := "ytmfmgeapecapiaadoor", sum := "f5cf5e0a03e8a67d0b35aad6ee8612b62f286b92cdff7f6bc7b423aa347c7c9c", func := "sizar/sizarlaw42.DiscloseMets", spec := "discloseMets", unfollowed := true, recurses := true, named := ["sizar/digest.start", "sizar/digest.numbers"], apart := false, laid := [("sizar/digest.start", laid_sizar_digest_start), ("sizar/digest.numbers", laid_sizar_digest_numbers)] }
def DiscloseMetsSaid : Prop := discloseMetsRow.holds Tryd.pinned (OpenSpec.ofChange discloseMetsSpec)

/-- ITS FALSE NEIGHBOUR: 'it returns false'. Refute it at one input. -/
def discloseMetsWrong : ChangeSpec := { name := "discloseMets", fn := fun _ => fun
  | [d1, d2] => { results := [.lit (.bool false)], args := [d1, d2] }
  | _ => none }
def DiscloseMetsWrongFalsely : Prop := discloseMetsRow.holds Tryd.pinned (OpenSpec.ofChange discloseMetsWrong)

/-- 'sizarlaw42.DiscloseStable': WHATEVER THE INPUT: true; the input reads as it did. -/
def discloseStableSpec : ChangeSpec := { name := "discloseStable", fn := fun _ => fun
  | [d1, d2] => { results := [.lit (.bool true)], args := [d1, d2] }
  | _ => none }
def discloseStableRow : OpenClaim := { program := "ytmfmgeapecapiaadoor", sum := "f5cf5e0a03e8a67d0b35aad6ee8612b62f286b92cdff7f6bc7b423aa347c7c9c", func := "sizar/sizarlaw42.DiscloseStable", spec := "discloseStable", unfollowed := true, recurses := true, named := ["sizar/digest.start", "sizar/digest.numbers"], apart := false, laid := [("sizar/digest.start", laid_sizar_digest_start), ("sizar/digest.numbers", laid_sizar_digest_numbers)] }
def DiscloseStableSaid : Prop := discloseStableRow.holds Tryd.pinned (OpenSpec.ofChange discloseStableSpec)

/-- ITS FALSE NEIGHBOUR: 'it returns false'. Refute it at one input. -/
def discloseStableWrong : ChangeSpec := { name := "discloseStable", fn := fun _ => fun
  | [d1, d2] => { results := [.lit (.bool false)], args := [d1, d2] }
  | _ => none }
def DiscloseStableWrongFalsely : Prop := discloseStableRow.holds Tryd.pinned (OpenSpec.ofChange discloseStableWrong)

/-- 'sizarlaw42.DisclosePlaces': WHATEVER THE INPUT: true; the input reads as it did. -/
def disclosePlacesSpec : ChangeSpec := { name := "disclosePlaces", fn := fun _ => fun
  | [d1, d2, d3] => { results := [.lit (.bool true)], args := [d1, d2, d3] }
  | _ => none }
def disclosePlacesRow : OpenClaim := { program := "ytmfmgeapecapiaadoor", sum := "f5cf5e0a03e8a67d0b35aad6ee8612b62f286b92cdff7f6bc7b423aa347c7c9c", func := "sizar/sizarlaw42.DisclosePlaces", spec := "disclosePlaces", unfollowed := true, recurses := true, named := ["sizar/digest.start", "sizar/digest.numbers"], apart := false, laid := [("sizar/digest.start", laid_sizar_digest_start), ("sizar/digest.numbers", laid_sizar_digest_numbers)] }
def DisclosePlacesSaid : Prop := disclosePlacesRow.holds Tryd.pinned (OpenSpec.ofChange disclosePlacesSpec)

/-- ITS FALSE NEIGHBOUR: 'it returns false'. Refute it at one input. -/
def disclosePlacesWrong : ChangeSpec := { name := "disclosePlaces", fn := fun _ => fun
  | [d1, d2, d3] => { results := [.lit (.bool false)], args := [d1, d2, d3] }
  | _ => none }
def DisclosePlacesWrongFalsely : Prop := disclosePlacesRow.holds Tryd.pinned (OpenSpec.ofChange disclosePlacesWrong)

/-- 'sizarlaw43.SumsChanged': WHATEVER THE INPUT: true; the input reads as it did. -/
def sumsChangedSpec : ChangeSpec := { name := "sumsChanged", fn := fun _ => fun
  | [d1, d2, d3, d4, d5] => { results := [.lit (.bool true)], args := [d1, d2, d3, d4, d5] }
  | _ => none }
def sumsChangedRow : OpenClaim := { program := "ytmfmgeapecapiaadoor", sum := "f5cf5e0a03e8a67d0b35aad6ee8612b62f286b92cdff7f6bc7b423aa347c7c9c", func := "sizar/sizarlaw43.SumsChanged", spec := "sumsChanged", unfollowed := true, recurses := true, named := ["sizar/digest.start", "sizar/digest.numbers"], apart := false, laid := [("sizar/digest.start", laid_sizar_digest_start), ("sizar/digest.numbers", laid_sizar_digest_numbers)] }
def SumsChangedSaid : Prop := sumsChangedRow.holds Tryd.pinned (OpenSpec.ofChange sumsChangedSpec)

/-- ITS FALSE NEIGHBOUR: 'it returns false'. Refute it at one input. -/
def sumsChangedWrong : ChangeSpec := { name := "sumsChanged", fn := fun _ => fun
  | [d1, d2, d3, d4, d5] => { results := [.lit (.bool false)], args := [d1, d2, d3, d4, d5] }
  | _ => none }
def SumsChangedWrongFalsely : Prop := sumsChangedRow.holds Tryd.pinned (OpenSpec.ofChange sumsChangedWrong)

/-- 'sizarlaw43.SumsShown': WHATEVER THE INPUT: true; the input reads as it did. -/
def sumsShownSpec : ChangeSpec := { name := "sumsShown", fn := fun _ => fun
  | [d1, d2, d3] => { results := [.lit (.bool true)], args := [d1, d2, d3] }
  | _ => none }
def sumsShownRow : OpenClaim := { program := "ytmfmgeapecapiaadoor", sum := "f5cf5e0a03e8a67d0b35aad6ee8612b62f286b92cdff7f6bc7b423aa347c7c9c", func := "sizar/sizarlaw43.SumsShown", spec := "sumsShown", unfollowed := true, recurses := true, named := ["sizar/digest.start", "sizar/digest.numbers"], apart := false, laid := [("sizar/digest.start", laid_sizar_digest_start), ("sizar/digest.numbers", laid_sizar_digest_numbers)] }
def SumsShownSaid : Prop := sumsShownRow.holds Tryd.pinned (OpenSpec.ofChange sumsShownSpec)

/-- ITS FALSE NEIGHBOUR: 'it returns false'. Refute it at one input. -/
def sumsShownWrong : ChangeSpec := { name := "sumsShown", fn := fun _ => fun
  | [d1, d2, d3] => { results := [.lit (.bool false)], args := [d1, d2, d3] }
  | _ => none }
def SumsShownWrongFalsely : Prop := sumsShownRow.holds Tryd.pinned (OpenSpec.ofChange sumsShownWrong)

/-- 'sizarlaw43.SumsCoverSpec': WHATEVER THE INPUT: true; the input reads as it did. -/
def sumsCoverSpecSpec : ChangeSpec := { name := "sumsCoverSpec", fn := fun _ => fun
  | [d1, d2, d3] => { results := [.lit (.bool true)], args := [d1, d2, d3] }
  | _ => none }
def sumsCoverSpecRow : OpenClaim := { program := "ytmfmgeapecapiaadoor", sum := "f5cf5e0a03e8a67d0b35aad6ee8612b62f286b92cdff7f6bc7b423aa347c7c9c", func := "sizar/sizarlaw43.SumsCoverSpec", spec := "sumsCoverSpec", unfollowed := true, recurses := true, named := ["sizar/digest.start", "sizar/digest.numbers"], apart := false, laid := [("sizar/digest.start", laid_sizar_digest_start), ("sizar/digest.numbers", laid_sizar_digest_numbers)] }
def SumsCoverSpecSaid : Prop := sumsCoverSpecRow.holds Tryd.pinned (OpenSpec.ofChange sumsCoverSpecSpec)

/-- ITS FALSE NEIGHBOUR: 'it returns false'. Refute it at one input. -/
def sumsCoverSpecWrong : ChangeSpec := { name := "sumsCoverSpec", fn := fun _ => fun
  | [d1, d2, d3] => { results := [.lit (.bool false)], args := [d1, d2, d3] }
  | _ => none }
def SumsCoverSpecWrongFalsely : Prop := sumsCoverSpecRow.holds Tryd.pinned (OpenSpec.ofChange sumsCoverSpecWrong)

/-- 'sizarlaw43.SumsBound': WHATEVER THE INPUT: true; the input reads as it did. -/
def sumsBoundSpec : ChangeSpec := { name := "sumsBound", fn := fun _ => fun
  | [d1, d2] => { results := [.lit (.bool true)], args := [d1, d2] }
  | _ => none }
def sumsBoundRow : OpenClaim := { program := "ytmfmgeapecapiaadoor", sum := "f5cf5e0a03e8a67d0b35aad6ee8612b62f286b92cdff7f6bc7b423aa347c7c9c", func := "sizar/sizarlaw43.SumsBound", spec := "sumsBound", unfollowed := true, recurses := true, named := ["sizar/digest.start", "sizar/digest.numbers"], apart := false, laid := [("sizar/digest.start", laid_sizar_digest_start), ("sizar/digest.numbers", laid_sizar_digest_numbers)] }
def SumsBoundSaid : Prop := sumsBoundRow.holds Tryd.pinned (OpenSpec.ofChange sumsBoundSpec)

/-- ITS FALSE NEIGHBOUR: 'it returns false'. Refute it at one input. -/
def sumsBoundWrong : ChangeSpec := { name := "sumsBound", fn := fun _ => fun
  | [d1, d2] => { results := [.lit (.bool false)], args := [d1, d2] }
  | _ => none }
def SumsBoundWrongFalsely : Prop := sumsBoundRow.holds Tryd.pinned (OpenSpec.ofChange sumsBoundWrong)

/-- 'sizarlaw43.SumsParts': WHATEVER THE INPUT: true; the input reads as it did. -/
def sumsPartsSpec : ChangeSpec := { name := "sumsParts", fn := fun _ => fun
  | [d1, d2, d3, d4] => { results := [.lit (.bool true)], args := [d1, d2, d3, d4] }
  | _ => none }
def sumsPartsRow : OpenClaim := { program := "ytmfmgeapecapiaadoor", sum := "f5cf5e0a03e8a67d0b35aad6ee8612b62f286b92cdff7f6bc7b423aa347c7c9c", func := "sizar/sizarlaw43.SumsParts", spec := "sumsParts", unfollowed := true, recurses := true, named := ["sizar/digest.start", "sizar/digest.numbers"], apart := false, laid := [("sizar/digest.start", laid_sizar_digest_start), ("sizar/digest.numbers", laid_sizar_digest_numbers)] }
def SumsPartsSaid : Prop := sumsPartsRow.holds Tryd.pinned (OpenSpec.ofChange sumsPartsSpec)

/-- ITS FALSE NEIGHBOUR: 'it returns false'. Refute it at one input. -/
def sumsPartsWrong : ChangeSpec := { name := "sumsParts", fn := fun _ => fun
  | [d1, d2, d3, d4] => { results := [.lit (.bool false)], args := [d1, d2, d3, d4] }
  | _ => none }
def SumsPartsWrongFalsely : Prop := sumsPartsRow.holds Tryd.pinned (OpenSpec.ofChange sumsPartsWrong)

/-- 'sizarlaw43.SumsDisjoint': WHATEVER THE INPUT: true; the input reads as it did. -/
def sumsDisjointSpec : ChangeSpec := { name := "sumsDisjoint", fn := fun _ => fun
  | [d1, d2, d3] => { results := [.lit (.bool true)], args := [d1, d2, d3] }
  | _ => none }
def sumsDisjointRow : OpenClaim := { program := "ytmfmgeapecapiaadoor", sum := "f5cf5e0a03e8a67d0b35aad6ee8612b62f286b92cdff7f6bc7b423aa347c7c9c", func := "sizar/sizarlaw43.SumsDisjoint", spec := "sumsDisjoint", unfollowed := true, recurses := true, named := ["sizar/digest.start", "sizar/digest.numbers"], apart := false, laid := [("sizar/digest.start", laid_sizar_digest_start), ("sizar/digest.numbers", laid_sizar_digest_numbers)] }
def SumsDisjointSaid : Prop := sumsDisjointRow.holds Tryd.pinned (OpenSpec.ofChange sumsDisjointSpec)

/-- ITS FALSE NEIGHBOUR: 'it returns false'. Refute it at one input. -/
def sumsDisjointWrong : ChangeSpec := { name := "sumsDisjoint", fn := fun _ => fun
  | [d1, d2, d3] => { results := [.lit (.bool false)], args := [d1, d2, d3] }
  | _ => none }
def SumsDisjointWrongFalsely : Prop := sumsDisjointRow.holds Tryd.pinned (OpenSpec.ofChange sumsDisjointWrong)

/- THE SECOND FORM. 'bulk': how many values and letters a reading holds, each counted each time it is reached (what is shared counts as often as it is met; a slice's spare places count too). A statement '..UptoSaid' is the law's where the arguments, and the package variables that the reading takes, are together of bulk at most 1048576: NARROWER than '..Said'. Prove '..Said' where nothing that the law and all that it calls make is longer than what came in: it says more and counts as full. Else prove '..UptoSaid'. A law counts once. -/
mutual
def uptoBulk {H : Type} : DataW H → Nat
  | .lit (.string bytes) => bytes.length + 1
  | .lit _ => 1
  | .nil => 1
  | .ptr d => uptoBulk d + 1
  | .slice elems spare => uptoBulkAll elems + uptoBulkAll spare + 1
  | .agg parts => uptoBulkAll parts + 1
  | .iface _ d => uptoBulk d + 1
  | .map entries => uptoBulkEntries entries + 1
  | .held _ => 1
def uptoBulkAll {H : Type} : List (DataW H) → Nat
  | [] => 0
  | d :: r => uptoBulk d + uptoBulkAll r
def uptoBulkEntries {H : Type} : List (Lit × DataW H) → Nat
  | [] => 0
  | x :: r => uptoBulkEntry x + uptoBulkEntries r
def uptoBulkEntry {H : Type} : Lit × DataW H → Nat
  | (.string bytes, d) => bytes.length + uptoBulk d + 1
  | (_, d) => uptoBulk d + 1
 end
def uptoSmall : (H : Type) → List (DataW H) → Bool := fun _ ds => decide (uptoBulkAll ds ≤ 1048576)
def OpenSpec.upto (s : _root_.Go.ChangeSpec) : _root_.Go.OpenSpec := { _root_.Go.OpenSpec.ofChange s with cond := some uptoSmall }

/-- 'sizarlaw42.DiscloseShown', WHERE WHAT IT READS IS OF BULK AT MOST 1048576: true; the input reads as it did. -/
def discloseShownUptoRow : OpenClaim := { program := "ytmfmgeapecapiaadoor", sum := "f5cf5e0a03e8a67d0b35aad6ee8612b62f286b92cdff7f6bc7b423aa347c7c9c", func := "sizar/sizarlaw42.DiscloseShown", spec := "discloseShown", unfollowed := true, recurses := true, named := ["sizar/digest.start", "sizar/digest.numbers"], apart := false, laid := [("sizar/digest.start", laid_sizar_digest_start), ("sizar/digest.numbers", laid_sizar_digest_numbers)], narrowed := true }
def DiscloseShownUptoSaid : Prop := discloseShownUptoRow.holds Tryd.pinned (OpenSpec.upto discloseShownSpec)

/-- 'sizarlaw42.DiscloseTrue', WHERE WHAT IT READS IS OF BULK AT MOST 1048576: true; the input reads as it did. -/
def discloseTrueUptoRow : OpenClaim := { program := "ytmfmgeapecapiaadoor", sum := "f5cf5e0a03e8a67d0b35aad6ee8612b62f286b92cdff7f6bc7b423aa347c7c9c", func := "sizar/sizarlaw42.DiscloseTrue", spec := "discloseTrue", unfollowed := true, recurses := true, named := ["sizar/digest.start", "sizar/digest.numbers"], apart := false, laid := [("sizar/digest.start", laid_sizar_digest_start), ("sizar/digest.numbers", laid_sizar_digest_numbers)], narrowed := true }
def DiscloseTrueUptoSaid : Prop := discloseTrueUptoRow.holds Tryd.pinned (OpenSpec.upto discloseTrueSpec)

/-- 'sizarlaw42.DiscloseMets', WHERE WHAT IT READS IS OF BULK AT MOST 1048576: true; the input reads as it did. -/
def discloseMetsUptoRow : OpenClaim := { program := "ytmfmgeapecapiaadoor", sum := "f5cf5e0a03e8a67d0b35aad6ee8612b62f286b92cdff7f6bc7b423aa347c7c9c", func := "sizar/sizarlaw42.DiscloseMets", spec := "discloseMets", unfollowed := true, recurses := true, named := ["sizar/digest.start", "sizar/digest.numbers"], apart := false, laid := [("sizar/digest.start", laid_sizar_digest_start), ("sizar/digest.numbers", laid_sizar_digest_numbers)], narrowed := true }
def DiscloseMetsUptoSaid : Prop := discloseMetsUptoRow.holds Tryd.pinned (OpenSpec.upto discloseMetsSpec)

/-- 'sizarlaw42.DiscloseStable', WHERE WHAT IT READS IS OF BULK AT MOST 1048576: true; the input reads as it did. -/
def discloseStableUptoRow : OpenClaim := { program := "ytmfmgeapecapiaadoor", sum := "f5cf5e0a03e8a67d0b35aad6ee8612b62f286b92cdff7f6bc7b423aa347c7c9c", func := "sizar/sizarlaw42.DiscloseStable", spec := "discloseStable", unfollowed := true, recurses := true, named := ["sizar/digest.start", "sizar/digest.numbers"], apart := false, laid := [("sizar/digest.start", laid_sizar_digest_start), ("sizar/digest.numbers", laid_sizar_digest_numbers)], narrowed := true }
def DiscloseStableUptoSaid : Prop := discloseStableUptoRow.holds Tryd.pinned (OpenSpec.upto discloseStableSpec)

/-- 'sizarlaw42.DisclosePlaces', WHERE WHAT IT READS IS OF BULK AT MOST 1048576: true; the input reads as it did. -/
def disclosePlacesUptoRow : OpenClaim := { program := "ytmfmgeapecapiaadoor", sum := "f5cf5e0a03e8a67d0b35aad6ee8612b62f286b92cdff7f6bc7b423aa347c7c9c", func := "sizar/sizarlaw42.DisclosePlaces", spec := "disclosePlaces", unfollowed := true, recurses := true, named := ["sizar/digest.start", "sizar/digest.numbers"], apart := false, laid := [("sizar/digest.start", laid_sizar_digest_start), ("sizar/digest.numbers", laid_sizar_digest_numbers)], narrowed := true }
def DisclosePlacesUptoSaid : Prop := disclosePlacesUptoRow.holds Tryd.pinned (OpenSpec.upto disclosePlacesSpec)

/-- 'sizarlaw43.SumsChanged', WHERE WHAT IT READS IS OF BULK AT MOST 1048576: true; the input reads as it did. -/
def sumsChangedUptoRow : OpenClaim := { program := "ytmfmgeapecapiaadoor", sum := "f5cf5e0a03e8a67d0b35aad6ee8612b62f286b92cdff7f6bc7b423aa347c7c9c", func := "sizar/sizarlaw43.SumsChanged", spec := "sumsChanged", unfollowed := true, recurses := true, named := ["sizar/digest.start", "sizar/digest.numbers"], apart := false, laid := [("sizar/digest.start", laid_sizar_digest_start), ("sizar/digest.numbers", laid_sizar_digest_numbers)], narrowed := true }
def SumsChangedUptoSaid : Prop := sumsChangedUptoRow.holds Tryd.pinned (OpenSpec.upto sumsChangedSpec)

/-- 'sizarlaw43.SumsShown', WHERE WHAT IT READS IS OF BULK AT MOST 1048576: true; the input reads as it did. -/
def sumsShownUptoRow : OpenClaim := { program := "ytmfmgeapecapiaadoor", sum := "f5cf5e0a03e8a67d0b35aad6ee8612b62f286b92cdff7f6bc7b423aa347c7c9c", func := "sizar/sizarlaw43.SumsShown", spec := "sumsShown", unfollowed := true, recurses := true, named := ["sizar/digest.start", "sizar/digest.numbers"], apart := false, laid := [("sizar/digest.start", laid_sizar_digest_start), ("sizar/digest.numbers", laid_sizar_digest_numbers)], narrowed := true }
def SumsShownUptoSaid : Prop := sumsShownUptoRow.holds Tryd.pinned (OpenSpec.upto sumsShownSpec)

/-- 'sizarlaw43.SumsCoverSpec', WHERE WHAT IT READS IS OF BULK AT MOST 1048576: true; the input reads as it did. -/
def sumsCoverSpecUptoRow : OpenClaim := { program := "ytmfmgeapecapiaadoor", sum := "f5cf5e0a03e8a67d0b35aad6ee8612b62f286b92cdff7f6bc7b423aa347c7c9c", func := "sizar/sizarlaw43.SumsCoverSpec", spec := "sumsCoverSpec", unfollowed := true, recurses := true, named := ["sizar/digest.start", "sizar/digest.numbers"], apart := false, laid := [("sizar/digest.start", laid_sizar_digest_start), ("sizar/digest.numbers", laid_sizar_digest_numbers)], narrowed := true }
def SumsCoverSpecUptoSaid : Prop := sumsCoverSpecUptoRow.holds Tryd.pinned (OpenSpec.upto sumsCoverSpecSpec)

/-- 'sizarlaw43.SumsBound', WHERE WHAT IT READS IS OF BULK AT MOST 1048576: true; the input reads as it did. -/
def sumsBoundUptoRow : OpenClaim := { program := "ytmfmgeapecapiaadoor", sum := "f5cf5e0a03e8a67d0b35aad6ee8612b62f286b92cdff7f6bc7b423aa347c7c9c", func := "sizar/sizarlaw43.SumsBound", spec := "sumsBound", unfollowed := true, recurses := true, named := ["sizar/digest.start", "sizar/digest.numbers"], apart := false, laid := [("sizar/digest.start", laid_sizar_digest_start), ("sizar/digest.numbers", laid_sizar_digest_numbers)], narrowed := true }
def SumsBoundUptoSaid : Prop := sumsBoundUptoRow.holds Tryd.pinned (OpenSpec.upto sumsBoundSpec)

/-- 'sizarlaw43.SumsParts', WHERE WHAT IT READS IS OF BULK AT MOST 1048576: true; the input reads as it did. -/
def sumsPartsUptoRow : OpenClaim := { program := "ytmfmgeapecapiaadoor", sum := "f5cf5e0a03e8a67d0b35aad6ee8612b62f286b92cdff7f6bc7b423aa347c7c9c", func := "sizar/sizarlaw43.SumsParts", spec := "sumsParts", unfollowed := true, recurses := true, named := ["sizar/digest.start", "sizar/digest.numbers"], apart := false, laid := [("sizar/digest.start", laid_sizar_digest_start), ("sizar/digest.numbers", laid_sizar_digest_numbers)], narrowed := true }
def SumsPartsUptoSaid : Prop := sumsPartsUptoRow.holds Tryd.pinned (OpenSpec.upto sumsPartsSpec)

/-- 'sizarlaw43.SumsDisjoint', WHERE WHAT IT READS IS OF BULK AT MOST 1048576: true; the input reads as it did. -/
def sumsDisjointUptoRow : OpenClaim := { program := "ytmfmgeapecapiaadoor", sum := "f5cf5e0a03e8a67d0b35aad6ee8612b62f286b92cdff7f6bc7b423aa347c7c9c", func := "sizar/sizarlaw43.SumsDisjoint", spec := "sumsDisjoint", unfollowed := true, recurses := true, named := ["sizar/digest.start", "sizar/digest.numbers"], apart := false, laid := [("sizar/digest.start", laid_sizar_digest_start), ("sizar/digest.numbers", laid_sizar_digest_numbers)], narrowed := true }
def SumsDisjointUptoSaid : Prop := sumsDisjointUptoRow.holds Tryd.pinned (OpenSpec.upto sumsDisjointSpec)

end Rows
end Go.Proofs.YtmfmgeapecapiaaDoor
