/-
  NARROWER THAN 'FOR EVERY INPUT', by the rows' own cells (each row's printed sentence says how): Sha2Pads: laid · Sha2Asks: laid · Sha2Fills: laid · Sha2Sums: laid · Sha2Lengths: laid · Sha2Consts: laid · Sha2Full: laid · Sha2Nil: laid · Sha2Pieces: laid.
  DERIVED. THE GIVEN ROWS OF THIS SEAT. 9 by the template 'for every input the law returns true; each argument reads behind the call as it read before'; 0 by the template 'total and deterministic' (their statements: YtckjgipkdknmgaaDoorTotals.lean).
  GIVEN WITH THE SEED: the statements are not yours to turn. If you find one false, say at which input.
  Laid BY PROGRAM, IN A SANDBOX (cutbox-rows.mjs): the forced cells as the released guide's own fill.sh prints them over the translation 045f549b5f7e29e4… (all of the seat's roots in one cut). By AI agents, Wed Nov 11 2026. No macro, syntax, notation, axiom, sorry.
-/
import Derived.Test.YtckjgipkdknmgaaDoorChecked
import GoSem.Claim
import GoSem.ClaimJoined
import GoSem.ClaimMapViews
import Derived.JoinedTies
import Derived.KernelRfl
namespace Go.Proofs.YtckjgipkdknmgaaDoor
/- THE CELL 'sum', in the pinned program and in every row, IS THE sha256 OF THE DUMP (.gsa) THAT YtckjgipkdknmgaaDoorProg.lean LOADS. Nothing in Lean hashes anything: it is a label: what it is worth is what the hold of that sum in a sandbox is worth. -/
noncomputable def Tryd.pinned : Pinned := { name := "ytckjgipkdknmgaadoor", sum := "045f549b5f7e29e49a256aed0e2ee31129a2a55533c6f814db785d10fff3f02f", checked := Tryd.checked }
namespace Rows
def none {H : Type} : Left H := { results := [], args := [] }

/- WHAT THE LISTED PACKAGE-LEVEL VARIABLES READ AS WHEN THE CALL BEGINS. Each datum BY PROGRAM (the guide's laid-datum.mjs) off the statement by which the dump's own 'gosem.cut.vars' lays the variable. In a bare row this is a premise. The card (YtckjgipkdknmgaaDoorCards.lean) ties it to the program's text. -/
def laid_imprimatur_sha2_constants {H : Type} : DataW H := .agg [.lit (.int .u64 4794697086780616226), .lit (.int .u64 8158064640168781261), .lit (.int .u64 13096744586834688815), .lit (.int .u64 16840607885511220156), .lit (.int .u64 4131703408338449720), .lit (.int .u64 6480981068601479193), .lit (.int .u64 10538285296894168987), .lit (.int .u64 12329834152419229976), .lit (.int .u64 15566598209576043074), .lit (.int .u64 1334009975649890238), .lit (.int .u64 2608012711638119052), .lit (.int .u64 6128411473006802146), .lit (.int .u64 8268148722764581231), .lit (.int .u64 9286055187155687089), .lit (.int .u64 11230858885718282805), .lit (.int .u64 13951009754708518548), .lit (.int .u64 16472876342353939154), .lit (.int .u64 17275323862435702243), .lit (.int .u64 1135362057144423861), .lit (.int .u64 2597628984639134821), .lit (.int .u64 3308224258029322869), .lit (.int .u64 5365058923640841347), .lit (.int .u64 6679025012923562964), .lit (.int .u64 8573033837759648693), .lit (.int .u64 10970295158949994411), .lit (.int .u64 12119686244451234320), .lit (.int .u64 12683024718118986047), .lit (.int .u64 13788192230050041572), .lit (.int .u64 14330467153632333762), .lit (.int .u64 15395433587784984357), .lit (.int .u64 489312712824947311), .lit (.int .u64 1452737877330783856), .lit (.int .u64 2861767655752347644), .lit (.int .u64 3322285676063803686), .lit (.int .u64 5560940570517711597), .lit (.int .u64 5996557281743188959), .lit (.int .u64 7280758554555802590), .lit (.int .u64 8532644243296465576), .lit (.int .u64 9350256976987008742), .lit (.int .u64 10552545826968843579), .lit (.int .u64 11727347734174303076), .lit (.int .u64 12113106623233404929), .lit (.int .u64 14000437183269869457), .lit (.int .u64 14369950271660146224), .lit (.int .u64 15101387698204529176), .lit (.int .u64 15463397548674623760), .lit (.int .u64 17586052441742319658), .lit (.int .u64 1182934255886127544), .lit (.int .u64 1847814050463011016), .lit (.int .u64 2177327727835720531), .lit (.int .u64 2830643537854262169), .lit (.int .u64 3796741975233480872), .lit (.int .u64 4115178125766777443), .lit (.int .u64 5681478168544905931), .lit (.int .u64 6601373596472566643), .lit (.int .u64 7507060721942968483), .lit (.int .u64 8399075790359081724), .lit (.int .u64 8693463985226723168), .lit (.int .u64 9568029438360202098), .lit (.int .u64 10144078919501101548), .lit (.int .u64 10430055236837252648), .lit (.int .u64 11840083180663258601), .lit (.int .u64 13761210420658862357), .lit (.int .u64 14299343276471374635), .lit (.int .u64 14566680578165727644), .lit (.int .u64 15097957966210449927), .lit (.int .u64 16922976911328602910), .lit (.int .u64 17689382322260857208), .lit (.int .u64 500013540394364858), .lit (.int .u64 748580250866718886), .lit (.int .u64 1242879168328830382), .lit (.int .u64 1977374033974150939), .lit (.int .u64 2944078676154940804), .lit (.int .u64 3659926193048069267), .lit (.int .u64 4368137639120453308), .lit (.int .u64 4836135668995329356), .lit (.int .u64 5532061633213252278), .lit (.int .u64 6448918945643986474), .lit (.int .u64 6902733635092675308), .lit (.int .u64 7801388544844847127)]
def laid_imprimatur_sha2_starts {H : Type} : DataW H := .agg [.lit (.int .u64 7640891576956012808), .lit (.int .u64 13503953896175478587), .lit (.int .u64 4354685564936845355), .lit (.int .u64 11912009170470909681), .lit (.int .u64 5840696475078001361), .lit (.int .u64 11170449401992604703), .lit (.int .u64 2270897969802886507), .lit (.int .u64 6620516959819538809)]

/-- 'imprimaturlaw02.Sha2Pads': WHATEVER THE INPUT: true; the input reads as it did. -/
def sha2PadsSpec : ChangeSpec := { name := "sha2Pads", fn := fun _ => fun
  | [d1, d2] => { results := [.lit (.bool true)], args := [d1, d2] }
  | _ => none }
def sha2PadsRow : OpenClaim := { program := "ytckjgipkdknmgaadoor", sum := "045f549b5f7e29e49a256aed0e2ee31129a2a55533c6f814db785d10fff3f02f", func := "imprimatur/imprimaturlaw02.Sha2Pads", spec := "sha2Pads", named := ["imprimatur/sha2.starts", "imprimatur/sha2.constants"], apart := false, laid := [("imprimatur/sha2.constants", laid_imprimatur_sha2_constants), ("imprimatur/sha2.starts", laid_imprimatur_sha2_starts)] }
def Sha2PadsSaid : Prop := sha2PadsRow.holds Tryd.pinned (OpenSpec.ofChange sha2PadsSpec)

/-- ITS FALSE NEIGHBOUR: 'it returns false'. Refute it at one input. -/
def sha2PadsWrong : ChangeSpec := { name := "sha2Pads", fn := fun _ => fun
  | [d1, d2] => { results := [.lit (.bool false)], args := [d1, d2] }
  | _ => none }
def Sha2PadsWrongFalsely : Prop := sha2PadsRow.holds Tryd.pinned (OpenSpec.ofChange sha2PadsWrong)

/-- 'imprimaturlaw02.Sha2Asks': WHATEVER THE INPUT: true; the input reads as it did. -/
def sha2AsksSpec : ChangeSpec := { name := "sha2Asks", fn := fun _ => fun
  | [d1, d2, d3, d4] => { results := [.lit (.bool true)], args := [d1, d2, d3, d4] }
  | _ => none }
def sha2AsksRow : OpenClaim := { program := "ytckjgipkdknmgaadoor", sum := "045f549b5f7e29e49a256aed0e2ee31129a2a55533c6f814db785d10fff3f02f", func := "imprimatur/imprimaturlaw02.Sha2Asks", spec := "sha2Asks", named := ["imprimatur/sha2.starts", "imprimatur/sha2.constants"], apart := false, laid := [("imprimatur/sha2.constants", laid_imprimatur_sha2_constants), ("imprimatur/sha2.starts", laid_imprimatur_sha2_starts)] }
def Sha2AsksSaid : Prop := sha2AsksRow.holds Tryd.pinned (OpenSpec.ofChange sha2AsksSpec)

/-- ITS FALSE NEIGHBOUR: 'it returns false'. Refute it at one input. -/
def sha2AsksWrong : ChangeSpec := { name := "sha2Asks", fn := fun _ => fun
  | [d1, d2, d3, d4] => { results := [.lit (.bool false)], args := [d1, d2, d3, d4] }
  | _ => none }
def Sha2AsksWrongFalsely : Prop := sha2AsksRow.holds Tryd.pinned (OpenSpec.ofChange sha2AsksWrong)

/-- 'imprimaturlaw02.Sha2Fills': WHATEVER THE INPUT: true; the input reads as it did. -/
def sha2FillsSpec : ChangeSpec := { name := "sha2Fills", fn := fun _ => fun
  | [d1, d2] => { results := [.lit (.bool true)], args := [d1, d2] }
  | _ => none }
def sha2FillsRow : OpenClaim := { program := "ytckjgipkdknmgaadoor", sum := "045f549b5f7e29e49a256aed0e2ee31129a2a55533c6f814db785d10fff3f02f", func := "imprimatur/imprimaturlaw02.Sha2Fills", spec := "sha2Fills", named := ["imprimatur/sha2.starts", "imprimatur/sha2.constants"], apart := false, laid := [("imprimatur/sha2.constants", laid_imprimatur_sha2_constants), ("imprimatur/sha2.starts", laid_imprimatur_sha2_starts)] }
def Sha2FillsSaid : Prop := sha2FillsRow.holds Tryd.pinned (OpenSpec.ofChange sha2FillsSpec)

/-- ITS FALSE NEIGHBOUR: 'it returns false'. Refute it at one input. -/
def sha2FillsWrong : ChangeSpec := { name := "sha2Fills", fn := fun _ => fun
  | [d1, d2] => { results := [.lit (.bool false)], args := [d1, d2] }
  | _ => none }
def Sha2FillsWrongFalsely : Prop := sha2FillsRow.holds Tryd.pinned (OpenSpec.ofChange sha2FillsWrong)

/-- 'imprimaturlaw02.Sha2Sums': WHATEVER THE INPUT: true; the input reads as it did. -/
def sha2SumsSpec : ChangeSpec := { name := "sha2Sums", fn := fun _ => fun
  | [d1, d2] => { results := [.lit (.bool true)], args := [d1, d2] }
  | _ => none }
def sha2SumsRow : OpenClaim := { program := "ytckjgipkdknmgaadoor", sum := "045f549b5f7e29e49a256aed0e2ee31129a2a55533c6f814db785d10fff3f02f", func := "imprimatur/imprimaturlaw02.Sha2Sums", spec := "sha2Sums", named := ["imprimatur/sha2.starts", "imprimatur/sha2.constants"], apart := false, laid := [("imprimatur/sha2.constants", laid_imprimatur_sha2_constants), ("imprimatur/sha2.starts", laid_imprimatur_sha2_starts)] }
def Sha2SumsSaid : Prop := sha2SumsRow.holds Tryd.pinned (OpenSpec.ofChange sha2SumsSpec)

/-- ITS FALSE NEIGHBOUR: 'it returns false'. Refute it at one input. -/
def sha2SumsWrong : ChangeSpec := { name := "sha2Sums", fn := fun _ => fun
  | [d1, d2] => { results := [.lit (.bool false)], args := [d1, d2] }
  | _ => none }
def Sha2SumsWrongFalsely : Prop := sha2SumsRow.holds Tryd.pinned (OpenSpec.ofChange sha2SumsWrong)

/-- 'imprimaturlaw02.Sha2Lengths': WHATEVER THE INPUT: true; the input reads as it did. -/
def sha2LengthsSpec : ChangeSpec := { name := "sha2Lengths", fn := fun _ => fun
  | [d1, d2, d3] => { results := [.lit (.bool true)], args := [d1, d2, d3] }
  | _ => none }
def sha2LengthsRow : OpenClaim := { program := "ytckjgipkdknmgaadoor", sum := "045f549b5f7e29e49a256aed0e2ee31129a2a55533c6f814db785d10fff3f02f", func := "imprimatur/imprimaturlaw02.Sha2Lengths", spec := "sha2Lengths", named := ["imprimatur/sha2.starts", "imprimatur/sha2.constants"], apart := false, laid := [("imprimatur/sha2.constants", laid_imprimatur_sha2_constants), ("imprimatur/sha2.starts", laid_imprimatur_sha2_starts)] }
def Sha2LengthsSaid : Prop := sha2LengthsRow.holds Tryd.pinned (OpenSpec.ofChange sha2LengthsSpec)

/-- ITS FALSE NEIGHBOUR: 'it returns false'. Refute it at one input. -/
def sha2LengthsWrong : ChangeSpec := { name := "sha2Lengths", fn := fun _ => fun
  | [d1, d2, d3] => { results := [.lit (.bool false)], args := [d1, d2, d3] }
  | _ => none }
def Sha2LengthsWrongFalsely : Prop := sha2LengthsRow.holds Tryd.pinned (OpenSpec.ofChange sha2LengthsWrong)

/-- 'imprimaturlaw02.Sha2Consts': WHATEVER THE INPUT: true; the input reads as it did. -/
def sha2ConstsSpec : ChangeSpec := { name := "sha2Consts", fn := fun _ => fun
  | [d] => { results := [.lit (.bool true)], args := [d] }
  | _ => none }
def sha2ConstsRow : OpenClaim := { program := "ytckjgipkdknmgaadoor", sum := "045f549b5f7e29e49a256aed0e2ee31129a2a55533c6f814db785d10fff3f02f", func := "imprimatur/imprimaturlaw02.Sha2Consts", spec := "sha2Consts", named := ["imprimatur/sha2.constants", "imprimatur/sha2.starts"], apart := false, laid := [("imprimatur/sha2.constants", laid_imprimatur_sha2_constants), ("imprimatur/sha2.starts", laid_imprimatur_sha2_starts)] }
def Sha2ConstsSaid : Prop := sha2ConstsRow.holds Tryd.pinned (OpenSpec.ofChange sha2ConstsSpec)

/-- ITS FALSE NEIGHBOUR: 'it returns false'. Refute it at one input. -/
def sha2ConstsWrong : ChangeSpec := { name := "sha2Consts", fn := fun _ => fun
  | [d] => { results := [.lit (.bool false)], args := [d] }
  | _ => none }
def Sha2ConstsWrongFalsely : Prop := sha2ConstsRow.holds Tryd.pinned (OpenSpec.ofChange sha2ConstsWrong)

/-- 'imprimaturlaw02.Sha2Full': WHATEVER THE INPUT: true; the input reads as it did. -/
def sha2FullSpec : ChangeSpec := { name := "sha2Full", fn := fun _ => fun
  | [d1, d2] => { results := [.lit (.bool true)], args := [d1, d2] }
  | _ => none }
def sha2FullRow : OpenClaim := { program := "ytckjgipkdknmgaadoor", sum := "045f549b5f7e29e49a256aed0e2ee31129a2a55533c6f814db785d10fff3f02f", func := "imprimatur/imprimaturlaw02.Sha2Full", spec := "sha2Full", named := ["imprimatur/sha2.starts", "imprimatur/sha2.constants"], apart := false, laid := [("imprimatur/sha2.constants", laid_imprimatur_sha2_constants), ("imprimatur/sha2.starts", laid_imprimatur_sha2_starts)] }
def Sha2FullSaid : Prop := sha2FullRow.holds Tryd.pinned (OpenSpec.ofChange sha2FullSpec)

/-- ITS FALSE NEIGHBOUR: 'it returns false'. Refute it at one input. -/
def sha2FullWrong : ChangeSpec := { name := "sha2Full", fn := fun _ => fun
  | [d1, d2] => { results := [.lit (.bool false)], args := [d1, d2] }
  | _ => none }
def Sha2FullWrongFalsely : Prop := sha2FullRow.holds Tryd.pinned (OpenSpec.ofChange sha2FullWrong)

/-- 'imprimaturlaw02.Sha2Nil': WHATEVER THE INPUT: true; the input reads as it did. -/
def sha2NilSpec : ChangeSpec := { name := "sha2Nil", fn := fun _ => fun
  | [d1, d2] => { results := [.lit (.bool true)], args := [d1, d2] }
  | _ => none }
def sha2NilRow : OpenClaim := { program := "ytckjgipkdknmgaadoor", sum := "045f549b5f7e29e49a256aed0e2ee31129a2a55533c6f814db785d10fff3f02f", func := "imprimatur/imprimaturlaw02.Sha2Nil", spec := "sha2Nil", named := ["imprimatur/sha2.starts", "imprimatur/sha2.constants"], apart := false, laid := [("imprimatur/sha2.constants", laid_imprimatur_sha2_constants), ("imprimatur/sha2.starts", laid_imprimatur_sha2_starts)] }
def Sha2NilSaid : Prop := sha2NilRow.holds Tryd.pinned (OpenSpec.ofChange sha2NilSpec)

/-- ITS FALSE NEIGHBOUR: 'it returns false'. Refute it at one input. -/
def sha2NilWrong : ChangeSpec := { name := "sha2Nil", fn := fun _ => fun
  | [d1, d2] => { results := [.lit (.bool false)], args := [d1, d2] }
  | _ => none }
def Sha2NilWrongFalsely : Prop := sha2NilRow.holds Tryd.pinned (OpenSpec.ofChange sha2NilWrong)

/-- 'imprimaturlaw02.Sha2Pieces': WHATEVER THE INPUT: true; the input reads as it did. -/
def sha2PiecesSpec : ChangeSpec := { name := "sha2Pieces", fn := fun _ => fun
  | [d1, d2] => { results := [.lit (.bool true)], args := [d1, d2] }
  | _ => none }
def sha2PiecesRow : OpenClaim := { program := "ytckjgipkdknmgaadoor", sum := "045f549b5f7e29e49a256aed0e2ee31129a2a55533c6f814db785d10fff3f02f", func := "imprimatur/imprimaturlaw02.Sha2Pieces", spec := "sha2Pieces", named := ["imprimatur/sha2.starts", "imprimatur/sha2.constants"], apart := false, laid := [("imprimatur/sha2.constants", laid_imprimatur_sha2_constants), ("imprimatur/sha2.starts", laid_imprimatur_sha2_starts)] }
def Sha2PiecesSaid : Prop := sha2PiecesRow.holds Tryd.pinned (OpenSpec.ofChange sha2PiecesSpec)

/-- ITS FALSE NEIGHBOUR: 'it returns false'. Refute it at one input. -/
def sha2PiecesWrong : ChangeSpec := { name := "sha2Pieces", fn := fun _ => fun
  | [d1, d2] => { results := [.lit (.bool false)], args := [d1, d2] }
  | _ => none }
def Sha2PiecesWrongFalsely : Prop := sha2PiecesRow.holds Tryd.pinned (OpenSpec.ofChange sha2PiecesWrong)

/- THE SECOND FORM. 'bulk': how many values and letters a reading holds, each counted each time it is reached (what is shared counts as often as it is met; a slice's spare places count too). A statement '..UptoSaid' is the law's where the arguments, and the package variables that the reading takes, are together of bulk at most 1048576: NARROWER than '..Said'. Prove '..Said' where nothing that the law and all that it calls make is longer than what came in: it says more and counts as full. Else prove '..UptoSaid'. A law counts once. -/
mutual
def uptoBulk {H : Type} : DataW H → Nat
  | .lit (.string bytes) => bytes.length + 1
  | .lit _ => 1
  | .nil => 1
  | .ptr d => uptoBulk d + 1
  | .slice elems spare => uptoBulkAll elems + uptoBulkAll spare + 1
  | .agg parts => uptoBulkAll parts + 1
  | .iface _ d => uptoBulk d + 1
  | .map entries => uptoBulkEntries entries + 1
  | .held _ => 1
def uptoBulkAll {H : Type} : List (DataW H) → Nat
  | [] => 0
  | d :: r => uptoBulk d + uptoBulkAll r
def uptoBulkEntries {H : Type} : List (Lit × DataW H) → Nat
  | [] => 0
  | x :: r => uptoBulkEntry x + uptoBulkEntries r
def uptoBulkEntry {H : Type} : Lit × DataW H → Nat
  | (.string bytes, d) => bytes.length + uptoBulk d + 1
  | (_, d) => uptoBulk d + 1
 end
def uptoSmall : (H : Type) → List (DataW H) → Bool := fun _ ds => decide (uptoBulkAll ds ≤ 1048576)
def OpenSpec.upto (s : _root_.Go.ChangeSpec) : _root_.Go.OpenSpec := { _root_.Go.OpenSpec.ofChange s with cond := some uptoSmall }

/-- 'imprimaturlaw02.Sha2Pads', WHERE WHAT IT READS IS OF BULK AT MOST 1048576: true; the input reads as it did. -/
def sha2PadsUptoRow : OpenClaim := { program := "ytckjgipkdknmgaadoor", sum := "045f549b5f7e29e49a256aed0e2ee31129a2a55533c6f814db785d10fff3f02f", func := "imprimatur/imprimaturlaw02.Sha2Pads", spec := "sha2Pads", named := ["imprimatur/sha2.starts", "imprimatur/sha2.constants"], apart := false, laid := [("imprimatur/sha2.constants", laid_imprimatur_sha2_constants), ("imprimatur/sha2.starts", laid_imprimatur_sha2_starts)], narrowed := true }
def Sha2PadsUptoSaid : Prop := sha2PadsUptoRow.holds Tryd.pinned (OpenSpec.upto sha2PadsSpec)

/-- 'imprimaturlaw02.Sha2Asks', WHERE WHAT IT READS IS OF BULK AT MOST 1048576: true; the input reads as it did. -/
def sha2AsksUptoRow : OpenClaim := { program := "ytckjgipkdknmgaadoor", sum := "045f549b5f7e29e49a256aed0e2ee31129a2a55533c6f814db785d10fff3f02f", func := "imprimatur/imprimaturlaw02.Sha2Asks", spec := "sha2Asks", named := ["imprimatur/sha2.starts", "imprimatur/sha2.constants"], apart := false, laid := [("imprimatur/sha2.constants", laid_imprimatur_sha2_constants), ("imprimatur/sha2.starts", laid_imprimatur_sha2_starts)], narrowed := true }
def Sha2AsksUptoSaid : Prop := sha2AsksUptoRow.holds Tryd.pinned (OpenSpec.upto sha2AsksSpec)

/-- 'imprimaturlaw02.Sha2Fills', WHERE WHAT IT READS IS OF BULK AT MOST 1048576: true; the input reads as it did. -/
def sha2FillsUptoRow : OpenClaim := { program := "ytckjgipkdknmgaadoor", sum := "045f549b5f7e29e49a256aed0e2ee31129a2a55533c6f814db785d10fff3f02f", func := "imprimatur/imprimaturlaw02.Sha2Fills", spec := "sha2Fills", named := ["imprimatur/sha2.starts", "imprimatur/sha2.constants"], apart := false, laid := [("imprimatur/sha2.constants", laid_imprimatur_sha2_constants), ("imprimatur/sha2.starts", laid_imprimatur_sha2_starts)], narrowed := true }
def Sha2FillsUptoSaid : Prop := sha2FillsUptoRow.holds Tryd.pinned (OpenSpec.upto sha2FillsSpec)

/-- 'imprimaturlaw02.Sha2Sums', WHERE WHAT IT READS IS OF BULK AT MOST 1048576: true; the input reads as it did. -/
def sha2SumsUptoRow : OpenClaim := { program := "ytckjgipkdknmgaadoor", sum := "045f549b5f7e29e49a256aed0e2ee31129a2a55533c6f814db785d10fff3f02f", func := "imprimatur/imprimaturlaw02.Sha2Sums", spec := "sha2Sums", named := ["imprimatur/sha2.starts", "imprimatur/sha2.constants"], apart := false, laid := [("imprimatur/sha2.constants", laid_imprimatur_sha2_constants), ("imprimatur/sha2.starts", laid_imprimatur_sha2_starts)], narrowed := true }
def Sha2SumsUptoSaid : Prop := sha2SumsUptoRow.holds Tryd.pinned (OpenSpec.upto sha2SumsSpec)

/-- 'imprimaturlaw02.Sha2Lengths', WHERE WHAT IT READS IS OF BULK AT MOST 1048576: true; the input reads as it did. -/
def sha2LengthsUptoRow : OpenClaim := { program := "ytckjgipkdknmgaadoor", sum := "045f549b5f7e29e49a256aed0e2ee31129a2a55533c6f814db785d10fff3f02f", func := "imprimatur/imprimaturlaw02.Sha2Lengths", spec := "sha2Lengths", named := ["imprimatur/sha2.starts", "imprimatur/sha2.constants"], apart := false, laid := [("imprimatur/sha2.constants", laid_imprimatur_sha2_constants), ("imprimatur/sha2.starts", laid_imprimatur_sha2_starts)], narrowed := true }
def Sha2LengthsUptoSaid : Prop := sha2LengthsUptoRow.holds Tryd.pinned (OpenSpec.upto sha2LengthsSpec)

/-- 'imprimaturlaw02.Sha2Consts', WHERE WHAT IT READS IS OF BULK AT MOST 1048576: true; the input reads as it did. -/
def sha2ConstsUptoRow : OpenClaim := { program := "ytckjgipkdknmgaadoor", sum := "045f549b5f7e29e49a256aed0e2ee31129a2a55533c6f814db785d10fff3f02f", func := "imprimatur/imprimaturlaw02.Sha2Consts", spec := "sha2Consts", named := ["imprimatur/sha2.constants", "imprimatur/sha2.starts"], apart := false, laid := [("imprimatur/sha2.constants", laid_imprimatur_sha2_constants), ("imprimatur/sha2.starts", laid_imprimatur_sha2_starts)], narrowed := true }
def Sha2ConstsUptoSaid : Prop := sha2ConstsUptoRow.holds Tryd.pinned (OpenSpec.upto sha2ConstsSpec)

/-- 'imprimaturlaw02.Sha2Full', WHERE WHAT IT READS IS OF BULK AT MOST 1048576: true; the input reads as it did. -/
def sha2FullUptoRow : OpenClaim := { program := "ytckjgipkdknmgaadoor", sum := "045f549b5f7e29e49a256aed0e2ee31129a2a55533c6f814db785d10fff3f02f", func := "imprimatur/imprimaturlaw02.Sha2Full", spec := "sha2Full", named := ["imprimatur/sha2.starts", "imprimatur/sha2.constants"], apart := false, laid := [("imprimatur/sha2.constants", laid_imprimatur_sha2_constants), ("imprimatur/sha2.starts", laid_imprimatur_sha2_starts)], narrowed := true }
def Sha2FullUptoSaid : Prop := sha2FullUptoRow.holds Tryd.pinned (OpenSpec.upto sha2FullSpec)

/-- 'imprimaturlaw02.Sha2Nil', WHERE WHAT IT READS IS OF BULK AT MOST 1048576: true; the input reads as it did. -/
def sha2NilUptoRow : OpenClaim := { program := "ytckjgipkdknmgaadoor", sum := "045f549b5f7e29e49a256aed0e2ee31129a2a55533c6f814db785d10fff3f02f", func := "imprimatur/imprimaturlaw02.Sha2Nil", spec := "sha2Nil", named := ["imprimatur/sha2.starts", "imprimatur/sha2.constants"], apart := false, laid := [("imprimatur/sha2.constants", laid_imprimatur_sha2_constants), ("imprimatur/sha2.starts", laid_imprimatur_sha2_starts)], narrowed := true }
def Sha2NilUptoSaid : Prop := sha2NilUptoRow.holds Tryd.pinned (OpenSpec.upto sha2NilSpec)

/-- 'imprimaturlaw02.Sha2Pieces', WHERE WHAT IT READS IS OF BULK AT MOST 1048576: true; the input reads as it did. -/
def sha2PiecesUptoRow : OpenClaim := { program := "ytckjgipkdknmgaadoor", sum := "045f549b5f7e29e49a256aed0e2ee31129a2a55533c6f814db785d10fff3f02f", func := "imprimatur/imprimaturlaw02.Sha2Pieces", spec := "sha2Pieces", named := ["imprimatur/sha2.starts", "imprimatur/sha2.constants"], apart := false, laid := [("imprimatur/sha2.constants", laid_imprimatur_sha2_constants), ("imprimatur/sha2.starts", laid_imprimatur_sha2_starts)], narrowed := true }
def Sha2PiecesUptoSaid : Prop := sha2PiecesUptoRow.holds Tryd.pinned (OpenSpec.upto sha2PiecesSpec)

end Rows
end Go.Proofs.YtckjgipkdknmgaaDoor
