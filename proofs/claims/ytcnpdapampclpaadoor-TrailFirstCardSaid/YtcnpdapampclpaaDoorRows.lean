/-
  NARROWER THAN 'FOR EVERY INPUT', by the rows' own cells (each row's printed sentence says how): TrailTops: laid · TrailLong: laid · TrailWays: laid · TrailStays: laid · TrailNil: laid · TrailIns: laid · TrailOnly: laid · TrailBegins: laid · TrailFirst: laid · TrailOwn: laid.
  DERIVED. THE GIVEN ROWS OF THIS SEAT. 10 by the template 'for every input the law returns true; each argument reads behind the call as it read before'; 0 by the template 'total and deterministic' (their statements: YtcnpdapampclpaaDoorTotals.lean).
  GIVEN WITH THE SEED: the statements are not yours to turn. If you find one false, say at which input.
  Laid BY PROGRAM, IN A SANDBOX (cutbox-rows.mjs): the forced cells as the released guide's own fill.sh prints them over the translation 3bfcecabc360c9fa… (all of the seat's roots in one cut). By AI agents, Wed Nov 11 2026. No macro, syntax, notation, axiom, sorry.
-/
import Derived.Test.YtcnpdapampclpaaDoorChecked
import GoSem.Claim
import GoSem.ClaimJoined
import GoSem.ClaimMapViews
import Derived.JoinedTies
import Derived.KernelRfl
namespace Go.Proofs.YtcnpdapampclpaaDoor
/- THE CELL 'sum', in the pinned program and in every row, IS THE sha256 OF THE DUMP (.gsa) THAT YtcnpdapampclpaaDoorProg.lean LOADS. Nothing in Lean hashes anything: it is a label: what it is worth is what the hold of that sum in a sandbox is worth. -/
noncomputable def Tryd.pinned : Pinned := { name := "ytcnpdapampclpaadoor", sum := "3bfcecabc360c9faf8bc5e84f31feb459b1de0e682c532c960097f7e065da095", checked := Tryd.checked }
namespace Rows
def none {H : Type} : Left H := { results := [], args := [] }

/- WHAT THE LISTED PACKAGE-LEVEL VARIABLES READ AS WHEN THE CALL BEGINS. Each datum BY PROGRAM (the guide's laid-datum.mjs) off the statement by which the dump's own 'gosem.cut.vars' lays the variable. In a bare row this is a premise. The card (YtcnpdapampclpaaDoorCards.lean) ties it to the program's text. -/
def laid_imprimatur_sha2_constants {H : Type} : DataW H := .agg [.lit (.int .u64 4794697086780616226), .lit (.int .u64 8158064640168781261), .lit (.int .u64 13096744586834688815), .lit (.int .u64 16840607885511220156), .lit (.int .u64 4131703408338449720), .lit (.int .u64 6480981068601479193), .lit (.int .u64 10538285296894168987), .lit (.int .u64 12329834152419229976), .lit (.int .u64 15566598209576043074), .lit (.int .u64 1334009975649890238), .lit (.int .u64 2608012711638119052), .lit (.int .u64 6128411473006802146), .lit (.int .u64 8268148722764581231), .lit (.int .u64 9286055187155687089), .lit (.int .u64 11230858885718282805), .lit (.int .u64 13951009754708518548), .lit (.int .u64 16472876342353939154), .lit (.int .u64 17275323862435702243), .lit (.int .u64 1135362057144423861), .lit (.int .u64 2597628984639134821), .lit (.int .u64 3308224258029322869), .lit (.int .u64 5365058923640841347), .lit (.int .u64 6679025012923562964), .lit (.int .u64 8573033837759648693), .lit (.int .u64 10970295158949994411), .lit (.int .u64 12119686244451234320), .lit (.int .u64 12683024718118986047), .lit (.int .u64 13788192230050041572), .lit (.int .u64 14330467153632333762), .lit (.int .u64 15395433587784984357), .lit (.int .u64 489312712824947311), .lit (.int .u64 1452737877330783856), .lit (.int .u64 2861767655752347644), .lit (.int .u64 3322285676063803686), .lit (.int .u64 5560940570517711597), .lit (.int .u64 5996557281743188959), .lit (.int .u64 7280758554555802590), .lit (.int .u64 8532644243296465576), .lit (.int .u64 9350256976987008742), .lit (.int .u64 10552545826968843579), .lit (.int .u64 11727347734174303076), .lit (.int .u64 12113106623233404929), .lit (.int .u64 14000437183269869457), .lit (.int .u64 14369950271660146224), .lit (.int .u64 15101387698204529176), .lit (.int .u64 15463397548674623760), .lit (.int .u64 17586052441742319658), .lit (.int .u64 1182934255886127544), .lit (.int .u64 1847814050463011016), .lit (.int .u64 2177327727835720531), .lit (.int .u64 2830643537854262169), .lit (.int .u64 3796741975233480872), .lit (.int .u64 4115178125766777443), .lit (.int .u64 5681478168544905931), .lit (.int .u64 6601373596472566643), .lit (.int .u64 7507060721942968483), .lit (.int .u64 8399075790359081724), .lit (.int .u64 8693463985226723168), .lit (.int .u64 9568029438360202098), .lit (.int .u64 10144078919501101548), .lit (.int .u64 10430055236837252648), .lit (.int .u64 11840083180663258601), .lit (.int .u64 13761210420658862357), .lit (.int .u64 14299343276471374635), .lit (.int .u64 14566680578165727644), .lit (.int .u64 15097957966210449927), .lit (.int .u64 16922976911328602910), .lit (.int .u64 17689382322260857208), .lit (.int .u64 500013540394364858), .lit (.int .u64 748580250866718886), .lit (.int .u64 1242879168328830382), .lit (.int .u64 1977374033974150939), .lit (.int .u64 2944078676154940804), .lit (.int .u64 3659926193048069267), .lit (.int .u64 4368137639120453308), .lit (.int .u64 4836135668995329356), .lit (.int .u64 5532061633213252278), .lit (.int .u64 6448918945643986474), .lit (.int .u64 6902733635092675308), .lit (.int .u64 7801388544844847127)]
def laid_imprimatur_sha2_starts {H : Type} : DataW H := .agg [.lit (.int .u64 7640891576956012808), .lit (.int .u64 13503953896175478587), .lit (.int .u64 4354685564936845355), .lit (.int .u64 11912009170470909681), .lit (.int .u64 5840696475078001361), .lit (.int .u64 11170449401992604703), .lit (.int .u64 2270897969802886507), .lit (.int .u64 6620516959819538809)]

/-- 'imprimaturlaw20.TrailTops': WHATEVER THE INPUT: true; the input reads as it did. -/
def trailTopsSpec : ChangeSpec := { name := "trailTops", fn := fun _ => fun
  | [d1, d2, d3] => { results := [.lit (.bool true)], args := [d1, d2, d3] }
  | _ => none }
def trailTopsRow : OpenClaim := { program := "ytcnpdapampclpaadoor", sum := "3bfcecabc360c9faf8bc5e84f31feb459b1de0e682c532c960097f7e065da095", func := "imprimatur/imprimaturlaw20.TrailTops", spec := "trailTops", recurses := true, named := ["imprimatur/sha2.starts", "imprimatur/sha2.constants"], apart := false, laid := [("imprimatur/sha2.constants", laid_imprimatur_sha2_constants), ("imprimatur/sha2.starts", laid_imprimatur_sha2_starts)] }
def TrailTopsSaid : Prop := trailTopsRow.holds Tryd.pinned (OpenSpec.ofChange trailTopsSpec)

/-- ITS FALSE NEIGHBOUR: 'it returns false'. Refute it at one input. -/
def trailTopsWrong : ChangeSpec := { name := "trailTops", fn := fun _ => fun
  | [d1, d2, d3] => { results := [.lit (.bool false)], args := [d1, d2, d3] }
  | _ => none }
def TrailTopsWrongFalsely : Prop := trailTopsRow.holds Tryd.pinned (OpenSpec.ofChange trailTopsWrong)

/-- 'imprimaturlaw20.TrailLong': WHATEVER THE INPUT: true; the input reads as it did. -/
def trailLongSpec : ChangeSpec := { name := "trailLong", fn := fun _ => fun
  | [d] => { results := [.lit (.bool true)], args := [d] }
  | _ => none }
def trailLongRow : OpenClaim := { program := "ytcnpdapampclpaadoor", sum := "3bfcecabc360c9faf8bc5e84f31feb459b1de0e682c532c960097f7e065da095", func := "imprimatur/imprimaturlaw20.TrailLong", spec := "trailLong", recurses := true, named := ["imprimatur/sha2.starts", "imprimatur/sha2.constants"], apart := false, laid := [("imprimatur/sha2.constants", laid_imprimatur_sha2_constants), ("imprimatur/sha2.starts", laid_imprimatur_sha2_starts)] }
def TrailLongSaid : Prop := trailLongRow.holds Tryd.pinned (OpenSpec.ofChange trailLongSpec)

/-- ITS FALSE NEIGHBOUR: 'it returns false'. Refute it at one input. -/
def trailLongWrong : ChangeSpec := { name := "trailLong", fn := fun _ => fun
  | [d] => { results := [.lit (.bool false)], args := [d] }
  | _ => none }
def TrailLongWrongFalsely : Prop := trailLongRow.holds Tryd.pinned (OpenSpec.ofChange trailLongWrong)

/-- 'imprimaturlaw20.TrailWays': WHATEVER THE INPUT: true; the input reads as it did. -/
def trailWaysSpec : ChangeSpec := { name := "trailWays", fn := fun _ => fun
  | [d1, d2, d3, d4] => { results := [.lit (.bool true)], args := [d1, d2, d3, d4] }
  | _ => none }
def trailWaysRow : OpenClaim := { program := "ytcnpdapampclpaadoor", sum := "3bfcecabc360c9faf8bc5e84f31feb459b1de0e682c532c960097f7e065da095", func := "imprimatur/imprimaturlaw20.TrailWays", spec := "trailWays", recurses := true, named := ["imprimatur/sha2.starts", "imprimatur/sha2.constants"], apart := false, laid := [("imprimatur/sha2.constants", laid_imprimatur_sha2_constants), ("imprimatur/sha2.starts", laid_imprimatur_sha2_starts)] }
def TrailWaysSaid : Prop := trailWaysRow.holds Tryd.pinned (OpenSpec.ofChange trailWaysSpec)

/-- ITS FALSE NEIGHBOUR: 'it returns false'. Refute it at one input. -/
def trailWaysWrong : ChangeSpec := { name := "trailWays", fn := fun _ => fun
  | [d1, d2, d3, d4] => { results := [.lit (.bool false)], args := [d1, d2, d3, d4] }
  | _ => none }
def TrailWaysWrongFalsely : Prop := trailWaysRow.holds Tryd.pinned (OpenSpec.ofChange trailWaysWrong)

/-- 'imprimaturlaw20.TrailStays': WHATEVER THE INPUT: true; the input reads as it did. -/
def trailStaysSpec : ChangeSpec := { name := "trailStays", fn := fun _ => fun
  | [d1, d2, d3, d4, d5] => { results := [.lit (.bool true)], args := [d1, d2, d3, d4, d5] }
  | _ => none }
def trailStaysRow : OpenClaim := { program := "ytcnpdapampclpaadoor", sum := "3bfcecabc360c9faf8bc5e84f31feb459b1de0e682c532c960097f7e065da095", func := "imprimatur/imprimaturlaw20.TrailStays", spec := "trailStays", recurses := true, named := ["imprimatur/sha2.starts", "imprimatur/sha2.constants"], apart := false, laid := [("imprimatur/sha2.constants", laid_imprimatur_sha2_constants), ("imprimatur/sha2.starts", laid_imprimatur_sha2_starts)] }
def TrailStaysSaid : Prop := trailStaysRow.holds Tryd.pinned (OpenSpec.ofChange trailStaysSpec)

/-- ITS FALSE NEIGHBOUR: 'it returns false'. Refute it at one input. -/
def trailStaysWrong : ChangeSpec := { name := "trailStays", fn := fun _ => fun
  | [d1, d2, d3, d4, d5] => { results := [.lit (.bool false)], args := [d1, d2, d3, d4, d5] }
  | _ => none }
def TrailStaysWrongFalsely : Prop := trailStaysRow.holds Tryd.pinned (OpenSpec.ofChange trailStaysWrong)

/-- 'imprimaturlaw20.TrailNil': WHATEVER THE INPUT: true; the input reads as it did. -/
def trailNilSpec : ChangeSpec := { name := "trailNil", fn := fun _ => fun
  | [d1, d2, d3] => { results := [.lit (.bool true)], args := [d1, d2, d3] }
  | _ => none }
def trailNilRow : OpenClaim := { program := "ytcnpdapampclpaadoor", sum := "3bfcecabc360c9faf8bc5e84f31feb459b1de0e682c532c960097f7e065da095", func := "imprimatur/imprimaturlaw20.TrailNil", spec := "trailNil", recurses := true, named := ["imprimatur/sha2.starts", "imprimatur/sha2.constants"], apart := false, laid := [("imprimatur/sha2.constants", laid_imprimatur_sha2_constants), ("imprimatur/sha2.starts", laid_imprimatur_sha2_starts)] }
def TrailNilSaid : Prop := trailNilRow.holds Tryd.pinned (OpenSpec.ofChange trailNilSpec)

/-- ITS FALSE NEIGHBOUR: 'it returns false'. Refute it at one input. -/
def trailNilWrong : ChangeSpec := { name := "trailNil", fn := fun _ => fun
  | [d1, d2, d3] => { results := [.lit (.bool false)], args := [d1, d2, d3] }
  | _ => none }
def TrailNilWrongFalsely : Prop := trailNilRow.holds Tryd.pinned (OpenSpec.ofChange trailNilWrong)

/-- 'imprimaturlaw20.TrailIns': WHATEVER THE INPUT: true; the input reads as it did. -/
def trailInsSpec : ChangeSpec := { name := "trailIns", fn := fun _ => fun
  | [d1, d2, d3, d4, d5] => { results := [.lit (.bool true)], args := [d1, d2, d3, d4, d5] }
  | _ => none }
def trailInsRow : OpenClaim := { program := "ytcnpdapampclpaadoor", sum := "3bfcecabc360c9faf8bc5e84f31feb459b1de0e682c532c960097f7e065da095", func := "imprimatur/imprimaturlaw20.TrailIns", spec := "trailIns", unfollowed := true, recurses := true, named := ["imprimatur/sha2.starts", "imprimatur/sha2.constants"], apart := false, laid := [("imprimatur/sha2.constants", laid_imprimatur_sha2_constants), ("imprimatur/sha2.starts", laid_imprimatur_sha2_starts)] }
def TrailInsSaid : Prop := trailInsRow.holds Tryd.pinned (OpenSpec.ofChange trailInsSpec)

/-- ITS FALSE NEIGHBOUR: 'it returns false'. Refute it at one input. -/
def trailInsWrong : ChangeSpec := { name := "trailIns", fn := fun _ => fun
  | [d1, d2, d3, d4, d5] => { results := [.lit (.bool false)], args := [d1, d2, d3, d4, d5] }
  | _ => none }
def TrailInsWrongFalsely : Prop := trailInsRow.holds Tryd.pinned (OpenSpec.ofChange trailInsWrong)

/-- 'imprimaturlaw20.TrailOnly': WHATEVER THE INPUT: true; the input reads as it did. -/
def trailOnlySpec : ChangeSpec := { name := "trailOnly", fn := fun _ => fun
  | [d1, d2, d3, d4, d5] => { results := [.lit (.bool true)], args := [d1, d2, d3, d4, d5] }
  | _ => none }
def trailOnlyRow : OpenClaim := { program := "ytcnpdapampclpaadoor", sum := "3bfcecabc360c9faf8bc5e84f31feb459b1de0e682c532c960097f7e065da095", func := "imprimatur/imprimaturlaw20.TrailOnly", spec := "trailOnly", unfollowed := true, recurses := true, named := ["imprimatur/sha2.starts", "imprimatur/sha2.constants"], apart := false, laid := [("imprimatur/sha2.constants", laid_imprimatur_sha2_constants), ("imprimatur/sha2.starts", laid_imprimatur_sha2_starts)] }
def TrailOnlySaid : Prop := trailOnlyRow.holds Tryd.pinned (OpenSpec.ofChange trailOnlySpec)

/-- ITS FALSE NEIGHBOUR: 'it returns false'. Refute it at one input. -/
def trailOnlyWrong : ChangeSpec := { name := "trailOnly", fn := fun _ => fun
  | [d1, d2, d3, d4, d5] => { results := [.lit (.bool false)], args := [d1, d2, d3, d4, d5] }
  | _ => none }
def TrailOnlyWrongFalsely : Prop := trailOnlyRow.holds Tryd.pinned (OpenSpec.ofChange trailOnlyWrong)

/-- 'imprimaturlaw20.TrailBegins': WHATEVER THE INPUT: true; the input reads as it did. -/
def trailBeginsSpec : ChangeSpec := { name := "trailBegins", fn := fun _ => fun
  | [d1, d2, d3, d4, d5, d6] => { results := [.lit (.bool true)], args := [d1, d2, d3, d4, d5, d6] }
  | _ => none }
def trailBeginsRow : OpenClaim := { program := "ytcnpdapampclpaadoor", sum := "3bfcecabc360c9faf8bc5e84f31feb459b1de0e682c532c960097f7e065da095", func := "imprimatur/imprimaturlaw20.TrailBegins", spec := "trailBegins", unfollowed := true, recurses := true, named := ["imprimatur/sha2.starts", "imprimatur/sha2.constants"], apart := false, laid := [("imprimatur/sha2.constants", laid_imprimatur_sha2_constants), ("imprimatur/sha2.starts", laid_imprimatur_sha2_starts)] }
def TrailBeginsSaid : Prop := trailBeginsRow.holds Tryd.pinned (OpenSpec.ofChange trailBeginsSpec)

/-- ITS FALSE NEIGHBOUR: 'it returns false'. Refute it at one input. -/
def trailBeginsWrong : ChangeSpec := { name := "trailBegins", fn := fun _ => fun
  | [d1, d2, d3, d4, d5, d6] => { results := [.lit (.bool false)], args := [d1, d2, d3, d4, d5, d6] }
  | _ => none }
def TrailBeginsWrongFalsely : Prop := trailBeginsRow.holds Tryd.pinned (OpenSpec.ofChange trailBeginsWrong)

/-- 'imprimaturlaw20.TrailFirst': WHATEVER THE INPUT: true; the input reads as it did. -/
def trailFirstSpec : ChangeSpec := { name := "trailFirst", fn := fun _ => fun
  | [d1, d2, d3, d4, d5, d6] => { results := [.lit (.bool true)], args := [d1, d2, d3, d4, d5, d6] }
  | _ => none }
def trailFirstRow : OpenClaim := { program := "ytcnpdapampclpaadoor", sum := "3bfcecabc360c9faf8bc5e84f31feb459b1de0e682c532c960097f7e065da095", func := "imprimatur/imprimaturlaw20.TrailFirst", spec := "trailFirst", unfollowed := true, recurses := true, named := ["imprimatur/sha2.starts", "imprimatur/sha2.constants"], apart := false, laid := [("imprimatur/sha2.constants", laid_imprimatur_sha2_constants), ("imprimatur/sha2.starts", laid_imprimatur_sha2_starts)] }
def TrailFirstSaid : Prop := trailFirstRow.holds Tryd.pinned (OpenSpec.ofChange trailFirstSpec)

/-- ITS FALSE NEIGHBOUR: 'it returns false'. Refute it at one input. -/
def trailFirstWrong : ChangeSpec := { name := "trailFirst", fn := fun _ => fun
  | [d1, d2, d3, d4, d5, d6] => { results := [.lit (.bool false)], args := [d1, d2, d3, d4, d5, d6] }
  | _ => none }
def TrailFirstWrongFalsely : Prop := trailFirstRow.holds Tryd.pinned (OpenSpec.ofChange trailFirstWrong)

/-- 'imprimaturlaw20.TrailOwn': WHATEVER THE INPUT: true; the input reads as it did. -/
def trailOwnSpec : ChangeSpec := { name := "trailOwn", fn := fun _ => fun
  | [d1, d2, d3, d4] => { results := [.lit (.bool true)], args := [d1, d2, d3, d4] }
  | _ => none }
def trailOwnRow : OpenClaim := { program := "ytcnpdapampclpaadoor", sum := "3bfcecabc360c9faf8bc5e84f31feb459b1de0e682c532c960097f7e065da095", func := "imprimatur/imprimaturlaw20.TrailOwn", spec := "trailOwn", unfollowed := true, recurses := true, named := ["imprimatur/sha2.starts", "imprimatur/sha2.constants"], apart := false, laid := [("imprimatur/sha2.constants", laid_imprimatur_sha2_constants), ("imprimatur/sha2.starts", laid_imprimatur_sha2_starts)] }
def TrailOwnSaid : Prop := trailOwnRow.holds Tryd.pinned (OpenSpec.ofChange trailOwnSpec)

/-- ITS FALSE NEIGHBOUR: 'it returns false'. Refute it at one input. -/
def trailOwnWrong : ChangeSpec := { name := "trailOwn", fn := fun _ => fun
  | [d1, d2, d3, d4] => { results := [.lit (.bool false)], args := [d1, d2, d3, d4] }
  | _ => none }
def TrailOwnWrongFalsely : Prop := trailOwnRow.holds Tryd.pinned (OpenSpec.ofChange trailOwnWrong)

/- THE SECOND FORM. 'bulk': how many values and letters a reading holds, each counted each time it is reached (what is shared counts as often as it is met; a slice's spare places count too). A statement '..UptoSaid' is the law's where the arguments, and the package variables that the reading takes, are together of bulk at most 1048576: NARROWER than '..Said'. Prove '..Said' where nothing that the law and all that it calls make is longer than what came in: it says more and counts as full. Else prove '..UptoSaid'. A law counts once. -/
mutual
def uptoBulk {H : Type} : DataW H → Nat
  | .lit (.string bytes) => bytes.length + 1
  | .lit _ => 1
  | .nil => 1
  | .ptr d => uptoBulk d + 1
  | .slice elems spare => uptoBulkAll elems + uptoBulkAll spare + 1
  | .agg parts => uptoBulkAll parts + 1
  | .iface _ d => uptoBulk d + 1
  | .map entries => uptoBulkEntries entries + 1
  | .held _ => 1
def uptoBulkAll {H : Type} : List (DataW H) → Nat
  | [] => 0
  | d :: r => uptoBulk d + uptoBulkAll r
def uptoBulkEntries {H : Type} : List (Lit × DataW H) → Nat
  | [] => 0
  | x :: r => uptoBulkEntry x + uptoBulkEntries r
def uptoBulkEntry {H : Type} : Lit × DataW H → Nat
  | (.string bytes, d) => bytes.length + uptoBulk d + 1
  | (_, d) => uptoBulk d + 1
 end
def uptoSmall : (H : Type) → List (DataW H) → Bool := fun _ ds => decide (uptoBulkAll ds ≤ 1048576)
def OpenSpec.upto (s : _root_.Go.ChangeSpec) : _root_.Go.OpenSpec := { _root_.Go.OpenSpec.ofChange s with cond := some uptoSmall }

/-- 'imprimaturlaw20.TrailTops', WHERE WHAT IT READS IS OF BULK AT MOST 1048576: true; the input reads as it did. -/
def trailTopsUptoRow : OpenClaim := { program := "ytcnpdapampclpaadoor", sum := "3bfcecabc360c9faf8bc5e84f31feb459b1de0e682c532c960097f7e065da095", func := "imprimatur/imprimaturlaw20.TrailTops", spec := "trailTops", recurses := true, named := ["imprimatur/sha2.starts", "imprimatur/sha2.constants"], apart := false, laid := [("imprimatur/sha2.constants", laid_imprimatur_sha2_constants), ("imprimatur/sha2.starts", laid_imprimatur_sha2_starts)], narrowed := true }
def TrailTopsUptoSaid : Prop := trailTopsUptoRow.holds Tryd.pinned (OpenSpec.upto trailTopsSpec)

/-- 'imprimaturlaw20.TrailLong', WHERE WHAT IT READS IS OF BULK AT MOST 1048576: true; the input reads as it did. -/
def trailLongUptoRow : OpenClaim := { program := "ytcnpdapampclpaadoor", sum := "3bfcecabc360c9faf8bc5e84f31feb459b1de0e682c532c960097f7e065da095", func := "imprimatur/imprimaturlaw20.TrailLong", spec := "trailLong", recurses := true, named := ["imprimatur/sha2.starts", "imprimatur/sha2.constants"], apart := false, laid := [("imprimatur/sha2.constants", laid_imprimatur_sha2_constants), ("imprimatur/sha2.starts", laid_imprimatur_sha2_starts)], narrowed := true }
def TrailLongUptoSaid : Prop := trailLongUptoRow.holds Tryd.pinned (OpenSpec.upto trailLongSpec)

/-- 'imprimaturlaw20.TrailWays', WHERE WHAT IT READS IS OF BULK AT MOST 1048576: true; the input reads as it did. -/
def trailWaysUptoRow : OpenClaim := { program := "ytcnpdapampclpaadoor", sum := "3bfcecabc360c9faf8bc5e84f31feb459b1de0e682c532c960097f7e065da095", func := "imprimatur/imprimaturlaw20.TrailWays", spec := "trailWays", recurses := true, named := ["imprimatur/sha2.starts", "imprimatur/sha2.constants"], apart := false, laid := [("imprimatur/sha2.constants", laid_imprimatur_sha2_constants), ("imprimatur/sha2.starts", laid_imprimatur_sha2_starts)], narrowed := true }
def TrailWaysUptoSaid : Prop := trailWaysUptoRow.holds Tryd.pinned (OpenSpec.upto trailWaysSpec)

/-- 'imprimaturlaw20.TrailStays', WHERE WHAT IT READS IS OF BULK AT MOST 1048576: true; the input reads as it did. -/
def trailStaysUptoRow : OpenClaim := { program := "ytcnpdapampclpaadoor", sum := "3bfcecabc360c9faf8bc5e84f31feb459b1de0e682c532c960097f7e065da095", func := "imprimatur/imprimaturlaw20.TrailStays", spec := "trailStays", recurses := true, named := ["imprimatur/sha2.starts", "imprimatur/sha2.constants"], apart := false, laid := [("imprimatur/sha2.constants", laid_imprimatur_sha2_constants), ("imprimatur/sha2.starts", laid_imprimatur_sha2_starts)], narrowed := true }
def TrailStaysUptoSaid : Prop := trailStaysUptoRow.holds Tryd.pinned (OpenSpec.upto trailStaysSpec)

/-- 'imprimaturlaw20.TrailNil', WHERE WHAT IT READS IS OF BULK AT MOST 1048576: true; the input reads as it did. -/
def trailNilUptoRow : OpenClaim := { program := "ytcnpdapampclpaadoor", sum := "3bfcecabc360c9faf8bc5e84f31feb459b1de0e682c532c960097f7e065da095", func := "imprimatur/imprimaturlaw20.TrailNil", spec := "trailNil", recurses := true, named := ["imprimatur/sha2.starts", "imprimatur/sha2.constants"], apart := false, laid := [("imprimatur/sha2.constants", laid_imprimatur_sha2_constants), ("imprimatur/sha2.starts", laid_imprimatur_sha2_starts)], narrowed := true }
def TrailNilUptoSaid : Prop := trailNilUptoRow.holds Tryd.pinned (OpenSpec.upto trailNilSpec)

/-- 'imprimaturlaw20.TrailIns', WHERE WHAT IT READS IS OF BULK AT MOST 1048576: true; the input reads as it did. -/
def trailInsUptoRow : OpenClaim := { program := "ytcnpdapampclpaadoor", sum := "3bfcecabc360c9faf8bc5e84f31feb459b1de0e682c532c960097f7e065da095", func := "imprimatur/imprimaturlaw20.TrailIns", spec := "trailIns", unfollowed := true, recurses := true, named := ["imprimatur/sha2.starts", "imprimatur/sha2.constants"], apart := false, laid := [("imprimatur/sha2.constants", laid_imprimatur_sha2_constants), ("imprimatur/sha2.starts", laid_imprimatur_sha2_starts)], narrowed := true }
def TrailInsUptoSaid : Prop := trailInsUptoRow.holds Tryd.pinned (OpenSpec.upto trailInsSpec)

/-- 'imprimaturlaw20.TrailOnly', WHERE WHAT IT READS IS OF BULK AT MOST 1048576: true; the input reads as it did. -/
def trailOnlyUptoRow : OpenClaim := { program := "ytcnpdapampclpaadoor", sum := "3bfcecabc360c9faf8bc5e84f31feb459b1de0e682c532c960097f7e065da095", func := "imprimatur/imprimaturlaw20.TrailOnly", spec := "trailOnly", unfollowed := true, recurses := true, named := ["imprimatur/sha2.starts", "imprimatur/sha2.constants"], apart := false, laid := [("imprimatur/sha2.constants", laid_imprimatur_sha2_constants), ("imprimatur/sha2.starts", laid_imprimatur_sha2_starts)], narrowed := true }
def TrailOnlyUptoSaid : Prop := trailOnlyUptoRow.holds Tryd.pinned (OpenSpec.upto trailOnlySpec)

/-- 'imprimaturlaw20.TrailBegins', WHERE WHAT IT READS IS OF BULK AT MOST 1048576: true; the input reads as it did. -/
def trailBeginsUptoRow : OpenClaim := { program := "ytcnpdapampclpaadoor", sum := "3bfcecabc360c9faf8bc5e84f31feb459b1de0e682c532c960097f7e065da095", func := "imprimatur/imprimaturlaw20.TrailBegins", spec := "trailBegins", unfollowed := true, recurses := true, named := ["imprimatur/sha2.starts", "imprimatur/sha2.constants"], apart := false, laid := [("imprimatur/sha2.constants", laid_imprimatur_sha2_constants), ("imprimatur/sha2.starts", laid_imprimatur_sha2_starts)], narrowed := true }
def TrailBeginsUptoSaid : Prop := trailBeginsUptoRow.holds Tryd.pinned (OpenSpec.upto trailBeginsSpec)

/-- 'imprimaturlaw20.TrailFirst', WHERE WHAT IT READS IS OF BULK AT MOST 1048576: true; the input reads as it did. -/
def trailFirstUptoRow : OpenClaim := { program := "ytcnpdapampclpaadoor", sum := "3bfcecabc360c9faf8bc5e84f31feb459b1de0e682c532c960097f7e065da095", func := "imprimatur/imprimaturlaw20.TrailFirst", spec := "trailFirst", unfollowed := true, recurses := true, named := ["imprimatur/sha2.starts", "imprimatur/sha2.constants"], apart := false, laid := [("imprimatur/sha2.constants", laid_imprimatur_sha2_constants), ("imprimatur/sha2.starts", laid_imprimatur_sha2_starts)], narrowed := true }
def TrailFirstUptoSaid : Prop := trailFirstUptoRow.holds Tryd.pinned (OpenSpec.upto trailFirstSpec)

/-- 'imprimaturlaw20.TrailOwn', WHERE WHAT IT READS IS OF BULK AT MOST 1048576: true; the input reads as it did. -/
def trailOwnUptoRow : OpenClaim := { program := "ytcnpdapampclpaadoor", sum := "3bfcecabc360c9faf8bc5e84f31feb459b1de0e682c532c960097f7e065da095", func := "imprimatur/imprimaturlaw20.TrailOwn", spec := "trailOwn", unfollowed := true, recurses := true, named := ["imprimatur/sha2.starts", "imprimatur/sha2.constants"], apart := false, laid := [("imprimatur/sha2.constants", laid_imprimatur_sha2_constants), ("imprimatur/sha2.starts", laid_imprimatur_sha2_starts)], narrowed := true }
def TrailOwnUptoSaid : Prop := trailOwnUptoRow.holds Tryd.pinned (OpenSpec.upto trailOwnSpec)

end Rows
end Go.Proofs.YtcnpdapampclpaaDoor
