/- The row of the law TopJournal: for every input it returns true, and its arguments read afterwards as before; no condition. -/
import Derived.Test.YtbenedckmapjoaaDoorRows
import Derived.Test.YtbenedckmapjoaaDoorTr
import Derived.Test.YtbenedckmapjoaaDoorTj
import Derived.Test.YtbenedckmapjoaaDoorRw
import Derived.Test.YtbenedckmapjoaaDoorRb
import Derived.WalkKit
import Derived.ProofKit
import Derived.OpenShut
import Derived.ShutString
import Derived.ChangeOld
import Derived.Below
import Derived.SizedLaws
import Derived.Lib.SmallJoins
import Derived.ChangeSlices
import Derived.Test.YtbenedckmapjoaaDoorWSized
import Derived.Test.YtbenedckmapjoaaDoorWT
import Derived.Test.YtbenedckmapjoaaDoorCards
import Derived.Test.YtbenedckmapjoaaDoorTie
import Derived.Deep.DeepHandedRow
import Derived.Lib.LaidTab
namespace Go.Proofs.YtbenedckmapjoaaDoor.topJournal
open Go.ChangeShapes Go.WideShapes Go.ChangeAt Go.RowKit Go.Joins Go.Deep
open Go.ChangeMaps (open_string shut_string)
open Go.Proofs.YtbenedckmapjoaaDoorW
set_option linter.unusedVariables false
theorem own : ownKnob Tryd.prog.godebug = none := by kernel_rfl
theorem laidOut : laidOutB Tryd.prog = true := by kernel_rfl
def IsRow (k : IntKind) (w : World) (a : Option Addr) (len cap : Nat) (zs : List Int) : Prop :=
  (a = none ∧ len = 0 ∧ cap = 0 ∧ zs = []) ∨
  ∃ x, a = some x ∧ len ≤ cap ∧ cap ≤ maxLen ∧ zs.length = cap ∧ (∀ i, i < zs.length → w.cell? (x.add i) = some (.int k (zs.getD i 0))) ∧ ∀ n ∈ zs, (Lit.int k n).wf = true
open Go.Proofs.YtbenedckmapjoaaDoor.X
theorem g0 : Tryd.prog.globalNamed "imprimatur/sha2.constants" = some 8 := by kernel_rfl
theorem gt0 : (Tryd.prog.globals[8]?).map (·.type) = some 213 := by kernel_rfl
theorem ca0 : Tryd.prog.cellsOf 213 = 80 := by kernel_rfl
theorem ce0 : Tryd.prog.cellsOf 48 = 1 := by kernel_rfl
set_option maxRecDepth 100000 in
theorem tab0 {W : World} (h : laidMetH Tryd.prog Rows.topJournalRow.laid W) : Lib.TabIs Tryd.prog W "imprimatur/sha2.constants" .u64 KS := by
  have h' : laidMet Tryd.prog [("imprimatur/sha2.constants", Lib.tabData .u64 KS), ("imprimatur/sha2.starts", Lib.tabData .u64 SS), ("imprimatur/ed.curve", Lib.tabData .u64 Go.Proofs.YtbenedckmapjoaaDoor.F.cuL), ("imprimatur/ed.baseX", Lib.tabData .u64 Go.Proofs.YtbenedckmapjoaaDoor.F.bX), ("imprimatur/ed.baseY", Lib.tabData .u64 Go.Proofs.YtbenedckmapjoaaDoor.F.bY), ("imprimatur/ed.baseT", Lib.tabData .u64 Go.Proofs.YtbenedckmapjoaaDoor.F.bT)] W := h
  obtain ⟨ps, h0, _⟩ := h'
  obtain ⟨g', t', cs, fuel, p, q, hg', ht', hvar, hd, _, _⟩ := h0
  obtain rfl := Option.some.inj (g0.symm.trans hg')
  obtain rfl := Option.some.inj (gt0.symm.trans ht')
  unfold Lib.TabIs
  rw [hvar, ← Lib.cells_of_tab Tryd.underlying213 Tryd.underlying48 ce0 ca0 hd]
theorem g1 : Tryd.prog.globalNamed "imprimatur/sha2.starts" = some 7 := by kernel_rfl
theorem gt1 : (Tryd.prog.globals[7]?).map (·.type) = some 185 := by kernel_rfl
theorem ca1 : Tryd.prog.cellsOf 185 = 8 := by kernel_rfl
theorem ce1 : Tryd.prog.cellsOf 48 = 1 := by kernel_rfl
set_option maxRecDepth 100000 in
theorem tab1 {W : World} (h : laidMetH Tryd.prog Rows.topJournalRow.laid W) : Lib.TabIs Tryd.prog W "imprimatur/sha2.starts" .u64 SS := by
  have h' : laidMet Tryd.prog [("imprimatur/sha2.constants", Lib.tabData .u64 KS), ("imprimatur/sha2.starts", Lib.tabData .u64 SS), ("imprimatur/ed.curve", Lib.tabData .u64 Go.Proofs.YtbenedckmapjoaaDoor.F.cuL), ("imprimatur/ed.baseX", Lib.tabData .u64 Go.Proofs.YtbenedckmapjoaaDoor.F.bX), ("imprimatur/ed.baseY", Lib.tabData .u64 Go.Proofs.YtbenedckmapjoaaDoor.F.bY), ("imprimatur/ed.baseT", Lib.tabData .u64 Go.Proofs.YtbenedckmapjoaaDoor.F.bT)] W := h
  obtain ⟨ps, h0, _⟩ := h'
  obtain ⟨_, _, _, _, _, _, _, _, _, _, h1, _⟩ := h0
  obtain ⟨g', t', cs, fuel, p, q, hg', ht', hvar, hd, _, _⟩ := h1
  obtain rfl := Option.some.inj (g1.symm.trans hg')
  obtain rfl := Option.some.inj (gt1.symm.trans ht')
  unfold Lib.TabIs
  rw [hvar, ← Lib.cells_of_tab Tryd.underlying185 Tryd.underlying48 ce1 ca1 hd]
theorem g2 : Tryd.prog.globalNamed "imprimatur/ed.curve" = some 4 := by kernel_rfl
theorem gt2 : (Tryd.prog.globals[4]?).map (·.type) = some 50 := by kernel_rfl
theorem ca2 : Tryd.prog.cellsOf 50 = 5 := by kernel_rfl
theorem ce2 : Tryd.prog.cellsOf 48 = 1 := by kernel_rfl
set_option maxRecDepth 100000 in
theorem tab2 {W : World} (h : laidMetH Tryd.prog Rows.topJournalRow.laid W) : Lib.TabIs Tryd.prog W "imprimatur/ed.curve" .u64 Go.Proofs.YtbenedckmapjoaaDoor.F.cuL := by
  have h' : laidMet Tryd.prog [("imprimatur/sha2.constants", Lib.tabData .u64 KS), ("imprimatur/sha2.starts", Lib.tabData .u64 SS), ("imprimatur/ed.curve", Lib.tabData .u64 Go.Proofs.YtbenedckmapjoaaDoor.F.cuL), ("imprimatur/ed.baseX", Lib.tabData .u64 Go.Proofs.YtbenedckmapjoaaDoor.F.bX), ("imprimatur/ed.baseY", Lib.tabData .u64 Go.Proofs.YtbenedckmapjoaaDoor.F.bY), ("imprimatur/ed.baseT", Lib.tabData .u64 Go.Proofs.YtbenedckmapjoaaDoor.F.bT)] W := h
  obtain ⟨ps, h0, _⟩ := h'
  obtain ⟨_, _, _, _, _, _, _, _, _, _, h1, _⟩ := h0
  obtain ⟨_, _, _, _, _, _, _, _, _, _, h2, _⟩ := h1
  obtain ⟨g', t', cs, fuel, p, q, hg', ht', hvar, hd, _, _⟩ := h2
  obtain rfl := Option.some.inj (g2.symm.trans hg')
  obtain rfl := Option.some.inj (gt2.symm.trans ht')
  unfold Lib.TabIs
  rw [hvar, ← Lib.cells_of_tab Tryd.underlying50 Tryd.underlying48 ce2 ca2 hd]
theorem g3 : Tryd.prog.globalNamed "imprimatur/ed.baseX" = some 1 := by kernel_rfl
theorem gt3 : (Tryd.prog.globals[1]?).map (·.type) = some 50 := by kernel_rfl
theorem ca3 : Tryd.prog.cellsOf 50 = 5 := by kernel_rfl
theorem ce3 : Tryd.prog.cellsOf 48 = 1 := by kernel_rfl
set_option maxRecDepth 100000 in
theorem tab3 {W : World} (h : laidMetH Tryd.prog Rows.topJournalRow.laid W) : Lib.TabIs Tryd.prog W "imprimatur/ed.baseX" .u64 Go.Proofs.YtbenedckmapjoaaDoor.F.bX := by
  have h' : laidMet Tryd.prog [("imprimatur/sha2.constants", Lib.tabData .u64 KS), ("imprimatur/sha2.starts", Lib.tabData .u64 SS), ("imprimatur/ed.curve", Lib.tabData .u64 Go.Proofs.YtbenedckmapjoaaDoor.F.cuL), ("imprimatur/ed.baseX", Lib.tabData .u64 Go.Proofs.YtbenedckmapjoaaDoor.F.bX), ("imprimatur/ed.baseY", Lib.tabData .u64 Go.Proofs.YtbenedckmapjoaaDoor.F.bY), ("imprimatur/ed.baseT", Lib.tabData .u64 Go.Proofs.YtbenedckmapjoaaDoor.F.bT)] W := h
  obtain ⟨ps, h0, _⟩ := h'
  obtain ⟨_, _, _, _, _, _, _, _, _, _, h1, _⟩ := h0
  obtain ⟨_, _, _, _, _, _, _, _, _, _, h2, _⟩ := h1
  obtain ⟨_, _, _, _, _, _, _, _, _, _, h3, _⟩ := h2
  obtain ⟨g', t', cs, fuel, p, q, hg', ht', hvar, hd, _, _⟩ := h3
  obtain rfl := Option.some.inj (g3.symm.trans hg')
  obtain rfl := Option.some.inj (gt3.symm.trans ht')
  unfold Lib.TabIs
  rw [hvar, ← Lib.cells_of_tab Tryd.underlying50 Tryd.underlying48 ce3 ca3 hd]
theorem g4 : Tryd.prog.globalNamed "imprimatur/ed.baseY" = some 2 := by kernel_rfl
theorem gt4 : (Tryd.prog.globals[2]?).map (·.type) = some 50 := by kernel_rfl
theorem ca4 : Tryd.prog.cellsOf 50 = 5 := by kernel_rfl
theorem ce4 : Tryd.prog.cellsOf 48 = 1 := by kernel_rfl
set_option maxRecDepth 100000 in
theorem tab4 {W : World} (h : laidMetH Tryd.prog Rows.topJournalRow.laid W) : Lib.TabIs Tryd.prog W "imprimatur/ed.baseY" .u64 Go.Proofs.YtbenedckmapjoaaDoor.F.bY := by
  have h' : laidMet Tryd.prog [("imprimatur/sha2.constants", Lib.tabData .u64 KS), ("imprimatur/sha2.starts", Lib.tabData .u64 SS), ("imprimatur/ed.curve", Lib.tabData .u64 Go.Proofs.YtbenedckmapjoaaDoor.F.cuL), ("imprimatur/ed.baseX", Lib.tabData .u64 Go.Proofs.YtbenedckmapjoaaDoor.F.bX), ("imprimatur/ed.baseY", Lib.tabData .u64 Go.Proofs.YtbenedckmapjoaaDoor.F.bY), ("imprimatur/ed.baseT", Lib.tabData .u64 Go.Proofs.YtbenedckmapjoaaDoor.F.bT)] W := h
  obtain ⟨ps, h0, _⟩ := h'
  obtain ⟨_, _, _, _, _, _, _, _, _, _, h1, _⟩ := h0
  obtain ⟨_, _, _, _, _, _, _, _, _, _, h2, _⟩ := h1
  obtain ⟨_, _, _, _, _, _, _, _, _, _, h3, _⟩ := h2
  obtain ⟨_, _, _, _, _, _, _, _, _, _, h4, _⟩ := h3
  obtain ⟨g', t', cs, fuel, p, q, hg', ht', hvar, hd, _, _⟩ := h4
  obtain rfl := Option.some.inj (g4.symm.trans hg')
  obtain rfl := Option.some.inj (gt4.symm.trans ht')
  unfold Lib.TabIs
  rw [hvar, ← Lib.cells_of_tab Tryd.underlying50 Tryd.underlying48 ce4 ca4 hd]
theorem g5 : Tryd.prog.globalNamed "imprimatur/ed.baseT" = some 3 := by kernel_rfl
theorem gt5 : (Tryd.prog.globals[3]?).map (·.type) = some 50 := by kernel_rfl
theorem ca5 : Tryd.prog.cellsOf 50 = 5 := by kernel_rfl
theorem ce5 : Tryd.prog.cellsOf 48 = 1 := by kernel_rfl
set_option maxRecDepth 100000 in
theorem tab5 {W : World} (h : laidMetH Tryd.prog Rows.topJournalRow.laid W) : Lib.TabIs Tryd.prog W "imprimatur/ed.baseT" .u64 Go.Proofs.YtbenedckmapjoaaDoor.F.bT := by
  have h' : laidMet Tryd.prog [("imprimatur/sha2.constants", Lib.tabData .u64 KS), ("imprimatur/sha2.starts", Lib.tabData .u64 SS), ("imprimatur/ed.curve", Lib.tabData .u64 Go.Proofs.YtbenedckmapjoaaDoor.F.cuL), ("imprimatur/ed.baseX", Lib.tabData .u64 Go.Proofs.YtbenedckmapjoaaDoor.F.bX), ("imprimatur/ed.baseY", Lib.tabData .u64 Go.Proofs.YtbenedckmapjoaaDoor.F.bY), ("imprimatur/ed.baseT", Lib.tabData .u64 Go.Proofs.YtbenedckmapjoaaDoor.F.bT)] W := h
  obtain ⟨ps, h0, _⟩ := h'
  obtain ⟨_, _, _, _, _, _, _, _, _, _, h1, _⟩ := h0
  obtain ⟨_, _, _, _, _, _, _, _, _, _, h2, _⟩ := h1
  obtain ⟨_, _, _, _, _, _, _, _, _, _, h3, _⟩ := h2
  obtain ⟨_, _, _, _, _, _, _, _, _, _, h4, _⟩ := h3
  obtain ⟨_, _, _, _, _, _, _, _, _, _, h5, _⟩ := h4
  obtain ⟨g', t', cs, fuel, p, q, hg', ht', hvar, hd, _, _⟩ := h5
  obtain rfl := Option.some.inj (g5.symm.trans hg')
  obtain rfl := Option.some.inj (gt5.symm.trans ht')
  unfold Lib.TabIs
  rw [hvar, ← Lib.cells_of_tab Tryd.underlying50 Tryd.underlying48 ce5 ca5 hd]
theorem glb {W : World} (h : laidMetH Tryd.prog Rows.topJournalRow.laid W) : Glb W :=
  ⟨⟨fun i hi => (tab0 h).cell g0 i hi, fun i hi => (tab1 h).cell g1 i hi⟩, World.block_lt_of_cell? W _ ((tab0 h).cell g0 0 (by decide)), World.block_lt_of_cell? W _ ((tab1 h).cell g1 0 (by decide)), Go.Proofs.YtbenedckmapjoaaDoor.F.Gb.of_tabs g3 g4 g5 g2 (tab3 h) (tab4 h) (tab5 h) (tab2 h)⟩
noncomputable def laidWorld (os : Os) : World :=
  { World.holding Tryd.prog os ⟨#[], #[], []⟩ with heap := (((((((World.holding Tryd.prog os ⟨#[], #[], []⟩).heap.modify 8 (fun | .cells _ t frozen => .cells #[.int .u64 4794697086780616226, .int .u64 8158064640168781261, .int .u64 13096744586834688815, .int .u64 16840607885511220156, .int .u64 4131703408338449720, .int .u64 6480981068601479193, .int .u64 10538285296894168987, .int .u64 12329834152419229976, .int .u64 15566598209576043074, .int .u64 1334009975649890238, .int .u64 2608012711638119052, .int .u64 6128411473006802146, .int .u64 8268148722764581231, .int .u64 9286055187155687089, .int .u64 11230858885718282805, .int .u64 13951009754708518548, .int .u64 16472876342353939154, .int .u64 17275323862435702243, .int .u64 1135362057144423861, .int .u64 2597628984639134821, .int .u64 3308224258029322869, .int .u64 5365058923640841347, .int .u64 6679025012923562964, .int .u64 8573033837759648693, .int .u64 10970295158949994411, .int .u64 12119686244451234320, .int .u64 12683024718118986047, .int .u64 13788192230050041572, .int .u64 14330467153632333762, .int .u64 15395433587784984357, .int .u64 489312712824947311, .int .u64 1452737877330783856, .int .u64 2861767655752347644, .int .u64 3322285676063803686, .int .u64 5560940570517711597, .int .u64 5996557281743188959, .int .u64 7280758554555802590, .int .u64 8532644243296465576, .int .u64 9350256976987008742, .int .u64 10552545826968843579, .int .u64 11727347734174303076, .int .u64 12113106623233404929, .int .u64 14000437183269869457, .int .u64 14369950271660146224, .int .u64 15101387698204529176, .int .u64 15463397548674623760, .int .u64 17586052441742319658, .int .u64 1182934255886127544, .int .u64 1847814050463011016, .int .u64 2177327727835720531, .int .u64 2830643537854262169, .int .u64 3796741975233480872, .int .u64 4115178125766777443, .int .u64 5681478168544905931, .int .u64 6601373596472566643, .int .u64 7507060721942968483, .int .u64 8399075790359081724, .int .u64 8693463985226723168, .int .u64 9568029438360202098, .int .u64 10144078919501101548, .int .u64 10430055236837252648, .int .u64 11840083180663258601, .int .u64 13761210420658862357, .int .u64 14299343276471374635, .int .u64 14566680578165727644, .int .u64 15097957966210449927, .int .u64 16922976911328602910, .int .u64 17689382322260857208, .int .u64 500013540394364858, .int .u64 748580250866718886, .int .u64 1242879168328830382, .int .u64 1977374033974150939, .int .u64 2944078676154940804, .int .u64 3659926193048069267, .int .u64 4368137639120453308, .int .u64 4836135668995329356, .int .u64 5532061633213252278, .int .u64 6448918945643986474, .int .u64 6902733635092675308, .int .u64 7801388544844847127] t frozen | o => o)).modify 7 (fun | .cells _ t frozen => .cells #[.int .u64 7640891576956012808, .int .u64 13503953896175478587, .int .u64 4354685564936845355, .int .u64 11912009170470909681, .int .u64 5840696475078001361, .int .u64 11170449401992604703, .int .u64 2270897969802886507, .int .u64 6620516959819538809] t frozen | o => o)).modify 4 (fun | .cells _ t frozen => .cells #[.int .u64 1859910466990425, .int .u64 932731440258426, .int .u64 1072319116312658, .int .u64 1815898335770999, .int .u64 633789495995903] t frozen | o => o)).modify 1 (fun | .cells _ t frozen => .cells #[.int .u64 1738742601995546, .int .u64 1146398526822698, .int .u64 2070867633025821, .int .u64 562264141797630, .int .u64 587772402128613] t frozen | o => o)).modify 2 (fun | .cells _ t frozen => .cells #[.int .u64 1801439850948184, .int .u64 1351079888211148, .int .u64 450359962737049, .int .u64 900719925474099, .int .u64 1801439850948198] t frozen | o => o)).modify 3 (fun | .cells _ t frozen => .cells #[.int .u64 1841354044333475, .int .u64 16398895984059, .int .u64 755974180946558, .int .u64 900171276175154, .int .u64 1821297809914039] t frozen | o => o)) }
set_option maxRecDepth 100000 in
theorem laid_met (os : Os) : laidMet Tryd.prog Rows.topJournalRow.laid ((laidWorld os).forCall (fun _ _ => 0) ⟨#[], #[.slice none 0 0, .slice none 0 0, .slice none 0 0], []⟩).memory :=
  laidMet_of_run' 8 (by kernel_rfl) (by kernel_rfl)
theorem reads (os : Os) {H : Type} (enc : TypeId × Value → H) : ∃ places, DataW.whole enc Tryd.prog ((laidWorld os).forCall (fun _ _ => 0) ⟨#[], #[.slice none 0 0, .slice none 0 0, .slice none 0 0], []⟩).memory Tryd.f5.params.toList Rows.topJournalSpec.vars false (#[.slice none 0 0, .slice none 0 0, .slice none 0 0] : Array Value).toList 8 = some ([.nil, .nil, .nil], [], places) :=
  ⟨[], by kernel_rfl⟩
set_option maxRecDepth 100000 in
theorem contract (H : Type) (enc : TypeId × Value → H) (W : World) (base : Nat) (args : Array Value) (ds gs : List (DataW H)) (before : List MemPlace)
    (hval0 : ∀ (j : Nat) t v, Tryd.f5.params[j]? = some t → args[j]? = some v → Value.okWide Tryd.prog W .any base t v)
    (hW : DataW.Whole enc Tryd.prog Tryd.f5.params.toList Rows.topJournalSpec.vars false W args.toList ds gs before) (hL : laidMetH Tryd.prog Rows.topJournalRow.laid W)
    (hsz0 : (DataW.weightsEach Tryd.prog (Tryd.f5.params.toList ++ Rows.topJournalSpec.plain.varTypes Tryd.prog) (ds ++ gs)).all (· ≤ reachBytes) = true) :
    Calls Tryd.prog 5 args W fun e W' => ∃ v, e = .returned v ∧ Rows.topJournalSpec.post enc Tryd.prog Tryd.f5 false true false false W args v W' := by
  have hsz : (DataW.weightsEach Tryd.prog (Tryd.f5.params.toList ++ Rows.topJournalSpec.plain.varTypes Tryd.prog) (ds ++ gs)).all (· ≤ reachBytes) = true := hsz0
  have hval : ∀ (j : Nat) t v, Tryd.f5.params[j]? = some t → args[j]? = some v → Value.okWide Tryd.prog W .any base t v := hval0
  have hW' := hW
  obtain ⟨p, q, hA0, hV, rfl, hfz, hnd⟩ := hW
  have hA : DataW.TrodAll enc Tryd.prog W 0 (fun _ => true) true Tryd.f5.params.toList args.toList ds p := hA0
  rw [Tryd.params5] at hA hval hsz
  obtain ⟨v0, vs0, d0, ds0, p0, q0, hargs, rfl, rfl, h0, r0⟩ := trodAll_cons hA
  obtain ⟨v1, vs1, d1, ds1, p1, q1, rfl, rfl, rfl, h1, r1⟩ := trodAll_cons r0
  obtain ⟨v2, vs2, d2, ds2, p2, q2, rfl, rfl, rfl, h2, r2⟩ := trodAll_cons r1
  obtain ⟨rfl, rfl, rfl⟩ := trodAll_nil r2
  obtain rfl : args = #[v0, v1, v2] := by cases args; simp_all
  obtain ⟨rfl, rfl⟩ := trodVars_none hV
  have k0 := h0
  have lt0 : ∀ x ∈ p0, x.block < W.heap.size := by obtain ⟨m, hm⟩ := k0; exact DataW.trod_lt m _ _ _ hm
  obtain ⟨a0, len0, cap0, rfl⟩ := okWide_slice Tryd.underlying22 (hval 0 22 v0 rfl rfl)
  obtain ⟨x0, w0, e0, c0, o0, g0⟩ := Rw.rows_of Tryd.underlying22 Tryd.underlying30 Tryd.underlying5 (by kernel_rfl) (by kernel_rfl) (by kernel_rfl) (by kernel_rfl) h0 hsz (j := 0) (k := .u8) (bytes := 1) rfl rfl
  subst e0
  have k1 := h1
  have lt1 : ∀ x ∈ p1, x.block < W.heap.size := by obtain ⟨m, hm⟩ := k1; exact DataW.trod_lt m _ _ _ hm
  obtain ⟨a1, len1, cap1, rfl⟩ := okWide_slice Tryd.underlying30 (hval 1 30 v1 rfl rfl)
  obtain ⟨z1, w1⟩ : ∃ zs, IsRow .u8 W a1 len1 cap1 zs := by
    obtain ⟨fuel, hf⟩ := h1
    rcases open_ints Tryd.underlying30 Tryd.underlying5 (by kernel_rfl) hf with ⟨hcs, _⟩ | ⟨x, l, c, zs, hcs, _, hl, hm, hz, _, hcell, hwz⟩
    · simp [Value.cells] at hcs
      obtain ⟨rfl, rfl, rfl⟩ := hcs
      exact ⟨[], .inl ⟨rfl, rfl, rfl, rfl⟩⟩
    · simp [Value.cells] at hcs
      obtain ⟨rfl, rfl, rfl⟩ := hcs
      exact ⟨zs, .inr ⟨_, rfl, hl, hm, by simpa using hz, hcell, hwz⟩⟩
  have y1 : len1 * 1 ≤ 140737488351232 := PrintWords.sized_ints hsz (j := 1) (t := 30) rfl rfl Tryd.underlying30 Tryd.underlying5 (by kernel_rfl) (by kernel_rfl) h1
  have k2 := h2
  have lt2 : ∀ x ∈ p2, x.block < W.heap.size := by obtain ⟨m, hm⟩ := k2; exact DataW.trod_lt m _ _ _ hm
  obtain ⟨a2, len2, cap2, rfl⟩ := okWide_slice Tryd.underlying62 (hval 2 62 v2 rfl rfl)
  obtain ⟨x2, w2, e2, c2⟩ := Rw.bools_of Tryd.underlying62 Tryd.underlying4 (by kernel_rfl) h2
  subst e2
  (try clear hA0 hval0 hsz0 hsz)
  refine (Go.Proofs.YtbenedckmapjoaaDoor.D.TopJournal_walk a0 cap0 x0 a1 len1 cap1 z1 a2 cap2 x2 W (glb hL) w0 c0 o0 g0 w1 y1 w2 c2).mono fun e W' ⟨he, bel⟩ => ?_
  subst he
  exact ⟨_, rfl, _, _, _, [], _, [], hW', trodAll_mk1 (shut_bool Tryd.underlying4 _), (trodAll_cons_mk (Below.trod laidOut (by kernel_rfl) (of_decide_eq_true (by kernel_rfl)) k0 bel lt0) (trodAll_cons_mk (Below.trod laidOut (by kernel_rfl) (of_decide_eq_true (by kernel_rfl)) k1 bel lt1) (trodAll_cons_mk (Below.trod laidOut (by kernel_rfl) (of_decide_eq_true (by kernel_rfl)) k2 bel lt2) trodAll_mk0))), rfl, bel.frame _, fun h => by cases h⟩
set_option maxRecDepth 100000 in
theorem lifted (os : Os) (started : os.Started) (H : Type) (enc : TypeId × Value → H) (F : Stop.Interp) :
    ReturnsInHanded {} Tryd.checked os 5 .any ((OpenSpec.ofChange Rows.topJournalSpec).preRow enc Tryd.prog Tryd.f5 Rows.topJournalRow.domain false Rows.topJournalRow.laid) (((OpenSpec.ofChange Rows.topJournalSpec).at F).post enc Tryd.prog Tryd.f5 false true false false) := by
  obtain ⟨places, hx⟩ := reads os enc
  refine returnsInHanded_of_row (C := Tryd.checked) (s := OpenSpec.ofChange Rows.topJournalSpec) own started (by kernel_rfl) Tryd.func5
    (witness_row_at (enc := enc) (C := Tryd.checked) false (laidWorld os) #[.slice none 0 0, .slice none 0 0, .slice none 0 0] rfl (by kernel_rfl) (by kernel_rfl) (by kernel_rfl)
      (OpenSpec.preRow_of_cond 8 hx (by kernel_rfl) (fun k hk => by cases hk) (by kernel_rfl) (laid_met os))) ?_
  intro W base args ds gs before hval hW _ _ hsz hL _ _
  exact contract H enc W base args ds gs before hval hW hL hsz
theorem said : Rows.TopJournalSaid :=
  OpenClaim.holds_of_cond 5 Tryd.f5 rfl rfl rfl rfl rfl rfl rfl ⟨rfl, rfl, rfl, rfl, rfl⟩ rfl rfl rfl rfl rfl (by kernel_rfl) Tryd.func5 (by kernel_rfl)
    (of_decide_eq_true (by kernel_rfl)) (by unfold Func.isWrapper; first | (rw [if_pos (by decide +kernel)]; kernel_rfl) | (rw [if_neg (by decide +kernel)]; exact ⟨rfl, rfl⟩))
    (fun os started H enc _ F => by rw [OpenClaim.pre_eq_preRow]; exact lifted os started H enc F)
theorem plain (f : FuncId) (fn : Func) (hf : Tryd.pinned.checked.prog.funcNamed "imprimatur/imprimaturtop.TopJournal" = some f) (hfn : Tryd.pinned.checked.prog.funcs[f]? = some fn) :
    false = Tryd.pinned.checked.prog.looks [] ∧ ∀ (j : Nat) t, fn.params[j]? = some t → Tryd.pinned.checked.prog.wantsStandIn t = false := by
  obtain rfl : f = 5 := Option.some.inj ((show Tryd.prog.funcNamed "imprimatur/imprimaturtop.TopJournal" = some 5 by kernel_rfl).symm.trans hf) |>.symm
  obtain rfl : fn = Tryd.f5 := (Option.some.inj (Tryd.func5.symm.trans hfn)).symm
  refine ⟨by kernel_rfl, fun j t ht => ?_⟩
  rw [Tryd.params5] at ht
  rcases j with _ | _ | _ | j
  · obtain rfl : t = 22 := by simpa using ht.symm
    exact (show Tryd.prog.wantsStandIn 22 = false by kernel_rfl)
  · obtain rfl : t = 30 := by simpa using ht.symm
    exact (show Tryd.prog.wantsStandIn 30 = false by kernel_rfl)
  · obtain rfl : t = 62 := by simpa using ht.symm
    exact (show Tryd.prog.wantsStandIn 62 = false by kernel_rfl)
  · simp at ht
theorem card : Rows.TopJournalCardSaid :=
  Claim7.holds_tied_plain_at .later [] _ _ _ _ said (fun _ h => by cases h) (by kernel_rfl) (fun _ h => by cases h) topJournal_row_tie rfl ⟨rfl, rfl⟩ (by kernel_rfl) rfl plain (by kernel_rfl)
end Go.Proofs.YtbenedckmapjoaaDoor.topJournal
namespace Go.Proofs.YtbenedckmapjoaaDoor
/-- The card, under a short name, for the claim. -/
theorem topJournal_holds : Rows.TopJournalCardSaid := topJournal.card
#print axioms topJournal_holds
end Go.Proofs.YtbenedckmapjoaaDoor
