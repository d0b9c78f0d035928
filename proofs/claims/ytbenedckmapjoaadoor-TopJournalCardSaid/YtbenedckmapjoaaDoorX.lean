/- What the program's numbers are, and where they lie; Sha512 of some texts. -/
import Derived.Test.YtbenedckmapjoaaDoorHl
import Derived.Test.YtbenedckmapjoaaDoorPu
import Derived.Test.YtbenedckmapjoaaDoorWT
namespace Go.Proofs.YtbenedckmapjoaaDoor.X
open Go.RowKit Go.Proofs.YtbenedckmapjoaaDoorW.PrintWords Go.Proofs.YtbenedckmapjoaaDoor.H
def KS : List Int := [4794697086780616226, 8158064640168781261, 13096744586834688815, 16840607885511220156, 4131703408338449720, 6480981068601479193, 10538285296894168987, 12329834152419229976, 15566598209576043074, 1334009975649890238, 2608012711638119052, 6128411473006802146, 8268148722764581231, 9286055187155687089, 11230858885718282805, 13951009754708518548, 16472876342353939154, 17275323862435702243, 1135362057144423861, 2597628984639134821, 3308224258029322869, 5365058923640841347, 6679025012923562964, 8573033837759648693, 10970295158949994411, 12119686244451234320, 12683024718118986047, 13788192230050041572, 14330467153632333762, 15395433587784984357, 489312712824947311, 1452737877330783856, 2861767655752347644, 3322285676063803686, 5560940570517711597, 5996557281743188959, 7280758554555802590, 8532644243296465576, 9350256976987008742, 10552545826968843579, 11727347734174303076, 12113106623233404929, 14000437183269869457, 14369950271660146224, 15101387698204529176, 15463397548674623760, 17586052441742319658, 1182934255886127544, 1847814050463011016, 2177327727835720531, 2830643537854262169, 3796741975233480872, 4115178125766777443, 5681478168544905931, 6601373596472566643, 7507060721942968483, 8399075790359081724, 8693463985226723168, 9568029438360202098, 10144078919501101548, 10430055236837252648, 11840083180663258601, 13761210420658862357, 14299343276471374635, 14566680578165727644, 15097957966210449927, 16922976911328602910, 17689382322260857208, 500013540394364858, 748580250866718886, 1242879168328830382, 1977374033974150939, 2944078676154940804, 3659926193048069267, 4368137639120453308, 4836135668995329356, 5532061633213252278, 6448918945643986474, 6902733635092675308, 7801388544844847127]
def SS : List Int := [7640891576956012808, 13503953896175478587, 4354685564936845355, 11912009170470909681, 5840696475078001361, 11170449401992604703, 2270897969802886507, 6620516959819538809]
/-- The program's numbers lie where it laid them, below all that a call makes. -/
structure Glb (w : World) : Prop where
  laid : Laid KS SS w
  g0 : 8 < w.heap.size
  g1 : 7 < w.heap.size
  ed : F.Gb w
theorem Glb.of {w W : World} (h : Glb w) (hb : Below w.heap.size w W) : Glb W := ⟨h.laid.below hb h.g0 h.g1, Nat.lt_of_lt_of_le h.g0 hb.size, Nat.lt_of_lt_of_le h.g1 hb.size, h.ed.below hb⟩
def isBytes (l : List Int) : Bool := l.all (fun x => decide (0 ≤ x ∧ x < 256))
theorem isBytes_get {l : List Int} (h : isBytes l = true) : ∀ i, 0 ≤ l.getD i 0 ∧ l.getD i 0 < 256 := getD_bytes (fun x hx => by have := List.all_eq_true.1 h x hx; simpa using this)
/-- An element of a row of rows. -/
theorem elem_at {q : Nat} {k : IntKind} {w : World} {a : Option Addr} {xs : List (List Int)} (h : Kd.C (Kd.slice q (Kd.int k)) w a xs.length xs) {i : Nat} (hi : i < xs.length) :
    ∃ ad A c, a = some ad ∧ w.cell? (ad.add i) = some (.slice A (xs.getD i []).length c) ∧ (xs.getD i []).length ≤ c ∧ Kd.C (Kd.int k) w A (xs.getD i []).length (xs.getD i []) := by
  obtain ⟨ad, he, hc⟩ := h.2.2 (by omega)
  have hx : xs[i]? = some (xs.getD i []) := by rw [List.getD_eq_getElem?_getD, List.getElem?_eq_getElem hi]; rfl
  obtain ⟨cs, h1, ⟨A, c, rfl, h3, h4⟩, h5⟩ := hc i _ hx
  have h6 := h5 0 _ rfl
  rw [show i * (Kd.slice q (Kd.int k)).sz + 0 = i from by show i * 1 + 0 = i; omega] at h6
  exact ⟨ad, A, c, he, h6, h3, h4⟩
theorem take_next {α : Type} (xs : List α) (d : α) (i : Nat) (hi : i < xs.length) : xs.take (i + 1) = xs.take i ++ [xs.getD i d] := by
  rw [List.take_add_one, List.getElem?_eq_getElem hi, List.getD_eq_getElem?_getD, List.getElem?_eq_getElem hi]
  rfl
def cat (xs : List (List Int)) (i : Nat) : List Int := (xs.take i).flatten
theorem cat_succ (xs : List (List Int)) (i : Nat) (hi : i < xs.length) : cat xs (i + 1) = cat xs i ++ xs.getD i [] := by
  unfold cat
  rw [take_next xs [] i hi]
  simp
theorem cat_all (xs : List (List Int)) : cat xs xs.length = xs.flatten := by unfold cat; rw [List.take_length]
theorem cat_le (xs : List (List Int)) (i : Nat) : (cat xs i).length ≤ xs.flatten.length := by
  unfold cat
  have : xs.flatten = (xs.take i).flatten ++ (xs.drop i).flatten := by rw [← List.flatten_append, List.take_append_drop]
  rw [this]
  simp only [List.length_append]
  omega
theorem flat_getD {xs : List (List Int)} {P : Int → Prop} (h : ∀ x ∈ xs.flatten, P x) {i : Nat} (hi : i < xs.length) : ∀ x ∈ xs.getD i [], P x := fun x hx =>
  h x (List.mem_flatten.2 ⟨_, by rw [List.getD_eq_getElem?_getD, List.getElem?_eq_getElem hi]; exact List.getElem_mem hi, hx⟩)
/-- One byte, newly made. -/
theorem one_C (w : World) (a : Int) (e : Nat) : Kd.C (Kd.int .u8) (w.alloc (.cells #[.int .u8 a] e)) (some ⟨w.heap.size, 0, none⟩) 1 [a] := by
  refine ⟨rfl, by decide, fun _ => ⟨_, rfl, fun j x hj => ?_⟩⟩
  have hj0 : j = 0 := by have := (List.getElem?_eq_some_iff.1 hj).1; simpa using this
  subst hj0
  obtain rfl : a = x := by simpa using hj
  refine ⟨[.int .u8 a], rfl, rfl, fun i u hu => ?_⟩
  have hi0 : i = 0 := by have := (List.getElem?_eq_some_iff.1 hu).1; simpa using this
  subst hi0
  obtain rfl : Value.int .u8 a = u := by simpa using hu
  exact (blk_cell (new1 w _) 0).trans rfl
/-- What the hash of some texts, one behind the other, is. -/
def wideOf (t : List Int) : List Int := digest true KS SS t
set_option maxRecDepth 100000 in
set_option maxHeartbeats 4000000 in
theorem long_c (A1 : Option Addr) (c1 : Nat) (l1 : List (List Int)) (hby : ∀ x ∈ l1.flatten, 0 ≤ x ∧ x < 256) (hlen : l1.flatten.length ≤ 1048576) (w : World) (HG : Glb w) (hr1 : Kd.C (Kd.slice 5 (Kd.int .u8)) w A1 l1.length l1) :
    Calls Tryd.prog 95 #[.slice A1 l1.length c1] w fun e w' => ∃ v0_ : Value, e = .returned v0_ ∧ Kd.R (Kd.int .u8) 5 w' w.heap.size (fun _ => True) v0_ (wideOf l1.flatten) ∧ Below w.heap.size w w' := by
  have hbe : ∀ i, i < l1.length → ∀ x ∈ l1.getD i [], 0 ≤ x ∧ x < 256 := fun i hi => flat_getD (fun x hx => hby x hx) hi
  have hbl : ∀ i, (cat l1 i).length ≤ 1048576 := fun i => Nat.le_trans (cat_le l1 i) hlen
  have hbl2 : ∀ i, i < l1.length → (l1.getD i []).length ≤ 1048576 := fun i hi => by have := hbl (i + 1); rw [cat_succ _ _ hi, List.length_append] at this; omega
  have hxm := Kd.C_max hr1
  have H0 := Aside0.mk (And.intro HG (And.intro hr1 (And.intro hbe (And.intro hbl hbl2))))
  clear hr1 hby hbe hbl hbl2 hlen
  go_enter Tryd.func95, Tryd.ntmps95
  go_wp2_with (first
    | (go_at_call 98; refine (new64_c KS SS _ H0.out.1.laid H0.out.1.g0 H0.out.1.g1).mono ?_; rintro e w1 ⟨p, rfl, hH1, hB⟩; have P1 : Aside0 (HashAt w.heap.size true KS SS (cat l1 0) p (.slice none 0 0) w1 ∧ Below w.heap.size w w1) := ⟨hH1, hB⟩; clear hH1 hB))
  have hpW := P1.out.1.hbase
  go_loopg [13] l1.length (fun m v13 wr => ∃ (i : Nat) (v : Value), m + i = l1.length ∧ v13 = .int .i64 i ∧ Aside0 (HashAt w.heap.size true KS SS (cat l1 i) p v wr ∧ Below w.heap.size w wr))
  case atStart => exact ⟨0, (.slice none 0 0), by omega, rfl, P1⟩
  case round =>
    obtain ⟨i, v, hmi, rfl, P6⟩ := hrel
    clear P1
    by_cases hi : i < l1.length
    · have hiI : (i : Int) < l1.length := by omega
      obtain ⟨ad, A, c, rfl, hcell0, hlc, hC⟩ := elem_at H0.out.2.1 hi
      have hcell := (P6.out.2.cell (World.block_lt_of_cell? w _ hcell0)).trans hcell0
      have hl := H0.out.2.2.2.2 i hi
      have hbb := H0.out.2.2.1 i hi
      have hcs := cat_succ l1 i hi
      have hc8 := H0.out.2.2.2.1 (i + 1)
      obtain ⟨l, hll⟩ : ∃ l, l = l1.getD i [] := ⟨_, rfl⟩
      rw [← hll] at hcell hcell0 hlc hC hl hbb hcs
      obtain ⟨nl, hnl⟩ : ∃ nl, nl = l.length := ⟨_, rfl⟩
      rw [← hnl] at hcell hcell0 hlc hC hl
      have HL := Aside0.mk (And.intro hC (And.intro hbb (And.intro hcs (And.intro hnl hc8))))
      clear hC hbb hcs hnl hc8 hll hcell0
      go_wp2_with (first
        | (go_at_call 99
           have hw := write_c w.heap.size true KS SS (cat l1 i) p v A c l wr P6.out.1 (H0.out.1.of P6.out.2).laid (by rw [← HL.out.2.2.2.1]; exact Kd.C_below HL.out.1 P6.out.2) (fun hn ad2 e => by subst e; have := C_block HL.out.1 (by rw [HL.out.2.2.2.1]; exact hn); omega) (fun k hk hn ad2 e => by subst e; have := C_block HL.out.1 (by rw [HL.out.2.2.2.1]; exact hn); have := Kd.R_base P6.out.1.row k hk; omega) (getD_bytes HL.out.2.1) (by rw [← List.length_append, ← HL.out.2.2.1]; have := HL.out.2.2.2.2; omega)
           rw [← HL.out.2.2.2.1, ← HL.out.2.2.1] at hw
           refine hw.mono ?_
           rintro e w7 ⟨rfl, v7, hH7, hv7, hF7⟩
           have P7 := Aside0.mk (And.intro hH7 (Fr.below P6.out.2 P6.out.2.size (fun k hk => by rcases hk with rfl | hk; exact hpW; exact Kd.R_base P6.out.1.row k hk) hF7))
           clear hH7 hv7 hF7 hw))
      go_roundg (gk - 1)
      all_goals first
        | omega
        | exact ⟨i + 1, v7, by omega, rfl, P7⟩
    · have hiI : ¬ (i : Int) < l1.length := by omega
      obtain rfl : i = l1.length := by omega
      go_wp2_with (first
        | (go_at_call 100
           refine (sum64_c w.heap.size KS SS (cat l1 l1.length) p v wr P6.out.1 (H0.out.1.of P6.out.2).laid).mono ?_
           rintro e w11 ⟨v11, rfl, hR, hB⟩
           have P11 := Aside0.mk (And.intro (R_weaken (b2 := w.heap.size) (ok2 := fun _ => True) hR (fun k hk => by have h1 := Kd.R_base hR k hk; have h2 := P6.out.2.size; omega) (fun _ _ => trivial)) (below_step P6.out.2 hB))
           clear hR hB))
      go_ret
      rw [cat_all] at P11
      exact ⟨v11, rfl, P11.out.1, P11.out.2⟩
end Go.Proofs.YtbenedckmapjoaaDoor.X
