/- The contracts that were proved by hand, in the print's form. -/
import Derived.Test.YtckjgipkdknmgaaDoorHl
namespace Go.Proofs.YtckjgipkdknmgaaDoor.X
open Go.RowKit Go.Proofs.YtckjgipkdknmgaaDoorW.PrintWords Go.Proofs.YtckjgipkdknmgaaDoor.H
def KS : List Int := [4794697086780616226, 8158064640168781261, 13096744586834688815, 16840607885511220156, 4131703408338449720, 6480981068601479193, 10538285296894168987, 12329834152419229976, 15566598209576043074, 1334009975649890238, 2608012711638119052, 6128411473006802146, 8268148722764581231, 9286055187155687089, 11230858885718282805, 13951009754708518548, 16472876342353939154, 17275323862435702243, 1135362057144423861, 2597628984639134821, 3308224258029322869, 5365058923640841347, 6679025012923562964, 8573033837759648693, 10970295158949994411, 12119686244451234320, 12683024718118986047, 13788192230050041572, 14330467153632333762, 15395433587784984357, 489312712824947311, 1452737877330783856, 2861767655752347644, 3322285676063803686, 5560940570517711597, 5996557281743188959, 7280758554555802590, 8532644243296465576, 9350256976987008742, 10552545826968843579, 11727347734174303076, 12113106623233404929, 14000437183269869457, 14369950271660146224, 15101387698204529176, 15463397548674623760, 17586052441742319658, 1182934255886127544, 1847814050463011016, 2177327727835720531, 2830643537854262169, 3796741975233480872, 4115178125766777443, 5681478168544905931, 6601373596472566643, 7507060721942968483, 8399075790359081724, 8693463985226723168, 9568029438360202098, 10144078919501101548, 10430055236837252648, 11840083180663258601, 13761210420658862357, 14299343276471374635, 14566680578165727644, 15097957966210449927, 16922976911328602910, 17689382322260857208, 500013540394364858, 748580250866718886, 1242879168328830382, 1977374033974150939, 2944078676154940804, 3659926193048069267, 4368137639120453308, 4836135668995329356, 5532061633213252278, 6448918945643986474, 6902733635092675308, 7801388544844847127]
def SS : List Int := [7640891576956012808, 13503953896175478587, 4354685564936845355, 11912009170470909681, 5840696475078001361, 11170449401992604703, 2270897969802886507, 6620516959819538809]
/-- The two rows of numbers lie where the program laid them, below all that a call makes. -/
structure Glb (w : World) : Prop where
  laid : Laid KS SS w
  g0 : 0 < w.heap.size
  g1 : 1 < w.heap.size
theorem Glb.of {w W : World} (h : Glb w) (hb : Below w.heap.size w W) : Glb W := ⟨h.laid.below hb h.g0 h.g1, Nat.lt_of_lt_of_le h.g0 hb.size, Nat.lt_of_lt_of_le h.g1 hb.size⟩
def sha2_Pad.f (n bits : Int) : Option (List Int × Int) := if (bits ≠ 256 ∧ bits ≠ 512) ∨ n < 0 then some ([], 1) else if n > 1048576 then some ([], 2) else if bits = 256 then some (padS n (padLen32 n) 8, 0) else some (padS n (padLen64 n) 8, 0)
theorem sha2_Pad.calls (a0 a1 : Int) (r1 : List Int) (r2 : Int) (w : World) (h : sha2_Pad.f a0 a1 = some (r1, r2)) :
    Calls Tryd.prog 13 #[.int .i64 a0, .int .i64 a1] w fun e w' => ∃ v0_ : Value, e = .returned (.tuple #[v0_, .int .i64 r2]) ∧ Kd.R (Kd.int .u8) 5 w' w.heap.size (fun _ => True) v0_ r1 ∧ Below w.heap.size w w' := by
  unfold sha2_Pad.f at h
  split at h
  · obtain ⟨rfl, rfl⟩ := Prod.mk.inj (Option.some.inj h)
    rename_i hc
    exact (PadArg_c a0 a1 hc w).mono fun e w' ⟨he, hb⟩ => ⟨_, he, Kd.R_nil _ _ _ _ _, hb⟩
  split at h
  · obtain ⟨rfl, rfl⟩ := Prod.mk.inj (Option.some.inj h)
    exact (PadLong_c a0 a1 (by omega) (by omega) w).mono fun e w' ⟨he, hb⟩ => ⟨_, he, Kd.R_nil _ _ _ _ _, hb⟩
  split at h
  · obtain ⟨rfl, rfl⟩ := Prod.mk.inj (Option.some.inj h)
    rename_i h256
    subst h256
    exact (Pad256_c a0 (by omega) (by omega) w).mono fun e w' ⟨v, he, ho, hb⟩ => ⟨v, he, Kd.R_of_own (enc := Value.int .u8) (h1 := fun _ => rfl) ho (fun _ _ => trivial), hb⟩
  · obtain ⟨rfl, rfl⟩ := Prod.mk.inj (Option.some.inj h)
    obtain rfl : a1 = 512 := by omega
    exact (Pad512_c a0 (by omega) (by omega) w).mono fun e w' ⟨v, he, ho, hb⟩ => ⟨v, he, Kd.R_of_own (enc := Value.int .u8) (h1 := fun _ => rfl) ho (fun _ _ => trivial), hb⟩
def sha2_Const.f (a0 : Int) : Option (Int × Int) := if 0 ≤ a0 ∧ a0 < 80 then some (KS.getD a0.toNat 0, 0) else some (0, 1)
theorem sha2_Const.calls (a0 r1 r2 : Int) (w : World) (HG : Glb w) (h : sha2_Const.f a0 = some (r1, r2)) :
    Calls Tryd.prog 26 #[.int .i64 a0] w fun e w' => e = .returned (.tuple #[.int .u64 r1, .int .i64 r2]) ∧ Below w.heap.size w w' := by
  unfold sha2_Const.f at h
  split at h
  · rename_i hc
    obtain ⟨rfl, rfl⟩ := Prod.mk.inj (Option.some.inj h)
    obtain ⟨i, rfl⟩ := Int.eq_ofNat_of_zero_le hc.1
    exact Const_in i (by omega) KS w (HG.laid.k i (by omega))
  · obtain ⟨rfl, rfl⟩ := Prod.mk.inj (Option.some.inj h)
    exact Const_out a0 (by omega) w
def sha2_Start.f (a0 : Int) : Option (Int × Int) := if 0 ≤ a0 ∧ a0 < 8 then some (SS.getD a0.toNat 0, 0) else some (0, 1)
theorem sha2_Start.calls (a0 r1 r2 : Int) (w : World) (HG : Glb w) (h : sha2_Start.f a0 = some (r1, r2)) :
    Calls Tryd.prog 28 #[.int .i64 a0] w fun e w' => e = .returned (.tuple #[.int .u64 r1, .int .i64 r2]) ∧ Below w.heap.size w w' := by
  unfold sha2_Start.f at h
  split at h
  · rename_i hc
    obtain ⟨rfl, rfl⟩ := Prod.mk.inj (Option.some.inj h)
    obtain ⟨i, rfl⟩ := Int.eq_ofNat_of_zero_le hc.1
    exact Start_in i (by omega) SS w (HG.laid.s i (by omega))
  · obtain ⟨rfl, rfl⟩ := Prod.mk.inj (Option.some.inj h)
    exact Start_out a0 (by omega) w
def isBytes (l : List Int) : Bool := l.all (fun x => decide (0 ≤ x ∧ x < 256))
theorem isBytes_get {l : List Int} (h : isBytes l = true) : ∀ i, 0 ≤ l.getD i 0 ∧ l.getD i 0 < 256 := getD_bytes (fun x hx => by have := List.all_eq_true.1 h x hx; simpa using this)
def sha2_Sum256.f (l0 : List Int) : Option (List Int × Int) := if isBytes l0 = true then some (sumOf false KS SS l0) else none
theorem sha2_Sum256.calls (A0 : Option Addr) (c0 : Nat) (l0 r1 : List Int) (r2 : Int) (w : World) (HG : Glb w) (hr0 : Kd.C (Kd.int .u8) w A0 l0.length l0) (_hc0 : l0.length ≤ c0) (h : sha2_Sum256.f l0 = some (r1, r2)) :
    Calls Tryd.prog 34 #[.slice A0 l0.length c0] w fun e w' => ∃ v0_ : Value, e = .returned (.tuple #[v0_, .int .i64 r2]) ∧ Kd.R (Kd.int .u8) 5 w' w.heap.size (fun _ => True) v0_ r1 ∧ Below w.heap.size w w' := by
  unfold sha2_Sum256.f at h
  split at h
  · rename_i hc
    have h1 := Option.some.inj h
    have := Sum256_c KS SS l0 A0 c0 w HG.laid HG.g0 HG.g1 hr0 (isBytes_get hc)
    rw [h1] at this
    exact this
  · cases h
def sha2_Sum512.f (l0 : List Int) : Option (List Int × Int) := if isBytes l0 = true then some (sumOf true KS SS l0) else none
theorem sha2_Sum512.calls (A0 : Option Addr) (c0 : Nat) (l0 r1 : List Int) (r2 : Int) (w : World) (HG : Glb w) (hr0 : Kd.C (Kd.int .u8) w A0 l0.length l0) (_hc0 : l0.length ≤ c0) (h : sha2_Sum512.f l0 = some (r1, r2)) :
    Calls Tryd.prog 49 #[.slice A0 l0.length c0] w fun e w' => ∃ v0_ : Value, e = .returned (.tuple #[v0_, .int .i64 r2]) ∧ Kd.R (Kd.int .u8) 5 w' w.heap.size (fun _ => True) v0_ r1 ∧ Below w.heap.size w w' := by
  unfold sha2_Sum512.f at h
  split at h
  · rename_i hc
    have h1 := Option.some.inj h
    have := Sum512_c KS SS l0 A0 c0 w HG.laid HG.g0 HG.g1 hr0 (isBytes_get hc)
    rw [h1] at this
    exact this
  · cases h
end Go.Proofs.YtckjgipkdknmgaaDoor.X
