/- Points as numbers: twice, and sums. -/
import Derived.Test.YtbenedckmapjoaaDoorPl
namespace Go.Proofs.YtbenedckmapjoaaDoor.F
open Go.RowKit Go.Proofs.YtbenedckmapjoaaDoor.H Go.Proofs.YtbenedckmapjoaaDoorW.PrintWords Go.Proofs.YtbenedckmapjoaaDoorW.PrintLast Go.Proofs.YtbenedckmapjoaaDoorW.PrintMore
set_option linter.unusedVariables false
set_option linter.unusedSimpArgs false
def Rg (a : Int) : Prop := 0 ≤ a ∧ a < PP
def fm (a b : Int) : Int := a * b % PP
def fa (a b : Int) : Int := (a + b) % PP
def fs (a b : Int) : Int := (a - b) % PP
theorem PP_pos : (0 : Int) < PP := by decide
theorem rg_mod (a : Int) : Rg (a % PP) := ⟨Int.emod_nonneg _ (by decide), Int.emod_lt_of_pos _ PP_pos⟩
theorem rg_fm (a b : Int) : Rg (fm a b) := rg_mod _
theorem rg_fa (a b : Int) : Rg (fa a b) := rg_mod _
theorem rg_fs (a b : Int) : Rg (fs a b) := rg_mod _
/-- A point as it is held. -/
structure Pnt where
  (x y z t : Int)
def Pnt.L (p : Pnt) : List Int := enc p.x ++ enc p.y ++ enc p.z ++ enc p.t
def Pnt.ok (p : Pnt) : Prop := Rg p.x ∧ Rg p.y ∧ Rg p.z ∧ Rg p.t
def pmk (e f g h : Int) : Pnt := ⟨fm e f, fm g h, fm f g, fm e h⟩
theorem pmk_ok (e f g h : Int) : (pmk e f g h).ok := ⟨rg_fm _ _, rg_fm _ _, rg_fm _ _, rg_fm _ _⟩
def Pnt.dbl (p : Pnt) : Pnt :=
  pmk (fs (fm (fa p.x p.y) (fa p.x p.y)) (fa (fm p.x p.x) (fm p.y p.y))) (fs (fs (fm p.y p.y) (fm p.x p.x)) (fa (fm p.z p.z) (fm p.z p.z))) (fs (fm p.y p.y) (fm p.x p.x)) (fs 0 (fa (fm p.x p.x) (fm p.y p.y)))
/-- Twice the curve's constant. -/
def cuN : Int := val [1859910466990425, 932731440258426, 1072319116312658, 1815898335770999, 633789495995903]
theorem cuN_rg : Rg cuN := by unfold Rg; decide
def Pnt.sum (p q : Pnt) : Pnt :=
  pmk (fs (fm (fa p.y p.x) (fa q.y q.x)) (fm (fs p.y p.x) (fs q.y q.x))) (fs (fa (fm p.z q.z) (fm p.z q.z)) (fm (fm p.t q.t) cuN)) (fa (fa (fm p.z q.z) (fm p.z q.z)) (fm (fm p.t q.t) cuN)) (fa (fm (fa p.y p.x) (fa q.y q.x)) (fm (fs p.y p.x) (fs q.y q.x)))
theorem dbl_ok (p : Pnt) : p.dbl.ok := pmk_ok _ _ _ _
theorem sum_ok (p q : Pnt) : (p.sum q).ok := pmk_ok _ _ _ _
def Vp (p : Pnt) : Value := .agg (cells64 p.L)
theorem buildP (a b c d : Int) (w : World) : (Instr.build 52 #[(0, .agg (cells64 (enc a))), (1, .agg (cells64 (enc b))), (2, .agg (cells64 (enc c))), (3, .agg (cells64 (enc d)))]).run Tryd.prog w = .ok (.agg (cells64 (enc a ++ enc b ++ enc c ++ enc d))) w := by kernel_rfl
theorem PDbl (p : Pnt) (hp : p.ok) (w : World) : Calls Tryd.prog 112 #[Vp p] w fun e w' => e = .returned (Vp p.dbl) ∧ Below w.heap.size w w' :=
  Dbl_w (px := enc p.x) (py := enc p.y) (pz := enc p.z) (pt := enc p.t) (ra := enc (fm p.x p.x)) (rb := enc (fm p.y p.y)) (rc := enc (fm p.z p.z)) (rd := enc (fa (fm p.z p.z) (fm p.z p.z))) (rs := enc (fa (fm p.x p.x) (fm p.y p.y))) (ru := enc (fa p.x p.y)) (rv := enc (fm (fa p.x p.y) (fa p.x p.y)))
    (re := enc (fs (fm (fa p.x p.y) (fa p.x p.y)) (fa (fm p.x p.x) (fm p.y p.y)))) (rg := enc (fs (fm p.y p.y) (fm p.x p.x))) (rf := enc (fs (fs (fm p.y p.y) (fm p.x p.x)) (fa (fm p.z p.z) (fm p.z p.z)))) (rh := enc (fs 0 (fa (fm p.x p.x) (fm p.y p.y)))) (oX := enc p.dbl.x) (oY := enc p.dbl.y) (oZ := enc p.dbl.z) (oT := enc p.dbl.t) (pW := p.L) (oW := p.dbl.L)
    rfl rfl rfl rfl rfl rfl rfl rfl rfl rfl rfl rfl rfl rfl rfl rfl rfl rfl rfl rfl rfl w
    (fun w => FSquare _ hp.1 w) (fun w => FSquare _ hp.2.1 w) (fun w => FSquare _ hp.2.2.1 w) (fun w => FAdd _ _ (rg_fm _ _) (rg_fm _ _) w) (fun w => FAdd _ _ (rg_fm _ _) (rg_fm _ _) w) (fun w => FAdd _ _ hp.1 hp.2.1 w) (fun w => FSquare _ (rg_fa _ _) w) (fun w => FSub _ _ (rg_fm _ _) (rg_fa _ _) w) (fun w => FSub _ _ (rg_fm _ _) (rg_fm _ _) w) (fun w => FSub _ _ (rg_fs _ _) (rg_fa _ _) w) (fun w => FNeg _ (rg_fa _ _) w)
    (fun w => FMul _ _ (rg_fs _ _) (rg_fs _ _) w) (fun w => FMul _ _ (rg_fs _ _) (rg_fs _ _) w) (fun w => FMul _ _ (rg_fs _ _) (rg_fs _ _) w) (fun w => FMul _ _ (rg_fs _ _) (rg_fs _ _) w) (buildP _ _ _ _)
/-- Where the package's constants lie. -/
def Gc (w : World) : Prop := (∃ tt fr, w.heap[4]? = some (.cells (cells64 (enc cuN)) tt fr)) ∧ 4 < w.heap.size
theorem PAdd (p q : Pnt) (hp : p.ok) (hq : q.ok) (w : World) (hG : Gc w) : Calls Tryd.prog 21 #[Vp p, Vp q] w fun e w' => e = .returned (Vp (p.sum q)) ∧ Below w.heap.size w w' := by
  obtain ⟨⟨tt, fr, hG1⟩, hG2⟩ := hG
  exact Sum_w (px := enc p.x) (py := enc p.y) (pz := enc p.z) (pt := enc p.t) (qx := enc q.x) (qy := enc q.y) (qz := enc q.z) (qt := enc q.t) (cu := enc cuN) (r1 := enc (fs p.y p.x)) (r2 := enc (fs q.y q.x)) (ra := enc (fm (fs p.y p.x) (fs q.y q.x))) (r3 := enc (fa p.y p.x)) (r4 := enc (fa q.y q.x)) (rb := enc (fm (fa p.y p.x) (fa q.y q.x)))
    (r5 := enc (fm p.t q.t)) (rc := enc (fm (fm p.t q.t) cuN)) (r6 := enc (fm p.z q.z)) (rd := enc (fa (fm p.z q.z) (fm p.z q.z))) (re := enc (fs (fm (fa p.y p.x) (fa q.y q.x)) (fm (fs p.y p.x) (fs q.y q.x)))) (rf := enc (fs (fa (fm p.z q.z) (fm p.z q.z)) (fm (fm p.t q.t) cuN))) (rg := enc (fa (fa (fm p.z q.z) (fm p.z q.z)) (fm (fm p.t q.t) cuN))) (rh := enc (fa (fm (fa p.y p.x) (fa q.y q.x)) (fm (fs p.y p.x) (fs q.y q.x))))
    (oX := enc (p.sum q).x) (oY := enc (p.sum q).y) (oZ := enc (p.sum q).z) (oT := enc (p.sum q).t) (pW := p.L) (qW := q.L) (oW := (p.sum q).L)
    rfl rfl rfl rfl rfl rfl rfl rfl rfl rfl rfl rfl rfl rfl rfl rfl rfl rfl rfl rfl rfl rfl rfl rfl rfl rfl rfl rfl rfl rfl tt fr w ⟨hG1, hG2⟩
    (fun w => FSub _ _ hp.2.1 hp.1 w) (fun w => FSub _ _ hq.2.1 hq.1 w) (fun w => FMul _ _ (rg_fs _ _) (rg_fs _ _) w) (fun w => FAdd _ _ hp.2.1 hp.1 w) (fun w => FAdd _ _ hq.2.1 hq.1 w) (fun w => FMul _ _ (rg_fa _ _) (rg_fa _ _) w)
    (fun w => FMul _ _ hp.2.2.2 hq.2.2.2 w) (fun w => FMul _ _ (rg_fm _ _) cuN_rg w) (fun w => FMul _ _ hp.2.2.1 hq.2.2.1 w) (fun w => FAdd _ _ (rg_fm _ _) (rg_fm _ _) w) (fun w => FSub _ _ (rg_fm _ _) (rg_fm _ _) w) (fun w => FSub _ _ (rg_fa _ _) (rg_fm _ _) w) (fun w => FAdd _ _ (rg_fa _ _) (rg_fm _ _) w) (fun w => FAdd _ _ (rg_fm _ _) (rg_fm _ _) w)
    (fun w => FMul _ _ (rg_fs _ _) (rg_fs _ _) w) (fun w => FMul _ _ (rg_fa _ _) (rg_fa _ _) w) (fun w => FMul _ _ (rg_fs _ _) (rg_fa _ _) w) (fun w => FMul _ _ (rg_fs _ _) (rg_fa _ _) w) (buildP _ _ _ _)
end Go.Proofs.YtbenedckmapjoaaDoor.F
