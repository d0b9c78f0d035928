/- Whether all of some texts have a digest's size. -/
import Derived.Test.YtcnpdapampclpaaDoorB
namespace Go.Proofs.YtcnpdapampclpaaDoor.X
open Go.RowKit Go.Proofs.YtcnpdapampclpaaDoor.H Go.Proofs.YtcnpdapampclpaaDoorW.PrintWords
theorem not32_c (A : Option Addr) (n c : Nat) (w : World) (_hn : n ≤ 9223372036854775807) : Calls Tryd.prog 71 #[.slice A n c] w fun e w' => e = .returned (.bool ((n : Int) != 32)) ∧ w' = w := by
  go_enter Tryd.func71, Tryd.ntmps71
  go_wp2
  go_ret
  exact ⟨rfl, rfl⟩
def all32 (l : List (List Int)) : Bool := l.all (fun x => decide (x.length = 32))
def IdxPost (l : List (List Int)) (w : World) (e : Ending) (w' : World) : Prop := ∃ r : Int, e = .returned (.int .i64 r) ∧ decide (0 ≤ r) = !all32 l ∧ w' = w
set_option maxRecDepth 100000 in
set_option maxHeartbeats 2000000 in
theorem idx_c (A : Option Addr) (c : Nat) (l : List (List Int)) (w : World) (hC : Kd.C (Kd.slice 5 (Kd.int .u8)) w A l.length l) :
    Calls Tryd.prog 87 #[.slice A l.length c, .func (.func 71) #[] #[]] w (IdxPost l w) := by
  have hxm := Kd.C_max hC
  have H0 := Aside0.mk hC
  clear hC
  go_enter Tryd.func87, Tryd.ntmps87
  go_wp2
  go_loopg [5, 8] l.length (fun m v5 v8 wr => ∃ (i : Nat) (u : Value), m + i = l.length ∧ v5 = u ∧ v8 = .int .i64 i ∧ wr = w ∧ Aside0 (∀ j, j < i → (l.getD j []).length = 32))
  case atStart => exact ⟨0, _, by omega, rfl, rfl, rfl, ⟨fun j hj => by omega⟩⟩
  case round =>
    obtain ⟨i, u, hmi, rfl, rfl, rfl, hall⟩ := hrel
    by_cases hi : i < l.length
    · have hiI : (i : Int) < l.length := by omega
      obtain ⟨ad, A1, c1, rfl, hcell, hlc, hC1⟩ := elem_at H0.out hi
      have hC1m := Kd.C_max hC1
      obtain ⟨q, hq⟩ : ∃ q, q = (l.getD i []).length := ⟨_, rfl⟩
      rw [← hq] at hcell hlc hC1m
      have Hq := Aside0.mk hq
      clear hC1 hq
      by_cases h32 : q = 32
      · subst h32
        go_wp2_with (first | (go_at_call 71; refine (not32_c _ _ _ _ (by omega)).mono ?_; rintro e w1 ⟨rfl, rfl⟩))
        go_roundg (gk - 1)
        all_goals first
          | omega
          | exact ⟨i + 1, _, by omega, rfl, rfl, rfl, ⟨fun j hj => by
              by_cases hji : j = i
              · rw [hji]; exact Hq.out.symm
              · exact hall.out j (by omega)⟩⟩
      · have hb : (((q : Nat) : Int) != 32) = true := bne_iff_ne.2 (by omega)
        go_wp2_with (first | (go_at_call 71; refine (not32_c _ _ _ _ (by omega)).mono ?_; rintro e w1 ⟨rfl, rfl⟩))
        go_ret
        refine ⟨i, rfl, ?_, rfl⟩
        have : all32 l = false := by
          rw [Bool.eq_false_iff]
          intro ha
          have := List.all_eq_true.1 ha (l.getD i []) (by rw [List.getD_eq_getElem?_getD, List.getElem?_eq_getElem hi]; exact List.getElem_mem _)
          exact h32 (Hq.out.trans (by simpa using this))
        rw [this]
        simp
    · have hiI : ¬ (i : Int) < l.length := by omega
      obtain rfl : i = l.length := by omega
      go_wp2
      go_ret
      refine ⟨-1, rfl, ?_, rfl⟩
      have : all32 l = true := List.all_eq_true.2 fun x hx => by
        obtain ⟨j, hj, rfl⟩ := List.getElem_of_mem hx
        have := hall.out j hj
        rw [List.getD_eq_getElem?_getD, List.getElem?_eq_getElem hj] at this
        exact decide_eq_true this
      rw [this]
      rfl
theorem contains_c (A : Option Addr) (c : Nat) (l : List (List Int)) (w : World) (hC : Kd.C (Kd.slice 5 (Kd.int .u8)) w A l.length l) :
    Calls Tryd.prog 70 #[.slice A l.length c, .func (.func 71) #[] #[]] w fun e w' => e = .returned (.bool (!all32 l)) ∧ w' = w := by
  have H0 := Aside0.mk hC
  clear hC
  go_enter Tryd.func70, Tryd.ntmps70
  go_wp2_with (first | (go_at_call 87; refine (idx_c A c l _ H0.out).mono ?_; rintro e w1 ⟨r, rfl, hr, rfl⟩; have Hr := Aside0.mk hr; clear hr))
  go_ret
  exact ⟨by rw [← Hr.out]; rfl, rfl⟩
def trail_digests.f (l0 : List (List Int)) : Option Bool := some (all32 l0)
theorem trail_digests.calls (A0 : Option Addr) (c0 : Nat) (l0 : List (List Int)) (r : Bool) (w : World) (hr0 : Kd.C (Kd.slice 5 (Kd.int .u8)) w A0 l0.length l0) (_hc0 : l0.length ≤ c0) (h : trail_digests.f l0 = some r) :
    Calls Tryd.prog 58 #[.slice A0 l0.length c0] w fun e w' => e = .returned (.bool r) ∧ Below w.heap.size w w' := by
  obtain rfl := Option.some.inj h
  have H0 := Aside0.mk hr0
  clear hr0 h
  go_enter Tryd.func58, Tryd.ntmps58
  go_wp2_with (first | (go_at_call 70; refine (contains_c A0 c0 l0 _ H0.out).mono ?_; rintro e w1 ⟨rfl, rfl⟩))
  go_ret
  exact ⟨by simp, Below.refl _ _⟩
end Go.Proofs.YtcnpdapampclpaaDoor.X
