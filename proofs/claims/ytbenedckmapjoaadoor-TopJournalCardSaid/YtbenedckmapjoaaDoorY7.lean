/- Several texts as one. -/
import Derived.Test.YtbenedckmapjoaaDoorX
namespace Go.Proofs.YtbenedckmapjoaaDoor.X
open Go.RowKit Go.Proofs.YtbenedckmapjoaaDoorW.PrintWords Go.Proofs.YtbenedckmapjoaaDoor.H Go.Proofs.YtbenedckmapjoaaDoor.F
set_option linter.unusedVariables false
set_option linter.unusedSimpArgs false
theorem row_C (w : World) (cs : List Value) (xs : List (List Int)) (e : Nat) (h : ∀ (i : Nat) (x : List Int), xs[i]? = some x → ∃ A c, cs[i]? = some (Value.slice A x.length c) ∧ x.length ≤ c ∧ Kd.C (Kd.int .u8) w A x.length x) (hm : xs.length ≤ 140737488351232) :
    Kd.C (Kd.slice 5 (Kd.int .u8)) (w.alloc (.cells cs.toArray e)) (some ⟨w.heap.size, 0, none⟩) xs.length xs := by
  refine ⟨rfl, by show xs.length ≤ 9223372036854775807; omega, fun _ => ⟨_, rfl, fun j x hj => ?_⟩⟩
  obtain ⟨A, c, hc, hl, hC⟩ := h j x hj
  refine ⟨[.slice A x.length c], rfl, ⟨A, c, rfl, hl, Kd.C_below hC (below_alloc (Below.refl _ _) _)⟩, fun i u hu => ?_⟩
  have hi0 : i = 0 := by have := (List.getElem?_eq_some_iff.1 hu).1; simpa using this
  subst hi0
  obtain rfl : Value.slice A x.length c = u := by simpa using hu
  have h6 := blk_cell (Go.Proofs.YtbenedckmapjoaaDoor.H.new1 w (.cells cs.toArray e)) j
  show (w.alloc (.cells cs.toArray e)).cell? ((⟨w.heap.size, 0, none⟩ : Addr).add (j * 1 + 0)) = _
  rw [show j * 1 + 0 = j by omega, show (⟨w.heap.size, 0, none⟩ : Addr).add j = ⟨w.heap.size, j, none⟩ by simp [Addr.add]; intro h; exact h.symm]
  refine h6.trans ?_
  simpa using hc
theorem R_C {e base : Nat} {ok : Nat → Prop} {A : Option Addr} {m c : Nat} {xs : List Int} {w : World} (h : Kd.R (Kd.int .u8) e w base ok (.slice A m c) xs) : Kd.C (Kd.int .u8) w A m xs := by
  obtain ⟨h1, _, h3⟩ := Kd.R_reads' h
  rw [← h1] at h3
  exact h3
theorem flat1 (s : List Int) : [s].flatten = s := by simp
theorem wide_length (t : List Int) : (wideOf t).length = 64 := tell64_length _ _
/-- The hash of a seed, its first half made a secret. -/
def secOf (h : List Int) : List Int := (h.set 0 (bits .and .u8 (h.getD 0 0) 248)).set 31 (bits .or .u8 (bits .and .u8 (h.getD 31 0) 127) 64)
theorem secOf_length (h : List Int) : (secOf h).length = h.length := by unfold secOf; rw [List.length_set, List.length_set]
theorem C_half {w : World} {g n : Nat} {l : List Int} (h : Kd.C (Kd.int .u8) w (some ⟨g, 0, none⟩) n l) (k : Nat) (hk : k ≤ n) : Kd.C (Kd.int .u8) w (some ⟨g, k, none⟩) (n - k) (l.drop k) := by
  obtain ⟨h1, h2, h3⟩ := h
  refine ⟨by rw [List.length_drop, h1], by omega, fun hn => ⟨_, rfl, fun j p hj => ?_⟩⟩
  obtain ⟨ad, he, hc⟩ := h3 (by omega)
  injection he with he
  subst he
  rw [List.getElem?_drop] at hj
  obtain ⟨c, e1, e2, e3⟩ := hc (k + j) p hj
  refine ⟨c, e1, e2, fun i u hu => ?_⟩
  have e4 := e3 i u hu
  rw [Addr.add_mid] at e4 ⊢
  rw [← e4]
  congr 2
  show k + (j * 1 + i) = 0 + ((k + j) * 1 + i)
  omega
set_option maxRecDepth 100000 in
set_option maxHeartbeats 4000000 in
theorem secret_c (A : Option Addr) (n c : Nat) (s h : List Int) (hn : n = s.length) (hby : ∀ x ∈ s, 0 ≤ x ∧ x < 256) (hlen : s.length ≤ 1048576) (hc : n ≤ c) (hh : h = wideOf s) (w : World) (HG : Glb w) (hr : Kd.C (Kd.int .u8) w A n s) :
    Calls Tryd.prog 43 #[.slice A n c] w fun e w' => ∃ g cap, e = .returned (.tuple #[.slice (some ⟨g, 0, none⟩) 32 32, .slice (some ⟨g, 32, none⟩) 32 cap]) ∧ 32 ≤ cap ∧ Kd.C (Kd.int .u8) w' (some ⟨g, 0, none⟩) 64 (secOf h) ∧ w.heap.size ≤ g ∧ Below w.heap.size w w' := by
  have hl := wide_length s
  rw [← hh] at hl
  have H0 := Aside0.mk (And.intro HG (And.intro hr (And.intro hn (And.intro hby (And.intro hlen (And.intro hc (And.intro hh hl)))))))
  clear hr hn hby hlen hc hh hl HG
  go_enter Tryd.func43, Tryd.ntmps43
  go_upto_region 2 with (first
    | (go_at_call 95
       have hrow := row_C w [.slice A n c] [s] 30 (fun i x hx => by
         have hi := (List.getElem?_eq_some_iff.1 hx).1
         obtain rfl : i = 0 := by simpa using hi
         obtain rfl : s = x := by simpa using hx
         rw [← H0.out.2.2.1]
         exact ⟨A, c, rfl, H0.out.2.2.2.2.2.1, H0.out.2.1⟩) (by show 1 ≤ _; decide)
       have hlong := long_c (some ⟨w.heap.size, 0, none⟩) 1 [s] (by rw [flat1]; exact H0.out.2.2.2.1) (by rw [flat1]; exact H0.out.2.2.2.2.1) (w.alloc (.cells #[.slice A n c] 30)) (H0.out.1.of (below_alloc (Below.refl _ _) _)) hrow
       rw [flat1, ← H0.out.2.2.2.2.2.2.1] at hlong
       refine hlong.mono ?_
       rintro e w1 ⟨v, rfl, hR, hB⟩
       obtain ⟨g, cap, rfl, hg, hgs, _⟩ := Kd.R_form hR (by rw [H0.out.2.2.2.2.2.2.2]; decide)
       have P1 := Aside0.mk (And.intro hR (And.intro (show w.heap.size ≤ g from Nat.le_trans (by simp) hg) (below_step (below_alloc (Below.refl w.heap.size w) _) hB)))
       have hcap := (Kd.R_reads' hR).2.1
       rw [H0.out.2.2.2.2.2.2.2] at hcap ⊢
       clear hrow hlong hR hB hg hgs))
  obtain ⟨x0, hx0⟩ : ∃ x, x = h.getD 0 0 := ⟨_, rfl⟩
  obtain ⟨x31, hx31⟩ : ∃ x, x = h.getD 31 0 := ⟨_, rfl⟩
  have h64 := H0.out.2.2.2.2.2.2.2
  have c0 : w1.cell? ⟨g, 0, none⟩ = some (.int .u8 x0) := by rw [hx0]; exact (Kd.R_cell 0 P1.out.1 0 (by decide) (by omega)).1
  have f0 : w1.frozen? ⟨g, 0, none⟩ = false := (Kd.R_cell 0 P1.out.1 0 (by decide) (by omega)).2
  have HX := Lib.hid (And.intro hx0 (And.intro hx31 h64))
  clear hx0 hx31 h64
  go_upto_region 3 with (fail)
  have P2 : Aside0 ((Kd.int .u8).R 5 (w1.setCell ⟨g, 0, none⟩ (.int .u8 (bits .and .u8 x0 248))) (w.alloc (Obj.cells #[Value.slice A n c] 30)).heap.size (fun x => True) (.slice (some ⟨g, 0, none⟩) (h.set 0 (bits .and .u8 x0 248)).length cap) (h.set 0 (bits .and .u8 x0 248)) ∧ w.heap.size ≤ g ∧ Below w.heap.size w (w1.setCell ⟨g, 0, none⟩ (.int .u8 (bits .and .u8 x0 248)))) := ⟨by rw [List.length_set]; exact (Kd.R_put P1.out.1 0 _).1, P1.out.2.1, below_set P1.out.2.2 P1.out.2.1⟩
  clear c0 f0 P1
  generalize (w1.setCell ⟨g, 0, none⟩ (.int .u8 (bits .and .u8 x0 248))) = w2 at P2 ⊢
  obtain ⟨h2, hh2⟩ : ∃ x, x = h.set 0 (bits .and .u8 x0 248) := ⟨_, rfl⟩
  rw [← hh2] at P2
  have hl2 : h2.length = 64 := by rw [hh2, List.length_set]; exact HX.out.2.2
  have hg2 : x31 = h2.getD 31 0 := by rw [hh2, HX.out.2.1, getD_set_list, if_neg (by simp)]
  have c31 : w2.cell? ⟨g, 31, none⟩ = some (.int .u8 x31) := by rw [hg2]; exact (Kd.R_cell 0 P2.out.1 31 (by decide) (by omega)).1
  have f31 : w2.frozen? ⟨g, 31, none⟩ = false := (Kd.R_cell 0 P2.out.1 31 (by decide) (by omega)).2
  have HH := Lib.hid (And.intro hh2 hl2)
  clear hh2 hl2 hg2
  go_upto_region 4 with (fail)
  have P3 : Aside0 ((Kd.int .u8).R 5 (w2.setCell ⟨g, 31, none⟩ (.int .u8 (bits .or .u8 (bits .and .u8 x31 127) 64))) (w.alloc (Obj.cells #[Value.slice A n c] 30)).heap.size (fun x => True) (.slice (some ⟨g, 0, none⟩) 64 cap) (secOf h) ∧ w.heap.size ≤ g ∧ Below w.heap.size w (w2.setCell ⟨g, 31, none⟩ (.int .u8 (bits .or .u8 (bits .and .u8 x31 127) 64)))) := ⟨by unfold secOf; rw [← HX.out.1, ← HX.out.2.1, ← HH.out.1, ← HH.out.2]; exact (Kd.R_put P2.out.1 31 _).1, P2.out.2.1, below_set P2.out.2.2 P2.out.2.1⟩
  clear c31 f31 P2
  generalize (w2.setCell ⟨g, 31, none⟩ (.int .u8 (bits .or .u8 (bits .and .u8 x31 127) 64))) = w3 at P3 ⊢
  go_region
  go_wp2
  go_ret2
  exact ⟨g, cap - 32, rfl, by omega, R_C (Kd.R_drew P3.out.1), P3.out.2.1, below_drew P3.out.2.2⟩
/-- The key of a secret: the walk. -/
theorem key_w (A : Option Addr) (n c : Nat) (vb vz vm : Value) (l : List Int) (w : World)
    (kB : ∀ w1, Below w.heap.size w w1 → Calls Tryd.prog 19 #[] w1 fun e w' => e = .returned vb ∧ Below w1.heap.size w1 w')
    (kZ : ∀ w1, Below w.heap.size w w1 → Calls Tryd.prog 60 #[] w1 fun e w' => e = .returned vz ∧ Below w1.heap.size w1 w')
    (kM : ∀ w1, Below w.heap.size w w1 → Calls Tryd.prog 59 #[.slice A n c, vb, .slice none 0 0, vz] w1 fun e w' => e = .returned vm ∧ Below w1.heap.size w1 w')
    (kE : ∀ w1, Below w.heap.size w w1 → Calls Tryd.prog 23 #[vm] w1 fun e w' => ∃ g, e = .returned (.slice (some ⟨g, 0, none⟩) 32 32) ∧ Byt g l w' ∧ w1.heap.size ≤ g ∧ Below w1.heap.size w1 w') :
    Calls Tryd.prog 44 #[.slice A n c] w fun e w' => ∃ g, e = .returned (.slice (some ⟨g, 0, none⟩) 32 32) ∧ Byt g l w' ∧ w.heap.size ≤ g ∧ Below w.heap.size w w' := by
  have K := Aside0.mk (And.intro kB (And.intro kZ (And.intro kM kE)))
  clear kB kZ kM kE
  go_enter Tryd.func44, Tryd.ntmps44
  go_wp2_with (first
    | (go_at_call 19; refine (K.out.1 _ (Below.refl _ _)).mono ?_; rintro e w1 ⟨rfl, hb⟩; have B1 := Aside0.mk hb; clear hb)
    | (go_at_call 60; refine (K.out.2.1 _ B1.out).mono ?_; rintro e w2 ⟨rfl, hb⟩; have B2 := Aside0.mk (below_step B1.out hb); clear hb)
    | (go_at_call 59; refine (K.out.2.2.1 _ B2.out).mono ?_; rintro e w3 ⟨rfl, hb⟩; have B3 := Aside0.mk (below_step B2.out hb); clear hb)
    | (go_at_call 23; refine (K.out.2.2.2 _ B3.out).mono ?_; rintro e w4 ⟨g, rfl, hY, hg, hb⟩; have B4 := Aside0.mk (And.intro hY (And.intro (Nat.le_trans B3.out.size hg) (below_step B3.out hb))); clear hY hg hb))
  go_ret
  exact ⟨g, rfl, B4.out⟩
/-- The bytes of the key of a secret. -/
def keyOf (n : List Int) : List Int := (mixP n pb [] p0).bytes
theorem key_c (A : Option Addr) (n c : Nat) (l : List Int) (hn : n = l.length) (hl : l.length ≤ 32) (hby : ∀ i, 0 ≤ l.getD i 0 ∧ l.getD i 0 < 256) (w : World) (HG : Glb w) (hr : Kd.C (Kd.int .u8) w A n l) :
    Calls Tryd.prog 44 #[.slice A n c] w fun e w' => ∃ g, e = .returned (.slice (some ⟨g, 0, none⟩) 32 32) ∧ Byt g (keyOf l) w' ∧ w.heap.size ≤ g ∧ Below w.heap.size w w' := by
  subst hn
  exact key_w A l.length c (Vp pb) (Vp p0) (Vp (mixP l pb [] p0)) (keyOf l) w (fun w1 h1 => PBase w1 (HG.of h1).ed) (fun w1 h1 => PZero w1)
    (fun w1 h1 => PMix l [] pb p0 pb_ok p0_ok A none c 0 hl (by decide) hby (fun i => by simp) w1 (HG.of h1).ed.2.2.2 (Kd.C_below hr h1) (Kd.C_nil _ _)) (fun w1 h1 => PEncode _ (mixP_ok _ _ _ _) w1)
set_option maxRecDepth 100000 in
set_option maxHeartbeats 4000000 in
theorem Key_w (A : Option Addr) (c : Nat) (l : List Int) (w : World)
    (kS : Calls Tryd.prog 43 #[.slice A 32 c] w fun e w' => ∃ g cap, e = .returned (.tuple #[.slice (some ⟨g, 0, none⟩) 32 32, .slice (some ⟨g, 32, none⟩) 32 cap]) ∧ Below w.heap.size w w' ∧
      Calls Tryd.prog 44 #[.slice (some ⟨g, 0, none⟩) 32 32] w' fun e w2 => ∃ g, e = .returned (.slice (some ⟨g, 0, none⟩) 32 32) ∧ Byt g l w2 ∧ w'.heap.size ≤ g ∧ Below w'.heap.size w' w2) :
    Calls Tryd.prog 13 #[.slice A 32 c] w fun e w' => ∃ g, e = .returned (.tuple #[.slice (some ⟨g, 0, none⟩) 32 32, .int .i64 0]) ∧ Byt g l w' ∧ w.heap.size ≤ g ∧ Below w.heap.size w w' := by
  have K := Aside0.mk kS
  clear kS
  go_enter Tryd.func13, Tryd.ntmps13
  go_wp2_with (first
    | (go_at_call 43; refine K.out.mono ?_; rintro e w1 ⟨g, cap, rfl, hb, hk⟩; have B1 := Aside0.mk (And.intro hb hk); clear hb hk)
    | (go_at_call 44; refine B1.out.2.mono ?_; rintro e w2 ⟨g2, rfl, hY, hg, hb⟩; have B2 := Aside0.mk (And.intro hY (And.intro (Nat.le_trans B1.out.1.size hg) (below_step B1.out.1 hb))); clear hY hg hb))
  go_ret2
  exact ⟨g2, rfl, B2.out⟩
/-- The secret of a seed. -/
def secL (s : List Int) : List Int := (secOf (wideOf s)).take 32
theorem C_take {w : World} {A : Option Addr} {n : Nat} {l : List Int} (h : Kd.C (Kd.int .u8) w A n l) (k : Nat) (hk : k ≤ n) : Kd.C (Kd.int .u8) w A k (l.take k) := by
  obtain ⟨h1, h2, h3⟩ := h
  refine ⟨by rw [List.length_take]; omega, by omega, fun hn => ?_⟩
  obtain ⟨ad, he, hc⟩ := h3 (by omega)
  refine ⟨ad, he, fun j p hj => hc j p ?_⟩
  rw [List.getElem?_take] at hj
  split at hj
  · exact hj
  · cases hj
theorem secL_length (s : List Int) : (secL s).length = 32 := by unfold secL; rw [List.length_take, secOf_length, wide_length]; rfl
end Go.Proofs.YtbenedckmapjoaaDoor.X
namespace Go.Proofs.YtbenedckmapjoaaDoor.X
open Go.RowKit Go.Proofs.YtbenedckmapjoaaDoorW.PrintWords Go.Proofs.YtbenedckmapjoaaDoor.H Go.Proofs.YtbenedckmapjoaaDoor.F
set_option linter.unusedVariables false
set_option linter.unusedSimpArgs false
theorem em64_bytes (x : Int) : ∀ j, ∀ y ∈ em64 x j, 0 ≤ y ∧ y < 256
  | 0, y, hy => by cases hy
  | j + 1, y, hy => by
    rw [em64, List.mem_append] at hy
    rcases hy with hy | hy
    · exact em64_bytes x j y hy
    · rw [List.mem_singleton] at hy
      subst hy
      simp only [IntKind.wrap_u8]
      omega
theorem tell64_bytes (h : List Int) : ∀ n, ∀ y ∈ tell64 h n, 0 ≤ y ∧ y < 256
  | 0, y, hy => by cases hy
  | n + 1, y, hy => by
    rw [tell64, List.mem_append] at hy
    rcases hy with hy | hy
    · exact tell64_bytes h n y hy
    · exact em64_bytes _ _ y hy
theorem bits8 (o : BinOp) (x y : Int) : 0 ≤ bits o .u8 x y ∧ bits o .u8 x y < 256 := by
  unfold bits
  cases o <;> simp only [IntKind.wrap_u8] <;> omega
theorem secOf_bytes (t : List Int) : ∀ x ∈ secOf (wideOf t), 0 ≤ x ∧ x < 256 := fun x hx => by
  unfold secOf at hx
  rcases List.mem_or_eq_of_mem_set hx with h1 | h1
  · rcases List.mem_or_eq_of_mem_set h1 with h2 | h2
    · exact tell64_bytes _ _ x h2
    · rw [h2]; exact bits8 _ _ _
  · rw [h1]; exact bits8 _ _ _
theorem secL_bytes (t : List Int) : ∀ x ∈ secL t, 0 ≤ x ∧ x < 256 := fun x hx => secOf_bytes t x (List.mem_of_mem_take hx)
/-- The bytes of a seed's key. -/
def keyL (s : List Int) : List Int := keyOf (secL s)
theorem Key_c (A : Option Addr) (c : Nat) (s : List Int) (hs : s.length = 32) (hc : 32 ≤ c) (hby : ∀ x ∈ s, 0 ≤ x ∧ x < 256) (w : World) (HG : Glb w) (hr : Kd.C (Kd.int .u8) w A 32 s) :
    Calls Tryd.prog 13 #[.slice A 32 c] w fun e w' => ∃ g, e = .returned (.tuple #[.slice (some ⟨g, 0, none⟩) 32 32, .int .i64 0]) ∧ Byt g (keyL s) w' ∧ w.heap.size ≤ g ∧ Below w.heap.size w w' := by
  refine Key_w A c (keyL s) w ((secret_c A 32 c s _ hs.symm hby (by omega) hc rfl w HG hr).mono ?_)
  rintro e w' ⟨g, cap, rfl, hcap, hC, hg, hB⟩
  refine ⟨g, cap, rfl, hB, ?_⟩
  exact key_c (some ⟨g, 0, none⟩) 32 32 (secL s) (secL_length s).symm (by rw [secL_length]; decide) (getD_bytes (secL_bytes s)) w' (HG.of hB) (C_take hC 32 (by decide))
set_option maxRecDepth 100000 in
set_option maxHeartbeats 4000000 in
theorem seed_c (a : Int) (w : World) : Calls Tryd.prog 42 #[.int .u8 a] w fun e w' => ∃ g, e = .returned (.slice (some ⟨g, 0, none⟩) 32 32) ∧ Byt g (a :: List.replicate 31 0) w' ∧ w.heap.size ≤ g ∧ Below w.heap.size w w' := by
  have hmk : ∀ w : World, (Instr.makeSlice 30 (.int .i64 32) (.int .i64 32)).run Tryd.prog w = .ok (.slice (some ⟨w.heap.size, 0, none⟩) 32 32) (w.alloc (.cells (madeCells #[.int .u8 0] 32) 5)) := fun w => by kernel_rfl
  go_enter Tryd.func42, Tryd.ntmps42
  go_upto_region 2 with (fail)
  have P0 : Aside0 (Byt w.heap.size (List.replicate 32 0) (w.alloc (.cells (madeCells #[.int .u8 0] 32) 5)) ∧ Below w.heap.size w (w.alloc (.cells (madeCells #[.int .u8 0] 32) 5))) := ⟨by unfold Byt; rw [show cells8 (List.replicate 32 0) = madeCells #[.int .u8 0] 32 by kernel_rfl]; exact new1 _ _, below_alloc (Below.refl _ _) _⟩
  generalize (w.alloc (.cells (madeCells #[.int .u8 0] 32) 5)) = w1 at P0 ⊢
  have c0 := P0.out.1.cell (i := 0) (by decide)
  have f0 := P0.out.1.frozen 0
  go_wp2
  go_ret
  exact ⟨w.heap.size, rfl, P0.out.1.put 0 a, Nat.le_refl _, below_set P0.out.2 (Nat.le_refl _)⟩
end Go.Proofs.YtbenedckmapjoaaDoor.X
namespace Go.Proofs.YtbenedckmapjoaaDoor.X
open Go.RowKit Go.Proofs.YtbenedckmapjoaaDoor.H Go.Proofs.YtbenedckmapjoaaDoor.F
set_option linter.unusedVariables false
set_option linter.unusedSimpArgs false
/-- A number is reckoned out before what is made of it. -/
def out {α : Type} (a : Int) (k : Int → α) : α := match a with
  | .ofNat 0 => k (.ofNat 0)
  | .ofNat (n + 1) => k (.ofNat (n + 1))
  | .negSucc n => k (.negSucc n)
theorem out_eq {α : Type} (a : Int) (k : Int → α) : out a k = k a := by
  unfold out
  split <;> rfl
def pmkF {α : Type} (e f g h : Int) (k : Pnt → α) : α := out (fm e f) fun x => out (fm g h) fun y => out (fm f g) fun z => out (fm e h) fun t => k ⟨x, y, z, t⟩
theorem pmkF_eq {α : Type} (e f g h : Int) (k : Pnt → α) : pmkF e f g h k = k (pmk e f g h) := by simp only [pmkF, out_eq, pmk]
def dblF {α : Type} (p : Pnt) (k : Pnt → α) : α :=
  out (fm p.x p.x) fun a => out (fm p.y p.y) fun b => out (fm p.z p.z) fun c => out (fa c c) fun c2 => out (fa a b) fun s => out (fa p.x p.y) fun u => out (fs (fm u u) s) fun e => out (fs b a) fun g => out (fs g c2) fun f => out (fs 0 s) fun h => pmkF e f g h k
theorem dblF_eq {α : Type} (p : Pnt) (k : Pnt → α) : dblF p k = k p.dbl := by simp only [dblF, out_eq, pmkF_eq, Pnt.dbl]
def sumF {α : Type} (p q : Pnt) (k : Pnt → α) : α :=
  out (fm (fs p.y p.x) (fs q.y q.x)) fun a => out (fm (fa p.y p.x) (fa q.y q.x)) fun b => out (fm (fm p.t q.t) cuN) fun c => out (fm p.z q.z) fun d0 => out (fa d0 d0) fun d => out (fs b a) fun e => out (fs d c) fun f => out (fa d c) fun g => out (fa b a) fun h => pmkF e f g h k
theorem sumF_eq {α : Type} (p q : Pnt) (k : Pnt → α) : sumF p q k = k (p.sum q) := by simp only [sumF, out_eq, pmkF_eq, Pnt.sum]
/-- Two points are held alike. -/
def eqP (p q : Pnt) : Bool := p.x == q.x && p.y == q.y && p.z == q.z && p.t == q.t
theorem eqP_eq {p q : Pnt} (h : eqP p q = true) : p = q := by
  unfold eqP at h
  simp only [Bool.and_eq_true, beq_iff_eq] at h
  obtain ⟨x, y, z, t⟩ := p
  obtain ⟨x', y', z', t'⟩ := q
  obtain ⟨⟨⟨h1, h2⟩, h3⟩, h4⟩ := h
  simp only at h1 h2 h3 h4
  rw [h1, h2, h3, h4]
/-- The base 0 to 15 times. -/
def winL : List Pnt := [⟨0, 1, 1, 0⟩, ⟨2552840779483505378219113134010172119181058439347146804455661131842826228859, 11579208923731619542357098500868790785326998466564056403945758400791312963993, 4, 13621481547318423844932389008076928480671845218041773847510287306265573947077⟩, ⟨16336016761231962468819867461858475761091856084624350416296442045456922074694, 16552350768429603926166181530468561741343769084010520394659748341317172715154, 3062783968496515312037527431645420928035166025475052976469989013649637669545, 16505508829590345626279360952051283410362477603810514015124309545113891740816⟩, ⟨12594278425537546236568478733346749404041661084880569111306630928633823176605, 27839206573783996614133062255498586339490731834549798392284349359446169401703, 14143667552920428259928715910123735904154661245981818772323100055593062228576, 56756361990905247291086968627181648681971071054615833582694380535340960832230⟩, ⟨8512003730302658329851992636079604639819922450620424774179853066254296654195, 255621414414941499736437679003867242878607521736755586818022517599764057044, 22634840959905816872204917555471628404766263538896818339710828885089397766212, 21796433772043376325818052902490440097510079480294769460796907027992151264713⟩, ⟨14551097396030022170397312512591346405094335342205296303143899177815371892310, 1000074377449036688552207653356403633011662567347632348819717883103775072814, 50534933508764257829380888425052664177671620049584384919800624120220473115404, 14784015703377157180937466081585510831546536143363184242398245067633946413226⟩, ⟨212326966164584744230302983299671419596330731702459971805683120192377806991, 22308676404249245073519963949278932536457105038915556195932940766087597458796, 17007991037828644077371590191478018211164527244752458870190456708811029072922, 48755864926673801036701105322855683930625469134676103945651161931554204246675⟩, ⟨29138265207791988742878370392672408974628861763528205752066604494642315123491, 42281469092090817416788502009912700978747995081415123689193244651809045538226, 47279254948357682924587118231673866026424628131366010954181956540095704886615, 32405517812174665309109419377833749259634262362108653690333430052760484171426⟩, ⟨45155458172829385956875856505690453701863182396955448363006164874525218809746, 2669144311800772608624832295899354068998166675679717157789185596085020456774, 53803057319512923133623501692128164530368948988882957071921339925969314606847, 23708069728243262557241974340349880503298284156433920809763419370971672300866⟩, ⟨33343077800956322584474069547116713963604792795758073799979310272208108546287, 19489534477289749976022089572399881302855240497964088847570087156232111414171, 37556675688763218371893309498020821518189221704849582102461666436355246183296, 9567602447836605133535478453368365677256676847558565690822794518657905627564⟩, ⟨4820241271659545009488851022486545034205574337915125236868046679528925260567, 3988934161985500322531284523975186622928280890292147850766785146885007575136, 36688560999801405134292875891271465293834108691797118877454527530522057688007, 6839131719084098740811060220299626355864542165852910404430893648491424990255⟩, ⟨13885756763807944299594241509008860732702738919062340509361826647869053591267, 13637024165606414594931628920237597516110153039487110051340387060853682454153, 1004743732450874152247974442285497896185435559633136769015477999121247937527, 3733291363373771153521031055034665508415189568058953163847358976144224803571⟩, ⟨46079484715956812942834495364018512299242496992214470675758947126961643485109, 42597608830214649514650457667562281824474560802287492585004491739948308674559, 11318046317099735478470529661772045791563754720934551977793950829094959357356, 337187147113597282802895894773263914495216701432550024768764686503625038335⟩, ⟨43633753680781536048965577479810666149872855216896516339333543420456388732360, 24087028310850066053202116606069216003578215424021921036046264803820027655359, 4434028646369769328878490067637661068310529614393162910237405662703468399471, 2898683359548723767554515604556599568672502275826914569454206860661300336345⟩, ⟨22212235366432578879747815307250188920762501297710110291870619240538083908912, 16734430592757388888854923327520393655198833407737144690891355446232580589039, 41989953168250810988905558953502109349578885135427681412181389610605849853942, 1204632422128440841683249088611342763238113015215756552221609630184184256505⟩, ⟨19013373894859928178854079753625051990220050778862066977966088794227561970278, 3313847304789071823100818095432038172241733175286491267639288682124258647006, 9169968963498946924660088136742910922600854985168740736307947253675147084245, 12688678981378869687825687323266864459480365974562900353588432364141788328980⟩]
theorem win_eq : ∀ d, d < 16 → pb.mul d = winL.getD d p0 := by
  have hs : ∀ d, 0 < d → d < 16 → (if d % 2 = 0 then (winL.getD (d / 2) p0).dbl else (winL.getD (d - 1) p0).sum pb) = winL.getD d p0 := by
    intro d h0 h1
    have : ∀ d, d < 16 → 0 < d → (if d % 2 = 0 then dblF (winL.getD (d / 2) p0) (fun p => eqP p (winL.getD d p0)) else sumF (winL.getD (d - 1) p0) pb (fun p => eqP p (winL.getD d p0))) = true := by decide +kernel
    have h2 := this d h1 h0
    split at h2
    · rename_i he
      rw [if_pos he]
      rw [dblF_eq] at h2
      exact eqP_eq h2
    · rename_i he
      rw [if_neg he]
      rw [sumF_eq] at h2
      exact eqP_eq h2
  intro d
  induction d using Nat.strongRecOn with
  | ind d ih =>
    intro hd
    rcases Nat.eq_zero_or_pos d with rfl | h0
    · rw [Pnt.mul]; rfl
    · rw [← hs d h0 hd]
      split
      · rename_i he
        rw [mul_even pb d h0 he, ih (d / 2) (by omega) (by omega)]
      · rename_i he
        rw [mul_odd pb d h0 (by omega), ih (d - 1) (by omega) (by omega)]
/-- A number times the base, reckoned out. -/
def runF {α : Type} (n : List Int) : Nat → Pnt → (Pnt → α) → α
  | 0, x, k => k x
  | i + 1, x, k => dblF x fun x => dblF x fun x => dblF x fun x => dblF x fun x => if dig n i = 0 then runF n i x k else sumF x (winL.getD (dig n i) p0) fun x => runF n i x k
theorem runF_eq {α : Type} (n : List Int) (k : Pnt → α) : ∀ (i : Nat) (x : GPn.T), runF n i x.1 k = k (GPn.run (mulP pb) (mulP p0) n [] i x).1
  | 0, x => rfl
  | i + 1, x => by
    have hz : dig [] i = 0 := rfl
    rw [runF, GP.run]
    simp only [dblF_eq, sumF_eq]
    rw [hz]
    unfold GP.step GP.ad
    rw [if_pos rfl]
    by_cases h : dig n i = 0
    · rw [if_pos h, if_pos h]
      exact runF_eq n k i (GPn.dn x 4)
    · rw [if_neg h, if_neg h, ← win_eq _ (dig_lt n i)]
      exact runF_eq n k i (GPn.A (GPn.dn x 4) (mulP pb (dig n i)))
/-- A power, reckoned out. -/
def pwF (b : Int) (l : List Int) : Nat → Int → Int
  | 0, a => a
  | i + 1, a => out (pstep b l i a) fun a => pwF b l i a
theorem pwF_eq (b : Int) (l : List Int) : ∀ i a, pwF b l i a = pwm b l i a
  | 0, a => rfl
  | i + 1, a => by rw [pwF, out_eq, pwm, pwF_eq b l i]
/-- The seed 0, and its secret. -/
def seed0 : List Int := 0 :: List.replicate 31 0
def sec0 : List Int := [80, 70, 173, 193, 219, 168, 56, 134, 123, 43, 187, 253, 208, 195, 66, 62, 88, 181, 121, 112, 181, 38, 122, 144, 245, 121, 96, 146, 74, 135, 241, 86]
theorem sec0_eq : secL seed0 = sec0 := by decide +kernel
def pt0 : Pnt := ⟨41202638343107015177091228267157422414193692977219770870921114123145360336453, 41963496056818968318105375003977839503793561851273654309529419856068858107993, 16401778190187246249654482742293639908479305172235194421540900224528726141734, 6266981926154541160644223303414440698257871862794356535974306333955544759980⟩
theorem pt0_eq : mixP sec0 pb [] p0 = pt0 := by
  have h : runF sec0 64 p0 (fun p => eqP p pt0) = true := by decide +kernel
  rw [show p0 = (GPn.z).1 from rfl, runF_eq sec0 (fun p => eqP p pt0) 64 GPn.z] at h
  exact eqP_eq h
def zi0 : Int := 12209493471304779972867300632181717869297038308607224655122765866170301393244
theorem zi0_eq : inv pt0.z = zi0 := by
  have h : (pwF pt0.z nearL 256 1 == zi0) = true := by decide +kernel
  rw [pwF_eq] at h
  unfold inv
  simpa using h
theorem keyL_length (s : List Int) : (keyL s).length = 32 := by
  unfold keyL keyOf Pnt.bytes
  split
  · rw [List.length_set]; exact stB_length _ _
  · exact stB_length _ _
theorem key0 : (keyL seed0).getD 0 0 = 59 := by
  unfold keyL keyOf
  rw [sec0_eq, pt0_eq]
  unfold Pnt.bytes
  rw [zi0_eq]
  decide +kernel
theorem none0 : (digest false KS SS []).getD 0 0 = 227 := by decide +kernel
theorem sum256_length (t : List Int) : (digest false KS SS t).length = 32 := tell32_length _ _
end Go.Proofs.YtbenedckmapjoaaDoor.X
namespace Go.Proofs.YtbenedckmapjoaaDoor.X
open Go.RowKit Go.Proofs.YtbenedckmapjoaaDoorW.PrintWords Go.Proofs.YtbenedckmapjoaaDoor.H Go.Proofs.YtbenedckmapjoaaDoor.F
set_option linter.unusedVariables false
set_option linter.unusedSimpArgs false
def imprimaturtop_awake.f : Option Bool := some true
set_option maxRecDepth 100000 in
set_option maxHeartbeats 4000000 in
theorem imprimaturtop_awake.calls (r : Bool) (w : World) (HG : Glb w) (h : imprimaturtop_awake.f = some r) :
    Calls Tryd.prog 10 #[] w fun e w' => e = .returned (.bool r) ∧ Below w.heap.size w w' := by
  obtain rfl : true = r := Option.some.inj h
  clear h
  obtain ⟨d, hd⟩ : ∃ d, d = digest false KS SS [] := ⟨_, rfl⟩
  have hd0 := none0
  have hdl := sum256_length []
  have hS := Sum256_c KS SS [] none 0 w HG.laid HG.g0 HG.g1 (Kd.C_nil _ _) (fun i => by simp)
  rw [show (sumOf false KS SS []).1 = digest false KS SS [] from rfl, show (sumOf false KS SS []).2 = 0 from rfl] at hS
  rw [← hd] at hS hd0 hdl
  rw [List.length_nil] at hS
  obtain ⟨k, hk⟩ : ∃ k, k = keyL seed0 := ⟨_, rfl⟩
  have hk0 := key0
  have hkl := keyL_length seed0
  rw [← hk] at hk0 hkl
  have HS := Aside0.mk (And.intro hS (And.intro HG (And.intro hd0 (And.intro hdl (And.intro hk (And.intro hk0 hkl))))))
  clear hS HG hd0 hdl hk hk0 hkl hd
  go_enter Tryd.func10, Tryd.ntmps10
  go_upto_region 3 with (first
    | (go_at_call 41; refine HS.out.1.mono ?_; rintro e w1 ⟨v, rfl, hR, hB⟩
       obtain ⟨g, cap, rfl, hg, hgs, _⟩ := Kd.R_form hR (by rw [HS.out.2.2.2.1]; decide)
       have P1 := Aside0.mk (And.intro hR (And.intro hg hB))
       rw [HS.out.2.2.2.1] at P1 ⊢
       clear hR hB hg hgs)
    | (go_at_call 42; refine (seed_c 0 _).mono ?_; rintro e w2 ⟨g2, rfl, hY, hg, hB⟩; have P2 := Aside0.mk (And.intro (show Byt g2 seed0 w2 from hY) (And.intro (Kd.R_below P1.out.1 hB) (below_step P1.out.2.2 hB))); clear hY hg hB)
    | (go_at_call 13
       have hK := Key_c (some ⟨g2, 0, none⟩) 32 seed0 (by decide) (by decide) (by decide) w2 (HS.out.2.1.of P2.out.2.2) (P2.out.1.C (by decide))
       rw [← HS.out.2.2.2.2.1] at hK
       refine hK.mono ?_; clear hK; rintro e w3 ⟨g3, rfl, hY, hg, hB⟩
       have P3 := Aside0.mk (And.intro hY (And.intro (Kd.R_below P2.out.2.1 hB) (below_step P2.out.2.2 hB)))
       clear hY hg hB))
  have c0 : w3.cell? ⟨g, 0, none⟩ = some (.int .u8 227) := by
    have h2 : Kd.R (Kd.int .u8) 5 w3 w.heap.size (fun _ => True) (.slice (some ⟨g, 0, none⟩) d.length cap) d := by rw [HS.out.2.2.2.1]; exact P3.out.2.1
    have h1 := (Kd.R_cell 0 h2 0 (by decide) (by rw [HS.out.2.2.2.1]; decide)).1
    rw [show rdOf 0 d 0 = d.getD 0 0 from rfl, HS.out.2.2.1] at h1
    exact h1
  have c1 : w3.cell? ⟨g3, 0, none⟩ = some (.int .u8 59) := by
    have h1 := P3.out.1.cell (i := 0) (by rw [HS.out.2.2.2.2.2.2]; decide)
    rw [HS.out.2.2.2.2.2.1] at h1
    exact h1
  go_wp2
  go_ret
  exact ⟨rfl, P3.out.2.2⟩
end Go.Proofs.YtbenedckmapjoaaDoor.X
