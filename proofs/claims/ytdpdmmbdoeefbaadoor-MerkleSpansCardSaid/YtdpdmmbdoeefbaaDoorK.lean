/- What comes of the fixed calls. -/
import Derived.Test.YtdpdmmbdoeefbaaDoorPCutx3
namespace Go.Proofs.YtdpdmmbdoeefbaaDoor.PCut
open Go.RowKit H X YtdpdmmbdoeefbaaDoorW.PrintWords YtdpdmmbdoeefbaaDoorW.PrintLast YtdpdmmbdoeefbaaDoorW.PrintMore
/-- Rows that lie in a new block. -/
theorem row_C (w : World) (cs : List Value) (xs : List (List Int)) (e : Nat) (h : ∀ (i : Nat) (x : List Int), xs[i]? = some x → ∃ A c, cs[i]? = some (Value.slice A x.length c) ∧ x.length ≤ c ∧ Kd.C (Kd.int .u8) w A x.length x) (hm : xs.length ≤ 140737488351232) :
    Kd.C (Kd.slice 5 (Kd.int .u8)) (w.alloc (.cells cs.toArray e)) (some ⟨w.heap.size, 0, none⟩) xs.length xs := by
  refine ⟨rfl, by show xs.length ≤ 9223372036854775807; omega, fun _ => ⟨_, rfl, fun j x hj => ?_⟩⟩
  obtain ⟨A, c, hc, hl, hC⟩ := h j x hj
  refine ⟨[.slice A x.length c], rfl, ⟨A, c, rfl, hl, Kd.C_below hC (below_alloc (Below.refl _ _) _)⟩, fun i u hu => ?_⟩
  have hi0 : i = 0 := by have := (List.getElem?_eq_some_iff.1 hu).1; simpa using this
  subst hi0
  obtain rfl : Value.slice A x.length c = u := by simpa using hu
  have h6 := blk_cell (Go.Proofs.YtdpdmmbdoeefbaaDoor.H.new1 w (.cells cs.toArray e)) j
  show (w.alloc (.cells cs.toArray e)).cell? ((⟨w.heap.size, 0, none⟩ : Addr).add (j * 1 + 0)) = _
  rw [show j * 1 + 0 = j by omega, show (⟨w.heap.size, 0, none⟩ : Addr).add j = ⟨w.heap.size, j, none⟩ by simp [Addr.add]; intro h; exact h.symm]
  refine h6.trans ?_
  simpa using hc
theorem kn_count : merkle_Count.f 5 65 64 = some (2, 0) := by decide +kernel
theorem kn_empty : merkle_Empty.f 9 = some ([0, 0], 0) := by decide +kernel
theorem kn_put : merkle_Put.f [0, 0] 9 8 = some ([0, 1], 0) := by decide +kernel
theorem kn_missing : merkle_Missing.f 5 [0, 1] 9 = some 0 := by decide +kernel
theorem kn_eight0 : merkle_eight.f 20 0 = some [0, 0, 0, 0, 0, 0, 0, 0] := by decide +kernel
theorem kn_eight1 : merkle_eight.f 20 1 = some [0, 0, 0, 0, 0, 0, 0, 1] := by decide +kernel
theorem digest_some {a : Int} {l : List (List Int)} (hb : isBytes (a :: l.flatten) = true) (hl : (a :: l.flatten).length ≤ 1048576) : merkle_digest.f a l = some (dig (a :: l.flatten)) := by unfold merkle_digest.f; rw [if_pos ⟨hb, hl⟩]
theorem kn_leaf : merkle_Leaf.f 20 0 [5] = some (dig [0, 0, 0, 0, 0, 0, 0, 0, 0, 5], 0) := by
  unfold merkle_Leaf.f
  rw [if_neg (by decide), if_neg (by decide), kn_eight0]
  simp only [Option.bind_some]
  rw [digest_some (by decide) (by decide)]
  rfl
theorem isBytes_of {l : List Int} (h : ∀ x ∈ l, 0 ≤ x ∧ x < 256) : isBytes l = true := List.all_eq_true.2 fun x hx => decide_eq_true (h x hx)
theorem kn_text {d : List Int} (hb : ∀ x ∈ d, 0 ≤ x ∧ x < 256) (hl : d.length = 32) : merkle_digest.f 2 [[0, 0, 0, 0, 0, 0, 0, 1], d] = some (dig (2 :: ([0, 0, 0, 0, 0, 0, 0, 1] ++ d))) := by
  have e : ([[0, 0, 0, 0, 0, 0, 0, 1], d] : List (List Int)).flatten = [0, 0, 0, 0, 0, 0, 0, 1] ++ d := by simp
  rw [digest_some]
  · rw [e]
  · rw [e]
    refine isBytes_of fun x hx => ?_
    simp only [List.mem_cons, List.cons_append, List.nil_append] at hx
    rcases hx with hx | hx | hx | hx | hx | hx | hx | hx | hx | hx
    all_goals first | exact hb x hx | (subst hx; decide)
  rw [e]; simp [hl]
theorem kn_leaves {d : List Int} (hl : d.length = 32) : merkle_leaves.f 20 [d] = some 0 := by
  have h0 : (([d] : List (List Int)).length : Int) = 1 := rfl
  have h1 : ((rd_L1 [d] 0).length : Int) = 32 := by show (d.length : Int) = 32; omega
  unfold merkle_leaves.f
  rw [h0, if_neg (by decide), merkle_leaves.l0, h0, if_pos (by decide), if_pos (by decide), if_pos (by decide), if_pos h1, merkle_leaves.l0, if_neg (by decide +kernel)]
theorem kn_top (d : List Int) : merkle_top.f 20 [d] = some d := by
  have h0 : (([d] : List (List Int)).length : Int) = 1 := rfl
  rw [merkle_top.f, h0, if_pos rfl, if_pos (by decide)]
  rfl
theorem kn_root {d : List Int} (hb : ∀ x ∈ d, 0 ≤ x ∧ x < 256) (hl : d.length = 32) : merkle_Root.f 20 [d] = some (dig (2 :: ([0, 0, 0, 0, 0, 0, 0, 1] ++ d)), 0) := by
  have h0 : (([d] : List (List Int)).length : Int) = 1 := rfl
  have h1 := kn_text hb hl
  generalize dig (2 :: ([0, 0, 0, 0, 0, 0, 0, 1] ++ d)) = r at *
  unfold merkle_Root.f
  rw [kn_leaves hl, Option.bind_some, if_pos rfl, h0, if_neg (by decide), kn_eight1, Option.bind_some, kn_top, Option.bind_some, h1, Option.bind_some]
theorem kn_check {d : List Int} (hb : ∀ x ∈ d, 0 ≤ x ∧ x < 256) (hl : d.length = 32) (hr : (dig (2 :: ([0, 0, 0, 0, 0, 0, 0, 1] ++ d))).length = 32) : merkle_Check.f 24 (dig (2 :: ([0, 0, 0, 0, 0, 0, 0, 1] ++ d))) 1 0 d [] = some 0 := by
  have hp : merkle_path.f 21 1 0 = some [] := by decide +kernel
  have h1 := kn_text hb hl
  generalize dig (2 :: ([0, 0, 0, 0, 0, 0, 0, 1] ++ d)) = r at *
  unfold merkle_Check.f
  rw [if_neg (by decide), if_neg (by decide), if_neg (by decide), if_neg (by decide), if_pos (by omega), show ((d.length : Int) != 32) = false by rw [hl]; rfl]
  rw [merkle_Check.j0, if_neg (by decide), merkle_Check.l0, if_neg (by decide), merkle_Check.j2, if_neg (by decide), hp]
  simp only [Option.bind_some]
  rw [if_pos (by rfl), merkle_Check.l1, if_neg (by decide), show merkle_eight.f 20 1 = _ from kn_eight1]
  simp only [Option.bind_some]
  rw [h1]
  simp only [Option.bind_some, bytes_Equal.f]
  rw [if_pos (by simp)]
theorem dig_length (t : List Int) : (dig t).length = 32 := tell32_length _ _
theorem em32_bytes (x : Int) : ∀ j, ∀ y ∈ em32 x j, 0 ≤ y ∧ y < 256
  | 0, y, hy => by cases hy
  | j + 1, y, hy => by
    rw [em32, List.mem_append] at hy
    rcases hy with hy | hy
    · exact em32_bytes x j y hy
    rw [List.mem_singleton] at hy
    subst hy
    simp only [IntKind.wrap_u8]
    omega
theorem tell32_bytes (h : List Int) : ∀ n, ∀ y ∈ tell32 h n, 0 ≤ y ∧ y < 256
  | 0, y, hy => by cases hy
  | n + 1, y, hy => by
    rw [tell32, List.mem_append] at hy
    rcases hy with hy | hy
    · exact tell32_bytes h n y hy
    exact em32_bytes _ _ y hy
theorem dig_bytes (t : List Int) : ∀ x ∈ dig t, 0 ≤ x ∧ x < 256 := tell32_bytes _ _
set_option maxRecDepth 100000 in
set_option maxHeartbeats 4000000 in
theorem imprimaturlaw06_known.calls (r : Bool) (w : World) (HG : Glb w) (h : imprimaturlaw06_known.f = some r) :
    Calls Tryd.prog 15 #[] w fun e w' => e = .returned (.bool r) ∧ Below w.heap.size w w' := by
  obtain rfl : true = r := Option.some.inj h
  clear h
  obtain ⟨D, hD⟩ : ∃ D, D = dig [0, 0, 0, 0, 0, 0, 0, 0, 0, 5] := ⟨_, rfl⟩
  have hl := dig_length [0, 0, 0, 0, 0, 0, 0, 0, 0, 5]
  have hb := dig_bytes [0, 0, 0, 0, 0, 0, 0, 0, 0, 5]
  have hleaf := kn_leaf
  rw [← hD] at hl hb hleaf
  clear hD
  have hroot := kn_root hb hl
  have hrl := dig_length (2 :: ([0, 0, 0, 0, 0, 0, 0, 1] ++ D))
  have hcheck := kn_check hb hl hrl
  generalize dig (2 :: ([0, 0, 0, 0, 0, 0, 0, 1] ++ D)) = R at hroot hrl hcheck
  have F := Aside0.mk (And.intro hleaf (And.intro hroot (And.intro hcheck (And.intro hl hrl))))
  have HG0 := Aside0.mk HG
  clear hleaf hroot hcheck hl hrl hb HG
  go_enter Tryd.func15, Tryd.ntmps15
  go_upto_region 6 with (first
    | (go_at_call 36; refine (merkle_Count.calls 5 65 64 2 0 _ kn_count).mono ?_; rintro e w1 ⟨rfl, hd⟩; have B1 := Aside0.mk hd.below; clear hd)
    | (go_at_call 20; refine (merkle_Empty.calls 9 [0, 0] 0 _ kn_empty).mono ?_; rintro e w2 ⟨v2, rfl, hR, hb⟩; obtain ⟨A2, c2, rfl, hc2, hC2⟩ := Kd.R_reads hR; have P2 := Aside0.mk (And.intro hC2 (And.intro hc2 (below_step B1.out hb))); clear hR hb hc2 hC2 B1)
    | (go_at_call 18; refine (merkle_Put.calls A2 c2 [0, 0] 9 8 [0, 1] 0 _ P2.out.1 P2.out.2.1 kn_put).mono ?_; rintro e w3 ⟨v3, rfl, hR, hb⟩; obtain ⟨A3, c3, rfl, hc3, hC3⟩ := Kd.R_reads hR; have P3 := Aside0.mk (And.intro hC3 (And.intro hc3 (below_step P2.out.2.2 hb))); clear hR hb hc3 hC3 P2)
    | (go_at_call 41
       have hbl := below_alloc (Below.refl w3.heap.size w3) (Obj.cells #[Value.int IntKind.u8 5] 5)
       refine (merkle_Leaf.calls 20 0 _ (some ⟨w3.heap.size, 0, none⟩) 1 [5] D 0 _ (HG0.out.of (below_step P3.out.2.2 hbl)) (Kd.V_mk (xs := [5]) (by decide) (Kd.C_F (Kd.heap_int .u8) (one_C w3 5 5))) F.out.1).mono ?_
       rintro e w4 ⟨v4, rfl, hR, hb⟩
       obtain ⟨A4, c4, rfl, hc4, hC4⟩ := Kd.R_reads hR
       have hb4 := below_step hbl hb
       have P4 := Aside0.mk (And.intro (Kd.C_below P3.out.1 hb4) (And.intro P3.out.2.1 (And.intro (below_step P3.out.2.2 hb4) (And.intro hR (And.intro hc4 hC4)))))
       clear hR hb hc4 hC4 hb4 hbl P3)
    | (go_at_call 28
       have hbl := below_alloc (Below.refl w4.heap.size w4) (Obj.cells #[Value.slice A4 D.length c4] 22)
       refine (merkle_Root.calls 20 (some ⟨w4.heap.size, 0, none⟩) 1 [D] R 0 _ (HG0.out.of (below_step P4.out.2.2.1 hbl)) (row_C w4 [.slice A4 D.length c4] [D] 22 (fun i x hx => by
         have hi0 : i = 0 := by have := (List.getElem?_eq_some_iff.1 hx).1; simpa using this
         subst hi0
         obtain rfl : D = x := by simpa using hx
         exact ⟨A4, c4, rfl, P4.out.2.2.2.2.1, P4.out.2.2.2.2.2⟩) (by simp)) (by simp) F.out.2.1).mono ?_
       rintro e w5 ⟨v5, rfl, hR, hb⟩
       obtain ⟨A5, c5, rfl, hc5, hC5⟩ := Kd.R_reads hR
       have hb5 := below_step hbl hb
       have P5 := Aside0.mk (And.intro (Kd.C_below P4.out.1 hb5) (And.intro P4.out.2.1 (And.intro (below_step P4.out.2.2.1 hb5) (And.intro (Kd.C_below P4.out.2.2.2.2.2 hb5) (And.intro P4.out.2.2.2.2.1 (And.intro hC5 hc5))))))
       clear hR hb hc5 hC5 hb5 hbl P4))
  obtain ⟨ad3, rfl, hcell0⟩ := Kd.at_int P5.out.1 0 (by decide) (by decide)
  obtain ⟨_, he, hcell1⟩ := Kd.at_int P5.out.1 1 (by decide) (by decide)
  injection he with he
  subst he
  have HDL := F.out.2.2.2.1
  have k0 : w5.cell? (ad3.add 0) = some (.int .u8 0) := hcell0
  have k2 : w5.cell? ad3 = some (.int .u8 0) := by have h := hcell0; simpa [Addr.add, rd] using h
  have k3 : w5.cell? { block := ad3.block, off := ad3.off + 1 } = some (.int .u8 1) := by have h := hcell1; simpa [Addr.add, rd] using h
  clear hcell0 hcell1
  go_wp2_with (first
    | (go_at_call 27; refine (merkle_Missing.calls 5 (some ad3) c3 [0, 1] 9 0 _ P5.out.1 P5.out.2.1 kn_missing).mono ?_; rintro e w6 ⟨rfl, hd⟩; have B6 := Aside0.mk hd.below; clear hd)
    | (go_at_call 16
       have hck := merkle_Check.calls 24 A5 c5 R 1 0 _ A4 c4 D (fun _ => True) none 0 [] 0 _ (HG0.out.of (below_step P5.out.2.2.1 B6.out)) (Kd.C_below P5.out.2.2.2.2.2.1 B6.out) P5.out.2.2.2.2.2.2 (Kd.V_mk P5.out.2.2.2.2.1 (Kd.C_F (Kd.heap_int .u8) (Kd.C_below P5.out.2.2.2.1 B6.out))) (Kd.V_nil _ _ _ _ _) F.out.2.2.1
       rw [HDL] at hck
       refine hck.mono ?_
       clear hck
       rintro e w7 ⟨rfl, hb⟩
       have B7 := Aside0.mk (below_step (below_step P5.out.2.2.1 B6.out) hb)
       clear hb))
  go_ret
  exact ⟨rfl, B7.out⟩
end Go.Proofs.YtdpdmmbdoeefbaaDoor.PCut
