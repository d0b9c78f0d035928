/- Copy. -/
import Derived.Test.YtckjgipkdknmgaaDoorHh
namespace Go.Proofs.YtckjgipkdknmgaaDoor.H
open Go.RowKit Go.Proofs.YtckjgipkdknmgaaDoorW.PrintWords
theorem hash_size (s : Array Value) (n : Int) (rest : Value) (x y : List Int) (hs : s.size = 15) (hx : x.length = 8) (hy : y.length = 8) : (hashV s n rest x y).size = 33 := by
  unfold hashV
  simp only [List.size_toArray, List.length_append, Array.length_toList, List.length_cons, List.length_map, hs, hx, hy]
theorem hash_one (wide : Bool) (n : Int) (A : Option Addr) (m c : Nat) (x y : List Int) : (hashV (shV wide) n (.slice A m c) x y).all (·.oneCell') = true := by
  unfold hashV
  rw [← Array.all_toList]
  cases wide <;> simp [shV, narrowV, wideV, Value.oneCell']
set_option maxRecDepth 100000 in
set_option maxHeartbeats 1000000 in
theorem copy_c (base : Nat) (wide : Bool) (K S t : List Int) (p : Nat) (v : Value) (w : World) (H : HashAt base wide K S t p v w) :
    Calls Tryd.prog 21 #[.pointer (some ⟨p, 0, none⟩)] w fun e w' => ∃ p' v', e = .returned (.pointer (some ⟨p', 0, none⟩)) ∧ HashAt base wide K S t p' v' w' ∧ w.heap.size ≤ p' ∧ (∀ k, v'.ownBlock = some k → w.heap.size ≤ k) ∧ Below w.heap.size w w' := by
  obtain ⟨A, m, hv, hm, hC⟩ := Kd.R_reads H.row
  obtain ⟨n0, hn0⟩ : ∃ n0, n0 = (t.drop (bl wide * (t.length / bl wide))).length := ⟨_, rfl⟩
  rw [← hn0] at hv hm hC
  have hn0m : n0 ≤ 1048576 := by have := H.most; rw [hn0, List.length_drop]; omega
  subst hv
  have hcells := H.cells
  have hs := shV_size wide
  have hsz := hash_size (shV wide) t.length (.slice A n0 m) _ _ hs (W32_length wide K S t (t.length / bl wide)) (W64_length wide K S t (t.length / bl wide))
  have hi33 : (Tryd.prog.info? 65).map (·.size) = some (hashV (shV wide) t.length (.slice A n0 m) (W32 wide K S t (t.length / bl wide)) (W64 wide K S t (t.length / bl wide))).size := by rw [hsz]; kernel_rfl
  have hone := hash_one wide t.length A n0 m (W32 wide K S t (t.length / bl wide)) (W64 wide K S t (t.length / bl wide))
  have hp0 := blk_lt hcells
  have HH := Aside0.mk H
  have HC := Aside0.mk hcells
  have HI := Aside0.mk hi33
  have HO := Aside0.mk hone
  have HS := Aside0.mk hsz
  have H1 := Aside0.mk (fun v => hash_newRest (shV wide) t.length (.slice A n0 m) v (W32 wide K S t (t.length / bl wide)) (W64 wide K S t (t.length / bl wide)) hs)
  have H16 := Aside0.mk (hash_at16 (shV wide) t.length (.slice A n0 m) (W32 wide K S t (t.length / bl wide)) (W64 wide K S t (t.length / bl wide)) hs)
  have HR := Aside0.mk (And.intro hC hn0)
  clear H hi33 hone hsz hcells hC hn0
  generalize hG : hashV (shV wide) t.length (.slice A n0 m) (W32 wide K S t (t.length / bl wide)) (W64 wide K S t (t.length / bl wide)) = cs at HC HI HO HS H1 H16
  go_enter Tryd.func21, Tryd.ntmps21
  go_upto_region 4 with (first
    | (refine wpList_load_row rfl 65 (.tmp 7) rfl p (by rfl) 65 cs (0, 0) _ HC.out Tryd.underlying65 rfl HI.out ?_)
    | (refine wpList_store_row rfl 65 (.tmp 3) (.tmp 8) rfl w.heap.size cs (by rfl) (by rfl) 65 _ (new1 _ _) HI.out (by rw [HS.out]; rfl) HO.out ?_; rw [World.setRow_alloc_new]))
  have P1 : Aside0 ((w.alloc (.cells cs 65)).heap[w.heap.size]? = some (.cells cs 65 (0, 0)) ∧ (w.alloc (.cells cs 65)).heap[p]? = some (.cells cs 65 (0, 0)) ∧ Below w.heap.size w (w.alloc (.cells cs 65)) ∧ Kd.C (Kd.int .u8) (w.alloc (.cells cs 65)) A n0 (t.drop (bl wide * (t.length / bl wide)))) :=
    ⟨⟨new1 _ _, blk_alloc HC.out _, below_alloc (Below.refl _ _) _, Kd.C_alloc HR.out.1 _⟩⟩
  generalize w.alloc (.cells cs 65) = w1 at P1 ⊢
  have c16 : w1.cell? ⟨p, 16, none⟩ = some (.slice A n0 m) := (blk_cell P1.out.2.1 16).trans H16.out
  go_wp2_with (first
    | (at_builtin; refine Kd.R_append_row (Value.int .u8) 0 (w0 := w1) w1.heap.size rfl _ (.tmp 12) 23 5 (.int .u8 0) 1 rfl Tryd.underlying23 info_u8 rfl (by decide) (.slice none 0 0) [] (t.drop (bl wide * (t.length / bl wide))) A n0 m (fun k => w1.heap.size ≤ k) rfl rfl (fun k hk => hk) (Kd.R_nil _ _ _ _ _) P1.out.2.2.2 (Below.refl _ _) (Nat.le_refl _) (by simp only [List.length_nil]; omega) ?_
       intro v4 w4 hown4 hB4 hg4 hat4
       rw [List.nil_append] at hown4
       obtain ⟨A4, c4, rfl, hc4, hC4⟩ := Kd.R_reads hown4
       clear hc4 hC4
       generalize hm4 : (List.drop (bl wide * (t.length / bl wide)) t).length = m4 at hown4 hat4 ⊢
       have P4 := Aside0.mk (And.intro hown4 (And.intro hg4 (And.intro hat4 hB4)))
       clear hown4 hB4 hg4 hat4 hm4
       have hp4 := Aside0.mk ((P4.out.2.1.block w.heap.size (blk_lt P1.out.1) (by intro e; cases e)).trans P1.out.1)
       have f16 : w4.frozen? ⟨w.heap.size, 16, none⟩ = false := blk_frozen hp4.out _
       have c16' : w4.cell? ⟨w.heap.size, 16, none⟩ = some (.slice A n0 m) := (blk_cell hp4.out 16).trans H16.out))
  go_ret
  have hB := HH.out.hbase
  have hsz1 := blk_lt P1.out.1
  have hne : ∀ k, (Value.slice A4 m4 c4).ownBlock = some k → w1.heap.size ≤ k := P4.out.1.1
  refine ⟨w.heap.size, .slice A4 m4 c4, rfl, ⟨?_, ?_, by omega, HH.out.g0, HH.out.g1, HH.out.most, HH.out.bytes⟩, Nat.le_refl _, fun k hk => by have := hne k hk; omega, ?_⟩
  · have := blk_put hp4.out 16 (.slice A4 m4 c4) (H1.out _)
    exact this
  · refine R_weaken (R_moved P4.out.1 (fun i hi => setCell_off _ _ _ _ (by have := hne i hi; show i ≠ w.heap.size; omega))) (fun i hi => by have := hne i hi; omega) (fun i hi => by have := hne i hi; omega)
  · exact below_set (below_step P1.out.2.2.1 P4.out.2.2.2) (Nat.le_refl _)
end Go.Proofs.YtckjgipkdknmgaaDoor.H
