/- Several texts as one. -/
import Derived.Test.YtcnpdapampclpaaDoorJ2
import Derived.Test.YtcnpdapampclpaaDoorPTpx1
import Derived.Laws.EntriesVeiled
import Derived.Lib.SliceRun
namespace Go.Proofs.YtcnpdapampclpaaDoor.X
open Go.RowKit Go.Proofs.YtcnpdapampclpaaDoor.H Go.Proofs.YtcnpdapampclpaaDoorW.PrintWords Go.Proofs.YtcnpdapampclpaaDoorW.PrintLast Go.Proofs.YtcnpdapampclpaaDoorW.PrintMore Go.Proofs.YtcnpdapampclpaaDoor.PPl Go.Proofs.YtcnpdapampclpaaDoor.PTp
set_option linter.unusedVariables false
set_option linter.unusedSimpArgs false
/-- Rows that lie in a new block. -/
theorem row_C (w : World) (cs : List Value) (xs : List (List Int)) (e : Nat) (h : ∀ (i : Nat) (x : List Int), xs[i]? = some x → ∃ A c, cs[i]? = some (Value.slice A x.length c) ∧ x.length ≤ c ∧ Kd.C (Kd.int .u8) w A x.length x) (hm : xs.length ≤ 140737488351232) :
    Kd.C (Kd.slice 5 (Kd.int .u8)) (w.alloc (.cells cs.toArray e)) (some ⟨w.heap.size, 0, none⟩) xs.length xs := by
  refine ⟨rfl, by show xs.length ≤ 9223372036854775807; omega, fun _ => ⟨_, rfl, fun j x hj => ?_⟩⟩
  obtain ⟨A, c, hc, hl, hC⟩ := h j x hj
  refine ⟨[.slice A x.length c], rfl, ⟨A, c, rfl, hl, Kd.C_below hC (below_alloc (Below.refl _ _) _)⟩, fun i u hu => ?_⟩
  have hi0 : i = 0 := by have := (List.getElem?_eq_some_iff.1 hu).1; simpa using this
  subst hi0
  obtain rfl : Value.slice A x.length c = u := by simpa using hu
  have h6 := blk_cell (Go.Proofs.YtcnpdapampclpaaDoor.H.new1 w (.cells cs.toArray e)) j
  show (w.alloc (.cells cs.toArray e)).cell? ((⟨w.heap.size, 0, none⟩ : Addr).add (j * 1 + 0)) = _
  rw [show j * 1 + 0 = j by omega, show (⟨w.heap.size, 0, none⟩ : Addr).add j = ⟨w.heap.size, j, none⟩ by simp [Addr.add]; intro h; exact h.symm]
  refine h6.trans ?_
  simpa using hc
theorem info_row : (Tryd.prog.info? 23).map (fun i => (i.zero, i.size, i.bytes)) = some (some (.slice none 0 0), 1, 24) := by kernel_rfl
/-- The levels, those below k told anew. -/
def midL (M : List (List Int)) (m : List Int) (k j : Nat) : List (List Int) := if j < k then levL (M ++ [m]) j else levL M j
/-- What a mark at hand is not. -/
def okA (p : Nat) (vs : List Value) (b : Nat) : Prop := b ≠ p ∧ ∀ j, some b ≠ (vs.getD j nilV).ownBlock
/-- A row of rows that lies in its own block, at hand. -/
theorem row_get {w : World} {e base : Nat} {ok : Nat → Prop} {v : Value} {xs : List (List Int)} (h : Kd.N dB e w base ok v xs) (hp : 0 < xs.length) : ∃ g c, v = .slice (some ⟨g, 0, none⟩) xs.length c ∧ xs.length ≤ c ∧ ok g ∧ g < w.heap.size ∧
    ∀ i, i < xs.length → ∃ A ca, w.cell? ⟨g, i, none⟩ = some (.slice A (xs.getD i []).length ca) ∧ (xs.getD i []).length ≤ ca ∧ Kd.F (Kd.int .u8) w (fun k => ok k ∧ k ≠ g) A (xs.getD i []).length (xs.getD i []) := by
  obtain ⟨g, c, rfl, _, hlt, _⟩ := Kd.N_form h hp
  refine ⟨g, c, rfl, (Kd.N_reads' h).2.1, h.1 g (by simp [Value.ownBlock]), hlt, fun i hi => ?_⟩
  obtain ⟨cs, _, hF, hc, _⟩ := Kd.N_elem h [] (i : Int) (by omega) (by omega)
  obtain ⟨A, ca, rfl, hl, hF⟩ := Kd.FK_slice_open hF
  have := hc 0 _ rfl
  exact ⟨A, ca, by rw [show (i : Int).toNat * dB.sz + 0 = i by show (i : Int).toNat * 1 + 0 = i; omega] at this; exact this, hl, hF⟩
theorem w64n {i : Nat} (h : i ≤ 4096) : IntKind.i64.wrap (i : Int) = (i : Int) := by rw [i64_w]; unfold wrap64; omega
theorem even_go {n k : Nat} (h : n % 2 ^ k = 0) (he : n / 2 ^ k % 2 = 0) : n % 2 ^ (k + 1) = 0 := by rw [Nat.pow_succ, Nat.mod_mul, h, he, Nat.mul_zero]
theorem odd_stop {n k j : Nat} (h : n % 2 ^ k = 0) (ho : n / 2 ^ k % 2 = 1) (hj : k < j) : n % 2 ^ j ≠ 0 := fun e => by
  have h1 : 2 ^ (k + 1) ∣ n := Nat.dvd_trans (Nat.pow_dvd_pow 2 hj) (Nat.dvd_of_mod_eq_zero e)
  have h2 := Nat.mod_eq_zero_of_dvd h1
  rw [Nat.pow_succ, Nat.mod_mul, h, ho] at h2
  have := Nat.two_pow_pos k
  omega
theorem lastP_get (M : List (List Int)) (m : List Int) (k : Nat) (h : (M.length + 1) % 2 ^ k = 0) : (levL (M ++ [m]) k).getD ((levL (M ++ [m]) k).length - 1) [] = lastP (M ++ [m]) k := by
  rw [levL_more M m k h]; simp
theorem midL_self (M : List (List Int)) (m : List Int) (k : Nat) : midL M m k k = levL M k := by unfold midL; rw [if_neg (by omega)]
theorem midL_next (M : List (List Int)) (m : List Int) (k : Nat) (h : (M.length + 1) % 2 ^ k = 0) (j : Nat) : (if j = k then levL M k ++ [lastP (M ++ [m]) k] else midL M m k j) = midL M m (k + 1) j := by
  unfold midL
  by_cases hj : j = k
  · subst hj; rw [if_pos rfl, if_pos (by omega), levL_more M m j h]
  · rw [if_neg hj]
    by_cases h1 : j < k
    · rw [if_pos h1, if_pos (by omega)]
    · rw [if_neg h1, if_neg (by omega)]
theorem midL_end (M : List (List Int)) (m : List Int) (k : Nat) (h : (M.length + 1) % 2 ^ k = 0) (ho : (M.length + 1) / 2 ^ k % 2 = 1) (j : Nat) : midL M m (k + 1) j = levL (M ++ [m]) j := by
  unfold midL
  by_cases h1 : j < k + 1
  · rw [if_pos h1]
  · rw [if_neg h1, levL_same M m j (odd_stop h ho (by omega))]
theorem lastP_32 {M : List (List Int)} (h : Lv M) (k : Nat) (h0 : 0 < M.length) : (lastP M k).length = 32 ∧ ∀ x ∈ lastP M k, 0 ≤ x ∧ x < 256 := topL_32 (h.drop _) (by have := Nat.two_pow_pos k; rw [List.length_drop]; omega)
theorem levL_32 {M : List (List Int)} (h : Lv M) (k j : Nat) (hj : j < M.length / 2 ^ k) : ((levL M k).getD j []).length = 32 ∧ ∀ x ∈ (levL M k).getD j [], 0 ≤ x ∧ x < 256 := by
  have h2 := Nat.two_pow_pos k
  have h3 : (j + 1) * 2 ^ k ≤ M.length := Nat.le_trans (Nat.mul_le_mul_right _ hj) (Nat.div_mul_le_self _ _)
  rw [Nat.add_mul, Nat.one_mul] at h3
  rw [levL_get M k j hj]
  exact topL_32 ((h.drop _).take _) (by rw [List.length_take, List.length_drop]; omega)
theorem Glb.fr {S : Nat → Prop} {w w1 : World} (h : Glb w) (hf : Fr S w w1) (h0 : ¬ S 0) (h1 : ¬ S 1) : Glb w1 := ⟨h.laid.fr hf h1 h0, Nat.lt_of_lt_of_le h.g0 hf.size, Nat.lt_of_lt_of_le h.g1 hf.size⟩
theorem pow13 {n k : Nat} (h : (n + 1) % 2 ^ k = 0) (hn : n < 4096) : k < 13 := by
  rcases Nat.lt_or_ge k 13 with h1 | h1
  · exact h1
  · have h2 : 2 ^ 13 ≤ 2 ^ k := Nat.pow_le_pow_right (by decide) h1
    have h3 := Nat.le_of_dvd (Nat.succ_pos n) (Nat.dvd_of_mod_eq_zero h)
    have : (2 : Nat) ^ 13 = 8192 := by decide
    omega
def addR.T9 : Bool × List (List Nat × List Nat) := (true, [([], []), ([], []), ([], []), ([], []), ([2], [2]), ([4], [4]), ([5, 3], [3, 5]), ([6], [6]), ([], []), ([8], [8]), ([7, 9], [7, 9]), ([0], [0]), ([11], [11]), ([12, 1, 0, 1, 2, 3, 4, 5, 6, 7, 8, 9, 10], [1, 12]), ([13, 10, 10, 0, 1, 2, 3, 4, 5, 6, 7, 8, 9, 10], [10, 13])])
def addR.B9 : List Nat := [0, 0, 0, 0, 4, 20, 60, 124, 0, 256, 1020, 1, 2049, 8191, 16383]
theorem addR.tab9 : rtab .any (opsOf Tryd.f25 9) = addR.T9 := by kernel_rfl
theorem addR.bits9 : waitsOk addR.T9.2 addR.B9 = true := by kernel_rfl
def addR.T13 : Bool × List (List Nat × List Nat) := (true, [([], []), ([], []), ([1], [1]), ([2], [2]), ([0, 3], [0, 3]), ([4], [4]), ([], []), ([], []), ([7], [7]), ([8], [8]), ([6, 9], [6, 9]), ([10], [10]), ([5, 11], [5, 11]), ([12], [12]), ([13, 13, 0, 1, 2, 3, 4, 5, 6, 7, 8, 9, 10, 11, 12, 13], [13])])
def addR.B13 : List Nat := [0, 0, 2, 6, 15, 31, 0, 0, 128, 384, 960, 1984, 4095, 8191, 16383]
theorem addR.tab13 : rtab .any (opsOf Tryd.f25 13) = addR.T13 := by kernel_rfl
theorem addR.bits13 : waitsOk addR.T13.2 addR.B13 = true := by kernel_rfl
set_option maxRecDepth 100000 in
set_option maxHeartbeats 8000000 in
theorem add_ok (base p : Nat) (vs : List Value) (M : List (List Int)) (A : Option Addr) (c : Nat) (b : List Int) (w : World) (HG : Glb w) (T : TrailR base p M.length vs (levL M) w) (hv : Lv M) (hn : M.length < 4096) (hC : Kd.C (Kd.int .u8) w A b.length b) (hc : b.length ≤ c) (hbb : ∀ x ∈ b, 0 ≤ x ∧ x < 256) (hbl : b.length ≤ 8192) (hbase : 1 < base) :
    Calls Tryd.prog 25 #[.pointer (some ⟨p, 0, none⟩), .slice A b.length c] w fun e w' => e = .returned (.int .i64 0) ∧ ∃ vs', TrailR base p (M ++ [dig (16 :: b)]).length vs' (levL (M ++ [dig (16 :: b)])) w' ∧ Fr (ownT p vs) w w' ∧ ∀ j k, (vs'.getD j nilV).ownBlock = some k → ownT p vs k ∨ w.heap.size ≤ k := by
  obtain ⟨m0, hm0⟩ : ∃ m0, m0 = dig (16 :: b) := ⟨_, rfl⟩
  have hm32 : m0.length = 32 := by rw [hm0]; exact dig_length _
  have hmb : ∀ x ∈ m0, 0 ≤ x ∧ x < 256 := by rw [hm0]; exact dig_bytes _
  have hmark : trail_Mark.f b = some (m0, 0) := by
    unfold trail_Mark.f
    rw [if_neg (by omega), digest1 (by decide) hbb (by omega), ← hm0]
    rfl
  rw [← hm0]
  clear hm0
  have hv1 : Lv (M ++ [m0]) := fun x hx => by
    rcases List.mem_append.1 hx with hx | hx
    · exact hv x hx
    · rw [List.mem_singleton] at hx; subst hx; exact ⟨hm32, hmb⟩
  have hcN := T.cellN
  have hfN := T.frozen 0
  have hlen : (M ++ [m0]).length = M.length + 1 := by rw [List.length_append, List.length_singleton]
  have H0 := Aside0.mk (And.intro HG (And.intro T (And.intro hC (And.intro hc (And.intro hmark (And.intro hv (And.intro hv1 (And.intro hlen (And.intro hm32 (And.intro hbase hmb))))))))))
  have hnI : (M.length : Int) < 4096 := by omega
  have hpN : ((p : Nat) : Nat) = p := rfl
  clear HG T hC hc hmark hv hv1 hlen hm32 hbase hmb hbb hpN
  go_enter Tryd.func25, Tryd.ntmps25
  go_upto_region 7 with (first
    | (go_at_call 26; go_loud (refine (trail_Mark.calls (fun k => k < w.heap.size) A c b m0 0 _ H0.out.1 ⟨A, c, rfl, H0.out.2.2.2.1, Kd.C_F (Kd.heap_int _) H0.out.2.2.1⟩ H0.out.2.2.2.2.1).mono ?_; rintro e w1 ⟨v1, rfl, hR, hB⟩; obtain ⟨Am, cm, rfl, hcm, hCm⟩ := Kd.R_reads hR; have hc1 := (hB.cell (p := ⟨p, 0, none⟩) H0.out.2.1.lt).trans hcN; have hf1 := (hB.frozen (p := ⟨p, 0, none⟩) H0.out.2.1.lt).trans hfN; have P1 := Aside0.mk (And.intro hR (And.intro hcm hB)); clear hR hcm hCm hB hcN hfN)))
  have hR := P1.out.1
  have hB := P1.out.2.2
  have T1 := (H0.out.2.1.below hB).setN ((M.length : Int) + 1)
  have hF1 : Kd.F (Kd.int .u8) (w1.setCell ⟨p, 0, none⟩ (.int .i64 ((M.length : Int) + 1))) (okA p vs) Am 32 (lastP (M ++ [m0]) 0) := by
    rw [lastP_zero]
    have h1 := Kd.R_F hR
    rw [H0.out.2.2.2.2.2.2.2.2.1] at h1
    refine Kd.F_far (Kd.F_mono h1 (fun k hk => ⟨?_, fun j e => ?_⟩)) (fun k hk => hk.1) _
    · have := H0.out.2.1.lt; omega
    · have := H0.out.2.1.own_lt e.symm; omega
  have hFr1 : Fr (ownT p vs) w (w1.setCell ⟨p, 0, none⟩ (.int .i64 ((M.length : Int) + 1))) := (Fr.of_below hB).setCell _ _ (.inl (.inl rfl))
  have hcm : 32 ≤ cm := by have := P1.out.2.1; have := H0.out.2.2.2.2.2.2.2.2.1; omega
  have P2 := Aside0.mk (And.intro T1 (And.intro hF1 hFr1))
  rw [H0.out.2.2.2.2.2.2.2.2.1]
  clear hR hB T1 hF1 hFr1 P1 hc1 hf1
  go_wp2
  go_loopg [5, 7, 8] 13 (fun m v5 v7 v8 wr => ∃ (k : Nat) (vs' : List Value) (Ak : Option Addr) (ck : Nat) (u : Value), m + k = 13 ∧ v5 = .slice Ak 32 ck ∧ v7 = .int .i64 k ∧ v8 = u ∧ 32 ≤ ck ∧ (M.length + 1) % 2 ^ k = 0 ∧ Aside0 (TrailR base p ((M.length : Int) + 1) vs' (midL M m0 k) wr ∧ Kd.F (Kd.int .u8) wr (okA p vs') Ak 32 (lastP (M ++ [m0]) k) ∧ Fr (ownT p vs) w wr ∧ ∀ j b, (vs'.getD j nilV).ownBlock = some b → ownT p vs b ∨ w.heap.size ≤ b))
  case atStart => exact ⟨0, vs, Am, cm, _, by omega, rfl, rfl, rfl, hcm, Nat.mod_one _, ⟨by have h1 := P2.out.1; exact h1.congrL (fun k hk => by unfold midL; rw [if_neg (by omega)]), P2.out.2.1, P2.out.2.2, fun j b hb => .inl (.inr ⟨j, hb⟩)⟩⟩
  case round =>
    obtain ⟨k, vs', Ak, ck, u, hmk, rfl, rfl, rfl, hck, hdiv, hrest⟩ := hrel
    clear P2
    have hk13 := pow13 hdiv hn
    obtain ⟨vk, hvk⟩ : ∃ vk, vk = vs'.getD k nilV := ⟨_, rfl⟩
    have T2 := hrest.out.1.below (below_drew1 (Below.refl wr.heap.size wr))
    have F2 := Kd.F_drew hrest.out.2.1
    have R2 := hrest.out.2.2.1.drew
    have O2 := hrest.out.2.2.2
    have hcell := T2.cell hk13
    rw [← hvk] at hcell
    have Hv := Aside0.mk hvk
    clear hvk
    have pk : (0 ≤ (k : Int)) = True := eq_true (by omega)
    have qk : ((k : Int) < 13) = True := eq_true (by omega)
    clear hrest
    go_upto_region 9 with (fail)
    refine start_ (n := 15) (S := fun w' => w'.cell? ⟨p, 1 + k, none⟩ = some vk) (ds := [14]) (fl 15 0) (by kernel_rfl) rfl rfl hcell (fun hHeld => ?_)
    refine with_tabW addR.tab9 addR.bits9 (fun HT_ HW_ => ?_)
    clear hcell
    generalize wr.drew = w2 at T2 F2 R2 hHeld ⊢
    refine pureA (i := 0) (N := some 34) (fl 15 1) (any_of HT_.out (by kernel_rfl)) ?_
    refine pureA (i := 1) (N := some 35) (fl 15 3) (any_of HT_.out (by kernel_rfl)) ?_
    refine pureA (i := 2) (N := some 36) (fl 15 7) (any_of HT_.out (by kernel_rfl)) ?_
    refine pureA (i := 3) (N := some 37) (fl 15 15) (any_of HT_.out (by kernel_rfl)) ?_
    refine pureA (i := 4) (N := some 38) (fl 15 31) (any_of HT_.out (by kernel_rfl)) ?_
    refine pureA (i := 5) (N := some 39) (fl 15 63) (any_of HT_.out (by kernel_rfl)) ?_
    refine pureA (i := 6) (N := some 40) (fl 15 127) (any_of HT_.out (by kernel_rfl)) ?_
    refine pureA (i := 8) (N := some 42) (fl 15 383) (any_of HT_.out (by kernel_rfl)) ?_
    refine pureA (i := 11) (N := some 45) (fl 15 2431) (any_of HT_.out (by kernel_rfl)) ?_
    refine pureA (i := 12) (N := some 46) (fl 15 6527) (any_of HT_.out (by kernel_rfl)) ?_
    refine takeA (i := 7) (N := some 41) (fl 15 6655) (take_ofW HT_.out HW_.out (by kernel_rfl)) hHeld ?_
    refine one_ (i := 9) (N := some 43) (fl 15 7167) rfl rfl (one_of HT_.out (by kernel_rfl)) (by decide) (fun K hK => ?_)
    refine value_ (v := .slice (some ⟨w2.heap.size, 0, none⟩) 1 1) (w1 := w2.alloc (.cells #[.slice Ak 32 ck] 23)) (by rfl) rfl (by go_simp) ?_
    refine hK.out _ _ (by exact (World.cell?_alloc_lt _ _ _ T2.lt).trans hHeld) (fun hHeld => ?_)
    clear hK K
    refine normA (some 43) ?_
    refine one_ (i := 10) (N := some 44) (fl 15 8191) rfl rfl (one_of HT_.out (by kernel_rfl)) (by decide) (fun K hK => ?_)
    have hl32 := lastP_32 H0.out.2.2.2.2.2.2.1 k (by rw [H0.out.2.2.2.2.2.2.2.1]; omega)
    have hp2 : Kd.FK dB w2 (okA p vs') (lastP (M ++ [m0]) k) [.slice Ak 32 ck] := by
      have := Kd.FK_slice_mk (e := 5) (d := Kd.int .u8) (c := ck) (A := Ak) (ok := okA p vs') (W := w2) (l := lastP (M ++ [m0]) k) (by rw [hl32.1]; exact hck) (by rw [hl32.1]; exact F2)
      rw [hl32.1] at this
      exact this
    have hN2 := T2.row k hk13
    rw [← Hv.out, midL_self] at hN2
    refine Kd.N_append_step dB (w0 := w2) (W := w2) base (by rfl) (.tmp 41) (.tmp 43) 22 23 (.slice none 0 0) 24 rfl Tryd.underlying22 info_row rfl (by decide) (by decide) vk (levL M k) (lastP (M ++ [m0]) k) [.slice Ak 32 ck] (okL p vs' k) (okA p vs') rfl rfl hp2 (fun b hb => ⟨⟨hb.1, fun j _ => hb.2 j⟩, by rw [Hv.out]; exact hb.2 k⟩) (T2.fresh k) hN2 (Below.refl _ _) (by have := T2.hb; have := T2.lt; omega) (by rw [levL_length]; have := Nat.div_le_self M.length (2 ^ k); omega) ?_
    intro v1 w3 hN3 hB3 hg hat
    have hpk : some p ≠ vk.ownBlock := fun e => (hN2.1 p e.symm).1 rfl
    refine hK.out _ _ (cell_grown hg (cell_unalloc hHeld T2.lt) hpk) (fun hHeld => ?_)
    clear hK K
    refine normA (some 44) ?_
    have T4 := TrailR.put T2 hk13 hN3 (by rw [← Hv.out]; exact hg) (by rw [← Hv.out]; exact hat)
    have hfz := blk_frozen (blk_grown T2.blk hg hpk) (1 + k)
    have O4 : ∀ j b, ((vs'.set k v1).getD j nilV).ownBlock = some b → ownT p vs b ∨ w.heap.size ≤ b := fun j b hb => by
      by_cases hjk : j = k
      · subst hjk
        rw [getD_set_self _ _ _ _ (by rw [T2.lv]; exact hk13)] at hb
        rcases hat with h | ⟨b', h1, h2⟩
        · rw [h, Hv.out] at hb; exact O2 j b hb
        · rw [h1] at hb; injection hb with hb; have := R2.size; omega
      · rw [getD_set_ne _ _ _ _ _ hjk] at hb; exact O2 j b hb
    have R4 : Fr (ownT p vs) w (w3.setCell ⟨p, 1 + k, none⟩ v1) := (R2.trans (Fr.of_grown hg) (fun i hi => by rw [Hv.out] at hi; exact O2 k i hi.symm)).setCell _ _ (.inl (.inl rfl))
    have T5 := T4.congrL (fun j _ => midL_next M m0 k hdiv j)
    have hN5 := T5.row k hk13
    have hme : midL M m0 (k + 1) k = levL (M ++ [m0]) k := if_pos (by omega)
    rw [getD_set_self _ _ _ _ (by rw [T2.lv]; exact hk13), hme] at hN5
    have hlq : (levL (M ++ [m0]) k).length = (M.length + 1) / 2 ^ k := by rw [levL_length, H0.out.2.2.2.2.2.2.2.1]
    have hq0 : 0 < (M.length + 1) / 2 ^ k := Nat.div_pos (Nat.le_of_dvd (by omega) (Nat.dvd_of_mod_eq_zero hdiv)) (Nat.two_pow_pos k)
    have hqn : (M.length + 1) / 2 ^ k ≤ 4096 := Nat.le_trans (Nat.div_le_self _ _) (by omega)
    obtain ⟨g, cl, hv1, hcl, hokg, hglt, hel⟩ := row_get hN5 (by omega)
    rw [hlq] at hv1 hcl hel
    obtain ⟨q, hq⟩ : ∃ q, q = (M.length + 1) / 2 ^ k := ⟨_, rfl⟩
    rw [← hq] at hlq hq0 hqn hv1 hcl hel
    subst hv1
    refine pureA (i := 13) (N := some 47) (fl 15 16383) (any_of HT_.out (by kernel_rfl)) ?_
    refine last_ (i := 14) (N := none) (fl 15 32767) rfl rfl (one_of HT_.out (by kernel_rfl)) (by decide) (fun K hK => ?_)
    refine skip_ (w1 := w3.setCell ⟨p, 1 + k, none⟩ (.slice (some ⟨g, 0, none⟩) q cl)) (by rfl) rfl (by go_simp) ?_
    refine hK.out _ _ ?_
    clear hK K
    refine done_ (done_of HT_.out (by kernel_rfl)) ?_
    have hc5 := T5.cell hk13
    rw [getD_set_self _ _ _ _ (by rw [T2.lv]; exact hk13)] at hc5
    have hlt2 := T2.lt
    have hlv2 := T2.lv
    clear T2 F2 R2 O2 T4 hN2 hp2 hB3 hHeld hfz hN3 HT_ HW_ hpk
    clear hg hat
    generalize w3.setCell ⟨p, 1 + k, none⟩ (.slice (some ⟨g, 0, none⟩) q cl) = w5 at T5 hN5 R4 hc5 hel hglt ⊢
    have H5 := Aside0.mk (And.intro T5 (And.intro hN5 (And.intro R4 O4)))
    clear T5 hN5 R4 O4
    have H6 := Aside0.mk (And.intro hq (And.intro hlq (And.intro hdiv (And.intro hl32 (And.intro hel Hv.out)))))
    clear hq hlq hme hdiv hl32 Hv hel
    by_cases ho : q % 2 = 1
    · have hoI : (Int.tmod (q : Int) 2 == 1) = true := by rw [show Int.tmod (q : Int) 2 = ((q % 2 : Nat) : Int) from rfl, ho]; rfl
      go_wp2
      go_ret
      refine ⟨rfl, _, ?_, H5.out.2.2.1, H5.out.2.2.2⟩
      rw [H0.out.2.2.2.2.2.2.2.1]
      have := H5.out.1.congrL (fun j _ => midL_end M m0 k H6.out.2.2.1 (by rw [← H6.out.1]; exact ho) j)
      exact_mod_cast this
    · have hoI : (Int.tmod (q : Int) 2 == 1) = false := by rw [show Int.tmod (q : Int) 2 = ((q % 2 : Nat) : Int) from rfl, show q % 2 = 0 by omega]; rfl
      have hq2 : 2 ≤ q := by omega
      obtain ⟨A1, c1, hx1, hc1, hF1⟩ := H6.out.2.2.2.2.1 (q - 2) (by omega)
      obtain ⟨A2, c2, hx2, hc2, hF2⟩ := H6.out.2.2.2.2.1 (q - 1) (by omega)
      have hl1 := levL_32 H0.out.2.2.2.2.2.2.1 k (q - 2) (by rw [H0.out.2.2.2.2.2.2.2.1, ← H6.out.1]; omega)
      have hl2 := levL_32 H0.out.2.2.2.2.2.2.1 k (q - 1) (by rw [H0.out.2.2.2.2.2.2.2.1, ← H6.out.1]; omega)
      rw [hl1.1] at hx1 hc1 hF1
      rw [hl2.1] at hx2 hc2 hF2
      obtain ⟨x1, hX1⟩ : ∃ x, x = (levL (M ++ [m0]) k).getD (q - 2) [] := ⟨_, rfl⟩
      obtain ⟨x2, hX2⟩ : ∃ x, x = (levL (M ++ [m0]) k).getD (q - 1) [] := ⟨_, rfl⟩
      rw [← hX1] at hl1 hF1
      rw [← hX2] at hl2 hF2
      have H7 := Aside0.mk (And.intro hl1 (And.intro hl2 (And.intro hF1 (And.intro hF2 (And.intro hX1 hX2)))))
      clear hl1 hl2 hF1 hF2 hX1 hX2
      obtain ⟨i1, hi1⟩ : ∃ i, i = q - 2 := ⟨_, rfl⟩
      obtain ⟨i2, hi2⟩ : ∃ i, i = q - 1 := ⟨_, rfl⟩
      rw [← hi1] at hx1
      rw [← hi2] at hx2
      have e1 : (q : Int) - 2 = (i1 : Int) := by omega
      have e2 : (q : Int) - 1 = (i2 : Int) := by omega
      have p1 : (0 ≤ (i1 : Int)) = True := eq_true (by omega)
      have q1 : ((i1 : Int) < (q : Int)) = True := eq_true (by omega)
      have p2 : (0 ≤ (i2 : Int)) = True := eq_true (by omega)
      have q2 : ((i2 : Int) < (q : Int)) = True := eq_true (by omega)
      have H8 := Aside0.mk (And.intro hi1 hi2)
      clear hi1 hi2
      go_upto_region 13 with (fail)
      refine start_ (n := 15) (S := fun w' => w'.cell? ⟨g, i1, none⟩ = some (.slice A1 32 c1) ∧ w'.cell? ⟨g, i2, none⟩ = some (.slice A2 32 c2)) (ds := []) (fl 15 0) (by kernel_rfl) rfl rfl ⟨hx1, hx2⟩ (fun hHeld => ?_)
      refine with_tabW addR.tab13 addR.bits13 (fun HT_ HW_ => ?_)
      refine pureA (i := 0) (N := some 58) (fl 15 1) (any_of HT_.out (by kernel_rfl)) ?_
      refine pureA (i := 1) (N := some 59) (fl 15 3) (any_of HT_.out (by kernel_rfl)) ?_
      refine pureA (i := 2) (N := some 60) (fl 15 7) (any_of HT_.out (by kernel_rfl)) ?_
      refine pureA (i := 3) (N := some 61) (v := .int .i64 (i1 : Int)) (fl 15 15) (any_of HT_.out (by kernel_rfl)) (hy := fun w' => by go_simp; rw [w64n (i := i1) (by rw [H8.out.1]; exact Nat.le_trans (Nat.sub_le _ _) hqn)]) ?_
      refine pureA (i := 4) (N := some 62) (fl 15 31) (any_of HT_.out (by kernel_rfl)) ?_
      refine takeA (i := 5) (N := some 63) (fl 15 63) (take_ofW HT_.out HW_.out (by kernel_rfl)) hHeld ?_
      refine pureA (i := 6) (N := some 64) (fl 15 127) (any_of HT_.out (by kernel_rfl)) ?_
      refine pureA (i := 7) (N := some 65) (fl 15 255) (any_of HT_.out (by kernel_rfl)) ?_
      refine pureA (i := 8) (N := some 66) (fl 15 511) (any_of HT_.out (by kernel_rfl)) ?_
      refine pureA (i := 9) (N := some 67) (v := .int .i64 (i2 : Int)) (fl 15 1023) (any_of HT_.out (by kernel_rfl)) (hy := fun w' => by go_simp; rw [w64n (i := i2) (by rw [H8.out.2]; exact Nat.le_trans (Nat.sub_le _ _) hqn)]) ?_
      refine pureA (i := 10) (N := some 68) (fl 15 2047) (any_of HT_.out (by kernel_rfl)) ?_
      refine takeA (i := 11) (N := some 69) (fl 15 4095) (take_ofW HT_.out HW_.out (by kernel_rfl)) hHeld ?_
      have T6 := H5.out.1.below (below_drew1 (Below.refl w5.heap.size w5))
      have R6 := H5.out.2.2.1.drew
      have F1 := Kd.F_drew H7.out.2.2.1
      have F2 := Kd.F_drew H7.out.2.2.2.1
      generalize w5.drew = w6 at T6 R6 F1 F2 hHeld ⊢
      have G6 : Glb w6 := H0.out.1.fr R6 (fun h => by have := H0.out.2.1.ownT_base h; have := H0.out.2.2.2.2.2.2.2.2.2.1; omega) (fun h => by have := H0.out.2.1.ownT_base h; have := H0.out.2.2.2.2.2.2.2.2.2.1; omega)
      have hrow := row_C w6 [.slice A1 32 c1, .slice A2 32 c2] [x1, x2] 23 (fun i x hi => by
        rcases i with _ | _ | i
        · obtain rfl : x1 = x := by simpa using hi
          rw [H7.out.1.1]; exact ⟨A1, c1, rfl, hc1, Kd.F_now F1⟩
        · obtain rfl : x2 = x := by simpa using hi
          rw [H7.out.2.1.1]; exact ⟨A2, c2, rfl, hc2, Kd.F_now F2⟩
        · simp at hi) (by show 2 ≤ 140737488351232; omega)
      refine one_ (i := 12) (N := some 70) (fl 15 8191) rfl rfl (one_of HT_.out (by kernel_rfl)) (by decide) (fun K hK => ?_)
      refine value_ (v := .slice (some ⟨w6.heap.size, 0, none⟩) 2 2) (w1 := w6.alloc (.cells #[.slice A1 32 c1, .slice A2 32 c2] 23)) (by rfl) rfl (by go_simp) ?_
      refine hK.out _ _ ⟨(World.cell?_alloc_lt _ _ _ (World.block_lt_of_cell? _ _ hHeld.1)).trans hHeld.1, (World.cell?_alloc_lt _ _ _ (World.block_lt_of_cell? _ _ hHeld.2)).trans hHeld.2⟩ (fun hHeld => ?_)
      clear hK K
      refine normA (some 70) ?_
      refine one_ (i := 13) (N := some 71) (fl 15 16383) rfl rfl (one_of HT_.out (by kernel_rfl)) (by decide) (fun K hK => ?_)
      refine goes_ Tryd.func53 (by kernel_rfl) rfl #[.int .u8 17, .slice (some ⟨w6.heap.size, 0, none⟩) 2 2] (by rfl) rfl rfl eqA ?_
      refine (trail_digest.calls 17 (some ⟨w6.heap.size, 0, none⟩) 2 [x1, x2] (dig (17 :: (x1 ++ x2))) _ (G6.of (below_alloc (Below.refl _ _) _)) hrow (Nat.le_refl 2) (digest2 (by decide) H7.out.1.2 H7.out.2.1.2 (by rw [H7.out.1.1, H7.out.2.1.1]; decide))).mono ?_
      rintro e w7 ⟨v7, rfl, hR7, hB7⟩
      refine ⟨_, rfl, ?_⟩
      refine hK.out _ _ ⟨(hB7.cell (World.block_lt_of_cell? _ _ hHeld.1)).trans hHeld.1, (hB7.cell (World.block_lt_of_cell? _ _ hHeld.2)).trans hHeld.2⟩ (fun hHeld => ?_)
      clear hK K
      refine normA (some 71) ?_
      refine pureA (i := 14) (N := some 5) (fl 15 32767) (any_of HT_.out (by kernel_rfl)) ?_
      refine done_ (done_of HT_.out (by kernel_rfl)) ?_
      have hb67 : Below w6.heap.size w6 w7 := below_step (below_alloc (Below.refl _ _) _) hB7
      have T7 := T6.below hb67
      have R7 := R6.then_below hb67
      have hdiv2 : (M.length + 1) % 2 ^ (k + 1) = 0 := even_go H6.out.2.2.1 (by rw [← H6.out.1]; omega)
      have hdig : dig (17 :: (x1 ++ x2)) = lastP (M ++ [m0]) (k + 1) := by
        rw [lastP_succ (M ++ [m0]) k (by rw [H0.out.2.2.2.2.2.2.2.1]; exact hdiv2) (by rw [H0.out.2.2.2.2.2.2.2.1]; omega), H0.out.2.2.2.2.2.2.2.1, ← H6.out.1, ← H7.out.2.2.2.2.1, ← lastP_get M m0 k H6.out.2.2.1, H6.out.2.1, ← H7.out.2.2.2.2.2]
      rw [hdig] at hR7
      obtain ⟨A7, c7, rfl, hc7, _⟩ := Kd.R_reads hR7
      have F7 : Kd.F (Kd.int .u8) w7 (okA p (vs'.set k (.slice (some ⟨g, 0, none⟩) q cl))) A7 (lastP (M ++ [m0]) (k + 1)).length (lastP (M ++ [m0]) (k + 1)) := Kd.F_mono (Kd.R_F (Kd.R_bound hR7)) (fun b hb => by
        have hsz : w6.heap.size < (w6.alloc (.cells #[.slice A1 32 c1, .slice A2 32 c2] 23)).heap.size := by simp
        exact ⟨by have := T6.lt; have := hb.2.1; omega, fun j e => by have := T6.own_lt e.symm; have := hb.2.1; omega⟩)
      have hl7 := lastP_32 H0.out.2.2.2.2.2.2.1 (k + 1) (by rw [H0.out.2.2.2.2.2.2.2.1]; omega)
      rw [hl7.1] at F7 hc7
      rw [hl7.1]
      have H9 := Aside0.mk (And.intro T7 (And.intro F7 (And.intro R7 (And.intro H5.out.2.2.2 hdiv2))))
      clear T7 F7 R7 hdiv2 T6 R6 F1 F2 G6 hrow hHeld hR7 hB7 hb67 hdig hl7 HT_ HW_ hx1 hx2 hc1 hc2 e1 e2 p1 p2 q1 q2
      go_wp2
      go_roundg (gk - 1)
      case measure => have h_ := hmk; omega
      case rel => exact ⟨k + 1, _, A7, c7, _, by omega, rfl, by simp, rfl, hc7, H9.out.2.2.2.2, ⟨H9.out.1, H9.out.2.1, H9.out.2.2.1, H9.out.2.2.2.1⟩⟩
end Go.Proofs.YtcnpdapampclpaaDoor.X
namespace Go.Proofs.YtcnpdapampclpaaDoor.X
open Go.RowKit Go.Proofs.YtcnpdapampclpaaDoor.H Go.Proofs.YtcnpdapampclpaaDoorW.PrintWords Go.Proofs.YtcnpdapampclpaaDoorW.PrintLast Go.Proofs.YtcnpdapampclpaaDoorW.PrintMore Go.Proofs.YtcnpdapampclpaaDoor.PPl Go.Proofs.YtcnpdapampclpaaDoor.PTp
set_option linter.unusedVariables false
set_option linter.unusedSimpArgs false
section
variable {base p : Nat} {N : Nat} {vs : List Value} {L : Nat → List (List Int)} (w : World)
theorem size_c (T : TrailR base p N vs L w) : Calls Tryd.prog 16 #[.pointer (some ⟨p, 0, none⟩)] w fun e w' => e = .returned (.int .i64 N) ∧ Below w.heap.size w w' := by
  have hc := T.cellN
  go_enter Tryd.func16, Tryd.ntmps16
  go_wp2
  go_ret
  exact ⟨rfl, Below.refl _ _⟩
theorem size_nil : Calls Tryd.prog 16 #[.pointer none] w fun e w' => e = .returned (.int .i64 0) ∧ Below w.heap.size w w' := by
  go_enter Tryd.func16, Tryd.ntmps16
  go_wp2
  go_ret
  exact ⟨rfl, Below.refl _ _⟩
theorem within_c (T : TrailR base p N vs L w) (n least : Int) : Calls Tryd.prog 46 #[.pointer (some ⟨p, 0, none⟩), .int .i64 n, .int .i64 least] w fun e w' => e = .returned (.int .i64 (if n < least ∨ N < n then 1 else 0)) ∧ Below w.heap.size w w' := by
  have hc := T.cellN
  go_enter Tryd.func46, Tryd.ntmps46
  go_wp2
  all_goals (go_ret; exact ⟨rfl, Below.refl _ _⟩)
theorem within_nil (n least : Int) : Calls Tryd.prog 46 #[.pointer none, .int .i64 n, .int .i64 least] w fun e w' => e = .returned (.int .i64 3) ∧ Below w.heap.size w w' := by
  go_enter Tryd.func46, Tryd.ntmps46
  go_wp2
  go_ret
  exact ⟨rfl, Below.refl _ _⟩
theorem add_nil (b : Value) : Calls Tryd.prog 25 #[.pointer none, b] w fun e w' => e = .returned (.int .i64 3) ∧ Below w.heap.size w w' := by
  go_enter Tryd.func25, Tryd.ntmps25
  go_wp2
  go_ret
  exact ⟨rfl, Below.refl _ _⟩
theorem copy_nil : Calls Tryd.prog 32 #[.pointer none] w fun e w' => e = .returned (.pointer none) ∧ Below w.heap.size w w' := by
  go_enter Tryd.func32, Tryd.ntmps32
  go_wp2
  go_ret
  exact ⟨rfl, Below.refl _ _⟩
theorem within_ok (T : TrailR base p N vs L w) {n least : Int} (h1 : least ≤ n) (h2 : n ≤ N) : Calls Tryd.prog 46 #[.pointer (some ⟨p, 0, none⟩), .int .i64 n, .int .i64 least] w fun e w' => e = .returned (.int .i64 0) ∧ Below w.heap.size w w' := by
  have h := within_c w T n least
  rwa [if_neg (by omega)] at h
theorem within_err (T : TrailR base p N vs L w) {n least : Int} (h1 : n < least ∨ N < n) : Calls Tryd.prog 46 #[.pointer (some ⟨p, 0, none⟩), .int .i64 n, .int .i64 least] w fun e w' => e = .returned (.int .i64 1) ∧ Below w.heap.size w w' := by
  have h := within_c w T n least
  rwa [if_pos h1] at h
theorem head_nil (n : Int) : Calls Tryd.prog 19 #[.pointer none, .int .i64 n] w fun e w' => e = .returned (.tuple #[.slice none 0 0, .int .i64 3]) ∧ Below w.heap.size w w' := by
  go_enter Tryd.func19, Tryd.ntmps19
  go_wp2_with (first | (go_at_call 46; refine (within_nil _ _ _).mono ?_; rintro e w1 ⟨rfl, hB⟩))
  go_ret2
  exact ⟨rfl, hB⟩
theorem top_nil (n : Int) : Calls Tryd.prog 18 #[.pointer none, .int .i64 n] w fun e w' => e = .returned (.tuple #[.slice none 0 0, .int .i64 3]) ∧ Below w.heap.size w w' := by
  go_enter Tryd.func18, Tryd.ntmps18
  go_wp2_with (first | (go_at_call 46; refine (within_nil _ _ _).mono ?_; rintro e w1 ⟨rfl, hB⟩))
  go_ret2
  exact ⟨rfl, hB⟩
theorem way_nil (n m : Int) : Calls Tryd.prog 27 #[.pointer none, .int .i64 n, .int .i64 m] w fun e w' => e = .returned (.tuple #[.slice none 0 0, .int .i64 3]) ∧ Below w.heap.size w w' := by
  go_enter Tryd.func27, Tryd.ntmps27
  go_wp2_with (first | (go_at_call 46; refine (within_nil _ _ _).mono ?_; rintro e w1 ⟨rfl, hB⟩))
  go_ret2
  exact ⟨rfl, hB⟩
theorem bridge_nil (m n : Int) : Calls Tryd.prog 28 #[.pointer none, .int .i64 m, .int .i64 n] w fun e w' => e = .returned (.tuple #[.slice none 0 0, .int .i64 3]) ∧ Below w.heap.size w w' := by
  go_enter Tryd.func28, Tryd.ntmps28
  go_wp2_with (first | (go_at_call 46; refine (within_nil _ _ _).mono ?_; rintro e w1 ⟨rfl, hB⟩))
  go_ret2
  exact ⟨rfl, hB⟩
end
end Go.Proofs.YtcnpdapampclpaaDoor.X
set_option linter.unusedVariables false
namespace Go.Proofs.YtcnpdapampclpaaDoor.PPm
open Go.RowKit Go.Proofs.YtcnpdapampclpaaDoorW.PrintWords Go.Proofs.YtcnpdapampclpaaDoorW.PrintLast Go.Proofs.YtcnpdapampclpaaDoorW.PrintMore Go.Proofs.YtcnpdapampclpaaDoor.X Go.Proofs.YtcnpdapampclpaaDoor.H Go.Proofs.YtcnpdapampclpaaDoor.PPl Go.Proofs.YtcnpdapampclpaaDoor.PTp
theorem w64 {x : Int} (h : -9223372036854775808 ≤ x) (h' : x ≤ 9223372036854775807) : wrap64 x = x := by unfold wrap64; omega
theorem bitLenAux_eq : ∀ (f x : Nat), 0 < x → x < 2 ^ f → Lib.bitLenAux f x = Nat.log2 x + 1 := by
 intro f
 induction f with
 | zero => intro x h1 h2; simp at h2; omega
 | succ f ih =>
  intro x h1 h2
  rw [Lib.bitLenAux, if_neg (by omega), Nat.log2_def]
  by_cases h : x ≥ 2
  ·rw [if_pos h, ih (x / 2) (by omega) (by rw [Nat.pow_succ] at h2; omega)]; omega
  ·obtain rfl : x = 1 := by omega
   cases f <;> rfl
theorem half_eq (n : Nat) (h : 2 ≤ n) (h' : n ≤ 1000000) : trail_half.f (n : Int) = some (hf n : Int) := by
 have e1 : wrap64 ((n : Int) - 1) = ((n - 1 : Nat) : Int) := by rw [w64 (by omega) (by omega)]; omega
 have e2 : IntKind.u64.wrap ((n - 1 : Nat) : Int) = ((n - 1 : Nat) : Int) := by show ((n - 1 : Nat) : Int) % 18446744073709551616 = _; omega
 have e64 : n - 1 < 2 ^ 64 := Nat.lt_trans (show n - 1 < 1048576 by omega) (by decide)
 have hb : Lib.bitLen (n - 1) = Nat.log2 (n - 1) + 1 := bitLenAux_eq 64 _ (by omega) e64
 have hl : Nat.log2 (n - 1) < 20 := by
  rw [Nat.log2_lt (by omega)]
  have : (2:Nat) ^ 20 = 1048576 := by decide
  omega
 unfold trail_half.f bits_Len.f
 rw [e1, e2, if_pos (by omega)]
 simp only [Option.bind_some]
 rw [Int.toNat_natCast, hb, show wrap64 (((Nat.log2 (n - 1) + 1 : Nat) : Int) - 1) = (Nat.log2 (n - 1) : Int) by rw [w64 (by omega) (by omega)]; omega, if_pos (by omega)]
 unfold shl
 rw [show min (Nat.log2 (n - 1) : Int).toNat IntKind.i64.bits = Nat.log2 (n - 1) by rw [Int.toNat_natCast]; exact Nat.min_eq_left (by show _ ≤ 64; omega), Int.one_mul]
 have e3 : ((2 : Int) ^ Nat.log2 (n - 1)) = (hf n : Int) := by unfold hf; rw [Int.natCast_pow]; rfl
 rw [e3]
 congr 1
 have h5 := hf_lt h
 exact IntWalk.i64_in (hf n : Int) (by omega)
/-- The head of a row of n marks of a top. -/
def headL (n : Int) (t : List Int) : List Int := dig (18 :: (e8 n ++ t))
theorem head_raw (k : Nat) (n : Int) (t : List Int) : trail_head.f (k + 9) n t = (trail_digest.f 18 [[shr .u64 (IntKind.u64.wrap n) ((56 : Nat) : Int) % 256, shr .u64 (IntKind.u64.wrap n) ((48 : Nat) : Int) % 256, shr .u64 (IntKind.u64.wrap n) ((40 : Nat) : Int) % 256, shr .u64 (IntKind.u64.wrap n) ((32 : Nat) : Int) % 256, shr .u64 (IntKind.u64.wrap n) ((24 : Nat) : Int) % 256, shr .u64 (IntKind.u64.wrap n) ((16 : Nat) : Int) % 256, shr .u64 (IntKind.u64.wrap n) ((8 : Nat) : Int) % 256, shr .u64 (IntKind.u64.wrap n) ((0 : Nat) : Int) % 256], t]).bind fun r => some r := by kernel_rfl
theorem head_eq (k : Nat) (n : Int) (t : List Int) (hk : 9 ≤ k) (ht : ∀ y ∈ t, 0 ≤ y ∧ y < 256) (hl : t.length ≤ 90000) : trail_head.f k n t = some (headL n t) := by
 obtain ⟨k, rfl⟩ : ∃ j, k = j + 9 := ⟨k - 9, by omega⟩
 rw [head_raw]
 simp only [shr64 _ _ (show (56 : Nat) < 64 by decide), shr64 _ _ (show (48 : Nat) < 64 by decide), shr64 _ _ (show (40 : Nat) < 64 by decide), shr64 _ _ (show (32 : Nat) < 64 by decide), shr64 _ _ (show (24 : Nat) < 64 by decide), shr64 _ _ (show (16 : Nat) < 64 by decide), shr64 _ _ (show (8 : Nat) < 64 by decide), shr64 _ _ (show (0 : Nat) < 64 by decide)]
 have h := digest2 (m := 18) (a := e8 n) (b := t) (by decide) (e8_bytes n) ht (by rw [e8_length]; omega)
 have he : e8 n = [IntKind.u64.wrap n / 2 ^ 56 % 256, IntKind.u64.wrap n / 2 ^ 48 % 256, IntKind.u64.wrap n / 2 ^ 40 % 256, IntKind.u64.wrap n / 2 ^ 32 % 256, IntKind.u64.wrap n / 2 ^ 24 % 256, IntKind.u64.wrap n / 2 ^ 16 % 256, IntKind.u64.wrap n / 2 ^ 8 % 256, IntKind.u64.wrap n / 2 ^ 0 % 256] := by
  unfold e8
  rw [show IntKind.u64.wrap n = n % 18446744073709551616 from rfl]
  simp
 rw [← he, h]
 rfl
theorem headL_length (n : Int) (t : List Int) : (headL n t).length = 32 := dig_length _
theorem headL_bytes (n : Int) (t : List Int) : ∀ x ∈ headL n t, 0 ≤ x ∧ x < 256 := dig_bytes _
end Go.Proofs.YtcnpdapampclpaaDoor.PPm
namespace Go.Proofs.YtcnpdapampclpaaDoor.X
open Go.RowKit Go.Proofs.YtcnpdapampclpaaDoor.H Go.Proofs.YtcnpdapampclpaaDoorW.PrintWords Go.Proofs.YtcnpdapampclpaaDoorW.PrintLast Go.Proofs.YtcnpdapampclpaaDoorW.PrintMore Go.Proofs.YtcnpdapampclpaaDoor.PPl Go.Proofs.YtcnpdapampclpaaDoor.PTp
set_option linter.unusedVariables false
set_option linter.unusedSimpArgs false
def andOk (n : Nat) : Bool := n == 0 || ((Go.bits .and .i64 (n : Int) ((n : Int) - 1) == 0) == (n == 2 ^ Nat.log2 n))
theorem and_tab : ∀ a : Fin 65, ∀ b : Fin 64, andOk (64 * a.val + b.val) = true := by decide +kernel
theorem and_pow {n : Nat} (h0 : 1 ≤ n) (h : n ≤ 4096) : (Go.bits .and .i64 (n : Int) ((n : Int) - 1) == 0) = (n == 2 ^ Nat.log2 n) := by
  have := and_tab ⟨n / 64, by omega⟩ ⟨n % 64, by omega⟩
  simp only at this
  rw [show 64 * (n / 64) + n % 64 = n by omega] at this
  unfold andOk at this
  rw [show (n == 0) = false from beq_eq_false_iff_ne.2 (by omega), Bool.false_or, beq_iff_eq] at this
  exact this
def topR.T3 : Bool × List (List Nat × List Nat) := (true, [([], []), ([], []), ([0], [0]), ([2], [2]), ([3, 1], [1, 3]), ([4], [4]), ([], []), ([], []), ([6, 7], [6, 7]), ([5, 8], [5, 8]), ([9], [9]), ([10, 0, 1, 2, 3, 4, 5, 6, 7, 8, 9, 10], [10])])
def topR.B3 : List Nat := [0, 0, 1, 5, 15, 31, 0, 0, 192, 511, 1023, 2047]
theorem topR.tab3 : rtab .any (opsOf Tryd.f48 3) = topR.T3 := by kernel_rfl
theorem topR.bits3 : waitsOk topR.T3.2 topR.B3 = true := by kernel_rfl
theorem len_pow {n k : Nat} (h : n = 2 ^ k) (hk : k < 13) : wrap64 ((Lib.bitLen ((n : Int)).toNat : Int) - 1) = (k : Int) := by
  have h1 : Lib.bitLen n = k + 1 := by
    have h2 := Go.Proofs.YtcnpdapampclpaaDoor.PPm.bitLenAux_eq 64 n (by rw [h]; exact Nat.two_pow_pos k) (by rw [h]; exact Nat.pow_lt_pow_right (by decide) (by omega))
    rw [h, Nat.log2_two_pow, ← h] at h2
    exact h2
  rw [Int.toNat_natCast, h1]
  unfold wrap64; omega
set_option maxRecDepth 100000 in
set_option maxHeartbeats 4000000 in
theorem part_c (base p : Nat) (vs : List Value) (M : List (List Int)) (hv : Lv M) (hM : M.length ≤ 4096) (h1b : 1 < base) (n : Nat) : ∀ (f : Nat) (w : World), Glb w → TrailR base p M.length vs (levL M) w → 1 ≤ n → f + n ≤ M.length → Valid f n →
    Calls Tryd.prog 48 #[.pointer (some ⟨p, 0, none⟩), .int .i64 f, .int .i64 n] w fun e w' => ∃ A c, e = .returned (.slice A 32 c) ∧ 32 ≤ c ∧ Kd.C (Kd.int .u8) w' A 32 (topL ((M.drop f).take n)) ∧ Below w.heap.size w w' := by
  induction n using Nat.strongRecOn with
  | _ n ih =>
  intro f w HG T h1 hfn hV
  have hand := and_pow h1 (show n ≤ 4096 by omega)
  have hnI : (n : Int) ≤ 4096 := by omega
  have hn0 : (1 : Int) ≤ (n : Int) := by omega
  have H0 := Aside0.mk (And.intro HG (And.intro T (And.intro h1 (And.intro hfn hV))))
  clear HG T
  obtain ⟨x, hx⟩ : ∃ x : Int, x = (n : Int) := ⟨_, rfl⟩
  obtain ⟨y, hy⟩ : ∃ y : Int, y = (f : Int) := ⟨_, rfl⟩
  rw [← hx] at hand hnI hn0
  rw [← hx, ← hy]
  have Hx := Aside0.mk (And.intro hx hy)
  clear hx hy
  obtain ⟨z, hz⟩ : ∃ z : Int, x - 1 = z := ⟨_, rfl⟩
  rw [hz] at hand
  by_cases hpow : n = 2 ^ Nat.log2 n
  · rw [show (n == 2 ^ Nat.log2 n) = true from beq_iff_eq.2 hpow] at hand
    have hp := Aside0.mk hpow
    have hand' := Aside0.mk hand
    clear hpow ih hand
    go_enter Tryd.func48, Tryd.ntmps48
    go_upto_region 1 with (fail)
    go_step
    go_step
    go_step
    go_step
    go_step
    go_step
    go_step
    go_step
    go_step
    go_step
    go_step
    go_step
    have hand := hand'.out
    generalize Go.bits .and .i64 x z = u at hand ⊢
    rw [beq_iff_eq] at hand
    subst hand
    clear hand'
    go_upto_region 3 with (first | (go_at_call 65; refine (Len_c _ _ (by omega) (by omega)).mono ?_; rintro e w1 ⟨rfl, rfl⟩))
    obtain ⟨k, hk⟩ : ∃ k, k = Nat.log2 n := ⟨_, rfl⟩
    have hnk := hp.out
    rw [← hk] at hnk
    obtain ⟨HG, T, h1, hfn, hV⟩ := H0.out
    have hk13 : k < 13 := by
      rcases Nat.lt_or_ge k 13 with h | h
      · exact h
      · have h2 : 2 ^ 13 ≤ 2 ^ k := Nat.pow_le_pow_right (by decide) h
        have : (2 : Nat) ^ 13 = 8192 := by decide
        omega
    have hlen := len_pow hnk hk13
    rw [← Hx.out.1] at hlen
    rw [hlen]
    have hfk : f % 2 ^ k = 0 := (by rw [hnk] at hV; exact hV.pow)
    have hlt : f / 2 ^ k < (levL M k).length := by rw [levL_length]; exact (Nat.lt_div_iff_mul_lt (Nat.two_pow_pos k)).2 (by have := Nat.div_mul_cancel (Nat.dvd_of_mod_eq_zero hfk); omega)
    obtain ⟨g, cl, hvk, hcl, -, hglt, hel⟩ := row_get (T.row k hk13) (Nat.lt_of_le_of_lt (Nat.zero_le _) hlt)
    obtain ⟨A, c, hx, hc, hF⟩ := hel _ hlt
    have hcell := T.cell hk13
    rw [hvk] at hcell
    have htop := lev_top M f k hfk (by omega)
    have h32 := levL_32 hv k _ (by rw [← levL_length]; exact hlt)
    rw [h32.1] at hx hc hF
    rw [htop] at hF
    rw [← hnk] at hF
    obtain ⟨i, hi⟩ : ∃ i, i = f / 2 ^ k := ⟨_, rfl⟩
    obtain ⟨q, hq⟩ : ∃ q, q = (levL M k).length := ⟨_, rfl⟩
    rw [← hq, ← hi] at hlt
    rw [← hi] at hx
    rw [← hq] at hcell hcl
    have hq4 : q ≤ 4096 := by rw [hq, levL_length]; exact Nat.le_trans (Nat.div_le_self _ _) hM
    have hyi : y / 2 ^ k = (i : Int) := by rw [Hx.out.2, hi]; norm_cast
    have H9 := Aside0.mk (And.intro hF (And.intro hyi hc))
    clear hyi
    clear hlen htop h32 hvk hel hF hi hq hnk hk hp hfk hV T HG H0 hfn h1 hcl hc
    have p1 : (0 ≤ (k : Int)) = True := eq_true (by omega)
    have q1 : ((k : Int) < 13) = True := eq_true (by omega)
    have p2 : (0 ≤ (i : Int)) = True := eq_true (by omega)
    have q2 : ((i : Int) < (q : Int)) = True := eq_true (by omega)
    clear hlt hq4
    refine start_ (n := 12) (S := fun w' => w'.cell? ⟨p, 1 + k, none⟩ = some (.slice (some ⟨g, 0, none⟩) q cl) ∧ w'.cell? ⟨g, i, none⟩ = some (.slice A 32 c)) (ds := []) (fl 12 0) (by kernel_rfl) rfl rfl ⟨hcell, hx⟩ (fun hHeld => ?_)
    refine with_tabW topR.tab3 topR.bits3 (fun HT_ HW_ => ?_)
    refine pureA (i := 0) (N := some 18) (fl 12 1) (any_of HT_.out (by kernel_rfl)) ?_
    refine pureA (i := 1) (N := some 19) (fl 12 3) (any_of HT_.out (by kernel_rfl)) ?_
    refine pureA (i := 2) (N := some 20) (fl 12 7) (any_of HT_.out (by kernel_rfl)) ?_
    refine pureA (i := 3) (N := some 21) (fl 12 15) (any_of HT_.out (by kernel_rfl)) ?_
    refine pureA (i := 4) (N := some 22) (fl 12 31) (any_of HT_.out (by kernel_rfl)) ?_
    refine takeA (i := 5) (N := some 23) (fl 12 63) (take_ofW HT_.out HW_.out (by kernel_rfl)) hHeld ?_
    refine pureA (i := 6) (N := some 24) (fl 12 127) (any_of HT_.out (by kernel_rfl)) ?_
    refine pureA (i := 7) (N := some 25) (fl 12 255) (any_of HT_.out (by kernel_rfl)) ?_
    refine pureA (i := 8) (N := some 26) (fl 12 511) (any_of HT_.out (by kernel_rfl)) ?_
    rw [H9.out.2.1]
    refine pureA (i := 9) (N := some 27) (fl 12 1023) (any_of HT_.out (by kernel_rfl)) ?_
    refine takeA (i := 10) (N := some 28) (fl 12 2047) (take_ofW HT_.out HW_.out (by kernel_rfl)) hHeld ?_
    refine pureA (i := 11) (N := some 6) (fl 12 4095) (any_of HT_.out (by kernel_rfl)) ?_
    refine done_ (done_of HT_.out (by kernel_rfl)) ?_
    go_wp2
    go_ret
    exact ⟨A, c, rfl, H9.out.2.2, Kd.F_now (Kd.F_drew H9.out.1), below_drew1 (Below.refl _ _)⟩
  · rw [show (n == 2 ^ Nat.log2 n) = false from beq_eq_false_iff_ne.2 hpow] at hand
    have hand' := Aside0.mk hand
    clear hand
    obtain ⟨HG, T, h1, hfn, hV⟩ := H0.out
    have hn2 : 2 ≤ n := by
      rcases Nat.lt_or_ge n 2 with h | h
      · exfalso
        obtain rfl : n = 1 := by omega
        exact hpow (by decide)
      · exact h
    have hlt := hf_lt hn2
    have hle := hf_le hn2
    have hhalf := Go.Proofs.YtcnpdapampclpaaDoor.PPm.half_eq n hn2 (by omega)
    rw [← Hx.out.1] at hhalf
    obtain ⟨h, hh⟩ : ∃ h, h = hf n := ⟨_, rfl⟩
    rw [← hh] at hhalf hlt hle
    have ih1 : ∀ w1, Below w.heap.size w w1 → Calls Tryd.prog 48 #[.pointer (some ⟨p, 0, none⟩), .int .i64 y, .int .i64 h] w1 fun e w' => ∃ A c, e = .returned (.slice A 32 c) ∧ 32 ≤ c ∧ Kd.C (Kd.int .u8) w' A 32 (topL ((M.drop f).take h)) ∧ Below w1.heap.size w1 w' := fun w1 hb => by
      rw [Hx.out.2]
      exact ih h hlt f w1 (HG.of hb) (T.below hb) (by omega) (by omega) (by rw [hh]; exact hV.left hn2)
    have ih2 : ∀ w1, Below w.heap.size w w1 → Calls Tryd.prog 48 #[.pointer (some ⟨p, 0, none⟩), .int .i64 (y + h), .int .i64 (x - h)] w1 fun e w' => ∃ A c, e = .returned (.slice A 32 c) ∧ 32 ≤ c ∧ Kd.C (Kd.int .u8) w' A 32 (topL ((M.drop (f + h)).take (n - h))) ∧ Below w1.heap.size w1 w' := fun w1 hb => by
      rw [Hx.out.2, Hx.out.1, show (f : Int) + (h : Int) = ((f + h : Nat) : Int) by omega, show (n : Int) - (h : Int) = ((n - h : Nat) : Int) by omega]
      exact ih (n - h) (by omega) (f + h) w1 (HG.of hb) (T.below hb) (by omega) (by omega) (by rw [hh]; exact hV.right hn2)
    have hnode := part_node M f n hn2 hfn
    rw [← hh] at hnode
    have ht1 := topL_32 ((hv.drop f).take h) (by rw [List.length_take, List.length_drop]; omega)
    have ht2 := topL_32 ((hv.drop (f + h)).take (n - h)) (by rw [List.length_take, List.length_drop]; omega)
    obtain ⟨t1, e1⟩ : ∃ t, t = topL ((M.drop f).take h) := ⟨_, rfl⟩
    obtain ⟨t2, e2⟩ : ∃ t, t = topL ((M.drop (f + h)).take (n - h)) := ⟨_, rfl⟩
    rw [← e1] at ht1 ih1 hnode
    rw [← e2] at ht2 ih2 hnode
    have hx1 := Hx.out.1
    have hy1 := Hx.out.2
    have hI0 : (0 : Int) ≤ (h : Int) := by omega
    have hI1 : (h : Int) < x := by omega
    have hI2 : 0 ≤ y := by omega
    have hI3 : y ≤ 4096 := by omega
    have H9 := Aside0.mk (And.intro ih1 (And.intro ih2 (And.intro ht1 (And.intro ht2 (And.intro hnode hhalf)))))
    clear ih ih1 ih2 ht1 ht2 hnode e1 e2 hlt hle hh hn2 h1 hfn hV HG T hx1 hy1 hhalf hpow
    go_enter Tryd.func48, Tryd.ntmps48
    go_upto_region 1 with (fail)
    go_step
    go_step
    go_step
    go_step
    go_step
    go_step
    go_step
    go_step
    go_step
    go_step
    go_step
    go_step
    have hand := hand'.out
    generalize Go.bits .and .i64 x z = u at hand ⊢
    clear hand'
    have H0' := Aside0.mk H0.out.1
    clear H0 h1 hfn hV
    go_step
    go_step
    go_step
    go_step
    go_step
    go_step
    clear hand
    go_upto_region 5 with (first
      | (go_at_call 54; refine (trail_half.calls x h _ H9.out.2.2.2.2.2).mono ?_; rintro e w1 ⟨rfl, hB1⟩))
    clear hz
    go_wp2_with (first
      | (go_at_call 54; refine (trail_half.calls x h _ H9.out.2.2.2.2.2).mono ?_; rintro e w1 ⟨rfl, hB1⟩)
      | (go_at_call 48; with_reducible refine (H9.out.1 _ hB1).mono ?_; rintro e w2 ⟨A1, c1, rfl, hc1, hC1, hB2⟩)
      | (go_at_call 48; with_reducible refine (H9.out.2.1 _ (below_step hB1 hB2)).mono ?_; rintro e w3 ⟨A2, c2, rfl, hc2, hC2, hB3⟩)
      | (go_at_call 53; refine (trail_digest.calls 17 (some ⟨w3.heap.size, 0, none⟩) 2 [t1, t2] (dig (17 :: (t1 ++ t2))) _ ((H0'.out.of (below_step (below_step hB1 hB2) hB3)).of (below_alloc (Below.refl _ _) _)) (row_C w3 [.slice A1 32 c1, .slice A2 32 c2] [t1, t2] 23 (fun i x hi => by
          rcases i with _ | _ | i
          · obtain rfl : t1 = x := by simpa using hi
            rw [H9.out.2.2.1.1]; exact ⟨A1, c1, rfl, hc1, Kd.C_below hC1 hB3⟩
          · obtain rfl : t2 = x := by simpa using hi
            rw [H9.out.2.2.2.1.1]; exact ⟨A2, c2, rfl, hc2, hC2⟩
          · simp at hi) (by show 2 ≤ 140737488351232; omega)) (Nat.le_refl 2) (digest2 (by decide) H9.out.2.2.1.2 H9.out.2.2.2.1.2 (by rw [H9.out.2.2.1.1, H9.out.2.2.2.1.1]; decide))).mono ?_; rintro e w4 ⟨v4, rfl, hR4, hB4⟩))
    go_ret
    obtain ⟨A4, c4, rfl, hc4, hC4⟩ := Kd.R_reads hR4
    have hl := dig_length (17 :: (t1 ++ t2))
    rw [hl] at hc4 hC4
    rw [hl, H9.out.2.2.2.2.1]
    exact ⟨A4, c4, rfl, hc4, hC4, below_step (below_step (below_step (below_step hB1 hB2) hB3) (below_alloc (Below.refl _ _) _)) hB4⟩
end Go.Proofs.YtcnpdapampclpaaDoor.X
namespace Go.Proofs.YtcnpdapampclpaaDoor.X
open Go.RowKit Go.Proofs.YtcnpdapampclpaaDoor.PPm Go.Proofs.YtcnpdapampclpaaDoor.H Go.Proofs.YtcnpdapampclpaaDoorW.PrintWords Go.Proofs.YtcnpdapampclpaaDoorW.PrintLast Go.Proofs.YtcnpdapampclpaaDoorW.PrintMore Go.Proofs.YtcnpdapampclpaaDoor.PPl Go.Proofs.YtcnpdapampclpaaDoor.PTp
set_option linter.unusedVariables false
set_option linter.unusedSimpArgs false
theorem info_byte : (Tryd.prog.info? 5).map (fun i => (i.zero, i.size, i.bytes)) = some (some (.int .u8 0), 1, 1) := by kernel_rfl
set_option maxRecDepth 100000 in
set_option maxHeartbeats 4000000 in
theorem clone_c (A : Option Addr) (c : Nat) (xs : List Int) (w : World) (hC : Kd.C (Kd.int .u8) w A xs.length xs) (hl : xs.length ≤ 1000000) :
    Calls Tryd.prog 47 #[.slice A xs.length c] w fun e w' => ∃ v, e = .returned v ∧ Kd.R (Kd.int .u8) 5 w' w.heap.size (fun k => w.heap.size ≤ k) v xs ∧ Below w.heap.size w w' := by
  have HC := Aside0.mk hC
  have qT : ∀ (w : World) (a : Option Addr) (n c n' c' : Nat), (binOp .eql 23 (.slice a n c) (.slice none n' c')).run Tryd.prog w = .ok (.bool a.isNone) w := fun w a n c n' c' => Lib.run_eql_slice_nil w _ _ a n c n' c' Tryd.underlying23
  rcases A with _ | ad
  · have h0 : xs.length = 0 := by
      rcases Nat.eq_zero_or_pos xs.length with h | h
      · exact h
      · obtain ⟨ad, he, _⟩ := hC.2.2 h
        cases he
    obtain rfl := List.length_eq_zero_iff.1 h0
    clear hC
    go_enter Tryd.func47, Tryd.ntmps47
    go_wp2
    go_ret
    exact ⟨_, rfl, Kd.R_nil _ _ _ _ _, Below.refl _ _⟩
  · clear hC
    obtain ⟨n, hn⟩ : ∃ n, n = xs.length := ⟨_, rfl⟩
    rw [← hn] at hl HC ⊢
    have Hn := Aside0.mk hn
    clear hn
    go_enter Tryd.func47, Tryd.ntmps47
    go_wp2_with (first
      | ((with_reducible refine gate_dst (N := 5) rfl ?_); refine Kd.R_lit (w0 := w) (Kd.int .u8) w.heap.size 5 ?hg (N := 5) ?hd (xs := ([] : List Int)) (inner := []) (ok := fun k => w.heap.size ≤ k) (okp := fun _ => False) ?hr ?hp (fun _ hk => hk.elim) (Nat.le_refl _) (Below.refl _ _) (Nat.le_refl _) (by simp) ?_; (case hd => rfl); (case hg => rfl); (case hr => first | (go_simp; done) | (go_simp; rfl)); (case hp => exact Reps.none _ _); intro v1 w1 ho1 hb1 hg1 hn1)
      | ((with_reducible refine gate_builtin (b := .append) (xs := #[.tmp 5, .tmp 6]) rfl ?_); at_builtin; refine Kd.R_append_rows (Kd.int .u8) (w0 := w) w.heap.size rfl (.tmp 5) (.tmp 6) 23 5 (.int .u8 0) 1 rfl Tryd.underlying23 info_byte rfl (by decide) (by omega) v1 ([] : List Int) xs _ _ _ (fun k => w.heap.size ≤ k) (fun _ => False) rfl rfl ho1 (Kd.C_below HC.out hb1) (fun _ _ h => h) (fun _ h => h.elim) (fun k hk => Nat.le_trans hb1.size hk) hb1 hb1.size (by show (0 + n) * 1 ≤ _; omega) ?_; intro v2 w2 ho2 hb2 hg2 hat2))
    go_ret
    exact ⟨_, rfl, ho2, hb2⟩
set_option maxRecDepth 100000 in
set_option maxHeartbeats 4000000 in
theorem top_c (base p : Nat) (vs : List Value) (M : List (List Int)) (w : World) (HG : Glb w) (T : TrailR base p M.length vs (levL M) w) (hv : Lv M) (hM : M.length ≤ 4096) (h1b : 1 < base) (n : Nat) (h1 : 1 ≤ n) (hn : n ≤ M.length) :
    Calls Tryd.prog 18 #[.pointer (some ⟨p, 0, none⟩), .int .i64 n] w fun e w' => ∃ v, e = .returned (.tuple #[v, .int .i64 0]) ∧ Kd.R (Kd.int .u8) 5 w' w.heap.size (fun k => w.heap.size ≤ k) v (topL (M.take n)) ∧ Below w.heap.size w w' := by
  have ht := topL_32 (hv.take n) (by rw [List.length_take]; omega)
  have H0 := Aside0.mk (And.intro HG (And.intro T (And.intro ht (And.intro h1 hn))))
  clear HG T ht
  go_enter Tryd.func18, Tryd.ntmps18
  go_wp2_with (first
    | (go_at_call 46; refine (within_ok _ H0.out.2.1 (by omega) (by omega)).mono ?_; rintro e w1 ⟨rfl, hB1⟩)
    | (go_at_call 48; refine (part_c base p vs M hv hM h1b n 0 w1 (H0.out.1.of hB1) (H0.out.2.1.below hB1) h1 (by omega) (Valid.zero n)).mono ?_; rintro e w2 ⟨A2, c2, rfl, hc2, hC2, hB2⟩)
    | (go_at_call 47; have h32 := H0.out.2.2.1.1; rw [List.drop_zero] at hC2; have hc3 := clone_c A2 c2 (topL (M.take n)) w2 (by rw [h32]; exact hC2) (by omega); rw [h32] at hc3; refine hc3.mono ?_; rintro e w3 ⟨v3, rfl, hR3, hB3⟩))
  go_ret2
  exact ⟨v3, rfl, Kd.R_mono (Kd.R_lower hR3 (below_step hB1 hB2).size) (fun k hk => Nat.le_trans (below_step hB1 hB2).size hk), below_step (below_step hB1 hB2) hB3⟩
theorem top_err (base p : Nat) (vs : List Value) (M : List (List Int)) (w : World) (T : TrailR base p M.length vs (levL M) w) (n : Int) (h : n < 1 ∨ (M.length : Int) < n) :
    Calls Tryd.prog 18 #[.pointer (some ⟨p, 0, none⟩), .int .i64 n] w fun e w' => e = .returned (.tuple #[.slice none 0 0, .int .i64 1]) ∧ Below w.heap.size w w' := by
  have H0 := Aside0.mk (And.intro T h)
  clear T h
  go_enter Tryd.func18, Tryd.ntmps18
  go_wp2_with (first
    | (go_at_call 46; refine (within_err _ H0.out.1 H0.out.2).mono ?_; rintro e w1 ⟨rfl, hB1⟩))
  go_ret2
  exact ⟨rfl, hB1⟩
/-- The head of the first n marks. -/
def hdL (M : List (List Int)) (n : Nat) : List Int := headL n (if n = 0 then [] else topL (M.take n))
set_option maxRecDepth 100000 in
set_option maxHeartbeats 4000000 in
theorem head_c (base p : Nat) (vs : List Value) (M : List (List Int)) (w : World) (HG : Glb w) (T : TrailR base p M.length vs (levL M) w) (hv : Lv M) (hM : M.length ≤ 4096) (h1b : 1 < base) (n : Nat) (hn : n ≤ M.length) :
    Calls Tryd.prog 19 #[.pointer (some ⟨p, 0, none⟩), .int .i64 n] w fun e w' => ∃ v, e = .returned (.tuple #[v, .int .i64 0]) ∧ Kd.R (Kd.int .u8) 5 w' w.heap.size (fun k => w.heap.size ≤ k) v (hdL M n) ∧ Below w.heap.size w w' := by
  have H0 := Aside0.mk (And.intro HG (And.intro T hn))
  clear HG T
  unfold hdL
  by_cases h0 : n = 0
  · subst h0
    rw [if_pos rfl]
    have hh := Aside0.mk (Go.Proofs.YtcnpdapampclpaaDoor.PPm.head_eq 9 ((0 : Nat) : Int) [] (Nat.le_refl _) (by simp) (by simp))
    go_enter Tryd.func19, Tryd.ntmps19
    go_wp2_with (first
      | (go_at_call 46; refine (within_ok _ H0.out.2.1 (by omega) (by omega)).mono ?_; rintro e w1 ⟨rfl, hB1⟩)
      | (go_at_call 49; refine (trail_head.calls 9 0 (fun _ => False) none 0 [] _ w1 (H0.out.1.of hB1) (Kd.V_nil _ _ _ _ _) hh.out).mono ?_; rintro e w2 ⟨v2, rfl, hR2, hB2⟩))
    go_ret2
    exact ⟨v2, rfl, Kd.R_mono (Kd.R_lower hR2 hB1.size) (fun k hk => Nat.le_trans hB1.size hk), below_step hB1 hB2⟩
  · rw [if_neg h0]
    have ht := topL_32 (hv.take n) (by rw [List.length_take]; omega)
    have hh := Aside0.mk (And.intro (Go.Proofs.YtcnpdapampclpaaDoor.PPm.head_eq 9 (n : Int) (topL (M.take n)) (Nat.le_refl _) ht.2 (by omega)) ht.1)
    clear ht
    have h1 : 1 ≤ n := by omega
    have hnI : ((n : Int) = 0) = False := eq_false (by omega)
    go_enter Tryd.func19, Tryd.ntmps19
    go_wp2_with (first
      | (go_at_call 46; refine (within_ok _ H0.out.2.1 (by omega) (by omega)).mono ?_; rintro e w1 ⟨rfl, hB1⟩)
      | (go_at_call 48; refine (part_c base p vs M hv hM h1b n 0 w1 (H0.out.1.of hB1) (H0.out.2.1.below hB1) h1 (by omega) (Valid.zero n)).mono ?_; rintro e w2 ⟨A2, c2, rfl, hc2, hC2, hB2⟩)
      | (go_at_call 49; rw [List.drop_zero] at hC2; have hc3 := trail_head.calls 9 (n : Int) (fun k => k < w2.heap.size) A2 c2 (topL (M.take n)) _ w2 (H0.out.1.of (below_step hB1 hB2)) ⟨A2, c2, rfl, by rw [hh.out.2]; exact hc2, Kd.C_F (Kd.heap_int _) (by rw [hh.out.2]; exact hC2)⟩ hh.out.1; rw [hh.out.2] at hc3; refine hc3.mono ?_; rintro e w3 ⟨v3, rfl, hR3, hB3⟩))
    go_ret2
    exact ⟨v3, rfl, Kd.R_mono (Kd.R_lower hR3 (below_step hB1 hB2).size) (fun k hk => Nat.le_trans (below_step hB1 hB2).size hk), below_step (below_step hB1 hB2) hB3⟩
theorem head_err (base p : Nat) (vs : List Value) (M : List (List Int)) (w : World) (T : TrailR base p M.length vs (levL M) w) (n : Int) (h : n < 0 ∨ (M.length : Int) < n) :
    Calls Tryd.prog 19 #[.pointer (some ⟨p, 0, none⟩), .int .i64 n] w fun e w' => e = .returned (.tuple #[.slice none 0 0, .int .i64 1]) ∧ Below w.heap.size w w' := by
  have H0 := Aside0.mk (And.intro T h)
  clear T h
  go_enter Tryd.func19, Tryd.ntmps19
  go_wp2_with (first
    | (go_at_call 46; refine (within_err _ H0.out.1 H0.out.2).mono ?_; rintro e w1 ⟨rfl, hB1⟩))
  go_ret2
  exact ⟨rfl, hB1⟩
end Go.Proofs.YtcnpdapampclpaaDoor.X
namespace Go.Proofs.YtcnpdapampclpaaDoor.X
open Go.RowKit Go.Proofs.YtcnpdapampclpaaDoor.H Go.Proofs.YtcnpdapampclpaaDoorW.PrintWords Go.Proofs.YtcnpdapampclpaaDoorW.PrintLast Go.Proofs.YtcnpdapampclpaaDoorW.PrintMore Go.Proofs.YtcnpdapampclpaaDoor.PPl Go.Proofs.YtcnpdapampclpaaDoor.PPm Go.Proofs.YtcnpdapampclpaaDoor.PTp
set_option linter.unusedVariables false
set_option linter.unusedSimpArgs false
def revR.T3 : Bool × List (List Nat × List Nat) := (true, [([], []), ([], []), ([], []), ([], []), ([], []), ([], []), ([4, 5], [4, 5]), ([6], [6]), ([], []), ([], []), ([8, 9], [8, 9]), ([10], [10]), ([0, 1, 0, 1, 4, 5, 6, 7, 11], [0, 1]), ([12, 7, 0, 1, 4, 5, 6, 7, 11], [7, 12]), ([2, 3, 0, 1, 2, 3, 4, 5, 6, 7, 8, 9, 10, 11, 12, 13], [2, 3]), ([14, 11, 13, 0, 1, 2, 3, 4, 5, 6, 7, 8, 9, 10, 11, 12, 13], [11, 14])])
def revR.B3 : List Nat := [0, 0, 0, 0, 0, 0, 48, 112, 0, 0, 768, 1792, 4083, 8179, 16383, 32767]
theorem revR.tab3 : rtab .any (opsOf Tryd.f55 3) = revR.T3 := by kernel_rfl
theorem revR.bits3 : waitsOk revR.T3.2 revR.B3 = true := by kernel_rfl
/-- One element of a row of rows anew. -/
theorem N_put1 {w : World} {e base g n cap : Nat} {ok okp : Nat → Prop} {xs : List (List Int)} (h : Kd.N dB e w base ok (.slice (some ⟨g, 0, none⟩) n cap) xs) {i : Nat} (hi : i < n) {x' : List Int} {A : Option Addr} {c : Nat} (hl : x'.length ≤ c) (hF : Kd.F (Kd.int .u8) w okp A x'.length x') (hokp : ∀ k, okp k → ok k ∧ k ≠ g) :
    Kd.N dB e (w.setCell ⟨g, i, none⟩ (.slice A x'.length c)) base ok (.slice (some ⟨g, 0, none⟩) n cap) (xs.set i x') ∧ w.grownBy (w.setCell ⟨g, i, none⟩ (.slice A x'.length c)) (some g) := by
  have hM : Kd.FK dB w okp x' [.slice A x'.length c] := Kd.FK_slice_mk hl hF
  obtain ⟨cs, hcl, _, hcc, _⟩ := Kd.N_elem h [] (i : Int) (by omega) (by omega)
  obtain ⟨hown, rows, hlr, hR, hf⟩ := h
  have h1 := Kd.R_seg (Kd.raw_any hR) (i : Int) (by omega) (by omega) hcl hcc (j := 0) (seg := [.slice A x'.length c]) (by show 0 + 1 ≤ 1; omega) (x' := [.slice A x'.length c]) (okp := fun _ => False) (by
    have e : cs.take 0 ++ [Value.slice A x'.length c] ++ cs.drop (0 + [Value.slice A x'.length c].length) = [Value.slice A x'.length c] := by
      rw [List.drop_of_length_le (by rw [hcl]; exact Nat.le_refl 1)]; rfl
    rw [e]
    exact Kd.FK_raw hM) (fun _ h => h.elim)
  rw [Int.toNat_natCast, show i * (Kd.raw dB.sz).sz + 0 = i by show i * 1 + 0 = i; omega] at h1
  have e : w.setCells g i [Value.slice A x'.length c] = w.setCell ⟨g, i, none⟩ (.slice A x'.length c) := by rfl
  rw [e] at h1
  refine ⟨?_, h1.2⟩
  have := Kd.N_written (i := (i : Int)) hown hlr hf (by rw [Int.toNat_natCast]; exact h1.1) h1.2 hM hokp
  rw [Int.toNat_natCast] at this
  exact this
/-- A row whose first i and last i elements have changed places. -/
def Turned (i : Nat) (xs ys : List (List Int)) : Prop := ys.length = xs.length ∧ ∀ t, t < xs.length → ys.getD t [] = if t < i ∨ xs.length ≤ t + i then xs.getD (xs.length - 1 - t) [] else xs.getD t []
theorem Turned.zero (xs : List (List Int)) : Turned 0 xs xs := ⟨rfl, fun t ht => by rw [if_neg (by omega)]⟩
theorem getD_set_at {α : Type} (l : List α) (i t : Nat) (x d : α) (hi : i < l.length) : (l.set i x).getD t d = if t = i then x else l.getD t d := by
  by_cases h : t = i
  · subst h; rw [if_pos rfl, List.getD_eq_getElem?_getD, List.getElem?_set_self hi]; rfl
  · rw [if_neg h, List.getD_eq_getElem?_getD, List.getElem?_set_ne (fun e => h e.symm), ← List.getD_eq_getElem?_getD]
theorem Turned.next {i : Nat} {xs ys : List (List Int)} (h : Turned i xs ys) (hi : 2 * i + 1 < xs.length) : Turned (i + 1) xs ((ys.set i (ys.getD (xs.length - 1 - i) [])).set (xs.length - 1 - i) (ys.getD i [])) := by
  obtain ⟨hl, hg⟩ := h
  refine ⟨by rw [List.length_set, List.length_set, hl], fun t ht => ?_⟩
  rw [getD_set_at _ _ _ _ _ (by rw [List.length_set]; omega), getD_set_at _ _ _ _ _ (by omega)]
  by_cases h1 : t = xs.length - 1 - i
  · rw [if_pos h1, if_pos (by omega), hg i (by omega), if_neg (by omega)]
    congr 1; omega
  · rw [if_neg h1]
    by_cases h2 : t = i
    · rw [if_pos h2, if_pos (by omega), hg _ (by omega), if_neg (by omega), h2]
    · rw [if_neg h2, hg t ht]
      by_cases h3 : t < i ∨ xs.length ≤ t + i
      · rw [if_pos h3, if_pos (by omega)]
      · rw [if_neg h3, if_neg (by omega)]
theorem Turned.done {i : Nat} {xs ys : List (List Int)} (h : Turned i xs ys) (hi : xs.length ≤ 2 * i + 1) : ys = xs.reverse := by
  obtain ⟨hl, hg⟩ := h
  apply List.ext_getElem?
  intro t
  by_cases ht : t < xs.length
  · have h1 := hg t ht
    rw [List.getD_eq_getElem?_getD, List.getElem?_eq_getElem (by omega), Option.getD_some] at h1
    rw [List.getElem?_eq_getElem (by omega), h1, List.getElem?_reverse ht, List.getElem?_eq_getElem (by omega)]
    congr 1
    by_cases h2 : t < i ∨ xs.length ≤ t + i
    · rw [if_pos h2, List.getD_eq_getElem?_getD, List.getElem?_eq_getElem (by omega)]; rfl
    · rw [if_neg h2, List.getD_eq_getElem?_getD, List.getElem?_eq_getElem ht]
      have : t = xs.length - 1 - t := by omega
      simp only [Option.getD_some]
      congr 1
  · rw [List.getElem?_eq_none (by omega), List.getElem?_eq_none (by rw [List.length_reverse]; omega)]
set_option maxRecDepth 100000 in
set_option maxHeartbeats 8000000 in
theorem rev_c (base : Nat) (ok : Nat → Prop) (v : Value) (xs : List (List Int)) (w : World) (hN : Kd.N dB 23 w base ok v xs) (hx : xs.length ≤ 100000) (hbase : base ≤ w.heap.size) :
    Calls Tryd.prog 55 #[v] w fun e w' => e = .returned (.tuple #[]) ∧ Kd.N dB 23 w' base ok v xs.reverse ∧ Fr (fun k => some k = v.ownBlock) w w' := by
  obtain ⟨n, hn⟩ : ∃ n, n = xs.length := ⟨_, rfl⟩
  obtain ⟨A, c, hv⟩ := Kd.N_slice hN
  rw [← hn] at hv hx
  subst hv
  have H0 := Aside0.mk (And.intro hN hn)
  clear hN hn
  go_enter Tryd.func55, Tryd.ntmps55
  go_wp2
  go_loopg [2, 3] n (fun m v2 v3 wr => ∃ (i : Nat) (z : Int), m + i = n ∧ v2 = .int .i64 i ∧ v3 = .int .i64 z ∧ z = (n : Int) - 1 - i ∧ Aside0 (∃ ys, Turned i xs ys ∧ Kd.N dB 23 wr base ok (.slice A n c) ys ∧ Fr (fun k => some k = (Value.slice A n c).ownBlock) w wr))
  case atStart => exact ⟨0, _, by omega, rfl, rfl, by simp, ⟨_, Turned.zero xs, H0.out.1, Fr.refl _ _⟩⟩
  case round =>
    obtain ⟨i, z, hmi, rfl, rfl, hz, hys⟩ := hrel
    by_cases hiz : (i : Int) < z
    · obtain ⟨j, rfl⟩ : ∃ j : Nat, z = (j : Int) := ⟨z.toNat, by omega⟩
      obtain ⟨ys, hT, hN0, hF0⟩ := hys.out
      have hN := Kd.N_below hN0 (below_drew1 (Below.refl wr.heap.size wr))
      have hF := hF0.drew
      have hyl : ys.length = n := by rw [hT.1]; exact H0.out.2.symm
      obtain ⟨g, c', hv, hcl, hokg, hglt, hel⟩ := row_get hN (by omega)
      injection hv with hA hnn hc
      clear hnn
      subst hA
      obtain rfl : c = c' := hc
      obtain ⟨A1, c1, hx1, hl1, hF1⟩ := hel i (by omega)
      obtain ⟨A2, c2, hx2, hl2, hF2⟩ := hel j (by omega)
      obtain ⟨q1, hq1⟩ : ∃ q, q = (ys.getD i []).length := ⟨_, rfl⟩
      obtain ⟨q2, hq2⟩ : ∃ q, q = (ys.getD j []).length := ⟨_, rfl⟩
      rw [← hq1] at hx1
      rw [← hq2] at hx2
      obtain ⟨g2, c2', hv2, _, _, cells, hblk⟩ := Kd.N_form hN (by omega)
      injection hv2 with hA2 hnn hcc2
      clear hnn hcc2
      injection hA2 with hA2
      injection hA2 with hA2 _
      subst hA2
      have hfz1 := blk_frozen hblk i
      have hfz2 := blk_frozen (blk_set hblk i (.slice A2 q2 c2)) j
      have hjn : j = xs.length - 1 - i := by rw [← H0.out.2]; omega
      have h2i : 2 * i + 1 < xs.length := by rw [← H0.out.2]; omega
      have T9 := hT.next h2i
      rw [← hjn] at T9
      have HP1 := N_put1 hN (i := i) (by omega) hl2 hF2 (fun k hk => hk)
      rw [← hq2] at HP1
      have hF1' : Kd.F (Kd.int .u8) (wr.drew.setCell ⟨g, i, none⟩ (.slice A2 q2 c2)) (fun k => ok k ∧ k ≠ g) A1 (ys.getD i []).length (ys.getD i []) := Kd.F_far hF1 (fun k hk => hk.2) _
      have HP2 := N_put1 HP1.1 (i := j) (by omega) hl1 hF1' (fun k hk => hk)
      rw [← hq1] at HP2
      have H9 := Aside0.mk (And.intro T9 (And.intro HP1.2 (And.intro HP2 hF)))
      have hx1' := hx1
      have hx2' := hx2
      clear hT hN0 hF0 hN hF hel hcl hokg hglt hl1 hl2 hF1 hF2 hq1 hq2 T9 HP1 HP2 hF1' hblk hyl hys H0 hx1' hx2' h2i
      have b1 : (i : Int) ≤ 100000 := by omega
      have b2 : (j : Int) ≤ 100000 := by omega
      have b3 : (1 : Int) ≤ (j : Int) := by omega
      clear hx
      have p1 : (0 ≤ (i : Int)) = True := eq_true (by omega)
      have q1_ : ((i : Int) < (n : Int)) = True := eq_true (by omega)
      have p2 : (0 ≤ (j : Int)) = True := eq_true (by omega)
      have q2_ : ((j : Int) < (n : Int)) = True := eq_true (by omega)
      have Hz := Aside0.mk (And.intro hz hjn)
      clear hz hjn
      go_upto_region 3 with (fail)
      refine start_ (n := 16) (S := fun w' => w'.cell? ⟨g, i, none⟩ = some (.slice A1 q1 c1) ∧ w'.cell? ⟨g, j, none⟩ = some (.slice A2 q2 c2)) (ds := [13, 15]) (fl 16 0) (by kernel_rfl) rfl rfl ⟨hx1, hx2⟩ (fun hHeld => ?_)
      refine with_tabW revR.tab3 revR.bits3 (fun HT_ HW_ => ?_)
      generalize wr.drew = w2 at hHeld hfz1 hfz2 H9 hx1 hx2 ⊢
      refine pureA (i := 0) (N := some 14) (fl 16 1) (any_of HT_.out (by kernel_rfl)) ?_
      refine pureA (i := 1) (N := some 15) (fl 16 3) (any_of HT_.out (by kernel_rfl)) ?_
      refine pureA (i := 2) (N := some 16) (fl 16 7) (any_of HT_.out (by kernel_rfl)) ?_
      refine pureA (i := 3) (N := some 17) (fl 16 15) (any_of HT_.out (by kernel_rfl)) ?_
      refine pureA (i := 4) (N := some 18) (fl 16 31) (any_of HT_.out (by kernel_rfl)) ?_
      refine pureA (i := 5) (N := some 19) (fl 16 63) (any_of HT_.out (by kernel_rfl)) ?_
      refine pureA (i := 6) (N := some 20) (fl 16 127) (any_of HT_.out (by kernel_rfl)) ?_
      refine pureA (i := 8) (N := some 22) (fl 16 383) (any_of HT_.out (by kernel_rfl)) ?_
      refine pureA (i := 9) (N := some 23) (fl 16 895) (any_of HT_.out (by kernel_rfl)) ?_
      refine pureA (i := 10) (N := some 24) (fl 16 1919) (any_of HT_.out (by kernel_rfl)) ?_
      refine takeA (i := 7) (N := some 21) (fl 16 2047) (take_ofW HT_.out HW_.out (by kernel_rfl)) hHeld ?_
      refine takeA (i := 11) (N := some 25) (fl 16 4095) (take_ofW HT_.out HW_.out (by kernel_rfl)) hHeld ?_
      refine pureA (i := 12) (N := some 26) (fl 16 8191) (any_of HT_.out (by kernel_rfl)) ?_
      refine last_ (i := 13) (N := none) (fl 16 16383) rfl rfl (one_of HT_.out (by kernel_rfl)) (by decide) (fun K hK => ?_)
      refine skip_ (w1 := w2.setCell ⟨g, i, none⟩ (.slice A2 q2 c2)) (by rfl) rfl (by go_simp) ?_
      refine hK.out _ _ ?_
      clear hK K
      have hx3 : (w2.setCell ⟨g, i, none⟩ (.slice A2 q2 c2)).cell? ⟨g, j, none⟩ = some (.slice A2 q2 c2) := (World.cell?_setCell_other _ _ _ _ (by intro e; injection e with _ e; omega)).trans hx2
      refine pureA (i := 14) (N := some 27) (fl 16 32767) (any_of HT_.out (by kernel_rfl)) ?_
      refine last_ (i := 15) (N := none) (fl 16 65535) rfl rfl (one_of HT_.out (by kernel_rfl)) (by decide) (fun K hK => ?_)
      refine skip_ (w1 := (w2.setCell ⟨g, i, none⟩ (.slice A2 q2 c2)).setCell ⟨g, j, none⟩ (.slice A1 q1 c1)) (by rfl) rfl (by go_simp) ?_
      refine hK.out _ _ ?_
      clear hK K
      refine done_ (done_of HT_.out (by kernel_rfl)) ?_
      go_wp2
      go_roundg (gk - 1)
      case measure => have h_ := of_eq_true q1_; omega
      case rel => exact ⟨i + 1, (j : Int) - 1, by have h_ := of_eq_true q1_; omega, by simp, by first | rfl | simp, by have h_ := Hz.out.1; omega, ⟨_, H9.out.1, H9.out.2.2.1.1, (H9.out.2.2.2.setCell _ _ (.inl (by simp [Value.ownBlock]))).setCell _ _ (.inl (by simp [Value.ownBlock]))⟩⟩
    · have hiz' : ((i : Int) < z) = False := eq_false hiz
      obtain ⟨ys, hT, hN, hF⟩ := hys.out
      have hr := hT.done (by rw [← H0.out.2]; omega)
      rw [hr] at hN
      have H9 := Aside0.mk (And.intro hN hF)
      clear hN hF hT hr hys
      go_wp2
      go_end0
      exact ⟨rfl, H9.out.1, H9.out.2⟩
end Go.Proofs.YtcnpdapampclpaaDoor.X
set_option linter.unusedVariables false
namespace Go.Proofs.YtcnpdapampclpaaDoor.PPn
open Go.RowKit Go.Proofs.YtcnpdapampclpaaDoorW.PrintWords Go.Proofs.YtcnpdapampclpaaDoorW.PrintLast Go.Proofs.YtcnpdapampclpaaDoorW.PrintMore Go.Proofs.YtcnpdapampclpaaDoor.X Go.Proofs.YtcnpdapampclpaaDoor.H Go.Proofs.YtcnpdapampclpaaDoor.PPl Go.Proofs.YtcnpdapampclpaaDoor.PPm
/-- For each step from the top down to a place: whether it goes into the second half. -/
def pathL (n p : Nat) : List Bool :=
 if _h : n ≤ 1 then [] else decide (hf n ≤ p) :: (if hf n ≤ p then pathL (n - hf n) (p - hf n) else pathL (hf n) p)
termination_by n
decreasing_by
 ·have := hf_pos n; omega
 ·have := hf_lt (n := n) (by omega); omega
theorem pathL_one {n : Nat} (h : n ≤ 1) (p : Nat) : pathL n p = [] := by rw [pathL, dif_pos h]
theorem pathL_left {n p : Nat} (h : 2 ≤ n) (hp : p < hf n) : pathL n p = false :: pathL (hf n) p := by rw [pathL, dif_neg (by omega), decide_eq_false (by omega), if_neg (by omega)]
theorem pathL_right {n p : Nat} (h : 2 ≤ n) (hp : hf n ≤ p) : pathL n p = true :: pathL (n - hf n) (p - hf n) := by rw [pathL, dif_neg (by omega), decide_eq_true hp, if_pos hp]
/-- One step up. -/
def stepU (x : List Int) (b : Bool × List Int) : List Int := if b.1 = true then dig (17 :: (b.2 ++ x)) else dig (17 :: (x ++ b.2))
/-- The top that comes of a leaf, its way and a proof. -/
def climbL (way : List Bool) (proof : List (List Int)) (x : List Int) : List Int := (way.reverse.zip proof).foldl stepU x
theorem climbL_snoc (r : Bool) (way : List Bool) (proof : List (List Int)) (y x : List Int) (h : proof.length = way.length) : climbL (r :: way) (proof ++ [y]) x = stepU (climbL way proof x) (r, y) := by
 unfold climbL
 rw [List.reverse_cons, List.zip_append (by simp [h]), List.foldl_append]
 rfl
/-- The tops beside a place, the nearest first. -/
def walkL (l : List (List Int)) (p : Nat) : List (List Int) :=
 if _h : l.length ≤ 1 then [] else if hf l.length ≤ p then walkL (l.drop (hf l.length)) (p - hf l.length) ++ [topL (l.take (hf l.length))] else walkL (l.take (hf l.length)) p ++ [topL (l.drop (hf l.length))]
termination_by l.length
decreasing_by
 ·simp only [List.length_drop]; have := hf_pos l.length; omega
 ·simp only [List.length_take]; have := hf_lt (n := l.length) (by omega); omega
theorem walkL_one {l : List (List Int)} (h : l.length ≤ 1) (p : Nat) : walkL l p = [] := by rw [walkL, dif_pos h]
theorem walkL_left {l : List (List Int)} {p : Nat} (h : 2 ≤ l.length) (hp : p < hf l.length) : walkL l p = walkL (l.take (hf l.length)) p ++ [topL (l.drop (hf l.length))] := by rw [walkL, dif_neg (by omega), if_neg (by omega)]
theorem walkL_right {l : List (List Int)} {p : Nat} (h : 2 ≤ l.length) (hp : hf l.length ≤ p) : walkL l p = walkL (l.drop (hf l.length)) (p - hf l.length) ++ [topL (l.take (hf l.length))] := by rw [walkL, dif_neg (by omega), if_pos hp]
theorem walkL_length : ∀ (n : Nat) (l : List (List Int)) (p : Nat), l.length = n → (walkL l p).length = (pathL n p).length := by
 intro n
 induction n using Nat.strongRecOn with
 | _ n ih =>
  intro l p hl
  by_cases h : n ≤ 1
  ·rw [walkL_one (by omega), pathL_one h]; rfl
  ·have h3 := hf_pos n
   have h4 := hf_lt (n := n) (by omega)
   by_cases hp : p < hf n
   ·rw [walkL_left (by omega) (by rw [hl]; exact hp), pathL_left (by omega) hp, List.length_append, List.length_cons, hl, ih (hf n) h4 _ p (by rw [List.length_take]; omega)]; simp
   ·rw [walkL_right (by omega) (by rw [hl]; omega), pathL_right (by omega) (by omega), List.length_append, List.length_cons, hl, ih (n - hf n) (by omega) _ (p - hf n) (by rw [List.length_drop]; omega)]; simp
theorem walkL_32 : ∀ (n : Nat) (l : List (List Int)) (p : Nat), l.length = n → Lv l → Lv (walkL l p) := by
 intro n
 induction n using Nat.strongRecOn with
 | _ n ih =>
  intro l p hl hv
  by_cases h : n ≤ 1
  ·rw [walkL_one (by omega)]; intro x hx; cases hx
  ·have h3 := hf_pos n
   have h4 := hf_lt (n := n) (by omega)
   have t1 : (l.take (hf n)).length = hf n := by rw [List.length_take]; omega
   have t2 : (l.drop (hf n)).length = n - hf n := by rw [List.length_drop]; omega
   intro x hx
   by_cases hp : p < hf n
   ·rw [walkL_left (by omega) (by rw [hl]; exact hp), hl, List.mem_append, List.mem_singleton] at hx
    rcases hx with hx | rfl
    ·exact ih (hf n) h4 _ p t1 (hv.take _) x hx
    ·exact topL_32 (hv.drop _) (by omega)
   ·rw [walkL_right (by omega) (by rw [hl]; omega), hl, List.mem_append, List.mem_singleton] at hx
    rcases hx with hx | rfl
    ·exact ih (n - hf n) (by omega) _ _ t2 (hv.drop _) x hx
    ·exact topL_32 (hv.take _) (by omega)
/-- The proof that is made leads to the top. -/
theorem walkL_climb : ∀ (n : Nat) (l : List (List Int)) (p : Nat), l.length = n → p < n → climbL (pathL n p) (walkL l p) (l.getD p []) = topL l := by
 intro n
 induction n using Nat.strongRecOn with
 | _ n ih =>
  intro l p hl hp
  by_cases h : n ≤ 1
  ·rw [walkL_one (by omega), pathL_one h, topL_one (by omega), show p = 0 by omega]
   rfl
  ·have h3 := hf_pos n
   have h4 := hf_lt (n := n) (by omega)
   have t1 : (l.take (hf n)).length = hf n := by rw [List.length_take]; omega
   have t2 : (l.drop (hf n)).length = n - hf n := by rw [List.length_drop]; omega
   by_cases hq : p < hf n
   ·rw [walkL_left (by omega) (by rw [hl]; exact hq), pathL_left (by omega) hq, hl, climbL_snoc _ _ _ _ _ (walkL_length _ _ _ t1)]
    have e : l.getD p [] = (l.take (hf n)).getD p [] := by rw [List.getD_eq_getElem?_getD, List.getD_eq_getElem?_getD, List.getElem?_take, if_pos hq]
    rw [e, ih (hf n) h4 _ p t1 hq, topL_node (l := l) (by omega), hl]
    rfl
   ·rw [walkL_right (by omega) (by rw [hl]; omega), pathL_right (by omega) (by omega), hl, climbL_snoc _ _ _ _ _ (walkL_length _ _ _ t2)]
    have e : l.getD p [] = (l.drop (hf n)).getD (p - hf n) [] := by rw [List.getD_eq_getElem?_getD, List.getD_eq_getElem?_getD, List.getElem?_drop, show hf n + (p - hf n) = p by omega]
    rw [e, ih (n - hf n) (by omega) _ (p - hf n) t2 (by omega), topL_node (l := l) (by omega), hl]
    rfl
theorem getD_mem' {l : List (List Int)} {i : Nat} (h : i < l.length) : l.getD i [] ∈ l := by rw [List.getD_eq_getElem?_getD, List.getElem?_eq_getElem h]; exact List.getElem_mem _
end Go.Proofs.YtcnpdapampclpaaDoor.PPn
namespace Go.Proofs.YtcnpdapampclpaaDoor.X
open Go.RowKit Go.Proofs.YtcnpdapampclpaaDoor.H Go.Proofs.YtcnpdapampclpaaDoorW.PrintWords Go.Proofs.YtcnpdapampclpaaDoorW.PrintLast Go.Proofs.YtcnpdapampclpaaDoorW.PrintMore Go.Proofs.YtcnpdapampclpaaDoor.PPl Go.Proofs.YtcnpdapampclpaaDoor.PPm Go.Proofs.YtcnpdapampclpaaDoor.PPn Go.Proofs.YtcnpdapampclpaaDoor.PTp
set_option linter.unusedVariables false
set_option linter.unusedSimpArgs false
theorem seg_left (M : List (List Int)) (f n q : Nat) (hn : 2 ≤ n) (hM : f + n ≤ M.length) (hq : q < hf n) : walkL ((M.drop f).take n) q = walkL ((M.drop f).take (hf n)) q ++ [topL ((M.drop (f + hf n)).take (n - hf n))] := by
  have h3 := hf_lt hn
  have hl : ((M.drop f).take n).length = n := by rw [List.length_take, List.length_drop]; omega
  rw [walkL_left (l := (M.drop f).take n) (by omega) (by rw [hl]; exact hq), hl, List.take_take, Nat.min_eq_left (by omega), List.drop_take, List.drop_drop]
theorem seg_right (M : List (List Int)) (f n q : Nat) (hn : 2 ≤ n) (hM : f + n ≤ M.length) (hq : hf n ≤ q) : walkL ((M.drop f).take n) q = walkL ((M.drop (f + hf n)).take (n - hf n)) (q - hf n) ++ [topL ((M.drop f).take (hf n))] := by
  have h3 := hf_lt hn
  have hl : ((M.drop f).take n).length = n := by rw [List.length_take, List.length_drop]; omega
  rw [walkL_right (l := (M.drop f).take n) (by omega) (by rw [hl]; exact hq), hl, List.take_take, Nat.min_eq_left (by omega), List.drop_take, List.drop_drop]
/-- What the way's loop has gathered. -/
def WayAt (w : World) (M : List (List Int)) (n q f n' q' : Nat) (v : Value) (wr : World) : Prop :=
  ∃ acc, Valid f n' ∧ f + n' ≤ n ∧ q' < n' ∧ walkL (M.take n) q = walkL ((M.drop f).take n') q' ++ acc.reverse ∧ acc.length + n' ≤ n ∧ Kd.N dB 23 wr w.heap.size (fun k => w.heap.size ≤ k) v acc ∧ Below w.heap.size w wr
set_option maxRecDepth 100000 in
set_option maxHeartbeats 8000000 in
theorem way_c (base p : Nat) (vs : List Value) (M : List (List Int)) (w : World) (HG : Glb w) (T : TrailR base p M.length vs (levL M) w) (hv : Lv M) (hM : M.length ≤ 4096) (h1b : 1 < base) (n q : Nat) (hn : n ≤ M.length) (hq : q < n) :
    Calls Tryd.prog 27 #[.pointer (some ⟨p, 0, none⟩), .int .i64 n, .int .i64 q] w fun e w' => ∃ v, e = .returned (.tuple #[v, .int .i64 0]) ∧ Kd.N dB 23 w' w.heap.size (fun k => w.heap.size ≤ k) v (walkL (M.take n) q) ∧ Below w.heap.size w w' := by
  have H0 := Aside0.mk (And.intro HG (And.intro T (And.intro hv hM)))
  clear HG T hv
  have hnI : (n : Int) ≤ 4096 := by omega
  have hqI : (q : Int) < n := by omega
  go_enter Tryd.func27, Tryd.ntmps27
  go_wp2_with (first
    | (go_at_call 46; refine (within_ok _ H0.out.2.1 (by omega) (by omega)).mono ?_; rintro e w1 ⟨rfl, hB1⟩))
  have hd1 : decide (n ≤ q) = false := decide_eq_false (by omega)
  have hd2 : decide ((q : Int) < 0) = false := decide_eq_false (by omega)
  simp only [hd1, hd2, Bool.or_self]
  clear hd1 hd2
  go_loopg [1, 2, 9, 10, 11] n (fun m v1 v2 v9 v10 v11 wr => ∃ (n' q' f : Nat) (v u : Value), n' ≤ m + 0 ∧ v1 = .int .i64 n' ∧ v2 = .int .i64 q' ∧ v = v9 ∧ v10 = .int .i64 f ∧ u = v11 ∧ n' ≤ n ∧ Aside0 (WayAt w M n q f n' q' v wr))
  case atStart => exact ⟨n, q, 0, _, _, by omega, rfl, rfl, rfl, by simp, rfl, by omega, ⟨[], Valid.zero n, by omega, hq, by rw [List.drop_zero, List.reverse_nil, List.append_nil], by simp, Kd.N_nil _ _ _ _ _, hB1⟩⟩
  case round =>
    obtain ⟨n', q', f, v, u, hm, rfl, rfl, rfl, rfl, rfl, hn', hW⟩ := hrel
    obtain ⟨acc, hV, hfn, hqn, hwalk, hlen, hN, hB⟩ := hW.out
    by_cases h1 : n' ≤ 1
    · have hnI' : ((1 : Int) < (n' : Int)) = False := eq_false (by omega)
      have hfin : walkL (M.take n) q = acc.reverse := by
        rw [hwalk, walkL_one (by rw [List.length_take, List.length_drop]; omega), List.nil_append]
      have H9 := Aside0.mk (And.intro hfin (And.intro hN (And.intro hB hlen)))
      clear hV hfn hwalk hlen hN hB hW hfin hqn
      go_wp2_with (first
        | (go_at_call 55; (with_reducible refine (rev_c w.heap.size (fun k => w.heap.size ≤ k) v acc _ H9.out.2.1 ?sx ?sb).mono ?_; (case sx => have := H9.out.2.2.2; omega); (case sb => exact H9.out.2.2.1.size); rintro e w9 ⟨rfl, hN9, hF9⟩; have R9 := Aside0.mk (And.intro hN9 hF9); clear hN9 hF9)))
      go_ret2
      exact ⟨v, rfl, by rw [H9.out.1]; exact R9.out.1, Fr.below H9.out.2.2.1 H9.out.2.2.1.size (fun i hi => Kd.N_base H9.out.2.1 i hi.symm) R9.out.2⟩
    · have hn2 : 2 ≤ n' := by omega
      have hnI' : ((1 : Int) < (n' : Int)) = True := eq_true (by omega)
      have hlt := hf_lt hn2
      have hpos := hf_pos n'
      have hhalf := half_eq n' hn2 (by omega)
      have hml : f + n' ≤ M.length := by omega
      have hT := H0.out.2.1.below hB
      obtain ⟨h, hh⟩ : ∃ h, h = hf n' := ⟨_, rfl⟩
      have hI1 : (h : Int) < (n' : Int) := by omega
      have hI2 : (1 : Int) ≤ (h : Int) := by omega
      have hI3 : (f : Int) + (n' : Int) ≤ 4096 := by omega
      have hI4 : (n' : Int) ≤ 4096 := by omega
      have hI5 : (q' : Int) < (n' : Int) := by omega
      by_cases hq' : q' < h
      · have hqI : ((q' : Int) < (h : Int)) = True := eq_true (by omega)
        have hseg := seg_left M f n' q' hn2 hml (by rw [← hh]; exact hq')
        have hpart : ∀ w1, Below w.heap.size w w1 → Calls Tryd.prog 48 #[.pointer (some ⟨p, 0, none⟩), .int .i64 ((f : Int) + (h : Int)), .int .i64 ((n' : Int) - (h : Int))] w1 fun e w' => ∃ A c, e = .returned (.slice A 32 c) ∧ 32 ≤ c ∧ Kd.C (Kd.int .u8) w' A 32 (topL ((M.drop (f + h)).take (n' - h))) ∧ Below w1.heap.size w1 w' := fun w1 hb => by
          rw [show (f : Int) + (h : Int) = ((f + h : Nat) : Int) by omega, show (n' : Int) - (h : Int) = ((n' - h : Nat) : Int) by omega]
          exact part_c base p vs M H0.out.2.2.1 hM h1b (n' - h) (f + h) w1 (H0.out.1.of hb) (H0.out.2.1.below hb) (by omega) (by omega) (by rw [hh]; exact hV.right hn2)
        have ht := topL_32 ((H0.out.2.2.1.drop (f + h)).take (n' - h)) (by rw [List.length_take, List.length_drop]; omega)
        obtain ⟨t, e1⟩ : ∃ t, t = topL ((M.drop (f + h)).take (n' - h)) := ⟨_, rfl⟩
        rw [← hh] at hseg hhalf
        rw [← e1] at hpart ht hseg
        have hVl := hV.left hn2
        rw [← hh] at hVl
        have H9 := Aside0.mk (And.intro hpart (And.intro ht (And.intro hhalf (And.intro hseg (And.intro hN (And.intro hB (And.intro hwalk (And.intro hVl (And.intro hlen hfn)))))))))
        clear hpart ht hhalf hseg hN hB hwalk hV hVl hlen hfn e1 hT hh hW hml hlt hpos
        go_wp2_with (first
          | (go_at_call 54; with_reducible refine (trail_half.calls (n' : Int) h _ H9.out.2.2.1).mono ?_; rintro e w1 ⟨rfl, hB1⟩)
          | (go_at_call 48; with_reducible refine (H9.out.1 _ (below_step H9.out.2.2.2.2.2.1 hB1)).mono ?_; rintro e w2 ⟨A2, c2, rfl, hc2, hC2, hB2⟩)
          | (go_at_call 47; have h32 := H9.out.2.1.1; have hc3 := clone_c A2 c2 t w2 (by rw [h32]; exact hC2) (by omega); rw [h32] at hc3; with_reducible refine hc3.mono ?_; rintro e w3 ⟨v3, rfl, hR3, hB3⟩; obtain ⟨A3, c3, rfl, hc4, -⟩ := Kd.R_reads hR3; have hB13 := below_step (below_step hB1 hB2) hB3; have hp3 := Kd.FK_slice_mk (e := 5) hc4 (Kd.F_mono (ok' := fun k => w2.heap.size ≤ k) (Kd.R_F hR3) (fun k hk => hk)); rw [h32] at hp3 ⊢; have P3 := Aside0.mk (And.intro hp3 hB13); clear hp3 hB13 hR3 hc3 hc4 h32 hC2)
          | ((with_reducible refine gate_builtin (b := .append) (xs := #[.tmp 32, .tmp 42]) rfl ?_); at_builtin; refine Kd.N_append dB (w0 := w) w.heap.size rfl (.tmp 32) (.tmp 42) 22 23 (.slice none 0 0) 24 rfl Tryd.underlying22 info_row rfl (by decide) (by decide) v acc t [.slice A3 32 c3] (fun k => w.heap.size ≤ k) (fun k => w2.heap.size ≤ k) rfl rfl P3.out.1 (fun k hk => ⟨Nat.le_trans H9.out.2.2.2.2.2.1.size (Nat.le_trans (below_step hB1 hB2).size hk), fun e => by have h_ := Kd.N_lt H9.out.2.2.2.2.1 k e.symm; have := (below_step hB1 hB2).size; omega⟩) (fun k hk => Nat.le_trans (below_step H9.out.2.2.2.2.2.1 P3.out.2).size hk) (Kd.N_below H9.out.2.2.2.2.1 P3.out.2) (below_step H9.out.2.2.2.2.2.1 P3.out.2) (below_step H9.out.2.2.2.2.2.1 P3.out.2).size (by have h_ := H9.out.2.2.2.2.2.2.2.2.1; omega) ?_; intro v4 w4 hN4 hB4 hg4 hat4; have P4 := Aside0.mk (And.intro hN4 hB4); clear hN4 hB4 hg4 hat4))
        go_roundg (gk - 1)
        case measure => omega
        case rel => exact ⟨h, q', f, v4, _, by omega, rfl, rfl, rfl, rfl, rfl, by omega, ⟨acc ++ [t], H9.out.2.2.2.2.2.2.2.1, by have h_ := H9.out.2.2.2.2.2.2.2.2.2; omega, hq', by rw [H9.out.2.2.2.2.2.2.1, H9.out.2.2.2.1, List.reverse_append, List.append_assoc]; rfl, by rw [List.length_append, List.length_singleton]; have h_ := H9.out.2.2.2.2.2.2.2.2.1; omega, P4.out.1, P4.out.2⟩⟩
      · have hqI : ((q' : Int) < (h : Int)) = False := eq_false (by omega)
        have hqI2 : (h : Int) ≤ (q' : Int) := by omega
        have hseg := seg_right M f n' q' hn2 hml (by rw [← hh]; omega)
        have hpart : ∀ w1, Below w.heap.size w w1 → Calls Tryd.prog 48 #[.pointer (some ⟨p, 0, none⟩), .int .i64 f, .int .i64 h] w1 fun e w' => ∃ A c, e = .returned (.slice A 32 c) ∧ 32 ≤ c ∧ Kd.C (Kd.int .u8) w' A 32 (topL ((M.drop f).take h)) ∧ Below w1.heap.size w1 w' := fun w1 hb =>
          part_c base p vs M H0.out.2.2.1 hM h1b h f w1 (H0.out.1.of hb) (H0.out.2.1.below hb) (by omega) (by omega) (by rw [hh]; exact hV.left hn2)
        have ht := topL_32 ((H0.out.2.2.1.drop f).take h) (by rw [List.length_take, List.length_drop]; omega)
        obtain ⟨t, e1⟩ : ∃ t, t = topL ((M.drop f).take h) := ⟨_, rfl⟩
        rw [← hh] at hseg hhalf
        rw [← e1] at hpart ht hseg
        have hVl := hV.right hn2
        rw [← hh] at hVl
        have H9 := Aside0.mk (And.intro hpart (And.intro ht (And.intro hhalf (And.intro hseg (And.intro hN (And.intro hB (And.intro hwalk (And.intro hVl (And.intro hlen hfn)))))))))
        clear hpart ht hhalf hseg hN hB hwalk hV hVl hlen hfn e1 hT hh hW hml hlt hpos
        go_wp2_with (first
          | (go_at_call 54; with_reducible refine (trail_half.calls (n' : Int) h _ H9.out.2.2.1).mono ?_; rintro e w1 ⟨rfl, hB1⟩)
          | (go_at_call 48; with_reducible refine (H9.out.1 _ (below_step H9.out.2.2.2.2.2.1 hB1)).mono ?_; rintro e w2 ⟨A2, c2, rfl, hc2, hC2, hB2⟩)
          | (go_at_call 47; have h32 := H9.out.2.1.1; have hc3 := clone_c A2 c2 t w2 (by rw [h32]; exact hC2) (by omega); rw [h32] at hc3; with_reducible refine hc3.mono ?_; rintro e w3 ⟨v3, rfl, hR3, hB3⟩; obtain ⟨A3, c3, rfl, hc4, -⟩ := Kd.R_reads hR3; have hB13 := below_step (below_step hB1 hB2) hB3; have hp3 := Kd.FK_slice_mk (e := 5) hc4 (Kd.F_mono (ok' := fun k => w2.heap.size ≤ k) (Kd.R_F hR3) (fun k hk => hk)); rw [h32] at hp3 ⊢; have P3 := Aside0.mk (And.intro hp3 hB13); clear hp3 hB13 hR3 hc3 hc4 h32 hC2)
          | ((with_reducible refine gate_builtin (b := .append) (xs := #[.tmp 45, .tmp 51]) rfl ?_); at_builtin; refine Kd.N_append dB (w0 := w) w.heap.size rfl (.tmp 45) (.tmp 51) 22 23 (.slice none 0 0) 24 rfl Tryd.underlying22 info_row rfl (by decide) (by decide) v acc t [.slice A3 32 c3] (fun k => w.heap.size ≤ k) (fun k => w2.heap.size ≤ k) rfl rfl P3.out.1 (fun k hk => ⟨Nat.le_trans H9.out.2.2.2.2.2.1.size (Nat.le_trans (below_step hB1 hB2).size hk), fun e => by have h_ := Kd.N_lt H9.out.2.2.2.2.1 k e.symm; have := (below_step hB1 hB2).size; omega⟩) (fun k hk => Nat.le_trans (below_step H9.out.2.2.2.2.2.1 P3.out.2).size hk) (Kd.N_below H9.out.2.2.2.2.1 P3.out.2) (below_step H9.out.2.2.2.2.2.1 P3.out.2) (below_step H9.out.2.2.2.2.2.1 P3.out.2).size (by have h_ := H9.out.2.2.2.2.2.2.2.2.1; omega) ?_; intro v4 w4 hN4 hB4 hg4 hat4; have P4 := Aside0.mk (And.intro hN4 hB4); clear hN4 hB4 hg4 hat4))
        go_roundg (gk - 1)
        case measure => omega
        case rel => exact ⟨n' - h, q' - h, f + h, v4, _, by omega, by congr 1; omega, by congr 1; omega, rfl, by congr 1, rfl, by omega, ⟨acc ++ [t], H9.out.2.2.2.2.2.2.2.1, by have h_ := H9.out.2.2.2.2.2.2.2.2.2; omega, by omega, by rw [H9.out.2.2.2.2.2.2.1, H9.out.2.2.2.1, List.reverse_append, List.append_assoc]; rfl, by rw [List.length_append, List.length_singleton]; have h_ := H9.out.2.2.2.2.2.2.2.2.1; omega, P4.out.1, P4.out.2⟩⟩
theorem way_err (base p : Nat) (vs : List Value) (M : List (List Int)) (w : World) (T : TrailR base p M.length vs (levL M) w) (n q : Int) (h : n < 1 ∨ (M.length : Int) < n) :
    Calls Tryd.prog 27 #[.pointer (some ⟨p, 0, none⟩), .int .i64 n, .int .i64 q] w fun e w' => e = .returned (.tuple #[.slice none 0 0, .int .i64 1]) ∧ Below w.heap.size w w' := by
  have H0 := Aside0.mk (And.intro T h)
  clear T h
  go_enter Tryd.func27, Tryd.ntmps27
  go_wp2_with (first
    | (go_at_call 46; refine (within_err _ H0.out.1 H0.out.2).mono ?_; rintro e w1 ⟨rfl, hB1⟩))
  go_ret2
  exact ⟨rfl, hB1⟩
theorem way_err2 (base p : Nat) (vs : List Value) (M : List (List Int)) (w : World) (T : TrailR base p M.length vs (levL M) w) (n q : Int) (h1 : 1 ≤ n) (h2 : n ≤ M.length) (h : q < 0 ∨ n ≤ q) :
    Calls Tryd.prog 27 #[.pointer (some ⟨p, 0, none⟩), .int .i64 n, .int .i64 q] w fun e w' => e = .returned (.tuple #[.slice none 0 0, .int .i64 1]) ∧ Below w.heap.size w w' := by
  have H0 := Aside0.mk (And.intro T (And.intro h1 h2))
  clear T h1 h2
  by_cases hq : q < 0
  · clear h
    go_enter Tryd.func27, Tryd.ntmps27
    go_wp2_with (first
      | (go_at_call 46; refine (within_ok _ H0.out.1 H0.out.2.1 H0.out.2.2).mono ?_; rintro e w1 ⟨rfl, hB1⟩))
    go_ret2
    exact ⟨rfl, hB1⟩
  · have hq2 : n ≤ q := by omega
    clear h
    go_enter Tryd.func27, Tryd.ntmps27
    go_wp2_with (first
      | (go_at_call 46; refine (within_ok _ H0.out.1 H0.out.2.1 H0.out.2.2).mono ?_; rintro e w1 ⟨rfl, hB1⟩))
    go_ret2
    exact ⟨rfl, hB1⟩
end Go.Proofs.YtcnpdapampclpaaDoor.X
namespace Go.Proofs.YtcnpdapampclpaaDoor.X
open Go.RowKit Go.Proofs.YtcnpdapampclpaaDoor.H Go.Proofs.YtcnpdapampclpaaDoorW.PrintWords Go.Proofs.YtcnpdapampclpaaDoorW.PrintLast Go.Proofs.YtcnpdapampclpaaDoorW.PrintMore Go.Proofs.YtcnpdapampclpaaDoor.PPl Go.Proofs.YtcnpdapampclpaaDoor.PTp
set_option linter.unusedVariables false
set_option linter.unusedSimpArgs false
section
variable {S : Nat → Prop} {w w1 : World} {base e : Nat} {ok : Nat → Prop} {v : Value}
theorem R_fr {xs : List Int} (h : Kd.R (Kd.int .u8) e w base ok v xs) (hf : Fr S w w1) (hS : ∀ k, base ≤ k → k < w.heap.size → ¬ S k) : Kd.R (Kd.int .u8) e w1 base ok v xs := by
  have h1 := Kd.R_tight rfl h
  refine Kd.R_mono (Kd.R_step h1 (fun k hk hlt => hf.block k hlt (hS k (Kd.R_base h k hk.symm) hlt))) (fun k hk => h.1 k hk.symm)
theorem N_fr {xs : List (List Int)} (h : Kd.N dB e w base ok v xs) (hf : Fr S w w1) (hS : ∀ k, ok k → k < w.heap.size → ¬ S k) : Kd.N dB e w1 base ok v xs := Kd.N_step h (fun k hk hlt => hf.block k hlt (hS k hk hlt))
/-- A row of bytes, as it is read. -/
def IsB (w : World) (v : Value) (a : List Int) : Prop := ∃ A c, v = .slice A a.length c ∧ a.length ≤ c ∧ Kd.C (Kd.int .u8) w A a.length a
/-- A row of rows, as it is read. -/
def IsN (w : World) (v : Value) (l : List (List Int)) : Prop := ∃ A c, v = .slice A l.length c ∧ l.length ≤ c ∧ Kd.C dB w A l.length l
theorem IsB.below {a : List Int} (h : IsB w v a) (hb : Below w.heap.size w w1) : IsB w1 v a := by
  obtain ⟨A, c, h1, h2, h3⟩ := h
  exact ⟨A, c, h1, h2, Kd.C_below h3 hb⟩
theorem IsN.below {l : List (List Int)} (h : IsN w v l) (hb : Below w.heap.size w w1) : IsN w1 v l := by
  obtain ⟨A, c, h1, h2, h3⟩ := h
  exact ⟨A, c, h1, h2, Kd.C_below h3 hb⟩
theorem IsB.of_R {a : List Int} (h : Kd.R (Kd.int .u8) e w base ok v a) : IsB w v a := Kd.R_reads h
theorem IsN.of_N {l : List (List Int)} (h : Kd.N dB e w base ok v l) : IsN w v l := Kd.N_reads h
theorem IsB.nil : IsB w (.slice none 0 0) [] := ⟨none, 0, rfl, Nat.le_refl _, Kd.C_nil _ _⟩
theorem IsN.nil : IsN w (.slice none 0 0) [] := ⟨none, 0, rfl, Nat.le_refl _, Kd.C_nil _ _⟩
end
/-- The marks of entries. -/
def marks (l : List (List Int)) : List (List Int) := l.map fun x => dig (16 :: x)
theorem marks_length (l : List (List Int)) : (marks l).length = l.length := List.length_map _
theorem marks_lv (l : List (List Int)) : Lv (marks l) := fun x hx => by
  obtain ⟨y, _, rfl⟩ := List.mem_map.1 hx
  exact ⟨dig_length _, dig_bytes _⟩
theorem marks_next (l : List (List Int)) (i : Nat) (hi : i < l.length) : marks (l.take (i + 1)) = marks (l.take i) ++ [dig (16 :: l.getD i [])] := by
  unfold marks
  rw [take_next l [] i hi, List.map_append]
  rfl
theorem levL_nil (k : Nat) : levL [] k = [] := by unfold levL; simp
theorem Lv.nil : Lv [] := fun x hx => by cases hx
set_option maxRecDepth 100000 in
set_option maxHeartbeats 8000000 in
theorem row_c (A : Option Addr) (c : Nat) (l : List (List Int)) (w : World) (HG : Glb w) (hC : Kd.C dB w A l.length l) (hb : ∀ x ∈ l, (∀ y ∈ x, 0 ≤ y ∧ y < 256) ∧ x.length ≤ 8192) (hl : l.length ≤ 4096) :
    Calls Tryd.prog 15 #[.slice A l.length c] w fun e w' => ∃ vs, e = .returned (.pointer (some ⟨w.heap.size, 0, none⟩)) ∧ TrailR w.heap.size w.heap.size (marks l).length vs (levL (marks l)) w' ∧ Below w.heap.size w w' := by
  have H0 := Aside0.mk (And.intro HG (And.intro hC hb))
  clear HG hC hb
  go_enter Tryd.func15, Tryd.ntmps15
  go_wp2_with (first
    | (go_at_call 24; with_reducible refine (new_c w).mono ?_; rintro e w1 ⟨rfl, hT1, hB1⟩; have T1 := Aside0.mk (And.intro (hT1.congrL (L' := levL []) (fun k _ => (levL_nil k).symm)) hB1); clear hT1 hB1))
  go_loopg [4] l.length (fun m v4 wr => ∃ (i : Nat) (vs : List Value), m + i = l.length ∧ v4 = .int .i64 i ∧ Aside0 (TrailR w.heap.size w.heap.size (marks (l.take i)).length vs (levL (marks (l.take i))) wr ∧ Below w.heap.size w wr))
  case atStart => exact ⟨0, vs0, by omega, rfl, T1⟩
  case round =>
    obtain ⟨i, vs, hmi, rfl, P⟩ := hrel
    clear T1
    by_cases hi : i < l.length
    · have hiI : (i : Int) < l.length := by omega
      obtain ⟨ad, A1, c1, rfl, hcell0, hlc, hC1⟩ := elem_at H0.out.2.1 hi
      have hcell := (P.out.2.cell (World.block_lt_of_cell? w _ hcell0)).trans hcell0
      have hbb := H0.out.2.2 (l.getD i []) (by rw [List.getD_eq_getElem?_getD, List.getElem?_eq_getElem hi]; exact List.getElem_mem hi)
      have hnext := marks_next l i hi
      have hml : (marks (l.take i)).length = i := by rw [marks_length, List.length_take]; omega
      have hlv := marks_lv (l.take i)
      have hadd := add_ok w.heap.size w.heap.size vs (marks (l.take i)) A1 c1 (l.getD i []) wr (H0.out.1.of P.out.2) P.out.1 hlv (by omega) (Kd.C_below hC1 P.out.2) hlc hbb.1 hbb.2 (by have := H0.out.1.g0; have := H0.out.1.g1; omega)
      rw [← hnext] at hadd
      obtain ⟨b, hb⟩ : ∃ b, b = (l.getD i []).length := ⟨_, rfl⟩
      rw [← hb] at hadd hcell
      have Q := Aside0.mk (And.intro hadd P)
      clear hadd hbb hnext hml hlv hcell0 hC1 hb P hlc
      go_wp2_with (first
        | (go_at_call 25; with_reducible refine Q.out.1.mono ?_; rintro e w2 ⟨rfl, vs2, hT2, hF2, hO2⟩; have P2 := Aside0.mk (And.intro hT2 (Fr.below Q.out.2.out.2 Q.out.2.out.2.size (fun k hk => Q.out.2.out.1.ownT_base hk) hF2)); clear hT2 hF2 hO2))
      go_roundg (gk - 1)
      all_goals first
        | omega
        | exact ⟨i + 1, vs2, by omega, rfl, P2⟩
    · have hiI : ¬ (i : Int) < l.length := by omega
      obtain rfl : i = l.length := by omega
      go_wp2
      go_ret
      have h := P.out
      rw [List.take_length] at h
      exact ⟨rfl, ⟨vs, h.1⟩, h.2⟩
end Go.Proofs.YtcnpdapampclpaaDoor.X
namespace Go.Proofs.YtcnpdapampclpaaDoor.X
open Go.RowKit Go.Proofs.YtcnpdapampclpaaDoor.H Go.Proofs.YtcnpdapampclpaaDoorW.PrintWords Go.Proofs.YtcnpdapampclpaaDoorW.PrintLast Go.Proofs.YtcnpdapampclpaaDoorW.PrintMore Go.Proofs.YtcnpdapampclpaaDoor.PPl Go.Proofs.YtcnpdapampclpaaDoor.PTp
set_option linter.unusedVariables false
set_option linter.unusedSimpArgs false
/-- append(v, ys...): ys is a row whose own block is none of what its elements lead to. -/
theorem N_append_N {P : Program} {ops : Array Oper} {rest : List Oper} {o : Oper} {a : Act} {Q : Exit → Act → World → Prop} {α : Type} (d : Kd α) {w0 W : World} (base : Nat) (hgd : o.guard = none) (s x : Operand) (t e : TypeId) (z : Value) (bytes : Nat)
    (ho : o.op = .call { callee := .builtin .append, args := #[s, x], argTypes := #[t, t] })
    (ht : P.underlying t = some (.slice e)) (hinfo : (P.info? e).map (fun i => (i.zero, i.size, i.bytes)) = some (some z, d.sz, bytes)) (hz : z.cells.size = d.sz) (hs0 : 0 < d.sz) (hb0 : 0 < bytes)
    (v : Value) (xs ys : List α) (A : Option Addr) (m c : Nat) (ok oky : Nat → Prop) {e2 base2 : Nat} (hs : a.eval s = v) (hx : a.eval x = .slice A m c)
    (HO : Kd.N d e W base ok v xs) (HR : Kd.N d e2 W base2 oky (.slice A m c) ys) (hokp : ∀ k, oky k → some k ≠ (Value.slice A m c).ownBlock → ok k ∧ some k ≠ v.ownBlock) (hfresh : ∀ k, W.heap.size ≤ k → ok k)
    (HB : Below base w0 W) (hbase : base ≤ W.heap.size) (hl : (xs.length + m) * bytes ≤ 140737488355328)
    (h : ∀ v1 w1, Kd.N d e w1 base ok v1 (xs ++ ys) → Below base w0 w1 → W.grownBy w1 v.ownBlock → (v1.ownBlock = v.ownBlock ∨ ∃ b, v1.ownBlock = some b ∧ W.heap.size ≤ b) → wpList P ops Q rest (a.put o.dst v1) w1) :
    wpList P ops Q (o :: rest) a W := by
  obtain ⟨h0, rows, hlr, hR, hf⟩ := HO
  obtain ⟨_, news, hnl, hnR, hnf⟩ := HR
  have hC := Kd.R_reads' hnR
  refine Kd.R_append_rows (Kd.raw d.sz) base hgd s x t e z bytes ho ht hinfo hz hs0 hb0 v rows news A m c (fun _ => True) (fun _ => False) hs hx (Kd.raw_any hR) (by rw [hC.1]; exact hC.2.2) (fun _ _ hk => hk) (fun _ hk => hk.elim) (fun _ _ => trivial) HB hbase (by rw [hlr]; exact hl) ?_
  intro v1 w1 hr hb hg hat
  exact h v1 w1 (Kd.N_appended h0 hlr hf hnl hnf (fun k hk => hokp k hk.1 hk.2) hfresh hr hg hat) hb hg hat
set_option maxRecDepth 100000 in
set_option maxHeartbeats 4000000 in
theorem clone2_c (v : Value) (xs : List (List Int)) (w : World) (base : Nat) (ok okn : Nat → Prop) (hN : Kd.N dB 23 w base ok v xs) (hl : xs.length ≤ 1000000) (hfr : ∀ k, w.heap.size ≤ k → okn k) (hel : ∀ k, ok k → some k ≠ v.ownBlock → k < w.heap.size → okn k) :
    Calls Tryd.prog 57 #[v] w fun e w' => ∃ v1, e = .returned v1 ∧ Kd.N dB 23 w' w.heap.size okn v1 xs ∧ Below w.heap.size w w' := by
  have qT : ∀ (w : World) (a : Option Addr) (n c n' c' : Nat), (binOp .eql 22 (.slice a n c) (.slice none n' c')).run Tryd.prog w = .ok (.bool a.isNone) w := fun w a n c n' c' => Lib.run_eql_slice_nil w _ _ a n c n' c' Tryd.underlying22
  obtain ⟨A, c, rfl⟩ := Kd.N_slice hN
  have hN := Kd.N_bound hN
  rcases A with _ | ad
  · have h0 : xs.length = 0 := by
      have h := (Kd.N_reads' hN).2.2
      rcases Nat.eq_zero_or_pos xs.length with h' | h'
      · exact h'
      · obtain ⟨ad, he, _⟩ := h.2.2 h'
        cases he
    obtain rfl := List.length_eq_zero_iff.1 h0
    clear hN h0
    go_enter Tryd.func57, Tryd.ntmps57
    go_wp2
    go_ret
    exact ⟨_, rfl, Kd.N_nil _ _ _ _ _, Below.refl _ _⟩
  · obtain ⟨n, hn⟩ : ∃ n, n = xs.length := ⟨_, rfl⟩
    rw [← hn] at hN hl hel ⊢
    have HC := Aside0.mk (And.intro hN (And.intro hfr hel))
    clear hN hn hfr hel
    go_enter Tryd.func57, Tryd.ntmps57
    go_wp2_with (first
      | ((with_reducible refine gate_dst (N := 5) rfl ?_); refine Kd.N_lit (w0 := w) dB w.heap.size 23 ?hg (N' := 5) ?hd (xs := ([] : List (List Int))) (inner := []) (ok := okn) (okp := fun _ => False) ?hr (Reps.none _ _) (fun _ hk => hk.elim) (HC.out.2.1 _ (Nat.le_refl _)) (Below.refl _ _) (Nat.le_refl _) (by decide) ?_; (case hd => rfl); (case hg => rfl); (case hr => first | (go_simp; done) | (go_simp; rfl)); intro v1 w1 ho1 hb1 hg1 hn1)
      | ((with_reducible refine gate_builtin (b := .append) (xs := #[.tmp 5, .tmp 6]) rfl ?_); at_builtin; refine N_append_N dB (w0 := w) w.heap.size rfl (.tmp 5) (.tmp 6) 22 23 (.slice none 0 0) 24 rfl Tryd.underlying22 info_row rfl (by decide) (by decide) v1 ([] : List (List Int)) xs (some ad) n c okn (fun k => ok k ∧ k < w.heap.size) rfl rfl ho1 (Kd.N_below HC.out.1 hb1) (fun k hk hne => ⟨HC.out.2.2 k hk.1 hne hk.2, fun e => by have := Kd.N_base ho1 k e.symm; omega⟩) (fun k hk => HC.out.2.1 k (Nat.le_trans hb1.size hk)) hb1 hb1.size (by show (0 + n) * 24 ≤ _; omega) ?_; intro v2 w2 ho2 hb2 hg2 hat2))
    go_ret
    exact ⟨_, rfl, ho2, hb2⟩
end Go.Proofs.YtcnpdapampclpaaDoor.X
