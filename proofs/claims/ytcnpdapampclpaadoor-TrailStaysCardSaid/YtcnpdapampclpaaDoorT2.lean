/- Add. -/
import Derived.Test.YtcnpdapampclpaaDoorT1
import Derived.Test.YtcnpdapampclpaaDoorP0
import Derived.Test.YtcnpdapampclpaaDoorPTpx1
import Derived.Laws.EntriesVeiled
namespace Go.Proofs.YtcnpdapampclpaaDoor.X
open Go.RowKit Go.Proofs.YtcnpdapampclpaaDoor.H Go.Proofs.YtcnpdapampclpaaDoorW.PrintWords Go.Proofs.YtcnpdapampclpaaDoorW.PrintLast Go.Proofs.YtcnpdapampclpaaDoorW.PrintMore Go.Proofs.YtcnpdapampclpaaDoor.PPl Go.Proofs.YtcnpdapampclpaaDoor.PTp
set_option linter.unusedVariables false
set_option linter.unusedSimpArgs false
/-- Rows that lie in a new block. -/
theorem row_C (w : World) (cs : List Value) (xs : List (List Int)) (e : Nat) (h : ∀ (i : Nat) (x : List Int), xs[i]? = some x → ∃ A c, cs[i]? = some (Value.slice A x.length c) ∧ x.length ≤ c ∧ Kd.C (Kd.int .u8) w A x.length x) (hm : xs.length ≤ 140737488351232) :
    Kd.C (Kd.slice 5 (Kd.int .u8)) (w.alloc (.cells cs.toArray e)) (some ⟨w.heap.size, 0, none⟩) xs.length xs := by
  refine ⟨rfl, by show xs.length ≤ 9223372036854775807; omega, fun _ => ⟨_, rfl, fun j x hj => ?_⟩⟩
  obtain ⟨A, c, hc, hl, hC⟩ := h j x hj
  refine ⟨[.slice A x.length c], rfl, ⟨A, c, rfl, hl, Kd.C_below hC (below_alloc (Below.refl _ _) _)⟩, fun i u hu => ?_⟩
  have hi0 : i = 0 := by have := (List.getElem?_eq_some_iff.1 hu).1; simpa using this
  subst hi0
  obtain rfl : Value.slice A x.length c = u := by simpa using hu
  have h6 := blk_cell (Go.Proofs.YtcnpdapampclpaaDoor.H.new1 w (.cells cs.toArray e)) j
  show (w.alloc (.cells cs.toArray e)).cell? ((⟨w.heap.size, 0, none⟩ : Addr).add (j * 1 + 0)) = _
  rw [show j * 1 + 0 = j by omega, show (⟨w.heap.size, 0, none⟩ : Addr).add j = ⟨w.heap.size, j, none⟩ by simp [Addr.add]; intro h; exact h.symm]
  refine h6.trans ?_
  simpa using hc
theorem info_row : (Tryd.prog.info? 23).map (fun i => (i.zero, i.size, i.bytes)) = some (some (.slice none 0 0), 1, 24) := by kernel_rfl
/-- The levels, those below k told anew. -/
def midL (M : List (List Int)) (m : List Int) (k j : Nat) : List (List Int) := if j < k then levL (M ++ [m]) j else levL M j
/-- What a mark at hand is not. -/
def okA (p : Nat) (vs : List Value) (b : Nat) : Prop := b ≠ p ∧ ∀ j, some b ≠ (vs.getD j nilV).ownBlock
/-- A row of rows that lies in its own block, at hand. -/
theorem row_get {w : World} {e base : Nat} {ok : Nat → Prop} {v : Value} {xs : List (List Int)} (h : Kd.N dB e w base ok v xs) (hp : 0 < xs.length) : ∃ g c, v = .slice (some ⟨g, 0, none⟩) xs.length c ∧ xs.length ≤ c ∧ ok g ∧ g < w.heap.size ∧
    ∀ i, i < xs.length → ∃ A ca, w.cell? ⟨g, i, none⟩ = some (.slice A (xs.getD i []).length ca) ∧ (xs.getD i []).length ≤ ca ∧ Kd.F (Kd.int .u8) w (fun k => ok k ∧ k ≠ g) A (xs.getD i []).length (xs.getD i []) := by
  obtain ⟨g, c, rfl, _, hlt, _⟩ := Kd.N_form h hp
  refine ⟨g, c, rfl, (Kd.N_reads' h).2.1, h.1 g (by simp [Value.ownBlock]), hlt, fun i hi => ?_⟩
  obtain ⟨cs, _, hF, hc, _⟩ := Kd.N_elem h [] (i : Int) (by omega) (by omega)
  obtain ⟨A, ca, rfl, hl, hF⟩ := Kd.FK_slice_open hF
  have := hc 0 _ rfl
  exact ⟨A, ca, by rw [show (i : Int).toNat * dB.sz + 0 = i by show (i : Int).toNat * 1 + 0 = i; omega] at this; exact this, hl, hF⟩
theorem w64n {i : Nat} (h : i ≤ 4096) : IntKind.i64.wrap (i : Int) = (i : Int) := by rw [i64_w]; unfold wrap64; omega
theorem even_go {n k : Nat} (h : n % 2 ^ k = 0) (he : n / 2 ^ k % 2 = 0) : n % 2 ^ (k + 1) = 0 := by rw [Nat.pow_succ, Nat.mod_mul, h, he, Nat.mul_zero]
theorem odd_stop {n k j : Nat} (h : n % 2 ^ k = 0) (ho : n / 2 ^ k % 2 = 1) (hj : k < j) : n % 2 ^ j ≠ 0 := fun e => by
  have h1 : 2 ^ (k + 1) ∣ n := Nat.dvd_trans (Nat.pow_dvd_pow 2 hj) (Nat.dvd_of_mod_eq_zero e)
  have h2 := Nat.mod_eq_zero_of_dvd h1
  rw [Nat.pow_succ, Nat.mod_mul, h, ho] at h2
  have := Nat.two_pow_pos k
  omega
theorem lastP_get (M : List (List Int)) (m : List Int) (k : Nat) (h : (M.length + 1) % 2 ^ k = 0) : (levL (M ++ [m]) k).getD ((levL (M ++ [m]) k).length - 1) [] = lastP (M ++ [m]) k := by
  rw [levL_more M m k h]; simp
theorem midL_self (M : List (List Int)) (m : List Int) (k : Nat) : midL M m k k = levL M k := by unfold midL; rw [if_neg (by omega)]
theorem midL_next (M : List (List Int)) (m : List Int) (k : Nat) (h : (M.length + 1) % 2 ^ k = 0) (j : Nat) : (if j = k then levL M k ++ [lastP (M ++ [m]) k] else midL M m k j) = midL M m (k + 1) j := by
  unfold midL
  by_cases hj : j = k
  · subst hj; rw [if_pos rfl, if_pos (by omega), levL_more M m j h]
  · rw [if_neg hj]
    by_cases h1 : j < k
    · rw [if_pos h1, if_pos (by omega)]
    · rw [if_neg h1, if_neg (by omega)]
theorem midL_end (M : List (List Int)) (m : List Int) (k : Nat) (h : (M.length + 1) % 2 ^ k = 0) (ho : (M.length + 1) / 2 ^ k % 2 = 1) (j : Nat) : midL M m (k + 1) j = levL (M ++ [m]) j := by
  unfold midL
  by_cases h1 : j < k + 1
  · rw [if_pos h1]
  · rw [if_neg h1, levL_same M m j (odd_stop h ho (by omega))]
theorem lastP_32 {M : List (List Int)} (h : Lv M) (k : Nat) (h0 : 0 < M.length) : (lastP M k).length = 32 ∧ ∀ x ∈ lastP M k, 0 ≤ x ∧ x < 256 := topL_32 (h.drop _) (by have := Nat.two_pow_pos k; rw [List.length_drop]; omega)
theorem levL_32 {M : List (List Int)} (h : Lv M) (k j : Nat) (hj : j < M.length / 2 ^ k) : ((levL M k).getD j []).length = 32 ∧ ∀ x ∈ (levL M k).getD j [], 0 ≤ x ∧ x < 256 := by
  have h2 := Nat.two_pow_pos k
  have h3 : (j + 1) * 2 ^ k ≤ M.length := Nat.le_trans (Nat.mul_le_mul_right _ hj) (Nat.div_mul_le_self _ _)
  rw [Nat.add_mul, Nat.one_mul] at h3
  rw [levL_get M k j hj]
  exact topL_32 ((h.drop _).take _) (by rw [List.length_take, List.length_drop]; omega)
theorem Glb.fr {S : Nat → Prop} {w w1 : World} (h : Glb w) (hf : Fr S w w1) (h0 : ¬ S 0) (h1 : ¬ S 1) : Glb w1 := ⟨h.laid.fr hf h1 h0, Nat.lt_of_lt_of_le h.g0 hf.size, Nat.lt_of_lt_of_le h.g1 hf.size⟩
theorem pow13 {n k : Nat} (h : (n + 1) % 2 ^ k = 0) (hn : n < 4096) : k < 13 := by
  rcases Nat.lt_or_ge k 13 with h1 | h1
  · exact h1
  · have h2 : 2 ^ 13 ≤ 2 ^ k := Nat.pow_le_pow_right (by decide) h1
    have h3 := Nat.le_of_dvd (Nat.succ_pos n) (Nat.dvd_of_mod_eq_zero h)
    have : (2 : Nat) ^ 13 = 8192 := by decide
    omega
def addR.T9 : Bool × List (List Nat × List Nat) := (true, [([], []), ([], []), ([], []), ([], []), ([2], [2]), ([4], [4]), ([5, 3], [3, 5]), ([6], [6]), ([], []), ([8], [8]), ([7, 9], [7, 9]), ([0], [0]), ([11], [11]), ([12, 1, 0, 1, 2, 3, 4, 5, 6, 7, 8, 9, 10], [1, 12]), ([13, 10, 10, 0, 1, 2, 3, 4, 5, 6, 7, 8, 9, 10], [10, 13])])
def addR.B9 : List Nat := [0, 0, 0, 0, 4, 20, 60, 124, 0, 256, 1020, 1, 2049, 8191, 16383]
theorem addR.tab9 : rtab .any (opsOf Tryd.f25 9) = addR.T9 := by kernel_rfl
theorem addR.bits9 : waitsOk addR.T9.2 addR.B9 = true := by kernel_rfl
def addR.T13 : Bool × List (List Nat × List Nat) := (true, [([], []), ([], []), ([1], [1]), ([2], [2]), ([0, 3], [0, 3]), ([4], [4]), ([], []), ([], []), ([7], [7]), ([8], [8]), ([6, 9], [6, 9]), ([10], [10]), ([5, 11], [5, 11]), ([12], [12]), ([13, 13, 0, 1, 2, 3, 4, 5, 6, 7, 8, 9, 10, 11, 12, 13], [13])])
def addR.B13 : List Nat := [0, 0, 2, 6, 15, 31, 0, 0, 128, 384, 960, 1984, 4095, 8191, 16383]
theorem addR.tab13 : rtab .any (opsOf Tryd.f25 13) = addR.T13 := by kernel_rfl
theorem addR.bits13 : waitsOk addR.T13.2 addR.B13 = true := by kernel_rfl
set_option maxRecDepth 100000 in
set_option maxHeartbeats 8000000 in
theorem add_ok (base p : Nat) (vs : List Value) (M : List (List Int)) (A : Option Addr) (c : Nat) (b : List Int) (w : World) (HG : Glb w) (T : TrailR base p M.length vs (levL M) w) (hv : Lv M) (hn : M.length < 4096) (hC : Kd.C (Kd.int .u8) w A b.length b) (hc : b.length ≤ c) (hbb : ∀ x ∈ b, 0 ≤ x ∧ x < 256) (hbl : b.length ≤ 8192) (hbase : 1 < base) :
    Calls Tryd.prog 25 #[.pointer (some ⟨p, 0, none⟩), .slice A b.length c] w fun e w' => e = .returned (.int .i64 0) ∧ ∃ vs', TrailR base p (M ++ [dig (16 :: b)]).length vs' (levL (M ++ [dig (16 :: b)])) w' ∧ Fr (ownT p vs) w w' ∧ ∀ j k, (vs'.getD j nilV).ownBlock = some k → ownT p vs k ∨ w.heap.size ≤ k := by
  obtain ⟨m0, hm0⟩ : ∃ m0, m0 = dig (16 :: b) := ⟨_, rfl⟩
  have hm32 : m0.length = 32 := by rw [hm0]; exact dig_length _
  have hmb : ∀ x ∈ m0, 0 ≤ x ∧ x < 256 := by rw [hm0]; exact dig_bytes _
  have hmark : trail_Mark.f b = some (m0, 0) := by
    unfold trail_Mark.f
    rw [if_neg (by omega), digest1 (by decide) hbb (by omega), ← hm0]
    rfl
  rw [← hm0]
  clear hm0
  have hv1 : Lv (M ++ [m0]) := fun x hx => by
    rcases List.mem_append.1 hx with hx | hx
    · exact hv x hx
    · rw [List.mem_singleton] at hx; subst hx; exact ⟨hm32, hmb⟩
  have hcN := T.cellN
  have hfN := T.frozen 0
  have hlen : (M ++ [m0]).length = M.length + 1 := by rw [List.length_append, List.length_singleton]
  have H0 := Aside0.mk (And.intro HG (And.intro T (And.intro hC (And.intro hc (And.intro hmark (And.intro hv (And.intro hv1 (And.intro hlen (And.intro hm32 (And.intro hbase hmb))))))))))
  have hnI : (M.length : Int) < 4096 := by omega
  have hpN : ((p : Nat) : Nat) = p := rfl
  clear HG T hC hc hmark hv hv1 hlen hm32 hbase hmb hbb hpN
  go_enter Tryd.func25, Tryd.ntmps25
  go_upto_region 7 with (first
    | (go_at_call 26; go_loud (refine (trail_Mark.calls (fun k => k < w.heap.size) A c b m0 0 _ H0.out.1 ⟨A, c, rfl, H0.out.2.2.2.1, Kd.C_F (Kd.heap_int _) H0.out.2.2.1⟩ H0.out.2.2.2.2.1).mono ?_; rintro e w1 ⟨v1, rfl, hR, hB⟩; obtain ⟨Am, cm, rfl, hcm, hCm⟩ := Kd.R_reads hR; have hc1 := (hB.cell (p := ⟨p, 0, none⟩) H0.out.2.1.lt).trans hcN; have hf1 := (hB.frozen (p := ⟨p, 0, none⟩) H0.out.2.1.lt).trans hfN; have P1 := Aside0.mk (And.intro hR (And.intro hcm hB)); clear hR hcm hCm hB hcN hfN)))
  have hR := P1.out.1
  have hB := P1.out.2.2
  have T1 := (H0.out.2.1.below hB).setN ((M.length : Int) + 1)
  have hF1 : Kd.F (Kd.int .u8) (w1.setCell ⟨p, 0, none⟩ (.int .i64 ((M.length : Int) + 1))) (okA p vs) Am 32 (lastP (M ++ [m0]) 0) := by
    rw [lastP_zero]
    have h1 := Kd.R_F hR
    rw [H0.out.2.2.2.2.2.2.2.2.1] at h1
    refine Kd.F_far (Kd.F_mono h1 (fun k hk => ⟨?_, fun j e => ?_⟩)) (fun k hk => hk.1) _
    · have := H0.out.2.1.lt; omega
    · have := H0.out.2.1.own_lt e.symm; omega
  have hFr1 : Fr (ownT p vs) w (w1.setCell ⟨p, 0, none⟩ (.int .i64 ((M.length : Int) + 1))) := (Fr.of_below hB).setCell _ _ (.inl (.inl rfl))
  have hcm : 32 ≤ cm := by have := P1.out.2.1; have := H0.out.2.2.2.2.2.2.2.2.1; omega
  have P2 := Aside0.mk (And.intro T1 (And.intro hF1 hFr1))
  rw [H0.out.2.2.2.2.2.2.2.2.1]
  clear hR hB T1 hF1 hFr1 P1 hc1 hf1
  go_wp2
  go_loopg [5, 7, 8] 13 (fun m v5 v7 v8 wr => ∃ (k : Nat) (vs' : List Value) (Ak : Option Addr) (ck : Nat) (u : Value), m + k = 13 ∧ v5 = .slice Ak 32 ck ∧ v7 = .int .i64 k ∧ v8 = u ∧ 32 ≤ ck ∧ (M.length + 1) % 2 ^ k = 0 ∧ Aside0 (TrailR base p ((M.length : Int) + 1) vs' (midL M m0 k) wr ∧ Kd.F (Kd.int .u8) wr (okA p vs') Ak 32 (lastP (M ++ [m0]) k) ∧ Fr (ownT p vs) w wr ∧ ∀ j b, (vs'.getD j nilV).ownBlock = some b → ownT p vs b ∨ w.heap.size ≤ b))
  case atStart => exact ⟨0, vs, Am, cm, _, by omega, rfl, rfl, rfl, hcm, Nat.mod_one _, ⟨by have h1 := P2.out.1; exact h1.congrL (fun k hk => by unfold midL; rw [if_neg (by omega)]), P2.out.2.1, P2.out.2.2, fun j b hb => .inl (.inr ⟨j, hb⟩)⟩⟩
  case round =>
    obtain ⟨k, vs', Ak, ck, u, hmk, rfl, rfl, rfl, hck, hdiv, hrest⟩ := hrel
    clear P2
    have hk13 := pow13 hdiv hn
    obtain ⟨vk, hvk⟩ : ∃ vk, vk = vs'.getD k nilV := ⟨_, rfl⟩
    have T2 := hrest.out.1.below (below_drew1 (Below.refl wr.heap.size wr))
    have F2 := Kd.F_drew hrest.out.2.1
    have R2 := hrest.out.2.2.1.drew
    have O2 := hrest.out.2.2.2
    have hcell := T2.cell hk13
    rw [← hvk] at hcell
    have Hv := Aside0.mk hvk
    clear hvk
    have pk : (0 ≤ (k : Int)) = True := eq_true (by omega)
    have qk : ((k : Int) < 13) = True := eq_true (by omega)
    clear hrest
    go_upto_region 9 with (fail)
    refine start_ (n := 15) (S := fun w' => w'.cell? ⟨p, 1 + k, none⟩ = some vk) (ds := [14]) (fl 15 0) (by kernel_rfl) rfl rfl hcell (fun hHeld => ?_)
    refine with_tabW addR.tab9 addR.bits9 (fun HT_ HW_ => ?_)
    clear hcell
    generalize wr.drew = w2 at T2 F2 R2 hHeld ⊢
    refine pureA (i := 0) (N := some 34) (fl 15 1) (any_of HT_.out (by kernel_rfl)) ?_
    refine pureA (i := 1) (N := some 35) (fl 15 3) (any_of HT_.out (by kernel_rfl)) ?_
    refine pureA (i := 2) (N := some 36) (fl 15 7) (any_of HT_.out (by kernel_rfl)) ?_
    refine pureA (i := 3) (N := some 37) (fl 15 15) (any_of HT_.out (by kernel_rfl)) ?_
    refine pureA (i := 4) (N := some 38) (fl 15 31) (any_of HT_.out (by kernel_rfl)) ?_
    refine pureA (i := 5) (N := some 39) (fl 15 63) (any_of HT_.out (by kernel_rfl)) ?_
    refine pureA (i := 6) (N := some 40) (fl 15 127) (any_of HT_.out (by kernel_rfl)) ?_
    refine pureA (i := 8) (N := some 42) (fl 15 383) (any_of HT_.out (by kernel_rfl)) ?_
    refine pureA (i := 11) (N := some 45) (fl 15 2431) (any_of HT_.out (by kernel_rfl)) ?_
    refine pureA (i := 12) (N := some 46) (fl 15 6527) (any_of HT_.out (by kernel_rfl)) ?_
    refine takeA (i := 7) (N := some 41) (fl 15 6655) (take_ofW HT_.out HW_.out (by kernel_rfl)) hHeld ?_
    refine one_ (i := 9) (N := some 43) (fl 15 7167) rfl rfl (one_of HT_.out (by kernel_rfl)) (by decide) (fun K hK => ?_)
    refine value_ (v := .slice (some ⟨w2.heap.size, 0, none⟩) 1 1) (w1 := w2.alloc (.cells #[.slice Ak 32 ck] 23)) (by rfl) rfl (by go_simp) ?_
    refine hK.out _ _ (by exact (World.cell?_alloc_lt _ _ _ T2.lt).trans hHeld) (fun hHeld => ?_)
    clear hK K
    refine normA (some 43) ?_
    refine one_ (i := 10) (N := some 44) (fl 15 8191) rfl rfl (one_of HT_.out (by kernel_rfl)) (by decide) (fun K hK => ?_)
    have hl32 := lastP_32 H0.out.2.2.2.2.2.2.1 k (by rw [H0.out.2.2.2.2.2.2.2.1]; omega)
    have hp2 : Kd.FK dB w2 (okA p vs') (lastP (M ++ [m0]) k) [.slice Ak 32 ck] := by
      have := Kd.FK_slice_mk (e := 5) (d := Kd.int .u8) (c := ck) (A := Ak) (ok := okA p vs') (W := w2) (l := lastP (M ++ [m0]) k) (by rw [hl32.1]; exact hck) (by rw [hl32.1]; exact F2)
      rw [hl32.1] at this
      exact this
    have hN2 := T2.row k hk13
    rw [← Hv.out, midL_self] at hN2
    refine Kd.N_append_step dB (w0 := w2) (W := w2) base (by rfl) (.tmp 41) (.tmp 43) 22 23 (.slice none 0 0) 24 rfl Tryd.underlying22 info_row rfl (by decide) (by decide) vk (levL M k) (lastP (M ++ [m0]) k) [.slice Ak 32 ck] (okL p vs' k) (okA p vs') rfl rfl hp2 (fun b hb => ⟨⟨hb.1, fun j _ => hb.2 j⟩, by rw [Hv.out]; exact hb.2 k⟩) (T2.fresh k) hN2 (Below.refl _ _) (by have := T2.hb; have := T2.lt; omega) (by rw [levL_length]; have := Nat.div_le_self M.length (2 ^ k); omega) ?_
    intro v1 w3 hN3 hB3 hg hat
    have hpk : some p ≠ vk.ownBlock := fun e => (hN2.1 p e.symm).1 rfl
    refine hK.out _ _ (cell_grown hg (cell_unalloc hHeld T2.lt) hpk) (fun hHeld => ?_)
    clear hK K
    refine normA (some 44) ?_
    have T4 := TrailR.put T2 hk13 hN3 (by rw [← Hv.out]; exact hg) (by rw [← Hv.out]; exact hat)
    have hfz := blk_frozen (blk_grown T2.blk hg hpk) (1 + k)
    have O4 : ∀ j b, ((vs'.set k v1).getD j nilV).ownBlock = some b → ownT p vs b ∨ w.heap.size ≤ b := fun j b hb => by
      by_cases hjk : j = k
      · subst hjk
        rw [getD_set_self _ _ _ _ (by rw [T2.lv]; exact hk13)] at hb
        rcases hat with h | ⟨b', h1, h2⟩
        · rw [h, Hv.out] at hb; exact O2 j b hb
        · rw [h1] at hb; injection hb with hb; have := R2.size; omega
      · rw [getD_set_ne _ _ _ _ _ hjk] at hb; exact O2 j b hb
    have R4 : Fr (ownT p vs) w (w3.setCell ⟨p, 1 + k, none⟩ v1) := (R2.trans (Fr.of_grown hg) (fun i hi => by rw [Hv.out] at hi; exact O2 k i hi.symm)).setCell _ _ (.inl (.inl rfl))
    have T5 := T4.congrL (fun j _ => midL_next M m0 k hdiv j)
    have hN5 := T5.row k hk13
    have hme : midL M m0 (k + 1) k = levL (M ++ [m0]) k := if_pos (by omega)
    rw [getD_set_self _ _ _ _ (by rw [T2.lv]; exact hk13), hme] at hN5
    have hlq : (levL (M ++ [m0]) k).length = (M.length + 1) / 2 ^ k := by rw [levL_length, H0.out.2.2.2.2.2.2.2.1]
    have hq0 : 0 < (M.length + 1) / 2 ^ k := Nat.div_pos (Nat.le_of_dvd (by omega) (Nat.dvd_of_mod_eq_zero hdiv)) (Nat.two_pow_pos k)
    have hqn : (M.length + 1) / 2 ^ k ≤ 4096 := Nat.le_trans (Nat.div_le_self _ _) (by omega)
    obtain ⟨g, cl, hv1, hcl, hokg, hglt, hel⟩ := row_get hN5 (by omega)
    rw [hlq] at hv1 hcl hel
    obtain ⟨q, hq⟩ : ∃ q, q = (M.length + 1) / 2 ^ k := ⟨_, rfl⟩
    rw [← hq] at hlq hq0 hqn hv1 hcl hel
    subst hv1
    refine pureA (i := 13) (N := some 47) (fl 15 16383) (any_of HT_.out (by kernel_rfl)) ?_
    refine last_ (i := 14) (N := none) (fl 15 32767) rfl rfl (one_of HT_.out (by kernel_rfl)) (by decide) (fun K hK => ?_)
    refine skip_ (w1 := w3.setCell ⟨p, 1 + k, none⟩ (.slice (some ⟨g, 0, none⟩) q cl)) (by rfl) rfl (by go_simp) ?_
    refine hK.out _ _ ?_
    clear hK K
    refine done_ (done_of HT_.out (by kernel_rfl)) ?_
    have hc5 := T5.cell hk13
    rw [getD_set_self _ _ _ _ (by rw [T2.lv]; exact hk13)] at hc5
    have hlt2 := T2.lt
    have hlv2 := T2.lv
    clear T2 F2 R2 O2 T4 hN2 hp2 hB3 hHeld hfz hN3 HT_ HW_ hpk
    clear hg hat
    generalize w3.setCell ⟨p, 1 + k, none⟩ (.slice (some ⟨g, 0, none⟩) q cl) = w5 at T5 hN5 R4 hc5 hel hglt ⊢
    have H5 := Aside0.mk (And.intro T5 (And.intro hN5 (And.intro R4 O4)))
    clear T5 hN5 R4 O4
    have H6 := Aside0.mk (And.intro hq (And.intro hlq (And.intro hdiv (And.intro hl32 (And.intro hel Hv.out)))))
    clear hq hlq hme hdiv hl32 Hv hel
    by_cases ho : q % 2 = 1
    · have hoI : (Int.tmod (q : Int) 2 == 1) = true := by rw [show Int.tmod (q : Int) 2 = ((q % 2 : Nat) : Int) from rfl, ho]; rfl
      go_wp2
      go_ret
      refine ⟨rfl, _, ?_, H5.out.2.2.1, H5.out.2.2.2⟩
      rw [H0.out.2.2.2.2.2.2.2.1]
      have := H5.out.1.congrL (fun j _ => midL_end M m0 k H6.out.2.2.1 (by rw [← H6.out.1]; exact ho) j)
      exact_mod_cast this
    · have hoI : (Int.tmod (q : Int) 2 == 1) = false := by rw [show Int.tmod (q : Int) 2 = ((q % 2 : Nat) : Int) from rfl, show q % 2 = 0 by omega]; rfl
      have hq2 : 2 ≤ q := by omega
      obtain ⟨A1, c1, hx1, hc1, hF1⟩ := H6.out.2.2.2.2.1 (q - 2) (by omega)
      obtain ⟨A2, c2, hx2, hc2, hF2⟩ := H6.out.2.2.2.2.1 (q - 1) (by omega)
      have hl1 := levL_32 H0.out.2.2.2.2.2.2.1 k (q - 2) (by rw [H0.out.2.2.2.2.2.2.2.1, ← H6.out.1]; omega)
      have hl2 := levL_32 H0.out.2.2.2.2.2.2.1 k (q - 1) (by rw [H0.out.2.2.2.2.2.2.2.1, ← H6.out.1]; omega)
      rw [hl1.1] at hx1 hc1 hF1
      rw [hl2.1] at hx2 hc2 hF2
      obtain ⟨x1, hX1⟩ : ∃ x, x = (levL (M ++ [m0]) k).getD (q - 2) [] := ⟨_, rfl⟩
      obtain ⟨x2, hX2⟩ : ∃ x, x = (levL (M ++ [m0]) k).getD (q - 1) [] := ⟨_, rfl⟩
      rw [← hX1] at hl1 hF1
      rw [← hX2] at hl2 hF2
      have H7 := Aside0.mk (And.intro hl1 (And.intro hl2 (And.intro hF1 (And.intro hF2 (And.intro hX1 hX2)))))
      clear hl1 hl2 hF1 hF2 hX1 hX2
      obtain ⟨i1, hi1⟩ : ∃ i, i = q - 2 := ⟨_, rfl⟩
      obtain ⟨i2, hi2⟩ : ∃ i, i = q - 1 := ⟨_, rfl⟩
      rw [← hi1] at hx1
      rw [← hi2] at hx2
      have e1 : (q : Int) - 2 = (i1 : Int) := by omega
      have e2 : (q : Int) - 1 = (i2 : Int) := by omega
      have p1 : (0 ≤ (i1 : Int)) = True := eq_true (by omega)
      have q1 : ((i1 : Int) < (q : Int)) = True := eq_true (by omega)
      have p2 : (0 ≤ (i2 : Int)) = True := eq_true (by omega)
      have q2 : ((i2 : Int) < (q : Int)) = True := eq_true (by omega)
      have H8 := Aside0.mk (And.intro hi1 hi2)
      clear hi1 hi2
      go_upto_region 13 with (fail)
      refine start_ (n := 15) (S := fun w' => w'.cell? ⟨g, i1, none⟩ = some (.slice A1 32 c1) ∧ w'.cell? ⟨g, i2, none⟩ = some (.slice A2 32 c2)) (ds := []) (fl 15 0) (by kernel_rfl) rfl rfl ⟨hx1, hx2⟩ (fun hHeld => ?_)
      refine with_tabW addR.tab13 addR.bits13 (fun HT_ HW_ => ?_)
      refine pureA (i := 0) (N := some 58) (fl 15 1) (any_of HT_.out (by kernel_rfl)) ?_
      refine pureA (i := 1) (N := some 59) (fl 15 3) (any_of HT_.out (by kernel_rfl)) ?_
      refine pureA (i := 2) (N := some 60) (fl 15 7) (any_of HT_.out (by kernel_rfl)) ?_
      refine pureA (i := 3) (N := some 61) (v := .int .i64 (i1 : Int)) (fl 15 15) (any_of HT_.out (by kernel_rfl)) (hy := fun w' => by go_simp; rw [w64n (i := i1) (by rw [H8.out.1]; exact Nat.le_trans (Nat.sub_le _ _) hqn)]) ?_
      refine pureA (i := 4) (N := some 62) (fl 15 31) (any_of HT_.out (by kernel_rfl)) ?_
      refine takeA (i := 5) (N := some 63) (fl 15 63) (take_ofW HT_.out HW_.out (by kernel_rfl)) hHeld ?_
      refine pureA (i := 6) (N := some 64) (fl 15 127) (any_of HT_.out (by kernel_rfl)) ?_
      refine pureA (i := 7) (N := some 65) (fl 15 255) (any_of HT_.out (by kernel_rfl)) ?_
      refine pureA (i := 8) (N := some 66) (fl 15 511) (any_of HT_.out (by kernel_rfl)) ?_
      refine pureA (i := 9) (N := some 67) (v := .int .i64 (i2 : Int)) (fl 15 1023) (any_of HT_.out (by kernel_rfl)) (hy := fun w' => by go_simp; rw [w64n (i := i2) (by rw [H8.out.2]; exact Nat.le_trans (Nat.sub_le _ _) hqn)]) ?_
      refine pureA (i := 10) (N := some 68) (fl 15 2047) (any_of HT_.out (by kernel_rfl)) ?_
      refine takeA (i := 11) (N := some 69) (fl 15 4095) (take_ofW HT_.out HW_.out (by kernel_rfl)) hHeld ?_
      have T6 := H5.out.1.below (below_drew1 (Below.refl w5.heap.size w5))
      have R6 := H5.out.2.2.1.drew
      have F1 := Kd.F_drew H7.out.2.2.1
      have F2 := Kd.F_drew H7.out.2.2.2.1
      generalize w5.drew = w6 at T6 R6 F1 F2 hHeld ⊢
      have G6 : Glb w6 := H0.out.1.fr R6 (fun h => by have := H0.out.2.1.ownT_base h; have := H0.out.2.2.2.2.2.2.2.2.2.1; omega) (fun h => by have := H0.out.2.1.ownT_base h; have := H0.out.2.2.2.2.2.2.2.2.2.1; omega)
      have hrow := row_C w6 [.slice A1 32 c1, .slice A2 32 c2] [x1, x2] 23 (fun i x hi => by
        rcases i with _ | _ | i
        · obtain rfl : x1 = x := by simpa using hi
          rw [H7.out.1.1]; exact ⟨A1, c1, rfl, hc1, Kd.F_now F1⟩
        · obtain rfl : x2 = x := by simpa using hi
          rw [H7.out.2.1.1]; exact ⟨A2, c2, rfl, hc2, Kd.F_now F2⟩
        · simp at hi) (by show 2 ≤ 140737488351232; omega)
      refine one_ (i := 12) (N := some 70) (fl 15 8191) rfl rfl (one_of HT_.out (by kernel_rfl)) (by decide) (fun K hK => ?_)
      refine value_ (v := .slice (some ⟨w6.heap.size, 0, none⟩) 2 2) (w1 := w6.alloc (.cells #[.slice A1 32 c1, .slice A2 32 c2] 23)) (by rfl) rfl (by go_simp) ?_
      refine hK.out _ _ ⟨(World.cell?_alloc_lt _ _ _ (World.block_lt_of_cell? _ _ hHeld.1)).trans hHeld.1, (World.cell?_alloc_lt _ _ _ (World.block_lt_of_cell? _ _ hHeld.2)).trans hHeld.2⟩ (fun hHeld => ?_)
      clear hK K
      refine normA (some 70) ?_
      refine one_ (i := 13) (N := some 71) (fl 15 16383) rfl rfl (one_of HT_.out (by kernel_rfl)) (by decide) (fun K hK => ?_)
      refine goes_ Tryd.func53 (by kernel_rfl) rfl #[.int .u8 17, .slice (some ⟨w6.heap.size, 0, none⟩) 2 2] (by rfl) rfl rfl eqA ?_
      refine (trail_digest.calls 17 (some ⟨w6.heap.size, 0, none⟩) 2 [x1, x2] (dig (17 :: (x1 ++ x2))) _ (G6.of (below_alloc (Below.refl _ _) _)) hrow (Nat.le_refl 2) (digest2 (by decide) H7.out.1.2 H7.out.2.1.2 (by rw [H7.out.1.1, H7.out.2.1.1]; decide))).mono ?_
      rintro e w7 ⟨v7, rfl, hR7, hB7⟩
      refine ⟨_, rfl, ?_⟩
      refine hK.out _ _ ⟨(hB7.cell (World.block_lt_of_cell? _ _ hHeld.1)).trans hHeld.1, (hB7.cell (World.block_lt_of_cell? _ _ hHeld.2)).trans hHeld.2⟩ (fun hHeld => ?_)
      clear hK K
      refine normA (some 71) ?_
      refine pureA (i := 14) (N := some 5) (fl 15 32767) (any_of HT_.out (by kernel_rfl)) ?_
      refine done_ (done_of HT_.out (by kernel_rfl)) ?_
      have hb67 : Below w6.heap.size w6 w7 := below_step (below_alloc (Below.refl _ _) _) hB7
      have T7 := T6.below hb67
      have R7 := R6.then_below hb67
      have hdiv2 : (M.length + 1) % 2 ^ (k + 1) = 0 := even_go H6.out.2.2.1 (by rw [← H6.out.1]; omega)
      have hdig : dig (17 :: (x1 ++ x2)) = lastP (M ++ [m0]) (k + 1) := by
        rw [lastP_succ (M ++ [m0]) k (by rw [H0.out.2.2.2.2.2.2.2.1]; exact hdiv2) (by rw [H0.out.2.2.2.2.2.2.2.1]; omega), H0.out.2.2.2.2.2.2.2.1, ← H6.out.1, ← H7.out.2.2.2.2.1, ← lastP_get M m0 k H6.out.2.2.1, H6.out.2.1, ← H7.out.2.2.2.2.2]
      rw [hdig] at hR7
      obtain ⟨A7, c7, rfl, hc7, _⟩ := Kd.R_reads hR7
      have F7 : Kd.F (Kd.int .u8) w7 (okA p (vs'.set k (.slice (some ⟨g, 0, none⟩) q cl))) A7 (lastP (M ++ [m0]) (k + 1)).length (lastP (M ++ [m0]) (k + 1)) := Kd.F_mono (Kd.R_F (Kd.R_bound hR7)) (fun b hb => by
        have hsz : w6.heap.size < (w6.alloc (.cells #[.slice A1 32 c1, .slice A2 32 c2] 23)).heap.size := by simp
        exact ⟨by have := T6.lt; have := hb.2.1; omega, fun j e => by have := T6.own_lt e.symm; have := hb.2.1; omega⟩)
      have hl7 := lastP_32 H0.out.2.2.2.2.2.2.1 (k + 1) (by rw [H0.out.2.2.2.2.2.2.2.1]; omega)
      rw [hl7.1] at F7 hc7
      rw [hl7.1]
      have H9 := Aside0.mk (And.intro T7 (And.intro F7 (And.intro R7 (And.intro H5.out.2.2.2 hdiv2))))
      clear T7 F7 R7 hdiv2 T6 R6 F1 F2 G6 hrow hHeld hR7 hB7 hb67 hdig hl7 HT_ HW_ hx1 hx2 hc1 hc2 e1 e2 p1 p2 q1 q2
      go_wp2
      go_roundg (gk - 1)
      case measure => have h_ := hmk; omega
      case rel => exact ⟨k + 1, _, A7, c7, _, by omega, rfl, by simp, rfl, hc7, H9.out.2.2.2.2, ⟨H9.out.1, H9.out.2.1, H9.out.2.2.1, H9.out.2.2.2.1⟩⟩
end Go.Proofs.YtcnpdapampclpaaDoor.X
