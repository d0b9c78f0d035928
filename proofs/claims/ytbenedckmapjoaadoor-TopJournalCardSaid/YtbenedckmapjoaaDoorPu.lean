/- A number's digits; a number's product with a point, another's added. -/
import Derived.Test.YtbenedckmapjoaaDoorPt
namespace Go.Proofs.YtbenedckmapjoaaDoor.F
open Go.RowKit Go.Proofs.YtbenedckmapjoaaDoor.H Go.Proofs.YtbenedckmapjoaaDoorW.PrintWords Go.Proofs.YtbenedckmapjoaaDoorW.PrintLast Go.Proofs.YtbenedckmapjoaaDoorW.PrintMore
set_option linter.unusedVariables false
set_option linter.unusedSimpArgs false
theorem fold_at (off : Nat) : ∀ (vs pre mid post : List Value) (k : Nat), mid.length = vs.length → off + k = pre.length → (vs.zipIdx k).foldl (fun cs (x : Value × Nat) => cs.setIfInBounds (off + x.2) x.1) (pre ++ (mid ++ post)).toArray = (pre ++ (vs ++ post)).toArray
  | [], pre, [], post, k, _, _ => rfl
  | v :: vs, pre, m :: mid, post, k, hl, hk => by
    rw [List.zipIdx_cons, List.foldl_cons]
    have h1 : (pre ++ (m :: mid ++ post)).toArray.setIfInBounds (off + k) v = ((pre ++ [v]) ++ (mid ++ post)).toArray := by
      rw [hk, List.setIfInBounds_toArray, List.set_append_right _ _ (Nat.le_refl _), Nat.sub_self]
      simp
    show List.foldl _ ((pre ++ (m :: mid ++ post)).toArray.setIfInBounds (off + k) v) _ = _
    rw [h1]
    have := fold_at off vs (pre ++ [v]) mid post (k + 1) (by simpa using hl) (by simp; omega)
    rw [this]
    simp
theorem fold_row (off : Nat) (v : Array Value) (pre mid post : List Value) (hl : mid.length = v.size) (hk : off = pre.length) : v.zipIdx.foldl (fun cs (x : Value × Nat) => cs.setIfInBounds (off + x.2) x.1) (pre ++ (mid ++ post)).toArray = (pre ++ (v.toList ++ post)).toArray := by
  have := fold_at off v.toList pre mid post 0 (by simpa using hl) (by omega)
  rw [← this, ← Array.foldl_toList, Array.toList_zipIdx]
theorem fill2 (n : Nat) (a b z : Array Value) (ha : a.size = n) (hb : b.size = n) (hz : z.size = n + n) : Instr.fill (fun i => some (i * n, n)) z [(0, .agg a), (1, .agg b)] = some (a ++ b) := by
  have h1 : z = (([] : List Value) ++ (z.toList.take n ++ z.toList.drop n)).toArray := by simp
  have e1 : a.zipIdx.foldl (fun cs (x : Value × Nat) => cs.setIfInBounds (0 * n + x.2) x.1) z = (a.toList ++ z.toList.drop n).toArray := by
    conv => lhs; rw [h1]
    rw [fold_row (0 * n) a [] (z.toList.take n) (z.toList.drop n) (by simp; omega) (by simp)]
    rfl
  have e2 : b.zipIdx.foldl (fun cs (x : Value × Nat) => cs.setIfInBounds (1 * n + x.2) x.1) (a.toList ++ z.toList.drop n).toArray = a ++ b := by
    have := fold_row (1 * n) b a.toList (z.toList.drop n) [] (by simp; omega) (by simp; omega)
    rw [List.append_nil, List.append_nil] at this
    rw [this]
    simp
  have c1 : ¬ ((decide ((Value.agg a).cells.size ≠ n) || decide (0 * n + (Value.agg a).cells.size > z.size)) = true) := by simp [Value.cells, ha]; omega
  have c2 : ¬ ((decide ((Value.agg b).cells.size ≠ n) || decide (1 * n + (Value.agg b).cells.size > (a.toList ++ z.toList.drop n).toArray.size)) = true) := by simp [Value.cells, hb, ha]; omega
  rw [Instr.fill]
  simp only []
  rw [if_neg c1, Instr.fill]
  simp only []
  rw [show (Value.agg a).cells = a from rfl, e1, if_neg c2, Instr.fill]
  rw [show (Value.agg b).cells = b from rfl, e2]
theorem zero164 (w : World) : (zeroValue 164).run Tryd.prog w = .ok (.agg Tryd.zeroCells164) w := by kernel_rfl
theorem und164 (w : World) : (underlying 164).run Tryd.prog w = .ok (.array 2 162) w := by kernel_rfl
theorem sz162 (w : World) : (sizeOf 162).run Tryd.prog w = .ok 320 w := by kernel_rfl
theorem zs164 : Tryd.zeroCells164.size = 320 + 320 := by kernel_rfl
theorem build2 (a b : Array Value) (ha : a.size = 320) (hb : b.size = 320) (w : World) : (Instr.build 164 #[(0, .agg a), (1, .agg b)]).run Tryd.prog w = .ok (.agg (a ++ b)) w := by
  unfold Instr.build
  simp only [Sem.run_bind, zero164, und164, sz162, Result.andThen_ok, Value.cells]
  rw [fill2 320 a b _ ha hb zs164]
  rfl
/-- A digit of a number, its base 16. -/
def dig (l : List Int) (k : Nat) : Nat := if l.length ≤ k / 2 then 0 else (l.getD (k / 2) 0 / 2 ^ (4 * (k % 2)) % 16).toNat
theorem dig_lt (l : List Int) (k : Nat) : dig l k < 16 := by
  unfold dig
  split <;> omega
theorem i64_and15 {x : Int} (h0 : 0 ≤ x) (h1 : x < 256) : bits .and .i64 x 15 = x % 16 := bits_mask .i64 8 (by decide) (fun n h0 h1 => by rw [IntKind.wrap_i64]; omega) 4 (by decide) x h0 h1
set_option maxRecDepth 100000 in
set_option maxHeartbeats 4000000 in
theorem digits_c (l : List Int) (A : Option Addr) (c k : Nat) (hk : k < 1000) (hl : l.length ≤ 100) (hb : ∀ i, 0 ≤ l.getD i 0 ∧ l.getD i 0 < 256) (w : World) (hr : Kd.C (Kd.int .u8) w A l.length l) :
    Calls Tryd.prog 113 #[.slice A l.length c, .int .i64 k] w fun e w' => e = .returned (.int .i64 (dig l k)) ∧ w' = w := by
  obtain ⟨n, hn⟩ : ∃ n, n = l.length := ⟨_, rfl⟩
  obtain ⟨q, hq⟩ : ∃ q, q = k / 2 := ⟨_, rfl⟩
  obtain ⟨r, hr4⟩ : ∃ r, r = 4 * (k % 2) := ⟨_, rfl⟩
  have hkI : (k : Int) < 1000 := by omega
  have hk0 : (0 : Int) ≤ k := by omega
  have hdv : Int.tdiv ((k : Int) * 4) 8 = (q : Int) := by rw [Int.tdiv_eq_ediv_of_nonneg (by omega)]; omega
  have hmd : Int.tmod ((k : Int) * 4) 8 = (r : Int) := by rw [Int.tmod_eq_emod_of_nonneg (by omega)]; omega
  have hr0 : (r : Int) < 8 := by omega
  have hnI : (n : Int) ≤ 100 := by omega
  have hqI : (q : Int) < 1000 := by omega
  have hq0 : (0 : Int) ≤ q := by omega
  have hwq : wrap64 (q : Int) = (q : Int) := by unfold wrap64; omega
  have hD : dig l k = if n ≤ q then 0 else (l.getD q 0 / 2 ^ r % 16).toNat := by unfold dig; rw [← hn, ← hq, ← hr4]
  rw [← hn] at hr ⊢
  rw [hD]
  by_cases hlt : n ≤ q
  · rw [if_pos hlt]
    have hqn : (n : Int) ≤ (q : Int) := by omega
    have HH := Lib.hid (And.intro hn (And.intro hq (And.intro hr4 hD)))
    clear hn hq hr4 hD hlt hl hb hr hk
    go_enter Tryd.func113, Tryd.ntmps113
    go_wp2
    go_ret
    exact ⟨rfl, rfl⟩
  · rw [if_neg hlt]
    obtain ⟨ad, hA, hcell⟩ := C_cell (k := .u8) (i := q) (by rw [← hn]; exact hr) (by omega)
    have hA' := hA
    subst hA'
    have hby := hb q
    obtain ⟨B, hB⟩ : ∃ B, B = l.getD q 0 := ⟨_, rfl⟩
    rw [← hB] at hcell hby ⊢
    have hqn : (q : Int) < (n : Int) := by omega
    have hv0 : 0 ≤ B / 2 ^ r ∧ B / 2 ^ r < 256 := by
      have h2 : (0 : Int) < 2 ^ r := Int.pow_pos (by decide)
      exact ⟨Int.ediv_nonneg hby.1 (Int.le_of_lt h2), Int.lt_of_le_of_lt (Int.ediv_le_self _ hby.1) hby.2⟩
    have hv := i64_and15 hv0.1 hv0.2
    have hc15 : ((B / 2 ^ r % 16).toNat : Int) = bits .and .i64 (B / 2 ^ r) 15 := by rw [hv, Int.toNat_of_nonneg (by omega)]
    rw [hc15]
    have HH := Aside0.mk (And.intro hn (And.intro hq (And.intro hr4 (And.intro hD (And.intro hv0 hby)))))
    clear hn hq hr4 hD hlt hl hb hr hk hA hB hv hc15 hby
    have hv00 := hv0.1
    have hv01 := hv0.2
    clear hv0
    go_enter Tryd.func113, Tryd.ntmps113
    go_wp2
    go_ret
    exact ⟨rfl, rfl⟩
def mixR.T1 : Bool × List (List Nat × List Nat) := (true, [([], []), ([0], [0]), ([], []), ([2, 1], [2]), ([1, 3], [1, 3]), ([], []), ([5, 4, 3, 0, 1, 2, 3, 4, 5], [4, 5])])
def mixR.B1 : List Nat := [0, 1, 0, 7, 15, 0, 63]
theorem mixR.tab1 : rtab .any (opsOf Tryd.f59 1) = mixR.T1 := by kernel_rfl
theorem mixR.bits1 : waitsOk mixR.T1.2 mixR.B1 = true := by kernel_rfl
def mixR.T15 : Bool × List (List Nat × List Nat) := (true, [([], []), ([], []), ([], []), ([1], [1]), ([3, 2], [2, 3]), ([4], [4]), ([0, 5], [0, 5]), ([6, 6, 0, 1, 2, 3, 4, 5, 6], [6])])
def mixR.B15 : List Nat := [0, 0, 0, 2, 14, 30, 63, 127]
theorem mixR.tab15 : rtab .any (opsOf Tryd.f59 15) = mixR.T15 := by kernel_rfl
theorem mixR.bits15 : waitsOk mixR.T15.2 mixR.B15 = true := by kernel_rfl
theorem info640 : (Tryd.prog.info? 164).map (·.size) = some 640 := by kernel_rfl
theorem zsize640 : Tryd.zeroCells164.size = 640 := by kernel_rfl
/-- Points in any form: how they are held, what the program makes of them. -/
structure GP where
  T : Type
  R : T → List Int
  len : ∀ p, (R p).length = 20
  z : T
  D : T → T
  A : T → T → T
  kZ : ∀ w : World, Calls Tryd.prog 60 #[] w fun e w' => e = .returned (.agg (cells64 (R z))) ∧ Below w.heap.size w w'
  kD : ∀ (p : T) (w : World), Calls Tryd.prog 112 #[.agg (cells64 (R p))] w fun e w' => e = .returned (.agg (cells64 (R (D p)))) ∧ Below w.heap.size w w'
  kA : ∀ (p q : T) (w : World), Gc w → Calls Tryd.prog 21 #[.agg (cells64 (R p)), .agg (cells64 (R q))] w fun e w' => e = .returned (.agg (cells64 (R (A p q)))) ∧ Below w.heap.size w w'
def GP.dn (G : GP) (x : G.T) : Nat → G.T
  | 0 => x
  | n + 1 => G.D (G.dn x n)
/-- A digit of a number: so many times a point is added. -/
def GP.ad (G : GP) (f : Nat → G.T) (d : Nat) (x : G.T) : G.T := if d = 0 then x else G.A x (f d)
def GP.step (G : GP) (f g : Nat → G.T) (a b : Nat) (x : G.T) : G.T := G.ad g b (G.ad f a (G.dn x 4))
/-- What comes of the lowest k places that are left. -/
def GP.run (G : GP) (f g : Nat → G.T) (n m : List Int) : Nat → G.T → G.T
  | 0, x => x
  | k + 1, x => G.run f g n m k (G.step f g (dig n k) (dig m k) x)
def Z20 : List Int := List.replicate 20 0
structure XSt (w : World) (V : List Int) (gv go : Nat) (x : List Int) (w' : World) : Prop where
  o : PtAt go x w'
  v : w'.heap[gv]? = some (.cells (cells64 V) 164 (0, 0))
  r : PtAt (w.heap.size + 1 + 1) Z20 w'
  b : Below w.heap.size w w'
  lo : w.heap.size + 1 + 1 < go
  ne : gv ≠ go
theorem XSt.below {w w1 w2 : World} {V x : List Int} {gv go : Nat} (h : XSt w V gv go x w1) (hb : Below w1.heap.size w1 w2) : XSt w V gv go x w2 :=
  ⟨h.o.below hb, blk_below h.v hb, h.r.below hb, below_step h.b hb, h.lo, h.ne⟩
theorem XSt.put {w w1 : World} {V x : List Int} {gv go : Nat} (h : XSt w V gv go x w1) (y : List Int) : XSt w V gv go y (w1.setRow go (cells64 y)) := by
  have := h.lo
  exact ⟨setRow_heap _ _ _ _ _ _ h.o, (setRow_other _ _ _ _ h.ne).trans h.v, h.r.other (by omega) _, below_setRow h.b (by omega) _, h.lo, h.ne⟩
theorem XSt.at {w w1 : World} {V x : List Int} {gv go : Nat} (h : XSt w V gv go x w1) {a b c : List Int} (hV : V = a ++ (b ++ c)) : w1.rangeAt gv a.length (cells64 b).toList := by
  have := h.v
  rw [hV, ← List.append_assoc] at this
  exact rangeAt_mid a b c this
theorem XSt.at0 {w w1 : World} {V x : List Int} {gv go : Nat} (h : XSt w V gv go x w1) {f g : Nat → List Int} (hf : ∀ i, (f i).length = 20) (hV : V = flatR f 16 ++ flatR g 16) {d : Nat} (hd : d < 16) : w1.rangeAt gv (d * 20) (cells64 (f d)).toList := by
  have h1 := h.at (a := []) (b := flatR f 16) (c := flatR g 16) (by rw [List.nil_append]; exact hV)
  have h2 := rangeAt_flat hf h1 hd
  rwa [List.length_nil, Nat.zero_add] at h2
theorem XSt.at1 {w w1 : World} {V x : List Int} {gv go : Nat} (h : XSt w V gv go x w1) {f g : Nat → List Int} (hf : ∀ i, (f i).length = 20) (hg : ∀ i, (g i).length = 20) (hV : V = flatR f 16 ++ flatR g 16) {d : Nat} (hd : d < 16) : w1.rangeAt gv (320 + d * 20) (cells64 (g d)).toList := by
  have h1 := h.at (a := flatR f 16) (b := flatR g 16) (c := []) (by rw [List.append_nil]; exact hV)
  have h2 := rangeAt_flat hg h1 hd
  rwa [flatR_length hf] at h2
theorem callAt {P : Program} {ops : Array Oper} {Q : Exit → Act → World → Prop} {ds : List Nat} {i : Nat} {oi : Oper} {N : Nat} {f : FuncId} {fn : Func} {as_ : Array Operand} {ts : Array TypeId} (hi : ops[i]? = some oi) (hd : i ∉ ds) (hN : oi.dst = some N) (hf : P.funcs[f]? = some fn) (hname : (fn.name == "runtime.NumGoroutine") = false) (hb : fn.body.isSome = true)
    (hop : oi.op = .call { callee := .value (.func f), args := as_, argTypes := ts }) (args : Array Value) (v : Value) (tm : Array Value) (w : World) (hw : Region.wanted oi (yielded ops tm) = true) (hargs : as_.map (Act.eval ⟨tm, []⟩) = args)
    (hcl : Calls P f args w fun e w' => e = .returned v ∧ Below w.heap.size w w') :
    OpOk P ops Q ds i (fun a' w' => a' = ⟨tm.setIfInBounds N v, []⟩ ∧ Below w.heap.size w w') ⟨tm, []⟩ w :=
  ⟨oi, hi, hd, fun K hK => by
    rw [hN]
    exact goes_ (ops := ops) (Q := Q) hf hname hb args hw hN hop hargs (hcl.mono (by rintro e w' ⟨rfl, hb⟩; exact ⟨v, rfl, hK _ _ ⟨rfl, hb⟩⟩))⟩
theorem valueOk {P : Program} {ops : Array Oper} {Q : Exit → Act → World → Prop} {ds : List Nat} {i : Nat} {oi : Oper} {N : Nat} (hi : ops[i]? = some oi) (hd : i ∉ ds) (hN : oi.dst = some N) (v : Value) (tm : Array Value) (w : World) (hw : Region.wanted oi (yielded ops tm) = true)
    (hrun : (execOp (Act.eval ⟨tm, []⟩) oi).run P w = .ok (.value v) w) : OpOk P ops Q ds i (fun a' w' => a' = ⟨tm.setIfInBounds N v, []⟩ ∧ Below w.heap.size w w') ⟨tm, []⟩ w :=
  ⟨oi, hi, hd, fun K hK => value_ (ops := ops) (Q := Q) (N := oi.dst) hw rfl hrun (by rw [hN]; exact hK _ _ ⟨rfl, Below.refl _ _⟩)⟩
theorem PS.other' {w w1 : World} {n : Nat} {pl : List (List Int)} (h : PS w n pl [] [] w1) (g : Nat) (cs : Array Value) (hg : w.heap.size + n < g) : PS w n pl [] [] (w1.setRow g cs) := by
  have hn := h.len
  exact ⟨h.len, fun j hj => (h.p j hj).other (by omega) _, Mem.nil _ _, below_setRow h.b (by omega) _, Nat.lt_of_lt_of_le h.s (below_setRow (Below.refl 0 w1) (Nat.zero_le _) _).size⟩
/-- Behind the doublings: one number's digit, both numbers' digits. -/
def GP.two (G : GP) (f g : Nat → G.T) (a b : Nat) (y : G.T) : Nat → G.T
  | 0 => y
  | 1 => G.ad f a y
  | _ + 2 => G.ad g b (G.ad f a y)
theorem GP.two1 (G : GP) (f g : Nat → G.T) (a b : Nat) (y : G.T) : G.two f g a b y 1 = if a = 0 then G.two f g a b y 0 else G.A (G.two f g a b y 0) (f a) := rfl
theorem GP.two2 (G : GP) (f g : Nat → G.T) (a b : Nat) (y : G.T) : G.two f g a b y 2 = if b = 0 then G.two f g a b y 1 else G.A (G.two f g a b y 1) (g b) := rfl
theorem index2a (a b : Value) : ∀ w : World, (Instr.index 165 (.agg #[a, b]) (.int .i64 0)).run Tryd.prog w = .ok a w := fun w => by (show _ = _; kernel_rfl)
theorem index2b (a b : Value) : ∀ w : World, (Instr.index 165 (.agg #[a, b]) (.int .i64 1)).run Tryd.prog w = .ok b w := fun w => by (show _ = _; kernel_rfl)
set_option maxRecDepth 100000 in
set_option maxHeartbeats 8000000 in
theorem Mix_w (G : GP) (p q WP WQ V : List Int) (f g : Nat → G.T) (hp : p.length = 20) (hq : q.length = 20) (hWP : WP = flatR (fun i => G.R (f i)) 16) (hWQ : WQ = flatR (fun i => G.R (g i)) 16) (hV : V = WP ++ WQ)
    (kP : ∀ w : World, Gc w → Calls Tryd.prog 111 #[.agg (cells64 p)] w fun e w' => e = .returned (.agg (cells64 WP)) ∧ Below w.heap.size w w')
    (kQ : ∀ w : World, Gc w → Calls Tryd.prog 111 #[.agg (cells64 q)] w fun e w' => e = .returned (.agg (cells64 WQ)) ∧ Below w.heap.size w w')
    (An Am : Option Addr) (cn cm : Nat) (n m : List Int) (hnl : n.length ≤ 32) (hml : m.length ≤ 32) (hnb : ∀ i, 0 ≤ n.getD i 0 ∧ n.getD i 0 < 256) (hmb : ∀ i, 0 ≤ m.getD i 0 ∧ m.getD i 0 < 256)
    (w : World) (hG : Gc w) (hn : Kd.C (Kd.int .u8) w An n.length n) (hm : Kd.C (Kd.int .u8) w Am m.length m) :
    Calls Tryd.prog 59 #[.slice An n.length cn, .agg (cells64 p), .slice Am m.length cm, .agg (cells64 q)] w fun e w' => e = .returned (.agg (cells64 (G.R (G.run f g n m (2 * max n.length m.length) G.z)))) ∧ Below w.heap.size w w' := by
  have hsp : (cells64 p).size = 20 := size20' hp
  have hsq : (cells64 q).size = 20 := size20' hq
  have hsV : (cells64 V).size = 640 := by
    rw [hV, hWP, hWQ]
    have h1 := flatR_length (fun i => G.len (f i)) 16
    have h2 := flatR_length (fun i => G.len (g i)) 16
    simp only [cells64, List.size_toArray, List.length_map, List.length_append]
    omega
  have hVV : V = flatR (fun i => G.R (f i)) 16 ++ flatR (fun i => G.R (g i)) 16 := by rw [hV, hWP, hWQ]
  have hB : ∀ w : World, (Instr.build 164 #[(0, .agg (cells64 WP)), (1, .agg (cells64 WQ))]).run Tryd.prog w = .ok (.agg (cells64 V)) w := fun w => by
    have h1 : (cells64 WP).size = 320 := by rw [hWP]; have := flatR_length (fun i => G.len (f i)) 16; simp only [cells64, List.size_toArray, List.length_map]; omega
    have h2 : (cells64 WQ).size = 320 := by rw [hWQ]; have := flatR_length (fun i => G.len (g i)) 16; simp only [cells64, List.size_toArray, List.length_map]; omega
    rw [build2 _ _ h1 h2, hV]
    congr 2
    simp [cells64]
  obtain ⟨N, hN⟩ : ∃ N, N = n.length := ⟨_, rfl⟩
  obtain ⟨M, hM⟩ : ∃ M, M = m.length := ⟨_, rfl⟩
  obtain ⟨mx, hmx⟩ : ∃ mx, mx = max N M := ⟨_, rfl⟩
  have HS := Lib.hid (And.intro hsp (And.intro hsq hsV))
  have HV := Lib.hid hVV
  have HB := Aside0.mk hB
  have HG := Aside0.mk hG
  have HK := Aside0.mk (And.intro kP kQ)
  have HD := Aside0.mk (fun (w1 : World) (h1 : Below w.heap.size w w1) (k : Nat) (hk : k < 1000) => And.intro (digits_c n An cn k hk (by omega) hnb w1 (Kd.C_below hn h1)) (digits_c m Am cm k hk (by omega) hmb w1 (Kd.C_below hm h1)))
  rw [← hN, ← hM] at HD ⊢
  have hNI : (N : Int) ≤ 32 := by omega
  have hMI : (M : Int) ≤ 32 := by omega
  have hmxI : (mx : Int) ≤ 32 := by omega
  have hmx0 : (0 : Int) ≤ mx := by omega
  have hdv : 8 * (mx : Int) / 4 = 2 * (mx : Int) := by omega
  rw [← hmx]
  have HN := Lib.hid (And.intro hN (And.intro hM hmx))
  clear hp hq hWP hWQ hV kP kQ hnl hml hnb hmb hG hn hm hsp hsq hsV hVV hB hN hM hmx
  go_enter Tryd.func59, Tryd.ntmps59
  go_upto_region 1 with (fail)
  have P0 : Aside0 (PS w 2 [p, q, List.replicate 20 0] [] [] (((w.alloc (.cells (cells64 p) 52)).alloc (.cells (cells64 q) 52)).alloc (.cells #[.int .u64 0, .int .u64 0, .int .u64 0, .int .u64 0, .int .u64 0, .int .u64 0, .int .u64 0, .int .u64 0, .int .u64 0, .int .u64 0, .int .u64 0, .int .u64 0, .int .u64 0, .int .u64 0, .int .u64 0, .int .u64 0, .int .u64 0, .int .u64 0, .int .u64 0, .int .u64 0] 52))) := ⟨PS.of2 w _ _⟩
  generalize (((w.alloc (.cells (cells64 p) 52)).alloc (.cells (cells64 q) 52)).alloc (.cells #[.int .u64 0, .int .u64 0, .int .u64 0, .int .u64 0, .int .u64 0, .int .u64 0, .int .u64 0, .int .u64 0, .int .u64 0, .int .u64 0, .int .u64 0, .int .u64 0, .int .u64 0, .int .u64 0, .int .u64 0, .int .u64 0, .int .u64 0, .int .u64 0, .int .u64 0, .int .u64 0] 52)) = w0 at P0 ⊢
  refine start_ (n := 7) (S := fun w' => Below w0.heap.size w0 w') (ds := [6]) (fl 7 0) (by kernel_rfl) rfl rfl (below_drew1 (Below.refl _ _)) (fun hHeld => ?_)
  refine with_tabW mixR.tab1 mixR.bits1 (fun HT_ HW_ => ?_)
  refine takeA (i := 0) (N := some 15) (v := .agg (cells64 p)) (fl 7 1) (take_ofW HT_.out HW_.out (by kernel_rfl)) hHeld ?_ (hy := fun w' s0 => run_row w' 52 (.tmp 5) rfl w.heap.size (by rfl) 52 (cells64 p) (0, 0) _ ((P0.out.p 0 (by simp)).below s0) Tryd.underlying52 rfl (by rw [HS.out.1]; exact info20))
  refine takeA (i := 2) (N := some 17) (v := .agg (cells64 q)) (fl 7 5) (take_ofW HT_.out HW_.out (by kernel_rfl)) hHeld ?_ (hy := fun w' s0 => run_row w' 52 (.tmp 7) rfl (w.heap.size + 1) (by rfl) 52 (cells64 q) (0, 0) _ ((P0.out.p 1 (by simp)).below s0) Tryd.underlying52 rfl (by rw [HS.out.2.1]; exact info20))
  refine phz HT_.out 7 5 63 4 [true, false, true, false, false, false, false] [1, 3, 4] [5] (by kernel_rfl) (by kernel_rfl) (by kernel_rfl) rfl w0 _ [(16, .agg (cells64 WP)), (18, .agg (cells64 WQ)), (19, .agg (cells64 V))] [9] Tryd.zeroCells164 164 rfl rfl (by decide) (by simp) 1 ?_ ?_ _ hHeld ?_
  · intro j hj tm wj htm hbj
    match j, hj with
    | 0, _ =>
      refine callAt (i := 1) (N := 16) rfl (by decide) rfl Tryd.func111 (by kernel_rfl) rfl rfl #[.agg (cells64 p)] (.agg (cells64 WP)) tm wj (by rfl) ?_ (HK.out.1 _ (HG.out.below (below_step P0.out.b hbj)))
      simp only [List.map_toArray, List.map_cons, List.map_nil]
      show #[tm.getD 15 undef] = _
      rw [htm 15 (by decide)]
      rfl
    | 1, _ =>
      refine callAt (i := 3) (N := 18) rfl (by decide) rfl Tryd.func111 (by kernel_rfl) rfl rfl #[.agg (cells64 q)] (.agg (cells64 WQ)) tm wj (by rfl) ?_ (HK.out.2 _ (HG.out.below (below_step P0.out.b hbj)))
      simp only [List.map_toArray, List.map_cons, List.map_nil]
      show #[tm.getD 17 undef] = _
      rw [htm 17 (by decide)]
      rfl
    | 2, _ =>
      refine valueOk (i := 4) (N := 19) rfl (by decide) rfl (.agg (cells64 V)) tm wj (by rfl) (run_build_op _ _ _ rfl _ ?_ (HB.out wj))
      simp only [List.map_toArray, List.map_cons, List.map_nil]
      show #[(0, tm.getD 16 undef), (1, tm.getD 18 undef)] = _
      rw [htm 16 (by decide), htm 18 (by decide)]
      rfl
    | j + 3, hj => exact absurd hj (by simp)
  · intro j hj tm wj
    match j, hj with
    | 0, _ => exact allocOk (i := 5) (s := 9) rfl (by decide) rfl _ _ tm wj (by rfl) (by kernel_rfl)
    | j + 1, hj => exact absurd hj (by simp)
  intro gn w1 hgl hbk hnk hek
  obtain ⟨gv, rfl⟩ := list1 gn hgl
  have hnk0 := hnk 0 (by simp)
  have P1 := Aside0.mk (And.intro (P0.out.below hbk) hnk0)
  simp only [setAd, setAll, if_true, List.replicate, List.length_cons, List.length_nil, List.setIfInBounds_toArray, List.set_cons_zero, List.set_cons_succ, ptrV]
  clear hgl hbk hnk hek hnk0 hHeld
  refine last_ (i := 6) (N := none) (fl 7 127) rfl rfl (one_of HT_.out (by kernel_rfl)) (by decide) (fun K_ hK => ?_)
  refine skip_ (w1 := w1.setRow gv (cells64 V)) (by rfl) rfl (run_put w1 164 (.tmp 9) (.tmp 19) rfl gv (cells64 V) (by rfl) (by rfl) 164 Tryd.zeroCells164 P1.out.2.2 (by rw [HS.out.2.2]; exact info640) (by rw [HS.out.2.2]; exact zsize640) (ones64 _)) ?_
  refine hK.out _ _ ?_
  clear hK K_
  refine done_ (done_of HT_.out (by kernel_rfl)) ?_
  clear HT_ HW_
  have P2 : Aside0 (PS w 2 [p, q, List.replicate 20 0] [] [] (w1.setRow gv (cells64 V)) ∧ (w1.setRow gv (cells64 V)).heap[gv]? = some (.cells (cells64 V) 164 (0, 0)) ∧ gv < (w1.setRow gv (cells64 V)).heap.size) := ⟨P1.out.1.other' gv (cells64 V) (Nat.lt_of_lt_of_le P0.out.s P1.out.2.1), setRow_heap _ _ _ _ _ _ P1.out.2.2, blk_lt (setRow_heap _ _ _ _ _ _ P1.out.2.2)⟩
  clear P0 P1
  generalize (w1.setRow gv (cells64 V)) = w2 at P2 ⊢
  go_upto_region 3 with (first
    | (go_at_call 60; refine (G.kZ _).mono ?_; rintro e w3 ⟨rfl, hbc⟩; have P3 := Aside0.mk (And.intro (P2.out.1.below hbc) (And.intro (blk_below P2.out.2.1 hbc) (Nat.ne_of_lt (Nat.lt_of_lt_of_le P2.out.2.2 hbc.size)))); clear hbc)
    | (refine wpList_store_row rfl 52 (.tmp 10) (.tmp 20) rfl w3.heap.size (cells64 (G.R G.z)) (by rfl) (by rfl) 52 (cells64 Z20) (blk_new w3 _) (by rw [size20' (G.len _)]; exact info20) (by rw [size20' (G.len _)]; rfl) (ones64 _) ?_; rw [World.setRow_alloc_new]))
  have P4 : Aside0 (∃ x : G.T, G.run f g n m (2 * mx) x = G.run f g n m (2 * mx) G.z ∧ XSt w V gv w3.heap.size (G.R x) (w3.alloc (.cells (cells64 (G.R G.z)) 52))) := ⟨G.z, rfl, new1 _ _, blk_alloc P3.out.2.1 _, blk_alloc (P3.out.1.p 2 (by simp)) _, below_alloc P3.out.1.b _, P3.out.1.s, P3.out.2.2⟩
  clear P2 P3
  generalize (w3.alloc (.cells (cells64 (G.R G.z)) 52)) = w4 at P4 ⊢
  generalize w3.heap.size = go at P4 ⊢
  go_upto_region 4 with (first
    | ((with_reducible refine gate_builtin (b := .max) (xs := #[.tmp 22, .tmp 24]) rfl ?_); refine wpList_value (some 25) rfl rfl (v := .int .i64 (mx : Int)) (w1 := w4) ?_ ?_; (· have h_ := HN.out.2.2; go_simp; split <;> omega)))
  clear hdv
  go_loopg [11] (2 * mx) (fun k t wr => t = .int .i64 ((k : Int) - 1) ∧ k ≤ 2 * mx ∧ Aside0 (∃ x : G.T, G.run f g n m k x = G.run f g n m (2 * mx) G.z ∧ XSt w V gv go (G.R x) wr))
  case atStart => exact ⟨by go_num, Nat.le_refl _, P4⟩
  case round =>
    clear P4
    obtain ⟨rfl, hkm, x, hx, P⟩ := hrel
    cases gk with
    | zero =>
      have HX := Lib.hid hx
      have HP := Aside0.mk P
      clear hx P
      go_wp2_with (first
        | (refine wpList_load_row rfl 52 (.tmp 10) rfl go (by rfl) 52 (cells64 (G.R x)) (0, 0) _ HP.out.o Tryd.underlying52 rfl (by rw [size20' (G.len _)]; exact info20) ?_)
        | (refine wpList_store_row rfl 52 (.tmp 8) (.tmp 58) rfl (w.heap.size + 1 + 1) (cells64 (G.R x)) (by rfl) (by rfl) 52 (cells64 Z20) HP.out.r (by rw [size20' (G.len _)]; exact info20) (by rw [size20' (G.len _)]; rfl) (ones64 _) ?_))
      refine bodyPost_ret (v := .agg (cells64 (G.R x))) (results_cell_row (by rfl) _ _ (w.heap.size + 1 + 1) 52 (cells64 (G.R x)) (0, 0) _ (by rfl) (setRow_heap _ _ _ _ _ _ HP.out.r) Tryd.underlying52 rfl (by rw [size20' (G.len _)]; exact info20)) rfl ⟨by rw [← HX.out]; rfl, below_setRow HP.out.b (by omega) _⟩
    | succ k =>
      have hkI : (k : Int) < 64 := by omega
      have hk0 : (0 : Int) ≤ k := by omega
      have hk8 : ((k : Int) + 1 - 1) = (k : Int) := by omega
      have hk8' : (((k + 1 : Nat) : Int) - 1) = (k : Int) := by omega
      have HK8 := Lib.hid (show k < 1000 by omega)
      have HX := Lib.hid (And.intro hx hkm)
      have P5 : Aside0 (XSt w V gv go (G.R (G.dn x 0)) wr) := ⟨P⟩
      clear hx hkm P
      rw [hk8']
      go_upto_region 7 with (fail)
      go_loopg [33] 4 (fun j t w' => ∃ i : Nat, i + j = 4 ∧ t = .int .i64 (i : Int) ∧ Aside0 (XSt w V gv go (G.R (G.dn x i)) w'))
      case atStart => exact ⟨0, rfl, rfl, P5⟩
      case round =>
        obtain ⟨i, hij, rfl, P⟩ := hrel
        clear P5
        by_cases hi : i < 4
        · have hi4 : (i : Int) < 4 := by omega
          obtain ⟨y, hy⟩ : ∃ y, y = G.dn x i := ⟨_, rfl⟩
          have hy1 : G.dn x (i + 1) = G.D y := by rw [hy]; rfl
          rw [← hy] at P
          have HY := Lib.hid hy1
          clear hy hy1
          go_wp2_with (first
            | (refine wpList_load_row rfl 52 (.tmp 10) rfl go (by rfl) 52 (cells64 (G.R y)) (0, 0) _ P.out.o Tryd.underlying52 rfl (by rw [size20' (G.len _)]; exact info20) ?_)
            | (go_at_call 112; refine (G.kD y _).mono ?_; rintro e w5 ⟨rfl, hbc⟩; have P6 := Aside0.mk (P.out.below hbc); clear hbc)
            | (refine wpList_store_row rfl 52 (.tmp 10) (.tmp 36) rfl go (cells64 (G.R (G.D y))) (by rfl) (by rfl) 52 (cells64 (G.R y)) P6.out.o (by rw [size20' (G.len _)]; exact info20) (by rw [size20' (G.len _), size20' (G.len _)]) (ones64 _) ?_))
          go_roundg (gk - 1)
          all_goals first
            | omega
            | exact ⟨i + 1, by omega, by go_num, ⟨by rw [HY.out]; exact P6.out.put _⟩⟩
        · obtain rfl : i = 4 := by omega
          clear hij hi
          have hia := index2a (.slice An N cn) (.slice Am M cm)
          have hib := index2b (.slice An N cn) (.slice Am M cm)
          go_upto_region 11 with (fail)
          go_loopg [41] 2 (fun j t w' => ∃ i : Nat, i + j = 2 ∧ t = .int .i64 (i : Int) ∧ Aside0 (XSt w V gv go (G.R (G.two f g (dig n k) (dig m k) (G.dn x 4) i)) w'))
          case atStart => exact ⟨0, rfl, rfl, P⟩
          case round =>
            obtain ⟨i, hij, rfl, P⟩ := hrel
            match i, hij with
            | 0, hij =>
              have HDk := Aside0.mk ((HD.out wr P.out.b k HK8.out).1)
              obtain ⟨d, hd⟩ : ∃ d, d = dig n k := ⟨_, rfl⟩
              have hd16 : d < 16 := by rw [hd]; exact dig_lt _ _
              have hdI : (d : Int) < 16 := by omega
              have hd0 : (0 : Int) ≤ d := by omega
              obtain ⟨y, hy⟩ : ∃ y, y = G.two f g (dig n k) (dig m k) (G.dn x 4) 0 := ⟨_, rfl⟩
              obtain ⟨y2, hy2⟩ : ∃ y2, y2 = G.two f g (dig n k) (dig m k) (G.dn x 4) 1 := ⟨_, rfl⟩
              have hyy : y2 = if d = 0 then y else G.A y (f d) := by rw [hy2, hy, hd]; exact GP.two1 _ _ _ _ _ _
              rw [← hd] at HDk
              rw [← hy] at P
              have HZ := Lib.hid (And.intro hd16 (And.intro hyy hy2))
              clear hd hd16 hy hy2 hyy
              by_cases hz : d = 0
              · subst hz
                have he : y2 = y := HZ.out.2.1
                go_wp2_with (first
                  | (go_at_call 113; refine HDk.out.mono ?_; rintro e w8 ⟨rfl, rfl⟩))
                go_roundg (gk - 1)
                all_goals first
                  | omega
                  | exact ⟨1, by omega, by go_num, ⟨by rw [← HZ.out.2.2, he]; exact P.out⟩⟩
              · have hdp : (0 : Int) < d := by omega
                go_upto_region 15 with (first
                  | (go_at_call 113; refine HDk.out.mono ?_; rintro e w8 ⟨rfl, rfl⟩))
                have he : y2 = G.A y (f d) := by have h1 := HZ.out.2.1; rw [if_neg hz] at h1; exact h1
                have hrd := Aside0.mk (P.out.at0 (g := fun i => G.R (g i)) (fun i => G.len (f i)) HV.out HZ.out.1)
                clear hz
                refine start_ (n := 8) (S := fun w' => Below w8.heap.size w8 w') (ds := [7]) (fl 8 0) (by kernel_rfl) rfl rfl (below_drew1 (Below.refl _ _)) (fun hHeld => ?_)
                refine with_tabW mixR.tab15 mixR.bits15 (fun HT_ HW_ => ?_)
                refine takeA (i := 0) (N := some 50) (v := .agg (cells64 (G.R y))) (fl 8 1) (take_ofW HT_.out HW_.out (by kernel_rfl)) hHeld ?_ (hy := fun w' s0 => run_row w' 52 (.tmp 10) rfl go (by rfl) 52 (cells64 (G.R y)) (0, 0) _ (P.out.o.below s0) Tryd.underlying52 rfl (by rw [size20' (G.len _)]; exact info20))
                refine pB 1 51 8 3 ?_
                refine pB 2 52 8 7 ?_
                refine pB 3 53 8 15 ?_
                refine pB 4 54 8 31 ?_
                refine takeA (i := 5) (N := some 55) (v := .agg (cells64 (G.R (f d)))) (fl 8 63) (take_ofW HT_.out HW_.out (by kernel_rfl)) hHeld ?_ (hy := fun w' s0 => run_atx w' 52 (.tmp 54) rfl gv (d * 20) (by rfl) (G.R (f d)) _ (rangeAt_below hrd.out s0) Tryd.underlying52 (by rfl) (by rw [size20' (G.len _)]; exact info20))
                refine one_ (i := 6) (N := some 56) (fl 8 127) rfl rfl (one_of HT_.out (by kernel_rfl)) (by decide) (fun K_ hK => ?_)
                refine goes_ Tryd.func21 (by kernel_rfl) rfl #[.agg (cells64 (G.R y)), .agg (cells64 (G.R (f d)))] (by rfl) rfl rfl eqA ?_
                with_reducible refine (G.kA y (f d) _ (HG.out.below (below_step P.out.b hHeld))).mono ?_
                rintro e w9 ⟨rfl, hb⟩
                refine ⟨_, rfl, ?_⟩
                have hHeld2 := below_step hHeld hb
                clear hHeld hb
                refine hK.out _ _ hHeld2 (fun hHeld => ?_)
                clear hK K_ hHeld2
                refine normA (some 56) ?_
                have P9 := Aside0.mk (P.out.below hHeld)
                refine last_ (i := 7) (N := none) (fl 8 255) rfl rfl (one_of HT_.out (by kernel_rfl)) (by decide) (fun K_ hK => ?_)
                refine skip_ (w1 := w9.setRow go (cells64 (G.R (G.A y (f d))))) (by rfl) rfl (run_put w9 52 (.tmp 10) (.tmp 56) rfl go (cells64 (G.R (G.A y (f d)))) (by rfl) (by rfl) 52 (cells64 (G.R y)) P9.out.o (by rw [size20' (G.len _)]; exact info20) (by rw [size20' (G.len _), size20' (G.len _)]) (ones64 _)) ?_
                refine hK.out _ _ ?_
                clear hK K_ hHeld
                refine done_ (done_of HT_.out (by kernel_rfl)) ?_
                clear HT_ HW_
                go_wp2
                go_roundg (gk - 1)
                all_goals first
                  | omega
                  | exact ⟨1, by omega, by go_num, ⟨by rw [← HZ.out.2.2, he]; exact P9.out.put _⟩⟩
            | 1, hij =>
              have HDk := Aside0.mk ((HD.out wr P.out.b k HK8.out).2)
              obtain ⟨d, hd⟩ : ∃ d, d = dig m k := ⟨_, rfl⟩
              have hd16 : d < 16 := by rw [hd]; exact dig_lt _ _
              have hdI : (d : Int) < 16 := by omega
              have hd0 : (0 : Int) ≤ d := by omega
              obtain ⟨y, hy⟩ : ∃ y, y = G.two f g (dig n k) (dig m k) (G.dn x 4) 1 := ⟨_, rfl⟩
              obtain ⟨y2, hy2⟩ : ∃ y2, y2 = G.two f g (dig n k) (dig m k) (G.dn x 4) 2 := ⟨_, rfl⟩
              have hyy : y2 = if d = 0 then y else G.A y (g d) := by rw [hy2, hy, hd]; exact GP.two2 _ _ _ _ _ _
              rw [← hd] at HDk
              rw [← hy] at P
              have HZ := Lib.hid (And.intro hd16 (And.intro hyy hy2))
              clear hd hd16 hy hy2 hyy
              by_cases hz : d = 0
              · subst hz
                have he : y2 = y := HZ.out.2.1
                go_wp2_with (first
                  | (go_at_call 113; refine HDk.out.mono ?_; rintro e w8 ⟨rfl, rfl⟩))
                go_roundg (gk - 1)
                all_goals first
                  | omega
                  | exact ⟨2, by omega, by go_num, ⟨by rw [← HZ.out.2.2, he]; exact P.out⟩⟩
              · have hdp : (0 : Int) < d := by omega
                go_upto_region 15 with (first
                  | (go_at_call 113; refine HDk.out.mono ?_; rintro e w8 ⟨rfl, rfl⟩))
                have he : y2 = G.A y (g d) := by have h1 := HZ.out.2.1; rw [if_neg hz] at h1; exact h1
                have hrd := Aside0.mk (P.out.at1 (f := fun i => G.R (f i)) (fun i => G.len (f i)) (fun i => G.len (g i)) HV.out HZ.out.1)
                clear hz
                refine start_ (n := 8) (S := fun w' => Below w8.heap.size w8 w') (ds := [7]) (fl 8 0) (by kernel_rfl) rfl rfl (below_drew1 (Below.refl _ _)) (fun hHeld => ?_)
                refine with_tabW mixR.tab15 mixR.bits15 (fun HT_ HW_ => ?_)
                refine takeA (i := 0) (N := some 50) (v := .agg (cells64 (G.R y))) (fl 8 1) (take_ofW HT_.out HW_.out (by kernel_rfl)) hHeld ?_ (hy := fun w' s0 => run_row w' 52 (.tmp 10) rfl go (by rfl) 52 (cells64 (G.R y)) (0, 0) _ (P.out.o.below s0) Tryd.underlying52 rfl (by rw [size20' (G.len _)]; exact info20))
                refine pB 1 51 8 3 ?_
                refine pB 2 52 8 7 ?_
                refine pB 3 53 8 15 ?_
                refine pB 4 54 8 31 ?_
                refine takeA (i := 5) (N := some 55) (v := .agg (cells64 (G.R (g d)))) (fl 8 63) (take_ofW HT_.out HW_.out (by kernel_rfl)) hHeld ?_ (hy := fun w' s0 => run_atx w' 52 (.tmp 54) rfl gv (320 + d * 20) (by rfl) (G.R (g d)) _ (rangeAt_below hrd.out s0) Tryd.underlying52 (by rfl) (by rw [size20' (G.len _)]; exact info20))
                refine one_ (i := 6) (N := some 56) (fl 8 127) rfl rfl (one_of HT_.out (by kernel_rfl)) (by decide) (fun K_ hK => ?_)
                refine goes_ Tryd.func21 (by kernel_rfl) rfl #[.agg (cells64 (G.R y)), .agg (cells64 (G.R (g d)))] (by rfl) rfl rfl eqA ?_
                with_reducible refine (G.kA y (g d) _ (HG.out.below (below_step P.out.b hHeld))).mono ?_
                rintro e w9 ⟨rfl, hb⟩
                refine ⟨_, rfl, ?_⟩
                have hHeld2 := below_step hHeld hb
                clear hHeld hb
                refine hK.out _ _ hHeld2 (fun hHeld => ?_)
                clear hK K_ hHeld2
                refine normA (some 56) ?_
                have P9 := Aside0.mk (P.out.below hHeld)
                refine last_ (i := 7) (N := none) (fl 8 255) rfl rfl (one_of HT_.out (by kernel_rfl)) (by decide) (fun K_ hK => ?_)
                refine skip_ (w1 := w9.setRow go (cells64 (G.R (G.A y (g d))))) (by rfl) rfl (run_put w9 52 (.tmp 10) (.tmp 56) rfl go (cells64 (G.R (G.A y (g d)))) (by rfl) (by rfl) 52 (cells64 (G.R y)) P9.out.o (by rw [size20' (G.len _)]; exact info20) (by rw [size20' (G.len _), size20' (G.len _)]) (ones64 _)) ?_
                refine hK.out _ _ ?_
                clear hK K_ hHeld
                refine done_ (done_of HT_.out (by kernel_rfl)) ?_
                clear HT_ HW_
                go_wp2
                go_roundg (gk - 1)
                all_goals first
                  | omega
                  | exact ⟨2, by omega, by go_num, ⟨by rw [← HZ.out.2.2, he]; exact P9.out.put _⟩⟩
            | 2, hij =>
              have HP := P
              clear P
              go_wp2
              go_roundg k
              case measure => omega
              case rel => exact ⟨by go_num, by have := HX.out.2; omega, _, HX.out.1, HP.out⟩
            | i + 3, hij => omega
/-- The points as they are reckoned. -/
def GPn : GP where
  T := {p : Pnt // p.ok}
  R := fun p => p.1.L
  len := fun _ => rfl
  z := ⟨p0, p0_ok⟩
  D := fun p => ⟨p.1.dbl, dbl_ok _⟩
  A := fun p q => ⟨p.1.sum q.1, sum_ok _ _⟩
  kZ := PZero
  kD := fun p w => PDbl p.1 p.2 w
  kA := fun p q w hG => PAdd p.1 q.1 p.2 q.2 w hG
def mulP (p : Pnt) (i : Nat) : GPn.T := ⟨p.mul i, mul_ok p i⟩
/-- Both numbers times the points, added up. -/
def mixP (n : List Int) (p : Pnt) (m : List Int) (q : Pnt) : Pnt := (GPn.run (mulP p) (mulP q) n m (2 * max n.length m.length) GPn.z).1
theorem mixP_ok (n : List Int) (p : Pnt) (m : List Int) (q : Pnt) : (mixP n p m q).ok := Subtype.property _
theorem PMix (n m : List Int) (p q : Pnt) (hp : p.ok) (hq : q.ok) (An Am : Option Addr) (cn cm : Nat) (hnl : n.length ≤ 32) (hml : m.length ≤ 32) (hnb : ∀ i, 0 ≤ n.getD i 0 ∧ n.getD i 0 < 256) (hmb : ∀ i, 0 ≤ m.getD i 0 ∧ m.getD i 0 < 256)
    (w : World) (hG : Gc w) (hn : Kd.C (Kd.int .u8) w An n.length n) (hm : Kd.C (Kd.int .u8) w Am m.length m) :
    Calls Tryd.prog 59 #[.slice An n.length cn, Vp p, .slice Am m.length cm, Vp q] w fun e w' => e = .returned (Vp (mixP n p m q)) ∧ Below w.heap.size w w' :=
  Mix_w GPn p.L q.L _ _ _ (mulP p) (mulP q) rfl rfl rfl rfl rfl (fun w hG => PWindow p hp w hG) (fun w hG => PWindow q hq w hG) An Am cn cm n m hnl hml hnb hmb w hG hn hm
end Go.Proofs.YtbenedckmapjoaaDoor.F
