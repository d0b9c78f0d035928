/- Plain lemmas for one law. -/
import Derived.Test.YtcnpdapampclpaaDoorPRax1
import Derived.Test.YtcnpdapampclpaaDoorPRbx1
import Derived.Test.YtcnpdapampclpaaDoorJ2
import Derived.Test.YtcnpdapampclpaaDoorJ3
import Derived.Test.YtcnpdapampclpaaDoorJ4
import Derived.Test.YtcnpdapampclpaaDoorH
set_option linter.unusedVariables false
namespace Go.Proofs.YtcnpdapampclpaaDoor.PRa
open Go.RowKit Go.Proofs.YtcnpdapampclpaaDoorW.PrintWords Go.Proofs.YtcnpdapampclpaaDoorW.PrintLast Go.Proofs.YtcnpdapampclpaaDoorW.PrintMore Go.Proofs.YtcnpdapampclpaaDoor.X Go.Proofs.YtcnpdapampclpaaDoor.H Go.Proofs.YtcnpdapampclpaaDoor.PPl Go.Proofs.YtcnpdapampclpaaDoor.PPm Go.Proofs.YtcnpdapampclpaaDoor.PTp
theorem refhalf_l (n : Nat) (h : 2 ≤ n) (h' : n ≤ 1000000) : ∀ (d j k : Nat), j + d = Nat.log2 (n - 1) → imprimaturref06_Half.l0 (k + d + 1) n ((2 ^ j : Nat) : Int) = some (hf n : Int) := by
  intro d
  induction d with
  | zero =>
    intro j k hj
    have h5 := hf_lt h
    have h6 := hf_le h
    obtain rfl : j = Nat.log2 (n - 1) := by omega
    rw [show (2 ^ Nat.log2 (n - 1) : Nat) = hf n from rfl, imprimaturref06_Half.l0, w64 (x := (hf n : Int) * 2) (by omega) (by omega), if_neg (by omega)]
  | succ d ih =>
    intro j k hj
    have h7 : 2 ^ (j + 1) ≤ n - 1 := (Nat.le_log2 (by omega)).1 (by omega)
    have h8 : (((2 ^ j : Nat) : Int) * 2) = ((2 ^ (j + 1) : Nat) : Int) := by rw [Nat.pow_succ]; simp
    have h9 := ih (j + 1) k (by omega)
    rw [show k + (d + 1) + 1 = (k + d + 1) + 1 by omega, imprimaturref06_Half.l0, h8]
    generalize 2 ^ (j + 1) = P at *
    rw [w64 (x := (P : Int)) (by omega) (by omega), if_pos (by omega)]
    exact h9
theorem refhalf_eq (n : Nat) (h : 2 ≤ n) (h' : n ≤ 1000000) (k : Nat) (hk : 30 ≤ k) : imprimaturref06_Half.f k (n : Int) = some (hf n : Int) := by
  have hl : Nat.log2 (n - 1) < 20 := by
    rw [Nat.log2_lt (by omega)]
    have : (2:Nat) ^ 20 = 1048576 := by decide
    omega
  have := refhalf_l n h h' (Nat.log2 (n - 1)) 0 (k - Nat.log2 (n - 1) - 1) (by omega)
  rw [show k - Nat.log2 (n - 1) - 1 + Nat.log2 (n - 1) + 1 = k by omega] at this
  exact this
def tq (x : Int) : Int := IntKind.u64.wrap (Int.tdiv x 256)
theorem tq_eq {x : Int} (h : 0 ≤ x) (h' : x < 18446744073709551616) : tq x = x / 256 := by
  unfold tq
  rw [Int.tdiv_eq_ediv_of_nonneg h]
  show x / 256 % 18446744073709551616 = _
  omega
theorem tm_eq {x : Int} (h : 0 ≤ x) : Int.tmod x 256 % 256 = x % 256 := by rw [Int.tmod_eq_emod_of_nonneg h]; omega
theorem refeight_raw (k : Nat) (n : Int) : imprimaturref06_Eight.f (k + 9) n = some [Int.tmod (tq (tq (tq (tq (tq (tq (tq (IntKind.u64.wrap n)))))))) 256 % 256, Int.tmod (tq (tq (tq (tq (tq (tq (IntKind.u64.wrap n))))))) 256 % 256, Int.tmod (tq (tq (tq (tq (tq (IntKind.u64.wrap n)))))) 256 % 256, Int.tmod (tq (tq (tq (tq (IntKind.u64.wrap n))))) 256 % 256, Int.tmod (tq (tq (tq (IntKind.u64.wrap n)))) 256 % 256, Int.tmod (tq (tq (IntKind.u64.wrap n))) 256 % 256, Int.tmod (tq (IntKind.u64.wrap n)) 256 % 256, Int.tmod (IntKind.u64.wrap n) 256 % 256] := by kernel_rfl
theorem refeight_eq (k : Nat) (n : Int) (hk : 9 ≤ k) : imprimaturref06_Eight.f k n = some (e8 n) := by
  obtain ⟨k, rfl⟩ : ∃ j, k = j + 9 := ⟨k - 9, by omega⟩
  rw [refeight_raw]
  obtain ⟨u, hu⟩ : ∃ u, u = IntKind.u64.wrap n := ⟨_, rfl⟩
  have hu2 : u = n % 18446744073709551616 := hu
  rw [← hu]
  unfold e8
  rw [← hu2]
  have h0 : 0 ≤ u := by omega
  have h1 : u < 18446744073709551616 := by omega
  clear hu hu2
  rw [tq_eq h0 h1, tq_eq (x := u / 256) (by omega) (by omega), tq_eq (x := u / 256 / 256) (by omega) (by omega), tq_eq (x := u / 256 / 256 / 256) (by omega) (by omega), tq_eq (x := u / 256 / 256 / 256 / 256) (by omega) (by omega), tq_eq (x := u / 256 / 256 / 256 / 256 / 256) (by omega) (by omega), tq_eq (x := u / 256 / 256 / 256 / 256 / 256 / 256) (by omega) (by omega)]
  rw [tm_eq h0, tm_eq (x := u / 256) (by omega), tm_eq (x := u / 256 / 256) (by omega), tm_eq (x := u / 256 / 256 / 256) (by omega), tm_eq (x := u / 256 / 256 / 256 / 256) (by omega), tm_eq (x := u / 256 / 256 / 256 / 256 / 256) (by omega), tm_eq (x := u / 256 / 256 / 256 / 256 / 256 / 256) (by omega), tm_eq (x := u / 256 / 256 / 256 / 256 / 256 / 256 / 256) (by omega)]
  have e1 : u / 256 / 256 = u / 65536 := by omega
  have e2 : u / 256 / 256 / 256 = u / 16777216 := by omega
  have e3 : u / 256 / 256 / 256 / 256 = u / 4294967296 := by omega
  have e4 : u / 256 / 256 / 256 / 256 / 256 = u / 1099511627776 := by omega
  have e5 : u / 256 / 256 / 256 / 256 / 256 / 256 = u / 281474976710656 := by omega
  have e6 : u / 256 / 256 / 256 / 256 / 256 / 256 / 256 = u / 72057594037927936 := by omega
  rw [e6, e5, e4, e3, e2, e1]
theorem hash_eq {t : List Int} (hb : BytesB t) (hl : t.length ≤ 1048576) : imprimaturref02_Hash256.f t = some (dig t) := by
  unfold imprimaturref02_Hash256.f
  rw [if_pos ⟨isBytes_of hb, hl⟩]
theorem headhash {n : Int} {t : List Int} (hb : BytesB t) (ht : t.length ≤ 200000) : imprimaturref02_Hash256.f (18 :: (e8 n ++ t)) = some (dig (18 :: (e8 n ++ t))) :=
  hash_eq (isBytes_cons (by decide) (isBytes_app (e8_bytes n) hb)) (by have := e8_length n; simp; omega)
end Go.Proofs.YtcnpdapampclpaaDoor.PRa
namespace Go.Proofs.YtcnpdapampclpaaDoor.PRb
open Go.RowKit Go.Proofs.YtcnpdapampclpaaDoorW.PrintWords Go.Proofs.YtcnpdapampclpaaDoorW.PrintLast Go.Proofs.YtcnpdapampclpaaDoorW.PrintMore Go.Proofs.YtcnpdapampclpaaDoor.X Go.Proofs.YtcnpdapampclpaaDoor.H Go.Proofs.YtcnpdapampclpaaDoor.PPl Go.Proofs.YtcnpdapampclpaaDoor.PPm Go.Proofs.YtcnpdapampclpaaDoor.PTp Go.Proofs.YtcnpdapampclpaaDoor.PRa
theorem text_f {a : Int} {x y : List Int} (hx : x.length ≤ 200000) (hy : y.length ≤ 200000) : imprimaturref20_text.f a x y = some (a :: (x ++ y)) := by
  unfold imprimaturref20_text.f
  rw [Option.bind_some, if_pos (by simp; omega), Option.bind_some, if_pos (by simp; omega)]
  simp
theorem marktext_f {x : List Int} (hx : x.length ≤ 200000) : imprimaturref20_MarkText.f x = some (16 :: x) := by
  unfold imprimaturref20_MarkText.f
  rw [text_f hx (by simp), Option.bind_some, List.append_nil]
theorem mark_f {x : List Int} (hb : BytesB x) (hx : x.length ≤ 200000) : imprimaturref20_Mark.f x = some (dig (16 :: x)) := by
  unfold imprimaturref20_Mark.f
  rw [marktext_f hx, Option.bind_some, hash_eq (isBytes_cons (by decide) hb) (by simp; omega), Option.bind_some]
theorem marks_l (l : List (List Int)) (hb : ∀ x ∈ l, BytesB x ∧ x.length ≤ 200000) (hl : l.length ≤ 100000) : ∀ (d k i : Nat), i + d = l.length → imprimaturref20_Marks.l0 (k + d + 1) l ((l.take i).map fun x => dig (16 :: x)) i = some (l.map fun x => dig (16 :: x)) := by
  intro d
  induction d with
  | zero =>
    intro k i hi
    rw [imprimaturref20_Marks.l0, if_neg (by omega), show i = l.length by omega, List.take_length]
  | succ d ih =>
    intro k i hi
    have hm := hb (l.getD i []) (by rw [List.getD_eq_getElem?_getD, List.getElem?_eq_getElem (by omega)]; exact List.getElem_mem _)
    rw [show k + (d + 1) + 1 = (k + d + 1) + 1 by omega, imprimaturref20_Marks.l0, if_pos (by omega), if_pos (by omega), show rd_L1 l (i : Int) = l.getD i [] by unfold rd_L1; rw [Int.toNat_natCast], mark_f hm.1 hm.2, Option.bind_some, if_pos (by rw [List.length_map, List.length_take]; omega), w64 (x := (i : Int) + 1) (by omega) (by omega), show (i : Int) + 1 = ((i + 1 : Nat) : Int) by omega]
    have := ih k (i + 1) (by omega)
    rw [take_next l [] i (by omega), List.map_append] at this
    exact this
theorem marks_f (l : List (List Int)) (hb : ∀ x ∈ l, BytesB x ∧ x.length ≤ 200000) (hl : l.length ≤ 100000) (k : Nat) (hk : l.length < k) : imprimaturref20_Marks.f k l = some (l.map fun x => dig (16 :: x)) := by
  unfold imprimaturref20_Marks.f
  have := marks_l l hb hl l.length (k - l.length - 1) 0 (by omega)
  rw [show k - l.length - 1 + l.length + 1 = k by omega] at this
  exact this
theorem top_f : ∀ (n : Nat) (l : List (List Int)) (k : Nat), l.length = n → Lv l → 1 ≤ n → n ≤ 1000000 → n + 31 ≤ k → imprimaturref20_Top.f k l = some (topL l) := by
  intro n
  induction n using Nat.strongRecOn with
  | _ n ih =>
    intro l k hl hv h1 h2 hk
    obtain ⟨k, rfl⟩ : ∃ j, k = j + 1 := ⟨k - 1, by omega⟩
    rw [imprimaturref20_Top.f]
    by_cases h : n = 1
    · rw [if_pos (by omega), if_pos (by omega), topL_one (by omega)]
      rfl
    · have h3 := hf_pos n
      have h4 := hf_lt (n := n) (by omega)
      have t1 : (l.take (hf n)).length = hf n := by rw [List.length_take]; omega
      have t2 : (l.drop (hf n)).length = n - hf n := by rw [List.length_drop]; omega
      have x1 := topL_32 (hv.take (hf n)) (by omega)
      have x2 := topL_32 (hv.drop (hf n)) (by omega)
      rw [if_neg (by omega), hl, refhalf_eq n (by omega) h2 k (by omega), Option.bind_some, if_pos (by omega), if_pos (by omega), Int.toNat_natCast, ih (hf n) h4 _ k t1 (hv.take _) h3 (by omega) (by omega), Option.bind_some, ih (n - hf n) (by omega) _ k t2 (hv.drop _) (by omega) (by omega) (by omega), Option.bind_some, text_f (by omega) (by omega), Option.bind_some, hash_eq (isBytes_cons (by decide) (isBytes_app x1.2 x2.2)) (by simp; omega), Option.bind_some, topL_node (l := l) (by omega), hl]
theorem headtext_f {k : Nat} {n : Int} {t : List Int} (hk : 9 ≤ k) (ht : t.length ≤ 200000) : imprimaturref20_HeadText.f k n t = some (18 :: (e8 n ++ t)) := by
  unfold imprimaturref20_HeadText.f
  rw [refeight_eq k n hk, Option.bind_some, text_f (by rw [e8_length]; omega) ht, Option.bind_some]
theorem headnil_f (k : Nat) (hk : 9 ≤ k) : imprimaturref20_Head.f k [] = some (dig (18 :: (e8 0 ++ []))) := by
  unfold imprimaturref20_Head.f
  rw [if_pos (show ((([] : List (List Int)).length : Nat) : Int) = 0 from rfl), headtext_f hk (by simp), Option.bind_some, headhash (by intro x hx; cases hx) (by simp), Option.bind_some]
theorem head_f (l : List (List Int)) (k : Nat) (hv : Lv l) (h1 : 1 ≤ l.length) (h2 : l.length ≤ 1000000) (hk : l.length + 31 ≤ k) : imprimaturref20_Head.f k l = some (dig (18 :: (e8 l.length ++ topL l))) := by
  have x := topL_32 hv h1
  unfold imprimaturref20_Head.f
  rw [if_neg (by omega), top_f l.length l k rfl hv h1 h2 hk, Option.bind_some, headtext_f (by omega) (by omega), Option.bind_some, headhash x.2 (by omega), Option.bind_some]
end Go.Proofs.YtcnpdapampclpaaDoor.PRb
