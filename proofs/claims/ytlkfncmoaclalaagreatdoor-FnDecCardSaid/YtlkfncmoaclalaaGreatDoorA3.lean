/- Part 3 of the lemmas that the claim rests on: an abstract machine over the model, what it is sound for, and the contracts of the functions that the law reaches. -/
import Derived.Test.YtlkfncmoaclalaaGreatDoorA2
import Derived.Lib.ItoaNum
set_option linter.unusedSimpArgs false
set_option linter.unusedVariables false
set_option maxHeartbeats 4000000
/- Decimals: digits and the numbers that they write -/
namespace Pf
open Go Go.Proofs
/-- The number that digits write. -/
def dval (s : List UInt8) : Nat := s.foldl (fun a c => a * 10 + (c.toNat - 48)) 0
theorem dval_snoc (s : List UInt8) (c : UInt8) : dval (s ++ [c]) = dval s * 10 + (c.toNat - 48) := by simp [dval, List.foldl_append]
theorem dval_one (c : UInt8) : dval [c] = c.toNat - 48 := by simp [dval]
theorem dval_app (t : List UInt8) : ∀ s, dval (s ++ t) = dval s * 10 ^ t.length + dval t := by
  induction t with
  | nil => intro s; simp [dval]
  | cons c t ih =>
    intro s
    have h1 := ih (s ++ [c])
    have h2 := ih [c]
    rw [List.append_assoc] at h1
    simp only [List.singleton_append] at h1 h2
    rw [h1, h2, dval_snoc, List.length_cons, Nat.pow_succ, dval_one, Nat.add_mul, Nat.mul_assoc, Nat.mul_comm 10, Nat.add_assoc]
theorem dval_lt : ∀ {s : List UInt8}, s.all dB = true → dval s < 10 ^ s.length := by
  intro s
  induction s with
  | nil => intro _; simp [dval]
  | cons c t ih =>
    intro h
    simp only [List.all_cons, Bool.and_eq_true] at h
    have h1 := dB_iff.1 h.1
    have h2 := ih h.2
    have h3 := dval_app t [c]
    simp only [List.singleton_append] at h3
    rw [h3, List.length_cons, Nat.pow_succ, dval_one]
    have h4 : (c.toNat - 48) * 10 ^ t.length ≤ 9 * 10 ^ t.length := Nat.mul_le_mul_right _ (by omega)
    omega
theorem dval_zeros (k : Nat) : dval (List.replicate k 48) = 0 := by
  induction k with
  | zero => rfl
  | succ k ih => rw [List.replicate_succ', dval_snoc, ih]; rfl
theorem dval_pad (k : Nat) (s : List UInt8) : dval (List.replicate k 48 ++ s) = dval s := by rw [dval_app, dval_zeros]; omega
theorem dig_byte {k : Nat} (h : k < 10) : dB (UInt8.ofNat (48 + k)) = true ∧ (UInt8.ofNat (48 + k)).toNat - 48 = k := by
  have e : (UInt8.ofNat (48 + k)).toNat = 48 + k := by rw [UInt8.toNat_ofNat']; omega
  exact ⟨dB_iff.2 (by omega), by omega⟩
theorem dec_small {u : Nat} (h : u < 10) : Lib.decDigits u = [UInt8.ofNat (48 + u)] := by rw [Lib.decDigits, dif_pos h]
theorem dec_big {u : Nat} (h : ¬ u < 10) : Lib.decDigits u = Lib.decDigits (u / 10) ++ [UInt8.ofNat (48 + u % 10)] := by rw [Lib.decDigits, dif_neg h]
theorem dec_ok : ∀ u : Nat, (Lib.decDigits u).all dB = true ∧ dval (Lib.decDigits u) = u ∧ (u ≠ 0 → (Lib.decDigits u).getD 0 0 ≠ 48) := by
  intro u
  induction u using Nat.strongRecOn with
  | ind u ih =>
    by_cases h : u < 10
    · obtain ⟨h1, h2⟩ := dig_byte h
      rw [dec_small h]
      refine ⟨by simpa using h1, by rw [dval_one, h2], fun h3 k => ?_⟩
      simp only [List.getD_cons_zero] at k
      rw [k] at h2
      exact h3 h2.symm
    · obtain ⟨i1, i2, i3⟩ := ih (u / 10) (by omega)
      obtain ⟨h1, h2⟩ := dig_byte (k := u % 10) (by omega)
      have hl : 0 < (Lib.decDigits (u / 10)).length := by rw [Lib.decDigits_length]; exact Lib.nDigits_pos _
      rw [dec_big h]
      refine ⟨by rw [List.all_append, i1, List.all_cons, h1]; rfl, by rw [dval_snoc, i2, h2]; omega, fun _ => ?_⟩
      have := i3 (by omega)
      rwa [List.getD_eq_getElem?_getD, List.getElem?_append_left hl, ← List.getD_eq_getElem?_getD]
theorem dec_len (u : Nat) : (Lib.decDigits u).length = Lib.nDigits u := Lib.decDigits_length u
theorem dec_pos (u : Nat) : 1 ≤ (Lib.decDigits u).length := by rw [dec_len]; exact Lib.nDigits_pos u
theorem nDig_le : ∀ {k u : Nat}, u < 10 ^ k → 1 ≤ k → Lib.nDigits u ≤ k := by
  intro k
  induction k with
  | zero => intro u _ h; omega
  | succ k ih =>
    intro u hu _
    by_cases h : u < 10
    · rw [Lib.nDigits_small h]; omega
    · rw [Lib.nDigits_big h]
      rw [Nat.pow_succ] at hu
      have h1 : u / 10 < 10 ^ k := by omega
      have h2 : 1 ≤ k := by
        cases k with
        | zero => simp at hu; omega
        | succ k => omega
      have := ih h1 h2
      omega
/-- A number in k digits. -/
def padD (k r : Nat) : List UInt8 := List.replicate (k - (Lib.decDigits r).length) 48 ++ Lib.decDigits r
theorem pad_succ {k : Nat} (hk : 1 ≤ k) (r : Nat) : padD (k + 1) r = padD k (r / 10) ++ [UInt8.ofNat (48 + r % 10)] := by
  unfold padD
  by_cases h : r < 10
  · have e0 : r / 10 = 0 := by omega
    have e1 : r % 10 = r := by omega
    rw [dec_small h, e0, e1, dec_small (by omega : 0 < 10)]
    simp only [List.length_cons, List.length_nil]
    have e2 : List.replicate (k + 1 - 1) (48 : UInt8) = List.replicate (k - 1) 48 ++ [UInt8.ofNat (48 + 0)] := by
      rw [show k + 1 - 1 = (k - 1) + 1 by omega, List.replicate_succ']; rfl
    rw [e2, List.append_assoc]
  · rw [dec_big h, List.length_append]
    simp only [List.length_cons, List.length_nil]
    rw [show k + 1 - ((Lib.decDigits (r / 10)).length + (0 + 1)) = k - (Lib.decDigits (r / 10)).length by omega, List.append_assoc]
theorem dec_split : ∀ {k : Nat}, 1 ≤ k → ∀ {u : Nat}, 10 ^ k ≤ u → Lib.decDigits u = Lib.decDigits (u / 10 ^ k) ++ padD k (u % 10 ^ k) := by
  intro k
  induction k with
  | zero => intro h; omega
  | succ k ih =>
    intro _ u hu
    by_cases hk : 1 ≤ k
    · have hu10 : ¬ u < 10 := by
        have : 10 ^ 1 ≤ 10 ^ (k + 1) := Nat.pow_le_pow_right (by omega) (by omega)
        omega
      have h1 : 10 ^ k ≤ u / 10 := by rw [Nat.pow_succ] at hu; omega
      have e1 : u / 10 / 10 ^ k = u / 10 ^ (k + 1) := by rw [Nat.div_div_eq_div_mul, Nat.pow_succ, Nat.mul_comm]
      have e2 : u % 10 ^ (k + 1) / 10 = u / 10 % 10 ^ k := by
        rw [Nat.pow_succ, Nat.mul_comm (10 ^ k) 10, Nat.mod_mul]
        have := Nat.mod_lt u (by omega : 0 < 10)
        omega
      have e3 : u % 10 ^ (k + 1) % 10 = u % 10 := by
        rw [Nat.pow_succ, Nat.mod_mul_left_mod]
      rw [dec_big hu10, ih hk h1, e1, pad_succ hk, e2, e3, List.append_assoc]
    · have : k = 0 := by omega
      subst this
      simp only [Nat.zero_add, Nat.pow_one] at hu ⊢
      rw [dec_big (by omega)]
      unfold padD
      rw [dec_small (by omega : u % 10 < 10)]
      simp
theorem pad_len {k r : Nat} (h : r < 10 ^ k) (hk : 1 ≤ k) : (padD k r).length = k := by
  unfold padD
  have := nDig_le h hk
  rw [List.length_append, List.length_replicate, dec_len]
  omega
theorem pad_all (k r : Nat) : (padD k r).all dB = true := by
  unfold padD
  rw [List.all_append, (dec_ok r).1, Bool.and_true]
  exact List.all_eq_true.2 fun x hx => by rw [(List.mem_replicate.1 hx).2]; decide
theorem pad_val (k r : Nat) : dval (padD k r) = r := by unfold padD; rw [dval_pad, (dec_ok r).2.1]
/-- The text of q over 10 ^ n. -/
def decT (n q : Nat) : List UInt8 :=
  if n = 0 then Lib.decDigits q else (padD (n + 1) q).take ((padD (n + 1) q).length - n) ++ 46 :: (padD (n + 1) q).drop ((padD (n + 1) q).length - n)
theorem pad_ge (k r : Nat) : k ≤ (padD k r).length ∧ (Lib.decDigits r).length ≤ (padD k r).length ∧ (padD k r).length ≤ max k (Lib.decDigits r).length := by
  unfold padD
  rw [List.length_append, List.length_replicate]
  omega
theorem decT_len (n q : Nat) : (decT n q).length = if n = 0 then (Lib.decDigits q).length else (padD (n + 1) q).length + 1 := by
  unfold decT
  split
  · rfl
  · have := pad_ge (n + 1) q
    rw [List.length_append, List.length_cons, List.length_take, List.length_drop]
    omega
/-- The parts of a literal: ahead of the point, behind it, the power. -/
def litA (s : List UInt8) : List UInt8 := cutL (cutL s 101) 46
def litB (s : List UInt8) : List UInt8 := cutR (cutL s 101) 46
def atoiV (w : List UInt8) : Int := match Lib.atoiAll w with | .ok v => v | _ => 0
open Classical in
noncomputable def litN (s : List UInt8) : Int :=
  if 101 ∈ s then (if (cutR s 101).head? = some 45 then -(atoiV (cutP (cutR s 101) 45)) else atoiV (cutP (cutR s 101) 45)) else 0
theorem cutL_self {s : List UInt8} {c : UInt8} (h : c ∉ s) : cutL s c = s ∧ cutR s c = [] := by
  have := (indexByte_cut s c).2 h
  exact ⟨this.2.1, this.2.2⟩
theorem cutL_in {a t : List UInt8} {c : UInt8} (h : c ∉ a) : cutL (a ++ c :: t) c = a ∧ cutR (a ++ c :: t) c = t := by
  obtain ⟨h1, h2⟩ := cutL_app h (c :: t)
  obtain ⟨h3, h4⟩ := cutL_hd c t
  rw [h1, h2, h3, h4, List.append_nil]
  exact ⟨rfl, rfl⟩
theorem cutL_not (s : List UInt8) (c : UInt8) : c ∉ cutL s c := fun h => by
  have h1 : (s.takeWhile (· != c)).all (· != c) = true := List.all_takeWhile
  have h2 := List.all_eq_true.1 h1 c h
  simp at h2
theorem cut_back {s : List UInt8} {c : UInt8} (h : c ∈ s) : s = cutL s c ++ c :: cutR s c := by
  obtain ⟨h1, h2, h3, h4⟩ := (indexByte_cut s c).1 h
  have h5 : s = s.take ((cutL s c).length) ++ s.drop ((cutL s c).length) := (List.take_append_drop _ _).symm
  rw [h3] at h5
  have h6 : s.drop ((cutL s c).length) = s.getD ((cutL s c).length) 0 :: s.drop ((cutL s c).length + 1) := by
    rw [List.drop_eq_getElem_cons h2, List.getD_eq_getElem?_getD, List.getElem?_eq_getElem h2, Option.getD_some]
  rw [h4] at h6
  rw [h6] at h5
  have h7 : s.getD ((cutL s c).length) 0 = c := by
    by_cases hc : s.getD ((cutL s c).length) 0 = c
    · exact hc
    · exfalso
      have h8 : c ∈ cutL s c ++ s.getD ((cutL s c).length) 0 :: cutR s c := by rw [← h5]; exact h
      rcases List.mem_append.1 h8 with h8 | h8
      · exact cutL_not s c h8
      · have h9 : cutL s c = cutL s c ++ s.getD ((cutL s c).length) 0 :: cutL (cutR s c) c := by
          conv => lhs; rw [h5]
          rw [(cutL_app (cutL_not s c) _).1, (cutL_tl hc _).1]
        have := congrArg List.length h9
        simp at this
  rwa [h7] at h5
end Pf
/- Whole numbers: differences and products. -/
namespace Pf
open Go Go.Proofs

theorem val_split (l : List Int) (i : Nat) (h : i ≤ l.length) : val l = val (l.take i) + 65536 ^ i * val (l.drop i) := by
  conv => lhs; rw [← List.take_append_drop i l, val_app]
  simp [Nat.min_eq_left h]
theorem getD_take {l : List Int} {n j : Nat} (h : j < n) : (l.take n).getD j 0 = l.getD j 0 := by
  simp [List.getD_eq_getElem?_getD, List.getElem?_take, h]
theorem dgs_take {l : List Int} {n : Nat} (hn : n ≤ l.length) (h : ∀ j, j < n → 0 ≤ l.getD j 0 ∧ l.getD j 0 < 65536) : Dgs (l.take n) := by
  refine dgs_of_getD fun j hj => ?_
  have hj : j < n := by simp at hj; omega
  rw [getD_take hj]; exact h j hj
/-- Digits below a last one: it is not less than 0, if the number is not. -/
theorem top_nonneg {l : List Int} {n : Nat} (hn : l.length = n + 1) (h : ∀ j, j < n → 0 ≤ l.getD j 0 ∧ l.getD j 0 < 65536) (hv : 0 ≤ val l) : 0 ≤ l.getD n 0 := by
  have h1 := val_take_succ (l := l) (k := n) (by omega)
  rw [List.take_of_length_le (by omega)] at h1
  have h2 := val_lt (dgs_take (by omega) h)
  have e : (l.take n).length = n := by simp; omega
  rw [e] at h2
  have hp : (0 : Int) < 65536 ^ n := Int.pow_pos (by omega)
  rcases Int.lt_or_le (l.getD n 0) 0 with h3 | h3
  · have : (65536 : Int) ^ n * l.getD n 0 ≤ 65536 ^ n * (-1) := Int.mul_le_mul_of_nonneg_left (by omega) (by omega)
    omega
  · exact h3
theorem natMul_ok (a b : Nat) (ha : (dig a).length ≤ 10000000) (hb : (dig b).length ≤ 10000000) : AFunP Tryz.prog 29 [.fi .i64 (dig a), .fi .i64 (dig b)] (· = .fi .i64 (dig (a * b))) := by
  refine afun_of Tryz.func29 Tryz.call29 rfl Tryz.ntmps29 rfl ?_
  have W : Walk Tryz.prog TT 29 _ := Walk.of TT_ok Tryz.func29 Tryz.results29
  have da := dig_dgs a
  have db := dig_dgs b
  have eL : (((dig a).length : Int) + (dig b).length + 1) = (((dig a).length + (dig b).length + 1 : Nat) : Int) := by omega
  refine lp W 0 (σ := Nat × List Int) (fun s => [(1, .fi .i64 (dig b)), (5, .sl 0 0 0 ((dig a).length + (dig b).length + 1)), (19, .fi .i64 (dig a)), (20, .int .i64 (dig a).length), (21, .int .i64 s.1)]) (fun s => [.ints 0 .i64 s.2]) (fun s => (dig a).length - s.1)
    (fun s => s.1 ≤ (dig a).length ∧ s.2.length = (dig a).length + (dig b).length + 1 ∧ val s.2 = val ((dig a).take s.1) * b ∧ ∀ j, 0 ≤ s.2.getD j 0 ∧ s.2.getD j 0 < 65536 ∧ (s.1 + (dig b).length ≤ j → s.2.getD j 0 = 0))
    (0, List.replicate ((dig a).length + (dig b).length + 1) 0) [1, 5, 19, 20, 21] rfl (by rw [eL]; rfl) (by rw [eL]; rfl) ⟨Nat.zero_le _, by simp, by simp [val_replicate, val], fun j => ?_⟩ ?_ (hc := ?_)
  · have : (List.replicate ((dig a).length + (dig b).length + 1) (0 : Int)).getD j 0 = 0 := by
      rw [List.getD_eq_getElem?_getD, List.getElem?_replicate]; split <;> rfl
    dsimp only; omega
  · rintro ⟨i, l⟩ ⟨hi, hl, hv, hd⟩ ih
    dsimp only at hi hl hv hd ih ⊢
    generalize hA : (dig a).length = A at *
    refine sp W 0 rfl rfl rfl (fun h1 => ?_) (fun h1 => ?_)
    · have h1 : i < A := by omega
      have gx := da.get i
      have gl : ∀ j, i + (dig b).length ≤ j → l.getD j 0 = 0 := fun j hj => (hd j).2.2 hj
      generalize hx : (dig a).getD i 0 = x at *
      refine lp W 0 (σ := Nat × Int × List Int) (fun s => [(1, .fi .i64 (dig b)), (5, .sl 0 0 0 (A + (dig b).length + 1)), (19, .fi .i64 (dig a)), (20, .int .i64 A), (21, .int .i64 i), (6, .int .i64 i), (7, .int .i64 x), (8, .int .i64 s.2.1), (26, .fi .i64 (dig b)), (27, .int .i64 (dig b).length), (28, .int .i64 s.1)]) (fun s => [.ints 0 .i64 s.2.2]) (fun s => (dig b).length - s.1)
        (fun s => s.1 ≤ (dig b).length ∧ s.2.2.length = A + (dig b).length + 1 ∧ val s.2.2 + s.2.1 * 65536 ^ (i + s.1) = val l + x * val ((dig b).take s.1) * 65536 ^ i ∧ 0 ≤ s.2.1 ∧ s.2.1 < 65536 ∧ (∀ j, 0 ≤ s.2.2.getD j 0 ∧ s.2.2.getD j 0 < 65536) ∧ ∀ j, i + s.1 ≤ j → s.2.2.getD j 0 = l.getD j 0)
        (0, 0, l) [1, 5, 19, 20, 21, 6, 7, 8, 26, 27, 28] rfl (by rw [← hx]; rfl) rfl ⟨Nat.zero_le _, hl, by simp [val], by simp, by simp, fun j => by have := hd j; dsimp only; omega, fun j _ => rfl⟩ ?_
      rintro ⟨k, c, m⟩ ⟨hk, hm, hw, c0, c1, he, hs⟩ ih2
      dsimp only at hk hm hw c0 c1 he hs ih2 ⊢
      refine sp W 0 rfl rfl rfl (fun h2 => ?_) (fun h2 => ?_)
      · have h2 : k < (dig b).length := by omega
        have gy := db.get k
        have gm := he (i + k)
        generalize hy : (dig b).getD k 0 = y at *
        have p0 : 0 ≤ x * y := Int.mul_nonneg gx.1 gy.1
        have p1 : x * y ≤ 65535 * 65535 := Int.mul_le_mul (by omega) (by omega) gy.1 (by omega)
        have eI : ((i : Int) + (k : Int)).toNat = i + k := by omega
        have hb : band .i64 (m.getD (i + k) 0 + x * y + c) 65535 = (m.getD (i + k) 0 + x * y + c) % 65536 := band_low (by omega) (by omega)
        have nx := ih2 (k + 1, (m.getD (i + k) 0 + x * y + c) / 2 ^ 16, m.set (i + k) (band .i64 (m.getD (i + k) 0 + x * y + c) 65535)) ⟨by omega, by simpa using hm, ?_, ?_, ?_, fun j => ?_, fun j hj => ?_⟩ (by dsimp only; omega)
        · refine bk W 0 [1, 5, 19, 20, 21, 6, 7, 8, 26, 27, 28] rfl rfl (by rw [← hy] at nx; exact nx) (hc := ?_)
          simp only [AllC, eI, hy, addN, Int.toNat_natCast, true_and, List.length_set]
          omega
        · dsimp only
          rw [val_set _ _ _ (by omega), hb, val_take_succ h2, hy, pw16]
          have hq : m.getD (i + k) 0 + x * y + c = 65536 * ((m.getD (i + k) 0 + x * y + c) / 65536) + (m.getD (i + k) 0 + x * y + c) % 65536 := by omega
          generalize (m.getD (i + k) 0 + x * y + c) / 65536 = q at *
          generalize (m.getD (i + k) 0 + x * y + c) % 65536 = r at *
          rw [show i + (k + 1) = i + k + 1 by omega, Int.pow_succ, Int.mul_add, Int.add_mul, ← Int.mul_assoc x, Int.mul_comm (x * 65536 ^ k) y]
          have e2 : y * (x * 65536 ^ k) * 65536 ^ i = x * y * 65536 ^ (i + k) := by
            rw [Int.pow_add]
            simp only [Int.mul_assoc, Int.mul_comm, Int.mul_left_comm]
          rw [e2]
          have e3 : q * (65536 ^ (i + k) * 65536) = 65536 ^ (i + k) * (65536 * q) := by simp only [Int.mul_assoc, Int.mul_comm, Int.mul_left_comm]
          have e4 : 65536 ^ (i + k) * (r - m.getD (i + k) 0) + 65536 ^ (i + k) * (65536 * q) = 65536 ^ (i + k) * (x * y + c) := by
            rw [← Int.mul_add]; congr 1; omega
          rw [Int.mul_add, Int.mul_comm _ (x * y), Int.mul_comm _ c] at e4
          omega
        · dsimp only; rw [pw16]; omega
        · dsimp only; rw [pw16]; omega
        · dsimp only
          rw [getD_set _ _ _ _ (by omega), hb]
          have := he j
          split <;> omega
        · dsimp only at hj ⊢
          rw [getD_set _ _ _ _ (by omega), if_neg (by omega)]
          exact hs j (by omega)
      · have hkB : k = (dig b).length := by omega
        subst hkB
        rw [List.take_length, val_dig] at hw
        have g0 : m.getD (i + (dig b).length) 0 = 0 := by rw [hs _ (Nat.le_refl _)]; exact gl _ (Nat.le_refl _)
        have eI : ((i : Int) + ((dig b).length : Int)).toNat = i + (dig b).length := by omega
        refine bk W 0 [1, 5, 19, 20, 21] rfl rfl (ih (i + 1, m.set (i + (dig b).length) (m.getD (i + (dig b).length) 0 + c)) ⟨by dsimp only; omega, by simpa using hm, ?_, fun j => ?_⟩ (by dsimp only; omega)) (hc := ?_)
        · dsimp only
          rw [val_set _ _ _ (by omega), g0, val_take_succ (show i < (dig a).length by omega), hx, show (0 : Int) + c - 0 = c by omega, Int.mul_comm _ c, hw, hv, Int.add_mul, Int.mul_comm (65536 ^ i) x, Int.mul_assoc x, Int.mul_assoc x, Int.mul_comm (b : Int)]
        · dsimp only
          rw [getD_set _ _ _ _ (by omega), g0]
          have h1 := he j
          have h2 := hs j
          have h3 := gl j
          split
          · omega
          · refine ⟨h1.1, h1.2, fun hj => ?_⟩
            rw [h2 (by omega)]; exact h3 (by omega)
        · simp only [AllC, eI, addN, Int.toNat_natCast, true_and, List.length_set, g0]; omega
    · have hiA : i = A := by omega
      subst hiA
      rw [show (dig a).take i = dig a from List.take_of_length_le (by omega), val_dig] at hv
      have dm : Dgs l := dgs_of_getD fun j hj => by have := hd j; omega
      refine cf W 0 [0] [] rfl rfl rfl rfl rfl rfl (trim_ok l (by omega)) rfl ?_
      refine rp W 0 rfl rfl rfl (.fi (by rw [trimL_dig dm, hv]; congr 1))
  · simp only [AllC, true_and]
    omega
end Pf
/- Whole numbers: bits and shifts. -/
namespace Pf
open Go Go.Proofs

theorem bitL_mul : ∀ (k n : Nat), n ≠ 0 → bitL (n * 2 ^ k) = bitL n + k := by
  intro k n hn
  have h : 2 ^ k ≤ n * 2 ^ k := Nat.le_mul_of_pos_left _ (by omega)
  have := bitL_shift k (n * 2 ^ k) h
  rwa [Nat.mul_div_cancel _ (Nat.pow_pos (by omega))] at this
theorem bitL_dig : ∀ (n : Nat), n ≠ 0 → (bitL n : Int) = 16 * ((dig n).length - 1) + bitL ((dig n).getD ((dig n).length - 1) 0).toNat := by
  intro n
  induction n using Nat.strongRecOn with
  | ind n ih =>
    intro hn
    by_cases h : n / 65536 = 0
    · rw [dig_pos hn, h, dig_zero]
      have : n % 65536 = n := Nat.mod_eq_of_lt (by omega)
      simp [this]
    · have e := bitL_shift 16 n (by omega)
      have e2 := ih (n / 65536) (by omega) h
      have hl : 0 < (dig (n / 65536)).length := by
        cases hd : dig (n / 65536) with
        | nil => exact absurd (dig_nil.1 hd) h
        | cons a l => simp
      rw [dig_pos hn]
      simp only [List.length_cons]
      have e3 : ((((n % 65536 : Nat) : Int) :: dig (n / 65536)).getD ((dig (n / 65536)).length + 1 - 1) 0) = (dig (n / 65536)).getD ((dig (n / 65536)).length - 1) 0 := by
        obtain ⟨m, hm⟩ : ∃ m, (dig (n / 65536)).length = m + 1 := ⟨_, (Nat.sub_add_cancel hl).symm⟩
        rw [hm]; simp
      rw [e3, show (2 : Nat) ^ 16 = 65536 from rfl] at *
      omega
theorem len_ok (n : Int) (h0 : 0 ≤ n) (h1 : n ≤ 18446744073709551615) : AFunP Tryz.prog 67 [.int .u64 n] (· = .int .i64 (bitLen n)) := by
  refine afun_of Tryz.func67 Tryz.call67 rfl Tryz.ntmps67 rfl ?_
  have W : Walk Tryz.prog TT 67 _ := Walk.of TT_ok Tryz.func67 Tryz.results67
  (repeat' (first | (refine sp W 0 rfl rfl rfl (fun _ => ?_) (fun _ => ?_)) | (refine ce W 0 rfl rfl (len64_ok _ h0 h1) rfl ?_))) <;> (first | skip)
  all_goals refine rp W 0 rfl rfl rfl (.refl)
theorem bor_add {r : Nat} {a c : Int} (hr : r ≤ 62) (h0 : 0 ≤ a) (h1 : a < 2 ^ r) (h2 : 0 ≤ c) (h3 : 2 ^ r * c ≤ 4611686018427387903) : bor .i64 a (2 ^ r * c) = a + 2 ^ r * c ∧ bor .i64 (2 ^ r * c) a = a + 2 ^ r * c := by
  obtain ⟨m, rfl⟩ : ∃ m : Nat, a = m := ⟨a.toNat, by omega⟩
  obtain ⟨n, rfl⟩ : ∃ n : Nat, c = n := ⟨c.toNat, by omega⟩
  have e2 : (2 : Int) ^ r * n = ((2 ^ r * n : Nat) : Int) := by simp
  have h1' : m < 2 ^ r := by
    have : ((m : Nat) : Int) < ((2 ^ r : Nat) : Int) := by simpa using h1
    omega
  have h2r : (2 : Nat) ^ r ≤ 2 ^ 62 := Nat.pow_le_pow_right (by omega) hr
  rw [e2] at h3 ⊢
  have key : m ||| 2 ^ r * n = 2 ^ r * n + m := by rw [Nat.or_comm]; exact (Nat.two_pow_add_eq_or_of_lt h1' n).symm
  have key2 : 2 ^ r * n ||| m = 2 ^ r * n + m := (Nat.two_pow_add_eq_or_of_lt h1' n).symm
  have a1 : (BitVec.ofInt 64 (m : Int)).toNat = m := by rw [BitVec.toNat_ofInt]; omega
  have a2 : (BitVec.ofInt 64 ((2 ^ r * n : Nat) : Int)).toNat = 2 ^ r * n := by rw [BitVec.toNat_ofInt]; omega
  have e : bor .i64 (m : Int) ((2 ^ r * n : Nat) : Int) = IntKind.i64.wrap (((BitVec.ofInt 64 (m : Int) ||| BitVec.ofInt 64 ((2 ^ r * n : Nat) : Int)).toNat : Nat) : Int) := rfl
  have e' : bor .i64 ((2 ^ r * n : Nat) : Int) (m : Int) = IntKind.i64.wrap (((BitVec.ofInt 64 ((2 ^ r * n : Nat) : Int) ||| BitVec.ofInt 64 (m : Int)).toNat : Nat) : Int) := rfl
  rw [e, e', BitVec.toNat_or, BitVec.toNat_or, a1, a2, key, key2, wrap_id (k := .i64) rfl (by omega)]
  omega
theorem natShiftUp_ok (a k : Nat) (ha : (dig a).length ≤ 10000000) (hk : k ≤ 1000000) : AFunP Tryz.prog 68 [.fi .i64 (dig a), .int .i64 k] (· = .fi .i64 (dig (a * 2 ^ k))) := by
  refine afun_of Tryz.func68 Tryz.call68 rfl Tryz.ntmps68 rfl ?_
  have W : Walk Tryz.prog TT 68 _ := Walk.of TT_ok Tryz.func68 Tryz.results68
  refine sp W 0 rfl rfl rfl (fun h => ?_) (fun h => ?_)
  · omega
  have da := dig_dgs a
  have eL : ((k : Int) / 16 + (dig a).length + 1) = ((k / 16 + (dig a).length + 1 : Nat) : Int) := by omega
  refine lp W 0 (σ := Nat × List Int) (fun s => [(1, .int .i64 k), (9, .sl 0 0 0 (k / 16 + (dig a).length + 1)), (75, .fi .i64 (dig a)), (76, .int .i64 (dig a).length), (77, .int .i64 s.1)]) (fun s => [.ints 0 .i64 s.2]) (fun s => (dig a).length - s.1)
    (fun s => s.1 ≤ (dig a).length ∧ s.2.length = k / 16 + (dig a).length + 1 ∧ val s.2 = val ((dig a).take s.1) * 2 ^ (k % 16) * 65536 ^ (k / 16) ∧ (∀ j, 0 ≤ s.2.getD j 0 ∧ s.2.getD j 0 < 65536 ∧ (k / 16 + s.1 < j → s.2.getD j 0 = 0)) ∧ s.2.getD (k / 16 + s.1) 0 < 2 ^ (k % 16))
    (0, List.replicate (k / 16 + (dig a).length + 1) 0) [1, 9, 75, 76, 77] rfl (by rw [eL]; rfl) (by rw [eL]; rfl) ⟨Nat.zero_le _, by simp, by simp [val_replicate, val], fun j => ?_, ?_⟩ ?_ (hc := ?_)
  · have : (List.replicate (k / 16 + (dig a).length + 1) (0 : Int)).getD j 0 = 0 := by
      rw [List.getD_eq_getElem?_getD, List.getElem?_replicate]; split <;> rfl
    dsimp only; omega
  · have : (List.replicate (k / 16 + (dig a).length + 1) (0 : Int)).getD (k / 16) 0 = 0 := by
      rw [List.getD_eq_getElem?_getD, List.getElem?_replicate]; split <;> rfl
    rw [show k / 16 + 0 = k / 16 from rfl] at *; dsimp only; rw [this]; exact Int.pow_pos (by omega)
  · rintro ⟨i, l⟩ ⟨hi, hl, hv, hd, hc⟩ ih
    dsimp only at hi hl hv hd hc ih ⊢
    generalize hA : (dig a).length = A at *
    refine sp W 0 rfl rfl rfl (fun h1 => ?_) (fun h1 => ?_)
    · have h1 : i < A := by omega
      have gx := da.get i
      have hr : k % 16 < 16 := Nat.mod_lt _ (by omega)
      obtain ⟨r1, r2, r3, r4, r5⟩ := (by decide : ∀ r, r < 16 → (1 : Int) ≤ 2 ^ r ∧ (2 : Int) ^ r ≤ 32768 ∧ (2 : Int) ^ r * 2 ^ (16 - r) = 65536 ∧ (1 : Int) ≤ 2 ^ (16 - r) ∧ r ≤ 62) (k % 16) hr
      have eq1 : ((k : Int) / 16 + i).toNat = k / 16 + i := by omega
      have eq2 : ((k : Int) / 16 + i + 1).toNat = k / 16 + i + 1 := by omega
      have eq3 : ((k : Int) % 16).toNat = k % 16 := by omega
      have g1 := hd (k / 16 + i)
      have g2 := (hd (k / 16 + i + 1)).2.2 (by omega)
      generalize hdd : (dig a).getD i 0 = d at *
      have n0 : 0 ≤ d * 2 ^ (k % 16) := Int.mul_nonneg gx.1 (by omega)
      have n1 : d * 2 ^ (k % 16) ≤ 65535 * 32768 := Int.mul_le_mul (by omega) r2 (by omega) (by omega)
      have eb : band .i64 (d * 2 ^ (k % 16)) 65535 = 2 ^ (k % 16) * (d % 2 ^ (16 - k % 16)) := by
        rw [band_low n0 (by omega), Int.mul_comm, ← r3, Int.mul_emod_mul_of_pos _ _ (by omega)]
      have ed : d * 2 ^ (k % 16) / 65536 = d / 2 ^ (16 - k % 16) := by
        rw [Int.mul_comm, ← r3, Int.mul_ediv_mul_of_pos _ _ (by omega)]
      have m0 := Int.emod_nonneg d (b := 2 ^ (16 - k % 16)) (by omega)
      have m1 := Int.emod_lt_of_pos d (b := 2 ^ (16 - k % 16)) (by omega)
      have m2 := Int.mul_ediv_add_emod d (2 ^ (16 - k % 16))
      have m3 : 0 ≤ d / 2 ^ (16 - k % 16) := Int.ediv_nonneg gx.1 (by omega)
      have m4 : d / 2 ^ (16 - k % 16) < 2 ^ (k % 16) := Int.ediv_lt_of_lt_mul (by omega) (by rw [r3]; exact gx.2)
      have m5 : 2 ^ (k % 16) * (d % 2 ^ (16 - k % 16)) ≤ 65536 - 2 ^ (k % 16) := by
        have : 2 ^ (k % 16) * (d % 2 ^ (16 - k % 16)) ≤ 2 ^ (k % 16) * (2 ^ (16 - k % 16) - 1) := Int.mul_le_mul_of_nonneg_left (by omega) (by omega)
        rw [Int.mul_sub, r3] at this
        omega
      have m6 : 0 ≤ 2 ^ (k % 16) * (d % 2 ^ (16 - k % 16)) := Int.mul_nonneg (by omega) m0
      have eo := (bor_add r5 g1.1 hc m0 (by omega)).1
      have nx := ih (i + 1, (l.set (k / 16 + i) (bor .i64 (l.getD (k / 16 + i) 0) (band .i64 (d * 2 ^ (k % 16)) 65535))).set (k / 16 + i + 1) (d * 2 ^ (k % 16) / 2 ^ 16)) ⟨by dsimp only; omega, by simpa using hl, ?_, fun j => ?_, ?_⟩ (by dsimp only; omega)
      · refine bk W 2 [1, 9, 75, 76, 77] rfl rfl (by rw [← hdd] at nx; exact nx) (hc := ?_)
        simp only [AllC, eq1, eq2, eq3, hdd, addN, Int.toNat_natCast, true_and, List.length_set]
        have : (IntKind.i64.bits : Int) = 64 := rfl
        omega
      · dsimp only
        have g3 : (l.set (k / 16 + i) (bor .i64 (l.getD (k / 16 + i) 0) (band .i64 (d * 2 ^ (k % 16)) 65535))).getD (k / 16 + i + 1) 0 = 0 := by rw [getD_set _ _ _ _ (by omega), if_neg (by omega), g2]
        rw [val_set _ _ _ (by simp; omega), g3, val_set _ _ _ (by omega), eb, eo, hv, val_take_succ (show i < (dig a).length by omega), hdd, pw16, ed]
        have e2 : d * 2 ^ (k % 16) = 65536 * (d / 2 ^ (16 - k % 16)) + 2 ^ (k % 16) * (d % 2 ^ (16 - k % 16)) := by
          conv => lhs; rw [← m2]
          rw [Int.add_mul, Int.mul_comm (2 ^ (16 - k % 16)) _, Int.mul_assoc, Int.mul_comm (2 ^ (16 - k % 16)), r3]
          rw [Int.mul_comm _ 65536, Int.mul_comm (d % _)]
        have e3 : (val (List.take i (dig a)) + 65536 ^ i * d) * 2 ^ (k % 16) * 65536 ^ (k / 16) = val (List.take i (dig a)) * 2 ^ (k % 16) * 65536 ^ (k / 16) + 65536 ^ (k / 16 + i) * (d * 2 ^ (k % 16)) := by
          rw [Int.add_mul, Int.add_mul, Int.pow_add]
          congr 1
          simp only [Int.mul_assoc, Int.mul_comm, Int.mul_left_comm]
        rw [e3, e2, Int.pow_succ, Int.mul_add]
        generalize 2 ^ (k % 16) * (d % 2 ^ (16 - k % 16)) = y at *
        generalize d / 2 ^ (16 - k % 16) = z at *
        rw [show l.getD (k / 16 + i) 0 + y - l.getD (k / 16 + i) 0 = y by omega, show z - 0 = z by omega, Int.mul_assoc (65536 ^ (k / 16 + i)) 65536 z]
        omega
      · dsimp only
        rw [getD_set _ _ _ _ (by simp; omega), pw16, ed, eb, eo]
        have := hd j
        split
        · omega
        · rw [getD_set _ _ _ _ (by omega)]
          split <;> omega
      · dsimp only
        rw [show k / 16 + (i + 1) = k / 16 + i + 1 by omega, getD_set _ _ _ _ (by simp; omega), if_pos rfl, pw16, ed]
        exact m4
    · have hiA : i = A := by omega
      subst hiA
      rw [show (dig a).take i = dig a from List.take_of_length_le (by omega), val_dig] at hv
      have dm : Dgs l := dgs_of_getD fun j hj => by have := hd j; omega
      refine cf W 0 [0] [] rfl rfl rfl rfl rfl rfl (trim_ok l (by omega)) rfl ?_
      refine rp W 0 rfl rfl rfl (.fi ?_)
      rw [trimL_dig dm, hv]
      have e : ((a : Int) * 2 ^ (k % 16) * 65536 ^ (k / 16)) = ((a * 2 ^ k : Nat) : Int) := by
        rw [show (65536 : Int) = 2 ^ 16 from rfl, ← Int.pow_mul, Int.mul_assoc, ← Int.pow_add, show k % 16 + 16 * (k / 16) = k by omega]
        simp
      rw [e, Int.toNat_natCast]
  · simp only [AllC, true_and]
    omega

/-- Digits shifted down, each with what comes from the next. -/
def shr (r : Nat) : List Int → List Int
  | [] => []
  | d :: l => (d / 2 ^ r + l.getD 0 0 * 2 ^ (16 - r) % 65536) :: shr r l
theorem shr_len (r : Nat) : ∀ l, (shr r l).length = l.length
  | [] => rfl
  | d :: l => by simp [shr, shr_len r l]
theorem shr_get (r : Nat) : ∀ (l : List Int) (i : Nat), i < l.length → (shr r l).getD i 0 = l.getD i 0 / 2 ^ r + l.getD (i + 1) 0 * 2 ^ (16 - r) % 65536
  | [], i, h => by simp at h
  | d :: l, 0, h => by simp [shr]
  | d :: l, i + 1, h => by simpa [shr] using shr_get r l i (by simpa using h)
theorem shr_ok {r : Nat} (hr : r < 16) : ∀ {l : List Int}, Dgs l → Dgs (shr r l) ∧ val (shr r l) = val l / 2 ^ r
  | [], h => ⟨Dgs.nil, by simp [shr, val]⟩
  | d :: l, h => by
    obtain ⟨r1, r2, r3, r4, r5⟩ := (by decide : ∀ r, r < 16 → (1 : Int) ≤ 2 ^ r ∧ (2 : Int) ^ r ≤ 32768 ∧ (2 : Int) ^ r * 2 ^ (16 - r) = 65536 ∧ (1 : Int) ≤ 2 ^ (16 - r) ∧ r ≤ 62) r hr
    obtain ⟨i1, i2⟩ := shr_ok hr h.tail
    have hd := h.head
    have hv : val l = l.getD 0 0 + 65536 * val l.tail := by cases l <;> simp [val]
    have g0 := h.tail.get 0
    generalize hee : l.getD 0 0 = e at *
    have em : e * 2 ^ (16 - r) % 65536 = 2 ^ (16 - r) * (e % 2 ^ r) := by
      rw [Int.mul_comm, ← r3, Int.mul_comm (2 ^ r) (2 ^ (16 - r)), Int.mul_emod_mul_of_pos _ _ (by omega)]
    have m0 := Int.emod_nonneg e (b := 2 ^ r) (by omega)
    have m1 := Int.emod_lt_of_pos e (b := 2 ^ r) (by omega)
    have d0 : 0 ≤ d / 2 ^ r := Int.ediv_nonneg hd.1 (by omega)
    have d1 : d / 2 ^ r < 2 ^ (16 - r) := Int.ediv_lt_of_lt_mul (by omega) (by rw [Int.mul_comm, r3]; exact hd.2)
    have m5 : 2 ^ (16 - r) * (e % 2 ^ r) ≤ 65536 - 2 ^ (16 - r) := by
      have : 2 ^ (16 - r) * (e % 2 ^ r) ≤ 2 ^ (16 - r) * (2 ^ r - 1) := Int.mul_le_mul_of_nonneg_left (by omega) (by omega)
      rw [Int.mul_sub, Int.mul_comm (2 ^ (16 - r)) (2 ^ r), r3] at this
      omega
    have m6 : 0 ≤ 2 ^ (16 - r) * (e % 2 ^ r) := Int.mul_nonneg (by omega) m0
    refine ⟨?_, ?_⟩
    · simp only [shr, hee]
      exact i1.cons (by rw [em]; omega) (by rw [em]; omega)
    · simp only [shr, hee, val, i2]
      have e1 : (d + 65536 * val l) / 2 ^ r = d / 2 ^ r + 2 ^ (16 - r) * val l := by
        rw [← r3, Int.mul_assoc, Int.add_mul_ediv_left _ _ (by omega)]
      have e2 : val l % 2 ^ r = e % 2 ^ r := by
        rw [hv, ← r3, Int.mul_assoc, Int.add_mul_emod_self_left]
      have e3 := Int.mul_ediv_add_emod (val l) (2 ^ r)
      have e4 : 2 ^ (16 - r) * val l = 65536 * (val l / 2 ^ r) + 2 ^ (16 - r) * (e % 2 ^ r) := by
        conv => lhs; rw [← e3, e2, Int.mul_add, ← Int.mul_assoc, Int.mul_comm (2 ^ (16 - r)) (2 ^ r), r3]
      rw [e1, e4, em]; omega
theorem val_drop {a : Nat} {q : Nat} : val ((dig a).drop q) = (a : Int) / 65536 ^ q := by
  induction q generalizing a with
  | zero => simp [val_dig]
  | succ q ih =>
    by_cases h : a = 0
    · subst h; simp [dig_zero, val]
    · rw [dig_pos h, List.drop_succ_cons, ih, Int.pow_succ, Int.mul_comm, ← Int.ediv_ediv_of_nonneg (by omega)]
      simp
theorem natShiftDown_ok (a k : Nat) (ha : (dig a).length ≤ 10000000) (hk : 0 < k) (hk2 : k ≤ 1000000) : AFunP Tryz.prog 68 [.fi .i64 (dig a), .int .i64 (-(k : Int))] (· = .fi .i64 (dig (a / 2 ^ k))) := by
  refine afun_of Tryz.func68 Tryz.call68 rfl Tryz.ntmps68 rfl ?_
  have W : Walk Tryz.prog TT 68 _ := Walk.of TT_ok Tryz.func68 Tryz.results68
  have da := dig_dgs a
  refine sp W 0 rfl rfl rfl (fun h => ?_) (fun h => ?_)
  case refine_2 => omega
  have nn : - -(k : Int) = k := Int.neg_neg _
  have hlt := (dig_len_le (n := a) (k := (dig a).length)).1 (Nat.le_refl _)
  refine sp W 0 rfl rfl rfl (fun h2 => ?_) (fun h2 => ?_)
  · rw [nn] at h2
    refine rp W 0 rfl rfl rfl (.trans .nils_fi (.fi ?_))
    have : a / 2 ^ k = 0 := by
      refine Nat.div_eq_of_lt (Nat.lt_of_lt_of_le hlt ?_)
      rw [show (65536 : Nat) = 2 ^ 16 from rfl, ← Nat.pow_mul]
      exact Nat.pow_le_pow_right (by omega) (by omega)
    rw [this, dig_zero]
  rw [nn] at h2
  refine cn W 0 rfl rfl rfl (cloneS_new ((dig a).drop (- -(k : Int) / 16).toNat) (by simp; omega)) ?_
  rintro _ _ ⟨rfl, rfl⟩
  refine ⟨_, _, rfl, rfl, ?_⟩
  generalize hQ : - -(k : Int) / 16 = Q at *
  generalize hR : - -(k : Int) % 16 = S at *
  rw [nn] at hQ hR
  obtain rfl : Q = ((k / 16 : Nat) : Int) := by omega
  obtain rfl : S = ((k % 16 : Nat) : Int) := by omega
  clear hQ hR
  have hr : k % 16 < 16 := Nat.mod_lt _ (by omega)
  generalize hq : k / 16 = q at *
  generalize hrr : k % 16 = r at *
  simp only [Int.toNat_natCast]
  have hD : Dgs ((dig a).drop q) := da.drop q
  have hDl : ((dig a).drop q).length = (dig a).length - q := List.length_drop
  have hDg : ∀ j, ((dig a).drop q).getD j 0 = (dig a).getD (q + j) 0 := fun j => by simp [List.getD_eq_getElem?_getD]
  obtain ⟨s1, s2⟩ := shr_ok hr hD
  rw [val_drop] at s2
  generalize hDD : (dig a).drop q = D at *
  refine lp W 0 (σ := Nat × List Int) (fun s => [(0, .fi .i64 (dig a)), (5, .int .i64 q), (6, .int .i64 r), (7, .sl 0 0 0 D.length), (30, .int .i64 D.length), (31, .int .i64 s.1)]) (fun s => [.ints 0 .i64 s.2]) (fun s => D.length - s.1)
    (fun s => s.1 ≤ D.length ∧ s.2.length = D.length ∧ (∀ j, j < s.1 → s.2.getD j 0 = (shr r D).getD j 0) ∧ ∀ j, s.1 ≤ j → s.2.getD j 0 = D.getD j 0)
    (0, D) [0, 5, 6, 7, 30, 31] rfl rfl rfl ⟨Nat.zero_le _, rfl, fun j hj => by omega, fun j _ => rfl⟩ ?_
  rintro ⟨i, l⟩ ⟨hi, hl, hd1, hd2⟩ ih
  dsimp only at hi hl hd1 hd2 ih ⊢
  refine sp W 0 rfl rfl rfl (fun h3 => ?_) (fun h3 => ?_)
  · have h3 : i < D.length := by omega
    have g1 := hD.get i
    have g2 := hD.get (i + 1)
    have hbits : (IntKind.i64.bits : Int) = 64 := rfl
    have eq1 : ((q : Int) + i + 1).toNat = q + i + 1 := by omega
    have eq2 : ((16 : Int) - r).toNat = 16 - r := by omega
    obtain ⟨r1, r2, r3, r4, r5⟩ := (by decide : ∀ r, r < 16 → (1 : Int) ≤ 2 ^ r ∧ (2 : Int) ^ (16 - r) ≤ 65536 ∧ (2 : Int) ^ r * 2 ^ (16 - r) = 65536 ∧ (1 : Int) ≤ 2 ^ (16 - r) ∧ 16 - r ≤ 62) r hr
    have gi : l.getD i 0 = D.getD i 0 := hd2 i (Nat.le_refl _)
    have ge : (dig a).getD (q + i + 1) 0 = D.getD (i + 1) 0 := (hDg (i + 1)).symm
    have gs := shr_get r D i h3
    have d0 : 0 ≤ D.getD i 0 / 2 ^ r := Int.ediv_nonneg g1.1 (by omega)
    have d1 : D.getD i 0 / 2 ^ r < 2 ^ (16 - r) := Int.ediv_lt_of_lt_mul (by omega) (by rw [Int.mul_comm, r3]; exact g1.2)
    refine sp W 2 rfl rfl rfl (fun h4 => ?_) (fun h4 => ?_)
    · have n0 : 0 ≤ D.getD (i + 1) 0 * 2 ^ (16 - r) := Int.mul_nonneg g2.1 (by omega)
      have n1 : D.getD (i + 1) 0 * 2 ^ (16 - r) ≤ 65535 * 65536 := Int.mul_le_mul (by omega) r2 (by omega) (by omega)
      have eb : band .i64 (D.getD (i + 1) 0 * 2 ^ (16 - r)) 65535 = D.getD (i + 1) 0 * 2 ^ (16 - r) % 65536 := band_low n0 (by omega)
      have em : D.getD (i + 1) 0 * 2 ^ (16 - r) % 65536 = 2 ^ (16 - r) * (D.getD (i + 1) 0 % 2 ^ r) := by
        rw [Int.mul_comm, ← r3, Int.mul_comm (2 ^ r) (2 ^ (16 - r)), Int.mul_emod_mul_of_pos _ _ (by omega)]
      have m0 := Int.emod_nonneg (D.getD (i + 1) 0) (b := 2 ^ r) (by omega)
      have eo := (bor_add (r := 16 - r) r5 d0 d1 m0 (by rw [← em]; omega)).1
      have gset : (l.set i (D.getD i 0 / 2 ^ r)).getD i 0 = D.getD i 0 / 2 ^ r := by rw [getD_set _ _ _ _ (by omega), if_pos rfl]
      refine dre W 2 15 [] [] rfl rfl rfl trivial rfl ?_ (hp := ?_)
      · have nx := ih (i + 1, (l.set i (l.getD i 0 / 2 ^ r)).set i (bor .i64 ((l.set i (l.getD i 0 / 2 ^ r)).getD i 0) (band .i64 ((dig a).getD ((q : Int) + i + 1).toNat 0 * 2 ^ ((16 : Int) - r).toNat) 65535))) ⟨by dsimp only; omega, by simpa using hl, fun j hj => ?_, fun j hj => ?_⟩ (by dsimp only; omega)
        · refine bk W 2 [0, 5, 6, 7, 30, 31] rfl rfl nx (hc := ?_)
          simp only [AllC, eq1, eq2, addN, Int.toNat_natCast, true_and, List.length_set]
          omega
        · dsimp only at hj ⊢
          rw [getD_set _ _ _ _ (by simp; omega)]
          split
          · rename_i hji
            rw [gi, gset, eq1, eq2, ge, eb, em, eo, hji, gs, em]
          · rw [getD_set _ _ _ _ (by omega), if_neg (by assumption)]; exact hd1 j (by omega)
        · dsimp only at hj ⊢
          rw [getD_set _ _ _ _ (by simp; omega), if_neg (by omega), getD_set _ _ _ _ (by omega), if_neg (by omega)]; exact hd2 j (by omega)
      · simp only [AllP, Option.getD, eq1, eq2, addN, Int.toNat_natCast, true_and, and_true, List.length_set, ge]
        omega
    · have g0 : D.getD (i + 1) 0 = 0 := getD_over (by omega)
      have nx := ih (i + 1, l.set i (l.getD i 0 / 2 ^ r)) ⟨by dsimp only; omega, by simpa using hl, fun j hj => ?_, fun j hj => ?_⟩ (by dsimp only; omega)
      · exact bk W 2 [0, 5, 6, 7, 30, 31] rfl rfl nx
      · dsimp only at hj ⊢
        rw [getD_set _ _ _ _ (by omega)]
        split
        · rename_i hji
          rw [gi, hji, gs, g0]; simp
        · exact hd1 j (by omega)
      · dsimp only at hj ⊢
        rw [getD_set _ _ _ _ (by omega), if_neg (by omega)]; exact hd2 j (by omega)
  · have hiD : i = D.length := by omega
    subst hiD
    have e : l = shr r D := by
      refine List.ext_getElem (by rw [shr_len, hl]) fun j q1 q2 => ?_
      have := hd1 j (by omega)
      simpa [List.getD_eq_getElem?_getD, q1, q2] using this
    subst e
    refine cf W 0 [0] [] rfl rfl rfl rfl rfl rfl (trim_ok (shr r D) (by rw [shr_len]; omega)) rfl ?_
    refine rp W 0 rfl rfl rfl (.fi ?_)
    rw [trimL_dig s1, s2]
    congr 1
    have e1 : (a : Int) / 65536 ^ q / 2 ^ r = ((a / 2 ^ k : Nat) : Int) := by
      rw [Int.ediv_ediv_of_nonneg (by exact Int.pow_nonneg (by omega)), show (65536 : Int) = 2 ^ 16 from rfl, ← Int.pow_mul, ← Int.pow_add, show 16 * q + r = k by omega]
      simp
    rw [e1, Int.toNat_natCast]
end Pf
/- Whole numbers: guesses of a quotient's digit. -/
namespace Pf
open Go Go.Proofs

/-- A number w = w0 + P X by a number B = v0 + P Y. -/
structure Gs (P X Y w B : Int) : Prop where
  p : 0 < P
  w0 : P * X ≤ w
  w1 : w < P * (X + 1)
  b0 : P * Y ≤ B
  b1 : B < P * (Y + 1)
theorem Gs.over {P X Y w B : Int} (h : Gs P X Y w B) {q : Int} (hq : 0 ≤ q) (hx : X + 1 ≤ q * Y) : w < q * B := by
  have h1 := Int.mul_le_mul_of_nonneg_left hx (Int.le_of_lt h.p)
  have h2 := Int.mul_le_mul_of_nonneg_left h.b0 hq
  have e : q * (P * Y) = P * (q * Y) := by rw [← Int.mul_assoc, Int.mul_comm q P, Int.mul_assoc]
  have := h.w1
  omega
theorem Gs.under {P X Y w B : Int} (h : Gs P X Y w B) {q : Int} (hq : 0 ≤ q) (hx : q * (Y + 1) ≤ X) : q * B ≤ w := by
  have h1 := Int.mul_le_mul_of_nonneg_left hx (Int.le_of_lt h.p)
  have h2 := Int.mul_le_mul_of_nonneg_left (Int.le_of_lt h.b1) hq
  have e : q * (P * (Y + 1)) = P * (q * (Y + 1)) := by rw [← Int.mul_assoc, Int.mul_comm q P, Int.mul_assoc]
  have := h.w0
  omega
theorem Gs.top {P X Y w B : Int} (h : Gs P X Y w B) (hw : w < 65536 * B) : X < 65536 * (Y + 1) := by
  rcases Int.lt_or_le X (65536 * (Y + 1)) with h1 | h1
  · exact h1
  · have h2 := Int.mul_le_mul_of_nonneg_left h1 (Int.le_of_lt h.p)
    have e : P * (65536 * (Y + 1)) = 65536 * (P * (Y + 1)) := by rw [← Int.mul_assoc, Int.mul_comm P 65536, Int.mul_assoc]
    have := h.w0; have := h.b1
    omega
/-- What the guesses keep: T the two highest digits, x the third; v, z the highest digits of the divisor. -/
structure Gd (T x v z w B Q : Int) : Prop where
  g : ∃ P, Gs P (65536 * T + x) (65536 * v + z) w B
  x0 : 0 ≤ x
  x1 : x < 65536
  v0 : 32768 ≤ v
  v1 : v < 65536
  z0 : 0 ≤ z
  z1 : z < 65536
  t0 : 0 ≤ T
  w1 : w < 65536 * B
  q0 : 0 ≤ Q
  qw : Q * B ≤ w
  wq : w < (Q + 1) * B
theorem Gd.bpos {T x v z w B Q : Int} (h : Gd T x v z w B Q) : 0 < B := by
  rcases Int.lt_or_le 0 B with h1 | h1
  · exact h1
  · have := h.wq; have := h.qw; rw [Int.add_mul] at *; omega
theorem Gd.t1 {T x v z w B Q : Int} (h : Gd T x v z w B Q) : T ≤ 65536 * v + z := by
  obtain ⟨P, g⟩ := h.g
  have := g.top h.w1; have := h.x0; omega
theorem Gd.lt {T x v z w B Q q : Int} (h : Gd T x v z w B Q) (hq : w < q * B) : Q + 1 ≤ q := by
  rcases Int.lt_or_le Q q with h1 | h1
  · omega
  · have := Int.mul_le_mul_of_nonneg_right h1 (Int.le_of_lt h.bpos)
    have := h.qw; omega
theorem Gd.q1 {T x v z w B Q : Int} (h : Gd T x v z w B Q) : Q + 1 ≤ 65536 := h.lt h.w1
theorem Gd.first {T x v z w B Q : Int} (h : Gd T x v z w B Q) : Q ≤ T / v ∧ T / v ≤ 65537 ∧ 0 ≤ T % v ∧ T % v < 65536 ∧ T / v * v + T % v = T := by
  obtain ⟨P, g⟩ := h.g
  have hv : 0 < v := by have := h.v0; omega
  refine ⟨?_, ?_, Int.emod_nonneg _ (by omega), by have := Int.emod_lt_of_pos T hv; have := h.v1; omega, by rw [Int.mul_comm]; exact Int.mul_ediv_add_emod T v⟩
  · refine (Int.le_ediv_iff_mul_le hv).2 ?_
    rcases Int.lt_or_le T (Q * v) with h1 | h1
    · have h2 := g.over h.q0 (by
        have e : Q * (65536 * v + z) = 65536 * (Q * v) + Q * z := by rw [Int.mul_add]; congr 1; rw [← Int.mul_assoc, Int.mul_comm Q, Int.mul_assoc]
        have := Int.mul_nonneg h.q0 h.z0
        have := h.x1; omega)
      have := h.qw; omega
    · exact h1
  · have h2 : T / v < 65538 := Int.ediv_lt_of_lt_mul hv (by have := h.t1; have := h.z1; have := h.v0; omega)
    omega
theorem Gd.less {T x v z w B Q q r : Int} (h : Gd T x v z w B Q) (he : q * v + r = T) (hq : Q ≤ q) (hx : 65536 ≤ q ∨ 65536 * r + x < q * z) : Q ≤ q - 1 := by
  rcases hx with hx | hx
  · have := h.q1; omega
  · obtain ⟨P, g⟩ := h.g
    have h2 := g.over (q := q) (by have := h.q0; omega) (by
      have e : q * (65536 * v + z) = 65536 * (q * v) + q * z := by rw [Int.mul_add]; congr 1; rw [← Int.mul_assoc, Int.mul_comm q, Int.mul_assoc]
      omega)
    have := h.lt h2; omega
theorem Gd.done {T x v z w B Q q r : Int} (h : Gd T x v z w B Q) (he : q * v + r = T) (hq : Q ≤ q) (h1 : q < 65536) (hx : q * z ≤ 65536 * r + x) : q ≤ Q + 1 := by
  rcases Int.lt_or_le q 1 with h0 | h0
  · have := h.q0; omega
  obtain ⟨P, g⟩ := h.g
  have h2 := g.under (q := q - 1) (by omega) (by
    have e : q * (65536 * v + z) = 65536 * (q * v) + q * z := by rw [Int.mul_add]; congr 1; rw [← Int.mul_assoc, Int.mul_comm q, Int.mul_assoc]
    rw [Int.sub_mul, Int.mul_add q, e]
    have := h.v0; have := h.z0
    omega)
  rcases Int.lt_or_le (Q + 1) q with h3 | h3
  · have h4 : (Q + 1) * B ≤ (q - 1) * B := Int.mul_le_mul_of_nonneg_right (by omega) (Int.le_of_lt h.bpos)
    have := h.wq; omega
  · exact h3
/-- A guess whose rest is past the base. -/
theorem Gd.past {T x v z w B Q q r : Int} (h : Gd T x v z w B Q) (he : q * v + r = T) (hq : Q ≤ q) (hr : 65536 ≤ r) : q < 65536 ∧ q * z ≤ 65536 * r + x := by
  have hv := h.v0
  have h1 : q < 65536 := by
    rcases Int.lt_or_le q 65536 with h1 | h1
    · exact h1
    · have h2 : 65536 * v ≤ q * v := Int.mul_le_mul_of_nonneg_right h1 (by omega)
      have := h.t1; have := h.z1; omega
  refine ⟨h1, ?_⟩
  have h2 : q * z ≤ 65535 * 65535 := Int.mul_le_mul (by omega) (by have := h.z1; omega) h.z0 (by omega)
  have := h.x0; omega
theorem getD_drop {l : List Int} {n j : Nat} : (l.drop n).getD j 0 = l.getD (n + j) 0 := by
  simp [List.getD_eq_getElem?_getD]
theorem lt_pow_mul {k : Nat} {x y c : Int} (hc : 0 ≤ c) (h : c + 65536 ^ k * x < 65536 ^ k * y) : x < y := by
  rcases Int.lt_or_le x y with h1 | h1
  · exact h1
  · have := Int.mul_le_mul_of_nonneg_left h1 (show (0 : Int) ≤ 65536 ^ k from Int.pow_nonneg (by omega))
    omega
theorem Gd.of {V u : List Int} {p j : Nat} (dV : Dgs V) (hV : V.length = p + 2) (hv : 32768 ≤ V.getD (p + 1) 0) (du : Dgs u) (hj : j + (p + 2) < u.length) (hu : val u < 65536 ^ (j + 1) * val V) :
    val u = val (u.take j) + 65536 ^ j * val (u.drop j) ∧ val (u.drop (j + (p + 3))) = 0 ∧
    Gd (65536 * u.getD (j + (p + 2)) 0 + u.getD (j + (p + 1)) 0) (u.getD (j + p) 0) (V.getD (p + 1) 0) (V.getD p 0) (val (u.drop j)) (val V) (val (u.drop j) / val V) := by
  have hs := val_split u j (by omega)
  have l0 := val_nonneg (du.take j)
  have hW := val_nonneg (du.drop j)
  have dW := du.drop j
  have hwl : val (u.drop j) < 65536 * val V := by
    refine lt_pow_mul (k := j) l0 ?_
    rw [← hs, ← Int.mul_assoc, ← Int.pow_succ]; exact hu
  have V1 : val V = val (V.take p) + 65536 ^ p * (65536 * V.getD (p + 1) 0 + V.getD p 0) := by
    have h1 := val_take_succ (l := V) (k := p + 1) (by omega)
    have h2 := val_take_succ (l := V) (k := p) (by omega)
    rw [List.take_of_length_le (by omega)] at h1
    rw [h1, h2, Int.pow_succ, Int.mul_add, ← Int.mul_assoc]; omega
  have V2 := val_lt (dV.take p)
  rw [show (V.take p).length = p by simp; omega] at V2
  have V3 := val_nonneg (dV.take p)
  have gv0 := dV.get p
  have gv1 := dV.get (p + 1)
  have u0 := du.get (j + p)
  have u1 := du.get (j + (p + 1))
  have u2 := du.get (j + (p + 2))
  have hP : (0 : Int) < 65536 ^ p := Int.pow_pos (by omega)
  have Vp : 0 < val V := by
    have : 0 < (65536 : Int) ^ p * (65536 * V.getD (p + 1) 0 + V.getD p 0) := Int.mul_pos hP (by omega)
    omega
  have Vlt := val_lt dV
  rw [hV] at Vlt
  have top0 : val (u.drop (j + (p + 3))) = 0 := by
    have h1 := val_split (u.drop j) (p + 3) (by simp; omega)
    rw [List.drop_drop] at h1
    have h2 := val_nonneg (dW.take (p + 3))
    have h3 := val_nonneg (du.drop (j + (p + 3)))
    have h4 : val (u.drop (j + (p + 3))) < 1 := by
      refine lt_pow_mul (k := p + 3) h2 ?_
      rw [← h1, Int.mul_one, Int.pow_succ]; omega
    omega
  have W1 : val (u.drop j) = val ((u.drop j).take p) + 65536 ^ p * (65536 * (65536 * u.getD (j + (p + 2)) 0 + u.getD (j + (p + 1)) 0) + u.getD (j + p) 0) := by
    have h0 := val_split (u.drop j) (p + 3) (by simp; omega)
    rw [List.drop_drop, top0] at h0
    have h1 : val ((u.drop j).take (p + 3)) = val ((u.drop j).take (p + 2)) + 65536 ^ (p + 2) * (u.drop j).getD (p + 2) 0 := val_take_succ (by simp; omega)
    have h2 : val ((u.drop j).take (p + 2)) = val ((u.drop j).take (p + 1)) + 65536 ^ (p + 1) * (u.drop j).getD (p + 1) 0 := val_take_succ (by simp; omega)
    have h3 := val_take_succ (l := u.drop j) (k := p) (by simp; omega)
    simp only [getD_drop] at h1 h2 h3
    have e2 : (65536 : Int) ^ (p + 1) = 65536 ^ p * 65536 := Int.pow_succ ..
    have e3 : (65536 : Int) ^ (p + 2) = 65536 ^ p * 65536 * 65536 := by rw [Int.pow_succ, e2]
    rw [h0, h1, h2, h3, Int.mul_zero, e3, e2]
    simp only [Int.mul_add, Int.mul_assoc]
    omega
  have W2 := val_lt (dW.take p)
  rw [show ((u.drop j).take p).length = p by simp; omega] at W2
  have W3 := val_nonneg (dW.take p)
  refine ⟨hs, top0, ⟨⟨65536 ^ p, ⟨hP, by omega, by rw [Int.mul_add, Int.mul_one]; omega, by omega, by rw [Int.mul_add, Int.mul_one]; omega⟩⟩, u0.1, u0.2, hv, gv1.2, gv0.1, gv0.2, by omega, hwl, Int.ediv_nonneg hW (by omega), Int.ediv_mul_le _ (by omega), Int.lt_ediv_add_one_mul_self _ Vp⟩⟩

end Pf
/- Whole numbers: quotients. -/
namespace Pf
open Go Go.Proofs

theorem addN0 (k : Nat) : addN 0 k = k := by simp [addN]
theorem Dgs.set {l : List Int} (h : Dgs l) {k : Nat} {x : Int} (x0 : 0 ≤ x) (x1 : x < 65536) : Dgs (l.set k x) := fun d hd => by
  rcases List.mem_or_eq_of_mem_set hd with h1 | h1
  · exact h d h1
  · subst h1; exact ⟨x0, x1⟩
/-- A rest that is met in several places: it is told by its first use. -/
structure Later (X : Prop) : Prop where
  get : X
theorem cutK {X G : Prop} (main : Later X → G) (k : X) : G := main ⟨k⟩
theorem divmod {a b : Nat} {x y : Int} (h : x * b + y = a) (y0 : 0 ≤ y) (y1 : y < b) : x = ((a / b : Nat) : Int) ∧ y = ((a % b : Nat) : Int) := by
  have e1 : (a : Int) / b = x := by
    rw [← h, Int.add_comm, Int.add_mul_ediv_right _ _ (by omega), Int.ediv_eq_zero_of_lt y0 y1]; omega
  have e2 : (a : Int) % b = y := by
    rw [← h, Int.add_comm, Int.add_mul_emod_self_right, Int.emod_eq_of_lt y0 y1]
  exact ⟨by rw [← e1]; simp, by rw [← e2]; simp⟩
theorem natDiv_ok (a b : Nat) (hb : b ≠ 0) (ha : (dig a).length ≤ 1000000) (hbl : (dig b).length ≤ 1000000) : AFunP Tryz.prog 38 [.fi .i64 (dig a), .fi .i64 (dig b)] (· = .tup [.fi .i64 (dig (a / b)), .fi .i64 (dig (a % b))]) := by
  refine afun_of Tryz.func38 Tryz.call38 rfl Tryz.ntmps38 rfl ?_
  have W : Walk Tryz.prog TT 38 _ := Walk.of TT_ok Tryz.func38 Tryz.results38
  have da := dig_dgs a
  have db := dig_dgs b
  refine ce W 0 rfl rfl (natCmp_ok a b (by omega) (by omega)) rfl ?_
  refine sp W 0 rfl rfl rfl (fun h1 => ?_) (fun h1 => ?_)
  · have : a < b := by unfold sgn at h1; omega
    refine rp W 0 rfl rfl rfl (.tup ⟨.trans .nils_fi (.fi (by rw [Nat.div_eq_of_lt this, dig_zero])), .fi (by rw [Nat.mod_eq_of_lt this]), trivial⟩)
  have hab : b ≤ a := by unfold sgn at h1; omega
  have hlen := dig_len_mono hab
  have hlb : 0 < (dig b).length := by
    cases hd : dig b with
    | nil => exact absurd (dig_nil.1 hd) hb
    | cons x l => simp
  refine sp W 0 rfl rfl rfl (fun h2 => ?_) (fun h2 => ?_)
  · have gb := db.get 0
    have eb : (dig b).getD 0 0 = b := by
      have := val_dig b
      rw [val_split (dig b) 1 (by omega), val_take_succ (k := 0) (by omega), List.drop_of_length_le (by omega)] at this
      simpa [val] using this
    rw [eb] at gb
    refine lp W 0 (σ := Nat × Int × List Int) (fun s => [(1, .fi .i64 (dig b)), (6, .sl 0 0 0 (dig a).length), (7, .int .i64 s.2.1), (8, .int .i64 ((s.1 : Int) - 1)), (0, .fi .i64 (dig a))]) (fun s => [.ints 0 .i64 s.2.2]) (fun s => s.1)
      (fun s => s.1 ≤ (dig a).length ∧ s.2.2.length = (dig a).length ∧ 0 ≤ s.2.1 ∧ s.2.1 < b ∧ val s.2.2 * b + s.2.1 * 65536 ^ s.1 + val ((dig a).take s.1) = a ∧ ∀ j, 0 ≤ s.2.2.getD j 0 ∧ s.2.2.getD j 0 < 65536 ∧ (j < s.1 → s.2.2.getD j 0 = 0))
      ((dig a).length, 0, List.replicate (dig a).length 0) [1, 6, 7, 8, 0] rfl rfl rfl ⟨Nat.le_refl _, by simp, by simp, by dsimp only; omega, by simp [val_replicate, val, List.take_length, val_dig], fun j => ?_⟩ ?_
    · have : (List.replicate (dig a).length (0 : Int)).getD j 0 = 0 := by
        rw [List.getD_eq_getElem?_getD, List.getElem?_replicate]; split <;> rfl
      dsimp only; omega
    rintro ⟨t, r, l⟩ ⟨ht, hl, r0, r1, hv, hd⟩ ih
    dsimp only at ht hl r0 r1 hv hd ih ⊢
    refine sp W 0 rfl rfl rfl (fun h3 => ?_) (fun h3 => ?_)
    · obtain ⟨t, rfl⟩ : ∃ m, t = m + 1 := ⟨t - 1, by omega⟩
      have et : (((t + 1 : Nat) : Int) - 1) = (t : Int) := by omega
      have ga := da.get t
      have eo := (bor_add (r := 16) (a := (dig a).getD t 0) (c := r) (by omega) ga.1 ga.2 r0 (by rw [pw16]; omega)).2
      rw [Int.mul_comm] at eo
      rw [et]
      have hN : ∃ N : Int, bor .i64 (r * 2 ^ 16) ((dig a).getD (t : Int).toNat 0) = N ∧ N = 65536 * r + (dig a).getD t 0 := ⟨_, rfl, by rw [Int.toNat_natCast, eo, pw16]; omega⟩
      obtain ⟨N, hN1, hN⟩ := hN
      have n0 : 0 ≤ N := by omega
      have q0 : 0 ≤ N / b := Int.ediv_nonneg n0 (by omega)
      have q1 : N / b < 65536 := Int.ediv_lt_of_lt_mul (by omega) (by omega)
      have m0 := Int.emod_nonneg N (b := b) (by omega)
      have m1 := Int.emod_lt_of_pos N (b := b) (by omega)
      have eb' : (dig b).getD (Int.toNat 0) 0 = b := eb
      refine phg W 0 14 [13] rfl rfl (fun PW => ?_)
      · refine pho PW 0 13 [] [] rfl rfl trivial rfl rfl ?_ (hp := by simp only [AllP, hN1, eb', addN, Int.toNat_natCast, true_and, and_true, Option.getD]; omega)
        refine phe PW 0 [] [] rfl trivial rfl ?_ (hp := by simp only [AllP, hN1, eb', addN, Int.toNat_natCast, true_and, and_true, Option.getD]; omega)
        rw [hN1, eb']
        have gl := (hd t).2.2 (by omega)
        refine bk W 0 [1, 6, 7, 8, 0] rfl rfl (ih (t, N % b, l.set t (N / b)) ⟨by dsimp only; omega, by simpa using hl, m0, m1, ?_, fun j => ?_⟩ (by dsimp only; omega))
        · dsimp only
          rw [val_take_succ (show t < (dig a).length by omega), Int.pow_succ] at hv
          rw [val_set _ _ _ (by omega), gl, Int.sub_zero, Int.add_mul, Int.mul_assoc (65536 ^ t), Int.mul_comm (N % b)]
          have e1 : N / b * b + N % b = 65536 * r + (dig a).getD t 0 := by rw [Int.mul_comm]; rw [← hN]; exact Int.mul_ediv_add_emod N b
          have e2 : 65536 ^ t * (N / b * b) + 65536 ^ t * (N % b) = r * (65536 ^ t * 65536) + 65536 ^ t * (dig a).getD t 0 := by
            rw [← Int.mul_add, e1, Int.mul_add]; congr 1; simp only [Int.mul_assoc, Int.mul_comm, Int.mul_left_comm]
          omega
        · dsimp only
          rw [getD_set _ _ _ _ (by omega)]
          have := hd j
          split <;> omega
    · obtain rfl : t = 0 := by omega
      have dl : Dgs l := dgs_of_getD fun j hj => by have := hd j; omega
      have dr : Dgs [r] := Dgs.nil.cons r0 (by omega)
      simp only [List.take_zero, val, Int.pow_zero, Int.mul_one, Int.add_zero] at hv
      have v0 := val_nonneg dl
      refine cf W 0 [0] [7] rfl rfl rfl rfl rfl rfl (trim_ok l (by omega)) rfl ?_
      refine cf W 0 [1] [66] rfl rfl rfl rfl rfl rfl (trim_ok [r] (by simp)) rfl ?_
      obtain ⟨u1, u2⟩ := divmod hv r0 r1
      refine rp W 0 rfl rfl rfl (.tup ⟨.fi (by rw [trimL_dig dl, u1, Int.toNat_natCast]), .fi (by rw [trimL_dig dr, show val [r] = r by simp [val], u2, Int.toNat_natCast]), trivial⟩)
  have gb := db.get ((dig b).length - 1)
  have eb1 : (((dig b).length : Int) - 1).toNat = (dig b).length - 1 := by omega
  rw [show (dig b).getD ((dig b).length - 1) 0 = (dig b).getD (((dig b).length : Int) - 1).toNat 0 by rw [eb1]] at gb
  refine ce W 0 rfl rfl (len_ok ((dig b).getD (((dig b).length : Int) - 1).toNat 0) gb.1 (by omega)) rfl ?_
  rw [eb1]
  have hbd := bitL_dig b hb
  obtain ⟨s, es, hs⟩ : ∃ s : Nat, (16 : Int) - bitLen ((dig b).getD ((dig b).length - 1) 0) = (s : Int) ∧ s ≤ 15 := by
    have gl := db.get ((dig b).length - 1)
    refine ⟨16 - bitL ((dig b).getD ((dig b).length - 1) 0).toNat, ?_, ?_⟩
    · have := (bitL_lt 16 ((dig b).getD ((dig b).length - 1) 0).toNat).2 (by rw [show (2 : Nat) ^ 16 = 65536 from rfl]; omega)
      unfold bitLen; omega
    · have h0 : ¬ bitL b ≤ 16 * ((dig b).length - 1) := by
        rw [bitL_lt, Nat.pow_mul, show (2 : Nat) ^ 16 = 65536 from rfl, ← dig_len_le]; omega
      omega
  have k1 : AFunP Tryz.prog 68 [.fi .i64 (dig b), .int .i64 ((16 : Int) - bitLen ((dig b).getD ((dig b).length - 1) 0))] (· = .fi .i64 (dig (b * 2 ^ s))) := by
    rw [es]; exact natShiftUp_ok b s (by omega) (by omega)
  have k2 : AFunP Tryz.prog 68 [.fi .i64 (dig a), .int .i64 ((16 : Int) - bitLen ((dig b).getD ((dig b).length - 1) 0))] (· = .fi .i64 (dig (a * 2 ^ s))) := by
    rw [es]; exact natShiftUp_ok a s (by omega) (by omega)
  refine ce W 0 rfl rfl (k1) rfl ?_
  refine ce W 0 rfl rfl (k2) rfl ?_
  obtain ⟨hVl, hVt⟩ : (dig (b * 2 ^ s)).length = (dig b).length ∧ 32768 ≤ (dig (b * 2 ^ s)).getD ((dig b).length - 1) 0 := by
    have h1 := bitL_mul s b hb
    have h2 : bitL (b * 2 ^ s) = 16 * (dig b).length := by unfold bitLen at es; omega
    have h3 : b * 2 ^ s ≠ 0 := Nat.mul_ne_zero hb (by have := Nat.pow_pos (n := s) (show 0 < 2 by omega); omega)
    have h4 : (dig (b * 2 ^ s)).length = (dig b).length := by
      have h5 : (dig (b * 2 ^ s)).length ≤ (dig b).length := by
        rw [dig_len_le, show (65536 : Nat) = 2 ^ 16 from rfl, ← Nat.pow_mul, ← bitL_lt]; omega
      have h6 : ¬ (dig (b * 2 ^ s)).length ≤ (dig b).length - 1 := by
        rw [dig_len_le, show (65536 : Nat) = 2 ^ 16 from rfl, ← Nat.pow_mul, ← bitL_lt]; omega
      omega
    refine ⟨h4, ?_⟩
    have h7 := bitL_dig _ h3
    rw [h4] at h7
    have h8 := bitL_lt 15 ((dig (b * 2 ^ s)).getD ((dig b).length - 1) 0).toNat
    rw [show (2 : Nat) ^ 15 = 32768 from rfl] at h8
    omega
  have hUl : (dig a).length ≤ (dig (a * 2 ^ s)).length ∧ (dig (a * 2 ^ s)).length ≤ (dig a).length + 1 := by
    refine ⟨dig_len_mono (Nat.le_mul_of_pos_right _ (Nat.pow_pos (by omega))), ?_⟩
    rw [dig_len_le, Nat.pow_succ]
    have h1 := (dig_len_le (n := a) (k := (dig a).length)).1 (Nat.le_refl _)
    have h2 : 2 ^ s ≤ 65536 := by
      rw [show (65536 : Nat) = 2 ^ 16 from rfl]; exact Nat.pow_le_pow_right (by omega) (by omega)
    exact Nat.lt_of_lt_of_le (Nat.mul_lt_mul_of_pos_right h1 (Nat.pow_pos (by omega))) (Nat.mul_le_mul_left _ h2)
  have hUs : ∀ x, x ≤ a * 2 ^ s → (dig x).length ≤ (dig a).length + 1 := fun x hx => Nat.le_trans (dig_len_mono hx) hUl.2
  have hVne : b * 2 ^ s ≠ 0 := Nat.mul_ne_zero hb (by have := Nat.pow_pos (n := s) (show 0 < 2 by omega); omega)
  have dU := dig_dgs (a * 2 ^ s)
  have dV := dig_dgs (b * 2 ^ s)
  have uV := val_dig (b * 2 ^ s)
  have uU := val_dig (a * 2 ^ s)
  generalize hn : (dig b).length = n at *
  generalize dig (b * 2 ^ s) = V at *
  generalize dig (a * 2 ^ s) = U at *
  refine cn W 0 rfl rfl rfl (cloneS_new U (by omega)) ?_
  rintro _ _ ⟨rfl, rfl⟩
  refine ⟨_, _, rfl, rfl, ?_⟩
  obtain ⟨u, hu⟩ : ∃ u, U ++ [0] = u := ⟨_, rfl⟩
  have hul : u.length = U.length + 1 := by rw [← hu]; simp
  have du : Dgs u := by rw [← hu]; exact dU.app (Dgs.nil.cons (by omega) (by omega))
  have uu : val u = (a * 2 ^ s : Nat) := by rw [← hu, val_app]; simp [val, uU]
  have ut : u.getD (u.length - 1) 0 = 0 := by rw [hul, ← hu]; simp
  refine lp W 0 (σ := Unit) (fun _ => [(0, .fi .i64 (dig a)), (10, .int .i64 (16 - bitLen ((dig b).getD (n - 1) 0))), (11, .fi .i64 V), (12, .sl 0 1 0 u.length), (13, .int .i64 V.length)]) (fun _ => [.ints 1 .i64 u, .ints 0 .i64 [0]]) (fun _ => 0)
    (fun _ => True) () [0, 10, 11, 12, 13] rfl (by rw [hul]; rfl) (by rw [hu]) trivial ?_ (hc := by simp only [AllC, true_and]; simp only [List.length_cons, List.length_nil, Nat.zero_add, true_and, and_true]; omega)
  rintro _ _ _
  refine sp W 0 rfl rfl rfl (fun h3 => ?_) (fun h3 => ?_)
  · omega
  obtain ⟨M, hM⟩ : ∃ M, U.length + 1 = M + n := ⟨U.length + 1 - n, by omega⟩
  have hul2 : u.length = M + n := by omega
  have eMn : ((u.length : Int) - V.length) = (M : Nat) := by omega
  clear hul
  obtain ⟨p, rfl⟩ : ∃ p, n = p + 2 := ⟨n - 2, by omega⟩
  rw [show p + 2 - 1 = p + 1 by omega] at hVt
  have hin : val u < 65536 ^ M * val V := by
    have h1 := val_lt dU
    rw [uU, ← uu, show U.length = M + (p + 1) by omega, Int.pow_add] at h1
    have h2 := val_take_succ (l := V) (k := p + 1) (by omega)
    rw [List.take_of_length_le (by omega)] at h2
    have h3 := val_nonneg (dV.take (p + 1))
    have h4 : (65536 : Int) ^ (p + 1) * 1 ≤ 65536 ^ (p + 1) * V.getD (p + 1) 0 := Int.mul_le_mul_of_nonneg_left (by omega) (Int.pow_nonneg (by omega))
    have h5 : (65536 : Int) ^ M * 65536 ^ (p + 1) ≤ 65536 ^ M * val V := Int.mul_le_mul_of_nonneg_left (by omega) (Int.pow_nonneg (by omega))
    omega
  refine lp W 0 (σ := Nat × List Int × List Int) (fun s => [(10, .int .i64 (16 - bitLen ((dig b).getD (p + 2 - 1) 0))), (11, .fi .i64 V), (12, .sl 0 1 0 (M + (p + 2))), (13, .int .i64 ((p + 2 : Nat) : Int)), (14, .sl 2 0 0 M), (15, .int .i64 ((s.1 : Int) - 1))]) (fun s => [.ints 1 .i64 s.2.1, .ints 0 .i64 [0], .ints 0 .i64 s.2.2]) (fun s => s.1)
    (fun s => s.1 ≤ M ∧ s.2.1.length = M + (p + 2) ∧ s.2.2.length = M ∧ val s.2.2 * val V + val s.2.1 = val u ∧ Dgs s.2.1 ∧ val s.2.1 < 65536 ^ s.1 * val V ∧ ∀ j, 0 ≤ s.2.2.getD j 0 ∧ s.2.2.getD j 0 < 65536 ∧ (j < s.1 → s.2.2.getD j 0 = 0))
    (M, u, List.replicate M 0) [10, 11, 12, 13, 14, 15] rfl (by rw [eMn, hul2, hVl]; rfl) (by rw [eMn]; rfl) ⟨Nat.le_refl _, hul2, by simp, by simp [val_replicate], du, hin, fun j => ?_⟩ ?_ (hc := ?_)
  · have : (List.replicate M (0 : Int)).getD j 0 = 0 := by
      rw [List.getD_eq_getElem?_getD, List.getElem?_replicate]; split <;> rfl
    dsimp only; omega
  · rintro ⟨t, w, o⟩ ⟨ht, hw, ho, hv, dw, hlt, hd⟩ ih
    dsimp only at ht hw ho hv dw hlt hd ih ⊢
    refine sp W 0 rfl rfl rfl (fun h4 => ?_) (fun h4 => ?_)
    · obtain ⟨t, rfl⟩ : ∃ m, t = m + 1 := ⟨t - 1, by omega⟩
      have et : (((t + 1 : Nat) : Int) - 1) = (t : Int) := by omega
      have ht : t < M := by omega
      obtain ⟨ws, wz, g⟩ := Gd.of (j := t) dV hVl hVt dw (by omega) hlt
      generalize hQ : val (w.drop t) / val V = Q at *
      have x0 := dw.get (t + (p + 2))
      have x1 := dw.get (t + (p + 1))
      have x2 := dw.get (t + p)
      have i1 : ((t : Int) + ((p + 2 : Nat) : Int)).toNat = t + (p + 2) := by omega
      have i2 : ((t : Int) + ((p + 2 : Nat) : Int) - 1).toNat = t + (p + 1) := by omega
      have i3 : ((t : Int) + ((p + 2 : Nat) : Int) - 2).toNat = t + p := by omega
      have i4 : (((p + 2 : Nat) : Int) - 1).toNat = p + 1 := by omega
      have i5 : (((p + 2 : Nat) : Int) - 2).toNat = p := by omega
      have eo := (bor_add (r := 16) (a := w.getD (t + (p + 1)) 0) (c := w.getD (t + (p + 2)) 0) (by omega) x1.1 x1.2 x0.1 (by rw [pw16]; omega)).2
      rw [Int.mul_comm] at eo
      obtain ⟨T, hT1, hT⟩ : ∃ T : Int, bor .i64 (w.getD (t + (p + 2)) 0 * 2 ^ 16) (w.getD (t + (p + 1)) 0) = T ∧ T = 65536 * w.getD (t + (p + 2)) 0 + w.getD (t + (p + 1)) 0 := ⟨_, rfl, by rw [eo, pw16]; omega⟩
      rw [← hT] at g
      rw [et]
      refine dre W 0 15 [] [] rfl rfl rfl trivial rfl ?_ (hp := by simp only [AllP, i1, i2, addN, Int.toNat_natCast, true_and, and_true, Option.getD, hw]; omega)
      have zz : ∀ k, addN 0 k = k := addN0
      rw [i1, i2, zz, zz, hT1]
      have gv := dV.get (p + 1)
      have T0 := g.t0
      have T1 : T ≤ 4294967295 := by omega
      obtain ⟨f1, f2, f3, f4, f5⟩ := g.first
      have q0 := g.q0
      generalize hq0 : T / V.getD (p + 1) 0 = q1 at *
      generalize hr0 : T % V.getD (p + 1) 0 = r1 at *
      refine dre W 0 16 [] [] rfl rfl rfl trivial rfl ?_ (hp := by simp only [AllP, i4, hq0, hr0, hVl, addN, Int.toNat_natCast, true_and, and_true, Option.getD, hw]; omega)
      rw [i4, hq0, hr0]
      refine' cutK (fun K => ?main) ?k
      case main =>
        refine lp W 0 (σ := Int × Int) (fun s => [(10, .int .i64 (16 - bitLen ((dig b).getD (p + 2 - 1) 0))), (11, .fi .i64 V), (12, .sl 0 1 0 (M + (p + 2))), (13, .int .i64 ((p + 2 : Nat) : Int)), (14, .sl 2 0 0 M), (15, .int .i64 t), (17, .int .i64 s.1), (18, .int .i64 s.2)]) (fun s => [.ints 1 .i64 w, .ints 0 .i64 [0], .ints 0 .i64 o]) (fun s => s.1.toNat)
          (fun s => s.1 * V.getD (p + 1) 0 + s.2 = T ∧ Q ≤ s.1 ∧ s.1 ≤ 65537 ∧ 0 ≤ s.2 ∧ s.2 < 65536) (q1, r1) [10, 11, 12, 13, 14, 15, 17, 18] rfl rfl rfl ⟨f5, f1, f2, f3, f4⟩ ?_
        rintro ⟨q, r⟩ ⟨e1, e2, e3, e4, e5⟩ ih2
        dsimp only at e1 e2 e3 e4 e5 ih2 ⊢
        have qz0 : 0 ≤ q * V.getD p 0 := Int.mul_nonneg (by omega) (dV.get p).1
        have qz1 : q * V.getD p 0 ≤ 65537 * 65535 := Int.mul_le_mul (by omega) (by have := dV.get p; omega) (dV.get p).1 (by omega)
        have eo2 := (bor_add (r := 16) (a := w.getD (t + p) 0) (c := r) (by omega) x2.1 x2.2 e4 (by rw [pw16]; omega)).2
        rw [Int.mul_comm] at eo2
        have eo2 : bor .i64 (r * 2 ^ 16) (w.getD (t + p) 0) = 65536 * r + w.getD (t + p) 0 := by rw [eo2, pw16]; omega
        rcases Int.lt_or_le q 65536 with h5 | h5
        · refine dre W 0 21 [(144, false)] [] rfl rfl rfl trivial rfl ?_ (hp := by simp only [AllP, Holds, i3, i5, hVl, addN, eo2, Int.toNat_natCast, true_and, and_true, Option.getD, hw]; omega)
          rw [i3, i5, zz, eo2]
          refine sp W 0 rfl rfl rfl (fun h6 => ?_) (fun h6 => ?_)
          · refine sp W 0 rfl rfl rfl (fun h7 => ?_) (fun h7 => ?_) (hc := by simp only [AllC, i4, hVl, and_true, true_and]; omega)
            · obtain ⟨p1, p2⟩ := g.past (q := q - 1) (r := r + V.getD (p + 1) 0) (by rw [Int.sub_mul]; omega) (g.less e1 e2 (.inr h6)) (by rw [i4] at h7; exact h7)
              refine lp W 0 (σ := Int × Nat × Int × List Int) (fun s => [(10, .int .i64 (16 - bitLen ((dig b).getD (p + 2 - 1) 0))), (11, .fi .i64 V), (12, .sl 0 1 0 (M + (p + 2))), (13, .int .i64 ((p + 2 : Nat) : Int)), (14, .sl 2 0 0 M), (15, .int .i64 t), (17, .int .i64 s.1), (19, .int .i64 s.2.2.1), (175, .fi .i64 V), (176, .int .i64 V.length), (177, .int .i64 s.2.1)]) (fun s => [.ints 1 .i64 s.2.2.2, .ints 0 .i64 [0], .ints 0 .i64 o]) (fun s => V.length - s.2.1)
                (fun s => (Q ≤ s.1 ∧ s.1 ≤ Q + 1 ∧ s.1 ≤ 65535) ∧ s.2.1 ≤ V.length ∧ s.2.2.2.length = M + (p + 2) ∧ Dgs s.2.2.2 ∧ (0 ≤ s.2.2.1 ∧ s.2.2.1 ≤ 65535) ∧ (∀ j, t + s.2.1 ≤ j → s.2.2.2.getD j 0 = w.getD j 0) ∧ val s.2.2.2 - 65536 ^ (t + s.2.1) * s.2.2.1 = val w - 65536 ^ t * (s.1 * val (V.take s.2.1))) (q - 1, 0, 0, w) [10, 11, 12, 13, 14, 15, 17, 19, 175, 176, 177] rfl rfl rfl ⟨⟨g.less e1 e2 (.inr h6), g.done (q := q - 1) (r := r + V.getD (p + 1) 0) (by rw [Int.sub_mul]; omega) (g.less e1 e2 (.inr h6)) p1 p2, by dsimp only; omega⟩, Nat.zero_le _, hw, dw, by simp, fun j _ => rfl, by simp [val]⟩ K.get (hc := trivial)
            · rw [i4] at h7 ⊢
              refine bk W 0 [10, 11, 12, 13, 14, 15, 17, 18] rfl rfl (ih2 (q - 1, r + V.getD (p + 1) 0) ⟨by dsimp only; rw [Int.sub_mul]; omega, g.less e1 e2 (.inr h6), by dsimp only; omega, by dsimp only; omega, by dsimp only; omega⟩ (by have := g.q0; have := g.less e1 e2 (.inr h6); dsimp only; omega))
          · refine lp W 0 (σ := Int × Nat × Int × List Int) (fun s => [(10, .int .i64 (16 - bitLen ((dig b).getD (p + 2 - 1) 0))), (11, .fi .i64 V), (12, .sl 0 1 0 (M + (p + 2))), (13, .int .i64 ((p + 2 : Nat) : Int)), (14, .sl 2 0 0 M), (15, .int .i64 t), (17, .int .i64 s.1), (19, .int .i64 s.2.2.1), (175, .fi .i64 V), (176, .int .i64 V.length), (177, .int .i64 s.2.1)]) (fun s => [.ints 1 .i64 s.2.2.2, .ints 0 .i64 [0], .ints 0 .i64 o]) (fun s => V.length - s.2.1)
                (fun s => (Q ≤ s.1 ∧ s.1 ≤ Q + 1 ∧ s.1 ≤ 65535) ∧ s.2.1 ≤ V.length ∧ s.2.2.2.length = M + (p + 2) ∧ Dgs s.2.2.2 ∧ (0 ≤ s.2.2.1 ∧ s.2.2.1 ≤ 65535) ∧ (∀ j, t + s.2.1 ≤ j → s.2.2.2.getD j 0 = w.getD j 0) ∧ val s.2.2.2 - 65536 ^ (t + s.2.1) * s.2.2.1 = val w - 65536 ^ t * (s.1 * val (V.take s.2.1))) (q, 0, 0, w) [10, 11, 12, 13, 14, 15, 17, 19, 175, 176, 177] rfl rfl rfl ⟨⟨e2, g.done e1 e2 h5 (Int.not_lt.1 h6), by omega⟩, Nat.zero_le _, hw, dw, by simp, fun j _ => rfl, by simp [val]⟩ K.get (hc := trivial)
        · refine dre W 0 21 [(144, true)] [] rfl rfl rfl trivial rfl ?_ (hp := by simp only [AllP, Holds, i3, i5, hVl, addN, eo2, Int.toNat_natCast, true_and, and_true, Option.getD, hw]; omega)
          refine sp W 0 rfl rfl rfl (fun h7 => ?_) (fun h7 => ?_) (hc := by simp only [AllC, i4, hVl, and_true, true_and]; omega)
          · obtain ⟨p1, p2⟩ := g.past (q := q - 1) (r := r + V.getD (p + 1) 0) (by rw [Int.sub_mul]; omega) (g.less e1 e2 (.inl h5)) (by rw [i4] at h7; exact h7)
            refine lp W 0 (σ := Int × Nat × Int × List Int) (fun s => [(10, .int .i64 (16 - bitLen ((dig b).getD (p + 2 - 1) 0))), (11, .fi .i64 V), (12, .sl 0 1 0 (M + (p + 2))), (13, .int .i64 ((p + 2 : Nat) : Int)), (14, .sl 2 0 0 M), (15, .int .i64 t), (17, .int .i64 s.1), (19, .int .i64 s.2.2.1), (175, .fi .i64 V), (176, .int .i64 V.length), (177, .int .i64 s.2.1)]) (fun s => [.ints 1 .i64 s.2.2.2, .ints 0 .i64 [0], .ints 0 .i64 o]) (fun s => V.length - s.2.1)
                (fun s => (Q ≤ s.1 ∧ s.1 ≤ Q + 1 ∧ s.1 ≤ 65535) ∧ s.2.1 ≤ V.length ∧ s.2.2.2.length = M + (p + 2) ∧ Dgs s.2.2.2 ∧ (0 ≤ s.2.2.1 ∧ s.2.2.1 ≤ 65535) ∧ (∀ j, t + s.2.1 ≤ j → s.2.2.2.getD j 0 = w.getD j 0) ∧ val s.2.2.2 - 65536 ^ (t + s.2.1) * s.2.2.1 = val w - 65536 ^ t * (s.1 * val (V.take s.2.1))) (q - 1, 0, 0, w) [10, 11, 12, 13, 14, 15, 17, 19, 175, 176, 177] rfl rfl rfl ⟨⟨g.less e1 e2 (.inl h5), g.done (q := q - 1) (r := r + V.getD (p + 1) 0) (by rw [Int.sub_mul]; omega) (g.less e1 e2 (.inl h5)) p1 p2, by dsimp only; omega⟩, Nat.zero_le _, hw, dw, by simp, fun j _ => rfl, by simp [val]⟩ K.get (hc := trivial)
          · rw [i4] at h7 ⊢
            refine bk W 0 [10, 11, 12, 13, 14, 15, 17, 18] rfl rfl (ih2 (q - 1, r + V.getD (p + 1) 0) ⟨by dsimp only; rw [Int.sub_mul]; omega, g.less e1 e2 (.inl h5), by dsimp only; omega, by dsimp only; omega, by dsimp only; omega⟩ (by have := g.q0; have := g.less e1 e2 (.inl h5); dsimp only; omega))
      case k =>
        have hV0 := g.bpos
        have hot := (hd t).2.2 (by omega)
        have fin : ∀ l : List Int, l.length = M + (p + 2) → Dgs l → val l = val w - 65536 ^ t * (Q * val V) → t ≤ M ∧ l.length = M + (p + 2) ∧ (o.set t Q).length = M ∧ val (o.set t Q) * val V + val l = val u ∧ Dgs l ∧ val l < 65536 ^ t * val V ∧ ∀ j, 0 ≤ (o.set t Q).getD j 0 ∧ (o.set t Q).getD j 0 < 65536 ∧ (j < t → (o.set t Q).getD j 0 = 0) := by
          intro l h1 h2 h3
          refine ⟨by omega, h1, by simpa using ho, ?_, h2, ?_, fun j => ?_⟩
          · rw [val_set _ _ _ (by omega), hot, Int.sub_zero, h3, Int.add_mul, Int.mul_assoc (65536 ^ t)]; omega
          · have h4 := val_lt (dw.take t)
            rw [show (w.take t).length = t by simp; omega] at h4
            have h5 : 65536 ^ t * val (w.drop t) + 65536 ^ t ≤ 65536 ^ t * (Q * val V) + 65536 ^ t * val V := by
              have h6 := g.wq
              rw [Int.add_mul, Int.one_mul] at h6
              have h7 := Int.mul_le_mul_of_nonneg_left (show val (w.drop t) + 1 ≤ Q * val V + val V by omega) (show (0 : Int) ≤ 65536 ^ t from Int.pow_nonneg (by omega))
              rw [Int.mul_add, Int.mul_add, Int.mul_one] at h7; exact h7
            rw [h3, ws]; omega
          · rw [getD_set _ _ _ _ (by omega)]
            have := hd j; have := g.q0; have := g.q1
            split <;> omega
        have top1 : ∀ l : List Int, l.length = M + (p + 2) → (∀ j, j ≠ t + (p + 2) → 0 ≤ l.getD j 0 ∧ l.getD j 0 < 65536) → l.drop (t + (p + 3)) = w.drop (t + (p + 3)) → 0 ≤ val l → 0 ≤ l.getD (t + (p + 2)) 0 := by
          intro l h1 h2 h3 h4
          have h5 := val_split l (t + (p + 3)) (by omega)
          rw [h3, wz, Int.mul_zero] at h5
          have h6 := top_nonneg (l := l.take (t + (p + 3))) (n := t + (p + 2)) (by simp; omega) (fun j hj => by rw [getD_take (by omega)]; exact h2 j (by omega)) (by omega)
          rwa [getD_take (by omega)] at h6
        have low : 0 ≤ val w - 65536 ^ t * (Q * val V) := by
          have h1 := val_nonneg (dw.take t)
          have h2 := Int.mul_le_mul_of_nonneg_left g.qw (show (0 : Int) ≤ 65536 ^ t from Int.pow_nonneg (by omega))
          omega
        have high : val w - 65536 ^ t * ((Q + 1) * val V) < 0 := by
          have h4 := val_lt (dw.take t)
          rw [show (w.take t).length = t by simp; omega] at h4
          have h7 := Int.mul_le_mul_of_nonneg_left (show val (w.drop t) + 1 ≤ (Q + 1) * val V from g.wq) (show (0 : Int) ≤ 65536 ^ t from Int.pow_nonneg (by omega))
          rw [Int.mul_add, Int.mul_one] at h7
          omega
        rintro ⟨q, i, c, m⟩ ⟨⟨k1, k2, k3⟩, hi, hm, dm, ⟨c0, c1⟩, hsame, hval⟩ ih3
        dsimp only at k1 k2 k3 hi hm dm c0 c1 hsame hval ih3 ⊢
        refine sp W 0 rfl rfl rfl (fun h5 => ?_) (fun h5 => ?_)
        · have h5 : i < V.length := by omega
          have gd := dV.get i
          have gm := dm.get (t + i)
          have q0 := g.q0
          have i6 : ((t : Int) + (i : Int)).toNat = t + i := by omega
          have z0 : 0 ≤ q * V.getD i 0 := Int.mul_nonneg (by omega) gd.1
          have z1 : q * V.getD i 0 ≤ 65535 * 65535 := Int.mul_le_mul (by omega) (by omega) gd.1 (by omega)
          have hvs := val_take_succ h5
          have e1 : (65536 : Int) ^ (t + i) = 65536 ^ t * 65536 ^ i := Int.pow_add ..
          have e2 : (65536 : Int) ^ (t + (i + 1)) = 65536 ^ (t + i) * 65536 := by rw [show t + (i + 1) = t + i + 1 by omega, Int.pow_succ]
          have e3 : 65536 ^ t * (q * (val (V.take i) + 65536 ^ i * V.getD i 0)) = 65536 ^ t * (q * val (V.take i)) + 65536 ^ (t + i) * (q * V.getD i 0) := by
            rw [Int.mul_add, Int.mul_add, e1]; congr 1; simp only [Int.mul_assoc, Int.mul_comm, Int.mul_left_comm]
          refine sp W 0 rfl rfl rfl (fun h6 => ?_) (fun h6 => ?_) (hc := by simp only [AllC, i6, addN, hm, hVl, Int.toNat_natCast, true_and, and_true]; omega)
          all_goals
            simp only [i6, addN, Int.toNat_natCast] at h6
            rw [i6, zz, Int.toNat_natCast] at *
            obtain ⟨x, hx⟩ : ∃ x, m.getD (t + i) 0 - c - q * V.getD i 0 = x := ⟨_, rfl⟩
            rw [hx] at h6 ⊢
          · refine bk W 0 [10, 11, 12, 13, 14, 15, 17, 19, 175, 176, 177] rfl rfl (ih3 (q, i + 1, (-x + 65536 - 1) / 65536, m.set (t + i) (x + (-x + 65536 - 1) / 65536 * 65536)) ⟨⟨k1, k2, k3⟩, h5, by simpa using hm, ?_, by dsimp only; omega, fun j hj => ?_, ?_⟩ (by dsimp only; omega))
            · exact dm.set (by omega) (by omega)
            · dsimp only at hj ⊢
              rw [getD_set _ _ _ _ (by omega), if_neg (by omega)]; exact hsame j (by omega)
            · dsimp only
              rw [val_set _ _ _ (by omega), hvs, e3, e2]
              have e4 : 65536 ^ (t + i) * 65536 * ((-x + 65536 - 1) / 65536) = 65536 ^ (t + i) * ((-x + 65536 - 1) / 65536 * 65536) := by rw [Int.mul_assoc, Int.mul_comm 65536]
              rw [e4]
              generalize (-x + 65536 - 1) / 65536 * 65536 = y at *
              rw [← hx, show m.getD (t + i) 0 - c - q * V.getD i 0 + y - m.getD (t + i) 0 = y - c - q * V.getD i 0 by omega, Int.mul_sub, Int.mul_sub]
              omega
          · refine bk W 0 [10, 11, 12, 13, 14, 15, 17, 19, 175, 176, 177] rfl rfl (ih3 (q, i + 1, 0, m.set (t + i) x) ⟨⟨k1, k2, k3⟩, h5, by simpa using hm, ?_, by dsimp only; omega, fun j hj => ?_, ?_⟩ (by dsimp only; omega))
            · exact dm.set (by omega) (by omega)
            · dsimp only at hj ⊢
              rw [getD_set _ _ _ _ (by omega), if_neg (by omega)]; exact hsame j (by omega)
            · dsimp only
              rw [val_set _ _ _ (by omega), hvs, e3, Int.mul_zero]
              rw [← hx, show m.getD (t + i) 0 - c - q * V.getD i 0 - m.getD (t + i) 0 = - c - q * V.getD i 0 by omega, Int.mul_sub, Int.mul_neg]
              omega
        · have hi : i = p + 2 := by omega
          subst hi
          have hK : t + (p + 2) < M + (p + 2) := by omega
          have wv := hsame (t + (p + 2)) (Nat.le_refl _)
          have i6 : ((t : Int) + ((p + 2 : Nat) : Int)).toNat = t + (p + 2) := by omega
          rw [List.take_of_length_le (by omega)] at hval
          obtain ⟨m2, hm2⟩ : ∃ m2, m.set (t + (p + 2)) (w.getD (t + (p + 2)) 0 - c) = m2 := ⟨_, rfl⟩
          have hl2 : m2.length = M + (p + 2) := by rw [← hm2]; simpa using hm
          have hy2 : m2.getD (t + (p + 2)) 0 = w.getD (t + (p + 2)) 0 - c := by rw [← hm2, getD_set _ _ _ _ (by omega), if_pos rfl]
          have hd2 : ∀ j, j ≠ t + (p + 2) → 0 ≤ m2.getD j 0 ∧ m2.getD j 0 < 65536 := fun j hj => by
            rw [← hm2, getD_set _ _ _ _ (by omega), if_neg hj]; exact dm.get j
          have hz2 : m2.drop (t + (p + 3)) = w.drop (t + (p + 3)) := by
            refine List.ext_getElem (by simp; omega) fun j q1 q2 => ?_
            have h1 : m2.getD (t + (p + 3) + j) 0 = w.getD (t + (p + 3) + j) 0 := by
              rw [← hm2, getD_set _ _ _ _ (by omega), if_neg (by omega)]; exact hsame _ (by omega)
            simp only [List.length_drop] at q1 q2
            rw [List.getElem_drop, List.getElem_drop]
            simp only [List.getD_eq_getElem?_getD] at h1
            rw [List.getElem?_eq_getElem (by omega), List.getElem?_eq_getElem (by omega)] at h1
            exact h1
          have hv2 : val m2 = val w - 65536 ^ t * (q * val V) := by
            rw [← hm2, val_set _ _ _ (by omega), wv, show w.getD (t + (p + 2)) 0 - c - w.getD (t + (p + 2)) 0 = -c by omega, Int.mul_neg]; omega
          refine sp W 0 rfl rfl rfl (fun h6 => ?_) (fun h6 => ?_) (hc := by simp only [AllC, i6, addN, hm, hVl, Int.toNat_natCast, true_and, and_true, List.length_set, wv]; omega)
          all_goals
            rw [i6, zz, wv, hm2, hy2] at h6 ⊢
          · have hq : q = Q + 1 := by
              rcases Int.lt_or_le Q q with h | h
              · omega
              · obtain rfl : q = Q := by omega
                have := top1 m2 hl2 hd2 hz2 (by omega)
                omega
            subst hq
            refine lp W 0 (σ := Nat × Int × List Int) (fun s => [(10, .int .i64 (16 - bitLen ((dig b).getD (p + 2 - 1) 0))), (11, .fi .i64 V), (12, .sl 0 1 0 (M + (p + 2))), (13, .int .i64 ((p + 2 : Nat) : Int)), (14, .sl 2 0 0 M), (15, .int .i64 t), (17, .int .i64 (Q + 1 - 1)), (23, .int .i64 s.2.1), (230, .fi .i64 V), (231, .int .i64 V.length), (232, .int .i64 s.1)]) (fun s => [.ints 1 .i64 s.2.2, .ints 0 .i64 [0], .ints 0 .i64 o]) (fun s => V.length - s.1)
              (fun s => s.1 ≤ V.length ∧ s.2.2.length = M + (p + 2) ∧ (0 ≤ s.2.1 ∧ s.2.1 ≤ 1) ∧ (∀ j, j ≠ t + (p + 2) → 0 ≤ s.2.2.getD j 0 ∧ s.2.2.getD j 0 < 65536) ∧ s.2.2.getD (t + (p + 2)) 0 = w.getD (t + (p + 2)) 0 - c ∧ s.2.2.drop (t + (p + 3)) = w.drop (t + (p + 3)) ∧ val s.2.2 + 65536 ^ (t + s.1) * s.2.1 = val m2 + 65536 ^ t * val (V.take s.1))
              (0, 0, m2) [10, 11, 12, 13, 14, 15, 17, 23, 230, 231, 232] rfl rfl rfl ⟨Nat.zero_le _, hl2, by simp, hd2, hy2, hz2, by simp [val]⟩ ?_
            rintro ⟨i, e, l⟩ ⟨hi, hl, ⟨e0, e1⟩, hdl, hyl, hzl, hvl⟩ ih4
            dsimp only at hi hl e0 e1 hdl hyl hzl hvl ih4 ⊢
            refine sp W 0 rfl rfl rfl (fun h7 => ?_) (fun h7 => ?_)
            · have h7 : i < V.length := by omega
              have gd := dV.get i
              have gl := hdl (t + i) (by omega)
              have i7 : ((t : Int) + (i : Int)).toNat = t + i := by omega
              obtain ⟨x, hx⟩ : ∃ x, l.getD (t + i) 0 + V.getD i 0 + e = x := ⟨_, rfl⟩
              have hb := band_low (n := x) (by omega) (by omega)
              have hvs := val_take_succ h7
              have nx := ih4 (i + 1, x / 2 ^ 16, l.set (t + i) (band .i64 x 65535)) ⟨h7, by simpa using hl, by dsimp only; rw [pw16]; omega, fun j hj => ?_, ?_, ?_, ?_⟩ (by dsimp only; omega)
              · refine bk W 0 [10, 11, 12, 13, 14, 15, 17, 23, 230, 231, 232] rfl rfl (by rw [← hx] at nx; exact nx) (hc := ?_)
                simp only [AllC, i7, hx, addN, hl, hVl, Int.toNat_natCast, true_and, and_true]; omega
              · dsimp only
                rw [getD_set _ _ _ _ (by omega), hb]
                have := hdl j hj
                split <;> omega
              · dsimp only
                rw [getD_set _ _ _ _ (by omega), if_neg (by omega)]; exact hyl
              · dsimp only
                rw [List.drop_set_of_lt (by omega)]; exact hzl
              · dsimp only
                rw [val_set _ _ _ (by omega), hb, hvs, show t + (i + 1) = t + i + 1 by omega, Int.pow_succ, pw16, Int.mul_add (65536 ^ t), ← Int.mul_assoc (65536 ^ t), ← Int.pow_add]
                have e4 : 65536 ^ (t + i) * (x % 65536) + 65536 ^ (t + i) * (65536 * (x / 65536)) = 65536 ^ (t + i) * x := by
                  rw [← Int.mul_add]; congr 1; omega
                rw [Int.mul_assoc (65536 ^ (t + i)) 65536, Int.mul_sub]
                rw [← hx, Int.mul_add, Int.mul_add] at e4
                rw [← hx]
                omega
            · obtain rfl : i = V.length := by omega
              have i7 : ((t : Int) + ((p + 2 : Nat) : Int)).toNat = t + (p + 2) := by omega
              rw [List.take_length, hVl] at hvl
              have hdn : Q + 1 - 1 = Q := by omega
              have hvn : val (l.set (t + (p + 2)) (l.getD (t + (p + 2)) 0 + e)) = val w - 65536 ^ t * (Q * val V) := by
                rw [val_set _ _ _ (by omega), show l.getD (t + (p + 2)) 0 + e - l.getD (t + (p + 2)) 0 = e by omega]
                rw [Int.add_mul, Int.one_mul, Int.mul_add] at hv2
                omega
              have hln : (l.set (t + (p + 2)) (l.getD (t + (p + 2)) 0 + e)).length = M + (p + 2) := by simpa using hl
              have hdd : ∀ j, j ≠ t + (p + 2) → 0 ≤ (l.set (t + (p + 2)) (l.getD (t + (p + 2)) 0 + e)).getD j 0 ∧ (l.set (t + (p + 2)) (l.getD (t + (p + 2)) 0 + e)).getD j 0 < 65536 := fun j hj => by
                rw [getD_set _ _ _ _ (by omega), if_neg hj]; exact hdl j hj
              have htop := top1 _ hln hdd (by rw [List.drop_set_of_lt (by omega)]; exact hzl) (by omega)
              have dl : Dgs (l.set (t + (p + 2)) (l.getD (t + (p + 2)) 0 + e)) := dgs_of_getD fun j hj => by
                by_cases hjt : j = t + (p + 2)
                · subst hjt
                  refine ⟨htop, ?_⟩
                  rw [getD_set _ _ _ _ (by omega), if_pos rfl, hyl]; omega
                · exact hdd j hjt
              refine bk W 0 [10, 11, 12, 13, 14, 15] rfl rfl (by rw [i7, zz, hdn]; exact ih (t, l.set (t + (p + 2)) (l.getD (t + (p + 2)) 0 + e), o.set t Q) (fin _ hln dl hvn) (by dsimp only; omega)) (hc := ?_)
              simp only [AllC, i7, addN, hl, ho, hVl, Int.toNat_natCast, true_and, and_true, List.length_set]; omega
          · have hq : q = Q := by
              rcases Int.lt_or_le Q q with h | h
              · obtain rfl : q = Q + 1 := by omega
                have dm2 : Dgs m2 := dgs_of_getD fun j hj => by
                  by_cases hjt : j = t + (p + 2)
                  · subst hjt; omega
                  · exact hd2 j hjt
                have := val_nonneg dm2
                omega
              · omega
            subst hq
            have dm2 : Dgs m2 := dgs_of_getD fun j hj => by
              by_cases hjt : j = t + (p + 2)
              · subst hjt; omega
              · exact hd2 j hjt
            refine bk W 0 [10, 11, 12, 13, 14, 15] rfl rfl (ih (t, m2, o.set t q) (fin m2 hl2 dm2 hv2) (by dsimp only; omega))
    · obtain rfl : t = 0 := by omega
      have do' : Dgs o := dgs_of_getD fun j hj => by have := hd j; omega
      have vo := val_nonneg do'
      have vw := val_nonneg dw
      rw [Int.pow_zero, Int.one_mul, uV] at hlt
      rw [uV, uu] at hv
      obtain ⟨u1, u2⟩ := divmod hv vw hlt
      rw [Nat.mul_div_mul_right _ _ (Nat.pow_pos (by omega))] at u1
      rw [Nat.mul_mod_mul_right] at u2
      have k3 : AFunP Tryz.prog 68 [.fi .i64 (dig (a % b * 2 ^ s)), .int .i64 (-((16 : Int) - bitLen ((dig b).getD (p + 2 - 1) 0)))] (· = .fi .i64 (dig (a % b))) := by
        rw [es]
        have hl := hUs (a % b * 2 ^ s) (Nat.mul_le_mul_right _ (Nat.mod_le _ _))
        rcases Nat.eq_zero_or_pos s with h | h
        · subst h
          have := natShiftUp_ok (a % b * 2 ^ 0) 0 (by omega) (by omega)
          simpa using this
        · have := natShiftDown_ok (a % b * 2 ^ s) s (by omega) h (by omega)
          rwa [Nat.mul_div_cancel _ (Nat.pow_pos (by omega))] at this
      refine cf W 0 [2] [10, 12] rfl rfl rfl rfl rfl rfl (trim_ok o (by omega)) rfl ?_
      refine cf W 0 [0] [10, 271] rfl rfl rfl rfl rfl rfl (trim_ok w (by omega)) rfl ?_
      rw [trimL_dig do', u1, Int.toNat_natCast, trimL_dig dw, u2, Int.toNat_natCast]
      refine ce W 0 rfl rfl (k3) rfl ?_
      refine rp W 0 rfl rfl rfl (.tup ⟨.refl, .refl, trivial⟩)
  · simp only [AllC, true_and]; omega
end Pf
/- Whole numbers: common divisors and roots. -/
namespace Pf
open Go Go.Proofs

theorem natGcd_ok (a b : Nat) (ha : (dig a).length ≤ 1000000) (hb : (dig b).length ≤ 1000000) : AFunP Tryz.prog 63 [.fi .i64 (dig a), .fi .i64 (dig b)] (· = .fi .i64 (dig (Nat.gcd a b))) := by
  refine afun_of Tryz.func63 Tryz.call63 rfl Tryz.ntmps63 rfl ?_
  have W : Walk Tryz.prog TT 63 _ := Walk.of TT_ok Tryz.func63 Tryz.results63
  refine lp W 0 (σ := Nat × Nat) (fun s => [(0, .fi .i64 (dig s.1)), (1, .fi .i64 (dig s.2))]) (fun _ => []) (fun s => s.2)
    (fun s => Nat.gcd s.1 s.2 = Nat.gcd a b ∧ (dig s.1).length ≤ 1000000 ∧ (dig s.2).length ≤ 1000000) (a, b) [0, 1] rfl rfl rfl ⟨rfl, ha, hb⟩ ?_
  rintro ⟨x, y⟩ ⟨h1, h2, h3⟩ ih
  dsimp only at h1 h2 h3 ih ⊢
  refine sp W 0 rfl rfl rfl (fun h4 => ?_) (fun h4 => ?_)
  · have hy : y ≠ 0 := by rintro rfl; simp [dig_zero] at h4
    refine ce W 0 rfl rfl (natDiv_ok x y hy h2 h3) rfl ?_
    have hm := Nat.mod_lt x (show 0 < y by omega)
    refine bk W 0 [0, 1] rfl rfl (ih (y, x % y) ⟨by dsimp only; rw [← h1, Nat.gcd_comm, ← Nat.gcd_rec, Nat.gcd_comm], h3, Nat.le_trans (dig_len_mono (Nat.le_of_lt hm)) h3⟩ hm)
  · have hy : y = 0 := dig_nil.1 (List.eq_nil_of_length_eq_zero (by omega))
    subst hy
    rw [Nat.gcd_zero_right] at h1
    refine rp W 0 rfl rfl rfl (.fi (by rw [h1]))
theorem newton {a x q y : Nat} (hq : a < (q + 1) * x) (hy : x + q ≤ 2 * y + 1) : a < (y + 1) * (y + 1) := by
  have h1 : 4 * (((q : Int) + 1) * x) ≤ (x + (q + 1)) * (x + (q + 1)) := by
    have h2 : 0 ≤ ((x : Int) - (q + 1)) * (x - (q + 1)) := by
      rcases Int.le_total 0 ((x : Int) - (q + 1)) with h | h
      · exact Int.mul_nonneg h h
      · exact Int.mul_nonneg_of_nonpos_of_nonpos h h
    generalize ((q : Int) + 1) = z at *
    simp only [Int.sub_mul, Int.mul_sub, Int.add_mul, Int.mul_add, Int.mul_comm z x] at *
    omega
  have h3 : (x + (q + 1)) * (x + (q + 1)) ≤ (2 * (y + 1)) * (2 * (y + 1)) := Nat.mul_le_mul (by omega) (by omega)
  have h4 : (2 * (y + 1)) * (2 * (y + 1)) = 4 * ((y + 1) * (y + 1)) := by
    rw [Nat.mul_assoc, ← Nat.mul_assoc (y + 1) 2, Nat.mul_comm (y + 1) 2, Nat.mul_assoc 2, ← Nat.mul_assoc 2 2]
  have h5 : 4 * ((q + 1) * x) ≤ (x + (q + 1)) * (x + (q + 1)) := by
    have e1 : ((4 * ((q + 1) * x) : Nat) : Int) = 4 * (((q : Int) + 1) * x) := by simp
    have e2 : (((x + (q + 1)) * (x + (q + 1)) : Nat) : Int) = ((x : Int) + (q + 1)) * (x + (q + 1)) := by simp
    omega
  omega
theorem root_ex : ∀ a : Nat, ∃ r, r * r ≤ a ∧ a < (r + 1) * (r + 1)
  | 0 => ⟨0, by omega, by omega⟩
  | a + 1 => by
    obtain ⟨r, h1, h2⟩ := root_ex a
    by_cases h : (r + 1) * (r + 1) ≤ a + 1
    · refine ⟨r + 1, h, ?_⟩
      have : (r + 1 + 1) * (r + 1 + 1) = (r + 1) * (r + 1) + 2 * (r + 1) + 1 := by simp only [Nat.add_mul, Nat.mul_add]; omega
      omega
    · exact ⟨r, by omega, by omega⟩
/-- The root, down. -/
noncomputable def isq (a : Nat) : Nat := Classical.choose (root_ex a)
theorem isq_le (a : Nat) : isq a * isq a ≤ a := (Classical.choose_spec (root_ex a)).1
theorem isq_lt (a : Nat) : a < (isq a + 1) * (isq a + 1) := (Classical.choose_spec (root_ex a)).2
theorem isq_eq {a r : Nat} (h1 : r * r ≤ a) (h2 : a < (r + 1) * (r + 1)) : isq a = r := by
  have lt : ∀ {x y : Nat}, x * x < (y + 1) * (y + 1) → x ≤ y := fun {x y} h => by
    rcases Nat.lt_or_ge y x with h3 | h3
    · have := Nat.mul_le_mul (show y + 1 ≤ x by omega) (show y + 1 ≤ x by omega); omega
    · exact h3
  have := lt (Nat.lt_of_le_of_lt (isq_le a) h2)
  have := lt (Nat.lt_of_le_of_lt h1 (isq_lt a))
  omega
theorem dig_one : dig 1 = [1] := by rw [dig_pos (by omega)]; simp [dig_zero]
end Pf
/- Boxes: slices of pairs. -/
namespace Pf
open Go Go.Proofs

/-- Rows of pairs. -/
def prow (l : List (Int × Int)) : Nat → List AV := fun i => [.int .i64 (l.getD i (0, 0)).1, .int .i64 (l.getD i (0, 0)).2]
def bx (l : List (Int × Int)) : AV := .agg [.fz l.length (prow l)]
def boxOk (w : Int) (l : List (Int × Int)) : Prop := 1 ≤ l.length ∧ l.length ≤ 6 ∧ ∀ a ∈ l, pairOk w a.1 a.2
end Pf
/- Whole numbers: which digits are one. -/
namespace Pf
open Go Go.Proofs

theorem indexInt_ok (l : List Int) (g : FuncId) (cs : List AV) (p : Int → Prop) (hl : l.length ≤ 9223372036854775806) (hc : cloL cs = true)
    (h : ∀ a ∈ l, AFunP Tryz.prog g (.int .i64 a :: cs) (· = .pr (p a))) :
    AFunP Tryz.prog 143 [.fi .i64 l, .fn g [] cs] (fun u => ∃ r, u = .int .i64 r ∧ (0 ≤ r ↔ ∃ a ∈ l, p a)) := by
  refine afun_of Tryz.func143 Tryz.call143 rfl Tryz.ntmps143 rfl ?_
  have W : Walk Tryz.prog TT 143 _ := Walk.of TT_ok Tryz.func143 Tryz.results143
  refine go_loop W 0 200 (σ := Nat) (fun i => [(0, .fi .i64 l), (1, .fn g [] cs), (7, .int .i64 l.length), (8, .int .i64 i)]) (fun _ => []) (fun i => l.length - i) (fun i => i ≤ l.length ∧ ∀ j, j < i → ¬ p (l.getD j 0)) 0 [0, 1, 7, 8] rfl rfl rfl trivial
    ⟨Nat.zero_le _, fun j hj => by omega⟩ ?_
  rintro i ⟨hi, he⟩ ih
  refine sp W 0 rfl rfl rfl (fun h1 => ?_) (fun h1 => ?_)
  · have h1 : i < l.length := by omega
    refine go_callE W 0 300 rfl (by first | exact True.intro | (simp only [AllC, AllP, addN, Int.toNat_natCast, true_and, and_true, Option.getD, List.length_set, wrapU, pw1, pw7, pw8, pw16, pw23, pw32, pw52, Holds] <;> first | omega | ((repeat' apply And.intro) <;> first | omega | (intros; rfl))) | (simp [AllC, AllP, addN, cloL, clo, mrgL, mrg, wrapU, Holds] <;> omega)) (by simp [cloL, clo, hc]) (h (l.getD i 0) (getD_mem h1)) rfl ?_
    refine sp W 0 rfl rfl rfl (fun h2 => ?_) (fun h2 => ?_)
    · refine rq W 0 rfl rfl (.int .i64 (i : Int)) (⟨_, rfl, ?_⟩) rfl .refl
      simp only [Int.natCast_nonneg, true_iff]
      exact ⟨_, getD_mem h1, h2⟩
    · refine go_back W 0 200 (ds := [0, 1, 7, 8]) rfl rfl (by first | exact True.intro | (simp only [AllC, AllP, addN, Int.toNat_natCast, true_and, and_true, Option.getD, List.length_set, wrapU, pw1, pw7, pw8, pw16, pw23, pw32, pw52, Holds] <;> first | omega | ((repeat' apply And.intro) <;> first | omega | (intros; rfl))) | (simp [AllC, AllP, addN, cloL, clo, mrgL, mrg, wrapU, Holds] <;> omega)) (ih (i + 1) ⟨by omega, fun j hj => ?_⟩ (by omega))
      by_cases hji : j = i
      · subst hji; exact h2
      · exact he j (by omega)
  · refine rq W 0 rfl rfl (.int .i64 (-1)) (⟨_, rfl, ?_⟩) rfl .refl
    constructor
    · intro h; omega
    · rintro ⟨a, ha, hp⟩
      obtain ⟨j, hj, rfl⟩ := mem_getD 0 ha
      exact absurd hp (he j (by omega))
theorem containsInt_ok (l : List Int) (g : FuncId) (cs : List AV) (p : Int → Prop) (hl : l.length ≤ 9223372036854775806) (hc : cloL cs = true)
    (h : ∀ a ∈ l, AFunP Tryz.prog g (.int .i64 a :: cs) (· = .pr (p a))) :
    AFunP Tryz.prog 117 [.fi .i64 l, .fn g [] cs] (· = .pr (∃ a ∈ l, p a)) := by
  refine afun_of Tryz.func117 Tryz.call117 rfl Tryz.ntmps117 rfl ?_
  have W : Walk Tryz.prog TT 117 _ := Walk.of TT_ok Tryz.func117 Tryz.results117
  refine go_callQ W 0 300 rfl (by first | exact True.intro | (simp only [AllC, AllP, addN, Int.toNat_natCast, true_and, and_true, Option.getD, List.length_set, wrapU, pw1, pw7, pw8, pw16, pw23, pw32, pw52, Holds] <;> first | omega | ((repeat' apply And.intro) <;> first | omega | (intros; rfl))) | (simp [AllC, AllP, addN, cloL, clo, mrgL, mrg, wrapU, Holds] <;> omega)) (by simp [cloL, clo, hc]) (indexInt_ok l g cs p hl hc h) ?_
  rintro _ ⟨r, rfl, hr⟩
  refine ⟨_, rfl, ?_⟩
  refine rp W 0 rfl rfl rfl (.pr hr)
/-- Digits of a number that is not too long. -/
def natOk (l : List Int) : Prop := l.length ≤ 256 ∧ (l.length = 0 ∨ l.getD (l.length - 1) 0 ≠ 0) ∧ Dgs l
theorem natOk1_ok (d : Int) : AFunP Tryz.prog 118 [.int .i64 d] (· = .pr ¬(0 ≤ d ∧ d ≤ 65535)) := by
  refine afun_of Tryz.func118 Tryz.call118 rfl Tryz.ntmps118 rfl ?_
  have W : Walk Tryz.prog TT 118 _ := Walk.of TT_ok Tryz.func118 Tryz.results118
  refine ce W 0 rfl rfl (in_ok _ _ _) rfl ?_
  refine rp W 0 rfl rfl rfl (.refl)
theorem implNatOk_ok (l : List Int) (hl : l.length ≤ 9223372036854775806) : AFunP Tryz.prog 94 [.fi .i64 l] (· = .pr (natOk l)) := by
  refine afun_of Tryz.func94 Tryz.call94 rfl Tryz.ntmps94 rfl ?_
  have W : Walk Tryz.prog TT 94 _ := Walk.of TT_ok Tryz.func94 Tryz.results94
  have hD : (¬ ∃ a ∈ l, ¬ (0 ≤ a ∧ a ≤ 65535)) ↔ Dgs l := by
    constructor
    · intro h d hd
      have := Classical.byContradiction fun h3 => h ⟨d, hd, h3⟩
      omega
    · rintro h ⟨a, ha, h4⟩
      have := h a ha
      omega
  have hC := containsInt_ok l 118 [] (fun d => ¬ (0 ≤ d ∧ d ≤ 65535)) hl rfl fun d _ => natOk1_ok d
  refine sp W 0 rfl rfl rfl (fun h1 => ?_) (fun h1 => ?_)
  · refine sp W 0 rfl rfl rfl (fun h2 => ?_) (fun h2 => ?_)
    · refine ce W 0 rfl rfl (hC) rfl ?_
      refine rp W 0 rfl rfl rfl (.pr (by unfold natOk; rw [← hD]; constructor <;> intro h <;> first | exact ⟨by omega, .inl (by omega), h⟩ | exact h.2.2))
    · have e : ((l.length : Int) - 1).toNat = l.length - 1 := by omega
      refine sp W 0 rfl rfl rfl (fun h3 => ?_) (fun h3 => ?_)
      · rw [e] at h3
        refine ce W 0 rfl rfl (hC) rfl ?_
        refine rp W 0 rfl rfl rfl (.pr (by unfold natOk; rw [← hD]; constructor <;> intro h <;> first | exact ⟨by omega, .inr h3, h⟩ | exact h.2.2))
      · rw [e] at h3
        refine rp W 0 rfl rfl rfl (.no (by unfold natOk; omega))
  · refine rp W 0 rfl rfl rfl (.no (by unfold natOk; omega))
/-- They are the digits of a number. -/
theorem natOk_dig {l : List Int} (h : natOk l) : ∃ n : Nat, l = dig n ∧ (dig n).length ≤ 256 := by
  obtain ⟨h1, h2, h3⟩ := h
  have e : l = dig (val l).toNat := by
    rw [← trimL_dig h3]
    rcases h2 with h2 | h2
    · rw [List.eq_nil_of_length_eq_zero h2, trimL_nil]
    · rcases List.eq_nil_or_concat l with h4 | ⟨m, d, h4⟩
      · subst h4; rfl
      · subst h4
        have h5 : d ≠ 0 := by simpa using h2
        simp only [List.concat_eq_append] at *
        rw [trimL_snoc, if_neg h5]
  exact ⟨_, e, by rw [← e]; exact h1⟩
theorem dig_top : ∀ n : Nat, n ≠ 0 → (dig n).getD ((dig n).length - 1) 0 ≠ 0 := by
  intro n
  induction n using Nat.strongRecOn with
  | ind n ih =>
    intro hn
    by_cases h : n / 65536 = 0
    · rw [dig_pos hn, h, dig_zero]; simp; omega
    · have := ih (n / 65536) (by omega) h
      have hl : 0 < (dig (n / 65536)).length := by
        cases hd : dig (n / 65536) with
        | nil => exact absurd (dig_nil.1 hd) h
        | cons a l => simp
      rw [dig_pos hn]
      simp only [List.length_cons]
      obtain ⟨m, hm⟩ : ∃ m, (dig (n / 65536)).length = m + 1 := ⟨_, (Nat.sub_add_cancel hl).symm⟩
      rw [hm] at this ⊢
      simpa using this
theorem natOk_of {n : Nat} (h : (dig n).length ≤ 256) : natOk (dig n) := by
  refine ⟨h, ?_, dig_dgs n⟩
  by_cases hn : n = 0
  · left; rw [hn, dig_zero]; rfl
  · right; exact dig_top n hn
theorem indexInts_ok (l : List (List Int)) (g : FuncId) (cs : List AV) (p : List Int → Prop) (hl : l.length ≤ 9223372036854775806) (hc : cloL cs = true)
    (h : ∀ a ∈ l, AFunP Tryz.prog g (.fi .i64 a :: cs) (· = .pr (p a))) :
    AFunP Tryz.prog 116 [.fz l.length (fun i => [.fi .i64 (l.getD i [])]), .fn g [] cs] (fun u => ∃ r, u = .int .i64 r ∧ (0 ≤ r ↔ ∃ a ∈ l, p a)) := by
  refine afun_of Tryz.func116 Tryz.call116 rfl Tryz.ntmps116 rfl ?_
  have W : Walk Tryz.prog TT 116 _ := Walk.of TT_ok Tryz.func116 Tryz.results116
  refine go_loop W 0 200 (σ := Nat) (fun i => [(0, .fz l.length (fun i => [.fi .i64 (l.getD i [])])), (1, .fn g [] cs), (7, .int .i64 l.length), (8, .int .i64 i)]) (fun _ => []) (fun i => l.length - i) (fun i => i ≤ l.length ∧ ∀ j, j < i → ¬ p (l.getD j [])) 0 [0, 1, 7, 8] rfl rfl rfl trivial
    ⟨Nat.zero_le _, fun j hj => by omega⟩ ?_
  rintro i ⟨hi, he⟩ ih
  refine sp W 0 rfl rfl rfl (fun h1 => ?_) (fun h1 => ?_)
  · have h1 : i < l.length := by omega
    refine go_callE W 0 300 rfl (by first | exact True.intro | (simp only [AllC, AllP, addN, Int.toNat_natCast, true_and, and_true, Option.getD, List.length_set, wrapU, pw1, pw7, pw8, pw16, pw23, pw32, pw52, Holds] <;> first | omega | ((repeat' apply And.intro) <;> first | omega | (intros; rfl))) | (simp [AllC, AllP, addN, cloL, clo, mrgL, mrg, wrapU, Holds] <;> omega)) (by simp [cloL, clo, hc]) (h (l.getD i []) (getD_mem h1)) rfl ?_
    refine sp W 0 rfl rfl rfl (fun h2 => ?_) (fun h2 => ?_)
    · refine rq W 0 rfl rfl (.int .i64 (i : Int)) (⟨_, rfl, ?_⟩) rfl .refl
      simp only [Int.natCast_nonneg, true_iff]
      exact ⟨_, getD_mem h1, h2⟩
    · refine go_back W 0 200 (ds := [0, 1, 7, 8]) rfl rfl (by first | exact True.intro | (simp only [AllC, AllP, addN, Int.toNat_natCast, true_and, and_true, Option.getD, List.length_set, wrapU, pw1, pw7, pw8, pw16, pw23, pw32, pw52, Holds] <;> first | omega | ((repeat' apply And.intro) <;> first | omega | (intros; rfl))) | (simp [AllC, AllP, addN, cloL, clo, mrgL, mrg, wrapU, Holds] <;> omega)) (ih (i + 1) ⟨by omega, fun j hj => ?_⟩ (by omega))
      by_cases hji : j = i
      · subst hji; exact h2
      · exact he j (by omega)
  · refine rq W 0 rfl rfl (.int .i64 (-1)) (⟨_, rfl, ?_⟩) rfl .refl
    constructor
    · intro h; omega
    · rintro ⟨a, ha, hp⟩
      obtain ⟨j, hj, rfl⟩ := mem_getD [] ha
      exact absurd hp (he j (by omega))
theorem containsInts_ok (l : List (List Int)) (g : FuncId) (cs : List AV) (p : List Int → Prop) (hl : l.length ≤ 9223372036854775806) (hc : cloL cs = true)
    (h : ∀ a ∈ l, AFunP Tryz.prog g (.fi .i64 a :: cs) (· = .pr (p a))) :
    AFunP Tryz.prog 92 [.fz l.length (fun i => [.fi .i64 (l.getD i [])]), .fn g [] cs] (· = .pr (∃ a ∈ l, p a)) := by
  refine afun_of Tryz.func92 Tryz.call92 rfl Tryz.ntmps92 rfl ?_
  have W : Walk Tryz.prog TT 92 _ := Walk.of TT_ok Tryz.func92 Tryz.results92
  refine go_callQ W 0 300 rfl (by first | exact True.intro | (simp only [AllC, AllP, addN, Int.toNat_natCast, true_and, and_true, Option.getD, List.length_set, wrapU, pw1, pw7, pw8, pw16, pw23, pw32, pw52, Holds] <;> first | omega | ((repeat' apply And.intro) <;> first | omega | (intros; rfl))) | (simp [AllC, AllP, addN, cloL, clo, mrgL, mrg, wrapU, Holds] <;> omega)) (by simp [cloL, clo, hc]) (indexInts_ok l g cs p hl hc h) ?_
  rintro _ ⟨r, rfl, hr⟩
  refine ⟨_, rfl, ?_⟩
  refine rp W 0 rfl rfl rfl (.pr hr)
theorem nats1_ok (l : List Int) (hl : l.length ≤ 9223372036854775806) : AFunP Tryz.prog 93 [.fi .i64 l] (· = .pr ¬natOk l) := by
  refine afun_of Tryz.func93 Tryz.call93 rfl Tryz.ntmps93 rfl ?_
  have W : Walk Tryz.prog TT 93 _ := Walk.of TT_ok Tryz.func93 Tryz.results93
  refine ce W 0 rfl rfl (implNatOk_ok l hl) rfl ?_
  refine rp W 0 rfl rfl rfl (.refl)
theorem nats_ok (l : List (List Int)) (hl : l.length ≤ 9223372036854775806) (hs : ∀ a ∈ l, a.length ≤ 9223372036854775806) : AFunP Tryz.prog 66 [.fz l.length (fun i => [.fi .i64 (l.getD i [])])] (· = .pr (∀ a ∈ l, natOk a)) := by
  refine afun_of Tryz.func66 Tryz.call66 rfl Tryz.ntmps66 rfl ?_
  have W : Walk Tryz.prog TT 66 _ := Walk.of TT_ok Tryz.func66 Tryz.results66
  refine ce W 0 rfl rfl (containsInts_ok l 93 [] (fun a => ¬ natOk a) hl rfl fun a ha => nats1_ok a (hs a ha)) rfl ?_
  refine rp W 0 rfl rfl rfl (.pr ⟨fun h a ha => Classical.byContradiction fun h2 => h ⟨a, ha, h2⟩, fun h ⟨a, ha, h2⟩ => h2 (h a ha)⟩)
end Pf
/- Fractions: which are one. -/
namespace Pf
open Go Go.Proofs

theorem AFun.sub {P : Program} {f : FuncId} {args args' : List AV} {H : AHeap} {R : AV → AHeap → Prop} (h : AFun P f args' H R) (s : Subs args args') : AFun P f args H R :=
  ⟨h.enters, fun FM β cs w cargs hv hh => h.run FM β cs w cargs ⟨by rw [s.len]; exact hv.1, fun i hi => s.get i (by rw [← s.len]; exact hi) hi _ _ _ (hv.2 i (by rw [← s.len]; exact hi))⟩ hh⟩
theorem nats2_ok (t u : List Int) (ht : t.length ≤ 9223372036854775806) (hu : u.length ≤ 9223372036854775806) : AFunP Tryz.prog 66 [.fz 2 fun i => [[AV.fi .i64 t], [AV.fi .i64 u]].getD i []] (· = .pr (natOk t ∧ natOk u)) := by
  have h := nats_ok [t, u] (by simp) (by simp; exact ⟨ht, hu⟩)
  have h2 : AFunP Tryz.prog 66 [.fz 2 fun i => [[AV.fi .i64 t], [AV.fi .i64 u]].getD i []] _ := AFun.sub h ⟨.fzn rfl fun i hi => by
    rcases (by omega : i = 0 ∨ i = 1) with rfl | rfl <;> rfl, trivial⟩
  refine h2.mono fun v hv => ?_
  rw [hv]; simp
theorem implFracOk_ok (p : Prop) (t u : List Int) (ht : t.length ≤ 9223372036854775806) (hu : u.length ≤ 9223372036854775806) : AFunP Tryz.prog 37 [.agg [.pr p, .fi .i64 t, .fi .i64 u]] (· = .pr (natOk t ∧ natOk u ∧ u ≠ [] ∧ (t = [] → ¬ p) ∧ Nat.gcd (val t).toNat (val u).toNat = 1)) := by
  refine afun_of Tryz.func37 Tryz.call37 rfl Tryz.ntmps37 rfl ?_
  have W : Walk Tryz.prog TT 37 _ := Walk.of TT_ok Tryz.func37 Tryz.results37
  refine cf W 0 [1] [0, 1] rfl rfl rfl rfl rfl rfl (nats2_ok t u ht hu) rfl ?_
  refine sp W 0 rfl rfl rfl (fun h1 => ?_) (fun h1 => ?_)
  · obtain ⟨a, rfl, ha⟩ := natOk_dig h1.1
    obtain ⟨b, rfl, hb⟩ := natOk_dig h1.2
    have va : (val (dig a)).toNat = a := by rw [val_dig]; simp
    have vb : (val (dig b)).toNat = b := by rw [val_dig]; simp
    rw [va, vb]
    refine sp W 0 rfl rfl rfl (fun h2 => ?_) (fun h2 => ?_)
    · have hb0 : b ≠ 0 := by rintro rfl; simp [dig_zero] at h2
      have hg := dig_len_mono (Nat.gcd_le_right a (show 0 < b by omega))
      have kc : AFunP Tryz.prog 64 [.fi .i64 (dig (Nat.gcd a b)), .fi .i64 [1]] (· = .int .i64 (sgn ((Nat.gcd a b : Int) - (1 : Nat)))) := by
        have := natCmp_ok (Nat.gcd a b) 1 (by omega) (by rw [dig_one]; simp)
        rwa [dig_one] at this
      have nb : dig b ≠ [] := fun h => hb0 (dig_nil.1 h)
      refine sp W 0 rfl rfl rfl (fun h3 => ?_) (fun h3 => ?_)
      · have na : dig a ≠ [] := by intro h; rw [h] at h3; simp at h3
        refine ce W 0 rfl rfl (natGcd_ok a b (by omega) (by omega)) rfl ?_
        refine cf W 0 [2] [24, 25, 26] rfl rfl rfl rfl rfl rfl (kc) rfl ?_
        refine rp W 0 rfl rfl rfl (.pr (by unfold sgn; constructor <;> intro h <;> first | exact ⟨h1.1, h1.2, nb, fun h => absurd h na, by omega⟩ | (have := h.2.2.2.2; omega)))
      · have na : dig a = [] := List.eq_nil_of_length_eq_zero (by omega)
        refine sp W 0 rfl rfl rfl (fun h4 => ?_) (fun h4 => ?_)
        · refine ce W 0 rfl rfl (natGcd_ok a b (by omega) (by omega)) rfl ?_
          refine cf W 0 [2] [24, 25, 26] rfl rfl rfl rfl rfl rfl (kc) rfl ?_
          refine rp W 0 rfl rfl rfl (.pr (by unfold sgn; constructor <;> intro h <;> first | exact ⟨h1.1, h1.2, nb, fun _ => h4, by omega⟩ | (have := h.2.2.2.2; omega)))
        · refine rp W 0 rfl rfl rfl (.no (by rintro ⟨_, _, _, h, _⟩; exact h4 (h na)))
    · refine rp W 0 rfl rfl rfl (.no (by rintro ⟨_, _, h, _⟩; exact h (List.eq_nil_of_length_eq_zero (by omega))))
  · refine rp W 0 rfl rfl rfl (.no (by rintro ⟨h2, h3, _⟩; exact h1 ⟨h2, h3⟩))
end Pf
/- Fractions: impl's own functions. -/
namespace Pf
open Go Go.Proofs

theorem lowest_ok (p : Prop) (a b : Nat) (hb : b ≠ 0) (ha : (dig a).length ≤ 100000) (hbl : (dig b).length ≤ 100000) : AFunP Tryz.prog 31 [.pr p, .fi .i64 (dig a), .fi .i64 (dig b)] (· = frF (p ∧ a ≠ 0) (dig (a / Nat.gcd a b)) (dig (b / Nat.gcd a b))) := by
  refine afun_of Tryz.func31 Tryz.call31 rfl Tryz.ntmps31 rfl ?_
  have W : Walk Tryz.prog TT 31 _ := Walk.of TT_ok Tryz.func31 Tryz.results31
  have hg := dig_len_mono (Nat.gcd_le_right a (show 0 < b by omega))
  have hg0 : Nat.gcd a b ≠ 0 := by have := Nat.gcd_pos_of_pos_right a (show 0 < b by omega); omega
  have kc : AFunP Tryz.prog 64 [.fi .i64 (dig (Nat.gcd a b)), .fi .i64 [1]] (· = .int .i64 (sgn ((Nat.gcd a b : Int) - (1 : Nat)))) := by
    have := natCmp_ok (Nat.gcd a b) 1 (by omega) (by rw [dig_one]; simp)
    rwa [dig_one] at this
  refine ce W 0 rfl rfl (natGcd_ok a b (by omega) (by omega)) rfl ?_
  refine cf W 0 [1] [0, 1, 2, 6, 7] rfl rfl rfl rfl rfl rfl (kc) rfl ?_
  have ha' := Nat.div_le_self a (Nat.gcd a b)
  have hz : (dig (a / Nat.gcd a b)).length = 0 ↔ a = 0 := by
    constructor
    · intro h
      have h2 := dig_nil.1 (List.eq_nil_of_length_eq_zero h)
      have h3 := Nat.div_mul_cancel (Nat.gcd_dvd_left a b)
      rw [h2] at h3; omega
    · intro h; subst h; simp [dig_zero]
  refine sp W 0 rfl rfl rfl (fun h1 => ?_) (fun h1 => ?_)
  · refine ce W 0 rfl rfl (natDiv_ok a (Nat.gcd a b) hg0 (by omega) (by omega)) rfl ?_
    refine ce W 0 rfl rfl (natDiv_ok b (Nat.gcd a b) hg0 (by omega) (by omega)) rfl ?_
    refine sp W 0 rfl rfl rfl (fun h3 => ?_) (fun h3 => ?_)
    · refine rp W 0 rfl rfl rfl (.agg ⟨.pr (by constructor <;> intro h <;> first | exact ⟨h3, fun h2 => by rw [hz.2 h2] at h; simp at h⟩ | (have : ¬ (dig (a / Nat.gcd a b)).length = 0 := fun h4 => h.2 (hz.1 h4); omega)), .refl, .refl, trivial⟩)
    · refine rp W 0 rfl rfl rfl (.agg ⟨.no (fun h => h3 h.1), .refl, .refl, trivial⟩)
  · have h2 : Nat.gcd a b = 1 := by unfold sgn at h1; omega
    rw [h2, Nat.div_one] at hz
    rw [h2, Nat.div_one, Nat.div_one]
    refine sp W 0 rfl rfl rfl (fun h3 => ?_) (fun h3 => ?_)
    · refine rp W 0 rfl rfl rfl (.agg ⟨.pr (by constructor <;> intro h <;> first | exact ⟨h3, fun h2 => by rw [hz.2 h2] at h; simp at h⟩ | (have : ¬ (dig a).length = 0 := fun h4 => h.2 (hz.1 h4); omega)), .refl, .refl, trivial⟩)
    · refine rp W 0 rfl rfl rfl (.agg ⟨.no (fun h => h3 h.1), .refl, .refl, trivial⟩)
theorem len_nil {t : List Int} : (0 : Int) < (t.length : Int) ↔ t ≠ [] := by
  cases t <;> simp
open Classical in
/-- The sign of a fraction. -/
noncomputable def fsgn (p : Prop) (t : List Int) : Int := if p then -1 else if t = [] then 0 else 1
theorem sign_ok (p : Prop) (t u : List Int) (ht : t.length ≤ 9223372036854775806) : AFunP Tryz.prog 41 [frF p t u] (· = .int .i64 (fsgn p t)) := by
  refine afun_of Tryz.func41 Tryz.call41 rfl Tryz.ntmps41 rfl ?_
  have W : Walk Tryz.prog TT 41 _ := Walk.of TT_ok Tryz.func41 Tryz.results41
  refine sp W 0 rfl rfl rfl (fun h => ?_) (fun h => ?_)
  · refine rp W 0 rfl rfl rfl (.int (by simp [fsgn, h]))
  · refine sp W 0 rfl rfl rfl (fun h2 => ?_) (fun h2 => ?_)
    · have : t = [] := List.eq_nil_of_length_eq_zero (by omega)
      refine rp W 0 rfl rfl rfl (.int (by simp [fsgn, h, this]))
    · have : t ≠ [] := by rintro rfl; simp at h2
      refine rp W 0 rfl rfl rfl (.int (by simp [fsgn, h, this]))
theorem dig_len_mul {a b m n : Nat} (ha : (dig a).length ≤ m) (hb : (dig b).length ≤ n) : (dig (a * b)).length ≤ m + n := by
  rw [dig_len_le] at *
  rw [Nat.pow_add]
  exact Nat.mul_lt_mul'' ha hb
theorem mul_ok (p q : Prop) (a b c d : Nat) (hb : b ≠ 0) (hd : d ≠ 0) (ha : (dig a).length ≤ 1000) (hbl : (dig b).length ≤ 1000) (hc : (dig c).length ≤ 1000) (hdl : (dig d).length ≤ 1000) :
    AFunP Tryz.prog 34 [frF p (dig a) (dig b), frF q (dig c) (dig d)] (· = frF (¬ (p ↔ q) ∧ a * c ≠ 0) (dig (a * c / Nat.gcd (a * c) (b * d))) (dig (b * d / Nat.gcd (a * c) (b * d)))) := by
  refine afun_of Tryz.func34 Tryz.call34 rfl Tryz.ntmps34 rfl ?_
  have W : Walk Tryz.prog TT 34 _ := Walk.of TT_ok Tryz.func34 Tryz.results34
  have l1 : (dig (a * c)).length ≤ 1000 + 1000 := dig_len_mul ha hc
  have l2 : (dig (b * d)).length ≤ 1000 + 1000 := dig_len_mul hbl hdl
  refine dre W 0 15 [] [.fi .i64 (dig (a * c)), .fi .i64 (dig (b * d))] rfl rfl rfl ⟨(natMul_ok a c (by omega) (by omega)).at rfl _, (natMul_ok b d (by omega) (by omega)).at rfl _, trivial⟩ rfl ?_
  refine ce W 0 rfl rfl (lowest_ok (¬ (p ↔ q)) (a * c) (b * d) (Nat.mul_ne_zero hb hd) (by omega) (by omega)) rfl ?_
  refine rp W 0 rfl rfl rfl (.refl)
end Pf
/- Fractions: sums. -/
namespace Pf
open Go Go.Proofs

open Classical in
/-- The numerator of a sum, and whether it is below 0: of a/b and c/d, x = a d and y = c b. -/
noncomputable def sumT (p q : Prop) (x y : Nat) : Nat := if (p ↔ q) then x + y else if y ≤ x then x - y else y - x
def sumP (p q : Prop) (x y : Nat) : Prop := if (y ≤ x) then p else q
end Pf
/- Fractions: what is handed out. -/
namespace Pf
open Go Go.Proofs

section
variable {P : Program} {TT : TypeId → Option TI} {f N n0 : Nat} {k : List Item} {T : Env} {H : AHeap} {R : AV → AHeap → Prop}
variable {nf : Nat} {ops : Array Oper} {past op pend' : List Nat} {vin ws vs' : List (Option Nat × AV)} {ps : List Prop} {cl : List CallM}
/-- An effect that is a call which makes blocks. -/
theorem phx (W : PW P TT N ops nf) (m e : Nat) (hs : List (Nat × Bool)) (us : List AV) {d : Option Nat} {g : FuncId} {args : List AV} {Q : AV → AHeap → Prop}
    (hd : phM TT m ops.toList (dropD (dstsM nf ops.toList) T) H hs past (needsAll ops.toList past []) (e :: pend') op vin nf 0 [] us = some (ps, cl, ws)) (hch : (chainM ops.toList nf e pend' && subM (e :: pend') op) = true) (hcl : AllCalls P H cl)
    (he : effC ops.toList (dropD (dstsM nf ops.toList) T) ws e = some (d, g, args)) (hc : cloL args = true) (hq : AFun P g args [] Q) (hfl : ∀ u H2, Q u H2 → flat u = true ∧ flatH H2)
    (next : ∀ u H2, Q u H2 → ∃ vs' H1, setM (d, shf (lenM H) u) ws e = some vs' ∧ appM H (H2.map (shfB (lenM H))) = some H1 ∧ Ph1 P f N n0 nf ops k T R (e :: past) pend' (e :: pend') vs' H1) (hp : AllP ps := by first | exact True.intro | (simp only [AllC, AllP, addN, Int.toNat_natCast, true_and, and_true, Option.getD, List.length_set, wrapU, pw1, pw7, pw8, pw16, pw23, pw32, pw52, Holds] <;> first | omega | ((repeat' apply And.intro) <;> first | omega | (intros; rfl))) | (simp [AllC, AllP, addN, cloL, clo, mrgL, mrg, wrapU, Holds] <;> omega)) : Ph1 P f N n0 nf ops k T R past (e :: pend') op vin H :=
  ph_call W m e hs us hd hch hp hcl he (hq.frame hc hfl H) fun v H1 ⟨u, H2, r1, r2, r3⟩ => by
    obtain ⟨vs', H1', q1, q2, q3⟩ := next u H2 r1
    rw [appM_eq] at q2
    rw [lenM_eq] at q1 q2
    cases q2
    subst r2; subst r3
    exact ⟨vs', q1, q3⟩
/-- .. that makes blocks of whole numbers. -/
theorem phn (W : PW P TT N ops nf) (m e : Nat) (hs : List (Nat × Bool)) (us : List AV) {d : Option Nat} {g : FuncId} {args args' : List AV} {ss : List Prop} {Q : AV → AHeap → Prop}
    (hd : phM TT m ops.toList (dropD (dstsM nf ops.toList) T) H hs past (needsAll ops.toList past []) (e :: pend') op vin nf 0 [] us = some (ps, cl, ws)) (hch : (chainM ops.toList nf e pend' && subM (e :: pend') op) = true) (hcl : AllCalls P H cl)
    (he : effC ops.toList (dropD (dstsM nf ops.toList) T) ws e = some (d, g, args)) (ef : mapF (frz (fun _ => true) H 9) args = some (ss, args')) (hc : cloL args' = true) (hq : AFunN P g args' Q)
    (next : ∀ u H2, Q u H2 → ∃ vs' H1, setM (d, shf (lenM H) u) ws e = some vs' ∧ appM H H2 = some H1 ∧ Ph1 P f N n0 nf ops k T R (e :: past) pend' (e :: pend') vs' H1) (hp : AllP ps := by first | exact True.intro | (simp only [AllC, AllP, addN, Int.toNat_natCast, true_and, and_true, Option.getD, List.length_set, wrapU, pw1, pw7, pw8, pw16, pw23, pw32, pw52, Holds] <;> first | omega | ((repeat' apply And.intro) <;> first | omega | (intros; rfl))) | (simp [AllC, AllP, addN, cloL, clo, mrgL, mrg, wrapU, Holds] <;> omega)) (hss : AllC ss := by first | exact True.intro | (simp only [AllC, AllP, addN, Int.toNat_natCast, true_and, and_true, Option.getD, List.length_set, wrapU, pw1, pw7, pw8, pw16, pw23, pw32, pw52, Holds] <;> first | omega | ((repeat' apply And.intro) <;> first | omega | (intros; rfl))) | (simp [AllC, AllP, addN, cloL, clo, mrgL, mrg, wrapU, Holds] <;> omega)) : Ph1 P f N n0 nf ops k T R past (e :: pend') op vin H :=
  ph_call W m e hs us hd hch hp hcl he (hq.at ef hss hc) fun v H1 ⟨u, H2, r1, r2, r3⟩ => by
    obtain ⟨vs', H1', q1, q2, q3⟩ := next u H2 r1
    rw [r3] at q2
    cases q2
    subst r2
    exact ⟨vs', q1, q3⟩
end
theorem given_new (p : Prop) (t u : List Int) (ht : t.length ≤ 256) (hu : u.length ≤ 256) : AFunN Tryz.prog 27 [frF p t u] (fun v H => v = .tup [.agg [.pr p, .sl 0 0 0 t.length, .sl 1 0 0 u.length], .pr True] ∧ H = [.ints 0 .i64 t, .ints 0 .i64 u]) := by
  refine afun_of Tryz.func27 Tryz.call27 rfl Tryz.ntmps27 rfl ?_
  have W : Walk Tryz.prog TT 27 _ := Walk.of TT_ok Tryz.func27 Tryz.results27
  refine sp W 0 rfl rfl rfl (fun h1 => ?_) (fun h1 => ?_)
  · omega
  refine sp W 0 rfl rfl rfl (fun h2 => ?_) (fun h2 => ?_)
  · omega
  refine phg W 0 8 [4, 7] rfl rfl (fun PW => ?_)
  · refine phn PW 0 4 [] [] rfl rfl trivial rfl rfl rfl (clone_new t (by omega)) ?_
    rintro _ _ ⟨rfl, rfl⟩
    refine ⟨_, _, rfl, rfl, ?_⟩
    refine phn PW 0 7 [] [] rfl rfl trivial rfl rfl rfl (clone_new u (by omega)) ?_
    rintro _ _ ⟨rfl, rfl⟩
    refine ⟨_, _, rfl, rfl, ?_⟩
    refine phe PW 0 [] [] rfl trivial rfl ?_
    refine rn W 0 rfl rfl rfl (.tup [.agg [.pr p, .sl 0 0 0 t.length, .sl 1 0 0 u.length], .pr True]) rfl (.tup ⟨.refl, .yes trivial, trivial⟩) ⟨rfl, by simp [blksM]⟩
end Pf
/- Fractions: impl's exported functions. -/
namespace Pf
open Go Go.Proofs

/-- The digits are those of a fraction. -/
def frOk (p : Prop) (t u : List Int) : Prop := natOk t ∧ natOk u ∧ u ≠ [] ∧ (t = [] → ¬ p) ∧ Nat.gcd (val t).toNat (val u).toNat = 1
/-- No fraction, as it stands in memory. -/
abbrev nilF : AV := .tup [.agg [.bool false, .nils, .nils], .bool false]
theorem AFunP.subv {P : Program} {f : FuncId} {args : List AV} {v u : AV} (h : AFunP P f args (· = v)) (hs : Sub v u) (hc : clo u = true) : AFunP P f args (· = u) :=
  AFun.mono h fun _ _ ⟨ps, u0, u1, h1, h2, h3, _, h5⟩ => ⟨ps, u0, u, h1, h2, fun FM β cv h => hs FM β cv (by have := h3 FM β cv h; rwa [h5] at this), hc, rfl⟩
/-- A new fraction and true. -/
def NewFT (p : Prop) (t u : List Int) (v : AV) (H : AHeap) : Prop := v = .tup [.agg [.pr p, .sl 0 0 0 t.length, .sl 1 0 0 u.length], .pr True] ∧ H = [.ints 0 .i64 t, .ints 0 .i64 u]
end Pf
/- A nil slice in a temporary, as an empty block of its own. -/
namespace Pf
open Go
variable {P : Program} {TT : TypeId → Option TI} {f N n0 : Nat} {k : List Item} {T : Env} {H : AHeap} {R : AV → AHeap → Prop}

/-- The temporary 'd' holds no cells: from here on it is a slice of an empty block, at the heap's end. -/
theorem go_nilT (d : Nat) (blk : ABlk) {v : AV} {rowE : Nat → List AV} {T1 : Env} {H2 : AHeap} (et : getM T d = some v) (en : isNil v = true)
    (eb : blk.view = some (0, 0, rowE)) (e1 : putM d (.sl (lenM H) 0 0 0) T = some T1) (e4 : appM H [blk] = some H2)
    (h : AGo P f N n0 k T1 H2 R) : AGo P f N n0 k T H R := by
  intro FM β bf cs a w a1 a2 a3 a4 hT hH hl
  rw [appM_eq] at e4
  cases e4
  simp only [lenM_eq] at *
  let β1 : BMap := fun b g => if b = H.length ∧ g = 0 then some none else β b g
  have hnone : ∀ g, β H.length g = none := by
    intro g
    cases hb : β H.length g with
    | none => rfl
    | some lo => have := (hH.dom _ _ _ hb).1; omega
  have hβ : ∀ b g lo, β b g = some lo → β1 b g = some lo := by
    intro b g lo hb
    simp only [β1]
    split
    · rename_i h1
      obtain ⟨rfl, rfl⟩ := h1
      rw [hnone] at hb; cases hb
    · exact hb
  have some1 : ∀ {i g : Nat} {L : Loc}, β1 i g = some (some L) → β i g = some (some L) := by
    intro i g L hi
    simp only [β1] at hi
    split at hi
    · cases hi
    · exact hi
  have get : ∀ {i : Nat} {bl : ABlk}, (H ++ [blk])[i]? = some bl → (i < H.length ∧ H[i]? = some bl) ∨ (i = H.length ∧ bl = blk) := by
    intro i bl hi
    rcases Nat.lt_or_ge i H.length with h1 | h1
    · rw [List.getElem?_append_left h1] at hi; exact .inl ⟨h1, hi⟩
    · rw [List.getElem?_append_right h1] at hi
      obtain ⟨h2, h3⟩ := List.getElem?_eq_some_iff.1 hi
      simp at h2
      have : i = H.length := by omega
      subst this
      simp at h3
      exact .inr ⟨rfl, h3.symm⟩
  have hcell : ∀ {cv : Value}, VR FM β v cv → VR FM β1 (.sl H.length 0 0 0) cv := by
    intro cv h0
    have hb : β1 H.length 0 = some none := by simp [β1]
    cases h0 with
    | nils => exact .sl0 hb fun L h => by cases h
    | e0 => exact .sl0 hb fun L h => by cases h
    | _ => cases en
  have hR : RelH FM β1 (H ++ [blk]) w := by
    have hmp : MapsOk β1 (H ++ [blk]) w := hH.mp.keep hβ (fun i vb sh es h => by
      rcases get h with ⟨_, h⟩ | ⟨_, rfl⟩
      · exact h
      · cases eb) fun _ _ _ h => h
    refine ⟨?_, ?_, ?_, hH.fm, ?_, hH.gk, hmp⟩
    · intro i bl g' m rw1 h1 h2
      rcases get h1 with ⟨hi, q1⟩ | ⟨rfl, rfl⟩
      · obtain ⟨lo, p1, p2⟩ := hH.mem i bl g' m rw1 q1 h2
        refine ⟨lo, hβ _ _ _ p1, ?_⟩
        cases lo with
        | none => exact p2
        | some L => exact MemOk.still p2 rfl hβ
      · rw [eb] at h2; cases h2
        exact ⟨none, by simp [β1], rfl⟩
    · intro b1 b2 k1 k2 g1 g2 n1 n2 row1 row2 L1 L2 h1 h2 h3 h4 h5 h6 h7
      have q3 := some1 h3
      have q6 := some1 h6
      rcases get h1 with ⟨_, x1⟩ | ⟨rfl, rfl⟩
      · rcases get h4 with ⟨_, x1'⟩ | ⟨rfl, rfl⟩
        · exact hH.inj b1 b2 k1 k2 g1 g2 n1 n2 row1 row2 L1 L2 x1 h2 q3 x1' h5 q6 h7
        · rw [hnone] at q6; cases q6
      · rw [hnone] at q3; cases q3
    · intro i bl g' m rw1 L h1 h2 h3
      have q3 := some1 h3
      rcases get h1 with ⟨_, x1⟩ | ⟨rfl, rfl⟩
      · exact hH.wid i bl g' m rw1 L x1 h2 q3
      · rw [hnone] at q3; cases q3
    · intro i g' lo hi
      simp only [β1] at hi
      split at hi
      · rename_i h1
        obtain ⟨rfl, rfl⟩ := h1
        exact ⟨by simp, fun _ _ _ _ _ _ => Nat.zero_le _⟩
      · obtain ⟨q1, q2⟩ := hH.dom i g' lo hi
        refine ⟨by simp; omega, fun bl g2 m rw1 h1 h2 => ?_⟩
        rcases get h1 with ⟨_, x1⟩ | ⟨rfl, rfl⟩
        · exact q2 bl g2 m rw1 x1 h2
        · omega
  have hT1 : RelT FM β1 T1 a := by
    intro e u he
    rw [getM_putM e1] at he
    split at he
    · rename_i hde
      subst hde
      cases he
      exact hcell (hT _ _ et)
    · exact (hT e u he).mono (fun _ _ _ h => h) hβ
  obtain ⟨v', w', fr, av, FM', β', H', h1, h2, h3, h4, h5⟩ := h FM β1 bf cs a w a1 a2 a3 a4 hT1 hR (by simp; omega)
  have himg : ∀ cb, cb < w.heap.size → Img β1 (H ++ [blk]) cb → Img β H cb := by
    intro cb _ hi
    obtain ⟨i, bl, g', m, rw1, L, q1, q2, q3, q4⟩ := hi
    have q3 := some1 q3
    rcases get q1 with ⟨_, x1⟩ | ⟨rfl, rfl⟩
    · exact ⟨i, bl, g', m, rw1, L, x1, q2, q3, q4⟩
    · rw [hnone] at q3; cases q3
  have hx : ExtB n0 FM β H w FM β1 (H ++ [blk]) w := ⟨fun _ _ _ h => h, fun b g lo _ e => hβ b g lo e, Nat.le_refl _, himg, fun _ _ _ => rfl, fun _ _ _ h => .inl h, by simp; omega, rfl, rfl, rfl⟩
  exact ⟨v', w', fr, av, FM', β', H', h1, h2, h3, hx.trans h4, h5⟩

end Pf
/- Whole numbers: the model's own functions. -/
namespace Pf
open Go Go.Proofs

theorem l5Trim_ok (l : List Int) (hl : l.length ≤ 1000000000) : AFunP Tryz.prog 109 [.fi .i64 l] (· = .fi .i64 (trimL l)) := by
  refine afun_of Tryz.func109 Tryz.call109 rfl Tryz.ntmps109 rfl ?_
  have W : Walk Tryz.prog TT 109 _ := Walk.of TT_ok Tryz.func109 Tryz.results109
  refine' cutK (fun K => ?main) ?k
  case main =>
    refine lp W 0 (σ := List Int) (fun m => [(0, .fi .i64 l), (2, .nils), (3, .int .i64 m.length)]) (fun _ => []) (fun m => m.length) (fun m => trimL m = trimL l ∧ ∃ z, l = m ++ z) l [0, 2, 3] rfl rfl rfl ⟨rfl, [], by simp⟩ ?_
    rintro m ⟨h1, z, h2⟩ ih
    have hml : m.length ≤ l.length := by rw [h2]; simp
    refine sp W 0 rfl rfl rfl (fun h3 => ?_) (fun h3 => ?_)
    · have h3 : 0 < m.length := by omega
      have hne : m ≠ [] := by rintro rfl; simp at h3
      obtain ⟨n, d, rfl⟩ : ∃ n d, m = n ++ [d] := ⟨_, _, (List.dropLast_concat_getLast hne).symm⟩
      have e1 : (((n ++ [d]).length : Int) - 1).toNat = n.length := by simp
      have e2 : l.getD n.length 0 = d := by rw [h2]; simp
      refine sp W 0 rfl rfl rfl (fun h4 => ?_) (fun h4 => ?_)
      · rw [e1, e2] at h4
        have e3 : (((n ++ [d]).length : Int) - 1) = n.length := by simp
        have hnl : n.length ≤ 1000000000 := by rw [h2] at hl; simp at hl; omega
        refine bk W 0 [0, 2, 3] rfl rfl (by rw [e3]; exact ih n ⟨by rw [← h1, trimL_snoc, if_pos h4], d :: z, by rw [h2]; simp⟩ (by simp)) (hc := ?_)
        simp only [AllC, e3, true_and, and_true]; omega
      · rw [e1, e2] at h4
        have e3 : trimL l = n ++ [d] := by rw [← h1, trimL_snoc, if_neg h4]
        refine atl W rfl ?_
        refine go_nilT 4 (.ints 0 .i64 []) rfl rfl rfl rfl rfl ?_
        refine lp W 0 (σ := Nat × Nat × List Int) (fun s => [(0, .fi .i64 l), (3, .int .i64 (trimL l).length), (4, .sl 0 s.2.1 0 s.1), (5, .int .i64 s.1)]) (fun s => [.ints s.2.1 .i64 s.2.2]) (fun s => (trimL l).length - s.1)
          (fun s => (∃ z, l = trimL l ++ z) ∧ s.1 ≤ (trimL l).length ∧ s.2.2 = l.take s.1) (0, 0, []) [0, 3, 4, 5] rfl (by rw [e3]; rfl) rfl ⟨⟨z, by rw [e3]; exact h2⟩, Nat.zero_le _, by simp⟩ K.get
    · have hm : m = [] := List.eq_nil_of_length_eq_zero (by omega)
      subst hm
      have e3 : trimL l = [] := by rw [← h1]; rfl
      refine atl W rfl ?_
      refine go_nilT 4 (.ints 0 .i64 []) rfl rfl rfl rfl rfl ?_
      refine lp W 0 (σ := Nat × Nat × List Int) (fun s => [(0, .fi .i64 l), (3, .int .i64 (trimL l).length), (4, .sl 0 s.2.1 0 s.1), (5, .int .i64 s.1)]) (fun s => [.ints s.2.1 .i64 s.2.2]) (fun s => (trimL l).length - s.1)
          (fun s => (∃ z, l = trimL l ++ z) ∧ s.1 ≤ (trimL l).length ∧ s.2.2 = l.take s.1) (0, 0, []) [0, 3, 4, 5] rfl (by rw [e3]; rfl) rfl ⟨⟨l, by rw [e3]; rfl⟩, Nat.zero_le _, by simp⟩ K.get
  case k =>
    rintro ⟨i, g, o⟩ ⟨⟨z, hz⟩, hi, ho⟩ ih
    dsimp only at hi ho ih ⊢
    have hlt : (trimL l).length ≤ l.length := by conv => rhs; rw [hz]
                                                 simp
    have hol : o.length = i := by rw [ho]; simp; omega
    refine sp W 0 rfl rfl rfl (fun h1 => ?_) (fun h1 => ?_)
    · have h1 : i < l.length := by omega
      refine bd W 0 1 [0, 3, 4, 5] rfl rfl rfl rfl rfl (ih (i + 1, g + 1, o ++ [l.getD i 0]) ⟨⟨z, hz⟩, by dsimp only; omega, ?_⟩ (by dsimp only; omega))
      rw [ho, List.take_add_one, List.getD_eq_getElem?_getD, List.getElem?_eq_getElem h1]; rfl
    · have hiL : i = (trimL l).length := by omega
      have e4 : o = trimL l := by
        rw [ho, hiL]
        have := congrArg (List.take (trimL l).length) hz
        rwa [List.take_left] at this
      refine rp W 0 rfl rfl rfl (.fi e4)
end Pf
/- Whole numbers: digits by numbers alone. -/
namespace Pf
open Go Go.Proofs

/-- Digits whose number is as long as they are, are the number's. -/
theorem dig_of_top {l : List Int} (h : Dgs l) (hv : l = [] ∨ 65536 ^ l.length ≤ 65536 * val l) : dig (val l).toNat = l := by
  refine dig_val h fun hne h0 => ?_
  rcases hv with rfl | hv
  · exact hne rfl
  obtain ⟨m, d, rfl⟩ : ∃ m d, l = m ++ [d] := ⟨_, _, (List.dropLast_concat_getLast hne).symm⟩
  simp at h0
  subst h0
  have hm : Dgs m := fun x hx => h x (by simp [hx])
  have h1 := val_lt hm
  rw [val_app, val_single, Int.mul_zero, Int.add_zero, List.length_append, List.length_singleton, Int.pow_succ] at hv
  omega
theorem val_take_any (l : List Int) (k : Nat) : val (l.take (k + 1)) = val (l.take k) + 65536 ^ k * l.getD k 0 := by
  rcases Nat.lt_or_ge k l.length with h | h
  · exact val_take_succ h
  · rw [List.take_of_length_le (by omega), List.take_of_length_le h, getD_over h]; simp
theorem val_snoc (l : List Int) (d : Int) {k : Nat} (h : l.length = k) : val (l ++ [d]) = val l + 65536 ^ k * d := by
  subst h; rw [val_app, val_single]
/-- A digit, by the number. -/
theorem dig_get (a k : Nat) : (dig a).getD k 0 = ((a / 65536 ^ k % 65536 : Nat) : Int) := by
  induction k generalizing a with
  | zero =>
    by_cases h : a = 0
    · subst h; simp [dig_zero]
    · rw [dig_pos h]; simp
  | succ k ih =>
    by_cases h : a = 0
    · subst h; simp [dig_zero]
    · rw [dig_pos h, Nat.pow_succ, Nat.mul_comm, ← Nat.div_div_eq_div_mul]
      simpa using ih (a / 65536)
theorem dig_drop (a k : Nat) : (dig a).drop k = dig (a / 65536 ^ k) := by
  induction k generalizing a with
  | zero => simp
  | succ k ih =>
    by_cases h : a = 0
    · subst h; simp [dig_zero]
    · rw [dig_pos h, List.drop_succ_cons, ih, Nat.pow_succ, Nat.mul_comm, ← Nat.div_div_eq_div_mul]
theorem dig_shl (a : Nat) (h : a ≠ 0) : ∀ k, List.replicate k (0 : Int) ++ dig a = dig (a * 65536 ^ k)
  | 0 => by simp
  | k + 1 => by
    have h1 : a * 65536 ^ (k + 1) ≠ 0 := Nat.mul_ne_zero h (Nat.pos_iff_ne_zero.1 (Nat.pow_pos (by omega)))
    rw [List.replicate_succ, List.cons_append, dig_shl a h k, dig_pos h1, Nat.pow_succ, ← Nat.mul_assoc]
    simp
theorem dig_small {d : Nat} (h : d < 65536) : dig d = if d = 0 then [] else [(d : Int)] := by
  split
  · rename_i h0; subst h0; exact dig_zero
  · rename_i h0
    rw [dig_pos h0, Nat.mod_eq_of_lt h, Nat.div_eq_of_lt h, dig_zero]
theorem dig_lt {a n : Nat} (h : (dig a).length ≤ n) : a < 65536 ^ n := dig_len_le.1 h
theorem dig_len_add {a b n : Nat} (ha : (dig a).length ≤ n) (hb : (dig b).length ≤ n) : (dig (a + b)).length ≤ n + 1 := by
  rw [dig_len_le] at *
  rw [Nat.pow_succ]; omega
/-- The two highest digits. -/
theorem dig_two {r n : Nat} (h : r < 65536 ^ (n + 2)) : (dig r).getD (n + 1) 0 * 65536 + (dig r).getD n 0 = ((r / 65536 ^ n : Nat) : Int) := by
  rw [dig_get, dig_get]
  have h1 : r / 65536 ^ (n + 1) = r / 65536 ^ n / 65536 := by rw [Nat.pow_succ, Nat.div_div_eq_div_mul]
  have h2 : r / 65536 ^ n < 65536 * 65536 := by
    refine Nat.div_lt_of_lt_mul ?_
    rw [show 65536 ^ n * (65536 * 65536) = 65536 ^ (n + 2) by rw [Nat.pow_succ, Nat.pow_succ, Nat.mul_assoc]]; exact h
  rw [h1]
  generalize r / 65536 ^ n = x at *
  omega
/-- A guess by the highest digits is not below. -/
theorem guess_ge {r y n Q : Nat} (hy : 65536 ^ n ≤ y) (hQ : Q * y ≤ r) : Q ≤ r / 65536 ^ n / (y / 65536 ^ n) := by
  have hp : 0 < 65536 ^ n := Nat.pow_pos (by omega)
  have hv : 0 < y / 65536 ^ n := Nat.div_pos hy hp
  rw [Nat.le_div_iff_mul_le hv, Nat.le_div_iff_mul_le hp, Nat.mul_assoc]
  exact Nat.le_trans (Nat.mul_le_mul_left _ (Nat.div_mul_le_self _ _)) hQ
end Pf
/- Whole numbers: the model's own functions, simple ones. -/
namespace Pf
open Go Go.Proofs
theorem specNatOk_ok (l : List Int) (hl : l.length ≤ 9223372036854775806) : AFunP Tryz.prog 85 [.fi .i64 l] (· = .pr (natOk l)) := by
  refine afun_of Tryz.func85 Tryz.call85 rfl Tryz.ntmps85 rfl ?_
  have W : Walk Tryz.prog TT 85 _ := Walk.of TT_ok Tryz.func85 Tryz.results85
  refine sp W 0 rfl rfl rfl (fun h1 => ?_) (fun h1 => ?_)
  · refine rp W 0 rfl rfl rfl (.no (fun h => by have := h.1; omega))
  refine lp W 0 (σ := Nat) (fun i => [(0, .fi .i64 l), (3, .int .i64 i)]) (fun _ => []) (fun i => l.length - i) (fun i => i ≤ l.length ∧ ∀ j, j < i → 0 ≤ l.getD j 0 ∧ l.getD j 0 < 65536) 0 [0, 3] rfl rfl rfl ⟨Nat.zero_le _, fun j hj => by omega⟩ ?_
  rintro i ⟨hi, he⟩ ih
  have bad : ∀ h : i < l.length, ¬ (0 ≤ l.getD i 0 ∧ l.getD i 0 < 65536) → ¬ natOk l := fun h h2 h3 => h2 (h3.2.2 _ (getD_mem h))
  refine sp W 0 rfl rfl rfl (fun h2 => ?_) (fun h2 => ?_)
  · have h2 : i < l.length := by omega
    refine sp W 0 rfl rfl rfl (fun h3 => ?_) (fun h3 => ?_)
    · rw [Int.toNat_natCast] at h3
      refine rp W 0 rfl rfl rfl (.no (bad h2 (by omega)))
    · refine sp W 0 rfl rfl rfl (fun h4 => ?_) (fun h4 => ?_)
      · rw [Int.toNat_natCast] at h4
        refine rp W 0 rfl rfl rfl (.no (bad h2 (by omega)))
      · rw [Int.toNat_natCast] at h3 h4
        refine bk W 0 [0, 3] rfl rfl (ih (i + 1) ⟨by omega, fun j hj => ?_⟩ (by omega))
        by_cases hji : j = i
        · subst hji; omega
        · exact he j (by omega)
  · have hil : i = l.length := by omega
    subst hil
    have hd : Dgs l := dgs_of_getD he
    refine sp W 0 rfl rfl rfl (fun h3 => ?_) (fun h3 => ?_)
    · refine rp W 0 rfl rfl rfl (.yes ⟨by omega, .inl (by omega), hd⟩)
    · have e : ((l.length : Int) - 1).toNat = l.length - 1 := by omega
      refine rp W 0 rfl rfl rfl (.pr (by rw [e]; exact ⟨fun h => ⟨by omega, .inr h, hd⟩, fun h => h.2.1.resolve_left (by omega)⟩))
theorem specNatOf_ok (n : Nat) (h1 : n ≤ 18446744073709551615) : AFunP Tryz.prog 52 [.int .u64 n] (· = .fi .i64 (dig n)) := by
  refine afun_of Tryz.func52 Tryz.call52 rfl Tryz.ntmps52 rfl ?_
  have W : Walk Tryz.prog TT 52 _ := Walk.of TT_ok Tryz.func52 Tryz.results52
  refine atl W rfl ?_
  refine go_nilT 3 (.ints 0 .i64 []) rfl rfl rfl rfl rfl ?_
  refine lp W 0 (σ := Nat × Nat × List Int) (fun s => [(0, .int .u64 s.1), (3, .sl 0 s.2.1 0 s.2.2.length)]) (fun s => [.ints s.2.1 .i64 s.2.2]) (fun s => s.1) (fun s => s.1 ≤ 18446744073709551615 ∧ s.2.2 ++ dig s.1 = dig n) (n, 0, []) [0, 3] rfl rfl rfl ⟨h1, rfl⟩ ?_
  rintro ⟨m, g, l⟩ ⟨hm, he⟩ ih
  dsimp only at hm he ih ⊢
  have hl : l.length ≤ 4 := by
    have h2 := congrArg List.length he
    rw [List.length_append] at h2
    have h3 : (dig n).length ≤ 4 := dig_len_le.2 (by omega)
    omega
  refine sp W 0 rfl rfl rfl (fun h2 => ?_) (fun h2 => ?_)
  · have hm0 : m ≠ 0 := by omega
    have e1 : ((m : Int) % 65536) = ((m % 65536 : Nat) : Int) := by omega
    have e2 : ((m : Int) / 65536) = ((m / 65536 : Nat) : Int) := by omega
    rw [dig_pos hm0] at he
    have nx := ih (m / 65536, g + 1, l ++ [((m % 65536 : Nat) : Int)]) ⟨by dsimp only; omega, by simpa using he⟩ (by dsimp only; omega)
    dsimp only at nx
    rw [List.length_append, ← e1, ← e2] at nx
    refine bd W 0 1 [0, 3] rfl rfl rfl rfl rfl (nx)
  · have hm0 : m = 0 := by omega
    subst hm0
    rw [dig_zero, List.append_nil] at he
    refine rp W 0 rfl rfl rfl (.fi he)
end Pf
/- Whole numbers: the model's own functions, sums, products, shifts. -/
namespace Pf
open Go Go.Proofs
theorem l5DivSmall_ok (a d : Nat) (hd0 : 0 < d) (hd : d < 65536) (ha : (dig a).length ≤ 10000000) : AFunP Tryz.prog 86 [.fi .i64 (dig a), .int .i64 d] (· = .tup [.fi .i64 (dig (a / d)), .int .i64 ((a % d : Nat) : Int)]) := by
  refine afun_of Tryz.func86 Tryz.call86 rfl Tryz.ntmps86 rfl ?_
  have W : Walk Tryz.prog TT 86 _ := Walk.of TT_ok Tryz.func86 Tryz.results86
  have da := dig_dgs a
  refine lp W 0 (σ := Nat × Int × List Int) (fun s => [(0, .fi .i64 (dig a)), (1, .int .i64 d), (6, .sl 0 0 0 (dig a).length), (7, .int .i64 s.2.1), (8, .int .i64 ((s.1 : Int) - 1))]) (fun s => [.ints 0 .i64 s.2.2]) (fun s => s.1)
      (fun s => s.1 ≤ (dig a).length ∧ s.2.2.length = (dig a).length ∧ 0 ≤ s.2.1 ∧ s.2.1 < d ∧ val s.2.2 * d + s.2.1 * 65536 ^ s.1 + val ((dig a).take s.1) = a ∧ ∀ j, 0 ≤ s.2.2.getD j 0 ∧ s.2.2.getD j 0 < 65536 ∧ (j < s.1 → s.2.2.getD j 0 = 0))
      ((dig a).length, 0, List.replicate (dig a).length 0) [0, 1, 6, 7, 8] rfl rfl rfl ⟨Nat.le_refl _, by simp, by simp, by dsimp only; omega, by simp [val_replicate, val, List.take_length, val_dig], fun j => ?_⟩ ?_
  · have : (List.replicate (dig a).length (0 : Int)).getD j 0 = 0 := by
      rw [List.getD_eq_getElem?_getD, List.getElem?_replicate]; split <;> rfl
    dsimp only; omega
  rintro ⟨t, r, l⟩ ⟨ht, hl, r0, r1, hv, hdd⟩ ih
  dsimp only at ht hl r0 r1 hv hdd ih ⊢
  refine sp W 0 rfl rfl rfl (fun h3 => ?_) (fun h3 => ?_)
  · obtain ⟨t, rfl⟩ : ∃ m, t = m + 1 := ⟨t - 1, by omega⟩
    have et : (((t + 1 : Nat) : Int) - 1) = (t : Int) := by omega
    have ga := da.get t
    obtain ⟨N, hN⟩ : ∃ N, r * 65536 + (dig a).getD t 0 = N := ⟨_, rfl⟩
    have n0 : 0 ≤ N := by omega
    have q0 : 0 ≤ N / d := Int.ediv_nonneg n0 (by omega)
    have q1 : N / d < 65536 := Int.ediv_lt_of_lt_mul (by omega) (by omega)
    have m0 := Int.emod_nonneg N (b := d) (by omega)
    have m1 := Int.emod_lt_of_pos N (b := d) (by omega)
    have gl := (hdd t).2.2 (by omega)
    have nx := ih (t, N % d, l.set t (N / d)) ⟨by dsimp only; omega, by simpa using hl, m0, m1, ?_, fun j => ?_⟩ (by dsimp only; omega)
    · rw [et]
      rw [← hN] at nx
      refine bk W 0 [0, 1, 6, 7, 8] rfl rfl (nx) (hc := by simp only [AllC, addN, Int.toNat_natCast, true_and, and_true, eq_self, List.length_set, List.length_cons, List.length_nil, List.length_append, List.length_replicate, wrapU, pw1, pw7, pw8, pw16, pw23, pw32, pw52] <;> first | omega | ((repeat' apply And.intro) <;> first | omega | (intros; rfl)))
    · dsimp only
      rw [val_take_succ (show t < (dig a).length by omega), Int.pow_succ] at hv
      rw [val_set _ _ _ (by omega), gl, Int.sub_zero, Int.add_mul, Int.mul_assoc (65536 ^ t), Int.mul_comm (N % d)]
      have e1 : N / d * d + N % d = r * 65536 + (dig a).getD t 0 := by rw [Int.mul_comm]; rw [hN]; exact Int.mul_ediv_add_emod N d
      have e2 : 65536 ^ t * (N / d * d) + 65536 ^ t * (N % d) = r * (65536 ^ t * 65536) + 65536 ^ t * (dig a).getD t 0 := by
        rw [← Int.mul_add, e1, Int.mul_add]; congr 1; simp only [Int.mul_assoc, Int.mul_comm, Int.mul_left_comm]
      omega
    · dsimp only
      rw [getD_set _ _ _ _ (by omega)]
      have := hdd j
      split <;> omega
  · obtain rfl : t = 0 := by omega
    have dl : Dgs l := dgs_of_getD fun j hj => by have := hdd j; omega
    simp only [List.take_zero, val, Int.pow_zero, Int.mul_one, Int.add_zero] at hv
    have v0 := val_nonneg dl
    obtain ⟨u1, u2⟩ := divmod hv r0 r1
    refine cf W 0 [0] [7] rfl rfl rfl rfl rfl rfl (l5Trim_ok l (by omega)) rfl ?_
    refine rp W 0 rfl rfl rfl (.tup ⟨.fi (by rw [trimL_dig dl, u1, Int.toNat_natCast]), .int u2, trivial⟩)
end Pf
/- Whole numbers: the model's own quotient -/
namespace Pf
open Go Go.Proofs
end Pf
/- A temporary's value said otherwise. -/
namespace Pf
open Go
variable {P : Program} {TT : TypeId → Option TI} {f N n0 : Nat} {k : List Item} {T : Env} {H : AHeap} {R : AV → AHeap → Prop}
/-- The temporary 'd' is said to hold u, which is so wherever it holds v. -/
theorem go_sub (d : Nat) (u : AV) {v : AV} {T1 : Env} (e : getM T d = some v) (hs : Sub v u) (e1 : putM d u T = some T1) (h : AGo P f N n0 k T1 H R) : AGo P f N n0 k T H R :=
  fun FM β b cs a w a1 a2 a3 a4 hT hH hl => h FM β b cs a w a1 a2 a3 a4 (hT.refine e1 (hs _ _ _ (hT _ _ e))) hH hl
end Pf
/- Fractions: the model's own parts -/
namespace Pf
open Go Go.Proofs
theorem bitL_len {a : Nat} : bitL a ≤ 16 * (dig a).length := by
  rw [bitL_lt, show (2 : Nat) ^ (16 * (dig a).length) = (2 ^ 16) ^ (dig a).length from Nat.pow_mul 2 16 _]
  exact dig_lt (Nat.le_refl _)
open Classical in
/-- A fraction of a and b, in lowest terms, if it has not too many digits. -/
noncomputable def made (p : Prop) (a b : Nat) : AV := if (dig (a / Nat.gcd a b)).length ≤ 256 ∧ (dig (b / Nat.gcd a b)).length ≤ 256 then .tup [frF (p ∧ a ≠ 0) (dig (a / Nat.gcd a b)) (dig (b / Nat.gcd a b)), .pr True] else .tup [frF False [] [], .pr False]
end Pf
/- Fractions: the model's sums and products -/
namespace Pf
open Go Go.Proofs
open Classical in
/-- A fraction and true; nothing and false. -/
noncomputable def resF (ok p : Prop) (t u : List Int) : AV := if ok then .tup [frF p t u, .pr True] else .tup [frF False [] [], .pr False]
theorem resF_no {ok p : Prop} {t u : List Int} (h : ¬ ok) : resF ok p t u = .tup [frF False [] [], .pr False] := if_neg h
theorem resF_yes {ok p : Prop} {t u : List Int} (h : ok) : resF ok p t u = .tup [frF p t u, .pr True] := if_pos h
theorem sub_noF : Sub (.tup [.agg [.bool false, .nils, .nils], .bool false]) (.tup [frF False [] [], .pr False]) := .tup ⟨.agg ⟨.no id, .nils_fi, .nils_fi, trivial⟩, .no id, trivial⟩
/-- The number of digits. -/
def nm (l : List Int) : Nat := (val l).toNat
theorem nm_dig (a : Nat) : nm (dig a) = a := by unfold nm; rw [val_dig]; simp
/-- In lowest terms. -/
def lT (a b : Nat) : List Int := dig (a / Nat.gcd a b)
def lB (a b : Nat) : List Int := dig (b / Nat.gcd a b)
def fits (a b : Nat) : Prop := (lT a b).length ≤ 256 ∧ (lB a b).length ≤ 256
theorem made_eq (p : Prop) (a b : Nat) : made p a b = resF (fits a b) (p ∧ a ≠ 0) (lT a b) (lB a b) := by
  unfold made
  by_cases h : fits a b
  · rw [resF_yes h]; exact if_pos h
  · rw [resF_no h]; exact if_neg h
theorem frOk_dig {p : Prop} {t u : List Int} (h : frOk p t u) : ∃ a b : Nat, t = dig a ∧ u = dig b ∧ (dig a).length ≤ 256 ∧ (dig b).length ≤ 256 ∧ b ≠ 0 ∧ (a = 0 → ¬ p) ∧ Nat.gcd a b = 1 := by
  obtain ⟨a, rfl, ha⟩ := natOk_dig h.1
  obtain ⟨b, rfl, hb⟩ := natOk_dig h.2.1
  refine ⟨a, b, rfl, rfl, ha, hb, fun h0 => h.2.2.1 (by rw [h0, dig_zero]), fun h0 => h.2.2.2.1 (by rw [h0, dig_zero]), ?_⟩
  have := h.2.2.2.2
  rw [val_dig, val_dig] at this
  simpa using this
noncomputable def negR (p : Prop) (t u : List Int) : AV := resF (frOk p t u) (¬ p ∧ t ≠ []) t u
noncomputable def mulR (p : Prop) (t u : List Int) (q : Prop) (x y : List Int) : AV :=
  resF ((frOk p t u ∧ frOk q x y) ∧ fits (nm t * nm x) (nm u * nm y)) (¬ (p ↔ q) ∧ nm t * nm x ≠ 0) (lT (nm t * nm x) (nm u * nm y)) (lB (nm t * nm x) (nm u * nm y))
noncomputable def divR (p : Prop) (t u : List Int) (q : Prop) (x y : List Int) : AV :=
  resF ((frOk p t u ∧ frOk q x y ∧ x ≠ []) ∧ fits (nm t * nm y) (nm u * nm x)) (¬ (p ↔ q) ∧ nm t * nm y ≠ 0) (lT (nm t * nm y) (nm u * nm x)) (lB (nm t * nm y) (nm u * nm x))
noncomputable def sT (p : Prop) (t u : List Int) (q : Prop) (x y : List Int) : Nat := sumT p q (nm t * nm y) (nm x * nm u)
noncomputable def sP (p : Prop) (t u : List Int) (q : Prop) (x y : List Int) : Prop := sumP p q (nm t * nm y) (nm x * nm u)
noncomputable def addR (p : Prop) (t u : List Int) (q : Prop) (x y : List Int) : AV :=
  resF ((frOk p t u ∧ frOk q x y) ∧ fits (sT p t u q x y) (nm u * nm y)) (sP p t u q x y ∧ sT p t u q x y ≠ 0) (lT (sT p t u q x y) (nm u * nm y)) (lB (sT p t u q x y) (nm u * nm y))
theorem sT_len {p q : Prop} {a b c d : Nat} (ha : (dig a).length ≤ 1000) (hbl : (dig b).length ≤ 1000) (hc : (dig c).length ≤ 1000) (hdl : (dig d).length ≤ 1000) : (dig (sumT p q (a * d) (c * b))).length ≤ 2001 := by
  have l1 : (dig (a * d)).length ≤ 1000 + 1000 := dig_len_mul ha hdl
  have l2 : (dig (c * b)).length ≤ 1000 + 1000 := dig_len_mul hc hbl
  have l4 := dig_len_add l1 l2
  have : sumT p q (a * d) (c * b) ≤ a * d + c * b := by unfold sumT; split <;> (try split) <;> omega
  exact Nat.le_trans (dig_len_mono this) l4
theorem frOk_neg {q : Prop} {x y : List Int} (h : frOk q x y) : frOk (¬ q ∧ x ≠ []) x y := ⟨h.1, h.2.1, h.2.2.1, fun h0 h1 => h1.2 h0, h.2.2.2.2⟩
noncomputable def subR (p : Prop) (t u : List Int) (q : Prop) (x y : List Int) : AV :=
  resF ((frOk p t u ∧ frOk q x y) ∧ fits (sT p t u (¬ q ∧ x ≠ []) x y) (nm u * nm y)) (sP p t u (¬ q ∧ x ≠ []) x y ∧ sT p t u (¬ q ∧ x ≠ []) x y ≠ 0) (lT (sT p t u (¬ q ∧ x ≠ []) x y) (nm u * nm y)) (lB (sT p t u (¬ q ∧ x ≠ []) x y) (nm u * nm y))
theorem subR_eq {p q : Prop} {t u x y : List Int} (h : frOk q x y) : subR p t u q x y = addR p t u (¬ q ∧ x ≠ []) x y := by
  unfold subR addR; congr 1
  exact propext ⟨fun k => ⟨⟨k.1.1, frOk_neg h⟩, k.2⟩, fun k => ⟨⟨k.1.1, h⟩, k.2⟩⟩
end Pf
/- Fractions: impl's exported sums and products -/
namespace Pf
open Go Go.Proofs
/-- What a function over fractions answers: whether there is a fraction, and which. -/
structure FRes where
  ok : Prop
  p : Prop
  t : List Int
  u : List Int
noncomputable def FRes.av (r : FRes) : AV := resF r.ok r.p r.t r.u
noncomputable def negS (p : Prop) (t u : List Int) : FRes := ⟨frOk p t u, ¬ p ∧ t ≠ [], t, u⟩
noncomputable def mulS (p : Prop) (t u : List Int) (q : Prop) (x y : List Int) : FRes :=
  ⟨(frOk p t u ∧ frOk q x y) ∧ fits (nm t * nm x) (nm u * nm y), ¬ (p ↔ q) ∧ nm t * nm x ≠ 0, lT (nm t * nm x) (nm u * nm y), lB (nm t * nm x) (nm u * nm y)⟩
noncomputable def divS (p : Prop) (t u : List Int) (q : Prop) (x y : List Int) : FRes :=
  ⟨(frOk p t u ∧ frOk q x y ∧ x ≠ []) ∧ fits (nm t * nm y) (nm u * nm x), ¬ (p ↔ q) ∧ nm t * nm y ≠ 0, lT (nm t * nm y) (nm u * nm x), lB (nm t * nm y) (nm u * nm x)⟩
noncomputable def addS (p : Prop) (t u : List Int) (q : Prop) (x y : List Int) : FRes :=
  ⟨(frOk p t u ∧ frOk q x y) ∧ fits (sT p t u q x y) (nm u * nm y), sP p t u q x y ∧ sT p t u q x y ≠ 0, lT (sT p t u q x y) (nm u * nm y), lB (sT p t u q x y) (nm u * nm y)⟩
noncomputable def subS (p : Prop) (t u : List Int) (q : Prop) (x y : List Int) : FRes :=
  ⟨(frOk p t u ∧ frOk q x y) ∧ fits (sT p t u (¬ q ∧ x ≠ []) x y) (nm u * nm y), sP p t u (¬ q ∧ x ≠ []) x y ∧ sT p t u (¬ q ∧ x ≠ []) x y ≠ 0, lT (sT p t u (¬ q ∧ x ≠ []) x y) (nm u * nm y), lB (sT p t u (¬ q ∧ x ≠ []) x y) (nm u * nm y)⟩
/-- A function answers so, in new memory. -/
structure ImplF (g : FuncId) (args : List AV) (r : FRes) : Prop where
  no : ¬ r.ok → AFunP Tryz.prog g args (· = nilF)
  yes : r.ok → AFunN Tryz.prog g args (NewFT r.p r.t r.u)
  lt : r.ok → r.t.length ≤ 256
  lu : r.ok → r.u.length ≤ 256
theorem ImplF.fz {g : FuncId} {args : List AV} {r : FRes} (h : ImplF g args r) {ss : List Prop} (e : mapF (frz (fun _ => true) [] 9) args = some (ss, args)) (hs : AllC ss) (hc : cloL args = true) : AFunP Tryz.prog g args (· = r.av) := by
  by_cases ho : r.ok
  · refine (h.yes ho).toP e hs hc fun u H2 ⟨h1, h2⟩ => ?_
    subst h1; subst h2
    exact ⟨_, _, .tup [frF r.p r.t r.u, .pr True], rfl, ⟨⟨trivial, rfl, rfl⟩, rfl, rfl⟩, .refl, rfl, (resF_yes ho).symm⟩
  · have e : r.av = _ := resF_no ho
    rw [e]; exact (h.no ho).subv sub_noF rfl
theorem fracs_ok (l : List (Prop × List Int × List Int)) (hl : l.length ≤ 1000000) (hs : ∀ a ∈ l, a.2.1.length ≤ 1048576 ∧ a.2.2.length ≤ 1048576) : AFunP Tryz.prog 33 [.fz l.length fun i => [.pr (l.getD i (False, [], [])).1, .fi .i64 (l.getD i (False, [], [])).2.1, .fi .i64 (l.getD i (False, [], [])).2.2]] (· = .pr (∀ a ∈ l, frOk a.1 a.2.1 a.2.2)) := by
  refine afun_of Tryz.func33 Tryz.call33 rfl Tryz.ntmps33 rfl ?_
  have W : Walk Tryz.prog TT 33 _ := Walk.of TT_ok Tryz.func33 Tryz.results33
  refine lp W 0 (σ := Nat) (fun i => [(5, .fz l.length fun i => [.pr (l.getD i (False, [], [])).1, .fi .i64 (l.getD i (False, [], [])).2.1, .fi .i64 (l.getD i (False, [], [])).2.2]), (6, .int .i64 l.length), (7, .int .i64 i)]) (fun _ => []) (fun i => l.length - i)
    (fun i => i ≤ l.length ∧ ∀ j, j < i → frOk (l.getD j (False, [], [])).1 (l.getD j (False, [], [])).2.1 (l.getD j (False, [], [])).2.2) 0 [5, 6, 7] rfl rfl rfl ⟨Nat.zero_le _, fun j hj => by omega⟩ ?_
  rintro i ⟨hi, he⟩ ih
  refine sp W 0 rfl rfl rfl (fun h1 => ?_) (fun h1 => ?_)
  · have h1 : i < l.length := by omega
    have hm := getD_mem (d := (False, [], [])) h1
    obtain ⟨s1, s2⟩ := hs _ hm
    refine ce W 0 rfl rfl (implFracOk_ok _ (l.getD i (False, [], [])).2.1 (l.getD i (False, [], [])).2.2 (by omega) (by omega)) rfl ?_
    refine sp W 0 rfl rfl rfl (fun h2 => ?_) (fun h2 => ?_)
    · refine rp W 0 rfl rfl rfl (.no (fun h => h2 (h _ hm)))
    · refine bd W 0 0 [5, 6, 7] rfl rfl rfl rfl rfl (ih (i + 1) ⟨by omega, fun j hj => ?_⟩ (by omega))
      by_cases hji : j = i
      · subst hji; exact Classical.not_not.1 h2
      · exact he j (by omega)
  · have hil : i = l.length := by omega
    refine rp W 0 rfl rfl rfl (.yes (fun a ha => by obtain ⟨j, hj, rfl⟩ := mem_getD (False, [], []) ha; exact he j (by omega)))
theorem fracs2_ok (p q : Prop) (t u x y : List Int) (ht : t.length ≤ 1048576) (hu : u.length ≤ 1048576) (hx : x.length ≤ 1048576) (hy : y.length ≤ 1048576) : AFunP Tryz.prog 33 [.fz 2 fun i => [[AV.pr p, AV.fi .i64 t, AV.fi .i64 u], [AV.pr q, AV.fi .i64 x, AV.fi .i64 y]].getD i []] (· = .pr (frOk p t u ∧ frOk q x y)) := by
  have h := fracs_ok [(p, t, u), (q, x, y)] (by simp) (by simp; omega)
  have h2 : AFunP Tryz.prog 33 [.fz 2 fun i => [[AV.pr p, AV.fi .i64 t, AV.fi .i64 u], [AV.pr q, AV.fi .i64 x, AV.fi .i64 y]].getD i []] _ := AFun.sub h ⟨.fzn rfl fun i hi => by
    rcases (by omega : i = 0 ∨ i = 1) with rfl | rfl <;> rfl, trivial⟩
  refine h2.mono fun v hv => ?_
  rw [hv]; simp
theorem given_no (p : Prop) (t u : List Int) (h : ¬ (t.length ≤ 256 ∧ u.length ≤ 256)) (ht : t.length ≤ 1048576) (hu : u.length ≤ 1048576) : AFunP Tryz.prog 27 [frF p t u] (· = nilF) := by
  refine afun_of Tryz.func27 Tryz.call27 rfl Tryz.ntmps27 rfl ?_
  have W : Walk Tryz.prog TT 27 _ := Walk.of TT_ok Tryz.func27 Tryz.results27
  refine sp W 0 rfl rfl rfl (fun h1 => ?_) (fun h1 => ?_)
  · refine rp W 0 rfl rfl rfl (.refl)
  · refine sp W 0 rfl rfl rfl (fun h2 => ?_) (fun h2 => ?_)
    · refine rp W 0 rfl rfl rfl (.refl)
    · exact absurd ⟨by omega, by omega⟩ h
theorem implFracMul_f (p q : Prop) (t u x y : List Int) (ht : t.length ≤ 1048576) (hu : u.length ≤ 1048576) (hx : x.length ≤ 1048576) (hy : y.length ≤ 1048576) : ImplF 9 [frF p t u, frF q x y] (mulS p t u q x y) := by
  have key : frOk p t u ∧ frOk q x y → AFunP Tryz.prog 34 [frF p t u, frF q x y] (· = frF (mulS p t u q x y).p (mulS p t u q x y).t (mulS p t u q x y).u) ∧ (mulS p t u q x y).t.length ≤ 1048576 ∧ (mulS p t u q x y).u.length ≤ 1048576 := by
    rintro ⟨h1, h2⟩
    obtain ⟨a, b, rfl, rfl, ha, hb, hb0, hap, hab⟩ := frOk_dig h1
    obtain ⟨c, d, rfl, rfl, hc, hd, hd0, hcq, hcd⟩ := frOk_dig h2
    have l1 : (dig (a * c)).length ≤ 1000 + 1000 := dig_len_mul (by omega) (by omega)
    have l2 : (dig (b * d)).length ≤ 1000 + 1000 := dig_len_mul (by omega) (by omega)
    have k := mul_ok p q a b c d hb0 hd0 (by omega) (by omega) (by omega) (by omega)
    unfold mulS
    simp only [nm_dig]
    exact ⟨k, Nat.le_trans (dig_len_mono (Nat.div_le_self _ _)) (by omega), Nat.le_trans (dig_len_mono (Nat.div_le_self _ _)) (by omega)⟩
  have hok : (mulS p t u q x y).ok ↔ (frOk p t u ∧ frOk q x y) ∧ ((mulS p t u q x y).t.length ≤ 256 ∧ (mulS p t u q x y).u.length ≤ 256) := Iff.rfl
  generalize mulS p t u q x y = r at *
  refine ⟨fun h => ?no, fun h => ?yes, fun h => (hok.1 h).2.1, fun h => (hok.1 h).2.2⟩
  case no =>
    refine afun_of Tryz.func9 Tryz.call9 rfl Tryz.ntmps9 rfl ?_
    have W : Walk Tryz.prog TT 9 _ := Walk.of TT_ok Tryz.func9 Tryz.results9
    refine cf W 0 [3] [2, 3, 4, 5] rfl rfl rfl rfl rfl rfl (fracs2_ok p q t u x y ht hu hx hy) rfl ?_
    refine sp W 0 rfl rfl rfl (fun h1 => ?_) (fun h1 => ?_)
    · refine rp W 0 rfl rfl rfl (.refl)
    · have h1 := Classical.not_not.1 h1
      obtain ⟨k1, k2, k3⟩ := key h1
      refine ce W 0 rfl rfl (k1) rfl ?_
      refine ce W 0 rfl rfl (given_no r.p r.t r.u (fun h2 => h (hok.2 ⟨h1, h2⟩)) k2 k3) rfl ?_
      refine rp W 0 rfl rfl rfl (.refl)
  case yes =>
    refine afun_of Tryz.func9 Tryz.call9 rfl Tryz.ntmps9 rfl ?_
    have W : Walk Tryz.prog TT 9 _ := Walk.of TT_ok Tryz.func9 Tryz.results9
    have h1 := (hok.1 h).1
    have h2 := (hok.1 h).2
    refine cf W 0 [3] [2, 3, 4, 5] rfl rfl rfl rfl rfl rfl (fracs2_ok p q t u x y ht hu hx hy) rfl ?_
    refine sp W 0 rfl rfl rfl (fun h3 => ?_) (fun h3 => ?_)
    · exact absurd h1 h3
    · obtain ⟨k1, k2, k3⟩ := key h1
      refine ce W 0 rfl rfl (k1) rfl ?_
      refine cn W 0 rfl rfl rfl (given_new r.p r.t r.u h2.1 h2.2) ?_
      rintro _ _ ⟨rfl, rfl⟩
      refine ⟨_, _, rfl, rfl, ?_⟩
      refine rn W 0 rfl rfl rfl (.tup [.agg [.pr r.p, .sl 0 0 0 r.t.length, .sl 1 0 0 r.u.length], .pr True]) rfl .refl ⟨rfl, by simp [blksM]⟩
end Pf
/- Fractions as rational numbers -/
namespace Pf
open Go Go.Proofs
/-- Fractions as rational numbers. -/
def dt (r : Rat) : List Int := dig r.num.natAbs
def db (r : Rat) : List Int := dig r.den
def frR (r : Rat) : AV := frF (r < 0) (dt r) (db r)
def small (r : Rat) : Prop := (dt r).length ≤ 256 ∧ (db r).length ≤ 256
open Classical in
/-- A number with a sign. -/
noncomputable def sg (p : Prop) (a : Nat) : Int := if p then -(a : Int) else a
theorem sg_yes {p : Prop} {a : Nat} (h : p) : sg p a = -(a : Int) := if_pos h
theorem sg_no {p : Prop} {a : Nat} (h : ¬ p) : sg p a = a := if_neg h
theorem sg_abs (p : Prop) (a : Nat) : (sg p a).natAbs = a := by unfold sg; split <;> simp
theorem num_neg {r : Rat} : r < 0 ↔ r.num < 0 := by
  rw [← Rat.not_le, ← Rat.num_nonneg]; omega
theorem sg_num (r : Rat) : sg (r < 0) r.num.natAbs = r.num := by
  by_cases h : r < 0
  · rw [sg_yes h]; have := num_neg.1 h; omega
  · have : ¬ r.num < 0 := fun k => h (num_neg.2 k)
    rw [sg_no h]; omega
theorem mkRat_parts (p : Prop) (a b : Nat) (hb : b ≠ 0) : lT a b = dt (mkRat (sg p a) b) ∧ lB a b = db (mkRat (sg p a) b) ∧ ((p ∧ a ≠ 0) ↔ mkRat (sg p a) b < 0) := by
  have hb0 : 0 < b := by omega
  have hg : (b.gcd (sg p a).natAbs : Nat) = a.gcd b := by rw [sg_abs, Nat.gcd_comm]
  have hgp : 0 < a.gcd b := Nat.gcd_pos_of_pos_right a hb0
  have hq : (a : Int) / ((a.gcd b : Nat) : Int) = ((a / a.gcd b : Nat) : Int) := by simp
  refine ⟨?_, ?_, ?_⟩
  · unfold lT dt
    rw [Rat.num_mkRat, if_neg hb, hg]
    congr 1
    unfold sg
    split
    · rw [Int.neg_ediv_of_dvd (Int.natCast_dvd_natCast.2 (Nat.gcd_dvd_left a b)), Int.natAbs_neg, hq, Int.natAbs_natCast]
    · rw [hq, Int.natAbs_natCast]
  · unfold lB db
    rw [Rat.den_mkRat, if_neg hb, hg]
  · rw [num_neg, Rat.num_mkRat, if_neg hb, hg]
    have hd : ((a.gcd b : Nat) : Int) ∣ (a : Int) := Int.natCast_dvd_natCast.2 (Nat.gcd_dvd_left a b)
    unfold sg
    split
    · rename_i hp
      rw [Int.neg_ediv_of_dvd hd]
      constructor
      · rintro ⟨_, h0⟩
        have h1 : 0 < a / a.gcd b := Nat.div_pos (Nat.gcd_le_left b (by omega)) hgp
        rw [hq]; have := Int.natCast_pos.2 h1; omega
      · intro h
        refine ⟨hp, fun h0 => ?_⟩
        subst h0; simp at h
    · rename_i hp
      constructor
      · exact fun h => absurd h.1 hp
      · intro h
        rw [hq] at h; exact absurd h (Int.not_lt.2 (Int.natCast_nonneg _))
/-- A fraction's number. -/
noncomputable def rat (p : Prop) (t u : List Int) : Rat := mkRat (sg p (nm t)) (nm u)
theorem frOk_rat {p : Prop} {t u : List Int} (h : frOk p t u) : t = dt (rat p t u) ∧ u = db (rat p t u) ∧ (p ↔ rat p t u < 0) := by
  obtain ⟨a, b, rfl, rfl, ha, hb, hb0, hap, hab⟩ := frOk_dig h
  obtain ⟨h1, h2, h3⟩ := mkRat_parts p a b hb0
  unfold rat
  rw [nm_dig, nm_dig, ← h1, ← h2, ← h3]
  unfold lT lB
  rw [hab, Nat.div_one, Nat.div_one]
  exact ⟨rfl, rfl, fun hp => ⟨hp, fun h0 => hap h0 hp⟩, fun h => h.1⟩
theorem frR_eq {p : Prop} {t u : List Int} (h : frOk p t u) : frF p t u = frR (rat p t u) := by
  obtain ⟨h1, h2, h3⟩ := frOk_rat h
  unfold frR
  rw [← h1, ← h2, ← propext h3]
theorem rat_frR (r : Rat) : rat (r < 0) (dt r) (db r) = r := by
  unfold rat dt db
  rw [nm_dig, nm_dig, sg_num, Rat.mkRat_self]
theorem dt_nil {r : Rat} : dt r = [] ↔ r = 0 := by
  unfold dt; rw [dig_nil, Int.natAbs_eq_zero, Rat.num_eq_zero]
theorem frOk_iff {r : Rat} : frOk (r < 0) (dt r) (db r) ↔ small r := by
  constructor
  · intro h; exact ⟨h.1.1, h.2.1.1⟩
  · intro h
    refine ⟨natOk_of h.1, natOk_of h.2, fun h0 => r.den_nz (dig_nil.1 h0), fun h0 h1 => ?_, ?_⟩
    · rw [dt_nil] at h0; subst h0; exact Rat.lt_irrefl h1
    · unfold dt db
      rw [val_dig, val_dig]
      simpa using r.reduced
theorem fits_iff (p : Prop) (a b : Nat) (hb : b ≠ 0) : fits a b ↔ small (mkRat (sg p a) b) := by
  obtain ⟨h1, h2, _⟩ := mkRat_parts p a b hb
  unfold fits small; rw [h1, h2]
/-- What is answered, by a number. -/
noncomputable def FRes.ofRat (ok : Prop) (r : Rat) : FRes := ⟨ok ∧ small r, r < 0, dt r, db r⟩
theorem res_eq {ok p : Prop} {a b : Nat} {r : Rat} (hb : b ≠ 0) (h : mkRat (sg p a) b = r) : (⟨ok ∧ fits a b, p ∧ a ≠ 0, lT a b, lB a b⟩ : FRes) = .ofRat ok r := by
  obtain ⟨h1, h2, h3⟩ := mkRat_parts p a b hb
  unfold FRes.ofRat
  rw [fits_iff p a b hb, h] 
  rw [h] at h1 h2 h3
  rw [h1, h2, propext h3]
theorem sg_mul (p q : Prop) (a b : Nat) : sg (¬ (p ↔ q)) (a * b) = sg p a * sg q b := by
  by_cases hp : p <;> by_cases hq : q <;> simp [sg, hp, hq, Int.neg_mul, Int.mul_neg]
theorem sg_sum (p q : Prop) (x y : Nat) : sg (sumP p q x y) (sumT p q x y) = sg p x + sg q y := by
  by_cases hp : p <;> by_cases hq : q <;> by_cases hy : y ≤ x <;> simp [sg, sumP, sumT, hp, hq, hy] <;> omega
theorem sg_mul_nat (p : Prop) (a b : Nat) : sg p (a * b) = sg p a * b := by
  unfold sg; split <;> simp [Int.neg_mul]
theorem nz_of {p : Prop} {t u : List Int} (h : frOk p t u) : nm u ≠ 0 := by
  obtain ⟨a, b, rfl, rfl, ha, hb, hb0, hap, hab⟩ := frOk_dig h
  rwa [nm_dig]
theorem ofRat_false {ok : Prop} (h : ¬ ok) (p : Prop) (t u : List Int) (r : Rat) (x : Prop) : ((⟨ok ∧ x, p, t, u⟩ : FRes).av = (FRes.ofRat ok r).av) := by
  unfold FRes.ofRat FRes.av
  rw [resF_no (fun k => h k.1), resF_no (fun k => h k.1)]
theorem mulS_rat {p q : Prop} {t u x y : List Int} (h1 : frOk p t u) (h2 : frOk q x y) : mulS p t u q x y = .ofRat (frOk p t u ∧ frOk q x y) (rat p t u * rat q x y) := by
  unfold mulS
  refine res_eq (Nat.mul_ne_zero (nz_of h1) (nz_of h2)) ?_
  unfold rat
  rw [Rat.mkRat_mul_mkRat, sg_mul]
theorem addS_rat {p q : Prop} {t u x y : List Int} (h1 : frOk p t u) (h2 : frOk q x y) : addS p t u q x y = .ofRat (frOk p t u ∧ frOk q x y) (rat p t u + rat q x y) := by
  unfold addS sT sP
  refine res_eq (Nat.mul_ne_zero (nz_of h1) (nz_of h2)) ?_
  unfold rat
  rw [Rat.mkRat_add_mkRat _ _ (nz_of h1) (nz_of h2), sg_sum, sg_mul_nat, sg_mul_nat]
theorem rat_neg {q : Prop} {x y : List Int} (h : frOk q x y) : rat (¬ q ∧ x ≠ []) x y = - rat q x y := by
  obtain ⟨a, b, rfl, rfl, ha, hb, hb0, hap, hab⟩ := frOk_dig h
  unfold rat
  rw [nm_dig, nm_dig, Rat.neg_mkRat]
  congr 1
  by_cases h0 : a = 0
  · subst h0; simp [sg]
  · have : dig a ≠ [] := fun h => h0 (dig_nil.1 h)
    by_cases hq : q <;> simp [sg, hq, this]
theorem subS_rat {p q : Prop} {t u x y : List Int} (h1 : frOk p t u) (h2 : frOk q x y) : subS p t u q x y = .ofRat (frOk p t u ∧ frOk q x y) (rat p t u - rat q x y) := by
  have e : rat p t u - rat q x y = rat p t u + rat (¬ q ∧ x ≠ []) x y := by rw [rat_neg h2, Rat.sub_eq_add_neg]
  rw [e]
  unfold subS sT sP
  refine res_eq (Nat.mul_ne_zero (nz_of h1) (nz_of h2)) ?_
  unfold rat
  rw [Rat.mkRat_add_mkRat _ _ (nz_of h1) (nz_of h2), sg_sum, sg_mul_nat, sg_mul_nat]
theorem divS_rat {p q : Prop} {t u x y : List Int} (h1 : frOk p t u) (h2 : frOk q x y) (h3 : x ≠ []) : divS p t u q x y = .ofRat (frOk p t u ∧ frOk q x y ∧ x ≠ []) (rat p t u / rat q x y) := by
  have hx : nm x ≠ 0 := by
    obtain ⟨a, b, rfl, rfl, ha, hb, hb0, hap, hab⟩ := frOk_dig h2
    rw [nm_dig]; exact fun h => h3 (dig_nil.2 h)
  have hu := nz_of h1
  have hy := nz_of h2
  unfold divS
  refine res_eq (Nat.mul_ne_zero hu hx) ?_
  unfold rat
  rw [Rat.div_def, ← Rat.divInt_ofNat, ← Rat.divInt_ofNat, ← Rat.divInt_ofNat, Rat.inv_divInt, Rat.divInt_mul_divInt]
  by_cases hq : q
  · have e1 : sg q (nm x) = -((nm x : Nat) : Int) := sg_yes hq
    have e2 : sg (¬ (p ↔ q)) (nm t * nm y) = -(sg p (nm t) * (nm y : Int)) := by by_cases hp : p <;> simp [sg, hp, hq, Int.neg_mul]
    rw [e1, e2, Int.mul_neg, ← Rat.neg_divInt_neg, Int.neg_neg]
    simp
  · have e1 : sg q (nm x) = ((nm x : Nat) : Int) := sg_no hq
    have e2 : sg (¬ (p ↔ q)) (nm t * nm y) = sg p (nm t) * (nm y : Int) := by by_cases hp : p <;> simp [sg, hp, hq, Int.neg_mul]
    rw [e1, e2]
    simp
end Pf
/- Literals and the numbers that they are -/
namespace Pf
open Go Go.Proofs
/-- D times ten to the power of e. -/
def tenv (D : Nat) (e : Int) : Rat := mkRat ((D * 10 ^ e.toNat : Nat) : Int) (10 ^ (-e).toNat)
noncomputable def litv (s : List UInt8) : Rat := tenv (dval (litA s ++ litB s)) (litN s - (litB s).length)
theorem ten_pos (k : Nat) : 0 < 10 ^ k := Nat.pow_pos (by omega)
theorem ten_rat : (10 : Rat) = mkRat 10 1 := by decide +kernel
theorem mkRat_nat {a b c d : Nat} (hb : 0 < b) (hd : 0 < d) : mkRat (a : Int) b = mkRat (c : Int) d ↔ a * d = c * b := by
  rw [Rat.mkRat_eq_iff (by omega) (by omega)]
  constructor
  · intro h; exact_mod_cast h
  · intro h; exact_mod_cast h
theorem mul_ten (a b : Nat) : mkRat (a : Int) b * 10 = mkRat ((a * 10 : Nat) : Int) b := by
  rw [ten_rat, Rat.mkRat_mul_mkRat, Nat.mul_one]; rfl
theorem tenv_ten (D : Nat) (e : Int) : tenv D (e + 1) = tenv D e * 10 := by
  unfold tenv
  rw [mul_ten, mkRat_nat (ten_pos _) (ten_pos _)]
  by_cases h : 0 ≤ e
  · rw [show (-e).toNat = 0 by omega, show (-(e + 1)).toNat = 0 by omega, show (e + 1).toNat = e.toNat + 1 by omega, Nat.pow_succ, ← Nat.mul_assoc]
  · rw [show e.toNat = 0 by omega, show (e + 1).toNat = 0 by omega, show (-e).toNat = (-(e + 1)).toNat + 1 by omega, Nat.pow_succ]
    simp only [Nat.pow_zero, Nat.mul_one]
    rw [Nat.mul_comm (10 ^ _) 10, Nat.mul_assoc]
theorem tenv_snoc (D : Nat) (e : Int) : tenv (D * 10) (e - 1) = tenv D e := by
  have h := tenv_ten D (e - 1)
  rw [show e - 1 + 1 = e by omega] at h
  rw [h]
  unfold tenv
  rw [mul_ten, Nat.mul_right_comm]
theorem tenv_neg (D k : Nat) : tenv D (0 - (k : Int)) = mkRat (D : Int) (10 ^ k) := by
  unfold tenv
  rw [show (0 - (k : Int)).toNat = 0 by omega, show (-(0 - (k : Int))).toNat = k by omega]
  simp
theorem sg_false (a : Nat) : sg False a = a := sg_no id
theorem mkRat_nonneg (a b : Nat) (hb : 0 < b) : ¬ mkRat (a : Int) b < 0 := by
  have h := (mkRat_parts False a b (by omega)).2.2
  rw [sg_false] at h
  exact fun k => (h.2 k).1
theorem pow10_le {e k : Nat} (h : e ≤ 4 * k) : 10 ^ e ≤ 65536 ^ k := by
  have h1 : 10 ^ e ≤ 16 ^ e := Nat.pow_le_pow_left (by omega) e
  have h2 : 16 ^ e ≤ 16 ^ (4 * k) := Nat.pow_le_pow_right (by omega) h
  have h3 : 16 ^ (4 * k) = 65536 ^ k := by rw [Nat.pow_mul]
  omega
theorem dig10 {e k : Nat} (h : e + 1 ≤ 4 * k) {a : Nat} (ha : a ≤ 10 ^ e) : (dig a).length ≤ k := by
  refine dig_len_le.2 ?_
  have h1 := pow10_le h
  have h2 : 10 ^ (e + 1) = 10 ^ e * 10 := Nat.pow_succ ..
  have := ten_pos e
  omega
theorem small_mk {a b : Nat} (hb : 0 < b) (h1 : (dig a).length ≤ 256) (h2 : (dig b).length ≤ 256) : small (mkRat (a : Int) b) := by
  obtain ⟨e1, e2, -⟩ := mkRat_parts False a b (by omega)
  rw [sg_false] at e1 e2
  unfold small
  rw [← e1, ← e2]
  unfold lT lB
  have k1 := dig_len_le.1 h1
  have k2 := dig_len_le.1 h2
  exact ⟨dig_len_le.2 (Nat.lt_of_le_of_lt (Nat.div_le_self _ _) k1), dig_len_le.2 (Nat.lt_of_le_of_lt (Nat.div_le_self _ _) k2)⟩
theorem tenv_dig {D : Nat} {e : Int} (hD : D ≤ 10 ^ 60) (h1 : -500 ≤ e) (h2 : e ≤ 500) : (dig (D * 10 ^ e.toNat)).length ≤ 256 ∧ (dig (10 ^ (-e).toNat)).length ≤ 256 := by
  constructor
  · refine dig10 (e := 60 + e.toNat) (by omega) ?_
    rw [Nat.pow_add]
    exact Nat.mul_le_mul_right _ hD
  · exact dig10 (e := (-e).toNat) (by omega) (Nat.le_refl _)
theorem tenv_small {D : Nat} {e : Int} (hD : D ≤ 10 ^ 60) (h1 : -500 ≤ e) (h2 : e ≤ 500) : small (tenv D e) := by
  obtain ⟨k1, k2⟩ := tenv_dig hD h1 h2
  exact small_mk (ten_pos _) k1 k2
/-- What a literal's parts are. -/
theorem litB_all {s : List UInt8} (h : litP s) : (litB s).all dB = true := by
  by_cases k : (46 : UInt8) ∈ cutL s 101
  · exact (h.2.1 k).2
  · unfold litB; rw [(cutL_self k).2]; rfl
theorem litA_all {s : List UInt8} (h : litP s) : (litA s).all dB = true := h.1.1.2
theorem litA_pos {s : List UInt8} (h : litP s) : 1 ≤ (litA s).length := by
  have := List.length_pos_iff.2 h.1.1.1
  exact this
theorem lit_len (s : List UInt8) : (litA s).length + (litB s).length ≤ s.length ∧ ((46 : UInt8) ∈ cutL s 101 → (litA s).length + (litB s).length + 1 ≤ s.length) ∧ ((46 : UInt8) ∉ cutL s 101 → litB s = []) := by
  have h1 := cutL_len s 101
  by_cases k : (46 : UInt8) ∈ cutL s 101
  · have h2 := congrArg List.length (cut_back k)
    simp only [List.length_append, List.length_cons] at h2
    unfold litA litB
    exact ⟨by omega, fun _ => by omega, fun h => absurd k h⟩
  · unfold litA litB
    obtain ⟨h2, h3⟩ := cutL_self k
    rw [h2, h3]
    exact ⟨by simpa using h1, fun h => absurd h k, fun _ => rfl⟩
theorem lit_val {s : List UInt8} (h : litP s) (hl : s.length ≤ 60) : dval (litA s ++ litB s) ≤ 10 ^ 60 := by
  have h1 := dval_lt (s := litA s ++ litB s) (by rw [List.all_append, litA_all h, litB_all h]; rfl)
  have h2 := (lit_len s).1
  have h3 : 10 ^ (litA s ++ litB s).length ≤ 10 ^ 60 := Nat.pow_le_pow_right (by omega) (by rw [List.length_append]; omega)
  omega
theorem atoiV_of {w : List UInt8} {v : Int} (h : Lib.atoiAll w = .ok v) : atoiV w = v := by unfold atoiV; rw [h]
theorem litN_in {s : List UInt8} (h : litP s) : -400 ≤ litN s ∧ litN s ≤ 400 := by
  unfold litN
  split
  · rename_i k
    obtain ⟨h1, -, v, h2, h3, -⟩ := h.2.2 k
    rw [atoiV_of h2]
    have := atoi_nonneg h1 h2
    split <;> omega
  · omega
theorem lit_small {s : List UInt8} (h : litP s) (hl : s.length ≤ 60) : small (litv s) := by
  have h1 := litN_in h
  have h2 := (lit_len s).1
  exact tenv_small (lit_val h hl) (by omega) (by omega)
theorem lit_nonneg (s : List UInt8) : ¬ litv s < 0 := mkRat_nonneg _ _ (ten_pos _)
theorem litN_none {s : List UInt8} (h : (101 : UInt8) ∉ s) : litN s = 0 := by unfold litN; rw [if_neg h]
/-- Ten times a literal; a nought behind a literal's point. -/
theorem lit_e1 {s : List UInt8} (h : litP s) (hn : (101 : UInt8) ∉ s) : litP (s ++ [101, 49]) ∧ litv (s ++ [101, 49]) = litv s * 10 := by
  obtain ⟨e1, e2⟩ := cutL_in (t := [49]) hn
  obtain ⟨e3, -⟩ := cutL_self hn
  have eA : litA (s ++ [101, 49]) = litA s := by unfold litA; rw [e1, e3]
  have eB : litB (s ++ [101, 49]) = litB s := by unfold litB; rw [e1, e3]
  have hm : (101 : UInt8) ∈ s ++ [101, 49] := by simp
  have hp : cutP [(49 : UInt8)] 45 = [49] := rfl
  have hv : Lib.atoiAll [(49 : UInt8)] = .ok 1 := val1 (by decide)
  have eN : litN (s ++ [101, 49]) = 1 := by
    unfold litN
    rw [if_pos hm, e2, hp, if_neg (by decide), atoiV_of hv]
  refine ⟨⟨?_, ?_, fun _ => ?_⟩, ?_⟩
  · have := h.1
    rw [e3] at this
    rw [e1]; exact this
  · have := h.2.1
    rw [e3] at this
    rw [e1]; exact this
  · rw [e2]
    refine ⟨?_, by decide, 1, hv, by omega, fun k => by have := k.2; omega⟩
    rw [hp]
    exact ⟨⟨by simp, by decide⟩, .inr (by decide)⟩
  · unfold litv
    rw [eA, eB, eN, litN_none hn, ← tenv_ten]
    congr 1
    omega
theorem lit_zero {s : List UInt8} (h : litP s) (hn : (101 : UInt8) ∉ s) (hp : (46 : UInt8) ∈ s) : litP (s ++ [48]) ∧ litv (s ++ [48]) = litv s := by
  have hn' : (101 : UInt8) ∉ s ++ [48] := by simp [hn]
  obtain ⟨e1, -⟩ := cutL_self hn
  obtain ⟨e2, -⟩ := cutL_self hn'
  have hb := cut_back hp
  have hA : (46 : UInt8) ∉ cutL s 46 := cutL_not s 46
  have e3 : s ++ [48] = cutL s 46 ++ 46 :: (cutR s 46 ++ [48]) := by
    conv => lhs; rw [hb]
    rw [List.append_assoc]; rfl
  obtain ⟨e4, e5⟩ := cutL_in (t := cutR s 46 ++ [48]) hA
  have eA : litA (s ++ [48]) = litA s := by unfold litA; rw [e1, e2, e3, e4]
  have eB : litB (s ++ [48]) = litB s ++ [48] := by unfold litB; rw [e1, e2, e3, e5]
  have hall := litB_all h
  refine ⟨⟨?_, fun _ => ⟨?_, ?_⟩, fun k => absurd k hn'⟩, ?_⟩
  · have : wd (litA (s ++ [48])) := by rw [eA]; exact h.1
    exact this
  · have : litB (s ++ [48]) ≠ [] := by rw [eB]; simp
    exact this
  · have : (litB (s ++ [48])).all dB = true := by rw [eB, List.all_append, hall]; decide
    exact this
  · unfold litv
    rw [eA, eB, litN_none hn, litN_none hn', ← List.append_assoc, dval_snoc, List.length_append, List.length_singleton]
    have k := tenv_snoc (dval (litA s ++ litB s)) (0 - ((litB s).length : Int))
    rw [← k]
    congr 1
    omega
theorem wd_pad {n q : Nat} (hn : n ≠ 0) : wd ((padD (n + 1) q).take ((padD (n + 1) q).length - n)) := by
  have hg := pad_ge (n + 1) q
  have ha := pad_all (n + 1) q
  refine ⟨⟨fun k => ?_, ?_⟩, ?_⟩
  · have := congrArg List.length k
    rw [List.length_take] at this
    simp only [List.length_nil] at this
    omega
  · exact List.all_eq_true.2 fun x hx => List.all_eq_true.1 ha x (List.mem_of_mem_take hx)
  · have hd := dec_len q
    by_cases k : n + 1 ≤ (Lib.decDigits q).length
    · right
      have e : padD (n + 1) q = Lib.decDigits q := by
        unfold padD
        rw [show n + 1 - (Lib.decDigits q).length = 0 by omega]; rfl
      rw [e]
      have hq : q ≠ 0 := fun h0 => by
        subst h0
        rw [dec_small (by omega)] at k
        simp at k
        exact hn k
      have := (dec_ok q).2.2 hq
      rw [List.getD_eq_getElem?_getD, List.getElem?_take_of_lt (by omega), ← List.getD_eq_getElem?_getD]
      exact this
    · left
      have e1 : (padD (n + 1) q).length - n = 1 := by omega
      rw [e1]
      unfold padD
      rw [show n + 1 - (Lib.decDigits q).length = (n - (Lib.decDigits q).length) + 1 by omega, List.replicate_succ]
      rfl
theorem decT_lit (n q : Nat) : litP (decT n q) ∧ (101 : UInt8) ∉ decT n q ∧ litv (decT n q) = mkRat (q : Int) (10 ^ n) := by
  by_cases hn : n = 0
  · subst hn
    have e : decT 0 q = Lib.decDigits q := rfl
    rw [e]
    obtain ⟨h1, h2, h3⟩ := dec_ok q
    have n101 : (101 : UInt8) ∉ Lib.decDigits q := nodig h1 (by decide)
    have n46 : (46 : UInt8) ∉ Lib.decDigits q := nodig h1 (by decide)
    have eA : litA (Lib.decDigits q) = Lib.decDigits q := by unfold litA; rw [(cutL_self n101).1, (cutL_self n46).1]
    have eB : litB (Lib.decDigits q) = [] := by unfold litB; rw [(cutL_self n101).1, (cutL_self n46).2]
    refine ⟨⟨?_, fun k => ?_, fun k => absurd k n101⟩, n101, ?_⟩
    · have : wd (litA (Lib.decDigits q)) := by
        rw [eA]
        refine ⟨⟨List.length_pos_iff.1 (dec_pos q), h1⟩, ?_⟩
        by_cases hq : q = 0
        · subst hq; exact .inl (dec_small (by omega))
        · exact .inr (h3 hq)
      exact this
    · rw [(cutL_self n101).1] at k
      exact absurd k n46
    · unfold litv
      rw [eA, eB, litN_none n101, List.append_nil, h2]
      exact tenv_neg q 0
  · have e : decT n q = (padD (n + 1) q).take ((padD (n + 1) q).length - n) ++ 46 :: (padD (n + 1) q).drop ((padD (n + 1) q).length - n) := if_neg hn
    have hw := wd_pad (q := q) hn
    have ha := pad_all (n + 1) q
    have hg := pad_ge (n + 1) q
    have hv := pad_val (n + 1) q
    have ht := List.take_append_drop ((padD (n + 1) q).length - n) (padD (n + 1) q)
    have hdl : ((padD (n + 1) q).drop ((padD (n + 1) q).length - n)).length = n := by rw [List.length_drop]; omega
    have hda : ((padD (n + 1) q).drop ((padD (n + 1) q).length - n)).all dB = true := List.all_eq_true.2 fun x hx => List.all_eq_true.1 ha x (List.mem_of_mem_drop hx)
    rw [e]
    generalize (padD (n + 1) q).take ((padD (n + 1) q).length - n) = A at *
    generalize (padD (n + 1) q).drop ((padD (n + 1) q).length - n) = B at *
    have a46 : (46 : UInt8) ∉ A := nodig hw.1.2 (by decide)
    have n101 : (101 : UInt8) ∉ A ++ 46 :: B := by
      intro k
      rcases List.mem_append.1 k with k | k
      · exact nodig hw.1.2 (by decide) k
      · rcases List.mem_cons.1 k with k | k
        · cases k
        · exact nodig hda (by decide) k
    have eL := (cutL_self n101).1
    obtain ⟨c1, c2⟩ := cutL_in (t := B) a46
    have eA : litA (A ++ 46 :: B) = A := by unfold litA; rw [eL, c1]
    have eB : litB (A ++ 46 :: B) = B := by unfold litB; rw [eL, c2]
    refine ⟨⟨?_, fun _ => ⟨?_, ?_⟩, fun k => absurd k n101⟩, n101, ?_⟩
    · have : wd (litA (A ++ 46 :: B)) := by rw [eA]; exact hw
      exact this
    · have : litB (A ++ 46 :: B) ≠ [] := by
        rw [eB]
        exact List.length_pos_iff.1 (by omega)
      exact this
    · have : (litB (A ++ 46 :: B)).all dB = true := by rw [eB]; exact hda
      exact this
    · unfold litv
      rw [eA, eB, litN_none n101, ht, hv, hdl]
      exact tenv_neg q n
/-- A fraction that has a literal without a power has a short text. -/
theorem decT_fits {s : List UInt8} {A B : Nat} (hB : 0 < B) (hs : litP s) (hl : s.length ≤ 60) (hn : (101 : UInt8) ∉ s) (hv : litv s = mkRat (A : Int) B) :
    ∃ k, k ≤ 60 ∧ A * 10 ^ k % B = 0 ∧ ∀ n, n ≤ k → A * 10 ^ n % B = 0 → (decT n (A * 10 ^ n / B)).length ≤ 60 := by
  obtain ⟨l1, l2, l3⟩ := lit_len s
  have la := litA_pos hs
  have hD := dval_lt (s := litA s ++ litB s) (by rw [List.all_append, litA_all hs, litB_all hs]; rfl)
  unfold litv at hv
  rw [litN_none hn, tenv_neg, mkRat_nat (ten_pos _) hB] at hv
  rw [List.length_append] at hD
  generalize dval (litA s ++ litB s) = D at *
  refine ⟨(litB s).length, by omega, by rw [← hv]; exact Nat.mul_mod_left _ _, fun n hnk hd => ?_⟩
  have hq : A * 10 ^ n / B * B = A * 10 ^ n := Nat.div_mul_cancel (Nat.dvd_of_mod_eq_zero hd)
  generalize A * 10 ^ n / B = q at *
  have e1 : 10 ^ (litB s).length = 10 ^ n * 10 ^ ((litB s).length - n) := by rw [← Nat.pow_add]; congr 1; omega
  have e2 : D = q * 10 ^ ((litB s).length - n) := by
    rw [e1, ← Nat.mul_assoc, ← hq, Nat.mul_right_comm] at hv
    exact Nat.eq_of_mul_eq_mul_right hB hv
  have e3 : 10 ^ ((litA s).length + (litB s).length) = 10 ^ ((litA s).length + n) * 10 ^ ((litB s).length - n) := by rw [← Nat.pow_add]; congr 1; omega
  rw [e2, e3] at hD
  have h5 : q < 10 ^ ((litA s).length + n) := Nat.lt_of_mul_lt_mul_right hD
  have h6 := nDig_le h5 (by omega)
  rw [decT_len]
  have h7 := pad_ge (n + 1) q
  rw [dec_len] at h7
  split
  · rw [dec_len]; omega
  · have hb : litB s ≠ [] := fun k => by rw [k] at hnk; simp at hnk; omega
    have h46 : (46 : UInt8) ∈ cutL s 101 := Classical.byContradiction fun k => hb (l3 k)
    have := l2 h46
    omega
end Pf
/- Floats: values and roundings, numbers alone -/
namespace Pf
open Go Go.Proofs
/-- The value of a float from 0 on, in the least float's units; F: the bits of a fraction. -/
def fv (F n : Nat) : Nat := if n < 2 ^ F then n else (2 ^ F + n % 2 ^ F) * 2 ^ (n / 2 ^ F - 1)
theorem fv_at (F e q : Nat) (h : q < 2 ^ (F + 1)) (h2 : e = 0 ∨ 2 ^ F ≤ q) : fv F (e * 2 ^ F + q) = q * 2 ^ e := by
  have hp : 0 < 2 ^ F := Nat.pow_pos (by omega)
  rw [Nat.pow_succ] at h
  unfold fv
  by_cases hq : q < 2 ^ F
  · have : e = 0 := h2.resolve_right (by omega)
    subst this
    rw [if_pos (by omega)]; simp
  · have h3 : e * 2 ^ F + q = (q - 2 ^ F) + 2 ^ F * (e + 1) := by rw [Nat.mul_add, Nat.mul_comm e]; omega
    have h4 : q - 2 ^ F < 2 ^ F := by omega
    rw [if_neg (by omega), h3, Nat.add_mul_mod_self_left, Nat.mod_eq_of_lt h4, Nat.add_mul_div_left _ _ hp, Nat.div_eq_of_lt h4]
    congr 1
    · omega
    · congr 1; omega
theorem fv_next (F e q : Nat) (h : q < 2 ^ (F + 1)) (h2 : e = 0 ∨ 2 ^ F ≤ q) : fv F (e * 2 ^ F + q + 1) = (q + 1) * 2 ^ e := by
  by_cases hq : q + 1 < 2 ^ (F + 1)
  · exact fv_at F e (q + 1) hq (h2.imp id (by omega))
  · have e1 : q + 1 = 2 ^ F * 2 := by rw [Nat.pow_succ] at h hq; omega
    have e2 : e * 2 ^ F + q + 1 = (e + 1) * 2 ^ F + 2 ^ F := by rw [Nat.add_mul]; omega
    have hp : 0 < 2 ^ F := Nat.pow_pos (by omega)
    rw [e2, fv_at F (e + 1) (2 ^ F) (by rw [Nat.pow_succ]; omega) (.inr (Nat.le_refl _)), e1, Nat.pow_succ 2 e, Nat.mul_assoc, Nat.mul_comm 2]
theorem fv_parts (F n : Nat) : ∃ e q, n = e * 2 ^ F + q ∧ q < 2 ^ (F + 1) ∧ (e = 0 ∨ 2 ^ F ≤ q) := by
  have hp : 0 < 2 ^ F := Nat.pow_pos (by omega)
  by_cases h : n < 2 ^ F
  · exact ⟨0, n, by omega, by rw [Nat.pow_succ]; omega, .inl rfl⟩
  · have h1 : 0 < n / 2 ^ F := Nat.div_pos (by omega) hp
    have h2 := Nat.div_add_mod n (2 ^ F)
    have h3 := Nat.mod_lt n hp
    refine ⟨n / 2 ^ F - 1, 2 ^ F + n % 2 ^ F, ?_, by rw [Nat.pow_succ]; omega, .inr (by omega)⟩
    rw [Nat.sub_mul, Nat.mul_comm (n / 2 ^ F), Nat.one_mul]
    have : 2 ^ F ≤ 2 ^ F * (n / 2 ^ F) := Nat.le_mul_of_pos_right _ h1
    omega
theorem fv_step (F n : Nat) : fv F n < fv F (n + 1) := by
  obtain ⟨e, q, h1, h2, h3⟩ := fv_parts F n
  rw [h1, fv_at F e q h2 h3, fv_next F e q h2 h3]
  exact Nat.mul_lt_mul_of_pos_right (by omega) (Nat.pow_pos (by omega))
theorem fv_lt {F m n : Nat} (h : m < n) : fv F m < fv F n := by
  induction n with
  | zero => omega
  | succ n ih =>
    have := fv_step F n
    rcases (by omega : m = n ∨ m < n) with rfl | h1
    · exact this
    · have := ih h1; omega
theorem fv_le {F m n : Nat} (h : m ≤ n) : fv F m ≤ fv F n := by
  rcases (by omega : m = n ∨ m < n) with rfl | h1
  · exact Nat.le_refl _
  · exact Nat.le_of_lt (fv_lt h1)
theorem fv_zero (F : Nat) : fv F 0 = 0 := by
  unfold fv; rw [if_pos (Nat.pow_pos (by omega))]
/-- The greatest float below T whose value is not above X. -/
theorem tr_ex (F T X : Nat) : ∃ n, n ≤ T - 1 ∧ fv F n ≤ X ∧ (n = T - 1 ∨ X < fv F (n + 1)) := by
  generalize T - 1 = M
  induction M with
  | zero => exact ⟨0, by omega, by rw [fv_zero]; omega, .inl rfl⟩
  | succ M ih =>
    obtain ⟨n, h1, h2, h3⟩ := ih
    rcases h3 with rfl | h3
    · by_cases h : fv F (n + 1) ≤ X
      · exact ⟨n + 1, by omega, h, .inl rfl⟩
      · exact ⟨n, by omega, h2, .inr (by omega)⟩
    · exact ⟨n, by omega, h2, .inr h3⟩
noncomputable def trn (F T X : Nat) : Nat := Classical.choose (tr_ex F T X)
theorem trn_le (F T X : Nat) : trn F T X ≤ T - 1 := (Classical.choose_spec (tr_ex F T X)).1
theorem trn_fv (F T X : Nat) : fv F (trn F T X) ≤ X := (Classical.choose_spec (tr_ex F T X)).2.1
theorem trn_next (F T X : Nat) : trn F T X = T - 1 ∨ X < fv F (trn F T X + 1) := (Classical.choose_spec (tr_ex F T X)).2.2
theorem trn_eq {F T X n : Nat} (h1 : n ≤ T - 1) (h2 : fv F n ≤ X) (h3 : n = T - 1 ∨ X < fv F (n + 1)) : trn F T X = n := by
  have g1 := trn_le F T X
  have g2 := trn_fv F T X
  have g3 := trn_next F T X
  generalize trn F T X = m at *
  rcases Nat.lt_trichotomy m n with h | h | h
  · rcases g3 with g3 | g3
    · omega
    · have := fv_le (F := F) (show m + 1 ≤ n by omega); omega
  · exact h
  · rcases h3 with h3 | h3
    · omega
    · have := fv_le (F := F) (show n + 1 ≤ m by omega); omega
/-- What is reckoned by bits: A / b in the least float's units. -/
theorem round_core {F T A b e q : Nat} (hT : 0 < T) (hb : 0 < b) (hq : q = A / (b * 2 ^ e)) (h : q < 2 ^ (F + 1)) (h2 : e = 0 ∨ 2 ^ F ≤ q) :
    trn F T (A / b) = (if e * 2 ^ F + q < T then e * 2 ^ F + q else T - 1) ∧ (fv F (trn F T (A / b)) * b = A ↔ e * 2 ^ F + q < T ∧ A % (b * 2 ^ e) = 0) := by
  have hp : 0 < 2 ^ e := Nat.pow_pos (by omega)
  have hbe : 0 < b * 2 ^ e := Nat.mul_pos hb hp
  have f1 := fv_at F e q h h2
  have f2 := fv_next F e q h h2
  have hqX : q = A / b / 2 ^ e := by rw [hq, Nat.div_div_eq_div_mul]
  have x1 : q * 2 ^ e ≤ A / b := by rw [hqX]; exact Nat.div_mul_le_self _ _
  have x2 : A / b < (q + 1) * 2 ^ e := by rw [hqX]; exact (Nat.div_lt_iff_lt_mul hp).1 (Nat.lt_succ_self _)
  have hAb := Nat.div_mul_le_self A b
  by_cases hn : e * 2 ^ F + q < T
  · have e1 : trn F T (A / b) = e * 2 ^ F + q := trn_eq (by omega) (by omega) (.inr (by omega))
    rw [if_pos hn]
    refine ⟨e1, ?_⟩
    rw [e1, f1]
    have h3 := Nat.div_add_mod A (b * 2 ^ e)
    rw [← hq] at h3
    have h4 : q * 2 ^ e * b = b * 2 ^ e * q := by simp only [Nat.mul_comm, Nat.mul_left_comm]
    rw [h4]
    constructor
    · intro h5; exact ⟨hn, by omega⟩
    · intro h5; omega
  · have l1 : fv F (T - 1) < fv F (e * 2 ^ F + q) := fv_lt (by omega)
    have e1 : trn F T (A / b) = T - 1 := trn_eq (Nat.le_refl _) (by omega) (.inl rfl)
    rw [if_neg hn]
    refine ⟨e1, ?_⟩
    rw [e1]
    constructor
    · intro h5
      have : fv F (T - 1) * b < A / b * b := Nat.mul_lt_mul_of_pos_right (by omega) hb
      omega
    · intro h5; exact absurd h5.1 hn
end Pf
/- Floats: roundings of rationals -/
namespace Pf
open Go Go.Proofs
/-- The bits of a fraction, the power of the least float (without sign), the greatest exponent, the infinite float. -/
def fF (w : Int) : Nat := if w = 32 then 23 else 52
def fK (w : Int) : Nat := if w = 32 then 149 else 1074
def fG (w : Int) : Nat := if w = 32 then 127 else 1023
def fT (w : Int) : Nat := (2 * fG w + 1) * 2 ^ fF w
theorem top_fT {w : Int} (hw : w = 32 ∨ w = 64) : top w = fT w := by rcases hw with rfl | rfl <;> rfl
theorem fT_pos (w : Int) : 0 < fT w := Nat.mul_pos (by omega) (Nat.pow_pos (by omega))
theorem fT_rng (w : Int) : 2 ≤ fT w ∧ fT w ≤ 9218868437227405312 := by
  unfold fT fG fF; split <;> decide
theorem fKG (w : Int) : fK w + 1 = fG w + fF w := by unfold fK fG fF; split <;> rfl
/-- The greatest float that is not above a / b, and whether it is it. -/
noncomputable def tvN (w : Int) (a b : Nat) : Nat := trn (fF w) (fT w) (a * 2 ^ fK w / b)
def teN (w : Int) (a b : Nat) : Prop := fv (fF w) (tvN w a b) * b = a * 2 ^ fK w
theorem tvN_scale (w : Int) (a b c : Nat) (hc : 0 < c) : tvN w (a * c) (b * c) = tvN w a b := by
  unfold tvN
  rw [Nat.mul_right_comm, Nat.mul_div_mul_right _ _ hc]
theorem teN_scale (w : Int) (a b c : Nat) (hc : 0 < c) : teN w (a * c) (b * c) ↔ teN w a b := by
  unfold teN
  rw [tvN_scale w a b c hc, Nat.mul_right_comm a, ← Nat.mul_assoc]
  exact Nat.mul_left_inj (by omega)
theorem mkRat_scale {p : Prop} {a b : Nat} {r : Rat} (hb : b ≠ 0) (h : mkRat (sg p a) b = r) : ∃ c, 0 < c ∧ a = r.num.natAbs * c ∧ b = r.den * c := by
  obtain ⟨h1, h2, _⟩ := mkRat_parts p a b hb
  rw [h] at h1 h2
  have h1 := dig_inj h1
  have h2 := dig_inj h2
  refine ⟨a.gcd b, Nat.gcd_pos_of_pos_right a (by omega), ?_, ?_⟩
  · rw [← h1, Nat.div_mul_cancel (Nat.gcd_dvd_left a b)]
  · rw [← h2, Nat.div_mul_cancel (Nat.gcd_dvd_right a b)]
noncomputable def tv (w : Int) (r : Rat) : Nat := tvN w r.num.natAbs r.den
def te (w : Int) (r : Rat) : Prop := teN w r.num.natAbs r.den
theorem tv_of {w : Int} {p : Prop} {a b : Nat} {r : Rat} (hb : b ≠ 0) (h : mkRat (sg p a) b = r) : tvN w a b = tv w r ∧ (teN w a b ↔ te w r) := by
  obtain ⟨c, hc, rfl, rfl⟩ := mkRat_scale hb h
  exact ⟨tvN_scale _ _ _ _ hc, teN_scale _ _ _ _ hc⟩
open Classical in
/-- The next float behind the greatest that is not above. -/
noncomputable def nx (w : Int) (r : Rat) : Nat := if te w r then tv w r else tv w r + 1
open Classical in
/-- The greatest float that is not above a number; the least that is not below. -/
noncomputable def dn (w : Int) (r : Rat) : Int := if r < 0 then -(nx w r : Int) else tv w r
open Classical in
noncomputable def up (w : Int) (r : Rat) : Int := if r < 0 then -(tv w r : Int) else nx w r
theorem tv_le (w : Int) (r : Rat) : tv w r + 1 ≤ fT w := by
  have := trn_le (fF w) (fT w) (r.num.natAbs * 2 ^ fK w / r.den)
  have h := fT_pos w
  unfold tv tvN; omega
theorem nx_le (w : Int) (r : Rat) : tv w r ≤ nx w r ∧ nx w r ≤ tv w r + 1 := by unfold nx; split <;> omega
theorem te_zero (w : Int) : tv w 0 = 0 ∧ te w 0 := by
  have h : tv w 0 = 0 := by
    have := fT_pos w
    unfold tv tvN
    refine trn_eq (Nat.zero_le _) (by rw [fv_zero]; exact Nat.zero_le _) (.inr ?_)
    have := fv_step (fF w) 0
    have e : (Rat.num 0).natAbs * 2 ^ fK w / Rat.den 0 = 0 := by simp
    rw [e]; omega
  refine ⟨h, ?_⟩
  unfold te teN
  unfold tv at h
  rw [h, fv_zero]; simp
theorem dn_zero (w : Int) : dn w 0 = 0 ∧ up w 0 = 0 := by
  obtain ⟨h1, h2⟩ := te_zero w
  unfold dn up nx
  rw [if_neg Rat.lt_irrefl, if_neg Rat.lt_irrefl, if_pos h2, h1]
  exact ⟨rfl, rfl⟩
theorem tv_neg (w : Int) (r : Rat) : tv w (-r) = tv w r ∧ (te w (-r) ↔ te w r) := by
  unfold tv te
  rw [Rat.neg_num, Int.natAbs_neg, Rat.neg_den]
  exact ⟨rfl, Iff.rfl⟩
theorem nx_neg (w : Int) (r : Rat) : nx w (-r) = nx w r := by
  unfold nx
  rw [(tv_neg w r).1, propext (tv_neg w r).2]
theorem up_neg (w : Int) (r : Rat) : up w (-r) = - dn w r := by
  by_cases h0 : r = 0
  · subst h0
    rw [Rat.neg_zero, (dn_zero w).1, (dn_zero w).2]; rfl
  · unfold up dn
    rw [nx_neg, (tv_neg w r).1]
    rcases Rat.le_total (a := r) (b := 0) with h | h
    · have h1 : r < 0 := Rat.lt_of_le_of_ne h h0
      have h2 : ¬ -r < 0 := by
        rw [Rat.neg_lt_iff, Rat.neg_zero, Rat.not_lt]; exact h
      rw [if_pos h1, if_neg h2, Int.neg_neg]
    · have h1 : 0 < r := Rat.lt_of_le_of_ne h (Ne.symm h0)
      have h2 : -r < 0 := by rw [Rat.neg_lt_iff, Rat.neg_zero]; exact h1
      rw [if_neg (Rat.not_lt.2 h), if_pos h2]
theorem dn_neg (w : Int) (r : Rat) : dn w (-r) = - up w r := by
  have := up_neg w (-r)
  rw [Rat.neg_neg] at this
  omega
theorem dn_rng (w : Int) (r : Rat) : -(fT w : Int) ≤ dn w r ∧ dn w r < fT w := by
  have h1 := tv_le w r
  have h2 := nx_le w r
  unfold dn; split <;> omega
theorem up_rng (w : Int) (r : Rat) : -(fT w : Int) < up w r ∧ up w r ≤ fT w := by
  have h1 := tv_le w r
  have h2 := nx_le w r
  unfold up; split <;> omega
theorem trn_mono {F T X Y : Nat} (h : X ≤ Y) : trn F T X ≤ trn F T Y := by
  have g1 := trn_le F T X
  have g2 := trn_fv F T X
  have k1 := trn_le F T Y
  have k3 := trn_next F T Y
  rcases Nat.lt_or_ge (trn F T Y) (trn F T X) with h1 | h1
  · rcases k3 with k3 | k3
    · omega
    · have := fv_le (F := F) (show trn F T Y + 1 ≤ trn F T X by omega); omega
  · exact h1
theorem div_mono {a b c d k : Nat} (hb : 0 < b) (hd : 0 < d) (h : a * d ≤ c * b) : a * k / b ≤ c * k / d := by
  rw [Nat.le_div_iff_mul_le hd]
  have h1 : a * k / b * d * b ≤ c * k * b := by
    calc a * k / b * d * b = a * k / b * b * d := Nat.mul_right_comm _ _ _
      _ ≤ a * k * d := Nat.mul_le_mul_right _ (Nat.div_mul_le_self _ _)
      _ = a * d * k := Nat.mul_right_comm _ _ _
      _ ≤ c * b * k := Nat.mul_le_mul_right _ h
      _ = c * k * b := Nat.mul_right_comm _ _ _
  exact Nat.le_of_mul_le_mul_right h1 hb
theorem tv_mono {w : Int} {r s : Rat} (h0 : 0 ≤ r) (h : r ≤ s) : tv w r ≤ tv w s := by
  unfold tv tvN
  refine trn_mono (div_mono (by have := r.den_nz; omega) (by have := s.den_nz; omega) ?_)
  have h1 := (Rat.le_iff r s).1 h
  have h2 := Rat.num_nonneg.2 h0
  have h3 := Rat.num_nonneg.2 (Rat.le_trans h0 h)
  have e1 : (r.num.natAbs : Int) = r.num := by omega
  have e2 : (s.num.natAbs : Int) = s.num := by omega
  rw [← e1, ← e2] at h1
  exact_mod_cast h1
theorem dn_le_up {w : Int} {r s : Rat} (h : r ≤ s) : dn w r ≤ up w s := by
  unfold dn up
  have n1 := nx_le w r
  have n2 := nx_le w s
  by_cases hr : r < 0
  · rw [if_pos hr]
    by_cases hs : s < 0
    · rw [if_pos hs]
      have h1 : tv w (-s) ≤ tv w (-r) := tv_mono (by rw [Rat.le_neg_iff, Rat.neg_zero]; exact Rat.le_of_lt hs) (Rat.neg_le_neg h)
      rw [(tv_neg w s).1, (tv_neg w r).1] at h1
      omega
    · rw [if_neg hs]; omega
  · rw [if_neg hr]
    have h0 := Rat.not_lt.1 hr
    rw [if_neg (Rat.not_lt.2 (Rat.le_trans h0 h))]
    have h1 := tv_mono (w := w) h0 h
    omega
end Pf
/- The known variable's cells are read. -/
namespace Pf
open Go
variable {P : Program} {TT : TypeId → Option TI} {f N n0 : Nat} {k : List Item} {T : Env} {H : AHeap} {R : AV → AHeap → Prop}
/-- The address of a cell of the known variable. -/
theorem go_gk (hT : TTok P TT) (ops : Array Oper) {i d t n : Nat} {ty aty e : TypeId} {kd : IntKind} {m : Int} {is : List Nat} {pos : String} {af : Array Edge} {j : TI} {T1 : Env}
    (ho : ops[i]? = some { dst := some d, op := .indexAddr aty (.global 4) (.tmp t), type := ty, pos := pos, after := af, guard := none })
    (hu : P.underlying aty = some (.array n e)) (he : TT e = some j) (hs : j.size = 1) (hn : n = gtab.length) (h2 : 1 < n) (hm : getM T t = some (.int kd m)) (h0 : 0 ≤ m) (h1 : m < n)
    (hd : dstM N (some d) (.fptr [.int .u64 (gtab.getD m.toNat 0)] 0) T = some T1)
    (h : AGo P f N n0 (.inRegion ops is :: k) T1 H R) : AGo P f N n0 (.inRegion ops (i :: is) :: k) T H R := by
  refine AGo.op ops ho hd (fun FM β a _ _ => rfl) (fun FM β a w hr hh => ?_) h
  rw [exec_indexAddr]
  refine SimV.yields ?_
  obtain ⟨info, d', z, ok⟩ := TI.fits_iff (hT _ _ he)
  have hv : VR FM β (.int kd m) (a.eval (.tmp t)) := hr t _ hm
  have e1 : a.eval (.tmp t) = .int kd m := by
    generalize a.eval (.tmp t) = c at hv ⊢
    cases hv; rfl
  have e2 : a.eval (.global 4) = .pointer (some ⟨4, 0, none⟩) := rfl
  rw [e1, e2]
  refine SimV.same (cv := .pointer (some ⟨4, m.toNat, none⟩)) ?_ ?_ hh
  · have : ¬ n ≤ 1 := by omega
    simp [Instr.indexAt, asIntOf, Instr.sureAddr, run_underlying hu, ok.run_size w, hs, h0, h1, addr_add, this]
  · have := VR.fptr (FM := FM) (β := β) (row := [.int .u64 (gtab.getD m.toNat 0)]) (c := 0) (cb := 4) (o := m.toNat) (fun _ => .int .u64 (gtab.getD m.toNat 0)) (fun i hi => by
        have : i = 0 := by simpa using hi
        subst this
        exact hh.gk.tab m.toNat (by omega)) (fun i hi => by
        have : i = 0 := by simpa using hi
        subst this
        exact .int)
    simpa using this
end Pf
/- Noughts that a number ends in -/
namespace Pf
open Go Go.Proofs
/-- How many noughts a number ends in. -/
def tzN (n : Nat) : Nat := if h : n = 0 then 0 else if n % 2 = 0 then tzN (n / 2) + 1 else 0
termination_by n
decreasing_by omega
theorem tzN_ok : ∀ n : Nat, n ≠ 0 → ∃ q, n = q * 2 ^ tzN n ∧ q % 2 = 1 := by
  intro n
  induction n using Nat.strongRecOn with
  | ind n ih =>
    intro h
    by_cases h2 : n % 2 = 0
    · obtain ⟨q, h3, h4⟩ := ih (n / 2) (by omega) (by omega)
      have e : tzN n = tzN (n / 2) + 1 := by rw [tzN]; simp [h, h2]
      refine ⟨q, ?_, h4⟩
      rw [e, Nat.pow_succ, ← Nat.mul_assoc, ← h3]; omega
    · have e : tzN n = 0 := by rw [tzN]; simp [h2]
      exact ⟨n, by rw [e]; simp, by omega⟩
theorem low_bit {x z q : Nat} (hx : x = q * 2 ^ z) (hq : q % 2 = 1) (hz : z < 64) (h : x < 2 ^ 64) : x &&& (2 ^ 64 - x) = 2 ^ z := by
  obtain ⟨k, rfl⟩ : ∃ k, q = 2 * k + 1 := ⟨q / 2, by omega⟩
  have hp : 0 < 2 ^ z := Nat.pow_pos (by omega)
  have hx0 : 0 < x := by rw [hx]; exact Nat.mul_pos (by omega) hp
  have e1 : x = 2 ^ z * (2 * k + 1) + 0 := by rw [hx, Nat.mul_comm]; rfl
  have e2 : x - 1 = 2 ^ z * (2 * k) + (2 ^ z - 1) := by rw [hx, Nat.mul_comm, Nat.mul_add, Nat.mul_one]; omega
  refine Nat.eq_of_testBit_eq fun i => ?_
  rw [Nat.testBit_and, show 2 ^ 64 - x = 2 ^ 64 - ((x - 1) + 1) by omega, Nat.testBit_two_pow_sub_succ (by omega), e2, Nat.testBit_two_pow_mul_add _ (by omega)]
  conv => lhs; rw [e1, Nat.testBit_two_pow_mul_add _ hp]
  rw [Nat.testBit_two_pow]
  by_cases hi : i < z
  · have : ¬ z = i := by omega
    simp [hi, this]
  · rw [if_neg hi, if_neg hi]
    by_cases hiz : i = z
    · subst hiz
      have h0 : (2 * k).testBit 0 = false := by simp
      simp [hz, h0]
    · obtain ⟨j, hj⟩ : ∃ j, i - z = j + 1 := ⟨i - z - 1, by omega⟩
      have n1 : ¬ z = i := by omega
      have t1 : (2 * k + 1).testBit (j + 1) = k.testBit j := by rw [Nat.testBit_succ]; congr 1; omega
      have t2 : (2 * k).testBit (j + 1) = k.testBit j := by rw [Nat.testBit_succ]; congr 1; omega
      rw [hj, t1, t2]
      cases k.testBit j <;> simp [n1]
theorem band_neg {n : Nat} (h0 : n ≠ 0) (h1 : n < 2 ^ 64) (hz : tzN n < 64) : band .u64 n (IntKind.u64.wrap (-(n : Int))) = ((2 ^ tzN n : Nat) : Int) := by
  obtain ⟨q, h3, h4⟩ := tzN_ok n h0
  have hb := low_bit h3 h4 hz h1
  have e0 : IntKind.u64.wrap (-(n : Int)) = ((2 ^ 64 - n : Nat) : Int) := by rw [wrapU]; omega
  rw [e0]
  have a1 : (BitVec.ofInt 64 (n : Int)).toNat = n := by rw [BitVec.toNat_ofInt]; omega
  have a2 : (BitVec.ofInt 64 ((2 ^ 64 - n : Nat) : Int)).toNat = 2 ^ 64 - n := by rw [BitVec.toNat_ofInt]; omega
  have e : band .u64 (n : Int) ((2 ^ 64 - n : Nat) : Int) = IntKind.u64.wrap (((BitVec.ofInt 64 (n : Int) &&& BitVec.ofInt 64 ((2 ^ 64 - n : Nat) : Int)).toNat : Nat) : Int) := rfl
  rw [e, BitVec.toNat_and, a1, a2, hb, wrapU]
  have : 2 ^ tzN n < 2 ^ 64 := Nat.pow_lt_pow_right (by omega) hz
  have h5 : (18446744073709551616 : Int) = ((2 ^ 64 : Nat) : Int) := by decide
  rw [h5]
  exact Int.emod_eq_of_lt (Int.natCast_nonneg _) (Int.ofNat_lt.2 this)
theorem tzN_lt {n : Nat} (h0 : n ≠ 0) (h1 : n < 2 ^ 64) : tzN n < 64 := by
  obtain ⟨q, h3, h4⟩ := tzN_ok n h0
  rcases Nat.lt_or_ge (tzN n) 64 with h | h
  · exact h
  · have h5 : 2 ^ 64 ≤ 2 ^ tzN n := Nat.pow_le_pow_right (by omega) h
    have h6 : 1 * 2 ^ tzN n ≤ q * 2 ^ tzN n := Nat.mul_le_mul_right _ (by omega)
    omega
end Pf
/- The parts of a float -/
namespace Pf
open Go Go.Proofs
theorem band_lowU {n : Int} (h0 : 0 ≤ n) (h1 : n ≤ 18446744073709551615) : band .u64 n 65535 = n % 65536 := by
  obtain ⟨m, rfl⟩ : ∃ m : Nat, n = m := ⟨n.toNat, by omega⟩
  have e1 : (BitVec.ofInt 64 (m : Int) &&& BitVec.ofInt 64 65535).toNat = m % 65536 := by
    rw [BitVec.toNat_and]
    have a1 : (BitVec.ofInt 64 (m : Int)).toNat = m := by rw [BitVec.toNat_ofInt]; omega
    have a2 : (BitVec.ofInt 64 65535).toNat = 65535 := by decide
    rw [a1, a2]
    exact Nat.and_two_pow_sub_one_eq_mod m 16
  have e2 : band .u64 (m : Int) 65535 = IntKind.u64.wrap (((BitVec.ofInt 64 (m : Int) &&& BitVec.ofInt 64 65535).toNat : Nat) : Int) := rfl
  rw [e2, e1, wrapU]
  omega
theorem natOf_ok (n : Nat) (h1 : n ≤ 18446744073709551615) : AFunP Tryz.prog 35 [.int .u64 n] (· = .fi .i64 (dig n)) := by
  refine afun_of Tryz.func35 Tryz.call35 rfl Tryz.ntmps35 rfl ?_
  have W : Walk Tryz.prog TT 35 _ := Walk.of TT_ok Tryz.func35 Tryz.results35
  refine atl W rfl ?_
  refine go_nilT 3 (.ints 0 .i64 []) rfl rfl rfl rfl rfl ?_
  refine lp W 0 (σ := Nat × Nat × List Int) (fun s => [(0, .int .u64 s.1), (3, .sl 0 s.2.1 0 s.2.2.length)]) (fun s => [.ints s.2.1 .i64 s.2.2]) (fun s => s.1) (fun s => s.1 ≤ 18446744073709551615 ∧ s.2.2 ++ dig s.1 = dig n) (n, 0, []) [0, 3] rfl rfl rfl ⟨h1, rfl⟩ ?_
  rintro ⟨m, g, l⟩ ⟨hm, he⟩ ih
  dsimp only at hm he ih ⊢
  have hl : l.length ≤ 4 := by
    have h2 := congrArg List.length he
    rw [List.length_append] at h2
    have h3 : (dig n).length ≤ 4 := dig_len_le.2 (by omega)
    omega
  refine sp W 0 rfl rfl rfl (fun h2 => ?_) (fun h2 => ?_)
  · have hm0 : m ≠ 0 := by omega
    have e1 : band .u64 (m : Int) 65535 = ((m % 65536 : Nat) : Int) := by rw [band_lowU (by omega) (by omega)]; omega
    have e2 : ((m : Int) / 2 ^ 16) = ((m / 65536 : Nat) : Int) := by rw [pw16]; omega
    rw [dig_pos hm0] at he
    have nx := ih (m / 65536, g + 1, l ++ [((m % 65536 : Nat) : Int)]) ⟨by dsimp only; omega, by simpa using he⟩ (by dsimp only; omega)
    dsimp only at nx
    rw [List.length_append, ← e1, ← e2] at nx
    refine bd W 0 1 [0, 3] rfl rfl rfl rfl rfl nx (hc := by simp only [AllC, e1, true_and, and_true, eq_self, List.length_cons, List.length_nil]; omega)
  · have hm0 : m = 0 := by omega
    subst hm0
    rw [dig_zero, List.append_nil] at he
    refine rp W 0 rfl rfl rfl (.fi he)
theorem whole_ok (p : Prop) (a : Nat) (h : (dig a).length ≤ 100000) : AFunP Tryz.prog 28 [.pr p, .fi .i64 (dig a)] (· = frF (p ∧ a ≠ 0) (dig a) [1]) := by
  refine afun_of Tryz.func28 Tryz.call28 rfl Tryz.ntmps28 rfl ?_
  have W : Walk Tryz.prog TT 28 _ := Walk.of TT_ok Tryz.func28 Tryz.results28
  have e : (0 : Int) < (dig a).length ↔ a ≠ 0 := by rw [len_nil, ne_eq, dig_nil]
  refine sp W 0 rfl rfl rfl (fun h1 => ?_) (fun h1 => ?_)
  · refine rp W 0 rfl rfl rfl (.agg ⟨.pr (by rw [e]; exact ⟨fun h => ⟨h1, h⟩, fun h => h.2⟩), .refl, .refl, trivial⟩)
  · refine rp W 0 rfl rfl rfl (.agg ⟨.no (fun h => h1 h.1), .refl, .refl, trivial⟩)
theorem band_mask {k : Nat} {n : Int} (hk : k ≤ 62) (h0 : 0 ≤ n) (h1 : n ≤ 9223372036854775807) : band .i64 n (2 ^ k - 1) = n % 2 ^ k := by
  obtain ⟨m, rfl⟩ : ∃ m : Nat, n = m := ⟨n.toNat, by omega⟩
  have hp : 2 ^ k ≤ 2 ^ 62 := Nat.pow_le_pow_right (by omega) hk
  have hp0 : 0 < 2 ^ k := Nat.pow_pos (by omega)
  have e0 : ((2 : Int) ^ k - 1) = ((2 ^ k - 1 : Nat) : Int) := by
    have : ((2 ^ k : Nat) : Int) = 2 ^ k := by simp
    omega
  have e3 : (m : Int) % 2 ^ k = ((m % 2 ^ k : Nat) : Int) := by simp
  rw [e0, e3]
  have a1 : (BitVec.ofInt 64 (m : Int)).toNat = m := by rw [BitVec.toNat_ofInt]; omega
  have a2 : (BitVec.ofInt 64 ((2 ^ k - 1 : Nat) : Int)).toNat = 2 ^ k - 1 := by rw [BitVec.toNat_ofInt]; omega
  have e1 : (BitVec.ofInt 64 (m : Int) &&& BitVec.ofInt 64 ((2 ^ k - 1 : Nat) : Int)).toNat = m % 2 ^ k := by
    rw [BitVec.toNat_and, a1, a2]
    exact Nat.and_two_pow_sub_one_eq_mod m k
  have e2 : band .i64 (m : Int) ((2 ^ k - 1 : Nat) : Int) = IntKind.i64.wrap (((BitVec.ofInt 64 (m : Int) &&& BitVec.ofInt 64 ((2 ^ k - 1 : Nat) : Int)).toNat : Nat) : Int) := rfl
  have hm : m % 2 ^ k ≤ m := Nat.mod_le _ _
  rw [e2, e1, wrap_id (k := .i64) (C := -9223372036854775808 ≤ ((m % 2 ^ k : Nat) : Int) ∧ ((m % 2 ^ k : Nat) : Int) ≤ 9223372036854775807) rfl (by omega)]
/-- The parts of a float from 0 on: the number, the power in the least float's units. -/
def fsz (F n : Nat) : Nat := if n < 2 ^ F then n else 2 ^ F + n % 2 ^ F
def fpw (F n : Nat) : Nat := n / 2 ^ F - 1
theorem fv_eq (F n : Nat) : fv F n = fsz F n * 2 ^ fpw F n := by
  unfold fv fsz fpw
  by_cases h : n < 2 ^ F
  · rw [if_pos h, if_pos h, Nat.div_eq_of_lt h]; simp
  · rw [if_neg h, if_neg h]
theorem fsz_lt (F n : Nat) : fsz F n < 2 ^ (F + 1) := by
  have := Nat.mod_lt n (Nat.pow_pos (n := F) (show 0 < 2 by omega))
  unfold fsz; rw [Nat.pow_succ]; split <;> omega
end Pf
/- The float of parts -/
namespace Pf
open Go Go.Proofs
theorem bor_add2 {r : Nat} {a c : Int} (hr : r ≤ 62) (h0 : 0 ≤ a) (h1 : a < 2 ^ r) (h2 : 0 ≤ c) (h3 : a + 2 ^ r * c ≤ 9223372036854775807) : bor .i64 (2 ^ r * c) a = a + 2 ^ r * c := by
  obtain ⟨m, rfl⟩ : ∃ m : Nat, a = m := ⟨a.toNat, by omega⟩
  obtain ⟨n, rfl⟩ : ∃ n : Nat, c = n := ⟨c.toNat, by omega⟩
  have e2 : (2 : Int) ^ r * n = ((2 ^ r * n : Nat) : Int) := by simp
  have h1' : m < 2 ^ r := by
    have : ((m : Nat) : Int) < ((2 ^ r : Nat) : Int) := by simpa using h1
    omega
  rw [e2] at h3 ⊢
  have key2 : 2 ^ r * n ||| m = 2 ^ r * n + m := (Nat.two_pow_add_eq_or_of_lt h1' n).symm
  have a1 : (BitVec.ofInt 64 (m : Int)).toNat = m := by rw [BitVec.toNat_ofInt]; omega
  have a2 : (BitVec.ofInt 64 ((2 ^ r * n : Nat) : Int)).toNat = 2 ^ r * n := by rw [BitVec.toNat_ofInt]; omega
  have e' : bor .i64 ((2 ^ r * n : Nat) : Int) (m : Int) = IntKind.i64.wrap (((BitVec.ofInt 64 ((2 ^ r * n : Nat) : Int) ||| BitVec.ofInt 64 (m : Int)).toNat : Nat) : Int) := rfl
  rw [e', BitVec.toNat_or, a1, a2, key2, wrap_id (k := .i64) (C := -9223372036854775808 ≤ ((2 ^ r * n + m : Nat) : Int) ∧ ((2 ^ r * n + m : Nat) : Int) ≤ 9223372036854775807) rfl (by omega)]
  omega
theorem mod_sum {S e n : Nat} (h0 : S ≤ n) (h1 : n < 2 * S) : ((n % S : Nat) : Int) + S * ((e : Int) + 1) = ((e * S + n : Nat) : Int) := by
  have h2 : n % S = n - S := by rw [Nat.mod_eq_sub_mod h0, Nat.mod_eq_of_lt (by omega)]
  rw [h2, Int.mul_add, Int.mul_one, Int.natCast_add, Int.natCast_mul, Int.mul_comm]
  omega
end Pf
/- The value of a float -/
namespace Pf
open Go Go.Proofs
/-- The value of a float. -/
noncomputable def vl (w n : Int) : Rat := mkRat (sg (n < 0) (fv (fF w) n.natAbs)) (2 ^ fK w)
theorem two_nz (k : Nat) : 2 ^ k ≠ 0 := Nat.pos_iff_ne_zero.1 (Nat.pow_pos (by omega))
theorem sg_zero (p : Prop) : sg p 0 = 0 := by unfold sg; split <;> rfl
theorem frF_low {p : Prop} {a b : Nat} {r : Rat} (hb : b ≠ 0) (h : mkRat (sg p a) b = r) : frF (p ∧ a ≠ 0) (lT a b) (lB a b) = frR r := by
  obtain ⟨h1, h2, h3⟩ := mkRat_parts p a b hb
  rw [h] at h1 h2 h3
  unfold frR
  rw [h1, h2, propext h3]
theorem vl_parts {w n : Int} {s e : Nat} (hs : fv (fF w) n.natAbs = s * 2 ^ e) (h : fK w ≤ e) : mkRat (sg (n < 0) (s * 2 ^ (e - fK w))) 1 = vl w n := by
  unfold vl
  rw [hs, show 2 ^ e = 2 ^ (e - fK w) * 2 ^ fK w by rw [← Nat.pow_add]; congr 1; omega, ← Nat.mul_assoc, sg_mul_nat _ (s * 2 ^ (e - fK w))]
  have := Rat.mkRat_mul_right (n := sg (n < 0) (s * 2 ^ (e - fK w))) (d := 1) (two_nz (fK w))
  rw [Nat.one_mul] at this
  exact this.symm
theorem vl_parts2 {w n : Int} {s e : Nat} (hs : fv (fF w) n.natAbs = s * 2 ^ e) (h : e ≤ fK w) : mkRat (sg (n < 0) s) (2 ^ (fK w - e)) = vl w n := by
  unfold vl
  rw [hs, sg_mul_nat]
  conv => rhs; rw [show 2 ^ fK w = 2 ^ (fK w - e) * 2 ^ e by rw [← Nat.pow_add]; congr 1; omega]
  exact (Rat.mkRat_mul_right (two_nz _)).symm
theorem fpw_le {F G n : Nat} (h : n < (2 * G + 1) * 2 ^ F) : fpw F n ≤ 2 * G := by
  unfold fpw
  have : n / 2 ^ F < 2 * G + 1 := (Nat.div_lt_iff_lt_mul (Nat.pow_pos (by omega))).2 h
  omega
theorem dig_pow_len (k n : Nat) (h : k < 16 * n) : (dig (2 ^ k)).length ≤ n := by
  rw [dig_len_le, show (65536 : Nat) ^ n = (2 ^ 16) ^ n from rfl, ← Nat.pow_mul]
  exact Nat.pow_lt_pow_right (by omega) h
theorem lT_one (a : Nat) : lT a 1 = dig a ∧ lB a 1 = [1] := by
  unfold lT lB
  rw [Nat.gcd_one_right, Nat.div_one, Nat.div_one, dig_one]
  exact ⟨rfl, rfl⟩
/-- 1, in memory that is not frozen, times a power of two. -/
theorem natShift1_m (k : Nat) (hk : k ≤ 1000000) : AFunM Tryz.prog 68 [.sl 0 0 0 1, .int .i64 k] [.ints 0 .i64 [1]] (fun u blks => u = .fi .i64 (dig (2 ^ k)) ∧ blks = [.ints 0 .i64 [1]]) := by
  refine afun_of Tryz.func68 Tryz.call68 rfl Tryz.ntmps68 rfl ?_
  have W : Walk Tryz.prog TT 68 _ := Walk.of TT_ok Tryz.func68 Tryz.results68
  refine sp W 0 rfl rfl rfl (fun h => ?_) (fun h => ?_)
  · exfalso; omega
  have eL : ((k : Int) / 16 + ((1 : Nat) : Int) + 1) = ((k / 16 + 2 : Nat) : Int) := by omega
  refine lp W 0 (σ := Nat × List Int) (fun s => [(1, .int .i64 k), (9, .sl 1 0 0 (k / 16 + 2)), (75, .sl 0 0 0 1), (76, .int .i64 ((1 : Nat) : Int)), (77, .int .i64 s.1)]) (fun s => [.ints 0 .i64 [1], .ints 0 .i64 s.2]) (fun s => 1 - s.1)
    (fun s => (s.1 = 0 ∧ s.2 = List.replicate (k / 16 + 2) 0) ∨ (s.1 = 1 ∧ s.2.length = k / 16 + 2 ∧ Dgs s.2 ∧ val s.2 = ((2 ^ k : Nat) : Int)))
    (0, List.replicate (k / 16 + 2) 0) [1, 9, 75, 76, 77] rfl (by rw [eL]; rfl) (by rw [eL]; rfl) (.inl ⟨rfl, rfl⟩) ?_ (hc := by simp only [AllC, true_and]; omega)
  rintro ⟨i, l⟩ hs ih
  dsimp only at hs ih ⊢
  refine sp W 0 rfl rfl rfl (fun h1 => ?_) (fun h1 => ?_)
  · rcases hs with ⟨rfl, rfl⟩ | ⟨rfl, _⟩
    · have hr : k % 16 < 16 := Nat.mod_lt _ (by omega)
      have hbits : (IntKind.i64.bits : Int) = 64 := rfl
      obtain ⟨r1, r2⟩ := (by decide : ∀ r, r < 16 → (1 : Int) ≤ 2 ^ r ∧ (2 : Int) ^ r ≤ 32768) (k % 16) hr
      have eq1 : ((k : Int) / 16 + ((0 : Nat) : Int)).toNat = k / 16 := by omega
      have eq2 : ((k : Int) / 16 + ((0 : Nat) : Int) + 1).toNat = k / 16 + 1 := by omega
      have eq3 : ((k : Int) % 16).toNat = k % 16 := by omega
      have eb : band .i64 (1 * 2 ^ (k % 16)) 65535 = 2 ^ (k % 16) := by
        rw [Int.one_mul, band_low (by omega) (by omega)]; omega
      have g0 : ∀ j, (List.replicate (k / 16 + 2) (0 : Int)).getD j 0 = 0 := fun j => by
        rw [List.getD_eq_getElem?_getD, List.getElem?_replicate]; split <;> rfl
      have eo : bor .i64 0 (2 ^ (k % 16)) = 2 ^ (k % 16) := by
        have := (bor_add (r := 0) (a := 0) (c := 2 ^ (k % 16)) (by omega) (by omega) (by simp) (by omega) (by simp only [Int.pow_zero]; omega)).1
        simpa using this
      have ed : (1 : Int) * 2 ^ (k % 16) / 2 ^ 16 = 0 := by
        rw [Int.one_mul, pw16]; exact Int.ediv_eq_zero_of_lt (by omega) (by omega)
      have nx := ih (1, ((List.replicate (k / 16 + 2) (0 : Int)).set (k / 16) (bor .i64 ((List.replicate (k / 16 + 2) (0 : Int)).getD (k / 16) 0) (band .i64 (1 * 2 ^ (k % 16)) 65535))).set (k / 16 + 1) (1 * 2 ^ (k % 16) / 2 ^ 16)) (.inr ⟨rfl, by simp, ?_, ?_⟩) (by dsimp only; omega)
      · refine bk W 2 [1, 9, 75, 76, 77] rfl rfl nx (hc := ?_)
        simp only [AllC, eq1, eq2, eq3, addN, Int.toNat_natCast, true_and, List.length_set, List.length_replicate]
        simp
        omega
      · dsimp only
        rw [g0, eb, eo, ed]
        have hz : Dgs (List.replicate (k / 16 + 2) (0 : Int)) := fun d hd => by have := List.eq_of_mem_replicate hd; omega
        have hz2 : Dgs ((List.replicate (k / 16 + 2) (0 : Int)).set (k / 16) (2 ^ (k % 16))) := hz.set (by omega) (by omega)
        exact hz2.set (by omega) (by omega)
      · dsimp only
        rw [g0, eb, eo, ed, val_set _ _ _ (by simp), val_set _ _ _ (by simp), val_replicate, getD_set _ _ _ _ (by simp), if_neg (by omega), g0, g0, Int.sub_zero, Int.sub_zero, Int.mul_zero, Int.add_zero, Int.zero_add]
        rw [show (65536 : Int) = 2 ^ 16 from rfl, ← Int.pow_mul, ← Int.pow_add, show 16 * (k / 16) + k % 16 = k by omega]
        simp
    · exfalso; omega
  · rcases hs with ⟨rfl, _⟩ | ⟨rfl, hl, hd, hv⟩
    · exfalso; omega
    · refine cf W 0 [1] [] rfl rfl rfl rfl rfl rfl (trim_ok l (by omega)) rfl ?_
      rw [trimL_dig hd, hv, Int.toNat_natCast]
      refine rm W 0 [.ints 0 .i64 [1]] rfl rfl rfl ⟨rfl, trivial⟩ rfl rfl (.fi .i64 (dig (2 ^ k))) rfl (.refl) (⟨rfl, rfl⟩)
end Pf
/- Floats: a fraction's greatest float below -/
namespace Pf
open Go Go.Proofs
theorem bitL_ge {n : Nat} (h : n ≠ 0) : 2 ^ (bitL n - 1) ≤ n := by
  rcases Nat.lt_or_ge n (2 ^ (bitL n - 1)) with h1 | h1
  · have := (bitL_lt (bitL n - 1) n).2 h1
    have : 0 < bitL n := by rw [bitL_pos h]; omega
    omega
  · exact h1
theorem bitL_up (n : Nat) : n < 2 ^ bitL n := (bitL_lt (bitL n) n).1 (Nat.le_refl _)
/-- The first power: the quotient has as many bits as a fraction and one, or one more. -/
theorem first_q {F K a b e : Nat} (ha : a ≠ 0) (hb : b ≠ 0) (he : (e : Int) = max 0 ((bitL a : Int) - bitL b - (F + 1) + K)) :
    a * 2 ^ K / (b * 2 ^ e) < 2 ^ (F + 2) ∧ (e = 0 ∨ 2 ^ F ≤ a * 2 ^ K / (b * 2 ^ e)) := by
  have a1 := bitL_ge ha
  have a2 := bitL_up a
  have b1 := bitL_ge hb
  have b2 := bitL_up b
  have ha0 : 0 < bitL a := by rw [bitL_pos ha]; omega
  have hb0 : 0 < bitL b := by rw [bitL_pos hb]; omega
  have hp : 0 < b * 2 ^ e := Nat.mul_pos (by omega) (Nat.pow_pos (by omega))
  constructor
  · refine Nat.div_lt_of_lt_mul ?_
    calc a * 2 ^ K < 2 ^ bitL a * 2 ^ K := Nat.mul_lt_mul_of_pos_right a2 (Nat.pow_pos (by omega))
      _ = 2 ^ (bitL a + K) := (Nat.pow_add ..).symm
      _ ≤ 2 ^ (bitL b - 1 + e + (F + 2)) := Nat.pow_le_pow_right (by omega) (by omega)
      _ = 2 ^ (bitL b - 1) * 2 ^ e * 2 ^ (F + 2) := by rw [Nat.pow_add, Nat.pow_add]
      _ ≤ b * 2 ^ e * 2 ^ (F + 2) := Nat.mul_le_mul_right _ (Nat.mul_le_mul_right _ b1)
  · by_cases h0 : e = 0
    · exact .inl h0
    · right
      rw [Nat.le_div_iff_mul_le hp]
      calc 2 ^ F * (b * 2 ^ e) ≤ 2 ^ F * (2 ^ bitL b * 2 ^ e) := Nat.mul_le_mul_left _ (Nat.mul_le_mul_right _ (Nat.le_of_lt b2))
        _ = 2 ^ (F + bitL b + e) := by rw [Nat.pow_add, Nat.pow_add, Nat.mul_assoc]
        _ ≤ 2 ^ (bitL a - 1 + K) := Nat.pow_le_pow_right (by omega) (by omega)
        _ = 2 ^ (bitL a - 1) * 2 ^ K := Nat.pow_add ..
        _ ≤ a * 2 ^ K := Nat.mul_le_mul_right _ a1
/-- One bit less. -/
theorem half_q {A b e : Nat} (hb : 0 < b) : A / (b * 2 ^ (e + 1)) = A / (b * 2 ^ e) / 2 ∧ (A % (b * 2 ^ (e + 1)) = 0 ↔ A % (b * 2 ^ e) = 0 ∧ A / (b * 2 ^ e) % 2 = 0) := by
  have hp : 0 < b * 2 ^ e := Nat.mul_pos hb (Nat.pow_pos (by omega))
  have e1 : b * 2 ^ (e + 1) = b * 2 ^ e * 2 := by rw [Nat.pow_succ, Nat.mul_assoc]
  rw [e1]
  generalize b * 2 ^ e = m at *
  refine ⟨(Nat.div_div_eq_div_mul A m 2).symm, ?_⟩
  rw [Nat.mod_mul]
  constructor
  · intro h
    have h1 : A % m = 0 := by omega
    have h2 : m * (A / m % 2) = 0 := by omega
    rcases Nat.mul_eq_zero.1 h2 with h3 | h3
    · omega
    · exact ⟨h1, h3⟩
  · rintro ⟨h1, h2⟩
    rw [h1, h2, Nat.mul_zero]
theorem shl_down {a b K e : Nat} (h : e ≤ K) : a * 2 ^ (K - e) / b = a * 2 ^ K / (b * 2 ^ e) ∧ (a * 2 ^ (K - e) % b = 0 ↔ a * 2 ^ K % (b * 2 ^ e) = 0) := by
  have e1 : a * 2 ^ K = a * 2 ^ (K - e) * 2 ^ e := by rw [Nat.mul_assoc, ← Nat.pow_add]; congr 2; omega
  have hp : 0 < 2 ^ e := Nat.pow_pos (by omega)
  rw [e1]
  refine ⟨(Nat.mul_div_mul_right _ _ hp).symm, ?_⟩
  rw [Nat.mul_mod_mul_right]
  constructor
  · intro h; rw [h, Nat.zero_mul]
  · intro h; rcases Nat.mul_eq_zero.1 h with h | h
    · exact h
    · omega
theorem shl_up {a b K e : Nat} (h : K ≤ e) : a / (b * 2 ^ (e - K)) = a * 2 ^ K / (b * 2 ^ e) ∧ (a % (b * 2 ^ (e - K)) = 0 ↔ a * 2 ^ K % (b * 2 ^ e) = 0) := by
  have e1 : b * 2 ^ e = b * 2 ^ (e - K) * 2 ^ K := by rw [Nat.mul_assoc, ← Nat.pow_add]; congr 2; omega
  have hp : 0 < 2 ^ K := Nat.pow_pos (by omega)
  rw [e1]
  refine ⟨(Nat.mul_div_mul_right _ _ hp).symm, ?_⟩
  rw [Nat.mul_mod_mul_right]
  constructor
  · intro h; rw [h, Nat.zero_mul]
  · intro h; rcases Nat.mul_eq_zero.1 h with h | h
    · exact h
    · omega
theorem tvN_zero (w : Int) (b : Nat) : tvN w 0 b = 0 ∧ teN w 0 b := by
  have h : tvN w 0 b = 0 := by
    have hs := fv_step (fF w) 0
    unfold tvN
    rw [Nat.zero_mul, Nat.zero_div]
    exact trn_eq (Nat.zero_le _) (by rw [fv_zero]; exact Nat.le_refl _) (.inr (by omega))
  refine ⟨h, ?_⟩
  unfold teN
  rw [h, fv_zero, Nat.zero_mul, Nat.zero_mul]
theorem bor_addU {r : Nat} {a c : Int} (hr : r ≤ 62) (h0 : 0 ≤ a) (h1 : a < 2 ^ r) (h2 : 0 ≤ c) (h3 : a + c * 2 ^ r ≤ 9223372036854775807) : bor .u64 a (c * 2 ^ r) = a + c * 2 ^ r := by
  obtain ⟨m, rfl⟩ : ∃ m : Nat, a = m := ⟨a.toNat, by omega⟩
  obtain ⟨n, rfl⟩ : ∃ n : Nat, c = n := ⟨c.toNat, by omega⟩
  have e2 : (n : Int) * 2 ^ r = ((2 ^ r * n : Nat) : Int) := by rw [Int.mul_comm]; simp
  have h1' : m < 2 ^ r := by
    have : ((m : Nat) : Int) < ((2 ^ r : Nat) : Int) := by simpa using h1
    omega
  rw [e2] at h3 ⊢
  have key : m ||| 2 ^ r * n = 2 ^ r * n + m := by rw [Nat.or_comm]; exact (Nat.two_pow_add_eq_or_of_lt h1' n).symm
  have a1 : (BitVec.ofInt 64 (m : Int)).toNat = m := by rw [BitVec.toNat_ofInt]; omega
  have a2 : (BitVec.ofInt 64 ((2 ^ r * n : Nat) : Int)).toNat = 2 ^ r * n := by rw [BitVec.toNat_ofInt]; omega
  have e : bor .u64 (m : Int) ((2 ^ r * n : Nat) : Int) = IntKind.u64.wrap (((BitVec.ofInt 64 (m : Int) ||| BitVec.ofInt 64 ((2 ^ r * n : Nat) : Int)).toNat : Nat) : Int) := rfl
  rw [e, BitVec.toNat_or, a1, a2, key, wrapU]
  omega
theorem take_le {Q i : Nat} : val ((dig Q).take i) ≤ Q := by
  have h1 := val_split (dig Q) (min i (dig Q).length) (Nat.min_le_right _ _)
  rw [val_dig, List.take_eq_take_min.symm] at h1
  have h2 := val_nonneg ((dig_dgs Q).drop (min i (dig Q).length))
  have h3 := Int.mul_nonneg (show (0 : Int) ≤ 65536 ^ (min i (dig Q).length) from Int.pow_nonneg (by omega)) h2
  omega
theorem low_dig (q : Nat) : band .i64 ((dig q).getD (Int.toNat 0) 0) 1 = ((q % 2 : Nat) : Int) := by
  have g0 : (dig q).getD 0 0 = ((q % 65536 : Nat) : Int) := by rw [dig_get]; simp
  have g1 := (dig_dgs q).get 0
  have := band_mask (k := 1) (n := (dig q).getD 0 0) (by omega) (by omega) (by omega)
  rw [show (1 : Int) = 2 ^ 1 - 1 from rfl, show Int.toNat 0 = 0 from rfl, this, g0, pw1]; omega
theorem tvN_as {w : Int} {a b A F K T : Nat} (hF : fF w = F) (hK : fK w = K) (hT : fT w = T) (hA : a * 2 ^ K = A) : tvN w a b = trn F T (A / b) ∧ (teN w a b ↔ fv F (trn F T (A / b)) * b = A) := by
  subst hF; subst hK; subst hT; subst hA
  exact ⟨rfl, Iff.rfl⟩
end Pf
/- Floats: around a fraction -/
namespace Pf
open Go Go.Proofs
theorem dn_yes {w : Int} {r : Rat} (h : r < 0) : dn w r = -(nx w r : Int) ∧ up w r = -(tv w r : Int) := ⟨if_pos h, if_pos h⟩
theorem dn_no {w : Int} {r : Rat} (h : ¬ r < 0) : dn w r = tv w r ∧ up w r = nx w r := ⟨if_neg h, if_neg h⟩
theorem nx_yes {w : Int} {r : Rat} (h : te w r) : nx w r = tv w r := if_pos h
theorem nx_no {w : Int} {r : Rat} (h : ¬ te w r) : nx w r = tv w r + 1 := if_neg h
/-- Not too many digits. -/
def mid (r : Rat) : Prop := (dt r).length ≤ 1000 ∧ (db r).length ≤ 1000
end Pf
/- Floats: the model's parts and quotients -/
namespace Pf
open Go Go.Proofs
end Pf
/- Floats: the model's values -/
namespace Pf
open Go Go.Proofs
end Pf
/- Floats: the model's roundings -/
namespace Pf
open Go Go.Proofs
theorem rat_lt {p : Prop} {a b : Nat} {r : Rat} (hb : b ≠ 0) (h : mkRat (sg p a) b = r) : (p ∧ a ≠ 0) ↔ r < 0 := by
  have := (mkRat_parts p a b hb).2.2
  rwa [h] at this
theorem rat_zero {p : Prop} {a b : Nat} {r : Rat} (hb : b ≠ 0) (h : mkRat (sg p a) b = r) (h0 : a = 0) : r = 0 := by
  subst h0; rw [← h, sg_zero]; exact Rat.zero_mkRat b
theorem round_p {w : Int} {p : Prop} {a b : Nat} {r : Rat} (hb : b ≠ 0) (h : mkRat (sg p a) b = r) : (p → dn w r = -(nx w r : Int) ∧ up w r = -(tv w r : Int)) ∧ (¬ p → dn w r = tv w r ∧ up w r = nx w r) := by
  have hlt := rat_lt hb h
  refine ⟨fun hp => ?_, fun hp => dn_no (fun k => hp (hlt.2 k).1)⟩
  by_cases h0 : a = 0
  · have hr := rat_zero hb h h0
    subst hr
    obtain ⟨z1, z2⟩ := te_zero w
    obtain ⟨d1, d2⟩ := dn_zero w
    rw [d1, d2, nx_yes z2, z1]
    exact ⟨rfl, rfl⟩
  · exact dn_yes (hlt.1 ⟨hp, h0⟩)
end Pf
/- Equality of spans -/
namespace Pf
open Go Go.Proofs
theorem part_bool (cs : Array Value) (o : Nat) (v : Value) (h : cs[o]? = some v) (w : World) : (part 4 cs o).run Tryz.prog w = .ok v w := by
  simp [part, isAgg, run_underlying Tryz.underlying4, h]
theorem part_int (cs : Array Value) (o : Nat) (v : Value) (h : cs[o]? = some v) (w : World) : (part 3 cs o).run Tryz.prog w = .ok v w := by
  simp [part, isAgg, run_underlying Tryz.underlying3, h]
end Pf
/- A span compared with the empty one -/
namespace Pf
open Go Go.Proofs
/-- Spans: whether there is one, its bounds. -/
def spV (s : Prop) (lo hi : Int) : AV := .agg [.pr s, .int .i64 lo, .int .i64 hi]
def spanOk (w : Int) (s : Prop) (lo hi : Int) : Prop := (w = 32 ∨ w = 64) ∧ ((s ∧ pairOk w lo hi) ∨ (¬ s ∧ lo = 0 ∧ hi = 0))
theorem vr_agg3 {FM : FMem} {β : BMap} {u v w : AV} {c : Value} (h : VR FM β (.agg [u, v, w]) c) : ∃ a b d, c = .agg #[a, b, d] ∧ VR FM β u a ∧ VR FM β v b ∧ VR FM β w d := by
  cases h with
  | agg h1 hv =>
    rename_i xs
    have hs : xs.size = 3 := by simpa using h1.symm
    refine ⟨xs.getD 0 undef, xs.getD 1 undef, xs.getD 2 undef, ?_, hv 0 (by simp), hv 1 (by simp), hv 2 (by simp)⟩
    congr 1
    refine Array.ext (by simp [hs]) fun i h1 h2 => ?_
    rcases (by omega : i = 0 ∨ i = 1 ∨ i = 2) with rfl | rfl | rfl <;> simp [Array.getD, hs]
end Pf
/- Spans: which are ok -/
namespace Pf
open Go Go.Proofs
theorem pairOk_w {w lo hi : Int} (h : pairOk w lo hi) : w = 32 ∨ w = 64 := h.1.1
end Pf
/- Spans: full ones, the other sign -/
namespace Pf
open Go Go.Proofs
/-- A span that is ok and not empty. -/
def fullS (w : Int) (a : Prop × Int × Int) : Prop := a.1 ∧ pairOk w a.2.1 a.2.2
theorem fullS_iff {w : Int} {a : Prop × Int × Int} : fullS w a ↔ a.1 ∧ spanOk w a.1 a.2.1 a.2.2 :=
  ⟨fun h => ⟨h.1, pairOk_w h.2, .inl h⟩, fun h => ⟨h.1, (h.2.2.resolve_right (fun k => k.1 h.1)).2⟩⟩
abbrev spA (x : Prop × Int × Int) : AV := spV x.1 x.2.1 x.2.2
abbrev noS : Prop × Int × Int := (False, 0, 0)
open Classical in
noncomputable def negS' (w : Int) (x : Prop × Int × Int) : Prop × Int × Int := if fullS w x then (True, -x.2.2, -x.2.1) else noS
theorem sub_noS : Sub (.agg [.bool false, .int .i64 0, .int .i64 0]) (spA noS) := .agg ⟨.no id, .refl, .refl, trivial⟩
end Pf
/- Spans: impl's hulls and meets -/
namespace Pf
open Go Go.Proofs
def spR (x : Prop × Int × Int) : List AV := [.pr x.1, .int .i64 x.2.1, .int .i64 x.2.2]
open Classical in
/-- The least span around both. -/
noncomputable def hullS (w : Int) (x y : Prop × Int × Int) : Prop × Int × Int :=
  if spanOk w x.1 x.2.1 x.2.2 ∧ spanOk w y.1 y.2.1 y.2.2 then (if x.1 then (if y.1 then (True, min x.2.1 y.2.1, max x.2.2 y.2.2) else x) else y) else noS
open Classical in
/-- What both spans have. -/
noncomputable def meetS (w : Int) (x y : Prop × Int × Int) : Prop × Int × Int :=
  if fullS w x ∧ fullS w y ∧ pairOk w (max x.2.1 y.2.1) (min x.2.2 y.2.2) then (True, max x.2.1 y.2.1, min x.2.2 y.2.2) else noS
end Pf
/- Bounds: limitOf -/
namespace Pf
open Go Go.Proofs
/-- A bound: none (of a sign), or a number. -/
noncomputable def limV (l : Int × Rat) : AV := if l.1 = 0 then .agg [.int .i64 0, .pr (l.2 < 0), .fi .i64 (dt l.2), .fi .i64 (db l.2)] else .agg [.int .i64 l.1, .pr False, .fi .i64 [], .fi .i64 []]
noncomputable def limW (w n : Int) : Int × Rat := if n = top w then (1, 0) else if n = -top w then (-1, 0) else (0, vl w n)
end Pf
/- impl's arithmetic of fractions as Rat -/
namespace Pf
open Go Go.Proofs
theorem mk_R (r : Rat) : mkRat (sg (r < 0) r.num.natAbs) r.den = r := by rw [sg_num]; exact Rat.mkRat_self r
theorem mulR_ok (r s : Rat) (hr : mid r) (hs : mid s) : AFunP Tryz.prog 34 [frR r, frR s] (· = frR (r * s)) := by
  have k := mul_ok (r < 0) (s < 0) r.num.natAbs r.den s.num.natAbs s.den r.den_nz s.den_nz hr.1 hr.2 hs.1 hs.2
  have e := frF_low (p := ¬ (r < 0 ↔ s < 0)) (a := r.num.natAbs * s.num.natAbs) (b := r.den * s.den) (r := r * s) (Nat.mul_ne_zero r.den_nz s.den_nz) (by
    rw [sg_mul, ← Rat.mkRat_mul_mkRat, mk_R, mk_R])
  rw [lT, lB] at e
  rw [e] at k
  exact k
theorem signR_ok (r : Rat) (hr : mid r) : AFunP Tryz.prog 41 [frR r] (· = .int .i64 (fsgn (r < 0) (dt r))) := sign_ok (r < 0) (dt r) (db r) (by have := hr.1; omega)
end Pf
/- Bounds: sign, floats -/
namespace Pf
open Go Go.Proofs
theorem limV_fin (r : Rat) : limV (0, r) = .agg [.int .i64 0, .pr (r < 0), .fi .i64 (dt r), .fi .i64 (db r)] := rfl
theorem limV_inf {i : Int} (h : i ≠ 0) (r : Rat) : limV (i, r) = .agg [.int .i64 i, .pr False, .fi .i64 [], .fi .i64 []] := if_neg h
theorem limV_eq (l : Int × Rat) : limV l = .agg [.int .i64 l.1, .pr (l.1 = 0 ∧ l.2 < 0), .fi .i64 (if l.1 = 0 then dt l.2 else []), .fi .i64 (if l.1 = 0 then db l.2 else [])] := by
  unfold limV
  by_cases h : l.1 = 0 <;> simp [h]
noncomputable def lsgn (l : Int × Rat) : Int := if l.1 = 0 then fsgn (l.2 < 0) (dt l.2) else l.1
noncomputable def lflo (w : Int) (l : Int × Rat) : Int × Int := if l.1 = 0 then (dn w l.2, up w l.2) else (l.1 * top w, l.1 * top w)
end Pf
/- Bounds: times -/
namespace Pf
open Go Go.Proofs
theorem lsgn_cases (l : Int × Rat) (h2 : -1 ≤ l.1 ∧ l.1 ≤ 1) : lsgn l = -1 ∨ lsgn l = 0 ∨ lsgn l = 1 := by
  unfold lsgn fsgn
  split <;> (try split) <;> (try split) <;> omega
theorem lsgn_mul (l m : Int × Rat) (h2 : -1 ≤ l.1 ∧ l.1 ≤ 1) (h3 : -1 ≤ m.1 ∧ m.1 ≤ 1) : -1 ≤ lsgn l * lsgn m ∧ lsgn l * lsgn m ≤ 1 := by
  rcases lsgn_cases l h2 with h | h | h <;> rcases lsgn_cases m h3 with k | k | k <;> rw [h, k] <;> decide
theorem zeroR : frR 0 = frF False [] [1] := by
  have h := frF_low (p := False) (a := 0) (b := 1) (r := 0) (by decide) (by rw [sg_zero]; exact Rat.zero_mkRat 1)
  rw [← h]
  have e : lT 0 1 = [] := by rw [(lT_one 0).1]; exact dig_nil.2 rfl
  rw [e, (lT_one 0).2]
  congr 1
  simp
theorem whole0_ok : AFunP Tryz.prog 28 [.bool false, .nils] (· = frF False [] [1]) := by
  refine afun_of Tryz.func28 Tryz.call28 rfl Tryz.ntmps28 rfl ?_
  have W : Walk Tryz.prog TT 28 _ := Walk.of TT_ok Tryz.func28 Tryz.results28
  refine rp W 0 rfl rfl rfl (.agg ⟨.no id, .nils_fi, .refl, trivial⟩)
theorem limV_zero : limV (0, 0) = .agg [.int .i64 0, .pr False, .fi .i64 [], .fi .i64 [1]] := by
  rw [limV_fin]
  have h := zeroR
  unfold frR frF at h
  injection h with h
  injection h with h1 h2
  injection h2 with h2 h3
  injection h3 with h3 h4
  rw [h1, h2, h3]
noncomputable def ltimes (l m : Int × Rat) : Int × Rat := if l.1 = 0 ∧ m.1 = 0 then (0, l.2 * m.2) else (lsgn l * lsgn m, 0)
end Pf
/- Bounds: by -/
namespace Pf
open Go Go.Proofs
noncomputable def lby (l m : Int × Rat) : Int × Rat := if m.1 ≠ 0 then (0, 0) else if l.1 ≠ 0 then (l.1, 0) else (0, l.2 / m.2)
end Pf
/- Bounds: the closure of SpanAdd -/
namespace Pf
open Go Go.Proofs
noncomputable def ladd (l m : Int × Rat) : Int × Rat := if l.1 ≠ 0 then (l.1, 0) else if m.1 ≠ 0 then (m.1, 0) else (0, l.2 + m.2)
end Pf
/- The number of a float has not too many digits -/
namespace Pf
open Go Go.Proofs
theorem dig_mono {a b n : Nat} (h : a ≤ b) (hb : (dig b).length ≤ n) : (dig a).length ≤ n :=
  dig_len_le.2 (Nat.lt_of_le_of_lt h (dig_len_le.1 hb))
theorem mid_vl {w n : Int} (hw : w = 32 ∨ w = 64) (h : n.natAbs < fT w) : mid (vl w n) := by
  have hs : (dig (fsz (fF w) n.natAbs)).length ≤ 4 := by
    have h1 := fsz_lt (fF w) n.natAbs
    refine dig_len_le.2 (Nat.lt_of_lt_of_le h1 ?_)
    rcases hw with rfl | rfl <;> decide
  have hp : fpw (fF w) n.natAbs < 16 * 200 := by
    have h2 := fpw_le h
    have hG : fG w ≤ 1023 := by rcases hw with rfl | rfl <;> decide
    omega
  have hv : (dig (fv (fF w) n.natAbs)).length ≤ 4 + 200 := by
    rw [fv_eq]
    exact dig_len_mul hs (dig_pow_len _ _ hp)
  have hk : (dig (2 ^ fK w)).length ≤ 200 := dig_pow_len _ _ (by rcases hw with rfl | rfl <;> decide)
  obtain ⟨e1, e2, _⟩ := mkRat_parts (n < 0) (fv (fF w) n.natAbs) (2 ^ fK w) (two_nz _)
  unfold mid vl
  rw [← e1, ← e2]
  have i1 := dig_mono (Nat.div_le_self (fv (fF w) n.natAbs) (Nat.gcd (fv (fF w) n.natAbs) (2 ^ fK w))) hv
  have i2 := dig_mono (Nat.div_le_self (2 ^ fK w) (Nat.gcd (fv (fF w) n.natAbs) (2 ^ fK w))) hk
  exact ⟨Nat.le_trans i1 (by decide), Nat.le_trans i2 (by decide)⟩
theorem limW_mid {w n : Int} (hb : bitOk w n) : (limW w n).1 = 0 → mid (limW w n).2 := by
  have ht := top_fT hb.1
  have h1 := hb.2
  unfold limW
  split
  · intro k; exact absurd k (by decide)
  · split
    · intro k; exact absurd k (by decide)
    · intro _; exact mid_vl hb.1 (by omega)
end Pf
/- Sizes of sums and products -/
namespace Pf
open Go Go.Proofs
/-- Digits at most n. -/
def midN (n : Nat) (r : Rat) : Prop := (dt r).length ≤ n ∧ (db r).length ≤ n
theorem midN_low {p : Prop} {a b n : Nat} {r : Rat} (hb : b ≠ 0) (h : mkRat (sg p a) b = r) (h1 : (dig a).length ≤ n) (h2 : (dig b).length ≤ n) : midN n r := by
  obtain ⟨e1, e2, _⟩ := mkRat_parts p a b hb
  subst h
  unfold midN
  rw [← e1, ← e2]
  exact ⟨dig_mono (Nat.div_le_self _ _) h1, dig_mono (Nat.div_le_self _ _) h2⟩
theorem midN_mul {r s : Rat} {n : Nat} (hr : midN n r) (hs : midN n s) : midN (n + n) (r * s) := by
  refine midN_low (p := ¬ (r < 0 ↔ s < 0)) (Nat.mul_ne_zero r.den_nz s.den_nz) ?_ (dig_len_mul hr.1 hs.1) (dig_len_mul hr.2 hs.2)
  rw [sg_mul, ← Rat.mkRat_mul_mkRat, mk_R, mk_R]
theorem sumT_le (p q : Prop) (x y : Nat) : sumT p q x y ≤ x + y := by
  unfold sumT; split <;> (try split) <;> omega
theorem midN_add {r s : Rat} {n : Nat} (hr : midN n r) (hs : midN n s) : midN (n + n + 1) (r + s) := by
  refine midN_low (p := sumP (r < 0) (s < 0) (r.num.natAbs * s.den) (s.num.natAbs * r.den)) (a := sumT (r < 0) (s < 0) (r.num.natAbs * s.den) (s.num.natAbs * r.den)) (Nat.mul_ne_zero r.den_nz s.den_nz) ?_ ?_ (Nat.le_succ_of_le (dig_len_mul hr.2 hs.2))
  · rw [sg_sum, sg_mul_nat, sg_mul_nat, ← Rat.mkRat_add_mkRat _ _ r.den_nz s.den_nz, mk_R, mk_R]
  · exact dig_mono (sumT_le _ _ _ _) (dig_len_add (dig_len_mul hr.1 hs.2) (dig_len_mul hs.1 hr.2))
theorem vl_midN {w n : Int} (hw : w = 32 ∨ w = 64) (h : n.natAbs < fT w) : midN 204 (vl w n) := by
  have hs : (dig (fsz (fF w) n.natAbs)).length ≤ 4 := by
    have h1 := fsz_lt (fF w) n.natAbs
    refine dig_len_le.2 (Nat.lt_of_lt_of_le h1 ?_)
    rcases hw with rfl | rfl <;> decide
  have hp : fpw (fF w) n.natAbs < 16 * 200 := by
    have h2 := fpw_le h
    have hG : fG w ≤ 1023 := by rcases hw with rfl | rfl <;> decide
    omega
  have hv : (dig (fv (fF w) n.natAbs)).length ≤ 4 + 200 := by
    rw [fv_eq]
    exact dig_len_mul hs (dig_pow_len _ _ hp)
  have hk : (dig (2 ^ fK w)).length ≤ 200 := dig_pow_len _ _ (by rcases hw with rfl | rfl <;> decide)
  obtain ⟨e1, e2, _⟩ := mkRat_parts (n < 0) (fv (fF w) n.natAbs) (2 ^ fK w) (two_nz _)
  unfold midN vl
  rw [← e1, ← e2]
  have i1 := dig_mono (Nat.div_le_self (fv (fF w) n.natAbs) (Nat.gcd (fv (fF w) n.natAbs) (2 ^ fK w))) hv
  have i2 := dig_mono (Nat.div_le_self (2 ^ fK w) (Nat.gcd (fv (fF w) n.natAbs) (2 ^ fK w))) hk
  exact ⟨Nat.le_trans i1 (by decide), Nat.le_trans i2 (by decide)⟩
end Pf
/- Bounds of a sum -/
namespace Pf
open Go Go.Proofs
noncomputable def sumB (w a b : Int) : Int × Int := lflo w (ladd (limW w a) (limW w b))
theorem limW_rng (w n : Int) : -1 ≤ (limW w n).1 ∧ (limW w n).1 ≤ 1 := by
  unfold limW; split <;> (try split) <;> dsimp only <;> omega
theorem ladd_rng {l m : Int × Rat} (h : -1 ≤ l.1 ∧ l.1 ≤ 1) (k : -1 ≤ m.1 ∧ m.1 ≤ 1) : -1 ≤ (ladd l m).1 ∧ (ladd l m).1 ≤ 1 := by
  unfold ladd; split <;> (try split) <;> first | exact h | exact k | (dsimp only; omega)
theorem limW_midN {w n : Int} (hb : bitOk w n) : (limW w n).1 = 0 → midN 204 (limW w n).2 := by
  have ht := top_fT hb.1
  have h1 := hb.2
  unfold limW
  split
  · intro k; exact absurd k (by decide)
  · split
    · intro k; exact absurd k (by decide)
    · intro _; exact vl_midN hb.1 (by omega)
theorem ladd_mid {w a b : Int} (ha : bitOk w a) (hb : bitOk w b) : (ladd (limW w a) (limW w b)).1 = 0 → mid (ladd (limW w a) (limW w b)).2 := by
  have h1 := limW_midN ha
  have h2 := limW_midN hb
  unfold ladd
  split
  · intro k; contradiction
  · split
    · intro k; contradiction
    · rename_i k1 k2
      intro _
      have := midN_add (h1 (Classical.not_not.1 k1)) (h2 (Classical.not_not.1 k2))
      exact ⟨Nat.le_trans this.1 (by decide), Nat.le_trans this.2 (by decide)⟩
end Pf
/- impl's SpanAdd -/
namespace Pf
open Go Go.Proofs
open Classical in
noncomputable def addSp (w : Int) (x y : Prop × Int × Int) : Prop × Int × Int := if fullS w x ∧ fullS w y then (True, (sumB w x.2.1 y.2.1).1, (sumB w x.2.2 y.2.2).2) else noS
end Pf
/- impl's SpanSub -/
namespace Pf
open Go Go.Proofs
end Pf
/- The model's l9Infinite -/
namespace Pf
open Go Go.Proofs
end Pf
/- The model's floats, either width -/
namespace Pf
open Go Go.Proofs
end Pf
/- Bounds of a sum: the three ways -/
namespace Pf
open Go Go.Proofs
theorem sumB_l {w a : Int} (b : Int) (hw : w = 32 ∨ w = 64) (h : a = top w ∨ a = -top w) : sumB w a b = (a, a) := by
  have hp : top w ≠ 0 := by rcases hw with rfl | rfl <;> decide
  unfold sumB limW
  by_cases h1 : a = top w
  · rw [if_pos h1, ladd, if_pos (by decide), lflo, if_neg (by decide)]
    simp [h1]
  · have h2 := h.resolve_left h1
    rw [if_neg h1, if_pos h2, ladd, if_pos (by decide), lflo, if_neg (by decide)]
    simp [h2]
theorem sumB_r {w a b : Int} (hw : w = 32 ∨ w = 64) (h0 : ¬ (a = top w ∨ a = -top w)) (h : b = top w ∨ b = -top w) : sumB w a b = (b, b) := by
  have hl : limW w a = (0, vl w a) := by rw [limW, if_neg (fun k => h0 (.inl k)), if_neg (fun k => h0 (.inr k))]
  unfold sumB
  rw [hl, ladd, if_neg (by simp)]
  unfold limW
  by_cases h1 : b = top w
  · rw [if_pos h1, if_pos (by decide), lflo, if_neg (by decide)]
    simp [h1]
  · have h2 := h.resolve_left h1
    rw [if_neg h1, if_pos h2, if_pos (by decide), lflo, if_neg (by decide)]
    simp [h2]
theorem sumB_f {w a b : Int} (h0 : ¬ (a = top w ∨ a = -top w)) (h : ¬ (b = top w ∨ b = -top w)) : sumB w a b = (dn w (vl w a + vl w b), up w (vl w a + vl w b)) := by
  have hl : limW w a = (0, vl w a) := by rw [limW, if_neg (fun k => h0 (.inl k)), if_neg (fun k => h0 (.inr k))]
  have hm : limW w b = (0, vl w b) := by rw [limW, if_neg (fun k => h (.inl k)), if_neg (fun k => h (.inr k))]
  unfold sumB
  rw [hl, hm, ladd, if_neg (by simp), if_neg (by simp), lflo, if_pos rfl]
end Pf
/- The model's l9Add -/
namespace Pf
open Go Go.Proofs
end Pf
/- The model's SpanAdd, SpanSub -/
namespace Pf
open Go Go.Proofs
end Pf
/- The laws of SpanAdd and SpanSub -/
namespace Pf
open Go Go.Proofs
end Pf
/- Bounds: signs; bounds of a product -/
namespace Pf
open Go Go.Proofs
theorem vl_zero (w : Int) : vl w 0 = 0 := by
  unfold vl
  rw [show (0 : Int).natAbs = 0 from rfl, fv_zero, sg_zero]; exact Rat.zero_mkRat _
theorem fv_pos {F n : Nat} (h : n ≠ 0) : fv F n ≠ 0 := by
  have := fv_lt (F := F) (show 0 < n by omega)
  omega
theorem vl_lt {w n : Int} : vl w n < 0 ↔ n < 0 := by
  unfold vl
  rw [← (mkRat_parts (n < 0) (fv (fF w) n.natAbs) (2 ^ fK w) (two_nz _)).2.2]
  exact ⟨fun h => h.1, fun h => ⟨h, fv_pos (by omega)⟩⟩
theorem vl_pos {w n : Int} : 0 < vl w n ↔ 0 < n := by
  have h := vl_lt (w := w) (n := n)
  by_cases h0 : n = 0
  · subst h0; rw [vl_zero]; exact ⟨fun k => absurd k Rat.lt_irrefl, fun k => absurd k (by omega)⟩
  · by_cases hn : n < 0
    · exact ⟨fun k => absurd (h.2 hn) (Rat.not_lt.2 (Rat.le_of_lt k)), fun k => by omega⟩
    · refine ⟨fun _ => by omega, fun _ => ?_⟩
      have h1 : ¬ vl w n < 0 := fun k => hn (h.1 k)
      refine Rat.lt_of_le_of_ne (Rat.not_lt.1 h1) fun e => ?_
      have e2 : (vl w n).num = 0 := by rw [← e]; rfl
      unfold vl at e2
      rw [Rat.num_mkRat, if_neg (two_nz _)] at e2
      have e3 : dt (vl w n) = [] := dt_nil.2 e.symm
      unfold vl at e3
      rw [← (mkRat_parts (n < 0) (fv (fF w) n.natAbs) (2 ^ fK w) (two_nz _)).1, lT, dig_nil] at e3
      have hp := fv_pos (F := fF w) (n := n.natAbs) (by omega)
      have hg : 0 < (fv (fF w) n.natAbs).gcd (2 ^ fK w) := Nat.gcd_pos_of_pos_left _ (by omega)
      have h5 : 0 < fv (fF w) n.natAbs / (fv (fF w) n.natAbs).gcd (2 ^ fK w) := Nat.div_pos (Nat.gcd_le_left _ (by omega)) hg
      omega
theorem vl_eq0 {w n : Int} : vl w n = 0 ↔ n = 0 := by
  refine ⟨fun h => ?_, fun h => by rw [h, vl_zero]⟩
  have h1 := vl_lt (w := w) (n := n)
  have h2 := vl_pos (w := w) (n := n)
  rw [h] at h1 h2
  have k1 : ¬ n < 0 := fun k => Rat.lt_irrefl (h1.2 k)
  have k2 : ¬ 0 < n := fun k => Rat.lt_irrefl (h2.2 k)
  omega
/-- The sign of a whole number. -/
def sgI (n : Int) : Int := if n < 0 then -1 else if n = 0 then 0 else 1
theorem fsgn_vl (w n : Int) : fsgn (vl w n < 0) (dt (vl w n)) = sgI n := by
  unfold fsgn sgI
  by_cases h : n < 0
  · rw [if_pos (vl_lt.2 h), if_pos h]
  · rw [if_neg (fun k => h (vl_lt.1 k)), if_neg h]
    by_cases h0 : n = 0
    · rw [if_pos (dt_nil.2 (vl_eq0.2 h0)), if_pos h0]
    · rw [if_neg (fun k => h0 (vl_eq0.1 (dt_nil.1 k))), if_neg h0]
theorem top_pos {w : Int} (hw : w = 32 ∨ w = 64) : 0 < top w := by rcases hw with rfl | rfl <;> decide
theorem lsgn_limW {w n : Int} (hw : w = 32 ∨ w = 64) : lsgn (limW w n) = sgI n := by
  have hp := top_pos hw
  unfold lsgn limW
  by_cases h1 : n = top w
  · rw [if_pos h1, if_neg (by decide)]
    unfold sgI; rw [if_neg (by omega), if_neg (by omega)]
  · rw [if_neg h1]
    by_cases h2 : n = -top w
    · rw [if_pos h2, if_neg (by decide)]
      unfold sgI; rw [if_pos (by omega)]
    · rw [if_neg h2, if_pos rfl]
      exact fsgn_vl w n
theorem limW_fin {w n : Int} (h : ¬ (n = top w ∨ n = -top w)) : limW w n = (0, vl w n) := by
  rw [limW, if_neg (fun k => h (.inl k)), if_neg (fun k => h (.inr k))]
theorem limW_inf {w n : Int} (hw : w = 32 ∨ w = 64) (h : n = top w ∨ n = -top w) : limW w n = (sgI n, 0) := by
  have hp := top_pos hw
  unfold limW sgI
  by_cases h1 : n = top w
  · rw [if_pos h1, if_neg (by omega), if_neg (by omega)]
  · rw [if_neg h1, if_pos (h.resolve_left h1), if_pos (by omega)]
noncomputable def mulB (w a b : Int) : Int × Int := lflo w (ltimes (limW w a) (limW w b))
theorem mulB_z {w a b : Int} (hw : w = 32 ∨ w = 64) (h : a = 0 ∨ b = 0) : mulB w a b = (0, 0) := by
  have hp := top_pos hw
  have e : ltimes (limW w a) (limW w b) = (0, 0) := by
    unfold ltimes
    split
    · rename_i k
      have ha : ¬ (a = top w ∨ a = -top w) := fun h1 => by
        have := k.1; rw [limW_inf hw h1] at this
        unfold sgI at this; split at this <;> (try split at this) <;> omega
      have hb : ¬ (b = top w ∨ b = -top w) := fun h1 => by
        have := k.2; rw [limW_inf hw h1] at this
        unfold sgI at this; split at this <;> (try split at this) <;> omega
      rw [limW_fin ha, limW_fin hb]
      rcases h with rfl | rfl
      · rw [vl_zero, Rat.zero_mul]
      · rw [vl_zero, Rat.mul_zero]
    · rw [lsgn_limW hw, lsgn_limW hw]
      rcases h with rfl | rfl
      · rw [show sgI 0 = 0 from rfl, Int.zero_mul]
      · rw [show sgI 0 = 0 from rfl, Int.mul_zero]
  rw [mulB, e, lflo, if_pos rfl, (dn_zero w).1, (dn_zero w).2]
theorem sgI_mul (a b : Int) (ha : a ≠ 0) (hb : b ≠ 0) : sgI a * sgI b = if (a < 0 ↔ b < 0) then 1 else -1 := by
  unfold sgI
  by_cases h1 : a < 0 <;> by_cases h2 : b < 0 <;> simp [h1, h2, ha, hb]
theorem mulB_i {w a b : Int} (hw : w = 32 ∨ w = 64) (ha : a ≠ 0) (hb : b ≠ 0) (h : (a = top w ∨ a = -top w) ∨ (b = top w ∨ b = -top w)) : mulB w a b = if (a < 0 ↔ b < 0) then (top w, top w) else (-top w, -top w) := by
  have e : ltimes (limW w a) (limW w b) = (sgI a * sgI b, 0) := by
    unfold ltimes
    rw [if_neg, lsgn_limW hw, lsgn_limW hw]
    rintro ⟨k1, k2⟩
    rcases h with h | h
    · rw [limW_inf hw h] at k1; unfold sgI at k1; split at k1 <;> (try split at k1) <;> omega
    · rw [limW_inf hw h] at k2; unfold sgI at k2; split at k2 <;> (try split at k2) <;> omega
  rw [mulB, e, lflo, sgI_mul a b ha hb]
  split
  · rw [if_neg (by decide)]; simp
  · rw [if_neg (by decide)]; simp
theorem mulB_f {w a b : Int} (h0 : ¬ (a = top w ∨ a = -top w)) (h : ¬ (b = top w ∨ b = -top w)) : mulB w a b = (dn w (vl w a * vl w b), up w (vl w a * vl w b)) := by
  rw [mulB, limW_fin h0, limW_fin h, ltimes, if_pos ⟨rfl, rfl⟩, lflo, if_pos rfl]
theorem ltimes_mid {w a b : Int} (ha : bitOk w a) (hb : bitOk w b) : (ltimes (limW w a) (limW w b)).1 = 0 → mid (ltimes (limW w a) (limW w b)).2 := by
  have h1 := limW_midN ha
  have h2 := limW_midN hb
  unfold ltimes
  split
  · rename_i k
    intro _
    have := midN_mul (h1 k.1) (h2 k.2)
    exact ⟨Nat.le_trans this.1 (by decide), Nat.le_trans this.2 (by decide)⟩
  · intro _
    dsimp only
    unfold mid dt db
    exact ⟨by rw [show dig (Rat.num 0).natAbs = [] from dig_nil.2 rfl]; decide, by rw [show dig (Rat.den 0) = [1] from dig_one]; decide⟩
theorem ltimes_rng {w a b : Int} : -1 ≤ (ltimes (limW w a) (limW w b)).1 ∧ (ltimes (limW w a) (limW w b)).1 ≤ 1 := by
  unfold ltimes
  split
  · dsimp only; omega
  · exact lsgn_mul _ _ (limW_rng w a) (limW_rng w b)
end Pf
/- Bounds of a quotient; the part above 0 -/
namespace Pf
open Go Go.Proofs
theorem vl_negate (w n : Int) : vl w (-n) = - vl w n := by
  unfold vl
  rw [Rat.neg_mkRat, Int.natAbs_neg]
  congr 1
  by_cases h0 : n = 0
  · subst h0; rw [show (0 : Int).natAbs = 0 from rfl, fv_zero, sg_zero, sg_zero]; rfl
  · by_cases h : n < 0
    · rw [sg_yes h, sg_no (show ¬ -n < 0 by omega), Int.neg_neg]
    · rw [sg_no h, sg_yes (show -n < 0 by omega)]
theorem mkRat_mono {a b : Int} {d : Nat} (hd : d ≠ 0) (h : a ≤ b) : mkRat a d ≤ mkRat b d := by
  rw [Rat.mkRat_eq_div, Rat.mkRat_eq_div, Rat.div_def, Rat.div_def]
  refine Rat.mul_le_mul_of_nonneg_right (Rat.intCast_le_intCast.2 h) (Rat.le_of_lt (Rat.inv_pos.2 ?_))
  rw [Rat.natCast_pos]; omega
theorem vl_mono {w a b : Int} (h : a ≤ b) : vl w a ≤ vl w b := by
  unfold vl
  refine mkRat_mono (two_nz _) ?_
  by_cases ha : a < 0
  · rw [sg_yes ha]
    by_cases hb : b < 0
    · rw [sg_yes hb]
      have := fv_le (F := fF w) (show b.natAbs ≤ a.natAbs by omega)
      omega
    · rw [sg_no hb]; omega
  · rw [sg_no ha, sg_no (show ¬ b < 0 by omega)]
    have := fv_le (F := fF w) (show a.natAbs ≤ b.natAbs by omega)
    omega
noncomputable def quotB (w a c : Int) : Int × Int := lflo w (lby (limW w a) (limW w c))
theorem quotB_z {w a c : Int} (hw : w = 32 ∨ w = 64) (h : a = 0 ∨ (c = top w ∨ c = -top w)) : quotB w a c = (0, 0) := by
  have hp := top_pos hw
  have e : lby (limW w a) (limW w c) = (0, 0) := by
    unfold lby
    by_cases hc : c = top w ∨ c = -top w
    · rw [if_pos]
      rw [limW_inf hw hc]; unfold sgI; dsimp only; split <;> (try split) <;> omega
    · have ha : a = 0 := h.resolve_right hc
      subst ha
      rw [limW_fin hc, limW_fin (w := w) (n := 0) (by omega), if_neg (by simp), if_neg (by simp), vl_zero]
      simp [Rat.div_def, Rat.zero_mul]
  rw [quotB, e, lflo, if_pos rfl, (dn_zero w).1, (dn_zero w).2]
theorem quotB_a {w a c : Int} (hw : w = 32 ∨ w = 64) (h : a = top w ∨ a = -top w) (hc : ¬ (c = top w ∨ c = -top w)) : quotB w a c = (a, a) := by
  have hp := top_pos hw
  have ha := limW_inf hw h
  have hs : sgI a ≠ 0 := by unfold sgI; split <;> (try split) <;> omega
  rw [quotB, limW_fin hc, ha, lby, if_neg (by simp), if_pos hs, lflo, if_neg hs]
  have : sgI a * top w = a := by
    unfold sgI
    rcases h with h | h
    · rw [if_neg (by omega), if_neg (by omega)]; omega
    · rw [if_pos (by omega)]; omega
  dsimp only; rw [this]
theorem quotB_f {w a c : Int} (ha : ¬ (a = top w ∨ a = -top w)) (hc : ¬ (c = top w ∨ c = -top w)) : quotB w a c = (dn w (vl w a / vl w c), up w (vl w a / vl w c)) := by
  rw [quotB, limW_fin hc, limW_fin ha, lby, if_neg (by simp), if_neg (by simp), lflo, if_pos rfl]
theorem quotB_neg {w a c : Int} (hw : w = 32 ∨ w = 64) : quotB w (-a) c = (-(quotB w a c).2, -(quotB w a c).1) := by
  by_cases h1 : a = 0 ∨ (c = top w ∨ c = -top w)
  · rw [quotB_z hw h1, quotB_z hw (h1.imp (by omega) id)]; rfl
  · have h1' := not_or.1 h1
    by_cases h2 : a = top w ∨ a = -top w
    · rw [quotB_a hw h2 h1'.2, quotB_a hw (by omega) h1'.2]
    · rw [quotB_f h2 h1'.2, quotB_f (by omega) h1'.2, vl_negate, Rat.div_def, Rat.neg_mul, ← Rat.div_def, dn_neg, up_neg]
theorem dn_nonneg {w : Int} {r : Rat} (h : 0 ≤ r) : 0 ≤ dn w r ∧ 0 ≤ up w r := by
  unfold dn up
  rw [if_neg (Rat.not_lt.2 h), if_neg (Rat.not_lt.2 h)]
  omega
theorem div_nonneg' {a b : Rat} (ha : 0 ≤ a) (hb : 0 < b) : 0 ≤ a / b := by
  rw [Rat.div_def]; exact Rat.mul_nonneg ha (Rat.le_of_lt (Rat.inv_pos.2 hb))
theorem div_le_div' {a b c d : Rat} (hb : 0 ≤ b) (h : a ≤ b) (hd : 0 < d) (hdc : d ≤ c) : a / c ≤ b / d := by
  have hc : 0 < c := by
    refine Rat.not_le.1 fun k => Rat.not_le.2 hd (Rat.le_trans hdc k)
  refine Rat.not_lt.1 fun k => ?_
  rw [Rat.lt_div_iff hc] at k
  have h1 : b / d * d ≤ b / d * c := Rat.mul_le_mul_of_nonneg_left hdc (div_nonneg' hb hd)
  rw [Rat.div_mul_cancel (Rat.ne_of_gt hd)] at h1
  exact Rat.not_le.2 k (Rat.le_trans h h1)
theorem le0 {w n : Int} (h : 0 ≤ n) : 0 ≤ vl w n := by have := vl_mono (w := w) h; rwa [vl_zero] at this
theorem up_rng' (w : Int) (r : Rat) : -(fT w : Int) < up w r ∧ up w r ≤ fT w := by
  have h := dn_rng w (-r)
  rw [dn_neg] at h
  omega
theorem quotB_rng {w a c : Int} (hb : bitOk w a) : -top w ≤ (quotB w a c).1 ∧ (quotB w a c).2 ≤ top w ∧ (a ≠ top w → (quotB w a c).1 ≠ top w) ∧ (a ≠ -top w → (quotB w a c).2 ≠ -top w) := by
  have hw := hb.1
  have hp := top_pos hw
  have ht := top_fT hw
  have hbr := hb.2
  by_cases h1 : a = 0 ∨ (c = top w ∨ c = -top w)
  · rw [quotB_z hw h1]; dsimp only; omega
  · have h1' := not_or.1 h1
    by_cases h2 : a = top w ∨ a = -top w
    · rw [quotB_a hw h2 h1'.2]; dsimp only; omega
    · rw [quotB_f h2 h1'.2]
      have k1 := dn_rng w (vl w a / vl w c)
      have k2 := up_rng' w (vl w a / vl w c)
      dsimp only
      omega
theorem quotB_nonneg {w a c : Int} (hw : w = 32 ∨ w = 64) (ha : 0 ≤ a) (hc : 0 < c) : 0 ≤ (quotB w a c).1 ∧ 0 ≤ (quotB w a c).2 := by
  by_cases h1 : a = 0 ∨ (c = top w ∨ c = -top w)
  · rw [quotB_z hw h1]; exact ⟨Int.le_refl _, Int.le_refl _⟩
  · have h1' := not_or.1 h1
    by_cases h2 : a = top w ∨ a = -top w
    · rw [quotB_a hw h2 h1'.2]; exact ⟨ha, ha⟩
    · rw [quotB_f h2 h1'.2]
      exact dn_nonneg (div_nonneg' (le0 ha) (vl_pos.2 hc))
theorem quotB_mono {w a b c d : Int} (hb : bitOk w b) (ha : 0 ≤ a) (hab : a ≤ b) (hd : 0 < d) (hdc : d ≤ c) (hc : c ≤ top w) : (quotB w a c).1 ≤ (quotB w b d).2 := by
  have hw := hb.1
  have hp := top_pos hw
  have hbr := hb.2
  have n2 := (quotB_nonneg hw (show 0 ≤ b by omega) hd).2
  by_cases h1 : a = 0 ∨ (c = top w ∨ c = -top w)
  · rw [quotB_z hw h1]; exact n2
  · have h1' := not_or.1 h1
    have hdi : ¬ (d = top w ∨ d = -top w) := by omega
    by_cases h2 : b = top w ∨ b = -top w
    · rw [quotB_a hw h2 hdi]
      have := (quotB_rng (w := w) (a := a) (c := c) ⟨hw, by omega, by omega⟩)
      by_cases h3 : a = top w ∨ a = -top w
      · rw [quotB_a hw h3 h1'.2]; exact hab
      · rw [quotB_f h3 h1'.2]
        have k1 := dn_rng w (vl w a / vl w c)
        have ht := top_fT hw
        dsimp only; omega
    · have h3 : ¬ (a = top w ∨ a = -top w) := by omega
      rw [quotB_f h3 h1'.2, quotB_f h2 hdi]
      exact dn_le_up (div_le_div' (le0 (by omega)) (vl_mono hab) (vl_pos.2 hd) (vl_mono hdc))
open Classical in
/-- All quotients of what the first has by what is above 0 in the second. -/
noncomputable def partS (w : Int) (x y : Prop × Int × Int) : Prop × Int × Int :=
  if y.2.2 ≤ 0 then noS else (True, (if 0 ≤ x.2.1 then (quotB w x.2.1 y.2.2).1 else if 0 < y.2.1 then (quotB w x.2.1 y.2.1).1 else -top w), (if x.2.2 ≤ 0 then (quotB w x.2.2 y.2.2).2 else if 0 < y.2.1 then (quotB w x.2.2 y.2.1).2 else top w))
theorem partS_ok {w : Int} {x y : Prop × Int × Int} (hx : fullS w x) (hy : fullS w y) (h : ¬ y.2.2 ≤ 0) : fullS w (partS w x y) := by
  obtain ⟨sx, a, b⟩ := x
  obtain ⟨sy, c, d⟩ := y
  obtain ⟨-, x1, x2, x3, x4, x5⟩ := hx
  obtain ⟨-, y1, y2, y3, y4, y5⟩ := hy
  have hw := x1.1
  have hp := top_pos hw
  rw [partS, if_neg h]
  dsimp only at *
  have x1r := x1.2
  have x2r := x2.2
  have y1r := y1.2
  have y2r := y2.2
  have r1 := quotB_rng (c := d) x1
  have r2 := quotB_rng (c := c) x1
  have r3 := quotB_rng (c := d) x2
  have r4 := quotB_rng (c := c) x2
  refine ⟨trivial, ?_⟩
  dsimp only
  -- the lower bound is no infinite one above, the upper none below
  have key : ∀ lo hi : Int, lo ≤ hi → -top w ≤ lo → hi ≤ top w → lo ≠ top w → hi ≠ -top w → pairOk w lo hi := fun lo hi k1 k2 k3 k4 k5 => ⟨⟨hw, by omega, by omega⟩, ⟨hw, by omega, by omega⟩, k1, k4, k5⟩
  by_cases ha : 0 ≤ a
  · rw [if_pos ha]
    have n1 := quotB_nonneg (c := d) hw ha (by omega)
    by_cases hb : b ≤ 0
    · have ea : a = 0 := by omega
      have eb : b = 0 := by omega
      rw [if_pos hb, ea, eb, quotB_z hw (.inl rfl)]
      exact key _ _ (by omega) (by omega) (by omega) (by omega) (by omega)
    · rw [if_neg hb]
      by_cases hc : 0 < c
      · rw [if_pos hc]
        have m := quotB_mono x2 ha x3 hc y3 (by omega)
        exact key _ _ m (by omega) (by omega) (by omega) (by omega)
      · rw [if_neg hc]
        refine key _ _ ?_ (by omega) (by omega) (by omega) (by omega)
        have := quotB_mono (w := w) (a := a) (b := top w) (c := d) (d := d) ⟨hw, by omega, by omega⟩ ha (by omega) (by omega) (Int.le_refl _) (by omega)
        have e := (quotB_rng (w := w) (a := top w) (c := d) ⟨hw, by omega, by omega⟩).2.1
        omega
  · rw [if_neg ha]
    by_cases hb : b ≤ 0
    · rw [if_pos hb]
      by_cases hc : 0 < c
      · rw [if_pos hc]
        have m := quotB_mono (w := w) (a := -b) (b := -a) (c := d) (d := c) ⟨hw, by omega, by omega⟩ (by omega) (by omega) hc y3 (by omega)
        rw [quotB_neg hw, quotB_neg hw] at m
        dsimp only at m
        exact key _ _ (by omega) (by omega) (by omega) (by omega) (by omega)
      · rw [if_neg hc]
        have n := quotB_neg (a := b) (c := d) hw
        have n2 := quotB_rng (w := w) (a := -b) (c := d) ⟨hw, by omega, by omega⟩
        rw [n] at n2
        dsimp only at n2
        have m := quotB_mono (w := w) (a := -b) (b := top w) (c := d) (d := d) ⟨hw, by omega, by omega⟩ (by omega) (by omega) (by omega) (Int.le_refl _) (by omega)
        have e := (quotB_rng (w := w) (a := top w) (c := d) ⟨hw, by omega, by omega⟩).2.1
        rw [n] at m
        dsimp only at m
        exact key _ _ (by omega) (by omega) (by omega) (by omega) (by omega)
    · rw [if_neg hb]
      by_cases hc : 0 < c
      · rw [if_pos hc, if_pos hc]
        have n1 := quotB_nonneg (w := w) (a := -a) (c := c) hw (by omega) hc
        rw [quotB_neg hw] at n1
        dsimp only at n1
        have n2 := quotB_nonneg (w := w) (a := b) (c := c) hw (by omega) hc
        exact key _ _ (by omega) (by omega) (by omega) (by omega) (by omega)
      · rw [if_neg hc, if_neg hc]
        exact key _ _ (by omega) (by omega) (by omega) (by omega) (by omega)
theorem partS_neg {w : Int} {x y : Prop × Int × Int} (hx : fullS w x) : partS w (True, -x.2.2, -x.2.1) y = if y.2.2 ≤ 0 then noS else (True, -(partS w x y).2.2, -(partS w x y).2.1) := by
  have hw := hx.2.1.1
  have hp := top_pos hw
  have h3 := hx.2.2.2.1
  by_cases h : y.2.2 ≤ 0
  · rw [if_pos h, partS, if_pos h]
  · rw [if_neg h, partS, if_neg h, partS, if_neg h]
    dsimp only
    rw [quotB_neg hw, quotB_neg hw, quotB_neg hw, quotB_neg hw]
    dsimp only
    refine Prod.ext rfl (Prod.ext ?_ ?_)
    · dsimp only
      by_cases hb : x.2.2 ≤ 0
      · rw [if_pos (show 0 ≤ -x.2.2 by omega), if_pos hb]
      · rw [if_neg (show ¬ 0 ≤ -x.2.2 by omega), if_neg hb]
        split <;> rfl
    · dsimp only
      by_cases ha : 0 ≤ x.2.1
      · rw [if_pos (show -x.2.1 ≤ 0 by omega), if_pos ha]
      · rw [if_neg (show ¬ -x.2.1 ≤ 0 by omega), if_neg ha]
        split <;> omega
end Pf
/- Two parts of a quotient -/
namespace Pf
open Go Go.Proofs
/-- What two parts are together: two spans, or their hull. -/
noncomputable def twoV (w : Int) (p q : Prop × Int × Int) : (Prop × Int × Int) × (Prop × Int × Int) :=
  open Classical in if p.1 ∧ q.1 ∧ p.2.2 < q.2.1 then (p, q) else if p.1 ∧ q.1 ∧ q.2.2 < p.2.1 then (q, p) else (hullS w p q, noS)
def okS (w : Int) (z : Prop × Int × Int) : Prop := z = noS ∨ fullS w z
theorem okS_span {w : Int} (hw : w = 32 ∨ w = 64) {z : Prop × Int × Int} (h : okS w z) : spanOk w z.1 z.2.1 z.2.2 := by
  rcases h with rfl | h
  · exact ⟨hw, .inr ⟨id, rfl, rfl⟩⟩
  · exact (fullS_iff.1 h).2
theorem okS_no {w : Int} {z : Prop × Int × Int} (h : okS w z) (hn : ¬ z.1) : z = noS := h.resolve_right fun k => hn k.1
theorem okS_full {w : Int} {z : Prop × Int × Int} (h : okS w z) (hn : z.1) : fullS w z := by
  rcases h with rfl | h
  · exact hn.elim
  · exact h
theorem two_p {w : Int} (hw : w = 32 ∨ w = 64) {p q : Prop × Int × Int} (hp : okS w p) (hq : okS w q) (h : ¬ p.1) : twoV w p q = (q, noS) := by
  rw [twoV, if_neg (fun k => h k.1), if_neg (fun k => h k.1), hullS, if_pos ⟨okS_span hw hp, okS_span hw hq⟩, if_neg h]
theorem two_q {w : Int} (hw : w = 32 ∨ w = 64) {p q : Prop × Int × Int} (hp : okS w p) (hq : okS w q) (h : p.1) (h2 : ¬ q.1) : twoV w p q = (p, noS) := by
  rw [twoV, if_neg (fun k => h2 k.2.1), if_neg (fun k => h2 k.2.1), hullS, if_pos ⟨okS_span hw hp, okS_span hw hq⟩, if_pos h, if_neg h2]
theorem meet_iff {w : Int} {p q : Prop × Int × Int} (hp : fullS w p) (hq : fullS w q) : (meetS w p q).1 ↔ (p.2.1 ≤ q.2.2 ∧ q.2.1 ≤ p.2.2) := by
  have h1 := hp.2
  have h2 := hq.2
  unfold pairOk bitOk at h1 h2
  unfold meetS
  by_cases h : fullS w p ∧ fullS w q ∧ pairOk w (max p.2.1 q.2.1) (min p.2.2 q.2.2)
  · rw [if_pos h]
    have := h.2.2.2.2.1
    exact ⟨fun _ => by omega, fun _ => trivial⟩
  · rw [if_neg h]
    refine ⟨fun k => k.elim, fun k => (h ⟨hp, hq, ?_⟩).elim⟩
    unfold pairOk bitOk
    refine ⟨⟨h1.1.1, by omega, by omega⟩, ⟨h1.1.1, by omega, by omega⟩, by omega, ?_, ?_⟩
    · intro k; omega
    · intro k; omega
theorem two_m {w : Int} {p q : Prop × Int × Int} (hp : fullS w p) (hq : fullS w q) (h : (meetS w p q).1) : twoV w p q = (hullS w p q, noS) := by
  have := (meet_iff hp hq).1 h
  rw [twoV, if_neg (fun k => by omega), if_neg (fun k => by omega)]
theorem two_l {w : Int} {p q : Prop × Int × Int} (hp : fullS w p) (hq : fullS w q) (h : ¬ (meetS w p q).1) (hl : p.2.1 < q.2.1) : twoV w p q = (p, q) := by
  have h1 := mt (meet_iff hp hq).2 h
  have := hp.2.2.2.1
  have := hq.2.2.2.1
  rw [twoV, if_pos ⟨hp.1, hq.1, by omega⟩]
theorem two_r {w : Int} {p q : Prop × Int × Int} (hp : fullS w p) (hq : fullS w q) (h : ¬ (meetS w p q).1) (hl : ¬ p.2.1 < q.2.1) : twoV w p q = (q, p) := by
  have h1 := mt (meet_iff hp hq).2 h
  have := hp.2.2.2.1
  have := hq.2.2.2.1
  rw [twoV, if_neg (fun k => by omega), if_pos ⟨hp.1, hq.1, by omega⟩]
open Classical in
noncomputable def twoS (w : Int) (x y : Prop × Int × Int) : (Prop × Int × Int) × (Prop × Int × Int) :=
  if fullS w x ∧ fullS w y then twoV w (partS w x y) (negS' w (partS w x (negS' w y))) else (noS, noS)
theorem negS_ok {w : Int} (hw : w = 32 ∨ w = 64) {x : Prop × Int × Int} (h : fullS w x) : fullS w (negS' w x) := by
  have h1 := h.2
  unfold negS'
  rw [if_pos h]
  unfold pairOk bitOk at h1
  refine ⟨trivial, ⟨hw, ?_, ?_⟩, ⟨hw, ?_, ?_⟩, ?_, ?_, ?_⟩ <;> dsimp only <;> omega
theorem negS_no (w : Int) : negS' w noS = noS := if_neg (fun k => k.1)
theorem partS_okS {w : Int} {x y : Prop × Int × Int} (hx : fullS w x) (hy : fullS w y) : okS w (partS w x y) := by
  by_cases h : y.2.2 ≤ 0
  · exact .inl (by rw [partS, if_pos h])
  · exact .inr (partS_ok hx hy h)
theorem negS_okS {w : Int} {x : Prop × Int × Int} (h : okS w x) : okS w (negS' w x) := by
  rcases h with rfl | h
  · exact .inl (negS_no w)
  · exact .inr (negS_ok h.2.1.1 h)
theorem part_below {w : Int} {x y : Prop × Int × Int} (hx : fullS w x) (hy : fullS w y) : partS w (negS' w x) (negS' w y) = negS' w (partS w x (negS' w y)) := by
  have hn := negS_ok hx.2.1.1 hy
  rw [show negS' w x = (True, -x.2.2, -x.2.1) from if_pos hx, partS_neg hx]
  by_cases h : (negS' w y).2.2 ≤ 0
  · rw [if_pos h, show partS w x (negS' w y) = noS by rw [partS, if_pos h], negS_no]
  · rw [if_neg h, show negS' w (partS w x (negS' w y)) = _ from if_pos (partS_ok hx hn h)]
theorem twoS_okS {w : Int} (hw : w = 32 ∨ w = 64) (x y : Prop × Int × Int) : okS w (twoS w x y).1 ∧ okS w (twoS w x y).2 := by
  unfold twoS
  split
  · rename_i h
    have h1 := partS_okS h.1 h.2
    have h2 := negS_okS (partS_okS h.1 (negS_ok hw h.2))
    generalize partS w x y = p at *
    generalize negS' w (partS w x (negS' w y)) = q at *
    unfold twoV
    split
    · exact ⟨h1, h2⟩
    · split
      · exact ⟨h2, h1⟩
      · refine ⟨?_, .inl rfl⟩
        unfold hullS
        rw [if_pos ⟨okS_span hw h1, okS_span hw h2⟩]
        split
        · split
          · rename_i k1 k2
            have f1 := (okS_full h1 k1).2
            have f2 := (okS_full h2 k2).2
            unfold pairOk bitOk at f1 f2
            refine .inr ⟨trivial, ⟨hw, ?_, ?_⟩, ⟨hw, ?_, ?_⟩, ?_, ?_, ?_⟩ <;> dsimp only <;> omega
          · exact h1
        · exact h2
  · exact ⟨.inl rfl, .inl rfl⟩
end Pf
/- The model's l9Mul, SpanMul -/
namespace Pf
open Go Go.Proofs
open Classical in
noncomputable def mulSp (w : Int) (x y : Prop × Int × Int) : Prop × Int × Int :=
  if fullS w x ∧ fullS w y then (True, min (min (mulB w x.2.1 y.2.1).1 (mulB w x.2.1 y.2.2).1) (min (mulB w x.2.2 y.2.1).1 (mulB w x.2.2 y.2.2).1), max (max (mulB w x.2.1 y.2.1).2 (mulB w x.2.1 y.2.2).2) (max (mulB w x.2.2 y.2.1).2 (mulB w x.2.2 y.2.2).2)) else noS
end Pf
/- The model's l9Quot, l9Part -/
namespace Pf
open Go Go.Proofs
theorem mkRat_div {n : Int} {b c d : Nat} (hb : b ≠ 0) (hd : d ≠ 0) (hc : c ≠ 0) : mkRat (n * d) (b * c) = mkRat n b / mkRat (c : Int) d := by
  rw [Rat.div_def, ← Rat.divInt_ofNat, ← Rat.divInt_ofNat, ← Rat.divInt_ofNat, Rat.inv_divInt, Rat.divInt_mul_divInt, Int.natCast_mul]
end Pf
/- impl's divAbove -/
namespace Pf
open Go Go.Proofs
open Classical in
noncomputable def nearL (w c : Int) (l : Int × Rat) : Int × Rat := if 0 < c then lby l (limW w c) else if lsgn l = 0 then l else (lsgn l, 0)
/-- A bound, written out. -/
abbrev limA (l : Int × Rat) : AV := .agg [.int .i64 l.1, .pr (l.1 = 0 ∧ l.2 < 0), .fi .i64 (if l.1 = 0 then dt l.2 else []), .fi .i64 (if l.1 = 0 then db l.2 else [])]
theorem limVA (l : Int × Rat) : limV l = limA l := limV_eq l
theorem midN_div {r s : Rat} {n : Nat} (h0 : 0 < s) (hr : midN n r) (hs : midN n s) : midN (n + n) (r / s) := by
  have hp : ¬ s < 0 := Rat.not_lt.2 (Rat.le_of_lt h0)
  have hn : s.num.natAbs ≠ 0 := fun h => Rat.ne_of_gt h0 (Rat.num_eq_zero.1 (by omega))
  refine midN_low (p := r < 0) (a := r.num.natAbs * s.den) (b := r.den * s.num.natAbs) (Nat.mul_ne_zero r.den_nz hn) ?_ (dig_len_mul hr.1 hs.2) (dig_len_mul hr.2 hs.1)
  rw [sg_mul_nat, mkRat_div r.den_nz s.den_nz hn, mk_R]
  congr 1
  have := mk_R s
  rwa [sg_no hp] at this
theorem mid_zero : mid 0 := by
  unfold mid dt db
  exact ⟨by rw [show dig (Rat.num 0).natAbs = [] from dig_nil.2 rfl]; decide, by rw [show dig (Rat.den 0) = [1] from dig_one]; decide⟩
theorem limW_fin0 {w c : Int} (hw : w = 32 ∨ w = 64) (h : (limW w c).1 = 0) : (limW w c).2 = vl w c := by
  have hi : ¬ (c = top w ∨ c = -top w) := fun hi => by
    have hp := top_pos hw
    rw [limW_inf hw hi] at h; unfold sgI at h; split at h <;> (try split at h) <;> omega
  rw [limW_fin hi]
theorem lby_mid {w a c : Int} (ha : bitOk w a) (hc : bitOk w c) (h0 : 0 < c) : ((lby (limW w a) (limW w c)).1 = 0 → mid (lby (limW w a) (limW w c)).2) ∧ -1 ≤ (lby (limW w a) (limW w c)).1 ∧ (lby (limW w a) (limW w c)).1 ≤ 1 := by
  have h1 := limW_midN ha
  have h2 := limW_midN hc
  have h3 := limW_rng w a
  unfold lby
  split
  · exact ⟨fun _ => mid_zero, by omega, by omega⟩
  · rename_i k1
    have k1 := Classical.not_not.1 k1
    split
    · rename_i k2
      exact ⟨fun k => absurd k k2, h3⟩
    · rename_i k2
      refine ⟨fun _ => ?_, by omega, by omega⟩
      have e := limW_fin0 hc.1 k1
      have := midN_div (by rw [e]; exact vl_pos.2 h0) (h1 (Classical.not_not.1 k2)) (h2 k1)
      exact ⟨Nat.le_trans this.1 (by decide), Nat.le_trans this.2 (by decide)⟩
noncomputable def nearB (w a c : Int) : Int × Int := lflo w (nearL w c (limW w a))
theorem nearB_y {w a c : Int} (h : 0 < c) : nearB w a c = quotB w a c := by rw [nearB, nearL, if_pos h]; rfl
theorem nearB_n {w a c : Int} (hw : w = 32 ∨ w = 64) (h : ¬ 0 < c) : nearB w a c = (sgI a * top w, sgI a * top w) := by
  have hp := top_pos hw
  rw [nearB, nearL, if_neg h, lsgn_limW hw]
  split
  · rename_i h0
    have ha : a = 0 := by unfold sgI at h0; split at h0 <;> (try split at h0) <;> omega
    subst ha
    rw [limW_fin (by omega), lflo, if_pos rfl, vl_zero, (dn_zero w).1, (dn_zero w).2, h0, Int.zero_mul]
  · rename_i h0
    rw [lflo, if_neg h0]
theorem part_lo {w : Int} {x y : Prop × Int × Int} (hw : w = 32 ∨ w = 64) (h : ¬ y.2.2 ≤ 0) : (partS w x y).2.1 = if 0 ≤ sgI x.2.1 then (quotB w x.2.1 y.2.2).1 else (nearB w x.2.1 y.2.1).1 := by
  rw [partS, if_neg h]
  dsimp only
  have e : 0 ≤ sgI x.2.1 ↔ 0 ≤ x.2.1 := by unfold sgI; split <;> (try split) <;> omega
  by_cases h1 : 0 ≤ x.2.1
  · rw [if_pos h1, if_pos (e.2 h1)]
  · rw [if_neg h1, if_neg (fun k => h1 (e.1 k))]
    by_cases h2 : 0 < y.2.1
    · rw [if_pos h2, nearB_y h2]
    · rw [if_neg h2, nearB_n hw h2, show sgI x.2.1 = -1 from if_pos (by omega)]; dsimp only; omega
theorem part_hi {w : Int} {x y : Prop × Int × Int} (hw : w = 32 ∨ w = 64) (h : ¬ y.2.2 ≤ 0) : (partS w x y).2.2 = if sgI x.2.2 < 0 then (quotB w x.2.2 y.2.2).2 else (nearB w x.2.2 y.2.1).2 := by
  rw [partS, if_neg h]
  dsimp only
  by_cases h1 : x.2.2 < 0
  · rw [if_pos (show x.2.2 ≤ 0 by omega), if_pos (show sgI x.2.2 < 0 by rw [sgI, if_pos h1]; decide)]
  · rw [if_neg (show ¬ sgI x.2.2 < 0 by rw [sgI, if_neg h1]; split <;> omega)]
    by_cases h0 : x.2.2 = 0
    · rw [if_pos (show x.2.2 ≤ 0 by omega), h0, quotB_z hw (.inl rfl)]
      by_cases h2 : 0 < y.2.1
      · rw [nearB_y h2, quotB_z hw (.inl rfl)]
      · rw [nearB_n hw h2]; simp [sgI]
    · rw [if_neg (show ¬ x.2.2 ≤ 0 by omega)]
      by_cases h2 : 0 < y.2.1
      · rw [if_pos h2, nearB_y h2]
      · rw [if_neg h2, nearB_n hw h2, show sgI x.2.2 = 1 by rw [sgI, if_neg h1, if_neg h0]]; dsimp only; omega
end Pf
/- Spans: the model's hulls and meets -/
namespace Pf
open Go Go.Proofs
end Pf
/- SpanDivTwo, SpanDiv on both sides -/
namespace Pf
open Go Go.Proofs
noncomputable abbrev spR2 (p : (Prop × Int × Int) × (Prop × Int × Int)) : AV := .tup [spA p.1, spA p.2]
noncomputable def divSp (w : Int) (x y : Prop × Int × Int) : Prop × Int × Int := hullS w (twoS w x y).1 (twoS w x y).2
end Pf
/- impl's SpanMul -/
namespace Pf
open Go Go.Proofs
def mulAcc (B : Nat → Int × Int) : Nat → Int × Int
  | 0 => (0, 0)
  | 1 => B 0
  | n + 2 => (min (mulAcc B (n + 1)).1 (B (n + 1)).1, max (mulAcc B (n + 1)).2 (B (n + 1)).2)
def accR (B : Nat → Int × Int) : Nat → List AV
  | 0 => [.bool false, .int .i64 0, .int .i64 0]
  | n + 1 => [.pr True, .int .i64 (mulAcc B (n + 1)).1, .int .i64 (mulAcc B (n + 1)).2]
noncomputable def mulX (w : Int) (x y : Prop × Int × Int) (n : Nat) : Int × Int := mulB w (if n / 2 = 0 then x.2.1 else x.2.2) (if n % 2 = 0 then y.2.1 else y.2.2)
theorem mulAcc_end (w : Int) (x y : Prop × Int × Int) (h : fullS w x ∧ fullS w y) : spA (mulSp w x y) = .agg [.pr True, .int .i64 (mulAcc (mulX w x y) 4).1, .int .i64 (mulAcc (mulX w x y) 4).2] := by
  rw [mulSp, if_pos h]
  have e0 : mulX w x y 0 = mulB w x.2.1 y.2.1 := rfl
  have e1 : mulX w x y 1 = mulB w x.2.1 y.2.2 := rfl
  have e2 : mulX w x y 2 = mulB w x.2.2 y.2.1 := rfl
  have e3 : mulX w x y 3 = mulB w x.2.2 y.2.2 := rfl
  simp only [mulAcc, e0, e1, e2, e3, spA, spV]
  have m1 : ∀ a b c d : Int, min (min a b) (min c d) = min (min (min a b) c) d := by intros; omega
  have m2 : ∀ a b c d : Int, max (max a b) (max c d) = max (max (max a b) c) d := by intros; omega
  rw [m1, m2]
end Pf
/- BackMul, its gap, BackTop, BackBottom on both sides -/
namespace Pf
open Go Go.Proofs
/-- A span has 0; is just 0. -/
def zeroS (x : Prop × Int × Int) : Prop := x.2.1 ≤ 0 ∧ 0 ≤ x.2.2
open Classical in
noncomputable def backMul (w : Int) (z y x : Prop × Int × Int) : Prop × Int × Int :=
  if fullS w z ∧ fullS w y ∧ fullS w x then (if zeroS z ∧ zeroS y then x else hullS w (meetS w x (twoS w z y).1) (meetS w x (twoS w z y).2)) else noS
open Classical in
/-- The gap: whether there is one, its bounds. -/
noncomputable def gapS (w : Int) (z y x : Prop × Int × Int) : Prop × Int × Int :=
  if fullS w z ∧ fullS w y ∧ fullS w x then (if zeroS z ∧ zeroS y then noS else if (meetS w x (twoS w z y).1).1 ∧ (meetS w x (twoS w z y).2).1 then (True, (meetS w x (twoS w z y).1).2.2, (meetS w x (twoS w z y).2).2.1) else noS) else noS
abbrev gapA (g : Prop × Int × Int) : AV := .tup [.agg [.int .i64 g.2.1, .int .i64 g.2.2], .pr g.1]
theorem sub_gap : Sub (.tup [.agg [.int .i64 0, .int .i64 0], .bool false]) (gapA noS) := .tup ⟨.agg ⟨.refl, .refl, trivial⟩, .no id, trivial⟩
open Classical in
noncomputable def backTop (w : Int) (z y x : Prop × Int × Int) : Prop × Int × Int :=
  if fullS w z ∧ fullS w y ∧ fullS w x then (if y.2.1 = 0 ∧ y.2.2 = 0 then noS else meetS w x (mulSp w z y)) else noS
open Classical in
noncomputable def backBot (w : Int) (z x y : Prop × Int × Int) : Prop × Int × Int :=
  if fullS w z ∧ fullS w x ∧ fullS w y then (if y.2.1 = 0 ∧ y.2.2 = 0 then noS else backMul w x z y) else noS
end Pf
/- The laws of SpanMul, SpanDiv, SpanDivTwo, BackMul, BackMulGap, BackTop, BackBottom -/
namespace Pf
open Go Go.Proofs
end Pf
/- Fractions compared: impl's cmp, the model's l8Cmp -/
namespace Pf
open Go Go.Proofs
open Classical in
/-- How two numbers compare. -/
noncomputable def cmpR (r s : Rat) : Int := if r < s then -1 else if r = s then 0 else 1
theorem sgn_mul_pos {z k : Int} (hk : 0 < k) : sgn (z * k) = sgn z := by
  unfold sgn
  rcases Int.lt_trichotomy z 0 with h | h | h
  · have := Int.mul_neg_of_neg_of_pos h hk; omega
  · subst h; rw [Int.zero_mul]
  · have := Int.mul_pos h hk; omega
theorem cmpR_xy (r s : Rat) : cmpR r s = sgn (r.num * s.den - s.num * r.den) := by
  unfold cmpR sgn
  by_cases h : r < s
  · rw [if_pos h]; have := (Rat.lt_iff r s).1 h; omega
  · rw [if_neg h]
    have h1 := mt (Rat.lt_iff r s).2 h
    by_cases h2 : r = s
    · rw [if_pos h2]; have := Rat.eq_iff_mul_eq_mul.1 h2; omega
    · rw [if_neg h2]; have := mt Rat.eq_iff_mul_eq_mul.2 h2; omega
theorem mkRat_parts2 (n : Int) {b : Nat} (hb : b ≠ 0) : ∃ k : Nat, k ≠ 0 ∧ n = (mkRat n b).num * k ∧ b = (mkRat n b).den * k := by
  obtain ⟨m, h1, h2, h3⟩ := Rat.mkRat_num_den hb (show mkRat n b = ⟨(mkRat n b).num, (mkRat n b).den, (mkRat n b).den_nz, (mkRat n b).reduced⟩ from rfl)
  exact ⟨m, h1, h2, h3⟩
theorem cmpR_mk {n m : Int} {b d : Nat} (hb : b ≠ 0) (hd : d ≠ 0) : cmpR (mkRat n b) (mkRat m d) = sgn (n * d - m * b) := by
  obtain ⟨k, k0, k1, k2⟩ := mkRat_parts2 n hb
  obtain ⟨l, l0, l1, l2⟩ := mkRat_parts2 m hd
  rw [cmpR_xy]
  generalize mkRat n b = r at *
  generalize mkRat m d = s at *
  rw [k1, l1, k2, l2]
  have e : r.num * k * ((s.den * l : Nat) : Int) - s.num * l * ((r.den * k : Nat) : Int) = (r.num * s.den - s.num * r.den) * ((k * l : Nat) : Int) := by
    simp only [Int.natCast_mul, Int.sub_mul]
    congr 1
    · simp only [Int.mul_assoc, Int.mul_left_comm, Int.mul_comm]
    · simp only [Int.mul_assoc, Int.mul_left_comm, Int.mul_comm]
  rw [e, sgn_mul_pos (Int.natCast_pos.2 (Nat.mul_pos (by omega) (by omega)))]
open Classical in
theorem cmpR_sg (p q : Prop) {a b c d : Nat} (hb : b ≠ 0) (hd : d ≠ 0) : cmpR (mkRat (sg p a) b) (mkRat (sg q c) d) =
    (if p ∧ a * d ≠ 0 then (if q ∧ c * b ≠ 0 then sgn ((c * b : Nat) - (a * d : Nat) : Int) else -1) else if q ∧ c * b ≠ 0 then 1 else sgn ((a * d : Nat) - (c * b : Nat) : Int)) := by
  rw [cmpR_mk hb hd, ← sg_mul_nat, ← sg_mul_nat]
  generalize a * d = x
  generalize c * b = y
  unfold sgn
  by_cases hp : p
  · rw [sg_yes hp]
    by_cases hq : q
    · rw [sg_yes hq]; simp only [hp, hq, true_and]
      split <;> (try split) <;> omega
    · rw [sg_no hq]; simp only [hp, hq, true_and, false_and, if_false]
      split <;> omega
  · rw [sg_no hp]
    by_cases hq : q
    · rw [sg_yes hq]; simp only [hp, hq, true_and, false_and, if_false]
      split <;> omega
    · rw [sg_no hq]; simp only [hp, hq, false_and, if_false]
theorem cmpR_f (r s : Rat) : cmpR r s = (if r < 0 then (if s < 0 then sgn ((s.num.natAbs * r.den : Nat) - (r.num.natAbs * s.den : Nat) : Int) else -1) else if s < 0 then 1 else sgn ((r.num.natAbs * s.den : Nat) - (s.num.natAbs * r.den : Nat) : Int)) := by
  have h := cmpR_sg (r < 0) (s < 0) (a := r.num.natAbs) (c := s.num.natAbs) r.den_nz s.den_nz
  rw [mk_R, mk_R] at h
  rw [h]
  have hr : r < 0 → r.num.natAbs * s.den ≠ 0 := fun k => Nat.mul_ne_zero (by have := num_neg.1 k; omega) s.den_nz
  have hs : s < 0 → s.num.natAbs * r.den ≠ 0 := fun k => Nat.mul_ne_zero (by have := num_neg.1 k; omega) r.den_nz
  by_cases h1 : r < 0 <;> by_cases h2 : s < 0 <;> simp [h1, h2, hr, hs]
theorem fsgn_R (r : Rat) : fsgn (r < 0) (dt r) = if r < 0 then -1 else if r.num.natAbs = 0 then 0 else 1 := by
  unfold fsgn dt
  simp only [dig_nil]
theorem cmpR_ne {r s : Rat} (h : fsgn (r < 0) (dt r) ≠ fsgn (s < 0) (dt s)) : max (-1) (min 1 (fsgn (r < 0) (dt r) - fsgn (s < 0) (dt s))) = cmpR r s := by
  rw [cmpR_f]
  have hA : r.num.natAbs = 0 ↔ r.num.natAbs * s.den = 0 := by have := s.den_nz; simp [Nat.mul_eq_zero, this]
  have hB : s.num.natAbs = 0 ↔ s.num.natAbs * r.den = 0 := by have := r.den_nz; simp [Nat.mul_eq_zero, this]
  rw [fsgn_R, fsgn_R] at h ⊢
  generalize r.num.natAbs * s.den = A at *
  generalize s.num.natAbs * r.den = B at *
  generalize r.num.natAbs = R at *
  generalize s.num.natAbs = S at *
  unfold sgn
  by_cases h1 : r < 0 <;> by_cases h2 : s < 0 <;> simp only [h1, h2, if_true, if_false] at h ⊢ <;> (repeat' split) <;> (try split at h) <;> (try split at h) <;> omega
theorem cmpR_eq {r s : Rat} (h : fsgn (r < 0) (dt r) = fsgn (s < 0) (dt s)) : cmpR r s = if r < 0 then -sgn ((r.num.natAbs * s.den : Nat) - (s.num.natAbs * r.den : Nat) : Int) else sgn ((r.num.natAbs * s.den : Nat) - (s.num.natAbs * r.den : Nat) : Int) := by
  rw [cmpR_f]
  rw [fsgn_R, fsgn_R] at h
  generalize r.num.natAbs * s.den = A at *
  generalize s.num.natAbs * r.den = B at *
  unfold sgn
  by_cases h1 : r < 0 <;> by_cases h2 : s < 0 <;> simp only [h1, h2, if_true, if_false] at h ⊢ <;> (try split at h) <;> omega
end Pf
/- The law of FracNeg -/
namespace Pf
open Go Go.Proofs
theorem szF_le {t d : List Int} (h : ¬ szF 1048576 t d < 0) : t.length ≤ 1048576 ∧ d.length ≤ 1048576 ∧ szF 1048576 t d = 1048576 - t.length - d.length := by
  unfold szF at h ⊢
  split at h
  · omega
  · split at h
    · omega
    · rename_i h1 h2; rw [if_neg h1, if_neg h2]; omega
abbrev nilFr : AV := .agg [.bool false, .nils, .nils]
end Pf
/- FloatNear on both sides, its law -/
namespace Pf
open Go Go.Proofs
theorem frR_neg (r : Rat) : frF (¬ r < 0 ∧ dt r ≠ []) (dt r) (db r) = frR (-r) := by
  unfold frR
  have e1 : dt (-r) = dt r := by unfold dt; rw [Rat.neg_num, Int.natAbs_neg]
  have e2 : db (-r) = db r := by unfold db; rw [Rat.neg_den]
  have e3 : (¬ r < 0 ∧ dt r ≠ []) ↔ -r < 0 := by
    rw [Rat.neg_lt_iff, Rat.neg_zero, ne_eq, dt_nil, Rat.not_lt]
    exact ⟨fun h => Rat.lt_of_le_of_ne h.1 (Ne.symm h.2), fun h => ⟨Rat.le_of_lt h, Rat.ne_of_gt h⟩⟩
  rw [e1, e2, propext e3]
theorem cmpR_add (a b c : Rat) : cmpR (a + c) (b + c) = cmpR a b := by
  unfold cmpR
  have h1 : (a + c < b + c) = (a < b) := propext Rat.add_lt_add_right
  have h2 : (a + c = b + c) = (a = b) := propext ⟨Rat.add_right_cancel c, fun h => by rw [h]⟩
  simp only [h1, h2]
theorem cmpR_near (r v u : Rat) : cmpR (r + -v) (u + -r) = cmpR (r + r) (v + u) := by
  rw [← cmpR_add (r + -v) (u + -r) (v + r)]
  congr 1
  · rw [Rat.add_assoc, ← Rat.add_assoc (-v), Rat.neg_add_cancel, Rat.zero_add]
  · rw [Rat.add_comm v r, Rat.add_assoc, ← Rat.add_assoc (-r), Rat.neg_add_cancel, Rat.zero_add, Rat.add_comm]
theorem dn_low {w : Int} {r : Rat} (h : dn w r = -(fT w : Int)) : up w r = -(fT w : Int) + 1 := by
  have h1 := tv_le w r
  have h2 := nx_le w r
  have h3 := fT_pos w
  unfold dn at h
  unfold up
  by_cases h0 : r < 0
  · rw [if_pos h0] at h ⊢; omega
  · rw [if_neg h0] at h; omega
theorem up_high {w : Int} {r : Rat} (h : up w r = (fT w : Int)) : dn w r = (fT w : Int) - 1 := by
  have := dn_low (w := w) (r := -r) (by rw [dn_neg, h])
  rw [up_neg] at this
  omega
open Classical in
/-- The finite float that is nearest. -/
noncomputable def nearF (w : Int) (r : Rat) : Int :=
  if dn w r = -top w then -top w + 1 else if up w r = top w then top w - 1 else
    if cmpR (r + r) (vl w (dn w r) + vl w (up w r)) < 0 ∨ (cmpR (r + r) (vl w (dn w r) + vl w (up w r)) = 0 ∧ (dn w r).tmod 2 = 0) then dn w r else up w r
theorem midN_mono {m n : Nat} {r : Rat} (h : midN m r) (hm : m ≤ n) : midN n r := ⟨Nat.le_trans h.1 hm, Nat.le_trans h.2 hm⟩
theorem midN_neg {n : Nat} {r : Rat} (h : midN n r) : midN n (-r) := by
  unfold midN dt db at *
  rw [Rat.neg_num, Int.natAbs_neg, Rat.neg_den]
  exact h
theorem cmpR_rng (r s : Rat) : -1 ≤ cmpR r s ∧ cmpR r s ≤ 1 := by unfold cmpR; split <;> (try split) <;> omega
open Classical in
noncomputable def nearN (w : Int) (p : Prop) (t u : List Int) : Int := if (w = 32 ∨ w = 64) ∧ frOk p t u then nearF w (rat p t u) else 0
end Pf
