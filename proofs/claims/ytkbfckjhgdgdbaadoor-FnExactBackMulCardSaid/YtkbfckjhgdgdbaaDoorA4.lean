/- Part 4 of the lemmas that the claim rests on: an abstract machine over the model, what it is sound for, and the contracts of the functions that the law reaches. -/
import Derived.Test.YtkbfckjhgdgdbaaDoorA3
set_option linter.unusedSimpArgs false
set_option linter.unusedVariables false
set_option maxHeartbeats 4000000
/- Bounds: the closure of SpanAdd -/
namespace Pf
open Go Go.Proofs
noncomputable def ladd (l m : Int × Rat) : Int × Rat := if l.1 ≠ 0 then (l.1, 0) else if m.1 ≠ 0 then (m.1, 0) else (0, l.2 + m.2)
theorem add1_ok (w a b : Int) (ha : bitOk w a) (hb : bitOk w b) (hl : (limW w a).1 = 0 → mid (limW w a).2) (hm : (limW w b).1 = 0 → mid (limW w b).2) : AFunP Tryd.prog 63 [.int .i64 a, .int .i64 b, .fptr [.int .i64 w] 0] (· = limV (ladd (limW w a) (limW w b))) := by
  have k1 := limitOf_ok w a ha
  have k2 := limitOf_ok w b hb
  generalize limW w a = l at *
  generalize limW w b = m at *
  rw [limV_eq] at k1 k2
  refine afun_of Tryd.func63 Tryd.call63 rfl Tryd.ntmps63 rfl ?_
  have W : Walk Tryd.prog TT 63 _ := Walk.of TT_ok Tryd.func63 Tryd.results63
  refine phg W 0 8 [6, 7] rfl rfl (fun PW => ?_)
  refine phf PW 0 6 7 [] [.agg [.int .i64 l.1, .pr (l.1 = 0 ∧ l.2 < 0), .fi .i64 (if l.1 = 0 then dt l.2 else []), .fi .i64 (if l.1 = 0 then db l.2 else [])], .agg [.int .i64 m.1, .pr (m.1 = 0 ∧ m.2 < 0), .fi .i64 (if m.1 = 0 then dt m.2 else []), .fi .i64 (if m.1 = 0 then db m.2 else [])]] rfl rfl ⟨k1.at rfl _, k2.at rfl _, trivial⟩ rfl rfl rfl rfl ?_ ?_
  · refine pho PW 0 7 [] [.agg [.int .i64 l.1, .pr (l.1 = 0 ∧ l.2 < 0), .fi .i64 (if l.1 = 0 then dt l.2 else []), .fi .i64 (if l.1 = 0 then db l.2 else [])], .agg [.int .i64 m.1, .pr (m.1 = 0 ∧ m.2 < 0), .fi .i64 (if m.1 = 0 then dt m.2 else []), .fi .i64 (if m.1 = 0 then db m.2 else [])]] rfl rfl ⟨k1.at rfl _, k2.at rfl _, trivial⟩ rfl rfl ?_
    refine phe PW 0 [] [.agg [.int .i64 l.1, .pr (l.1 = 0 ∧ l.2 < 0), .fi .i64 (if l.1 = 0 then dt l.2 else []), .fi .i64 (if l.1 = 0 then db l.2 else [])], .agg [.int .i64 m.1, .pr (m.1 = 0 ∧ m.2 < 0), .fi .i64 (if m.1 = 0 then dt m.2 else []), .fi .i64 (if m.1 = 0 then db m.2 else [])]] rfl ⟨k1.at rfl _, k2.at rfl _, trivial⟩ rfl ?_
    refine sp W 0 rfl rfl rfl (fun h1 => ?_) (fun h1 => ?_)
    · rw [show ladd l m = (l.1, 0) from if_pos h1, limV_inf h1]
      rw [if_neg h1, if_neg h1, show (l.1 = 0 ∧ l.2 < 0) = False from eq_false (fun k => h1 k.1)]
      refine rp W 0 rfl rfl rfl (.refl)
    · have h1' := Classical.not_not.1 h1
      refine sp W 0 rfl rfl rfl (fun h2 => ?_) (fun h2 => ?_)
      · rw [show ladd l m = (m.1, 0) by rw [ladd, if_neg h1, if_pos h2], limV_inf h2]
        rw [if_neg h2, if_neg h2, show (m.1 = 0 ∧ m.2 < 0) = False from eq_false (fun k => h2 k.1)]
        refine rp W 0 rfl rfl rfl (.refl)
      · have h2' := Classical.not_not.1 h2
        have e : ladd l m = (0, l.2 + m.2) := by rw [ladd, if_neg h1, if_neg h2]
        rw [e, limV_fin]
        rw [if_pos h1', if_pos h1', if_pos h2', if_pos h2', show (l.1 = 0 ∧ l.2 < 0) = (l.2 < 0) by simp [h1'], show (m.1 = 0 ∧ m.2 < 0) = (m.2 < 0) by simp [h2']]
        refine ce W 0 rfl rfl (addR_ok l.2 m.2 (hl h1') (hm h2')) rfl ?_
        refine rp W 0 rfl rfl rfl (.refl)
  · refine pho PW 0 6 [] [.agg [.int .i64 l.1, .pr (l.1 = 0 ∧ l.2 < 0), .fi .i64 (if l.1 = 0 then dt l.2 else []), .fi .i64 (if l.1 = 0 then db l.2 else [])], .agg [.int .i64 m.1, .pr (m.1 = 0 ∧ m.2 < 0), .fi .i64 (if m.1 = 0 then dt m.2 else []), .fi .i64 (if m.1 = 0 then db m.2 else [])]] rfl rfl ⟨k1.at rfl _, k2.at rfl _, trivial⟩ rfl rfl ?_
    refine phe PW 0 [] [.agg [.int .i64 l.1, .pr (l.1 = 0 ∧ l.2 < 0), .fi .i64 (if l.1 = 0 then dt l.2 else []), .fi .i64 (if l.1 = 0 then db l.2 else [])], .agg [.int .i64 m.1, .pr (m.1 = 0 ∧ m.2 < 0), .fi .i64 (if m.1 = 0 then dt m.2 else []), .fi .i64 (if m.1 = 0 then db m.2 else [])]] rfl ⟨k1.at rfl _, k2.at rfl _, trivial⟩ rfl ?_
    refine sp W 0 rfl rfl rfl (fun h1 => ?_) (fun h1 => ?_)
    · rw [show ladd l m = (l.1, 0) from if_pos h1, limV_inf h1]
      rw [if_neg h1, if_neg h1, show (l.1 = 0 ∧ l.2 < 0) = False from eq_false (fun k => h1 k.1)]
      refine rp W 0 rfl rfl rfl (.refl)
    · have h1' := Classical.not_not.1 h1
      refine sp W 0 rfl rfl rfl (fun h2 => ?_) (fun h2 => ?_)
      · rw [show ladd l m = (m.1, 0) by rw [ladd, if_neg h1, if_pos h2], limV_inf h2]
        rw [if_neg h2, if_neg h2, show (m.1 = 0 ∧ m.2 < 0) = False from eq_false (fun k => h2 k.1)]
        refine rp W 0 rfl rfl rfl (.refl)
      · have h2' := Classical.not_not.1 h2
        have e : ladd l m = (0, l.2 + m.2) := by rw [ladd, if_neg h1, if_neg h2]
        rw [e, limV_fin]
        rw [if_pos h1', if_pos h1', if_pos h2', if_pos h2', show (l.1 = 0 ∧ l.2 < 0) = (l.2 < 0) by simp [h1'], show (m.1 = 0 ∧ m.2 < 0) = (m.2 < 0) by simp [h2']]
        refine ce W 0 rfl rfl (addR_ok l.2 m.2 (hl h1') (hm h2')) rfl ?_
        refine rp W 0 rfl rfl rfl (.refl)
end Pf
/- The number of a float has not too many digits -/
namespace Pf
open Go Go.Proofs
theorem dig_mono {a b n : Nat} (h : a ≤ b) (hb : (dig b).length ≤ n) : (dig a).length ≤ n :=
  dig_len_le.2 (Nat.lt_of_le_of_lt h (dig_len_le.1 hb))
theorem mid_vl {w n : Int} (hw : w = 32 ∨ w = 64) (h : n.natAbs < fT w) : mid (vl w n) := by
  have hs : (dig (fsz (fF w) n.natAbs)).length ≤ 4 := by
    have h1 := fsz_lt (fF w) n.natAbs
    refine dig_len_le.2 (Nat.lt_of_lt_of_le h1 ?_)
    rcases hw with rfl | rfl <;> decide
  have hp : fpw (fF w) n.natAbs < 16 * 200 := by
    have h2 := fpw_le h
    have hG : fG w ≤ 1023 := by rcases hw with rfl | rfl <;> decide
    omega
  have hv : (dig (fv (fF w) n.natAbs)).length ≤ 4 + 200 := by
    rw [fv_eq]
    exact dig_len_mul hs (dig_pow_len _ _ hp)
  have hk : (dig (2 ^ fK w)).length ≤ 200 := dig_pow_len _ _ (by rcases hw with rfl | rfl <;> decide)
  obtain ⟨e1, e2, _⟩ := mkRat_parts (n < 0) (fv (fF w) n.natAbs) (2 ^ fK w) (two_nz _)
  unfold mid vl
  rw [← e1, ← e2]
  have i1 := dig_mono (Nat.div_le_self (fv (fF w) n.natAbs) (Nat.gcd (fv (fF w) n.natAbs) (2 ^ fK w))) hv
  have i2 := dig_mono (Nat.div_le_self (2 ^ fK w) (Nat.gcd (fv (fF w) n.natAbs) (2 ^ fK w))) hk
  exact ⟨Nat.le_trans i1 (by decide), Nat.le_trans i2 (by decide)⟩
theorem limW_mid {w n : Int} (hb : bitOk w n) : (limW w n).1 = 0 → mid (limW w n).2 := by
  have ht := top_fT hb.1
  have h1 := hb.2
  unfold limW
  split
  · intro k; exact absurd k (by decide)
  · split
    · intro k; exact absurd k (by decide)
    · intro _; exact mid_vl hb.1 (by omega)
end Pf
/- Sizes of sums and products -/
namespace Pf
open Go Go.Proofs
/-- Digits at most n. -/
def midN (n : Nat) (r : Rat) : Prop := (dt r).length ≤ n ∧ (db r).length ≤ n
theorem midN_low {p : Prop} {a b n : Nat} {r : Rat} (hb : b ≠ 0) (h : mkRat (sg p a) b = r) (h1 : (dig a).length ≤ n) (h2 : (dig b).length ≤ n) : midN n r := by
  obtain ⟨e1, e2, _⟩ := mkRat_parts p a b hb
  subst h
  unfold midN
  rw [← e1, ← e2]
  exact ⟨dig_mono (Nat.div_le_self _ _) h1, dig_mono (Nat.div_le_self _ _) h2⟩
theorem midN_mul {r s : Rat} {n : Nat} (hr : midN n r) (hs : midN n s) : midN (n + n) (r * s) := by
  refine midN_low (p := ¬ (r < 0 ↔ s < 0)) (Nat.mul_ne_zero r.den_nz s.den_nz) ?_ (dig_len_mul hr.1 hs.1) (dig_len_mul hr.2 hs.2)
  rw [sg_mul, ← Rat.mkRat_mul_mkRat, mk_R, mk_R]
theorem sumT_le (p q : Prop) (x y : Nat) : sumT p q x y ≤ x + y := by
  unfold sumT; split <;> (try split) <;> omega
theorem midN_add {r s : Rat} {n : Nat} (hr : midN n r) (hs : midN n s) : midN (n + n + 1) (r + s) := by
  refine midN_low (p := sumP (r < 0) (s < 0) (r.num.natAbs * s.den) (s.num.natAbs * r.den)) (a := sumT (r < 0) (s < 0) (r.num.natAbs * s.den) (s.num.natAbs * r.den)) (Nat.mul_ne_zero r.den_nz s.den_nz) ?_ ?_ (Nat.le_succ_of_le (dig_len_mul hr.2 hs.2))
  · rw [sg_sum, sg_mul_nat, sg_mul_nat, ← Rat.mkRat_add_mkRat _ _ r.den_nz s.den_nz, mk_R, mk_R]
  · exact dig_mono (sumT_le _ _ _ _) (dig_len_add (dig_len_mul hr.1 hs.2) (dig_len_mul hs.1 hr.2))
theorem vl_midN {w n : Int} (hw : w = 32 ∨ w = 64) (h : n.natAbs < fT w) : midN 204 (vl w n) := by
  have hs : (dig (fsz (fF w) n.natAbs)).length ≤ 4 := by
    have h1 := fsz_lt (fF w) n.natAbs
    refine dig_len_le.2 (Nat.lt_of_lt_of_le h1 ?_)
    rcases hw with rfl | rfl <;> decide
  have hp : fpw (fF w) n.natAbs < 16 * 200 := by
    have h2 := fpw_le h
    have hG : fG w ≤ 1023 := by rcases hw with rfl | rfl <;> decide
    omega
  have hv : (dig (fv (fF w) n.natAbs)).length ≤ 4 + 200 := by
    rw [fv_eq]
    exact dig_len_mul hs (dig_pow_len _ _ hp)
  have hk : (dig (2 ^ fK w)).length ≤ 200 := dig_pow_len _ _ (by rcases hw with rfl | rfl <;> decide)
  obtain ⟨e1, e2, _⟩ := mkRat_parts (n < 0) (fv (fF w) n.natAbs) (2 ^ fK w) (two_nz _)
  unfold midN vl
  rw [← e1, ← e2]
  have i1 := dig_mono (Nat.div_le_self (fv (fF w) n.natAbs) (Nat.gcd (fv (fF w) n.natAbs) (2 ^ fK w))) hv
  have i2 := dig_mono (Nat.div_le_self (2 ^ fK w) (Nat.gcd (fv (fF w) n.natAbs) (2 ^ fK w))) hk
  exact ⟨Nat.le_trans i1 (by decide), Nat.le_trans i2 (by decide)⟩
end Pf
/- Bounds of a sum -/
namespace Pf
open Go Go.Proofs
noncomputable def sumB (w a b : Int) : Int × Int := lflo w (ladd (limW w a) (limW w b))
theorem limW_rng (w n : Int) : -1 ≤ (limW w n).1 ∧ (limW w n).1 ≤ 1 := by
  unfold limW; split <;> (try split) <;> dsimp only <;> omega
theorem ladd_rng {l m : Int × Rat} (h : -1 ≤ l.1 ∧ l.1 ≤ 1) (k : -1 ≤ m.1 ∧ m.1 ≤ 1) : -1 ≤ (ladd l m).1 ∧ (ladd l m).1 ≤ 1 := by
  unfold ladd; split <;> (try split) <;> first | exact h | exact k | (dsimp only; omega)
theorem limW_midN {w n : Int} (hb : bitOk w n) : (limW w n).1 = 0 → midN 204 (limW w n).2 := by
  have ht := top_fT hb.1
  have h1 := hb.2
  unfold limW
  split
  · intro k; exact absurd k (by decide)
  · split
    · intro k; exact absurd k (by decide)
    · intro _; exact vl_midN hb.1 (by omega)
theorem ladd_mid {w a b : Int} (ha : bitOk w a) (hb : bitOk w b) : (ladd (limW w a) (limW w b)).1 = 0 → mid (ladd (limW w a) (limW w b)).2 := by
  have h1 := limW_midN ha
  have h2 := limW_midN hb
  unfold ladd
  split
  · intro k; contradiction
  · split
    · intro k; contradiction
    · rename_i k1 k2
      intro _
      have := midN_add (h1 (Classical.not_not.1 k1)) (h2 (Classical.not_not.1 k2))
      exact ⟨Nat.le_trans this.1 (by decide), Nat.le_trans this.2 (by decide)⟩
theorem sum_calls {w a b : Int} (ha : bitOk w a) (hb : bitOk w b) : AFunP Tryd.prog 60 [limV (ladd (limW w a) (limW w b)), .int .i64 w] (· = .tup [.int .i64 (sumB w a b).1, .int .i64 (sumB w a b).2]) :=
  lfloats_ok w ha.1 _ (ladd_mid ha hb) (ladd_rng (limW_rng w a) (limW_rng w b))
end Pf
/- impl's SpanAdd -/
namespace Pf
open Go Go.Proofs
open Classical in
noncomputable def addSp (w : Int) (x y : Prop × Int × Int) : Prop × Int × Int := if fullS w x ∧ fullS w y then (True, (sumB w x.2.1 y.2.1).1, (sumB w x.2.2 y.2.2).2) else noS
theorem implAdd_ok (w : Int) (x y : Prop × Int × Int) : AFunP Tryd.prog 20 [.int .i64 w, spA x, spA y] (· = spA (addSp w x y)) := by
  refine afun_of Tryd.func20 Tryd.call20 rfl Tryd.ntmps20 rfl ?_
  have W : Walk Tryd.prog TT 20 _ := Walk.of TT_ok Tryd.func20 Tryd.results20
  unfold addSp
  refine cf W 0 [0, 4] [0, 1, 2, 3, 4, 5, 6] rfl rfl rfl rfl rfl rfl (full2_ok w x y) rfl ?_
  refine sp W 0 rfl rfl rfl (fun h1 => ?_) (fun h1 => ?_)
  · rw [if_neg h1]
    refine rp W 0 rfl rfl rfl (sub_noS)
  · have h1 := Classical.not_not.1 h1
    have k1 := add1_ok w x.2.1 y.2.1 h1.1.2.1 h1.2.2.1 (limW_mid h1.1.2.1) (limW_mid h1.2.2.1)
    have k2 := sum_calls h1.1.2.1 h1.2.2.1
    have k3 := add1_ok w x.2.2 y.2.2 h1.1.2.2.1 h1.2.2.2.1 (limW_mid h1.1.2.2.1) (limW_mid h1.2.2.2.1)
    have k4 := sum_calls h1.1.2.2.1 h1.2.2.2.1
    rw [if_pos h1]
    generalize ladd (limW w x.2.1) (limW w y.2.1) = l at k1 k2
    generalize ladd (limW w x.2.2) (limW w y.2.2) = m at k3 k4
    rw [limV_eq] at k1 k2 k3 k4
    refine dre W 0 12 [] [.agg [.int .i64 l.1, .pr (l.1 = 0 ∧ l.2 < 0), .fi .i64 (if l.1 = 0 then dt l.2 else []), .fi .i64 (if l.1 = 0 then db l.2 else [])], .tup [.int .i64 (sumB w x.2.1 y.2.1).1, .int .i64 (sumB w x.2.1 y.2.1).2]] rfl rfl rfl ⟨k1.at rfl _, k2.at rfl _, trivial⟩ rfl ?_
    refine dre W 0 12 [] [.agg [.int .i64 m.1, .pr (m.1 = 0 ∧ m.2 < 0), .fi .i64 (if m.1 = 0 then dt m.2 else []), .fi .i64 (if m.1 = 0 then db m.2 else [])], .tup [.int .i64 (sumB w x.2.2 y.2.2).1, .int .i64 (sumB w x.2.2 y.2.2).2]] rfl rfl rfl ⟨k3.at rfl _, k4.at rfl _, trivial⟩ rfl ?_
    refine ce W 0 rfl rfl (some_ok (sumB w x.2.1 y.2.1).1 (sumB w x.2.2 y.2.2).2) rfl ?_
    refine rp W 0 rfl rfl rfl (.refl)
end Pf
/- impl's SpanSub -/
namespace Pf
open Go Go.Proofs
theorem implSub_ok (w : Int) (x y : Prop × Int × Int) : AFunP Tryd.prog 22 [.int .i64 w, spA x, spA y] (· = spA (addSp w x (negS' w y))) := by
  refine afun_of Tryd.func22 Tryd.call22 rfl Tryd.ntmps22 rfl ?_
  have W : Walk Tryd.prog TT 22 _ := Walk.of TT_ok Tryd.func22 Tryd.results22
  refine dre W 0 6 [] [spA (negS' w y), spA (addSp w x (negS' w y))] rfl rfl rfl ⟨(implNeg_ok w y).at rfl _, (implAdd_ok w x (negS' w y)).at rfl _, trivial⟩ rfl ?_
  refine rp W 0 rfl rfl rfl (.refl)
end Pf
/- The model's l9Infinite -/
namespace Pf
open Go Go.Proofs
theorem l9Inf_ok (w n : Int) : AFunP Tryd.prog 110 [.int .i64 w, .int .i64 n] (· = .pr (n = top w ∨ n = -top w)) := by
  have ht := top_rng w
  refine afun_of Tryd.func110 Tryd.call110 rfl Tryd.ntmps110 rfl ?_
  have W : Walk Tryd.prog TT 110 _ := Walk.of TT_ok Tryd.func110 Tryd.results110
  refine ce W 0 rfl rfl (specBitTop_ok w) rfl ?_
  refine sp W 0 rfl rfl rfl (fun h1 => ?_) (fun h1 => ?_)
  · refine rp W 0 rfl rfl rfl (.yes (.inl h1))
  · refine ce W 0 rfl rfl (specBitTop_ok w) rfl ?_
    refine rp W 0 rfl rfl rfl (.pr (by omega))
end Pf
/- The model's floats, either width -/
namespace Pf
open Go Go.Proofs
theorem l8Of_w (w n : Int) (hw : w = 32 ∨ w = 64) (h : n.natAbs < fT w) : AFunP Tryd.prog 78 [.int .i64 w, .int .i64 n] (fun v => ∃ A B : Nat, v = .agg [.pr (n < 0), .fi .i64 (dig A), .fi .i64 (dig B)] ∧ B ≠ 0 ∧ mkRat (sg (n < 0) A) B = vl w n ∧ (dig A).length ≤ 200 ∧ (dig B).length ≤ 200) := by
  rcases hw with rfl | rfl
  · refine (l8Of_32 n h).mono ?_
    rintro v ⟨A, B, h1, h2, h3, h4, h5⟩
    exact ⟨A, B, h1, h2, h3, by omega, by omega⟩
  · refine (l8Of_64 n h).mono ?_
    rintro v ⟨A, B, h1, h2, h3, h4, h5⟩
    exact ⟨A, B, h1, h2, h3, by omega, by omega⟩
theorem l8Round_w (w : Int) (hw : w = 32 ∨ w = 64) (p : Prop) (a b : Nat) (r : Rat) (hb : b ≠ 0) (hr : mkRat (sg p a) b = r) (ha : (dig a).length ≤ 1000) (hbl : (dig b).length ≤ 1000) :
    AFunP Tryd.prog 91 [.int .i64 w, .agg [.pr p, .fi .i64 (dig a), .fi .i64 (dig b)], .bool false] (· = .int .i64 (dn w r)) ∧
    AFunP Tryd.prog 91 [.int .i64 w, .agg [.pr p, .fi .i64 (dig a), .fi .i64 (dig b)], .bool true] (· = .int .i64 (up w r)) := by
  rcases hw with rfl | rfl
  · exact l8Round_32 p a b r hb hr ha hbl
  · exact l8Round_64 p a b r hb hr ha hbl
end Pf
/- Bounds of a sum: the three ways -/
namespace Pf
open Go Go.Proofs
theorem sumB_l {w a : Int} (b : Int) (hw : w = 32 ∨ w = 64) (h : a = top w ∨ a = -top w) : sumB w a b = (a, a) := by
  have hp : top w ≠ 0 := by rcases hw with rfl | rfl <;> decide
  unfold sumB limW
  by_cases h1 : a = top w
  · rw [if_pos h1, ladd, if_pos (by decide), lflo, if_neg (by decide)]
    simp [h1]
  · have h2 := h.resolve_left h1
    rw [if_neg h1, if_pos h2, ladd, if_pos (by decide), lflo, if_neg (by decide)]
    simp [h2]
theorem sumB_r {w a b : Int} (hw : w = 32 ∨ w = 64) (h0 : ¬ (a = top w ∨ a = -top w)) (h : b = top w ∨ b = -top w) : sumB w a b = (b, b) := by
  have hl : limW w a = (0, vl w a) := by rw [limW, if_neg (fun k => h0 (.inl k)), if_neg (fun k => h0 (.inr k))]
  unfold sumB
  rw [hl, ladd, if_neg (by simp)]
  unfold limW
  by_cases h1 : b = top w
  · rw [if_pos h1, if_pos (by decide), lflo, if_neg (by decide)]
    simp [h1]
  · have h2 := h.resolve_left h1
    rw [if_neg h1, if_pos h2, if_pos (by decide), lflo, if_neg (by decide)]
    simp [h2]
theorem sumB_f {w a b : Int} (h0 : ¬ (a = top w ∨ a = -top w)) (h : ¬ (b = top w ∨ b = -top w)) : sumB w a b = (dn w (vl w a + vl w b), up w (vl w a + vl w b)) := by
  have hl : limW w a = (0, vl w a) := by rw [limW, if_neg (fun k => h0 (.inl k)), if_neg (fun k => h0 (.inr k))]
  have hm : limW w b = (0, vl w b) := by rw [limW, if_neg (fun k => h (.inl k)), if_neg (fun k => h (.inr k))]
  unfold sumB
  rw [hl, hm, ladd, if_neg (by simp), if_neg (by simp), lflo, if_pos rfl]
end Pf
/- The model's l9Add -/
namespace Pf
open Go Go.Proofs
theorem l9AddDn_ok (w a b : Int) (ha : bitOk w a) (hb : bitOk w b) : AFunP Tryd.prog 62 [.int .i64 w, .int .i64 a, .int .i64 b, .bool false] (· = .int .i64 (sumB w a b).1) := by
  have hw := ha.1
  have ht := top_fT hw
  have h1 := ha.2
  have h2 := hb.2
  refine afun_of Tryd.func62 Tryd.call62 rfl Tryd.ntmps62 rfl ?_
  have W : Walk Tryd.prog TT 62 _ := Walk.of TT_ok Tryd.func62 Tryd.results62
  refine ce W 0 rfl rfl (l9Inf_ok w a) rfl ?_
  refine sp W 0 rfl rfl rfl (fun h3 => ?_) (fun h3 => ?_)
  · rw [sumB_l b hw h3]
    refine rp W 0 rfl rfl rfl (.refl)
  · refine ce W 0 rfl rfl (l9Inf_ok w b) rfl ?_
    refine sp W 0 rfl rfl rfl (fun h4 => ?_) (fun h4 => ?_)
    · rw [sumB_r hw h3 h4]
      refine rp W 0 rfl rfl rfl (.refl)
    · rw [sumB_f h3 h4]
      refine cq W 0 rfl rfl (l8Of_w w a hw (by omega)) ?_
      rintro _ ⟨A, B, rfl, a1, a2, a3, a4⟩
      refine ⟨_, rfl, ?_⟩
      refine cq W 0 rfl rfl (l8Of_w w b hw (by omega)) ?_
      rintro _ ⟨C, D, rfl, b1, b2, b3, b4⟩
      refine ⟨_, rfl, ?_⟩
      refine ce W 0 rfl rfl (l6Sum_ok (a < 0) (b < 0) A B C D (by omega) (by omega) (by omega) (by omega)) rfl ?_
      have es : mkRat (sg (sumP (a < 0) (b < 0) (A * D) (C * B)) (sumT (a < 0) (b < 0) (A * D) (C * B))) (B * D) = vl w a + vl w b := by
        rw [sg_sum, sg_mul_nat, sg_mul_nat, ← Rat.mkRat_add_mkRat _ _ a1 b1, a2, b2]
      have hx : (dig (sumT (a < 0) (b < 0) (A * D) (C * B))).length ≤ 1000 := by
        have := dig_mono (sumT_le (a < 0) (b < 0) (A * D) (C * B)) (dig_len_add (dig_len_mul a3 b4) (dig_len_mul b3 a4)); omega
      have hy : (dig (B * D)).length ≤ 1000 := by have := dig_len_mul a4 b4; omega
      have hz := Nat.mul_ne_zero a1 b1
      generalize sumT (a < 0) (b < 0) (A * D) (C * B) = T at *
      generalize B * D = E at *
      generalize sumP (a < 0) (b < 0) (A * D) (C * B) = p at *
      have e0 : (0 : Int) < (dig T).length ↔ T ≠ 0 := by rw [len_nil, ne_eq, dig_nil]
      refine sp W 0 rfl rfl rfl (fun h5 => ?_) (fun h5 => ?_)
      · have e1 : mkRat (sg ((0 : Int) < (dig T).length) T) E = vl w a + vl w b := by
          rw [← es]; congr 1
          by_cases hT : T = 0
          · subst hT; rw [sg_zero, sg_zero]
          · rw [sg_yes (e0.2 hT), sg_yes h5]
        refine ce W 0 rfl rfl ((l8Round_w w hw _ T E _ hz e1 hx hy).1) rfl ?_
        refine rp W 0 rfl rfl rfl (.refl)
      · have e1 : mkRat (sg False T) E = vl w a + vl w b := by
          rw [← es]; congr 1
          rw [sg_no id, sg_no h5]
        refine ce W 0 rfl rfl (AFun.sub (l8Round_w w hw _ T E _ hz e1 hx hy).1 ⟨.refl, .agg ⟨.no id, .refl, .refl, trivial⟩, .refl, trivial⟩) rfl ?_
        refine rp W 0 rfl rfl rfl (.refl)
theorem l9AddUp_ok (w a b : Int) (ha : bitOk w a) (hb : bitOk w b) : AFunP Tryd.prog 62 [.int .i64 w, .int .i64 a, .int .i64 b, .bool true] (· = .int .i64 (sumB w a b).2) := by
  have hw := ha.1
  have ht := top_fT hw
  have h1 := ha.2
  have h2 := hb.2
  refine afun_of Tryd.func62 Tryd.call62 rfl Tryd.ntmps62 rfl ?_
  have W : Walk Tryd.prog TT 62 _ := Walk.of TT_ok Tryd.func62 Tryd.results62
  refine ce W 0 rfl rfl (l9Inf_ok w a) rfl ?_
  refine sp W 0 rfl rfl rfl (fun h3 => ?_) (fun h3 => ?_)
  · rw [sumB_l b hw h3]
    refine rp W 0 rfl rfl rfl (.refl)
  · refine ce W 0 rfl rfl (l9Inf_ok w b) rfl ?_
    refine sp W 0 rfl rfl rfl (fun h4 => ?_) (fun h4 => ?_)
    · rw [sumB_r hw h3 h4]
      refine rp W 0 rfl rfl rfl (.refl)
    · rw [sumB_f h3 h4]
      refine cq W 0 rfl rfl (l8Of_w w a hw (by omega)) ?_
      rintro _ ⟨A, B, rfl, a1, a2, a3, a4⟩
      refine ⟨_, rfl, ?_⟩
      refine cq W 0 rfl rfl (l8Of_w w b hw (by omega)) ?_
      rintro _ ⟨C, D, rfl, b1, b2, b3, b4⟩
      refine ⟨_, rfl, ?_⟩
      refine ce W 0 rfl rfl (l6Sum_ok (a < 0) (b < 0) A B C D (by omega) (by omega) (by omega) (by omega)) rfl ?_
      have es : mkRat (sg (sumP (a < 0) (b < 0) (A * D) (C * B)) (sumT (a < 0) (b < 0) (A * D) (C * B))) (B * D) = vl w a + vl w b := by
        rw [sg_sum, sg_mul_nat, sg_mul_nat, ← Rat.mkRat_add_mkRat _ _ a1 b1, a2, b2]
      have hx : (dig (sumT (a < 0) (b < 0) (A * D) (C * B))).length ≤ 1000 := by
        have := dig_mono (sumT_le (a < 0) (b < 0) (A * D) (C * B)) (dig_len_add (dig_len_mul a3 b4) (dig_len_mul b3 a4)); omega
      have hy : (dig (B * D)).length ≤ 1000 := by have := dig_len_mul a4 b4; omega
      have hz := Nat.mul_ne_zero a1 b1
      generalize sumT (a < 0) (b < 0) (A * D) (C * B) = T at *
      generalize B * D = E at *
      generalize sumP (a < 0) (b < 0) (A * D) (C * B) = p at *
      have e0 : (0 : Int) < (dig T).length ↔ T ≠ 0 := by rw [len_nil, ne_eq, dig_nil]
      refine sp W 0 rfl rfl rfl (fun h5 => ?_) (fun h5 => ?_)
      · have e1 : mkRat (sg ((0 : Int) < (dig T).length) T) E = vl w a + vl w b := by
          rw [← es]; congr 1
          by_cases hT : T = 0
          · subst hT; rw [sg_zero, sg_zero]
          · rw [sg_yes (e0.2 hT), sg_yes h5]
        refine ce W 0 rfl rfl ((l8Round_w w hw _ T E _ hz e1 hx hy).2) rfl ?_
        refine rp W 0 rfl rfl rfl (.refl)
      · have e1 : mkRat (sg False T) E = vl w a + vl w b := by
          rw [← es]; congr 1
          rw [sg_no id, sg_no h5]
        refine ce W 0 rfl rfl (AFun.sub (l8Round_w w hw _ T E _ hz e1 hx hy).2 ⟨.refl, .agg ⟨.no id, .refl, .refl, trivial⟩, .refl, trivial⟩) rfl ?_
        refine rp W 0 rfl rfl rfl (.refl)
end Pf
/- The model's SpanAdd, SpanSub -/
namespace Pf
open Go Go.Proofs
theorem specAdd_ok (w : Int) (x y : Prop × Int × Int) : AFunP Tryd.prog 19 [.int .i64 w, spA x, spA y] (· = spA (addSp w x y)) := by
  refine afun_of Tryd.func19 Tryd.call19 rfl Tryd.ntmps19 rfl ?_
  have W : Walk Tryd.prog TT 19 _ := Walk.of TT_ok Tryd.func19 Tryd.results19
  unfold addSp
  refine ce W 0 rfl rfl (l9Both_ok w x.1 x.2.1 x.2.2 y.1 y.2.1 y.2.2) rfl ?_
  refine sp W 0 rfl rfl rfl (fun h1 => ?_) (fun h1 => ?_)
  · rw [if_neg (fun k => h1 ⟨⟨k.1.1, k.2.1⟩, k.1.2, k.2.2⟩)]
    refine rp W 0 rfl rfl rfl (sub_noS)
  · have h1 := Classical.not_not.1 h1
    rw [if_pos ⟨⟨h1.1.1, h1.2.1⟩, h1.1.2, h1.2.2⟩]
    have k1 := l9AddDn_ok w x.2.1 y.2.1 h1.2.1.1 h1.2.2.1
    have k2 := l9AddUp_ok w x.2.2 y.2.2 h1.2.1.2.1 h1.2.2.2.1
    refine dre W 0 12 [] [.int .i64 (sumB w x.2.1 y.2.1).1, .int .i64 (sumB w x.2.2 y.2.2).2] rfl rfl rfl ⟨k1.at rfl _, k2.at rfl _, trivial⟩ rfl ?_
    refine ce W 0 rfl rfl (l9Of_ok (sumB w x.2.1 y.2.1).1 (sumB w x.2.2 y.2.2).2) rfl ?_
    refine rp W 0 rfl rfl rfl (.refl)
theorem specSub_ok (w : Int) (x y : Prop × Int × Int) : AFunP Tryd.prog 21 [.int .i64 w, spA x, spA y] (· = spA (addSp w x (negS' w y))) := by
  refine afun_of Tryd.func21 Tryd.call21 rfl Tryd.ntmps21 rfl ?_
  have W : Walk Tryd.prog TT 21 _ := Walk.of TT_ok Tryd.func21 Tryd.results21
  refine dre W 0 6 [] [spA (negS' w y), spA (addSp w x (negS' w y))] rfl rfl rfl ⟨(specNeg_ok w y.1 y.2.1 y.2.2).at rfl _, (specAdd_ok w x (negS' w y)).at rfl _, trivial⟩ rfl ?_
  refine rp W 0 rfl rfl rfl (.refl)
end Pf
/- The laws of SpanAdd and SpanSub -/
namespace Pf
open Go Go.Proofs
theorem fnExactSpanAdd_law (w : Int) (s : Prop) (a b : Int) (t : Prop) (c d : Int) : AFunP Tryd.prog 4 [.int .i64 w, spV s a b, spV t c d] (· = .pr True) := by
  have k1 := specAdd_ok w (s, a, b) (t, c, d)
  have k2 := implAdd_ok w (s, a, b) (t, c, d)
  generalize addSp w (s, a, b) (t, c, d) = r at k1 k2
  have k3 := toSpan_ok s a b
  have k4 := toSpan_ok t c d
  refine afun_of Tryd.func4 Tryd.call4 rfl Tryd.ntmps4 rfl ?_
  have W : Walk Tryd.prog TT 4 _ := Walk.of TT_ok Tryd.func4 Tryd.results4
  refine phg W 0 7 [6] rfl rfl (fun PW => ?_)
  refine pho PW 0 6 [] [spV s a b, spV t c d, spA r] rfl rfl ⟨k3.at rfl _, k4.at rfl _, k1.at rfl _, trivial⟩ rfl rfl ?_
  refine phe PW 0 [] [spV s a b, spV t c d, spA r] rfl ⟨k3.at rfl _, k4.at rfl _, k1.at rfl _, trivial⟩ rfl ?_
  refine phg W 0 7 [6] rfl rfl (fun PW => ?_)
  refine pho PW 0 6 [] [spV s a b, spV t c d, spA r] rfl rfl ⟨k3.at rfl _, k4.at rfl _, k2.at rfl _, trivial⟩ rfl rfl ?_
  refine phe PW 0 [] [spV s a b, spV t c d, spA r] rfl ⟨k3.at rfl _, k4.at rfl _, k2.at rfl _, trivial⟩ rfl ?_
  refine ce W 0 rfl rfl (eqSpan_ok r.1 r.2.1 r.2.2 r.1 r.2.1 r.2.2) rfl ?_
  refine sp W 0 rfl rfl rfl (fun h1 => ?_) (fun h1 => ?_)
  · exact absurd ⟨Iff.rfl, rfl, rfl⟩ h1
  refine rp W 0 rfl rfl rfl (.yes trivial)
theorem fnExactSpanSub_law (w : Int) (s : Prop) (a b : Int) (t : Prop) (c d : Int) : AFunP Tryd.prog 5 [.int .i64 w, spV s a b, spV t c d] (· = .pr True) := by
  have k1 := specSub_ok w (s, a, b) (t, c, d)
  have k2 := implSub_ok w (s, a, b) (t, c, d)
  generalize addSp w (s, a, b) (negS' w (t, c, d)) = r at k1 k2
  have k3 := toSpan_ok s a b
  have k4 := toSpan_ok t c d
  refine afun_of Tryd.func5 Tryd.call5 rfl Tryd.ntmps5 rfl ?_
  have W : Walk Tryd.prog TT 5 _ := Walk.of TT_ok Tryd.func5 Tryd.results5
  refine phg W 0 7 [6] rfl rfl (fun PW => ?_)
  refine pho PW 0 6 [] [spV s a b, spV t c d, spA r] rfl rfl ⟨k3.at rfl _, k4.at rfl _, k1.at rfl _, trivial⟩ rfl rfl ?_
  refine phe PW 0 [] [spV s a b, spV t c d, spA r] rfl ⟨k3.at rfl _, k4.at rfl _, k1.at rfl _, trivial⟩ rfl ?_
  refine phg W 0 7 [6] rfl rfl (fun PW => ?_)
  refine pho PW 0 6 [] [spV s a b, spV t c d, spA r] rfl rfl ⟨k3.at rfl _, k4.at rfl _, k2.at rfl _, trivial⟩ rfl rfl ?_
  refine phe PW 0 [] [spV s a b, spV t c d, spA r] rfl ⟨k3.at rfl _, k4.at rfl _, k2.at rfl _, trivial⟩ rfl ?_
  refine ce W 0 rfl rfl (eqSpan_ok r.1 r.2.1 r.2.2 r.1 r.2.1 r.2.2) rfl ?_
  refine sp W 0 rfl rfl rfl (fun h1 => ?_) (fun h1 => ?_)
  · exact absurd ⟨Iff.rfl, rfl, rfl⟩ h1
  refine rp W 0 rfl rfl rfl (.yes trivial)
end Pf
/- Bounds: signs; bounds of a product -/
namespace Pf
open Go Go.Proofs
theorem vl_zero (w : Int) : vl w 0 = 0 := by
  unfold vl
  rw [show (0 : Int).natAbs = 0 from rfl, fv_zero, sg_zero]; exact Rat.zero_mkRat _
theorem fv_pos {F n : Nat} (h : n ≠ 0) : fv F n ≠ 0 := by
  have := fv_lt (F := F) (show 0 < n by omega)
  omega
theorem vl_lt {w n : Int} : vl w n < 0 ↔ n < 0 := by
  unfold vl
  rw [← (mkRat_parts (n < 0) (fv (fF w) n.natAbs) (2 ^ fK w) (two_nz _)).2.2]
  exact ⟨fun h => h.1, fun h => ⟨h, fv_pos (by omega)⟩⟩
theorem vl_pos {w n : Int} : 0 < vl w n ↔ 0 < n := by
  have h := vl_lt (w := w) (n := n)
  by_cases h0 : n = 0
  · subst h0; rw [vl_zero]; exact ⟨fun k => absurd k Rat.lt_irrefl, fun k => absurd k (by omega)⟩
  · by_cases hn : n < 0
    · exact ⟨fun k => absurd (h.2 hn) (Rat.not_lt.2 (Rat.le_of_lt k)), fun k => by omega⟩
    · refine ⟨fun _ => by omega, fun _ => ?_⟩
      have h1 : ¬ vl w n < 0 := fun k => hn (h.1 k)
      refine Rat.lt_of_le_of_ne (Rat.not_lt.1 h1) fun e => ?_
      have e2 : (vl w n).num = 0 := by rw [← e]; rfl
      unfold vl at e2
      rw [Rat.num_mkRat, if_neg (two_nz _)] at e2
      have e3 : dt (vl w n) = [] := dt_nil.2 e.symm
      unfold vl at e3
      rw [← (mkRat_parts (n < 0) (fv (fF w) n.natAbs) (2 ^ fK w) (two_nz _)).1, lT, dig_nil] at e3
      have hp := fv_pos (F := fF w) (n := n.natAbs) (by omega)
      have hg : 0 < (fv (fF w) n.natAbs).gcd (2 ^ fK w) := Nat.gcd_pos_of_pos_left _ (by omega)
      have h5 : 0 < fv (fF w) n.natAbs / (fv (fF w) n.natAbs).gcd (2 ^ fK w) := Nat.div_pos (Nat.gcd_le_left _ (by omega)) hg
      omega
theorem vl_eq0 {w n : Int} : vl w n = 0 ↔ n = 0 := by
  refine ⟨fun h => ?_, fun h => by rw [h, vl_zero]⟩
  have h1 := vl_lt (w := w) (n := n)
  have h2 := vl_pos (w := w) (n := n)
  rw [h] at h1 h2
  have k1 : ¬ n < 0 := fun k => Rat.lt_irrefl (h1.2 k)
  have k2 : ¬ 0 < n := fun k => Rat.lt_irrefl (h2.2 k)
  omega
/-- The sign of a whole number. -/
def sgI (n : Int) : Int := if n < 0 then -1 else if n = 0 then 0 else 1
theorem fsgn_vl (w n : Int) : fsgn (vl w n < 0) (dt (vl w n)) = sgI n := by
  unfold fsgn sgI
  by_cases h : n < 0
  · rw [if_pos (vl_lt.2 h), if_pos h]
  · rw [if_neg (fun k => h (vl_lt.1 k)), if_neg h]
    by_cases h0 : n = 0
    · rw [if_pos (dt_nil.2 (vl_eq0.2 h0)), if_pos h0]
    · rw [if_neg (fun k => h0 (vl_eq0.1 (dt_nil.1 k))), if_neg h0]
theorem top_pos {w : Int} (hw : w = 32 ∨ w = 64) : 0 < top w := by rcases hw with rfl | rfl <;> decide
theorem lsgn_limW {w n : Int} (hw : w = 32 ∨ w = 64) : lsgn (limW w n) = sgI n := by
  have hp := top_pos hw
  unfold lsgn limW
  by_cases h1 : n = top w
  · rw [if_pos h1, if_neg (by decide)]
    unfold sgI; rw [if_neg (by omega), if_neg (by omega)]
  · rw [if_neg h1]
    by_cases h2 : n = -top w
    · rw [if_pos h2, if_neg (by decide)]
      unfold sgI; rw [if_pos (by omega)]
    · rw [if_neg h2, if_pos rfl]
      exact fsgn_vl w n
theorem limW_fin {w n : Int} (h : ¬ (n = top w ∨ n = -top w)) : limW w n = (0, vl w n) := by
  rw [limW, if_neg (fun k => h (.inl k)), if_neg (fun k => h (.inr k))]
theorem limW_inf {w n : Int} (hw : w = 32 ∨ w = 64) (h : n = top w ∨ n = -top w) : limW w n = (sgI n, 0) := by
  have hp := top_pos hw
  unfold limW sgI
  by_cases h1 : n = top w
  · rw [if_pos h1, if_neg (by omega), if_neg (by omega)]
  · rw [if_neg h1, if_pos (h.resolve_left h1), if_pos (by omega)]
noncomputable def mulB (w a b : Int) : Int × Int := lflo w (ltimes (limW w a) (limW w b))
theorem mulB_z {w a b : Int} (hw : w = 32 ∨ w = 64) (h : a = 0 ∨ b = 0) : mulB w a b = (0, 0) := by
  have hp := top_pos hw
  have e : ltimes (limW w a) (limW w b) = (0, 0) := by
    unfold ltimes
    split
    · rename_i k
      have ha : ¬ (a = top w ∨ a = -top w) := fun h1 => by
        have := k.1; rw [limW_inf hw h1] at this
        unfold sgI at this; split at this <;> (try split at this) <;> omega
      have hb : ¬ (b = top w ∨ b = -top w) := fun h1 => by
        have := k.2; rw [limW_inf hw h1] at this
        unfold sgI at this; split at this <;> (try split at this) <;> omega
      rw [limW_fin ha, limW_fin hb]
      rcases h with rfl | rfl
      · rw [vl_zero, Rat.zero_mul]
      · rw [vl_zero, Rat.mul_zero]
    · rw [lsgn_limW hw, lsgn_limW hw]
      rcases h with rfl | rfl
      · rw [show sgI 0 = 0 from rfl, Int.zero_mul]
      · rw [show sgI 0 = 0 from rfl, Int.mul_zero]
  rw [mulB, e, lflo, if_pos rfl, (dn_zero w).1, (dn_zero w).2]
theorem sgI_mul (a b : Int) (ha : a ≠ 0) (hb : b ≠ 0) : sgI a * sgI b = if (a < 0 ↔ b < 0) then 1 else -1 := by
  unfold sgI
  by_cases h1 : a < 0 <;> by_cases h2 : b < 0 <;> simp [h1, h2, ha, hb]
theorem mulB_i {w a b : Int} (hw : w = 32 ∨ w = 64) (ha : a ≠ 0) (hb : b ≠ 0) (h : (a = top w ∨ a = -top w) ∨ (b = top w ∨ b = -top w)) : mulB w a b = if (a < 0 ↔ b < 0) then (top w, top w) else (-top w, -top w) := by
  have e : ltimes (limW w a) (limW w b) = (sgI a * sgI b, 0) := by
    unfold ltimes
    rw [if_neg, lsgn_limW hw, lsgn_limW hw]
    rintro ⟨k1, k2⟩
    rcases h with h | h
    · rw [limW_inf hw h] at k1; unfold sgI at k1; split at k1 <;> (try split at k1) <;> omega
    · rw [limW_inf hw h] at k2; unfold sgI at k2; split at k2 <;> (try split at k2) <;> omega
  rw [mulB, e, lflo, sgI_mul a b ha hb]
  split
  · rw [if_neg (by decide)]; simp
  · rw [if_neg (by decide)]; simp
theorem mulB_f {w a b : Int} (h0 : ¬ (a = top w ∨ a = -top w)) (h : ¬ (b = top w ∨ b = -top w)) : mulB w a b = (dn w (vl w a * vl w b), up w (vl w a * vl w b)) := by
  rw [mulB, limW_fin h0, limW_fin h, ltimes, if_pos ⟨rfl, rfl⟩, lflo, if_pos rfl]
theorem ltimes_mid {w a b : Int} (ha : bitOk w a) (hb : bitOk w b) : (ltimes (limW w a) (limW w b)).1 = 0 → mid (ltimes (limW w a) (limW w b)).2 := by
  have h1 := limW_midN ha
  have h2 := limW_midN hb
  unfold ltimes
  split
  · rename_i k
    intro _
    have := midN_mul (h1 k.1) (h2 k.2)
    exact ⟨Nat.le_trans this.1 (by decide), Nat.le_trans this.2 (by decide)⟩
  · intro _
    dsimp only
    unfold mid dt db
    exact ⟨by rw [show dig (Rat.num 0).natAbs = [] from dig_nil.2 rfl]; decide, by rw [show dig (Rat.den 0) = [1] from dig_one]; decide⟩
theorem ltimes_rng {w a b : Int} : -1 ≤ (ltimes (limW w a) (limW w b)).1 ∧ (ltimes (limW w a) (limW w b)).1 ≤ 1 := by
  unfold ltimes
  split
  · dsimp only; omega
  · exact lsgn_mul _ _ (limW_rng w a) (limW_rng w b)
theorem mul_calls {w a b : Int} (ha : bitOk w a) (hb : bitOk w b) : AFunP Tryd.prog 60 [limV (ltimes (limW w a) (limW w b)), .int .i64 w] (· = .tup [.int .i64 (mulB w a b).1, .int .i64 (mulB w a b).2]) :=
  lfloats_ok w ha.1 _ (ltimes_mid ha hb) ltimes_rng
end Pf
/- Bounds of a quotient; the part above 0 -/
namespace Pf
open Go Go.Proofs
theorem vl_negate (w n : Int) : vl w (-n) = - vl w n := by
  unfold vl
  rw [Rat.neg_mkRat, Int.natAbs_neg]
  congr 1
  by_cases h0 : n = 0
  · subst h0; rw [show (0 : Int).natAbs = 0 from rfl, fv_zero, sg_zero, sg_zero]; rfl
  · by_cases h : n < 0
    · rw [sg_yes h, sg_no (show ¬ -n < 0 by omega), Int.neg_neg]
    · rw [sg_no h, sg_yes (show -n < 0 by omega)]
theorem mkRat_mono {a b : Int} {d : Nat} (hd : d ≠ 0) (h : a ≤ b) : mkRat a d ≤ mkRat b d := by
  rw [Rat.mkRat_eq_div, Rat.mkRat_eq_div, Rat.div_def, Rat.div_def]
  refine Rat.mul_le_mul_of_nonneg_right (Rat.intCast_le_intCast.2 h) (Rat.le_of_lt (Rat.inv_pos.2 ?_))
  rw [Rat.natCast_pos]; omega
theorem vl_mono {w a b : Int} (h : a ≤ b) : vl w a ≤ vl w b := by
  unfold vl
  refine mkRat_mono (two_nz _) ?_
  by_cases ha : a < 0
  · rw [sg_yes ha]
    by_cases hb : b < 0
    · rw [sg_yes hb]
      have := fv_le (F := fF w) (show b.natAbs ≤ a.natAbs by omega)
      omega
    · rw [sg_no hb]; omega
  · rw [sg_no ha, sg_no (show ¬ b < 0 by omega)]
    have := fv_le (F := fF w) (show a.natAbs ≤ b.natAbs by omega)
    omega
noncomputable def quotB (w a c : Int) : Int × Int := lflo w (lby (limW w a) (limW w c))
theorem quotB_z {w a c : Int} (hw : w = 32 ∨ w = 64) (h : a = 0 ∨ (c = top w ∨ c = -top w)) : quotB w a c = (0, 0) := by
  have hp := top_pos hw
  have e : lby (limW w a) (limW w c) = (0, 0) := by
    unfold lby
    by_cases hc : c = top w ∨ c = -top w
    · rw [if_pos]
      rw [limW_inf hw hc]; unfold sgI; dsimp only; split <;> (try split) <;> omega
    · have ha : a = 0 := h.resolve_right hc
      subst ha
      rw [limW_fin hc, limW_fin (w := w) (n := 0) (by omega), if_neg (by simp), if_neg (by simp), vl_zero]
      simp [Rat.div_def, Rat.zero_mul]
  rw [quotB, e, lflo, if_pos rfl, (dn_zero w).1, (dn_zero w).2]
theorem quotB_a {w a c : Int} (hw : w = 32 ∨ w = 64) (h : a = top w ∨ a = -top w) (hc : ¬ (c = top w ∨ c = -top w)) : quotB w a c = (a, a) := by
  have hp := top_pos hw
  have ha := limW_inf hw h
  have hs : sgI a ≠ 0 := by unfold sgI; split <;> (try split) <;> omega
  rw [quotB, limW_fin hc, ha, lby, if_neg (by simp), if_pos hs, lflo, if_neg hs]
  have : sgI a * top w = a := by
    unfold sgI
    rcases h with h | h
    · rw [if_neg (by omega), if_neg (by omega)]; omega
    · rw [if_pos (by omega)]; omega
  dsimp only; rw [this]
theorem quotB_f {w a c : Int} (ha : ¬ (a = top w ∨ a = -top w)) (hc : ¬ (c = top w ∨ c = -top w)) : quotB w a c = (dn w (vl w a / vl w c), up w (vl w a / vl w c)) := by
  rw [quotB, limW_fin hc, limW_fin ha, lby, if_neg (by simp), if_neg (by simp), lflo, if_pos rfl]
theorem quotB_neg {w a c : Int} (hw : w = 32 ∨ w = 64) : quotB w (-a) c = (-(quotB w a c).2, -(quotB w a c).1) := by
  by_cases h1 : a = 0 ∨ (c = top w ∨ c = -top w)
  · rw [quotB_z hw h1, quotB_z hw (h1.imp (by omega) id)]; rfl
  · have h1' := not_or.1 h1
    by_cases h2 : a = top w ∨ a = -top w
    · rw [quotB_a hw h2 h1'.2, quotB_a hw (by omega) h1'.2]
    · rw [quotB_f h2 h1'.2, quotB_f (by omega) h1'.2, vl_negate, Rat.div_def, Rat.neg_mul, ← Rat.div_def, dn_neg, up_neg]
theorem dn_nonneg {w : Int} {r : Rat} (h : 0 ≤ r) : 0 ≤ dn w r ∧ 0 ≤ up w r := by
  unfold dn up
  rw [if_neg (Rat.not_lt.2 h), if_neg (Rat.not_lt.2 h)]
  omega
theorem div_nonneg' {a b : Rat} (ha : 0 ≤ a) (hb : 0 < b) : 0 ≤ a / b := by
  rw [Rat.div_def]; exact Rat.mul_nonneg ha (Rat.le_of_lt (Rat.inv_pos.2 hb))
theorem div_le_div' {a b c d : Rat} (hb : 0 ≤ b) (h : a ≤ b) (hd : 0 < d) (hdc : d ≤ c) : a / c ≤ b / d := by
  have hc : 0 < c := by
    refine Rat.not_le.1 fun k => Rat.not_le.2 hd (Rat.le_trans hdc k)
  refine Rat.not_lt.1 fun k => ?_
  rw [Rat.lt_div_iff hc] at k
  have h1 : b / d * d ≤ b / d * c := Rat.mul_le_mul_of_nonneg_left hdc (div_nonneg' hb hd)
  rw [Rat.div_mul_cancel (Rat.ne_of_gt hd)] at h1
  exact Rat.not_le.2 k (Rat.le_trans h h1)
theorem le0 {w n : Int} (h : 0 ≤ n) : 0 ≤ vl w n := by have := vl_mono (w := w) h; rwa [vl_zero] at this
theorem up_rng' (w : Int) (r : Rat) : -(fT w : Int) < up w r ∧ up w r ≤ fT w := by
  have h := dn_rng w (-r)
  rw [dn_neg] at h
  omega
theorem quotB_rng {w a c : Int} (hb : bitOk w a) : -top w ≤ (quotB w a c).1 ∧ (quotB w a c).2 ≤ top w ∧ (a ≠ top w → (quotB w a c).1 ≠ top w) ∧ (a ≠ -top w → (quotB w a c).2 ≠ -top w) := by
  have hw := hb.1
  have hp := top_pos hw
  have ht := top_fT hw
  have hbr := hb.2
  by_cases h1 : a = 0 ∨ (c = top w ∨ c = -top w)
  · rw [quotB_z hw h1]; dsimp only; omega
  · have h1' := not_or.1 h1
    by_cases h2 : a = top w ∨ a = -top w
    · rw [quotB_a hw h2 h1'.2]; dsimp only; omega
    · rw [quotB_f h2 h1'.2]
      have k1 := dn_rng w (vl w a / vl w c)
      have k2 := up_rng' w (vl w a / vl w c)
      dsimp only
      omega
theorem quotB_nonneg {w a c : Int} (hw : w = 32 ∨ w = 64) (ha : 0 ≤ a) (hc : 0 < c) : 0 ≤ (quotB w a c).1 ∧ 0 ≤ (quotB w a c).2 := by
  by_cases h1 : a = 0 ∨ (c = top w ∨ c = -top w)
  · rw [quotB_z hw h1]; exact ⟨Int.le_refl _, Int.le_refl _⟩
  · have h1' := not_or.1 h1
    by_cases h2 : a = top w ∨ a = -top w
    · rw [quotB_a hw h2 h1'.2]; exact ⟨ha, ha⟩
    · rw [quotB_f h2 h1'.2]
      exact dn_nonneg (div_nonneg' (le0 ha) (vl_pos.2 hc))
theorem quotB_mono {w a b c d : Int} (hb : bitOk w b) (ha : 0 ≤ a) (hab : a ≤ b) (hd : 0 < d) (hdc : d ≤ c) (hc : c ≤ top w) : (quotB w a c).1 ≤ (quotB w b d).2 := by
  have hw := hb.1
  have hp := top_pos hw
  have hbr := hb.2
  have n2 := (quotB_nonneg hw (show 0 ≤ b by omega) hd).2
  by_cases h1 : a = 0 ∨ (c = top w ∨ c = -top w)
  · rw [quotB_z hw h1]; exact n2
  · have h1' := not_or.1 h1
    have hdi : ¬ (d = top w ∨ d = -top w) := by omega
    by_cases h2 : b = top w ∨ b = -top w
    · rw [quotB_a hw h2 hdi]
      have := (quotB_rng (w := w) (a := a) (c := c) ⟨hw, by omega, by omega⟩)
      by_cases h3 : a = top w ∨ a = -top w
      · rw [quotB_a hw h3 h1'.2]; exact hab
      · rw [quotB_f h3 h1'.2]
        have k1 := dn_rng w (vl w a / vl w c)
        have ht := top_fT hw
        dsimp only; omega
    · have h3 : ¬ (a = top w ∨ a = -top w) := by omega
      rw [quotB_f h3 h1'.2, quotB_f h2 hdi]
      exact dn_le_up (div_le_div' (le0 (by omega)) (vl_mono hab) (vl_pos.2 hd) (vl_mono hdc))
open Classical in
/-- All quotients of what the first has by what is above 0 in the second. -/
noncomputable def partS (w : Int) (x y : Prop × Int × Int) : Prop × Int × Int :=
  if y.2.2 ≤ 0 then noS else (True, (if 0 ≤ x.2.1 then (quotB w x.2.1 y.2.2).1 else if 0 < y.2.1 then (quotB w x.2.1 y.2.1).1 else -top w), (if x.2.2 ≤ 0 then (quotB w x.2.2 y.2.2).2 else if 0 < y.2.1 then (quotB w x.2.2 y.2.1).2 else top w))
theorem partS_ok {w : Int} {x y : Prop × Int × Int} (hx : fullS w x) (hy : fullS w y) (h : ¬ y.2.2 ≤ 0) : fullS w (partS w x y) := by
  obtain ⟨sx, a, b⟩ := x
  obtain ⟨sy, c, d⟩ := y
  obtain ⟨-, x1, x2, x3, x4, x5⟩ := hx
  obtain ⟨-, y1, y2, y3, y4, y5⟩ := hy
  have hw := x1.1
  have hp := top_pos hw
  rw [partS, if_neg h]
  dsimp only at *
  have x1r := x1.2
  have x2r := x2.2
  have y1r := y1.2
  have y2r := y2.2
  have r1 := quotB_rng (c := d) x1
  have r2 := quotB_rng (c := c) x1
  have r3 := quotB_rng (c := d) x2
  have r4 := quotB_rng (c := c) x2
  refine ⟨trivial, ?_⟩
  dsimp only
  -- the lower bound is no infinite one above, the upper none below
  have key : ∀ lo hi : Int, lo ≤ hi → -top w ≤ lo → hi ≤ top w → lo ≠ top w → hi ≠ -top w → pairOk w lo hi := fun lo hi k1 k2 k3 k4 k5 => ⟨⟨hw, by omega, by omega⟩, ⟨hw, by omega, by omega⟩, k1, k4, k5⟩
  by_cases ha : 0 ≤ a
  · rw [if_pos ha]
    have n1 := quotB_nonneg (c := d) hw ha (by omega)
    by_cases hb : b ≤ 0
    · have ea : a = 0 := by omega
      have eb : b = 0 := by omega
      rw [if_pos hb, ea, eb, quotB_z hw (.inl rfl)]
      exact key _ _ (by omega) (by omega) (by omega) (by omega) (by omega)
    · rw [if_neg hb]
      by_cases hc : 0 < c
      · rw [if_pos hc]
        have m := quotB_mono x2 ha x3 hc y3 (by omega)
        exact key _ _ m (by omega) (by omega) (by omega) (by omega)
      · rw [if_neg hc]
        refine key _ _ ?_ (by omega) (by omega) (by omega) (by omega)
        have := quotB_mono (w := w) (a := a) (b := top w) (c := d) (d := d) ⟨hw, by omega, by omega⟩ ha (by omega) (by omega) (Int.le_refl _) (by omega)
        have e := (quotB_rng (w := w) (a := top w) (c := d) ⟨hw, by omega, by omega⟩).2.1
        omega
  · rw [if_neg ha]
    by_cases hb : b ≤ 0
    · rw [if_pos hb]
      by_cases hc : 0 < c
      · rw [if_pos hc]
        have m := quotB_mono (w := w) (a := -b) (b := -a) (c := d) (d := c) ⟨hw, by omega, by omega⟩ (by omega) (by omega) hc y3 (by omega)
        rw [quotB_neg hw, quotB_neg hw] at m
        dsimp only at m
        exact key _ _ (by omega) (by omega) (by omega) (by omega) (by omega)
      · rw [if_neg hc]
        have n := quotB_neg (a := b) (c := d) hw
        have n2 := quotB_rng (w := w) (a := -b) (c := d) ⟨hw, by omega, by omega⟩
        rw [n] at n2
        dsimp only at n2
        have m := quotB_mono (w := w) (a := -b) (b := top w) (c := d) (d := d) ⟨hw, by omega, by omega⟩ (by omega) (by omega) (by omega) (Int.le_refl _) (by omega)
        have e := (quotB_rng (w := w) (a := top w) (c := d) ⟨hw, by omega, by omega⟩).2.1
        rw [n] at m
        dsimp only at m
        exact key _ _ (by omega) (by omega) (by omega) (by omega) (by omega)
    · rw [if_neg hb]
      by_cases hc : 0 < c
      · rw [if_pos hc, if_pos hc]
        have n1 := quotB_nonneg (w := w) (a := -a) (c := c) hw (by omega) hc
        rw [quotB_neg hw] at n1
        dsimp only at n1
        have n2 := quotB_nonneg (w := w) (a := b) (c := c) hw (by omega) hc
        exact key _ _ (by omega) (by omega) (by omega) (by omega) (by omega)
      · rw [if_neg hc, if_neg hc]
        exact key _ _ (by omega) (by omega) (by omega) (by omega) (by omega)
theorem partS_neg {w : Int} {x y : Prop × Int × Int} (hx : fullS w x) : partS w (True, -x.2.2, -x.2.1) y = if y.2.2 ≤ 0 then noS else (True, -(partS w x y).2.2, -(partS w x y).2.1) := by
  have hw := hx.2.1.1
  have hp := top_pos hw
  have h3 := hx.2.2.2.1
  by_cases h : y.2.2 ≤ 0
  · rw [if_pos h, partS, if_pos h]
  · rw [if_neg h, partS, if_neg h, partS, if_neg h]
    dsimp only
    rw [quotB_neg hw, quotB_neg hw, quotB_neg hw, quotB_neg hw]
    dsimp only
    refine Prod.ext rfl (Prod.ext ?_ ?_)
    · dsimp only
      by_cases hb : x.2.2 ≤ 0
      · rw [if_pos (show 0 ≤ -x.2.2 by omega), if_pos hb]
      · rw [if_neg (show ¬ 0 ≤ -x.2.2 by omega), if_neg hb]
        split <;> rfl
    · dsimp only
      by_cases ha : 0 ≤ x.2.1
      · rw [if_pos (show -x.2.1 ≤ 0 by omega), if_pos ha]
      · rw [if_neg (show ¬ -x.2.1 ≤ 0 by omega), if_neg ha]
        split <;> omega
end Pf
/- Two parts of a quotient -/
namespace Pf
open Go Go.Proofs
/-- What two parts are together: two spans, or their hull. -/
noncomputable def twoV (w : Int) (p q : Prop × Int × Int) : (Prop × Int × Int) × (Prop × Int × Int) :=
  open Classical in if p.1 ∧ q.1 ∧ p.2.2 < q.2.1 then (p, q) else if p.1 ∧ q.1 ∧ q.2.2 < p.2.1 then (q, p) else (hullS w p q, noS)
def okS (w : Int) (z : Prop × Int × Int) : Prop := z = noS ∨ fullS w z
theorem okS_span {w : Int} (hw : w = 32 ∨ w = 64) {z : Prop × Int × Int} (h : okS w z) : spanOk w z.1 z.2.1 z.2.2 := by
  rcases h with rfl | h
  · exact ⟨hw, .inr ⟨id, rfl, rfl⟩⟩
  · exact (fullS_iff.1 h).2
theorem okS_no {w : Int} {z : Prop × Int × Int} (h : okS w z) (hn : ¬ z.1) : z = noS := h.resolve_right fun k => hn k.1
theorem okS_full {w : Int} {z : Prop × Int × Int} (h : okS w z) (hn : z.1) : fullS w z := by
  rcases h with rfl | h
  · exact hn.elim
  · exact h
theorem two_p {w : Int} (hw : w = 32 ∨ w = 64) {p q : Prop × Int × Int} (hp : okS w p) (hq : okS w q) (h : ¬ p.1) : twoV w p q = (q, noS) := by
  rw [twoV, if_neg (fun k => h k.1), if_neg (fun k => h k.1), hullS, if_pos ⟨okS_span hw hp, okS_span hw hq⟩, if_neg h]
theorem two_q {w : Int} (hw : w = 32 ∨ w = 64) {p q : Prop × Int × Int} (hp : okS w p) (hq : okS w q) (h : p.1) (h2 : ¬ q.1) : twoV w p q = (p, noS) := by
  rw [twoV, if_neg (fun k => h2 k.2.1), if_neg (fun k => h2 k.2.1), hullS, if_pos ⟨okS_span hw hp, okS_span hw hq⟩, if_pos h, if_neg h2]
theorem meet_iff {w : Int} {p q : Prop × Int × Int} (hp : fullS w p) (hq : fullS w q) : (meetS w p q).1 ↔ (p.2.1 ≤ q.2.2 ∧ q.2.1 ≤ p.2.2) := by
  have h1 := hp.2
  have h2 := hq.2
  unfold pairOk bitOk at h1 h2
  unfold meetS
  by_cases h : fullS w p ∧ fullS w q ∧ pairOk w (max p.2.1 q.2.1) (min p.2.2 q.2.2)
  · rw [if_pos h]
    have := h.2.2.2.2.1
    exact ⟨fun _ => by omega, fun _ => trivial⟩
  · rw [if_neg h]
    refine ⟨fun k => k.elim, fun k => (h ⟨hp, hq, ?_⟩).elim⟩
    unfold pairOk bitOk
    refine ⟨⟨h1.1.1, by omega, by omega⟩, ⟨h1.1.1, by omega, by omega⟩, by omega, ?_, ?_⟩
    · intro k; omega
    · intro k; omega
theorem two_m {w : Int} {p q : Prop × Int × Int} (hp : fullS w p) (hq : fullS w q) (h : (meetS w p q).1) : twoV w p q = (hullS w p q, noS) := by
  have := (meet_iff hp hq).1 h
  rw [twoV, if_neg (fun k => by omega), if_neg (fun k => by omega)]
theorem two_l {w : Int} {p q : Prop × Int × Int} (hp : fullS w p) (hq : fullS w q) (h : ¬ (meetS w p q).1) (hl : p.2.1 < q.2.1) : twoV w p q = (p, q) := by
  have h1 := mt (meet_iff hp hq).2 h
  have := hp.2.2.2.1
  have := hq.2.2.2.1
  rw [twoV, if_pos ⟨hp.1, hq.1, by omega⟩]
theorem two_r {w : Int} {p q : Prop × Int × Int} (hp : fullS w p) (hq : fullS w q) (h : ¬ (meetS w p q).1) (hl : ¬ p.2.1 < q.2.1) : twoV w p q = (q, p) := by
  have h1 := mt (meet_iff hp hq).2 h
  have := hp.2.2.2.1
  have := hq.2.2.2.1
  rw [twoV, if_neg (fun k => by omega), if_pos ⟨hp.1, hq.1, by omega⟩]
open Classical in
noncomputable def twoS (w : Int) (x y : Prop × Int × Int) : (Prop × Int × Int) × (Prop × Int × Int) :=
  if fullS w x ∧ fullS w y then twoV w (partS w x y) (negS' w (partS w x (negS' w y))) else (noS, noS)
theorem negS_ok {w : Int} (hw : w = 32 ∨ w = 64) {x : Prop × Int × Int} (h : fullS w x) : fullS w (negS' w x) := by
  have h1 := h.2
  unfold negS'
  rw [if_pos h]
  unfold pairOk bitOk at h1
  refine ⟨trivial, ⟨hw, ?_, ?_⟩, ⟨hw, ?_, ?_⟩, ?_, ?_, ?_⟩ <;> dsimp only <;> omega
theorem negS_no (w : Int) : negS' w noS = noS := if_neg (fun k => k.1)
theorem partS_okS {w : Int} {x y : Prop × Int × Int} (hx : fullS w x) (hy : fullS w y) : okS w (partS w x y) := by
  by_cases h : y.2.2 ≤ 0
  · exact .inl (by rw [partS, if_pos h])
  · exact .inr (partS_ok hx hy h)
theorem negS_okS {w : Int} {x : Prop × Int × Int} (h : okS w x) : okS w (negS' w x) := by
  rcases h with rfl | h
  · exact .inl (negS_no w)
  · exact .inr (negS_ok h.2.1.1 h)
theorem part_below {w : Int} {x y : Prop × Int × Int} (hx : fullS w x) (hy : fullS w y) : partS w (negS' w x) (negS' w y) = negS' w (partS w x (negS' w y)) := by
  have hn := negS_ok hx.2.1.1 hy
  rw [show negS' w x = (True, -x.2.2, -x.2.1) from if_pos hx, partS_neg hx]
  by_cases h : (negS' w y).2.2 ≤ 0
  · rw [if_pos h, show partS w x (negS' w y) = noS by rw [partS, if_pos h], negS_no]
  · rw [if_neg h, show negS' w (partS w x (negS' w y)) = _ from if_pos (partS_ok hx hn h)]
theorem twoS_okS {w : Int} (hw : w = 32 ∨ w = 64) (x y : Prop × Int × Int) : okS w (twoS w x y).1 ∧ okS w (twoS w x y).2 := by
  unfold twoS
  split
  · rename_i h
    have h1 := partS_okS h.1 h.2
    have h2 := negS_okS (partS_okS h.1 (negS_ok hw h.2))
    generalize partS w x y = p at *
    generalize negS' w (partS w x (negS' w y)) = q at *
    unfold twoV
    split
    · exact ⟨h1, h2⟩
    · split
      · exact ⟨h2, h1⟩
      · refine ⟨?_, .inl rfl⟩
        unfold hullS
        rw [if_pos ⟨okS_span hw h1, okS_span hw h2⟩]
        split
        · split
          · rename_i k1 k2
            have f1 := (okS_full h1 k1).2
            have f2 := (okS_full h2 k2).2
            unfold pairOk bitOk at f1 f2
            refine .inr ⟨trivial, ⟨hw, ?_, ?_⟩, ⟨hw, ?_, ?_⟩, ?_, ?_, ?_⟩ <;> dsimp only <;> omega
          · exact h1
        · exact h2
  · exact ⟨.inl rfl, .inl rfl⟩
end Pf
/- The model's l9Mul, SpanMul -/
namespace Pf
open Go Go.Proofs
theorem l9MulDn_ok (w a b : Int) (ha : bitOk w a) (hb : bitOk w b) : AFunP Tryd.prog 54 [.int .i64 w, .int .i64 a, .int .i64 b, .bool false] (· = .int .i64 (mulB w a b).1) := by
  have hw := ha.1
  have ht := top_fT hw
  have htr := top_rng w
  have h1 := ha.2
  have h2 := hb.2
  refine afun_of Tryd.func54 Tryd.call54 rfl Tryd.ntmps54 rfl ?_
  have W : Walk Tryd.prog TT 54 _ := Walk.of TT_ok Tryd.func54 Tryd.results54
  refine sp W 0 rfl rfl rfl (fun h3 => ?_) (fun h3 => ?_)
  · rw [mulB_z hw (.inl h3)]
    refine rp W 0 rfl rfl rfl (.refl)
  · refine sp W 0 rfl rfl rfl (fun h4 => ?_) (fun h4 => ?_)
    · rw [mulB_z hw (.inr h4)]
      refine rp W 0 rfl rfl rfl (.refl)
    · have i1 := fun h => mulB_i (w := w) hw h3 h4 h
      refine ce W 0 rfl rfl (l9Inf_ok w a) rfl ?_
      refine sp W 0 rfl rfl rfl (fun h5 => ?_) (fun h5 => ?_)
      · rw [i1 (.inl h5)]
        refine sp W 0 rfl rfl rfl (fun h7 => ?_) (fun h7 => ?_)
        · rw [if_neg h7]
          refine ce W 0 rfl rfl (specBitTop_ok w) rfl ?_
          refine rp W 0 rfl rfl rfl (.refl)
        · rw [if_pos (Classical.not_not.1 h7)]
          refine ce W 0 rfl rfl (specBitTop_ok w) rfl ?_
          refine rp W 0 rfl rfl rfl (.refl)
      · refine ce W 0 rfl rfl (l9Inf_ok w b) rfl ?_
        refine sp W 0 rfl rfl rfl (fun h6 => ?_) (fun h6 => ?_)
        · rw [i1 (.inr h6)]
          refine sp W 0 rfl rfl rfl (fun h7 => ?_) (fun h7 => ?_)
          · rw [if_neg h7]
            refine ce W 0 rfl rfl (specBitTop_ok w) rfl ?_
            refine rp W 0 rfl rfl rfl (.refl)
          · rw [if_pos (Classical.not_not.1 h7)]
            refine ce W 0 rfl rfl (specBitTop_ok w) rfl ?_
            refine rp W 0 rfl rfl rfl (.refl)
        · rw [mulB_f h5 h6]
          refine cq W 0 rfl rfl (l8Of_w w a hw (by omega)) ?_
          rintro _ ⟨A, B, rfl, a1, a2, a3, a4⟩
          refine ⟨_, rfl, ?_⟩
          refine cq W 0 rfl rfl (l8Of_w w b hw (by omega)) ?_
          rintro _ ⟨C, D, rfl, b1, b2, b3, b4⟩
          refine ⟨_, rfl, ?_⟩
          have hx := dig_len_mul a3 b3
          have hy := dig_len_mul a4 b4
          have es : mkRat (sg (¬ (a < 0 ↔ b < 0)) (A * C)) (B * D) = vl w a * vl w b := by
            rw [sg_mul, ← Rat.mkRat_mul_mkRat, a2, b2]
          refine dre W 0 14 [] [.fi .i64 (dig (A * C)), .fi .i64 (dig (B * D))] rfl rfl rfl ⟨(l5Mul_ok A C (by omega) (by omega)).at rfl _, (l5Mul_ok B D (by omega) (by omega)).at rfl _, trivial⟩ rfl ?_
          refine ce W 0 rfl rfl ((l8Round_w w hw _ (A * C) (B * D) _ (Nat.mul_ne_zero a1 b1) es (by omega) (by omega)).1) rfl ?_
          refine rp W 0 rfl rfl rfl (.refl)
theorem l9MulUp_ok (w a b : Int) (ha : bitOk w a) (hb : bitOk w b) : AFunP Tryd.prog 54 [.int .i64 w, .int .i64 a, .int .i64 b, .bool true] (· = .int .i64 (mulB w a b).2) := by
  have hw := ha.1
  have ht := top_fT hw
  have htr := top_rng w
  have h1 := ha.2
  have h2 := hb.2
  refine afun_of Tryd.func54 Tryd.call54 rfl Tryd.ntmps54 rfl ?_
  have W : Walk Tryd.prog TT 54 _ := Walk.of TT_ok Tryd.func54 Tryd.results54
  refine sp W 0 rfl rfl rfl (fun h3 => ?_) (fun h3 => ?_)
  · rw [mulB_z hw (.inl h3)]
    refine rp W 0 rfl rfl rfl (.refl)
  · refine sp W 0 rfl rfl rfl (fun h4 => ?_) (fun h4 => ?_)
    · rw [mulB_z hw (.inr h4)]
      refine rp W 0 rfl rfl rfl (.refl)
    · have i1 := fun h => mulB_i (w := w) hw h3 h4 h
      refine ce W 0 rfl rfl (l9Inf_ok w a) rfl ?_
      refine sp W 0 rfl rfl rfl (fun h5 => ?_) (fun h5 => ?_)
      · rw [i1 (.inl h5)]
        refine sp W 0 rfl rfl rfl (fun h7 => ?_) (fun h7 => ?_)
        · rw [if_neg h7]
          refine ce W 0 rfl rfl (specBitTop_ok w) rfl ?_
          refine rp W 0 rfl rfl rfl (.refl)
        · rw [if_pos (Classical.not_not.1 h7)]
          refine ce W 0 rfl rfl (specBitTop_ok w) rfl ?_
          refine rp W 0 rfl rfl rfl (.refl)
      · refine ce W 0 rfl rfl (l9Inf_ok w b) rfl ?_
        refine sp W 0 rfl rfl rfl (fun h6 => ?_) (fun h6 => ?_)
        · rw [i1 (.inr h6)]
          refine sp W 0 rfl rfl rfl (fun h7 => ?_) (fun h7 => ?_)
          · rw [if_neg h7]
            refine ce W 0 rfl rfl (specBitTop_ok w) rfl ?_
            refine rp W 0 rfl rfl rfl (.refl)
          · rw [if_pos (Classical.not_not.1 h7)]
            refine ce W 0 rfl rfl (specBitTop_ok w) rfl ?_
            refine rp W 0 rfl rfl rfl (.refl)
        · rw [mulB_f h5 h6]
          refine cq W 0 rfl rfl (l8Of_w w a hw (by omega)) ?_
          rintro _ ⟨A, B, rfl, a1, a2, a3, a4⟩
          refine ⟨_, rfl, ?_⟩
          refine cq W 0 rfl rfl (l8Of_w w b hw (by omega)) ?_
          rintro _ ⟨C, D, rfl, b1, b2, b3, b4⟩
          refine ⟨_, rfl, ?_⟩
          have hx := dig_len_mul a3 b3
          have hy := dig_len_mul a4 b4
          have es : mkRat (sg (¬ (a < 0 ↔ b < 0)) (A * C)) (B * D) = vl w a * vl w b := by
            rw [sg_mul, ← Rat.mkRat_mul_mkRat, a2, b2]
          refine dre W 0 14 [] [.fi .i64 (dig (A * C)), .fi .i64 (dig (B * D))] rfl rfl rfl ⟨(l5Mul_ok A C (by omega) (by omega)).at rfl _, (l5Mul_ok B D (by omega) (by omega)).at rfl _, trivial⟩ rfl ?_
          refine ce W 0 rfl rfl ((l8Round_w w hw _ (A * C) (B * D) _ (Nat.mul_ne_zero a1 b1) es (by omega) (by omega)).2) rfl ?_
          refine rp W 0 rfl rfl rfl (.refl)
open Classical in
noncomputable def mulSp (w : Int) (x y : Prop × Int × Int) : Prop × Int × Int :=
  if fullS w x ∧ fullS w y then (True, min (min (mulB w x.2.1 y.2.1).1 (mulB w x.2.1 y.2.2).1) (min (mulB w x.2.2 y.2.1).1 (mulB w x.2.2 y.2.2).1), max (max (mulB w x.2.1 y.2.1).2 (mulB w x.2.1 y.2.2).2) (max (mulB w x.2.2 y.2.1).2 (mulB w x.2.2 y.2.2).2)) else noS
theorem specMul_ok (w : Int) (x y : Prop × Int × Int) : AFunP Tryd.prog 15 [.int .i64 w, spA x, spA y] (· = spA (mulSp w x y)) := by
  refine afun_of Tryd.func15 Tryd.call15 rfl Tryd.ntmps15 rfl ?_
  have W : Walk Tryd.prog TT 15 _ := Walk.of TT_ok Tryd.func15 Tryd.results15
  unfold mulSp
  refine ce W 0 rfl rfl (l9Both_ok w x.1 x.2.1 x.2.2 y.1 y.2.1 y.2.2) rfl ?_
  refine sp W 0 rfl rfl rfl (fun h1 => ?_) (fun h1 => ?_)
  · rw [if_neg (fun k => h1 ⟨⟨k.1.1, k.2.1⟩, k.1.2, k.2.2⟩)]
    refine rp W 0 rfl rfl rfl (sub_noS)
  · have h1 := Classical.not_not.1 h1
    rw [if_pos ⟨⟨h1.1.1, h1.2.1⟩, h1.1.2, h1.2.2⟩]
    obtain ⟨-, ⟨xa, xb, -⟩, ya, yb, -⟩ := h1
    have d1 := l9MulDn_ok w x.2.1 y.2.1 xa ya
    have d2 := l9MulDn_ok w x.2.1 y.2.2 xa yb
    have d3 := l9MulDn_ok w x.2.2 y.2.1 xb ya
    have d4 := l9MulDn_ok w x.2.2 y.2.2 xb yb
    have u1 := l9MulUp_ok w x.2.1 y.2.1 xa ya
    have u2 := l9MulUp_ok w x.2.1 y.2.2 xa yb
    have u3 := l9MulUp_ok w x.2.2 y.2.1 xb ya
    have u4 := l9MulUp_ok w x.2.2 y.2.2 xb yb
    generalize (mulB w x.2.1 y.2.1).1 = a1 at *
    generalize (mulB w x.2.1 y.2.2).1 = a2 at *
    generalize (mulB w x.2.2 y.2.1).1 = a3 at *
    generalize (mulB w x.2.2 y.2.2).1 = a4 at *
    generalize (mulB w x.2.1 y.2.1).2 = b1 at *
    generalize (mulB w x.2.1 y.2.2).2 = b2 at *
    generalize (mulB w x.2.2 y.2.1).2 = b3 at *
    generalize (mulB w x.2.2 y.2.2).2 = b4 at *
    refine dre W 0 24 [] [.int .i64 a1, .int .i64 a2, .int .i64 (min a1 a2), .int .i64 a3] rfl rfl rfl ⟨d1.at rfl _, d2.at rfl _, (l3Min_ok _ _).at rfl _, d3.at rfl _, trivial⟩ rfl ?_
    refine ce W 0 rfl rfl (d4) rfl ?_
    refine ce W 0 rfl rfl (l3Min_ok a3 a4) rfl ?_
    refine ce W 0 rfl rfl (l3Min_ok (min a1 a2) (min a3 a4)) rfl ?_
    refine dre W 0 24 [] [.int .i64 b1, .int .i64 b2, .int .i64 (max b1 b2), .int .i64 b3] rfl rfl rfl ⟨u1.at rfl _, u2.at rfl _, (l3Max_ok _ _).at rfl _, u3.at rfl _, trivial⟩ rfl ?_
    refine ce W 0 rfl rfl (u4) rfl ?_
    refine ce W 0 rfl rfl (l3Max_ok b3 b4) rfl ?_
    refine ce W 0 rfl rfl (l3Max_ok (max b1 b2) (max b3 b4)) rfl ?_
    refine ce W 0 rfl rfl (l9Of_ok (min (min a1 a2) (min a3 a4)) (max (max b1 b2) (max b3 b4))) rfl ?_
    refine rp W 0 rfl rfl rfl (.refl)
end Pf
/- The model's l9Quot, l9Part -/
namespace Pf
open Go Go.Proofs
theorem mkRat_div {n : Int} {b c d : Nat} (hb : b ≠ 0) (hd : d ≠ 0) (hc : c ≠ 0) : mkRat (n * d) (b * c) = mkRat n b / mkRat (c : Int) d := by
  rw [Rat.div_def, ← Rat.divInt_ofNat, ← Rat.divInt_ofNat, ← Rat.divInt_ofNat, Rat.inv_divInt, Rat.divInt_mul_divInt, Int.natCast_mul]
theorem l9QuotDn_ok (w a b : Int) (ha : bitOk w a) (hb : bitOk w b) (hb0 : 0 < b) : AFunP Tryd.prog 145 [.int .i64 w, .int .i64 a, .int .i64 b, .bool false] (· = .int .i64 (quotB w a b).1) := by
  have hw := ha.1
  have ht := top_fT hw
  have htr := top_rng w
  have h1 := ha.2
  have h2 := hb.2
  refine afun_of Tryd.func145 Tryd.call145 rfl Tryd.ntmps145 rfl ?_
  have W : Walk Tryd.prog TT 145 _ := Walk.of TT_ok Tryd.func145 Tryd.results145
  refine sp W 0 rfl rfl rfl (fun h3 => ?_) (fun h3 => ?_)
  · rw [quotB_z hw (.inl h3)]
    refine rp W 0 rfl rfl rfl (.refl)
  · refine ce W 0 rfl rfl (l9Inf_ok w b) rfl ?_
    refine sp W 0 rfl rfl rfl (fun h4 => ?_) (fun h4 => ?_)
    · rw [quotB_z hw (.inr h4)]
      refine rp W 0 rfl rfl rfl (.refl)
    · refine ce W 0 rfl rfl (l9Inf_ok w a) rfl ?_
      refine sp W 0 rfl rfl rfl (fun h5 => ?_) (fun h5 => ?_)
      · rw [quotB_a hw h5 h4]
        refine rp W 0 rfl rfl rfl (.refl)
      · rw [quotB_f h5 h4]
        refine cq W 0 rfl rfl (l8Of_w w a hw (by omega)) ?_
        rintro _ ⟨A, B, rfl, a1, a2, a3, a4⟩
        refine ⟨_, rfl, ?_⟩
        refine cq W 0 rfl rfl (l8Of_w w b hw (by omega)) ?_
        rintro _ ⟨C, D, rfl, b1, b2, b3, b4⟩
        refine ⟨_, rfl, ?_⟩
        have hx := dig_len_mul a3 b4
        have hy := dig_len_mul a4 b3
        have hC : C ≠ 0 := fun h0 => by
          subst h0
          rw [sg_zero] at b2
          have := vl_pos (w := w).2 hb0
          rw [← b2, Rat.zero_mkRat] at this
          exact Rat.lt_irrefl this
        have es : mkRat (sg (a < 0) (A * D)) (B * C) = vl w a / vl w b := by
          rw [← a2, ← b2, sg_no (show ¬ b < 0 by omega), sg_mul_nat]
          exact mkRat_div a1 b1 hC
        refine dre W 0 15 [] [.fi .i64 (dig (A * D)), .fi .i64 (dig (B * C))] rfl rfl rfl ⟨(l5Mul_ok A D (by omega) (by omega)).at rfl _, (l5Mul_ok B C (by omega) (by omega)).at rfl _, trivial⟩ rfl ?_
        refine ce W 0 rfl rfl ((l8Round_w w hw _ (A * D) (B * C) _ (Nat.mul_ne_zero a1 hC) es (by omega) (by omega)).1) rfl ?_
        refine rp W 0 rfl rfl rfl (.refl)
theorem l9QuotUp_ok (w a b : Int) (ha : bitOk w a) (hb : bitOk w b) (hb0 : 0 < b) : AFunP Tryd.prog 145 [.int .i64 w, .int .i64 a, .int .i64 b, .bool true] (· = .int .i64 (quotB w a b).2) := by
  have hw := ha.1
  have ht := top_fT hw
  have htr := top_rng w
  have h1 := ha.2
  have h2 := hb.2
  refine afun_of Tryd.func145 Tryd.call145 rfl Tryd.ntmps145 rfl ?_
  have W : Walk Tryd.prog TT 145 _ := Walk.of TT_ok Tryd.func145 Tryd.results145
  refine sp W 0 rfl rfl rfl (fun h3 => ?_) (fun h3 => ?_)
  · rw [quotB_z hw (.inl h3)]
    refine rp W 0 rfl rfl rfl (.refl)
  · refine ce W 0 rfl rfl (l9Inf_ok w b) rfl ?_
    refine sp W 0 rfl rfl rfl (fun h4 => ?_) (fun h4 => ?_)
    · rw [quotB_z hw (.inr h4)]
      refine rp W 0 rfl rfl rfl (.refl)
    · refine ce W 0 rfl rfl (l9Inf_ok w a) rfl ?_
      refine sp W 0 rfl rfl rfl (fun h5 => ?_) (fun h5 => ?_)
      · rw [quotB_a hw h5 h4]
        refine rp W 0 rfl rfl rfl (.refl)
      · rw [quotB_f h5 h4]
        refine cq W 0 rfl rfl (l8Of_w w a hw (by omega)) ?_
        rintro _ ⟨A, B, rfl, a1, a2, a3, a4⟩
        refine ⟨_, rfl, ?_⟩
        refine cq W 0 rfl rfl (l8Of_w w b hw (by omega)) ?_
        rintro _ ⟨C, D, rfl, b1, b2, b3, b4⟩
        refine ⟨_, rfl, ?_⟩
        have hx := dig_len_mul a3 b4
        have hy := dig_len_mul a4 b3
        have hC : C ≠ 0 := fun h0 => by
          subst h0
          rw [sg_zero] at b2
          have := vl_pos (w := w).2 hb0
          rw [← b2, Rat.zero_mkRat] at this
          exact Rat.lt_irrefl this
        have es : mkRat (sg (a < 0) (A * D)) (B * C) = vl w a / vl w b := by
          rw [← a2, ← b2, sg_no (show ¬ b < 0 by omega), sg_mul_nat]
          exact mkRat_div a1 b1 hC
        refine dre W 0 15 [] [.fi .i64 (dig (A * D)), .fi .i64 (dig (B * C))] rfl rfl rfl ⟨(l5Mul_ok A D (by omega) (by omega)).at rfl _, (l5Mul_ok B C (by omega) (by omega)).at rfl _, trivial⟩ rfl ?_
        refine ce W 0 rfl rfl ((l8Round_w w hw _ (A * D) (B * C) _ (Nat.mul_ne_zero a1 hC) es (by omega) (by omega)).2) rfl ?_
        refine rp W 0 rfl rfl rfl (.refl)
theorem l9Part_ok (w : Int) (x y : Prop × Int × Int) (hx : fullS w x) (hy : fullS w y) : AFunP Tryd.prog 97 [.int .i64 w, spA x, spA y] (· = spA (partS w x y)) := by
  obtain ⟨-, x1, x2, x3, x4, x5⟩ := hx
  obtain ⟨-, y1, y2, y3, y4, y5⟩ := hy
  have hw := x1.1
  have htr := top_rng w
  have hyr := y1.2
  refine afun_of Tryd.func97 Tryd.call97 rfl Tryd.ntmps97 rfl ?_
  have W : Walk Tryd.prog TT 97 _ := Walk.of TT_ok Tryd.func97 Tryd.results97
  refine sp W 0 rfl rfl rfl (fun h1 => ?_) (fun h1 => ?_)
  · unfold partS
    rw [if_pos h1]
    refine rp W 0 rfl rfl rfl (sub_noS)
  · unfold partS
    rw [if_neg h1]
    refine ce W 0 rfl rfl (l3Max_ok y.2.1 0) rfl ?_
    refine ce W 0 rfl rfl (specBitTop_ok w) rfl ?_
    refine sp W 0 rfl rfl rfl (fun h2 => ?_) (fun h2 => ?_)
    · rw [if_pos h2]
      refine ce W 0 rfl rfl (l9QuotDn_ok w x.2.1 y.2.2 x1 y2 (by omega)) rfl ?_
      refine ce W 0 rfl rfl (specBitTop_ok w) rfl ?_
      refine sp W 0 rfl rfl rfl (fun h6 => ?_) (fun h6 => ?_)
      · rw [if_pos h6]
        refine ce W 0 rfl rfl (l9QuotUp_ok w x.2.2 y.2.2 x2 y2 (by omega)) rfl ?_
        refine ce W 0 rfl rfl (l9Of_ok (quotB w x.2.1 y.2.2).1 (quotB w x.2.2 y.2.2).2) rfl ?_
        refine rp W 0 rfl rfl rfl (.refl)
      · rw [if_neg h6]
        refine sp W 0 rfl rfl rfl (fun h7 => ?_) (fun h7 => ?_)
        · have h8 : 0 < y.2.1 := by omega
          have e2 : max y.2.1 0 = y.2.1 := by omega
          rw [if_pos h8]
          refine ce W 0 rfl rfl (l9QuotUp_ok w x.2.2 (max y.2.1 0) x2 (by rw [e2]; exact y1) (by omega)) rfl ?_
          refine ce W 0 rfl rfl (l9Of_ok (quotB w x.2.1 y.2.2).1 (quotB w x.2.2 (max y.2.1 0)).2) rfl ?_
          rw [e2]
          refine rp W 0 rfl rfl rfl (.refl)
        · rw [if_neg (show ¬ 0 < y.2.1 by omega)]
          refine ce W 0 rfl rfl (l9Of_ok (quotB w x.2.1 y.2.2).1 (top w)) rfl ?_
          refine rp W 0 rfl rfl rfl (.refl)
    · rw [if_neg h2]
      refine sp W 0 rfl rfl rfl (fun h3 => ?_) (fun h3 => ?_)
      · have h3' : 0 < y.2.1 := by omega
        have e3 : max y.2.1 0 = y.2.1 := by omega
        rw [if_pos h3']
        refine ce W 0 rfl rfl (l9QuotDn_ok w x.2.1 (max y.2.1 0) x1 (by rw [e3]; exact y1) (by omega)) rfl ?_
        refine ce W 0 rfl rfl (specBitTop_ok w) rfl ?_
        refine sp W 0 rfl rfl rfl (fun h6 => ?_) (fun h6 => ?_)
        · rw [if_pos h6]
          refine ce W 0 rfl rfl (l9QuotUp_ok w x.2.2 y.2.2 x2 y2 (by omega)) rfl ?_
          refine ce W 0 rfl rfl (l9Of_ok (quotB w x.2.1 (max y.2.1 0)).1 (quotB w x.2.2 y.2.2).2) rfl ?_
          rw [e3]
          refine rp W 0 rfl rfl rfl (.refl)
        · rw [if_neg h6]
          refine sp W 0 rfl rfl rfl (fun h7 => ?_) (fun h7 => ?_)
          · have h8 : 0 < y.2.1 := by omega
            have e2 : max y.2.1 0 = y.2.1 := by omega
            rw [if_pos h8]
            refine ce W 0 rfl rfl (l9QuotUp_ok w x.2.2 (max y.2.1 0) x2 (by rw [e2]; exact y1) (by omega)) rfl ?_
            refine ce W 0 rfl rfl (l9Of_ok (quotB w x.2.1 (max y.2.1 0)).1 (quotB w x.2.2 (max y.2.1 0)).2) rfl ?_
            rw [e2]
            refine rp W 0 rfl rfl rfl (.refl)
          · rw [if_neg (show ¬ 0 < y.2.1 by omega)]
            refine ce W 0 rfl rfl (l9Of_ok (quotB w x.2.1 (max y.2.1 0)).1 (top w)) rfl ?_
            rw [e3]
            refine rp W 0 rfl rfl rfl (.refl)
      · rw [if_neg (show ¬ 0 < y.2.1 by omega)]
        refine ce W 0 rfl rfl (specBitTop_ok w) rfl ?_
        refine sp W 0 rfl rfl rfl (fun h6 => ?_) (fun h6 => ?_)
        · rw [if_pos h6]
          refine ce W 0 rfl rfl (l9QuotUp_ok w x.2.2 y.2.2 x2 y2 (by omega)) rfl ?_
          refine ce W 0 rfl rfl (l9Of_ok (-top w) (quotB w x.2.2 y.2.2).2) rfl ?_
          refine rp W 0 rfl rfl rfl (.refl)
        · rw [if_neg h6]
          refine sp W 0 rfl rfl rfl (fun h7 => ?_) (fun h7 => ?_)
          · have h8 : 0 < y.2.1 := by omega
            have e2 : max y.2.1 0 = y.2.1 := by omega
            rw [if_pos h8]
            refine ce W 0 rfl rfl (l9QuotUp_ok w x.2.2 (max y.2.1 0) x2 (by rw [e2]; exact y1) (by omega)) rfl ?_
            refine ce W 0 rfl rfl (l9Of_ok (-top w) (quotB w x.2.2 (max y.2.1 0)).2) rfl ?_
            rw [e2]
            refine rp W 0 rfl rfl rfl (.refl)
          · rw [if_neg (show ¬ 0 < y.2.1 by omega)]
            refine ce W 0 rfl rfl (l9Of_ok (-top w) (top w)) rfl ?_
            refine rp W 0 rfl rfl rfl (.refl)
end Pf
/- impl's divAbove -/
namespace Pf
open Go Go.Proofs
open Classical in
noncomputable def nearL (w c : Int) (l : Int × Rat) : Int × Rat := if 0 < c then lby l (limW w c) else if lsgn l = 0 then l else (lsgn l, 0)
theorem near_ok (w : Int) (y : Prop × Int × Int) (hy : bitOk w y.2.1) (l : Int × Rat) (hl : l.1 = 0 → mid l.2) (h2 : -1 ≤ l.1 ∧ l.1 ≤ 1) : AFunP Tryd.prog 146 [limV l, .fptr (spR y) 0, .fptr [.int .i64 w] 0] (· = limV (nearL w y.2.1 l)) := by
  have k1 := limitOf_ok w y.2.1 hy
  have k2 : 0 < y.2.1 → _ := fun h0 => lby_ok l (limW w y.2.1) hl (fun h => ⟨limW_mid hy h, by
    have hi : ¬ (y.2.1 = top w ∨ y.2.1 = -top w) := fun hi => by
      rw [limW_inf hy.1 hi] at h; unfold sgI at h; split at h <;> (try split at h) <;> omega
    rw [limW_fin hi]
    exact fun h0' => by have := vl_eq0.1 h0'; omega⟩)
  have k3 := lsign_ok l hl
  have hr := lsgn_cases l h2
  generalize hm : limW w y.2.1 = m at k1 k2
  rw [limV_eq] at k1 k3
  rw [limV_eq l, limV_eq m] at k2
  rw [limV_eq l]
  refine afun_of Tryd.func146 Tryd.call146 rfl Tryd.ntmps146 rfl ?_
  have W : Walk Tryd.prog TT 146 _ := Walk.of TT_ok Tryd.func146 Tryd.results146
  refine sp W 0 rfl rfl rfl (fun h1 => ?_) (fun h1 => ?_)
  · have e : nearL w y.2.1 l = lby l m := by rw [nearL, if_pos h1, hm]
    have k2 := k2 h1
    rw [e]
    generalize hx : lby l m = z at *
    rw [limV_eq z] at k2 ⊢
    refine dre W 0 6 [] [.agg [.int .i64 m.1, .pr (m.1 = 0 ∧ m.2 < 0), .fi .i64 (if m.1 = 0 then dt m.2 else []), .fi .i64 (if m.1 = 0 then db m.2 else [])], .agg [.int .i64 z.1, .pr (z.1 = 0 ∧ z.2 < 0), .fi .i64 (if z.1 = 0 then dt z.2 else []), .fi .i64 (if z.1 = 0 then db z.2 else [])]] rfl rfl rfl ⟨k1.at rfl _, k2.at rfl _, trivial⟩ rfl ?_
    refine rp W 0 rfl rfl rfl (.refl)
  · refine ce W 0 rfl rfl (k3) rfl ?_
    refine sp W 0 rfl rfl rfl (fun h3 => ?_) (fun h3 => ?_)
    · have e : nearL w y.2.1 l = l := by rw [nearL, if_neg h1, if_pos h3]
      rw [e, limV_eq l]
      refine rp W 0 rfl rfl rfl (.refl)
    · have e : nearL w y.2.1 l = (lsgn l, 0) := by rw [nearL, if_neg h1, if_neg h3]
      rw [e, limV_inf h3]
      refine ce W 0 rfl rfl (k3) rfl ?_
      refine rp W 0 rfl rfl rfl (.agg ⟨.refl, .no id, .nils_fi, .nils_fi, trivial⟩)
/-- A bound, written out. -/
abbrev limA (l : Int × Rat) : AV := .agg [.int .i64 l.1, .pr (l.1 = 0 ∧ l.2 < 0), .fi .i64 (if l.1 = 0 then dt l.2 else []), .fi .i64 (if l.1 = 0 then db l.2 else [])]
theorem limVA (l : Int × Rat) : limV l = limA l := limV_eq l
theorem midN_div {r s : Rat} {n : Nat} (h0 : 0 < s) (hr : midN n r) (hs : midN n s) : midN (n + n) (r / s) := by
  have hp : ¬ s < 0 := Rat.not_lt.2 (Rat.le_of_lt h0)
  have hn : s.num.natAbs ≠ 0 := fun h => Rat.ne_of_gt h0 (Rat.num_eq_zero.1 (by omega))
  refine midN_low (p := r < 0) (a := r.num.natAbs * s.den) (b := r.den * s.num.natAbs) (Nat.mul_ne_zero r.den_nz hn) ?_ (dig_len_mul hr.1 hs.2) (dig_len_mul hr.2 hs.1)
  rw [sg_mul_nat, mkRat_div r.den_nz s.den_nz hn, mk_R]
  congr 1
  have := mk_R s
  rwa [sg_no hp] at this
theorem mid_zero : mid 0 := by
  unfold mid dt db
  exact ⟨by rw [show dig (Rat.num 0).natAbs = [] from dig_nil.2 rfl]; decide, by rw [show dig (Rat.den 0) = [1] from dig_one]; decide⟩
theorem limW_fin0 {w c : Int} (hw : w = 32 ∨ w = 64) (h : (limW w c).1 = 0) : (limW w c).2 = vl w c := by
  have hi : ¬ (c = top w ∨ c = -top w) := fun hi => by
    have hp := top_pos hw
    rw [limW_inf hw hi] at h; unfold sgI at h; split at h <;> (try split at h) <;> omega
  rw [limW_fin hi]
theorem lby_mid {w a c : Int} (ha : bitOk w a) (hc : bitOk w c) (h0 : 0 < c) : ((lby (limW w a) (limW w c)).1 = 0 → mid (lby (limW w a) (limW w c)).2) ∧ -1 ≤ (lby (limW w a) (limW w c)).1 ∧ (lby (limW w a) (limW w c)).1 ≤ 1 := by
  have h1 := limW_midN ha
  have h2 := limW_midN hc
  have h3 := limW_rng w a
  unfold lby
  split
  · exact ⟨fun _ => mid_zero, by omega, by omega⟩
  · rename_i k1
    have k1 := Classical.not_not.1 k1
    split
    · rename_i k2
      exact ⟨fun k => absurd k k2, h3⟩
    · rename_i k2
      refine ⟨fun _ => ?_, by omega, by omega⟩
      have e := limW_fin0 hc.1 k1
      have := midN_div (by rw [e]; exact vl_pos.2 h0) (h1 (Classical.not_not.1 k2)) (h2 k1)
      exact ⟨Nat.le_trans this.1 (by decide), Nat.le_trans this.2 (by decide)⟩
theorem quot_calls {w a c : Int} (ha : bitOk w a) (hc : bitOk w c) (h0 : 0 < c) : AFunP Tryd.prog 60 [limV (lby (limW w a) (limW w c)), .int .i64 w] (· = .tup [.int .i64 (quotB w a c).1, .int .i64 (quotB w a c).2]) :=
  have h := lby_mid ha hc h0
  lfloats_ok w ha.1 _ h.1 h.2
theorem by_calls {w a c : Int} (ha : bitOk w a) (hc : bitOk w c) (h0 : 0 < c) : AFunP Tryd.prog 147 [limV (limW w a), limV (limW w c)] (· = limV (lby (limW w a) (limW w c))) :=
  lby_ok _ _ (limW_mid ha) (fun h => ⟨limW_mid hc h, by rw [limW_fin0 hc.1 h]; exact Rat.ne_of_gt (vl_pos.2 h0)⟩)
noncomputable def nearB (w a c : Int) : Int × Int := lflo w (nearL w c (limW w a))
theorem nearB_y {w a c : Int} (h : 0 < c) : nearB w a c = quotB w a c := by rw [nearB, nearL, if_pos h]; rfl
theorem nearB_n {w a c : Int} (hw : w = 32 ∨ w = 64) (h : ¬ 0 < c) : nearB w a c = (sgI a * top w, sgI a * top w) := by
  have hp := top_pos hw
  rw [nearB, nearL, if_neg h, lsgn_limW hw]
  split
  · rename_i h0
    have ha : a = 0 := by unfold sgI at h0; split at h0 <;> (try split at h0) <;> omega
    subst ha
    rw [limW_fin (by omega), lflo, if_pos rfl, vl_zero, (dn_zero w).1, (dn_zero w).2, h0, Int.zero_mul]
  · rename_i h0
    rw [lflo, if_neg h0]
theorem near_calls {w a c : Int} (ha : bitOk w a) (hc : bitOk w c) : AFunP Tryd.prog 60 [limV (nearL w c (limW w a)), .int .i64 w] (· = .tup [.int .i64 (nearB w a c).1, .int .i64 (nearB w a c).2]) := by
  have hr := limW_rng w a
  refine lfloats_ok w ha.1 _ ?_ ?_
  · unfold nearL
    split
    · rename_i h0; exact (lby_mid ha hc h0).1
    · split
      · exact limW_mid ha
      · rename_i h; exact fun k => absurd k h
  · unfold nearL
    split
    · rename_i h0; exact (lby_mid ha hc h0).2
    · split
      · exact hr
      · have := lsgn_cases _ hr; dsimp only; omega
theorem part_lo {w : Int} {x y : Prop × Int × Int} (hw : w = 32 ∨ w = 64) (h : ¬ y.2.2 ≤ 0) : (partS w x y).2.1 = if 0 ≤ sgI x.2.1 then (quotB w x.2.1 y.2.2).1 else (nearB w x.2.1 y.2.1).1 := by
  rw [partS, if_neg h]
  dsimp only
  have e : 0 ≤ sgI x.2.1 ↔ 0 ≤ x.2.1 := by unfold sgI; split <;> (try split) <;> omega
  by_cases h1 : 0 ≤ x.2.1
  · rw [if_pos h1, if_pos (e.2 h1)]
  · rw [if_neg h1, if_neg (fun k => h1 (e.1 k))]
    by_cases h2 : 0 < y.2.1
    · rw [if_pos h2, nearB_y h2]
    · rw [if_neg h2, nearB_n hw h2, show sgI x.2.1 = -1 from if_pos (by omega)]; dsimp only; omega
theorem part_hi {w : Int} {x y : Prop × Int × Int} (hw : w = 32 ∨ w = 64) (h : ¬ y.2.2 ≤ 0) : (partS w x y).2.2 = if sgI x.2.2 < 0 then (quotB w x.2.2 y.2.2).2 else (nearB w x.2.2 y.2.1).2 := by
  rw [partS, if_neg h]
  dsimp only
  by_cases h1 : x.2.2 < 0
  · rw [if_pos (show x.2.2 ≤ 0 by omega), if_pos (show sgI x.2.2 < 0 by rw [sgI, if_pos h1]; decide)]
  · rw [if_neg (show ¬ sgI x.2.2 < 0 by rw [sgI, if_neg h1]; split <;> omega)]
    by_cases h0 : x.2.2 = 0
    · rw [if_pos (show x.2.2 ≤ 0 by omega), h0, quotB_z hw (.inl rfl)]
      by_cases h2 : 0 < y.2.1
      · rw [nearB_y h2, quotB_z hw (.inl rfl)]
      · rw [nearB_n hw h2]; simp [sgI]
    · rw [if_neg (show ¬ x.2.2 ≤ 0 by omega)]
      by_cases h2 : 0 < y.2.1
      · rw [if_pos h2, nearB_y h2]
      · rw [if_neg h2, nearB_n hw h2, show sgI x.2.2 = 1 by rw [sgI, if_neg h1, if_neg h0]]; dsimp only; omega
theorem divAbove_ok (w : Int) (x y : Prop × Int × Int) (hx : fullS w x) (hy : fullS w y) : AFunP Tryd.prog 99 [.int .i64 w, spA x, spA y] (· = spA (partS w x y)) := by
  obtain ⟨-, x1, x2, x3, x4, x5⟩ := hx
  obtain ⟨-, y1, y2, y3, y4, y5⟩ := hy
  have hw := x1.1
  have htr := top_rng w
  have hyr := y1.2
  have k1 := limitOf_ok w y.2.2 y2
  have k2 := limitOf_ok w x.2.1 x1
  have k3 := limitOf_ok w x.2.2 x2
  have n2 := near_ok w y y1 (limW w x.2.1) (limW_mid x1) (limW_rng w _)
  have n3 := near_ok w y y1 (limW w x.2.2) (limW_mid x2) (limW_rng w _)
  have s1 := lsign_ok (limW w x.2.1) (limW_mid x1)
  have s2 := lsign_ok (limW w x.2.2) (limW_mid x2)
  rw [lsgn_limW hw] at s1 s2
  have g1 := near_calls x1 y1
  have g2 := near_calls x2 y1
  have b1 : 0 < y.2.2 → _ := fun h0 => by_calls x1 y2 h0
  have b2 : 0 < y.2.2 → _ := fun h0 => by_calls x2 y2 h0
  have f1 : 0 < y.2.2 → _ := fun h0 => quot_calls x1 y2 h0
  have f2 : 0 < y.2.2 → _ := fun h0 => quot_calls x2 y2 h0
  simp only [limVA] at k1 k2 k3 n2 n3 s1 s2 g1 g2 b1 b2 f1 f2
  have e0 : y.2.2 ≤ 0 → partS w x y = noS := fun h => by rw [partS, if_pos h]
  have e1 : ¬ y.2.2 ≤ 0 → spA (partS w x y) = spA (True, (if 0 ≤ sgI x.2.1 then (quotB w x.2.1 y.2.2).1 else (nearB w x.2.1 y.2.1).1), (if sgI x.2.2 < 0 then (quotB w x.2.2 y.2.2).2 else (nearB w x.2.2 y.2.1).2)) := fun h => by
    rw [← part_lo hw h, ← part_hi hw h, partS, if_neg h]
  generalize partS w x y = res at *
  generalize quotB w x.2.1 y.2.2 = Q1 at *
  generalize quotB w x.2.2 y.2.2 = Q2 at *
  generalize nearB w x.2.1 y.2.1 = N1 at *
  generalize nearB w x.2.2 y.2.1 = N2 at *
  generalize nearL w y.2.1 (limW w x.2.1) = ln at *
  generalize nearL w y.2.1 (limW w x.2.2) = mn at *
  generalize lby (limW w x.2.1) (limW w y.2.2) = q1 at *
  generalize lby (limW w x.2.2) (limW w y.2.2) = q2 at *
  generalize limW w x.2.1 = l at *
  generalize limW w x.2.2 = m at *
  generalize limW w y.2.2 = n at *
  refine afun_of Tryd.func99 Tryd.call99 rfl Tryd.ntmps99 rfl ?_
  have W : Walk Tryd.prog TT 99 _ := Walk.of TT_ok Tryd.func99 Tryd.results99
  refine sp W 0 rfl rfl rfl (fun h1 => ?_) (fun h1 => ?_)
  · rw [e0 h1]
    refine rp W 0 rfl rfl rfl (sub_noS)
  · have h0 : 0 < y.2.2 := by omega
    rw [e1 h1]
    have b1 := b1 h0
    have b2 := b2 h0
    have f1 := f1 h0
    have f2 := f2 h0
    refine cf W 0 [0, 2] [0, 1, 2, 3, 4, 5, 6] rfl rfl rfl rfl rfl rfl (k1) rfl ?_
    refine phg W 0 10 [8, 9] rfl rfl (fun PW => ?_)
    refine phf PW 0 8 9 [] [limA l, limA m] rfl rfl ⟨k2.at rfl _, k3.at rfl _, trivial⟩ rfl rfl rfl rfl ?_ ?_
    · refine pho PW 0 9 [] [limA l, limA m] rfl rfl ⟨k2.at rfl _, k3.at rfl _, trivial⟩ rfl rfl ?_
      refine phe PW 0 [] [limA l, limA m] rfl ⟨k2.at rfl _, k3.at rfl _, trivial⟩ rfl ?_
      refine phg W 0 8 [6, 7] rfl rfl (fun PW => ?_)
      refine phf PW 0 6 7 [] [limA ln, limA mn] rfl rfl ⟨n2.at rfl _, n3.at rfl _, trivial⟩ rfl rfl rfl rfl ?_ ?_
      · refine pho PW 0 7 [] [limA ln, limA mn] rfl rfl ⟨n2.at rfl _, n3.at rfl _, trivial⟩ rfl rfl ?_
        refine phe PW 0 [] [limA ln, limA mn] rfl ⟨n2.at rfl _, n3.at rfl _, trivial⟩ rfl ?_
        refine ce W 0 rfl rfl (s1) rfl ?_
        refine sp W 0 rfl rfl rfl (fun h2 => ?_) (fun h2 => ?_)
        · rw [if_pos h2]
          refine ce W 0 rfl rfl (b1) rfl ?_
          refine ce W 0 rfl rfl (s2) rfl ?_
          refine sp W 0 rfl rfl rfl (fun h3 => ?_) (fun h3 => ?_)
          · rw [if_pos h3]
            refine ce W 0 rfl rfl (b2) rfl ?_
            refine ce W 0 rfl rfl (f1) rfl ?_
            refine ce W 0 rfl rfl (f2) rfl ?_
            refine ce W 0 rfl rfl (some_ok Q1.1 Q2.2) rfl ?_
            refine rp W 0 rfl rfl rfl (.refl)
          · rw [if_neg h3]
            refine ce W 0 rfl rfl (f1) rfl ?_
            refine ce W 0 rfl rfl (g2) rfl ?_
            refine ce W 0 rfl rfl (some_ok Q1.1 N2.2) rfl ?_
            refine rp W 0 rfl rfl rfl (.refl)
        · rw [if_neg h2]
          refine ce W 0 rfl rfl (s2) rfl ?_
          refine sp W 0 rfl rfl rfl (fun h3 => ?_) (fun h3 => ?_)
          · rw [if_pos h3]
            refine ce W 0 rfl rfl (b2) rfl ?_
            refine ce W 0 rfl rfl (g1) rfl ?_
            refine ce W 0 rfl rfl (f2) rfl ?_
            refine ce W 0 rfl rfl (some_ok N1.1 Q2.2) rfl ?_
            refine rp W 0 rfl rfl rfl (.refl)
          · rw [if_neg h3]
            refine ce W 0 rfl rfl (g1) rfl ?_
            refine ce W 0 rfl rfl (g2) rfl ?_
            refine ce W 0 rfl rfl (some_ok N1.1 N2.2) rfl ?_
            refine rp W 0 rfl rfl rfl (.refl)
      · refine pho PW 0 6 [] [limA ln, limA mn] rfl rfl ⟨n2.at rfl _, n3.at rfl _, trivial⟩ rfl rfl ?_
        refine phe PW 0 [] [limA ln, limA mn] rfl ⟨n2.at rfl _, n3.at rfl _, trivial⟩ rfl ?_
        refine ce W 0 rfl rfl (s1) rfl ?_
        refine sp W 0 rfl rfl rfl (fun h2 => ?_) (fun h2 => ?_)
        · rw [if_pos h2]
          refine ce W 0 rfl rfl (b1) rfl ?_
          refine ce W 0 rfl rfl (s2) rfl ?_
          refine sp W 0 rfl rfl rfl (fun h3 => ?_) (fun h3 => ?_)
          · rw [if_pos h3]
            refine ce W 0 rfl rfl (b2) rfl ?_
            refine ce W 0 rfl rfl (f1) rfl ?_
            refine ce W 0 rfl rfl (f2) rfl ?_
            refine ce W 0 rfl rfl (some_ok Q1.1 Q2.2) rfl ?_
            refine rp W 0 rfl rfl rfl (.refl)
          · rw [if_neg h3]
            refine ce W 0 rfl rfl (f1) rfl ?_
            refine ce W 0 rfl rfl (g2) rfl ?_
            refine ce W 0 rfl rfl (some_ok Q1.1 N2.2) rfl ?_
            refine rp W 0 rfl rfl rfl (.refl)
        · rw [if_neg h2]
          refine ce W 0 rfl rfl (s2) rfl ?_
          refine sp W 0 rfl rfl rfl (fun h3 => ?_) (fun h3 => ?_)
          · rw [if_pos h3]
            refine ce W 0 rfl rfl (b2) rfl ?_
            refine ce W 0 rfl rfl (g1) rfl ?_
            refine ce W 0 rfl rfl (f2) rfl ?_
            refine ce W 0 rfl rfl (some_ok N1.1 Q2.2) rfl ?_
            refine rp W 0 rfl rfl rfl (.refl)
          · rw [if_neg h3]
            refine ce W 0 rfl rfl (g1) rfl ?_
            refine ce W 0 rfl rfl (g2) rfl ?_
            refine ce W 0 rfl rfl (some_ok N1.1 N2.2) rfl ?_
            refine rp W 0 rfl rfl rfl (.refl)
    · refine pho PW 0 8 [] [limA l, limA m] rfl rfl ⟨k2.at rfl _, k3.at rfl _, trivial⟩ rfl rfl ?_
      refine phe PW 0 [] [limA l, limA m] rfl ⟨k2.at rfl _, k3.at rfl _, trivial⟩ rfl ?_
      refine phg W 0 8 [6, 7] rfl rfl (fun PW => ?_)
      refine phf PW 0 6 7 [] [limA ln, limA mn] rfl rfl ⟨n2.at rfl _, n3.at rfl _, trivial⟩ rfl rfl rfl rfl ?_ ?_
      · refine pho PW 0 7 [] [limA ln, limA mn] rfl rfl ⟨n2.at rfl _, n3.at rfl _, trivial⟩ rfl rfl ?_
        refine phe PW 0 [] [limA ln, limA mn] rfl ⟨n2.at rfl _, n3.at rfl _, trivial⟩ rfl ?_
        refine ce W 0 rfl rfl (s1) rfl ?_
        refine sp W 0 rfl rfl rfl (fun h2 => ?_) (fun h2 => ?_)
        · rw [if_pos h2]
          refine ce W 0 rfl rfl (b1) rfl ?_
          refine ce W 0 rfl rfl (s2) rfl ?_
          refine sp W 0 rfl rfl rfl (fun h3 => ?_) (fun h3 => ?_)
          · rw [if_pos h3]
            refine ce W 0 rfl rfl (b2) rfl ?_
            refine ce W 0 rfl rfl (f1) rfl ?_
            refine ce W 0 rfl rfl (f2) rfl ?_
            refine ce W 0 rfl rfl (some_ok Q1.1 Q2.2) rfl ?_
            refine rp W 0 rfl rfl rfl (.refl)
          · rw [if_neg h3]
            refine ce W 0 rfl rfl (f1) rfl ?_
            refine ce W 0 rfl rfl (g2) rfl ?_
            refine ce W 0 rfl rfl (some_ok Q1.1 N2.2) rfl ?_
            refine rp W 0 rfl rfl rfl (.refl)
        · rw [if_neg h2]
          refine ce W 0 rfl rfl (s2) rfl ?_
          refine sp W 0 rfl rfl rfl (fun h3 => ?_) (fun h3 => ?_)
          · rw [if_pos h3]
            refine ce W 0 rfl rfl (b2) rfl ?_
            refine ce W 0 rfl rfl (g1) rfl ?_
            refine ce W 0 rfl rfl (f2) rfl ?_
            refine ce W 0 rfl rfl (some_ok N1.1 Q2.2) rfl ?_
            refine rp W 0 rfl rfl rfl (.refl)
          · rw [if_neg h3]
            refine ce W 0 rfl rfl (g1) rfl ?_
            refine ce W 0 rfl rfl (g2) rfl ?_
            refine ce W 0 rfl rfl (some_ok N1.1 N2.2) rfl ?_
            refine rp W 0 rfl rfl rfl (.refl)
      · refine pho PW 0 6 [] [limA ln, limA mn] rfl rfl ⟨n2.at rfl _, n3.at rfl _, trivial⟩ rfl rfl ?_
        refine phe PW 0 [] [limA ln, limA mn] rfl ⟨n2.at rfl _, n3.at rfl _, trivial⟩ rfl ?_
        refine ce W 0 rfl rfl (s1) rfl ?_
        refine sp W 0 rfl rfl rfl (fun h2 => ?_) (fun h2 => ?_)
        · rw [if_pos h2]
          refine ce W 0 rfl rfl (b1) rfl ?_
          refine ce W 0 rfl rfl (s2) rfl ?_
          refine sp W 0 rfl rfl rfl (fun h3 => ?_) (fun h3 => ?_)
          · rw [if_pos h3]
            refine ce W 0 rfl rfl (b2) rfl ?_
            refine ce W 0 rfl rfl (f1) rfl ?_
            refine ce W 0 rfl rfl (f2) rfl ?_
            refine ce W 0 rfl rfl (some_ok Q1.1 Q2.2) rfl ?_
            refine rp W 0 rfl rfl rfl (.refl)
          · rw [if_neg h3]
            refine ce W 0 rfl rfl (f1) rfl ?_
            refine ce W 0 rfl rfl (g2) rfl ?_
            refine ce W 0 rfl rfl (some_ok Q1.1 N2.2) rfl ?_
            refine rp W 0 rfl rfl rfl (.refl)
        · rw [if_neg h2]
          refine ce W 0 rfl rfl (s2) rfl ?_
          refine sp W 0 rfl rfl rfl (fun h3 => ?_) (fun h3 => ?_)
          · rw [if_pos h3]
            refine ce W 0 rfl rfl (b2) rfl ?_
            refine ce W 0 rfl rfl (g1) rfl ?_
            refine ce W 0 rfl rfl (f2) rfl ?_
            refine ce W 0 rfl rfl (some_ok N1.1 Q2.2) rfl ?_
            refine rp W 0 rfl rfl rfl (.refl)
          · rw [if_neg h3]
            refine ce W 0 rfl rfl (g1) rfl ?_
            refine ce W 0 rfl rfl (g2) rfl ?_
            refine ce W 0 rfl rfl (some_ok N1.1 N2.2) rfl ?_
            refine rp W 0 rfl rfl rfl (.refl)
end Pf
/- Spans: the model's hulls and meets -/
namespace Pf
open Go Go.Proofs
theorem specHull_ok (w : Int) (x y : Prop × Int × Int) : AFunP Tryd.prog 98 [.int .i64 w, spA x, spA y] (· = spA (hullS w x y)) := by
  refine afun_of Tryd.func98 Tryd.call98 rfl Tryd.ntmps98 rfl ?_
  have W : Walk Tryd.prog TT 98 _ := Walk.of TT_ok Tryd.func98 Tryd.results98
  unfold hullS
  refine ce W 0 rfl rfl (specSpanOk_ok w x.1 x.2.1 x.2.2) rfl ?_
  refine sp W 0 rfl rfl rfl (fun h1 => ?_) (fun h1 => ?_)
  · rw [if_neg (fun k => h1 k.1)]
    refine rp W 0 rfl rfl rfl (sub_noS)
  · have h1 := Classical.not_not.1 h1
    refine ce W 0 rfl rfl (specSpanOk_ok w y.1 y.2.1 y.2.2) rfl ?_
    refine sp W 0 rfl rfl rfl (fun h2 => ?_) (fun h2 => ?_)
    · rw [if_neg (fun k => h2 k.2)]
      refine rp W 0 rfl rfl rfl (sub_noS)
    · rw [if_pos ⟨h1, Classical.not_not.1 h2⟩]
      refine sp W 0 rfl rfl rfl (fun h3 => ?_) (fun h3 => ?_)
      · rw [if_neg h3]
        refine rp W 0 rfl rfl rfl (.refl)
      · rw [if_pos (Classical.not_not.1 h3)]
        refine sp W 0 rfl rfl rfl (fun h4 => ?_) (fun h4 => ?_)
        · rw [if_neg h4]
          refine rp W 0 rfl rfl rfl (.refl)
        · rw [if_pos (Classical.not_not.1 h4)]
          refine dre W 0 11 [] [.int .i64 (min x.2.1 y.2.1), .int .i64 (max x.2.2 y.2.2), spA (True, min x.2.1 y.2.1, max x.2.2 y.2.2)] rfl rfl rfl ⟨(l3Min_ok x.2.1 y.2.1).at rfl _, (l3Max_ok x.2.2 y.2.2).at rfl _, (l9Of_ok (min x.2.1 y.2.1) (max x.2.2 y.2.2)).at rfl _, trivial⟩ rfl ?_
          refine rp W 0 rfl rfl rfl (.refl)
theorem specMeet_ok (w : Int) (x y : Prop × Int × Int) : AFunP Tryd.prog 68 [.int .i64 w, spA x, spA y] (· = spA (meetS w x y)) := by
  refine afun_of Tryd.func68 Tryd.call68 rfl Tryd.ntmps68 rfl ?_
  have W : Walk Tryd.prog TT 68 _ := Walk.of TT_ok Tryd.func68 Tryd.results68
  unfold meetS
  refine ce W 0 rfl rfl (l9Both_ok w x.1 x.2.1 x.2.2 y.1 y.2.1 y.2.2) rfl ?_
  refine sp W 0 rfl rfl rfl (fun h1 => ?_) (fun h1 => ?_)
  · rw [if_neg (fun k => h1 ⟨⟨k.1.1, k.2.1.1⟩, k.1.2, k.2.1.2⟩)]
    refine rp W 0 rfl rfl rfl (sub_noS)
  · have h1 := Classical.not_not.1 h1
    have hm := meet_pair (w := w) (a := x.2) (b := y.2) h1.2.1 h1.2.2
    refine phg W 0 11 [9, 10] rfl rfl (fun PW => ?_)
    refine pho PW 0 9 [] [.agg [.int .i64 x.2.1, .int .i64 x.2.2], .agg [.int .i64 y.2.1, .int .i64 y.2.2], .tup [pairV (pmeet w x.2 y.2), .pr (meetOk w x.2 y.2)]] rfl rfl ⟨(l9Pair_ok x.1 x.2.1 x.2.2).at rfl _, (l9Pair_ok y.1 y.2.1 y.2.2).at rfl _, (specPairMeet_ok w x.2 y.2).at rfl _, trivial⟩ rfl rfl ?_
    refine pho PW 0 10 [] [.agg [.int .i64 x.2.1, .int .i64 x.2.2], .agg [.int .i64 y.2.1, .int .i64 y.2.2], .tup [pairV (pmeet w x.2 y.2), .pr (meetOk w x.2 y.2)]] rfl rfl ⟨(l9Pair_ok x.1 x.2.1 x.2.2).at rfl _, (l9Pair_ok y.1 y.2.1 y.2.2).at rfl _, (specPairMeet_ok w x.2 y.2).at rfl _, trivial⟩ rfl rfl ?_
    refine phe PW 0 [] [] rfl trivial rfl ?_
    refine sp W 0 rfl rfl rfl (fun h2 => ?_) (fun h2 => ?_)
    · have h2 : ¬ meetOk w x.2 y.2 := h2
      rw [if_neg (fun k => h2 ⟨h1.2.1, h1.2.2, hm.1 k.2.2⟩)]
      refine rp W 0 rfl rfl rfl (sub_noS)
    · have h2 : meetOk w x.2 y.2 := Classical.not_not.1 h2
      rw [if_pos ⟨⟨h1.1.1, h1.2.1⟩, ⟨h1.1.2, h1.2.2⟩, hm.2 h2.2.2⟩, pmeet_yes h2]
      refine ce W 0 rfl rfl (l9Of_ok (max x.2.1 y.2.1) (min x.2.2 y.2.2)) rfl ?_
      refine rp W 0 rfl rfl rfl (.refl)
end Pf
/- SpanDivTwo, SpanDiv on both sides -/
namespace Pf
open Go Go.Proofs
noncomputable abbrev spR2 (p : (Prop × Int × Int) × (Prop × Int × Int)) : AV := .tup [spA p.1, spA p.2]
theorem implDivTwo_ok (w : Int) (x y : Prop × Int × Int) : AFunP Tryd.prog 39 [.int .i64 w, spA x, spA y] (· = spR2 (twoS w x y)) := by
  refine afun_of Tryd.func39 Tryd.call39 rfl Tryd.ntmps39 rfl ?_
  have W : Walk Tryd.prog TT 39 _ := Walk.of TT_ok Tryd.func39 Tryd.results39
  refine cf W 0 [4] [0, 1, 2, 4, 5, 6, 7] rfl rfl rfl rfl rfl rfl (full2_ok w x y) rfl ?_
  refine sp W 0 rfl rfl rfl (fun h1 => ?_) (fun h1 => ?_)
  · unfold twoS
    rw [if_neg h1]
    refine rp W 0 rfl rfl rfl (.tup ⟨sub_noS, sub_noS, trivial⟩)
  · have h1 := Classical.not_not.1 h1
    have p1 := divAbove_ok w x y h1.1 h1.2
    have p2 := divAbove_ok w (negS' w x) (negS' w y) (negS_ok h1.1.2.1.1 h1.1) (negS_ok h1.1.2.1.1 h1.2)
    rw [part_below h1.1 h1.2] at p2
    unfold twoS
    rw [if_pos h1]
    generalize partS w x y = p at *
    generalize negS' w (partS w x (negS' w y)) = q at *
    refine ce W 0 rfl rfl (p1) rfl ?_
    refine phg W 0 9 [8] rfl rfl (fun PW => ?_)
    refine pho PW 0 8 [] [spA (negS' w x), spA (negS' w y), spA q] rfl rfl ⟨(implNeg_ok w x).at rfl _, (implNeg_ok w y).at rfl _, p2.at rfl _, trivial⟩ rfl rfl ?_
    refine phe PW 0 [] [spA (negS' w x), spA (negS' w y), spA q] rfl ⟨(implNeg_ok w x).at rfl _, (implNeg_ok w y).at rfl _, p2.at rfl _, trivial⟩ rfl ?_
    refine sp W 0 rfl rfl rfl (fun a1 => ?_) (fun a1 => ?_)
    · refine sp W 0 rfl rfl rfl (fun a2 => ?_) (fun a2 => ?_)
      · refine sp W 0 rfl rfl rfl (fun a3 => ?_) (fun a3 => ?_)
        · rw [show twoV w p q = (p, q) from if_pos ⟨a1, a2, a3⟩]
          refine phg W 0 3 [2] rfl rfl (fun PW => ?_)
          refine pho PW 0 2 [] [] rfl rfl trivial rfl rfl ?_
          refine phe PW 0 [] [] rfl trivial rfl ?_
          refine rp W 0 rfl rfl rfl (.refl)
        · refine sp W 0 rfl rfl rfl (fun b1 => ?_) (fun b1 => ?_)
          · refine sp W 0 rfl rfl rfl (fun b2 => ?_) (fun b2 => ?_)
            · refine sp W 0 rfl rfl rfl (fun b3 => ?_) (fun b3 => ?_)
              · rw [show twoV w p q = (q, p) by rw [twoV, if_neg (fun k => a3 k.2.2), if_pos ⟨a1, a2, b3⟩]]
                refine phg W 0 3 [2] rfl rfl (fun PW => ?_)
                refine pho PW 0 2 [] [] rfl rfl trivial rfl rfl ?_
                refine phe PW 0 [] [] rfl trivial rfl ?_
                refine rp W 0 rfl rfl rfl (.refl)
              · rw [show twoV w p q = (hullS w p q, noS) by rw [twoV, if_neg (fun k => a3 k.2.2), if_neg (fun k => b3 k.2.2)]]
                refine ce W 0 rfl rfl (implHull_ok w p q) rfl ?_
                refine rp W 0 rfl rfl rfl (.tup ⟨.refl, sub_noS, trivial⟩)
            · exact absurd a2 b2
          · exact absurd a1 b1
      · refine sp W 0 rfl rfl rfl (fun b1 => ?_) (fun b1 => ?_)
        · refine sp W 0 rfl rfl rfl (fun b2 => ?_) (fun b2 => ?_)
          · exact absurd b2 a2
          · rw [show twoV w p q = (hullS w p q, noS) by rw [twoV, if_neg (fun k => a2 k.2.1), if_neg (fun k => a2 k.2.1)]]
            refine ce W 0 rfl rfl (implHull_ok w p q) rfl ?_
            refine rp W 0 rfl rfl rfl (.tup ⟨.refl, sub_noS, trivial⟩)
        · exact absurd a1 b1
    · refine sp W 0 rfl rfl rfl (fun b1 => ?_) (fun b1 => ?_)
      · exact absurd b1 a1
      · rw [show twoV w p q = (hullS w p q, noS) by rw [twoV, if_neg (fun k => a1 k.1), if_neg (fun k => a1 k.1)]]
        refine ce W 0 rfl rfl (implHull_ok w p q) rfl ?_
        refine rp W 0 rfl rfl rfl (.tup ⟨.refl, sub_noS, trivial⟩)
theorem specDivTwo_ok (w : Int) (x y : Prop × Int × Int) : AFunP Tryd.prog 38 [.int .i64 w, spA x, spA y] (· = spR2 (twoS w x y)) := by
  refine afun_of Tryd.func38 Tryd.call38 rfl Tryd.ntmps38 rfl ?_
  have W : Walk Tryd.prog TT 38 _ := Walk.of TT_ok Tryd.func38 Tryd.results38
  refine ce W 0 rfl rfl (l9Both_ok w x.1 x.2.1 x.2.2 y.1 y.2.1 y.2.2) rfl ?_
  refine sp W 0 rfl rfl rfl (fun h1 => ?_) (fun h1 => ?_)
  · unfold twoS
    rw [if_neg (fun k => h1 ⟨⟨k.1.1, k.2.1⟩, k.1.2, k.2.2⟩)]
    refine rp W 0 rfl rfl rfl (.tup ⟨sub_noS, sub_noS, trivial⟩)
  · have h1 := Classical.not_not.1 h1
    have hx : fullS w x := ⟨h1.1.1, h1.2.1⟩
    have hy : fullS w y := ⟨h1.1.2, h1.2.2⟩
    have hw := hx.2.1.1
    have p1 := l9Part_ok w x y hx hy
    have p2 := l9Part_ok w x (negS' w y) hx (negS_ok hw hy)
    have o1 := partS_okS hx hy
    have o2 := negS_okS (partS_okS hx (negS_ok hw hy))
    unfold twoS
    rw [if_pos ⟨hx, hy⟩]
    refine ce W 0 rfl rfl (p1) rfl ?_
    refine phg W 0 9 [8] rfl rfl (fun PW => ?_)
    refine pho PW 0 8 [] [spA (negS' w y), spA (partS w x (negS' w y)), spA (negS' w (partS w x (negS' w y)))] rfl rfl ⟨(specNeg_ok w _ _ _).at rfl _, p2.at rfl _, (specNeg_ok w _ _ _).at rfl _, trivial⟩ rfl rfl ?_
    refine phe PW 0 [] [spA (negS' w y), spA (partS w x (negS' w y)), spA (negS' w (partS w x (negS' w y)))] rfl ⟨(specNeg_ok w _ _ _).at rfl _, p2.at rfl _, (specNeg_ok w _ _ _).at rfl _, trivial⟩ rfl ?_
    generalize partS w x y = p at *
    generalize negS' w (partS w x (negS' w y)) = q at *
    refine sp W 0 rfl rfl rfl (fun a1 => ?_) (fun a1 => ?_)
    · rw [two_p hw o1 o2 a1]
      refine rp W 0 rfl rfl rfl (.tup ⟨.refl, sub_noS, trivial⟩)
    · have a1 := Classical.not_not.1 a1
      refine sp W 0 rfl rfl rfl (fun a2 => ?_) (fun a2 => ?_)
      · rw [two_q hw o1 o2 a1 a2]
        refine rp W 0 rfl rfl rfl (.tup ⟨.refl, sub_noS, trivial⟩)
      · have a2 := Classical.not_not.1 a2
        have fp := okS_full o1 a1
        have fq := okS_full o2 a2
        refine ce W 0 rfl rfl (l9Both_ok w p.1 p.2.1 p.2.2 q.1 q.2.1 q.2.2) rfl ?_
        refine sp W 0 rfl rfl rfl (fun a3 => ?_) (fun a3 => ?_)
        · refine ce W 0 rfl rfl (specMeet_ok w p q) rfl ?_
          refine sp W 0 rfl rfl rfl (fun a4 => ?_) (fun a4 => ?_)
          · rw [two_m fp fq a4]
            refine ce W 0 rfl rfl (specHull_ok w p q) rfl ?_
            refine rp W 0 rfl rfl rfl (.tup ⟨.refl, sub_noS, trivial⟩)
          · refine sp W 0 rfl rfl rfl (fun a5 => ?_) (fun a5 => ?_)
            · rw [two_l fp fq a4 a5]
              refine phg W 0 3 [2] rfl rfl (fun PW => ?_)
              refine pho PW 0 2 [] [] rfl rfl trivial rfl rfl ?_
              refine phe PW 0 [] [] rfl trivial rfl ?_
              refine rp W 0 rfl rfl rfl (.refl)
            · rw [two_r fp fq a4 a5]
              refine phg W 0 3 [2] rfl rfl (fun PW => ?_)
              refine pho PW 0 2 [] [] rfl rfl trivial rfl rfl ?_
              refine phe PW 0 [] [] rfl trivial rfl ?_
              refine rp W 0 rfl rfl rfl (.refl)
        · exact absurd ⟨⟨a1, a2⟩, fp.2, fq.2⟩ a3
noncomputable def divSp (w : Int) (x y : Prop × Int × Int) : Prop × Int × Int := hullS w (twoS w x y).1 (twoS w x y).2
theorem implDiv_ok (w : Int) (x y : Prop × Int × Int) : AFunP Tryd.prog 41 [.int .i64 w, spA x, spA y] (· = spA (divSp w x y)) := by
  have k := implDivTwo_ok w x y
  unfold divSp
  generalize twoS w x y = r at *
  refine afun_of Tryd.func41 Tryd.call41 rfl Tryd.ntmps41 rfl ?_
  have W : Walk Tryd.prog TT 41 _ := Walk.of TT_ok Tryd.func41 Tryd.results41
  refine ce W 0 rfl rfl (k) rfl ?_
  refine ce W 0 rfl rfl (implHull_ok w r.1 r.2) rfl ?_
  refine rp W 0 rfl rfl rfl (.refl)
theorem specDiv_ok (w : Int) (x y : Prop × Int × Int) : AFunP Tryd.prog 40 [.int .i64 w, spA x, spA y] (· = spA (divSp w x y)) := by
  have k := specDivTwo_ok w x y
  unfold divSp
  generalize twoS w x y = r at *
  refine afun_of Tryd.func40 Tryd.call40 rfl Tryd.ntmps40 rfl ?_
  have W : Walk Tryd.prog TT 40 _ := Walk.of TT_ok Tryd.func40 Tryd.results40
  refine ce W 0 rfl rfl (k) rfl ?_
  refine ce W 0 rfl rfl (specHull_ok w r.1 r.2) rfl ?_
  refine rp W 0 rfl rfl rfl (.refl)
end Pf
/- impl's SpanMul -/
namespace Pf
open Go Go.Proofs
theorem mul1 {w X Y : Int} (hX : bitOk w X) (hY : bitOk w Y) : ∃ (i j k : Int) (p q r : Prop) (t u t' u' t'' u'' : List Int),
    AFunP Tryd.prog 58 [.int .i64 w, .int .i64 X] (· = .agg [.int .i64 i, .pr p, .fi .i64 t, .fi .i64 u]) ∧ AFunP Tryd.prog 58 [.int .i64 w, .int .i64 Y] (· = .agg [.int .i64 j, .pr q, .fi .i64 t', .fi .i64 u']) ∧
    AFunP Tryd.prog 59 [.agg [.int .i64 i, .pr p, .fi .i64 t, .fi .i64 u], .agg [.int .i64 j, .pr q, .fi .i64 t', .fi .i64 u']] (· = .agg [.int .i64 k, .pr r, .fi .i64 t'', .fi .i64 u'']) ∧
    AFunP Tryd.prog 60 [.agg [.int .i64 k, .pr r, .fi .i64 t'', .fi .i64 u''], .int .i64 w] (· = .tup [.int .i64 (mulB w X Y).1, .int .i64 (mulB w X Y).2]) := by
  have k1 := limitOf_ok w X hX
  have k2 := limitOf_ok w Y hY
  have k3 := ltimes_ok (limW w X) (limW w Y) (limW_mid hX) (limW_mid hY) (limW_rng w X) (limW_rng w Y)
  have k4 := mul_calls hX hY
  rw [limV_eq, limV_eq (limW w Y), limV_eq (ltimes _ _)] at k3
  rw [limV_eq] at k1 k2 k4
  exact ⟨_, _, _, _, _, _, _, _, _, _, _, _, k1, k2, k3, k4⟩
def mulAcc (B : Nat → Int × Int) : Nat → Int × Int
  | 0 => (0, 0)
  | 1 => B 0
  | n + 2 => (min (mulAcc B (n + 1)).1 (B (n + 1)).1, max (mulAcc B (n + 1)).2 (B (n + 1)).2)
def accR (B : Nat → Int × Int) : Nat → List AV
  | 0 => [.bool false, .int .i64 0, .int .i64 0]
  | n + 1 => [.pr True, .int .i64 (mulAcc B (n + 1)).1, .int .i64 (mulAcc B (n + 1)).2]
noncomputable def mulX (w : Int) (x y : Prop × Int × Int) (n : Nat) : Int × Int := mulB w (if n / 2 = 0 then x.2.1 else x.2.2) (if n % 2 = 0 then y.2.1 else y.2.2)
theorem mulAcc_end (w : Int) (x y : Prop × Int × Int) (h : fullS w x ∧ fullS w y) : spA (mulSp w x y) = .agg [.pr True, .int .i64 (mulAcc (mulX w x y) 4).1, .int .i64 (mulAcc (mulX w x y) 4).2] := by
  rw [mulSp, if_pos h]
  have e0 : mulX w x y 0 = mulB w x.2.1 y.2.1 := rfl
  have e1 : mulX w x y 1 = mulB w x.2.1 y.2.2 := rfl
  have e2 : mulX w x y 2 = mulB w x.2.2 y.2.1 := rfl
  have e3 : mulX w x y 3 = mulB w x.2.2 y.2.2 := rfl
  simp only [mulAcc, e0, e1, e2, e3, spA, spV]
  have m1 : ∀ a b c d : Int, min (min a b) (min c d) = min (min (min a b) c) d := by intros; omega
  have m2 : ∀ a b c d : Int, max (max a b) (max c d) = max (max (max a b) c) d := by intros; omega
  rw [m1, m2]
theorem implMul_ok (w : Int) (x y : Prop × Int × Int) : AFunP Tryd.prog 17 [.int .i64 w, spA x, spA y] (· = spA (mulSp w x y)) := by
  refine afun_of Tryd.func17 Tryd.call17 rfl Tryd.ntmps17 rfl ?_
  have W : Walk Tryd.prog TT 17 _ := Walk.of TT_ok Tryd.func17 Tryd.results17
  refine cf W 0 [3] [0, 1, 2, 4, 5, 6] rfl rfl rfl rfl rfl rfl (full2_ok w x y) rfl ?_
  refine sp W 0 rfl rfl rfl (fun h1 => ?_) (fun h1 => ?_)
  · unfold mulSp
    rw [if_neg h1]
    refine rp W 0 rfl rfl rfl (sub_noS)
  · have h1 := Classical.not_not.1 h1
    rw [mulAcc_end w x y h1]
    obtain ⟨⟨-, xa, xb, -⟩, -, ya, yb, -⟩ := h1
    refine lp W 0 (σ := Nat) (fun i => [(0, .int .i64 w), (4, .ptr 0 0 0 0), (5, .ptr 1 0 0 0), (6, .ptr 2 0 0 0), (7, .ptr 4 0 0 0), (26, .sl 5 0 0 2), (27, .int .i64 2), (28, .int .i64 i)]) (fun i => [.lst 0 [spR x], .lst 0 [spR y], .lst 0 [[.bool false, .int .i64 0, .int .i64 0]], .dead, .lst 0 [accR (mulX w x y) (2 * i)], .ints 0 .i64 [x.2.1, x.2.2]]) (fun i => 2 - i)
      (fun i => i ≤ 2) 0 [0, 4, 5, 6, 7, 26, 27, 28] rfl rfl rfl (by omega) ?_
    rintro i hi ih
    refine sp W 0 rfl rfl rfl (fun h2 => ?_) (fun h2 => ?_)
    · rcases (by omega : i = 0 ∨ i = 1) with rfl | rfl
      · refine lp W 0 (σ := Nat) (fun j => [(0, .int .i64 w), (4, .ptr 0 0 0 0), (5, .ptr 1 0 0 0), (6, .ptr 2 0 0 0), (7, .ptr 4 0 0 0), (26, .sl 5 0 0 2), (27, .int .i64 2), (28, .int .i64 ((0 : Nat) : Int)), (9, .int .i64 x.2.1), (36, .sl 6 0 0 2), (37, .int .i64 2), (38, .int .i64 j)]) (fun j => [.lst 0 [spR x], .lst 0 [spR y], .lst 0 [[.bool false, .int .i64 0, .int .i64 0]], .dead, .lst 0 [accR (mulX w x y) (2 * 0 + j)], .ints 0 .i64 [x.2.1, x.2.2], .ints 0 .i64 [y.2.1, y.2.2]]) (fun j => 2 - j)
          (fun j => j ≤ 2) 0 [0, 4, 5, 6, 7, 26, 27, 28, 9, 36, 37, 38] rfl rfl rfl (by omega) ?_
        rintro j hj jh
        refine sp W 0 rfl rfl rfl (fun h3 => ?_) (fun h3 => ?_)
        · rcases (by omega : j = 0 ∨ j = 1) with rfl | rfl
          · skip
            have hb : mulX w x y 0 = mulB w x.2.1 y.2.1 := rfl
            obtain ⟨i1, i2, i3, p1, p2, p3, t1, u1, t2, u2, t3, u3, q1, q2, q3, q4⟩ := mul1 xa ya
            rw [← hb] at q4
            generalize mulX w x y = B at *
            refine ce W 0 rfl rfl (q1) rfl ?_
            refine ce W 0 rfl rfl (q2) rfl ?_
            refine ce W 0 rfl rfl (q3) rfl ?_
            refine ce W 0 rfl rfl (q4) rfl ?_
            refine ce W 0 rfl rfl (some_ok (B 0).1 (B 0).2) rfl ?_
            refine ce W 0 rfl rfl (some_ok (min (B 0).1 (B 0).1) (max (B 0).2 (B 0).2)) rfl ?_
            rw [Int.min_self, Int.max_self]
            refine bk W 0 [0, 4, 5, 6, 7, 26, 27, 28, 9, 36, 37, 38] rfl rfl (jh 1 (by omega) (by omega))
          · skip
            have hb : mulX w x y 1 = mulB w x.2.1 y.2.2 := rfl
            obtain ⟨i1, i2, i3, p1, p2, p3, t1, u1, t2, u2, t3, u3, q1, q2, q3, q4⟩ := mul1 xa yb
            rw [← hb] at q4
            generalize mulX w x y = B at *
            refine ce W 0 rfl rfl (q1) rfl ?_
            refine ce W 0 rfl rfl (q2) rfl ?_
            refine ce W 0 rfl rfl (q3) rfl ?_
            refine ce W 0 rfl rfl (q4) rfl ?_
            refine sp W 0 rfl rfl rfl (fun hs => ?_) (fun hs => ?_)
            · exact absurd trivial hs
            refine ce W 0 rfl rfl (some_ok (mulAcc B (1 + 1)).1 (mulAcc B (1 + 1)).2) rfl ?_
            refine bk W 0 [0, 4, 5, 6, 7, 26, 27, 28, 9, 36, 37, 38] rfl rfl (jh 2 (by omega) (by omega))
        · obtain rfl : j = 2 := by omega
          refine bd W 0 6 [0, 4, 5, 6, 7, 26, 27, 28] rfl rfl rfl rfl rfl (ih 1 (by omega) (by omega))
      · refine lp W 0 (σ := Nat) (fun j => [(0, .int .i64 w), (4, .ptr 0 0 0 0), (5, .ptr 1 0 0 0), (6, .ptr 2 0 0 0), (7, .ptr 4 0 0 0), (26, .sl 5 0 0 2), (27, .int .i64 2), (28, .int .i64 ((1 : Nat) : Int)), (9, .int .i64 x.2.2), (36, .sl 6 0 0 2), (37, .int .i64 2), (38, .int .i64 j)]) (fun j => [.lst 0 [spR x], .lst 0 [spR y], .lst 0 [[.bool false, .int .i64 0, .int .i64 0]], .dead, .lst 0 [accR (mulX w x y) (2 * 1 + j)], .ints 0 .i64 [x.2.1, x.2.2], .ints 0 .i64 [y.2.1, y.2.2]]) (fun j => 2 - j)
          (fun j => j ≤ 2) 0 [0, 4, 5, 6, 7, 26, 27, 28, 9, 36, 37, 38] rfl rfl rfl (by omega) ?_
        rintro j hj jh
        refine sp W 0 rfl rfl rfl (fun h3 => ?_) (fun h3 => ?_)
        · rcases (by omega : j = 0 ∨ j = 1) with rfl | rfl
          · skip
            have hb : mulX w x y 2 = mulB w x.2.2 y.2.1 := rfl
            obtain ⟨i1, i2, i3, p1, p2, p3, t1, u1, t2, u2, t3, u3, q1, q2, q3, q4⟩ := mul1 xb ya
            rw [← hb] at q4
            generalize mulX w x y = B at *
            refine ce W 0 rfl rfl (q1) rfl ?_
            refine ce W 0 rfl rfl (q2) rfl ?_
            refine ce W 0 rfl rfl (q3) rfl ?_
            refine ce W 0 rfl rfl (q4) rfl ?_
            refine sp W 0 rfl rfl rfl (fun hs => ?_) (fun hs => ?_)
            · exact absurd trivial hs
            refine ce W 0 rfl rfl (some_ok (mulAcc B (2 + 1)).1 (mulAcc B (2 + 1)).2) rfl ?_
            refine bk W 0 [0, 4, 5, 6, 7, 26, 27, 28, 9, 36, 37, 38] rfl rfl (jh 1 (by omega) (by omega))
          · skip
            have hb : mulX w x y 3 = mulB w x.2.2 y.2.2 := rfl
            obtain ⟨i1, i2, i3, p1, p2, p3, t1, u1, t2, u2, t3, u3, q1, q2, q3, q4⟩ := mul1 xb yb
            rw [← hb] at q4
            generalize mulX w x y = B at *
            refine ce W 0 rfl rfl (q1) rfl ?_
            refine ce W 0 rfl rfl (q2) rfl ?_
            refine ce W 0 rfl rfl (q3) rfl ?_
            refine ce W 0 rfl rfl (q4) rfl ?_
            refine sp W 0 rfl rfl rfl (fun hs => ?_) (fun hs => ?_)
            · exact absurd trivial hs
            refine ce W 0 rfl rfl (some_ok (mulAcc B (3 + 1)).1 (mulAcc B (3 + 1)).2) rfl ?_
            refine bk W 0 [0, 4, 5, 6, 7, 26, 27, 28, 9, 36, 37, 38] rfl rfl (jh 2 (by omega) (by omega))
        · obtain rfl : j = 2 := by omega
          refine bd W 0 6 [0, 4, 5, 6, 7, 26, 27, 28] rfl rfl rfl rfl rfl (ih 2 (by omega) (by omega))
    · obtain rfl : i = 2 := by omega

      refine rp W 0 rfl rfl rfl (.refl)
end Pf
/- BackMul, its gap, BackTop, BackBottom on both sides -/
namespace Pf
open Go Go.Proofs
/-- A span has 0; is just 0. -/
def zeroS (x : Prop × Int × Int) : Prop := x.2.1 ≤ 0 ∧ 0 ≤ x.2.2
theorem zero_ok (x : Prop × Int × Int) : AFunP Tryd.prog 102 [spA x] (· = .pr (zeroS x)) := by
  refine afun_of Tryd.func102 Tryd.call102 rfl Tryd.ntmps102 rfl ?_
  have W : Walk Tryd.prog TT 102 _ := Walk.of TT_ok Tryd.func102 Tryd.results102
  refine sp W 0 rfl rfl rfl (fun h1 => ?_) (fun h1 => ?_)
  · refine rp W 0 rfl rfl rfl (.pr ⟨fun h => ⟨h1, h⟩, fun h => h.2⟩)
  · refine rp W 0 rfl rfl rfl (.no (fun h => h1 h.1))
theorem nought_ok (x : Prop × Int × Int) : AFunP Tryd.prog 69 [spA x] (· = .pr (x.2.1 = 0 ∧ x.2.2 = 0)) := by
  refine afun_of Tryd.func69 Tryd.call69 rfl Tryd.ntmps69 rfl ?_
  have W : Walk Tryd.prog TT 69 _ := Walk.of TT_ok Tryd.func69 Tryd.results69
  refine sp W 0 rfl rfl rfl (fun h1 => ?_) (fun h1 => ?_)
  · refine rp W 0 rfl rfl rfl (.pr ⟨fun h => ⟨h1, h⟩, fun h => h.2⟩)
  · refine rp W 0 rfl rfl rfl (.no (fun h => h1 h.1))
theorem l10Nought_ok (x : Prop × Int × Int) : AFunP Tryd.prog 101 [spA x] (· = .pr (x.1 ∧ zeroS x)) := by
  refine afun_of Tryd.func101 Tryd.call101 rfl Tryd.ntmps101 rfl ?_
  have W : Walk Tryd.prog TT 101 _ := Walk.of TT_ok Tryd.func101 Tryd.results101
  refine sp W 0 rfl rfl rfl (fun h1 => ?_) (fun h1 => ?_)
  · refine sp W 0 rfl rfl rfl (fun h2 => ?_) (fun h2 => ?_)
    · refine rp W 0 rfl rfl rfl (.pr ⟨fun h => ⟨h1, h2, h⟩, fun h => h.2.2⟩)
    · refine rp W 0 rfl rfl rfl (.no (fun h => h2 h.2.1))
  · refine rp W 0 rfl rfl rfl (.no (fun h => h1 h.1))
theorem l10Three_ok (w : Int) (x y z : Prop × Int × Int) : AFunP Tryd.prog 67 [.int .i64 w, spA x, spA y, spA z] (· = .pr (fullS w x ∧ fullS w y ∧ fullS w z)) := by
  refine afun_of Tryd.func67 Tryd.call67 rfl Tryd.ntmps67 rfl ?_
  have W : Walk Tryd.prog TT 67 _ := Walk.of TT_ok Tryd.func67 Tryd.results67
  refine ce W 0 rfl rfl (l9Both_ok w x.1 x.2.1 x.2.2 y.1 y.2.1 y.2.2) rfl ?_
  refine sp W 0 rfl rfl rfl (fun h1 => ?_) (fun h1 => ?_)
  · refine ce W 0 rfl rfl (specSpanOk_ok w z.1 z.2.1 z.2.2) rfl ?_
    refine sp W 0 rfl rfl rfl (fun h2 => ?_) (fun h2 => ?_)
    · refine rp W 0 rfl rfl rfl (.pr ⟨fun h => ⟨⟨h1.1.1, h1.2.1⟩, ⟨h1.1.2, h1.2.2⟩, fullS_iff.2 ⟨h, h2⟩⟩, fun h => h.2.2.1⟩)
    · refine rp W 0 rfl rfl rfl (.no (fun h => h2 (fullS_iff.1 h.2.2).2))
  · refine rp W 0 rfl rfl rfl (.no (fun h => h1 ⟨⟨h.1.1, h.2.1.1⟩, h.1.2, h.2.1.2⟩))
theorem backParts_ok (w : Int) (z y x : Prop × Int × Int) : AFunP Tryd.prog 103 [.int .i64 w, spA z, spA y, spA x] (· = spR2 (meetS w x (twoS w z y).1, meetS w x (twoS w z y).2)) := by
  have k := implDivTwo_ok w z y
  generalize twoS w z y = r at *
  refine afun_of Tryd.func103 Tryd.call103 rfl Tryd.ntmps103 rfl ?_
  have W : Walk Tryd.prog TT 103 _ := Walk.of TT_ok Tryd.func103 Tryd.results103
  refine ce W 0 rfl rfl (k) rfl ?_
  refine dre W 0 7 [] [spA (meetS w x r.1)] rfl rfl rfl ⟨(implMeet_ok w x r.1).at rfl _, trivial⟩ rfl ?_
  refine ce W 0 rfl rfl (implMeet_ok w x r.2) rfl ?_
  refine rp W 0 rfl rfl rfl (.refl)
open Classical in
noncomputable def backMul (w : Int) (z y x : Prop × Int × Int) : Prop × Int × Int :=
  if fullS w z ∧ fullS w y ∧ fullS w x then (if zeroS z ∧ zeroS y then x else hullS w (meetS w x (twoS w z y).1) (meetS w x (twoS w z y).2)) else noS
theorem implBackMul_ok (w : Int) (z y x : Prop × Int × Int) : AFunP Tryd.prog 46 [.int .i64 w, spA z, spA y, spA x] (· = spA (backMul w z y x)) := by
  have k := backParts_ok w z y x
  unfold backMul
  generalize meetS w x (twoS w z y).1 = p at *
  generalize meetS w x (twoS w z y).2 = q at *
  refine afun_of Tryd.func46 Tryd.call46 rfl Tryd.ntmps46 rfl ?_
  have W : Walk Tryd.prog TT 46 _ := Walk.of TT_ok Tryd.func46 Tryd.results46
  refine cf W 0 [4] [0, 1, 2, 3, 4, 5, 6, 7, 8, 9] rfl rfl rfl rfl rfl rfl (full3_ok w z y x) rfl ?_
  refine sp W 0 rfl rfl rfl (fun h1 => ?_) (fun h1 => ?_)
  · rw [if_neg h1]
    refine rp W 0 rfl rfl rfl (sub_noS)
  · rw [if_pos (Classical.not_not.1 h1)]
    refine ce W 0 rfl rfl (zero_ok z) rfl ?_
    refine sp W 0 rfl rfl rfl (fun h2 => ?_) (fun h2 => ?_)
    · refine ce W 0 rfl rfl (zero_ok y) rfl ?_
      refine sp W 0 rfl rfl rfl (fun h3 => ?_) (fun h3 => ?_)
      · rw [if_pos ⟨h2, h3⟩]
        refine rp W 0 rfl rfl rfl (.refl)
      · rw [if_neg (fun k => h3 k.2)]
        refine ce W 0 rfl rfl (k) rfl ?_
        refine ce W 0 rfl rfl (implHull_ok w p q) rfl ?_
        refine rp W 0 rfl rfl rfl (.refl)
    · rw [if_neg (fun k => h2 k.1)]
      refine ce W 0 rfl rfl (k) rfl ?_
      refine ce W 0 rfl rfl (implHull_ok w p q) rfl ?_
      refine rp W 0 rfl rfl rfl (.refl)
theorem specBackMul_ok (w : Int) (z y x : Prop × Int × Int) : AFunP Tryd.prog 45 [.int .i64 w, spA z, spA y, spA x] (· = spA (backMul w z y x)) := by
  have k := specDivTwo_ok w z y
  unfold backMul
  generalize twoS w z y = r at *
  refine afun_of Tryd.func45 Tryd.call45 rfl Tryd.ntmps45 rfl ?_
  have W : Walk Tryd.prog TT 45 _ := Walk.of TT_ok Tryd.func45 Tryd.results45
  refine ce W 0 rfl rfl (l10Three_ok w z y x) rfl ?_
  refine sp W 0 rfl rfl rfl (fun h1 => ?_) (fun h1 => ?_)
  · rw [if_neg h1]
    refine rp W 0 rfl rfl rfl (sub_noS)
  · have h1 := Classical.not_not.1 h1
    rw [if_pos h1]
    refine ce W 0 rfl rfl (l10Nought_ok z) rfl ?_
    refine sp W 0 rfl rfl rfl (fun h2 => ?_) (fun h2 => ?_)
    · refine ce W 0 rfl rfl (l10Nought_ok y) rfl ?_
      refine sp W 0 rfl rfl rfl (fun h3 => ?_) (fun h3 => ?_)
      · rw [if_pos ⟨h2.2, h3.2⟩]
        refine rp W 0 rfl rfl rfl (.refl)
      · rw [if_neg (fun k => h3 ⟨h1.2.1.1, k.2⟩)]
        refine ce W 0 rfl rfl (k) rfl ?_
        refine dre W 0 9 [] [spA (meetS w x r.1), spA (meetS w x r.2)] rfl rfl rfl ⟨(specMeet_ok w x r.1).at rfl _, (specMeet_ok w x r.2).at rfl _, trivial⟩ rfl ?_
        refine ce W 0 rfl rfl (specHull_ok w (meetS w x r.1) (meetS w x r.2)) rfl ?_
        refine rp W 0 rfl rfl rfl (.refl)
    · rw [if_neg (fun k => h2 ⟨h1.1.1, k.1⟩)]
      refine ce W 0 rfl rfl (k) rfl ?_
      refine dre W 0 9 [] [spA (meetS w x r.1), spA (meetS w x r.2)] rfl rfl rfl ⟨(specMeet_ok w x r.1).at rfl _, (specMeet_ok w x r.2).at rfl _, trivial⟩ rfl ?_
      refine ce W 0 rfl rfl (specHull_ok w (meetS w x r.1) (meetS w x r.2)) rfl ?_
      refine rp W 0 rfl rfl rfl (.refl)
open Classical in
/-- The gap: whether there is one, its bounds. -/
noncomputable def gapS (w : Int) (z y x : Prop × Int × Int) : Prop × Int × Int :=
  if fullS w z ∧ fullS w y ∧ fullS w x then (if zeroS z ∧ zeroS y then noS else if (meetS w x (twoS w z y).1).1 ∧ (meetS w x (twoS w z y).2).1 then (True, (meetS w x (twoS w z y).1).2.2, (meetS w x (twoS w z y).2).2.1) else noS) else noS
abbrev gapA (g : Prop × Int × Int) : AV := .tup [.agg [.int .i64 g.2.1, .int .i64 g.2.2], .pr g.1]
theorem sub_gap : Sub (.tup [.agg [.int .i64 0, .int .i64 0], .bool false]) (gapA noS) := .tup ⟨.agg ⟨.refl, .refl, trivial⟩, .no id, trivial⟩
theorem implGap_ok (w : Int) (z y x : Prop × Int × Int) : AFunP Tryd.prog 43 [.int .i64 w, spA z, spA y, spA x] (· = gapA (gapS w z y x)) := by
  have k := backParts_ok w z y x
  unfold gapS
  generalize meetS w x (twoS w z y).1 = p at *
  generalize meetS w x (twoS w z y).2 = q at *
  refine afun_of Tryd.func43 Tryd.call43 rfl Tryd.ntmps43 rfl ?_
  have W : Walk Tryd.prog TT 43 _ := Walk.of TT_ok Tryd.func43 Tryd.results43
  refine cf W 0 [4] [0, 1, 2, 3, 4, 5, 6, 7, 8, 9] rfl rfl rfl rfl rfl rfl (full3_ok w z y x) rfl ?_
  refine sp W 0 rfl rfl rfl (fun h1 => ?_) (fun h1 => ?_)
  · rw [if_neg h1]
    refine rp W 0 rfl rfl rfl (sub_gap)
  · rw [if_pos (Classical.not_not.1 h1)]
    refine ce W 0 rfl rfl (zero_ok z) rfl ?_
    refine sp W 0 rfl rfl rfl (fun h2 => ?_) (fun h2 => ?_)
    · refine ce W 0 rfl rfl (zero_ok y) rfl ?_
      refine sp W 0 rfl rfl rfl (fun h3 => ?_) (fun h3 => ?_)
      · rw [if_pos ⟨h2, h3⟩]
        refine rp W 0 rfl rfl rfl (sub_gap)
      · rw [if_neg (fun k => h3 k.2)]
        refine ce W 0 rfl rfl (k) rfl ?_
        refine sp W 0 rfl rfl rfl (fun h4 => ?_) (fun h4 => ?_)
        · rw [if_neg (fun k => h4 k.1)]
          refine rp W 0 rfl rfl rfl (sub_gap)
        · refine sp W 0 rfl rfl rfl (fun h5 => ?_) (fun h5 => ?_)
          · rw [if_neg (fun k => h5 k.2)]
            refine rp W 0 rfl rfl rfl (sub_gap)
          · rw [if_pos ⟨Classical.not_not.1 h4, Classical.not_not.1 h5⟩]
            refine rp W 0 rfl rfl rfl (.tup ⟨.refl, .yes trivial, trivial⟩)
    · rw [if_neg (fun k => h2 k.1)]
      refine ce W 0 rfl rfl (k) rfl ?_
      refine sp W 0 rfl rfl rfl (fun h4 => ?_) (fun h4 => ?_)
      · rw [if_neg (fun k => h4 k.1)]
        refine rp W 0 rfl rfl rfl (sub_gap)
      · refine sp W 0 rfl rfl rfl (fun h5 => ?_) (fun h5 => ?_)
        · rw [if_neg (fun k => h5 k.2)]
          refine rp W 0 rfl rfl rfl (sub_gap)
        · rw [if_pos ⟨Classical.not_not.1 h4, Classical.not_not.1 h5⟩]
          refine rp W 0 rfl rfl rfl (.tup ⟨.refl, .yes trivial, trivial⟩)
theorem specGap_ok (w : Int) (z y x : Prop × Int × Int) : AFunP Tryd.prog 42 [.int .i64 w, spA z, spA y, spA x] (· = gapA (gapS w z y x)) := by
  have k := specDivTwo_ok w z y
  unfold gapS
  generalize twoS w z y = r at *
  have k1 := specMeet_ok w x r.1
  have k2 := specMeet_ok w x r.2
  generalize meetS w x r.1 = p at *
  generalize meetS w x r.2 = q at *
  refine afun_of Tryd.func42 Tryd.call42 rfl Tryd.ntmps42 rfl ?_
  have W : Walk Tryd.prog TT 42 _ := Walk.of TT_ok Tryd.func42 Tryd.results42
  refine ce W 0 rfl rfl (l10Three_ok w z y x) rfl ?_
  refine sp W 0 rfl rfl rfl (fun h1 => ?_) (fun h1 => ?_)
  · rw [if_neg h1]
    refine rp W 0 rfl rfl rfl (sub_gap)
  · have h1 := Classical.not_not.1 h1
    rw [if_pos h1]
    refine ce W 0 rfl rfl (l10Nought_ok z) rfl ?_
    refine sp W 0 rfl rfl rfl (fun h2 => ?_) (fun h2 => ?_)
    · refine ce W 0 rfl rfl (l10Nought_ok y) rfl ?_
      refine sp W 0 rfl rfl rfl (fun h3 => ?_) (fun h3 => ?_)
      · rw [if_pos ⟨h2.2, h3.2⟩]
        refine rp W 0 rfl rfl rfl (sub_gap)
      · rw [if_neg (fun k => h3 ⟨h1.2.1.1, k.2⟩)]
        refine ce W 0 rfl rfl (k) rfl ?_
        refine ce W 0 rfl rfl (k1) rfl ?_
        refine ce W 0 rfl rfl (k2) rfl ?_
        refine sp W 0 rfl rfl rfl (fun h4 => ?_) (fun h4 => ?_)
        · rw [if_neg (fun k => h4 k.1)]
          refine rp W 0 rfl rfl rfl (sub_gap)
        · refine sp W 0 rfl rfl rfl (fun h5 => ?_) (fun h5 => ?_)
          · rw [if_neg (fun k => h5 k.2)]
            refine rp W 0 rfl rfl rfl (sub_gap)
          · rw [if_pos ⟨Classical.not_not.1 h4, Classical.not_not.1 h5⟩]
            refine rp W 0 rfl rfl rfl (.tup ⟨.refl, .yes trivial, trivial⟩)
    · rw [if_neg (fun k => h2 ⟨h1.1.1, k.1⟩)]
      refine ce W 0 rfl rfl (k) rfl ?_
      refine ce W 0 rfl rfl (k1) rfl ?_
      refine ce W 0 rfl rfl (k2) rfl ?_
      refine sp W 0 rfl rfl rfl (fun h4 => ?_) (fun h4 => ?_)
      · rw [if_neg (fun k => h4 k.1)]
        refine rp W 0 rfl rfl rfl (sub_gap)
      · refine sp W 0 rfl rfl rfl (fun h5 => ?_) (fun h5 => ?_)
        · rw [if_neg (fun k => h5 k.2)]
          refine rp W 0 rfl rfl rfl (sub_gap)
        · rw [if_pos ⟨Classical.not_not.1 h4, Classical.not_not.1 h5⟩]
          refine rp W 0 rfl rfl rfl (.tup ⟨.refl, .yes trivial, trivial⟩)
open Classical in
noncomputable def backTop (w : Int) (z y x : Prop × Int × Int) : Prop × Int × Int :=
  if fullS w z ∧ fullS w y ∧ fullS w x then (if y.2.1 = 0 ∧ y.2.2 = 0 then noS else meetS w x (mulSp w z y)) else noS
theorem implBackTop_ok (w : Int) (z y x : Prop × Int × Int) : AFunP Tryd.prog 24 [.int .i64 w, spA z, spA y, spA x] (· = spA (backTop w z y x)) := by
  have k := implMul_ok w z y
  unfold backTop
  generalize mulSp w z y = r at *
  refine afun_of Tryd.func24 Tryd.call24 rfl Tryd.ntmps24 rfl ?_
  have W : Walk Tryd.prog TT 24 _ := Walk.of TT_ok Tryd.func24 Tryd.results24
  refine cf W 0 [4] [0, 1, 2, 3, 4, 5, 6, 7, 8, 9] rfl rfl rfl rfl rfl rfl (full3_ok w z y x) rfl ?_
  refine sp W 0 rfl rfl rfl (fun h1 => ?_) (fun h1 => ?_)
  · rw [if_neg h1]
    refine rp W 0 rfl rfl rfl (sub_noS)
  · rw [if_pos (Classical.not_not.1 h1)]
    refine ce W 0 rfl rfl (nought_ok y) rfl ?_
    refine sp W 0 rfl rfl rfl (fun h2 => ?_) (fun h2 => ?_)
    · rw [if_pos h2]
      refine rp W 0 rfl rfl rfl (sub_noS)
    · rw [if_neg h2]
      refine dre W 0 6 [] [spA r] rfl rfl rfl ⟨k.at rfl _, trivial⟩ rfl ?_
      refine ce W 0 rfl rfl (implMeet_ok w x r) rfl ?_
      refine rp W 0 rfl rfl rfl (.refl)
theorem specBackTop_ok (w : Int) (z y x : Prop × Int × Int) : AFunP Tryd.prog 23 [.int .i64 w, spA z, spA y, spA x] (· = spA (backTop w z y x)) := by
  have k := specMul_ok w z y
  unfold backTop
  generalize mulSp w z y = r at *
  refine afun_of Tryd.func23 Tryd.call23 rfl Tryd.ntmps23 rfl ?_
  have W : Walk Tryd.prog TT 23 _ := Walk.of TT_ok Tryd.func23 Tryd.results23
  refine ce W 0 rfl rfl (l10Three_ok w z y x) rfl ?_
  refine sp W 0 rfl rfl rfl (fun h1 => ?_) (fun h1 => ?_)
  · rw [if_neg h1]
    refine rp W 0 rfl rfl rfl (sub_noS)
  · rw [if_pos (Classical.not_not.1 h1)]
    refine sp W 0 rfl rfl rfl (fun h2 => ?_) (fun h2 => ?_)
    · refine sp W 0 rfl rfl rfl (fun h3 => ?_) (fun h3 => ?_)
      · rw [if_pos ⟨h2, h3⟩]
        refine rp W 0 rfl rfl rfl (sub_noS)
      · rw [if_neg (fun k => h3 k.2)]
        refine dre W 0 6 [] [spA r] rfl rfl rfl ⟨k.at rfl _, trivial⟩ rfl ?_
        refine ce W 0 rfl rfl (specMeet_ok w x r) rfl ?_
        refine rp W 0 rfl rfl rfl (.refl)
    · rw [if_neg (fun k => h2 k.1)]
      refine dre W 0 6 [] [spA r] rfl rfl rfl ⟨k.at rfl _, trivial⟩ rfl ?_
      refine ce W 0 rfl rfl (specMeet_ok w x r) rfl ?_
      refine rp W 0 rfl rfl rfl (.refl)
open Classical in
noncomputable def backBot (w : Int) (z x y : Prop × Int × Int) : Prop × Int × Int :=
  if fullS w z ∧ fullS w x ∧ fullS w y then (if y.2.1 = 0 ∧ y.2.2 = 0 then noS else backMul w x z y) else noS
theorem implBackBot_ok (w : Int) (z x y : Prop × Int × Int) : AFunP Tryd.prog 48 [.int .i64 w, spA z, spA x, spA y] (· = spA (backBot w z x y)) := by
  have k := implBackMul_ok w x z y
  unfold backBot
  generalize backMul w x z y = r at *
  refine afun_of Tryd.func48 Tryd.call48 rfl Tryd.ntmps48 rfl ?_
  have W : Walk Tryd.prog TT 48 _ := Walk.of TT_ok Tryd.func48 Tryd.results48
  refine cf W 0 [4] [0, 1, 2, 3, 4, 5, 6, 7, 8, 9] rfl rfl rfl rfl rfl rfl (full3_ok w z x y) rfl ?_
  refine sp W 0 rfl rfl rfl (fun h1 => ?_) (fun h1 => ?_)
  · rw [if_neg h1]
    refine rp W 0 rfl rfl rfl (sub_noS)
  · rw [if_pos (Classical.not_not.1 h1)]
    refine ce W 0 rfl rfl (nought_ok y) rfl ?_
    refine sp W 0 rfl rfl rfl (fun h2 => ?_) (fun h2 => ?_)
    · rw [if_pos h2]
      refine rp W 0 rfl rfl rfl (sub_noS)
    · rw [if_neg h2]
      refine ce W 0 rfl rfl (k) rfl ?_
      refine rp W 0 rfl rfl rfl (.refl)
theorem specBackBot_ok (w : Int) (z x y : Prop × Int × Int) : AFunP Tryd.prog 47 [.int .i64 w, spA z, spA x, spA y] (· = spA (backBot w z x y)) := by
  have k := specBackMul_ok w x z y
  unfold backBot
  generalize backMul w x z y = r at *
  refine afun_of Tryd.func47 Tryd.call47 rfl Tryd.ntmps47 rfl ?_
  have W : Walk Tryd.prog TT 47 _ := Walk.of TT_ok Tryd.func47 Tryd.results47
  refine ce W 0 rfl rfl (l10Three_ok w z x y) rfl ?_
  refine sp W 0 rfl rfl rfl (fun h1 => ?_) (fun h1 => ?_)
  · rw [if_neg h1]
    refine rp W 0 rfl rfl rfl (sub_noS)
  · rw [if_pos (Classical.not_not.1 h1)]
    refine sp W 0 rfl rfl rfl (fun h2 => ?_) (fun h2 => ?_)
    · refine sp W 0 rfl rfl rfl (fun h3 => ?_) (fun h3 => ?_)
      · rw [if_pos ⟨h2, h3⟩]
        refine rp W 0 rfl rfl rfl (sub_noS)
      · rw [if_neg (fun k => h3 k.2)]
        refine ce W 0 rfl rfl (k) rfl ?_
        refine rp W 0 rfl rfl rfl (.refl)
    · rw [if_neg (fun k => h2 k.1)]
      refine ce W 0 rfl rfl (k) rfl ?_
      refine rp W 0 rfl rfl rfl (.refl)
end Pf
/- The laws of SpanMul, SpanDiv, SpanDivTwo, BackMul, BackMulGap, BackTop, BackBottom -/
namespace Pf
open Go Go.Proofs
theorem eqPair_ok (a b c d : Int) : AFunP Tryd.prog 44 [.agg [.int .i64 a, .int .i64 b], .agg [.int .i64 c, .int .i64 d]] (· = .pr (a = c ∧ b = d)) := by
  refine afun_of Tryd.func44 Tryd.call44 rfl Tryd.ntmps44 rfl ?_
  have W : Walk Tryd.prog TT 44 _ := Walk.of TT_ok Tryd.func44 Tryd.results44
  refine sp W 0 rfl rfl rfl (fun h1 => ?_) (fun h1 => ?_)
  · refine rp W 0 rfl rfl rfl (.no (fun h => h1 h.1))
  refine sp W 0 rfl rfl rfl (fun h2 => ?_) (fun h2 => ?_)
  · refine rp W 0 rfl rfl rfl (.no (fun h => h2 h.2))
  refine rp W 0 rfl rfl rfl (.yes ⟨Classical.not_not.1 h1, Classical.not_not.1 h2⟩)
theorem fnExactSpanMul_law (w : Int) (s : Prop) (a b : Int) (t : Prop) (c d : Int) : AFunP Tryd.prog 3 [.int .i64 w, spV s a b, spV t c d] (· = .pr True) := by
  have k1 := specMul_ok w (s, a, b) (t, c, d)
  have k2 := implMul_ok w (s, a, b) (t, c, d)
  generalize mulSp w (s, a, b) (t, c, d) = r at k1 k2
  have k3 := toSpan_ok s a b
  have k4 := toSpan_ok t c d
  refine afun_of Tryd.func3 Tryd.call3 rfl Tryd.ntmps3 rfl ?_
  have W : Walk Tryd.prog TT 3 _ := Walk.of TT_ok Tryd.func3 Tryd.results3
  refine phg W 0 7 [6] rfl rfl (fun PW => ?_)
  refine pho PW 0 6 [] [spV s a b, spV t c d, spA r] rfl rfl ⟨k3.at rfl _, k4.at rfl _, k1.at rfl _, trivial⟩ rfl rfl ?_
  refine phe PW 0 [] [spV s a b, spV t c d, spA r] rfl ⟨k3.at rfl _, k4.at rfl _, k1.at rfl _, trivial⟩ rfl ?_
  refine phg W 0 7 [6] rfl rfl (fun PW => ?_)
  refine pho PW 0 6 [] [spV s a b, spV t c d, spA r] rfl rfl ⟨k3.at rfl _, k4.at rfl _, k2.at rfl _, trivial⟩ rfl rfl ?_
  refine phe PW 0 [] [spV s a b, spV t c d, spA r] rfl ⟨k3.at rfl _, k4.at rfl _, k2.at rfl _, trivial⟩ rfl ?_
  refine ce W 0 rfl rfl (eqSpan_ok r.1 r.2.1 r.2.2 r.1 r.2.1 r.2.2) rfl ?_
  refine sp W 0 rfl rfl rfl (fun h1 => ?_) (fun h1 => ?_)
  · exact absurd ⟨Iff.rfl, rfl, rfl⟩ h1
  refine rp W 0 rfl rfl rfl (.yes trivial)
theorem fnExactSpanDiv_law (w : Int) (s : Prop) (a b : Int) (t : Prop) (c d : Int) : AFunP Tryd.prog 10 [.int .i64 w, spV s a b, spV t c d] (· = .pr True) := by
  have k1 := specDiv_ok w (s, a, b) (t, c, d)
  have k2 := implDiv_ok w (s, a, b) (t, c, d)
  generalize divSp w (s, a, b) (t, c, d) = r at k1 k2
  have k3 := toSpan_ok s a b
  have k4 := toSpan_ok t c d
  refine afun_of Tryd.func10 Tryd.call10 rfl Tryd.ntmps10 rfl ?_
  have W : Walk Tryd.prog TT 10 _ := Walk.of TT_ok Tryd.func10 Tryd.results10
  refine phg W 0 7 [6] rfl rfl (fun PW => ?_)
  refine pho PW 0 6 [] [spV s a b, spV t c d, spA r] rfl rfl ⟨k3.at rfl _, k4.at rfl _, k1.at rfl _, trivial⟩ rfl rfl ?_
  refine phe PW 0 [] [spV s a b, spV t c d, spA r] rfl ⟨k3.at rfl _, k4.at rfl _, k1.at rfl _, trivial⟩ rfl ?_
  refine phg W 0 7 [6] rfl rfl (fun PW => ?_)
  refine pho PW 0 6 [] [spV s a b, spV t c d, spA r] rfl rfl ⟨k3.at rfl _, k4.at rfl _, k2.at rfl _, trivial⟩ rfl rfl ?_
  refine phe PW 0 [] [spV s a b, spV t c d, spA r] rfl ⟨k3.at rfl _, k4.at rfl _, k2.at rfl _, trivial⟩ rfl ?_
  refine ce W 0 rfl rfl (eqSpan_ok r.1 r.2.1 r.2.2 r.1 r.2.1 r.2.2) rfl ?_
  refine sp W 0 rfl rfl rfl (fun h1 => ?_) (fun h1 => ?_)
  · exact absurd ⟨Iff.rfl, rfl, rfl⟩ h1
  refine rp W 0 rfl rfl rfl (.yes trivial)
theorem fnExactSpanDivTwo_law (w : Int) (s : Prop) (a b : Int) (t : Prop) (c d : Int) : AFunP Tryd.prog 9 [.int .i64 w, spV s a b, spV t c d] (· = .pr True) := by
  have k1 := specDivTwo_ok w (s, a, b) (t, c, d)
  have k2 := implDivTwo_ok w (s, a, b) (t, c, d)
  generalize twoS w (s, a, b) (t, c, d) = r at k1 k2
  have k3 := toSpan_ok s a b
  have k4 := toSpan_ok t c d
  refine afun_of Tryd.func9 Tryd.call9 rfl Tryd.ntmps9 rfl ?_
  have W : Walk Tryd.prog TT 9 _ := Walk.of TT_ok Tryd.func9 Tryd.results9
  refine phg W 0 12 [9, 10, 11] rfl rfl (fun PW => ?_)
  refine phf PW 0 9 10 [] [spV s a b, spV t c d, spR2 r] rfl rfl ⟨k3.at rfl _, k4.at rfl _, k1.at rfl _, trivial⟩ rfl rfl rfl rfl ?_ ?_
  · refine pho PW 0 10 [] [spV s a b, spV t c d, spR2 r] rfl rfl ⟨k3.at rfl _, k4.at rfl _, k1.at rfl _, trivial⟩ rfl rfl ?_
    refine pho PW 0 11 [] [spV s a b, spV t c d, spR2 r] rfl rfl ⟨k3.at rfl _, k4.at rfl _, k1.at rfl _, trivial⟩ rfl rfl ?_
    refine phe PW 0 [] [] rfl trivial rfl ?_
    refine phg W 0 12 [9, 10, 11] rfl rfl (fun PW => ?_)
    refine phf PW 0 9 10 [] [spV s a b, spV t c d, spR2 r] rfl rfl ⟨k3.at rfl _, k4.at rfl _, k2.at rfl _, trivial⟩ rfl rfl rfl rfl ?_ ?_
    · refine pho PW 0 10 [] [spV s a b, spV t c d, spR2 r] rfl rfl ⟨k3.at rfl _, k4.at rfl _, k2.at rfl _, trivial⟩ rfl rfl ?_
      refine pho PW 0 11 [] [spV s a b, spV t c d, spR2 r] rfl rfl ⟨k3.at rfl _, k4.at rfl _, k2.at rfl _, trivial⟩ rfl rfl ?_
      refine phe PW 0 [] [] rfl trivial rfl ?_
      refine ce W 0 rfl rfl (eqSpan_ok r.1.1 r.1.2.1 r.1.2.2 r.1.1 r.1.2.1 r.1.2.2) rfl ?_
      refine sp W 0 rfl rfl rfl (fun h1 => ?_) (fun h1 => ?_)
      · exact absurd ⟨Iff.rfl, rfl, rfl⟩ h1
      refine ce W 0 rfl rfl (eqSpan_ok r.2.1 r.2.2.1 r.2.2.2 r.2.1 r.2.2.1 r.2.2.2) rfl ?_
      refine sp W 0 rfl rfl rfl (fun h2 => ?_) (fun h2 => ?_)
      · exact absurd ⟨Iff.rfl, rfl, rfl⟩ h2
      refine rp W 0 rfl rfl rfl (.yes trivial)
    · refine pho PW 0 9 [] [spV s a b, spV t c d, spR2 r] rfl rfl ⟨k3.at rfl _, k4.at rfl _, k2.at rfl _, trivial⟩ rfl rfl ?_
      refine pho PW 0 11 [] [spV s a b, spV t c d, spR2 r] rfl rfl ⟨k3.at rfl _, k4.at rfl _, k2.at rfl _, trivial⟩ rfl rfl ?_
      refine phe PW 0 [] [] rfl trivial rfl ?_
      refine ce W 0 rfl rfl (eqSpan_ok r.1.1 r.1.2.1 r.1.2.2 r.1.1 r.1.2.1 r.1.2.2) rfl ?_
      refine sp W 0 rfl rfl rfl (fun h1 => ?_) (fun h1 => ?_)
      · exact absurd ⟨Iff.rfl, rfl, rfl⟩ h1
      refine ce W 0 rfl rfl (eqSpan_ok r.2.1 r.2.2.1 r.2.2.2 r.2.1 r.2.2.1 r.2.2.2) rfl ?_
      refine sp W 0 rfl rfl rfl (fun h2 => ?_) (fun h2 => ?_)
      · exact absurd ⟨Iff.rfl, rfl, rfl⟩ h2
      refine rp W 0 rfl rfl rfl (.yes trivial)
  · refine pho PW 0 9 [] [spV s a b, spV t c d, spR2 r] rfl rfl ⟨k3.at rfl _, k4.at rfl _, k1.at rfl _, trivial⟩ rfl rfl ?_
    refine pho PW 0 11 [] [spV s a b, spV t c d, spR2 r] rfl rfl ⟨k3.at rfl _, k4.at rfl _, k1.at rfl _, trivial⟩ rfl rfl ?_
    refine phe PW 0 [] [] rfl trivial rfl ?_
    refine phg W 0 12 [9, 10, 11] rfl rfl (fun PW => ?_)
    refine phf PW 0 9 10 [] [spV s a b, spV t c d, spR2 r] rfl rfl ⟨k3.at rfl _, k4.at rfl _, k2.at rfl _, trivial⟩ rfl rfl rfl rfl ?_ ?_
    · refine pho PW 0 10 [] [spV s a b, spV t c d, spR2 r] rfl rfl ⟨k3.at rfl _, k4.at rfl _, k2.at rfl _, trivial⟩ rfl rfl ?_
      refine pho PW 0 11 [] [spV s a b, spV t c d, spR2 r] rfl rfl ⟨k3.at rfl _, k4.at rfl _, k2.at rfl _, trivial⟩ rfl rfl ?_
      refine phe PW 0 [] [] rfl trivial rfl ?_
      refine ce W 0 rfl rfl (eqSpan_ok r.1.1 r.1.2.1 r.1.2.2 r.1.1 r.1.2.1 r.1.2.2) rfl ?_
      refine sp W 0 rfl rfl rfl (fun h1 => ?_) (fun h1 => ?_)
      · exact absurd ⟨Iff.rfl, rfl, rfl⟩ h1
      refine ce W 0 rfl rfl (eqSpan_ok r.2.1 r.2.2.1 r.2.2.2 r.2.1 r.2.2.1 r.2.2.2) rfl ?_
      refine sp W 0 rfl rfl rfl (fun h2 => ?_) (fun h2 => ?_)
      · exact absurd ⟨Iff.rfl, rfl, rfl⟩ h2
      refine rp W 0 rfl rfl rfl (.yes trivial)
    · refine pho PW 0 9 [] [spV s a b, spV t c d, spR2 r] rfl rfl ⟨k3.at rfl _, k4.at rfl _, k2.at rfl _, trivial⟩ rfl rfl ?_
      refine pho PW 0 11 [] [spV s a b, spV t c d, spR2 r] rfl rfl ⟨k3.at rfl _, k4.at rfl _, k2.at rfl _, trivial⟩ rfl rfl ?_
      refine phe PW 0 [] [] rfl trivial rfl ?_
      refine ce W 0 rfl rfl (eqSpan_ok r.1.1 r.1.2.1 r.1.2.2 r.1.1 r.1.2.1 r.1.2.2) rfl ?_
      refine sp W 0 rfl rfl rfl (fun h1 => ?_) (fun h1 => ?_)
      · exact absurd ⟨Iff.rfl, rfl, rfl⟩ h1
      refine ce W 0 rfl rfl (eqSpan_ok r.2.1 r.2.2.1 r.2.2.2 r.2.1 r.2.2.1 r.2.2.2) rfl ?_
      refine sp W 0 rfl rfl rfl (fun h2 => ?_) (fun h2 => ?_)
      · exact absurd ⟨Iff.rfl, rfl, rfl⟩ h2
      refine rp W 0 rfl rfl rfl (.yes trivial)
theorem fnExactBackMul_law (w : Int) (s : Prop) (a b : Int) (t : Prop) (c d : Int) (u : Prop) (e f : Int) : AFunP Tryd.prog 12 [.int .i64 w, spV s a b, spV t c d, spV u e f] (· = .pr True) := by
  have k1 := specBackMul_ok w (s, a, b) (t, c, d) (u, e, f)
  have k2 := implBackMul_ok w (s, a, b) (t, c, d) (u, e, f)
  generalize backMul w (s, a, b) (t, c, d) (u, e, f) = r at k1 k2
  have k3 := toSpan_ok s a b
  have k4 := toSpan_ok t c d
  have k5 := toSpan_ok u e f
  refine afun_of Tryd.func12 Tryd.call12 rfl Tryd.ntmps12 rfl ?_
  have W : Walk Tryd.prog TT 12 _ := Walk.of TT_ok Tryd.func12 Tryd.results12
  refine phg W 0 9 [8] rfl rfl (fun PW => ?_)
  refine pho PW 0 8 [] [spV s a b, spV t c d, spV u e f, spA r] rfl rfl ⟨k3.at rfl _, k4.at rfl _, k5.at rfl _, k1.at rfl _, trivial⟩ rfl rfl ?_
  refine phe PW 0 [] [spV s a b, spV t c d, spV u e f, spA r] rfl ⟨k3.at rfl _, k4.at rfl _, k5.at rfl _, k1.at rfl _, trivial⟩ rfl ?_
  refine phg W 0 9 [8] rfl rfl (fun PW => ?_)
  refine pho PW 0 8 [] [spV s a b, spV t c d, spV u e f, spA r] rfl rfl ⟨k3.at rfl _, k4.at rfl _, k5.at rfl _, k2.at rfl _, trivial⟩ rfl rfl ?_
  refine phe PW 0 [] [spV s a b, spV t c d, spV u e f, spA r] rfl ⟨k3.at rfl _, k4.at rfl _, k5.at rfl _, k2.at rfl _, trivial⟩ rfl ?_
  refine ce W 0 rfl rfl (eqSpan_ok r.1 r.2.1 r.2.2 r.1 r.2.1 r.2.2) rfl ?_
  refine sp W 0 rfl rfl rfl (fun h1 => ?_) (fun h1 => ?_)
  · exact absurd ⟨Iff.rfl, rfl, rfl⟩ h1
  refine rp W 0 rfl rfl rfl (.yes trivial)
theorem fnExactBackTop_law (w : Int) (s : Prop) (a b : Int) (t : Prop) (c d : Int) (u : Prop) (e f : Int) : AFunP Tryd.prog 6 [.int .i64 w, spV s a b, spV t c d, spV u e f] (· = .pr True) := by
  have k1 := specBackTop_ok w (s, a, b) (t, c, d) (u, e, f)
  have k2 := implBackTop_ok w (s, a, b) (t, c, d) (u, e, f)
  generalize backTop w (s, a, b) (t, c, d) (u, e, f) = r at k1 k2
  have k3 := toSpan_ok s a b
  have k4 := toSpan_ok t c d
  have k5 := toSpan_ok u e f
  refine afun_of Tryd.func6 Tryd.call6 rfl Tryd.ntmps6 rfl ?_
  have W : Walk Tryd.prog TT 6 _ := Walk.of TT_ok Tryd.func6 Tryd.results6
  refine phg W 0 9 [8] rfl rfl (fun PW => ?_)
  refine pho PW 0 8 [] [spV s a b, spV t c d, spV u e f, spA r] rfl rfl ⟨k3.at rfl _, k4.at rfl _, k5.at rfl _, k1.at rfl _, trivial⟩ rfl rfl ?_
  refine phe PW 0 [] [spV s a b, spV t c d, spV u e f, spA r] rfl ⟨k3.at rfl _, k4.at rfl _, k5.at rfl _, k1.at rfl _, trivial⟩ rfl ?_
  refine phg W 0 9 [8] rfl rfl (fun PW => ?_)
  refine pho PW 0 8 [] [spV s a b, spV t c d, spV u e f, spA r] rfl rfl ⟨k3.at rfl _, k4.at rfl _, k5.at rfl _, k2.at rfl _, trivial⟩ rfl rfl ?_
  refine phe PW 0 [] [spV s a b, spV t c d, spV u e f, spA r] rfl ⟨k3.at rfl _, k4.at rfl _, k5.at rfl _, k2.at rfl _, trivial⟩ rfl ?_
  refine ce W 0 rfl rfl (eqSpan_ok r.1 r.2.1 r.2.2 r.1 r.2.1 r.2.2) rfl ?_
  refine sp W 0 rfl rfl rfl (fun h1 => ?_) (fun h1 => ?_)
  · exact absurd ⟨Iff.rfl, rfl, rfl⟩ h1
  refine rp W 0 rfl rfl rfl (.yes trivial)
theorem fnExactBackBottom_law (w : Int) (s : Prop) (a b : Int) (t : Prop) (c d : Int) (u : Prop) (e f : Int) : AFunP Tryd.prog 13 [.int .i64 w, spV s a b, spV t c d, spV u e f] (· = .pr True) := by
  have k1 := specBackBot_ok w (s, a, b) (t, c, d) (u, e, f)
  have k2 := implBackBot_ok w (s, a, b) (t, c, d) (u, e, f)
  generalize backBot w (s, a, b) (t, c, d) (u, e, f) = r at k1 k2
  have k3 := toSpan_ok s a b
  have k4 := toSpan_ok t c d
  have k5 := toSpan_ok u e f
  refine afun_of Tryd.func13 Tryd.call13 rfl Tryd.ntmps13 rfl ?_
  have W : Walk Tryd.prog TT 13 _ := Walk.of TT_ok Tryd.func13 Tryd.results13
  refine phg W 0 9 [8] rfl rfl (fun PW => ?_)
  refine pho PW 0 8 [] [spV s a b, spV t c d, spV u e f, spA r] rfl rfl ⟨k3.at rfl _, k4.at rfl _, k5.at rfl _, k1.at rfl _, trivial⟩ rfl rfl ?_
  refine phe PW 0 [] [spV s a b, spV t c d, spV u e f, spA r] rfl ⟨k3.at rfl _, k4.at rfl _, k5.at rfl _, k1.at rfl _, trivial⟩ rfl ?_
  refine phg W 0 9 [8] rfl rfl (fun PW => ?_)
  refine pho PW 0 8 [] [spV s a b, spV t c d, spV u e f, spA r] rfl rfl ⟨k3.at rfl _, k4.at rfl _, k5.at rfl _, k2.at rfl _, trivial⟩ rfl rfl ?_
  refine phe PW 0 [] [spV s a b, spV t c d, spV u e f, spA r] rfl ⟨k3.at rfl _, k4.at rfl _, k5.at rfl _, k2.at rfl _, trivial⟩ rfl ?_
  refine ce W 0 rfl rfl (eqSpan_ok r.1 r.2.1 r.2.2 r.1 r.2.1 r.2.2) rfl ?_
  refine sp W 0 rfl rfl rfl (fun h1 => ?_) (fun h1 => ?_)
  · exact absurd ⟨Iff.rfl, rfl, rfl⟩ h1
  refine rp W 0 rfl rfl rfl (.yes trivial)
theorem fnExactBackMulGap_law (w : Int) (s : Prop) (a b : Int) (t : Prop) (c d : Int) (u : Prop) (e f : Int) : AFunP Tryd.prog 11 [.int .i64 w, spV s a b, spV t c d, spV u e f] (· = .pr True) := by
  have k1 := specGap_ok w (s, a, b) (t, c, d) (u, e, f)
  have k2 := implGap_ok w (s, a, b) (t, c, d) (u, e, f)
  generalize gapS w (s, a, b) (t, c, d) (u, e, f) = r at k1 k2
  have k3 := toSpan_ok s a b
  have k4 := toSpan_ok t c d
  have k5 := toSpan_ok u e f
  refine afun_of Tryd.func11 Tryd.call11 rfl Tryd.ntmps11 rfl ?_
  have W : Walk Tryd.prog TT 11 _ := Walk.of TT_ok Tryd.func11 Tryd.results11
  refine phg W 0 13 [11, 12] rfl rfl (fun PW => ?_)
  refine pho PW 0 11 [] [spV s a b, spV t c d, spV u e f, gapA r] rfl rfl ⟨k3.at rfl _, k4.at rfl _, k5.at rfl _, k1.at rfl _, trivial⟩ rfl rfl ?_
  refine pho PW 0 12 [] [spV s a b, spV t c d, spV u e f, gapA r] rfl rfl ⟨k3.at rfl _, k4.at rfl _, k5.at rfl _, k1.at rfl _, trivial⟩ rfl rfl ?_
  refine phe PW 0 [] [] rfl trivial rfl ?_
  refine phg W 0 13 [11, 12] rfl rfl (fun PW => ?_)
  refine pho PW 0 11 [] [spV s a b, spV t c d, spV u e f, gapA r] rfl rfl ⟨k3.at rfl _, k4.at rfl _, k5.at rfl _, k2.at rfl _, trivial⟩ rfl rfl ?_
  refine pho PW 0 12 [] [spV s a b, spV t c d, spV u e f, gapA r] rfl rfl ⟨k3.at rfl _, k4.at rfl _, k5.at rfl _, k2.at rfl _, trivial⟩ rfl rfl ?_
  refine phe PW 0 [] [] rfl trivial rfl ?_
  refine ce W 0 rfl rfl (eqPair_ok r.2.1 r.2.2 r.2.1 r.2.2) rfl ?_
  refine sp W 0 rfl rfl rfl (fun h1 => ?_) (fun h1 => ?_)
  · exact absurd ⟨rfl, rfl⟩ h1
  refine sp W 0 rfl rfl rfl (fun h2 => ?_) (fun h2 => ?_)
  · exact absurd Iff.rfl h2
  refine rp W 0 rfl rfl rfl (.yes trivial)
end Pf
