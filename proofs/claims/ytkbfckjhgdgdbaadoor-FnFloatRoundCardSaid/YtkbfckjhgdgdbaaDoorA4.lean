/- Part 4 of the lemmas that the claim rests on: an abstract machine over the model, what it is sound for, and the contracts of the functions that the law reaches. -/
import Derived.Test.YtkbfckjhgdgdbaaDoorA3
set_option linter.unusedSimpArgs false
set_option linter.unusedVariables false
set_option maxHeartbeats 4000000
/- Bounds: the closure of SpanAdd -/
namespace Pf
open Go Go.Proofs
noncomputable def ladd (l m : Int × Rat) : Int × Rat := if l.1 ≠ 0 then (l.1, 0) else if m.1 ≠ 0 then (m.1, 0) else (0, l.2 + m.2)
theorem add1_ok (w a b : Int) (ha : bitOk w a) (hb : bitOk w b) (hl : (limW w a).1 = 0 → mid (limW w a).2) (hm : (limW w b).1 = 0 → mid (limW w b).2) : AFunP Tryd.prog 63 [.int .i64 a, .int .i64 b, .fptr [.int .i64 w] 0] (· = limV (ladd (limW w a) (limW w b))) := by
  have k1 := limitOf_ok w a ha
  have k2 := limitOf_ok w b hb
  generalize limW w a = l at *
  generalize limW w b = m at *
  rw [limV_eq] at k1 k2
  refine afun_of Tryd.func63 Tryd.call63 rfl Tryd.ntmps63 rfl ?_
  have W : Walk Tryd.prog TT 63 _ := Walk.of TT_ok Tryd.func63 Tryd.results63
  refine phg W 0 8 [6, 7] rfl rfl (fun PW => ?_)
  refine phf PW 0 6 7 [] [.agg [.int .i64 l.1, .pr (l.1 = 0 ∧ l.2 < 0), .fi .i64 (if l.1 = 0 then dt l.2 else []), .fi .i64 (if l.1 = 0 then db l.2 else [])], .agg [.int .i64 m.1, .pr (m.1 = 0 ∧ m.2 < 0), .fi .i64 (if m.1 = 0 then dt m.2 else []), .fi .i64 (if m.1 = 0 then db m.2 else [])]] rfl rfl ⟨k1.at rfl _, k2.at rfl _, trivial⟩ rfl rfl rfl rfl ?_ ?_
  · refine pho PW 0 7 [] [.agg [.int .i64 l.1, .pr (l.1 = 0 ∧ l.2 < 0), .fi .i64 (if l.1 = 0 then dt l.2 else []), .fi .i64 (if l.1 = 0 then db l.2 else [])], .agg [.int .i64 m.1, .pr (m.1 = 0 ∧ m.2 < 0), .fi .i64 (if m.1 = 0 then dt m.2 else []), .fi .i64 (if m.1 = 0 then db m.2 else [])]] rfl rfl ⟨k1.at rfl _, k2.at rfl _, trivial⟩ rfl rfl ?_
    refine phe PW 0 [] [.agg [.int .i64 l.1, .pr (l.1 = 0 ∧ l.2 < 0), .fi .i64 (if l.1 = 0 then dt l.2 else []), .fi .i64 (if l.1 = 0 then db l.2 else [])], .agg [.int .i64 m.1, .pr (m.1 = 0 ∧ m.2 < 0), .fi .i64 (if m.1 = 0 then dt m.2 else []), .fi .i64 (if m.1 = 0 then db m.2 else [])]] rfl ⟨k1.at rfl _, k2.at rfl _, trivial⟩ rfl ?_
    refine sp W 0 rfl rfl rfl (fun h1 => ?_) (fun h1 => ?_)
    · rw [show ladd l m = (l.1, 0) from if_pos h1, limV_inf h1]
      rw [if_neg h1, if_neg h1, show (l.1 = 0 ∧ l.2 < 0) = False from eq_false (fun k => h1 k.1)]
      refine rp W 0 rfl rfl rfl (.refl)
    · have h1' := Classical.not_not.1 h1
      refine sp W 0 rfl rfl rfl (fun h2 => ?_) (fun h2 => ?_)
      · rw [show ladd l m = (m.1, 0) by rw [ladd, if_neg h1, if_pos h2], limV_inf h2]
        rw [if_neg h2, if_neg h2, show (m.1 = 0 ∧ m.2 < 0) = False from eq_false (fun k => h2 k.1)]
        refine rp W 0 rfl rfl rfl (.refl)
      · have h2' := Classical.not_not.1 h2
        have e : ladd l m = (0, l.2 + m.2) := by rw [ladd, if_neg h1, if_neg h2]
        rw [e, limV_fin]
        rw [if_pos h1', if_pos h1', if_pos h2', if_pos h2', show (l.1 = 0 ∧ l.2 < 0) = (l.2 < 0) by simp [h1'], show (m.1 = 0 ∧ m.2 < 0) = (m.2 < 0) by simp [h2']]
        refine ce W 0 rfl rfl (addR_ok l.2 m.2 (hl h1') (hm h2')) rfl ?_
        refine rp W 0 rfl rfl rfl (.refl)
  · refine pho PW 0 6 [] [.agg [.int .i64 l.1, .pr (l.1 = 0 ∧ l.2 < 0), .fi .i64 (if l.1 = 0 then dt l.2 else []), .fi .i64 (if l.1 = 0 then db l.2 else [])], .agg [.int .i64 m.1, .pr (m.1 = 0 ∧ m.2 < 0), .fi .i64 (if m.1 = 0 then dt m.2 else []), .fi .i64 (if m.1 = 0 then db m.2 else [])]] rfl rfl ⟨k1.at rfl _, k2.at rfl _, trivial⟩ rfl rfl ?_
    refine phe PW 0 [] [.agg [.int .i64 l.1, .pr (l.1 = 0 ∧ l.2 < 0), .fi .i64 (if l.1 = 0 then dt l.2 else []), .fi .i64 (if l.1 = 0 then db l.2 else [])], .agg [.int .i64 m.1, .pr (m.1 = 0 ∧ m.2 < 0), .fi .i64 (if m.1 = 0 then dt m.2 else []), .fi .i64 (if m.1 = 0 then db m.2 else [])]] rfl ⟨k1.at rfl _, k2.at rfl _, trivial⟩ rfl ?_
    refine sp W 0 rfl rfl rfl (fun h1 => ?_) (fun h1 => ?_)
    · rw [show ladd l m = (l.1, 0) from if_pos h1, limV_inf h1]
      rw [if_neg h1, if_neg h1, show (l.1 = 0 ∧ l.2 < 0) = False from eq_false (fun k => h1 k.1)]
      refine rp W 0 rfl rfl rfl (.refl)
    · have h1' := Classical.not_not.1 h1
      refine sp W 0 rfl rfl rfl (fun h2 => ?_) (fun h2 => ?_)
      · rw [show ladd l m = (m.1, 0) by rw [ladd, if_neg h1, if_pos h2], limV_inf h2]
        rw [if_neg h2, if_neg h2, show (m.1 = 0 ∧ m.2 < 0) = False from eq_false (fun k => h2 k.1)]
        refine rp W 0 rfl rfl rfl (.refl)
      · have h2' := Classical.not_not.1 h2
        have e : ladd l m = (0, l.2 + m.2) := by rw [ladd, if_neg h1, if_neg h2]
        rw [e, limV_fin]
        rw [if_pos h1', if_pos h1', if_pos h2', if_pos h2', show (l.1 = 0 ∧ l.2 < 0) = (l.2 < 0) by simp [h1'], show (m.1 = 0 ∧ m.2 < 0) = (m.2 < 0) by simp [h2']]
        refine ce W 0 rfl rfl (addR_ok l.2 m.2 (hl h1') (hm h2')) rfl ?_
        refine rp W 0 rfl rfl rfl (.refl)
end Pf
/- The number of a float has not too many digits -/
namespace Pf
open Go Go.Proofs
theorem dig_mono {a b n : Nat} (h : a ≤ b) (hb : (dig b).length ≤ n) : (dig a).length ≤ n :=
  dig_len_le.2 (Nat.lt_of_le_of_lt h (dig_len_le.1 hb))
theorem mid_vl {w n : Int} (hw : w = 32 ∨ w = 64) (h : n.natAbs < fT w) : mid (vl w n) := by
  have hs : (dig (fsz (fF w) n.natAbs)).length ≤ 4 := by
    have h1 := fsz_lt (fF w) n.natAbs
    refine dig_len_le.2 (Nat.lt_of_lt_of_le h1 ?_)
    rcases hw with rfl | rfl <;> decide
  have hp : fpw (fF w) n.natAbs < 16 * 200 := by
    have h2 := fpw_le h
    have hG : fG w ≤ 1023 := by rcases hw with rfl | rfl <;> decide
    omega
  have hv : (dig (fv (fF w) n.natAbs)).length ≤ 4 + 200 := by
    rw [fv_eq]
    exact dig_len_mul hs (dig_pow_len _ _ hp)
  have hk : (dig (2 ^ fK w)).length ≤ 200 := dig_pow_len _ _ (by rcases hw with rfl | rfl <;> decide)
  obtain ⟨e1, e2, _⟩ := mkRat_parts (n < 0) (fv (fF w) n.natAbs) (2 ^ fK w) (two_nz _)
  unfold mid vl
  rw [← e1, ← e2]
  have i1 := dig_mono (Nat.div_le_self (fv (fF w) n.natAbs) (Nat.gcd (fv (fF w) n.natAbs) (2 ^ fK w))) hv
  have i2 := dig_mono (Nat.div_le_self (2 ^ fK w) (Nat.gcd (fv (fF w) n.natAbs) (2 ^ fK w))) hk
  exact ⟨Nat.le_trans i1 (by decide), Nat.le_trans i2 (by decide)⟩
theorem limW_mid {w n : Int} (hb : bitOk w n) : (limW w n).1 = 0 → mid (limW w n).2 := by
  have ht := top_fT hb.1
  have h1 := hb.2
  unfold limW
  split
  · intro k; exact absurd k (by decide)
  · split
    · intro k; exact absurd k (by decide)
    · intro _; exact mid_vl hb.1 (by omega)
end Pf
/- Sizes of sums and products -/
namespace Pf
open Go Go.Proofs
/-- Digits at most n. -/
def midN (n : Nat) (r : Rat) : Prop := (dt r).length ≤ n ∧ (db r).length ≤ n
theorem midN_low {p : Prop} {a b n : Nat} {r : Rat} (hb : b ≠ 0) (h : mkRat (sg p a) b = r) (h1 : (dig a).length ≤ n) (h2 : (dig b).length ≤ n) : midN n r := by
  obtain ⟨e1, e2, _⟩ := mkRat_parts p a b hb
  subst h
  unfold midN
  rw [← e1, ← e2]
  exact ⟨dig_mono (Nat.div_le_self _ _) h1, dig_mono (Nat.div_le_self _ _) h2⟩
theorem midN_mul {r s : Rat} {n : Nat} (hr : midN n r) (hs : midN n s) : midN (n + n) (r * s) := by
  refine midN_low (p := ¬ (r < 0 ↔ s < 0)) (Nat.mul_ne_zero r.den_nz s.den_nz) ?_ (dig_len_mul hr.1 hs.1) (dig_len_mul hr.2 hs.2)
  rw [sg_mul, ← Rat.mkRat_mul_mkRat, mk_R, mk_R]
theorem sumT_le (p q : Prop) (x y : Nat) : sumT p q x y ≤ x + y := by
  unfold sumT; split <;> (try split) <;> omega
theorem midN_add {r s : Rat} {n : Nat} (hr : midN n r) (hs : midN n s) : midN (n + n + 1) (r + s) := by
  refine midN_low (p := sumP (r < 0) (s < 0) (r.num.natAbs * s.den) (s.num.natAbs * r.den)) (a := sumT (r < 0) (s < 0) (r.num.natAbs * s.den) (s.num.natAbs * r.den)) (Nat.mul_ne_zero r.den_nz s.den_nz) ?_ ?_ (Nat.le_succ_of_le (dig_len_mul hr.2 hs.2))
  · rw [sg_sum, sg_mul_nat, sg_mul_nat, ← Rat.mkRat_add_mkRat _ _ r.den_nz s.den_nz, mk_R, mk_R]
  · exact dig_mono (sumT_le _ _ _ _) (dig_len_add (dig_len_mul hr.1 hs.2) (dig_len_mul hs.1 hr.2))
theorem vl_midN {w n : Int} (hw : w = 32 ∨ w = 64) (h : n.natAbs < fT w) : midN 204 (vl w n) := by
  have hs : (dig (fsz (fF w) n.natAbs)).length ≤ 4 := by
    have h1 := fsz_lt (fF w) n.natAbs
    refine dig_len_le.2 (Nat.lt_of_lt_of_le h1 ?_)
    rcases hw with rfl | rfl <;> decide
  have hp : fpw (fF w) n.natAbs < 16 * 200 := by
    have h2 := fpw_le h
    have hG : fG w ≤ 1023 := by rcases hw with rfl | rfl <;> decide
    omega
  have hv : (dig (fv (fF w) n.natAbs)).length ≤ 4 + 200 := by
    rw [fv_eq]
    exact dig_len_mul hs (dig_pow_len _ _ hp)
  have hk : (dig (2 ^ fK w)).length ≤ 200 := dig_pow_len _ _ (by rcases hw with rfl | rfl <;> decide)
  obtain ⟨e1, e2, _⟩ := mkRat_parts (n < 0) (fv (fF w) n.natAbs) (2 ^ fK w) (two_nz _)
  unfold midN vl
  rw [← e1, ← e2]
  have i1 := dig_mono (Nat.div_le_self (fv (fF w) n.natAbs) (Nat.gcd (fv (fF w) n.natAbs) (2 ^ fK w))) hv
  have i2 := dig_mono (Nat.div_le_self (2 ^ fK w) (Nat.gcd (fv (fF w) n.natAbs) (2 ^ fK w))) hk
  exact ⟨Nat.le_trans i1 (by decide), Nat.le_trans i2 (by decide)⟩
end Pf
/- Bounds of a sum -/
namespace Pf
open Go Go.Proofs
noncomputable def sumB (w a b : Int) : Int × Int := lflo w (ladd (limW w a) (limW w b))
theorem limW_rng (w n : Int) : -1 ≤ (limW w n).1 ∧ (limW w n).1 ≤ 1 := by
  unfold limW; split <;> (try split) <;> dsimp only <;> omega
theorem ladd_rng {l m : Int × Rat} (h : -1 ≤ l.1 ∧ l.1 ≤ 1) (k : -1 ≤ m.1 ∧ m.1 ≤ 1) : -1 ≤ (ladd l m).1 ∧ (ladd l m).1 ≤ 1 := by
  unfold ladd; split <;> (try split) <;> first | exact h | exact k | (dsimp only; omega)
theorem limW_midN {w n : Int} (hb : bitOk w n) : (limW w n).1 = 0 → midN 204 (limW w n).2 := by
  have ht := top_fT hb.1
  have h1 := hb.2
  unfold limW
  split
  · intro k; exact absurd k (by decide)
  · split
    · intro k; exact absurd k (by decide)
    · intro _; exact vl_midN hb.1 (by omega)
theorem ladd_mid {w a b : Int} (ha : bitOk w a) (hb : bitOk w b) : (ladd (limW w a) (limW w b)).1 = 0 → mid (ladd (limW w a) (limW w b)).2 := by
  have h1 := limW_midN ha
  have h2 := limW_midN hb
  unfold ladd
  split
  · intro k; contradiction
  · split
    · intro k; contradiction
    · rename_i k1 k2
      intro _
      have := midN_add (h1 (Classical.not_not.1 k1)) (h2 (Classical.not_not.1 k2))
      exact ⟨Nat.le_trans this.1 (by decide), Nat.le_trans this.2 (by decide)⟩
theorem sum_calls {w a b : Int} (ha : bitOk w a) (hb : bitOk w b) : AFunP Tryd.prog 60 [limV (ladd (limW w a) (limW w b)), .int .i64 w] (· = .tup [.int .i64 (sumB w a b).1, .int .i64 (sumB w a b).2]) :=
  lfloats_ok w ha.1 _ (ladd_mid ha hb) (ladd_rng (limW_rng w a) (limW_rng w b))
end Pf
/- impl's SpanAdd -/
namespace Pf
open Go Go.Proofs
open Classical in
noncomputable def addSp (w : Int) (x y : Prop × Int × Int) : Prop × Int × Int := if fullS w x ∧ fullS w y then (True, (sumB w x.2.1 y.2.1).1, (sumB w x.2.2 y.2.2).2) else noS
theorem implAdd_ok (w : Int) (x y : Prop × Int × Int) : AFunP Tryd.prog 20 [.int .i64 w, spA x, spA y] (· = spA (addSp w x y)) := by
  refine afun_of Tryd.func20 Tryd.call20 rfl Tryd.ntmps20 rfl ?_
  have W : Walk Tryd.prog TT 20 _ := Walk.of TT_ok Tryd.func20 Tryd.results20
  unfold addSp
  refine cf W 0 [0, 4] [0, 1, 2, 3, 4, 5, 6] rfl rfl rfl rfl rfl rfl (full2_ok w x y) rfl ?_
  refine sp W 0 rfl rfl rfl (fun h1 => ?_) (fun h1 => ?_)
  · rw [if_neg h1]
    refine rp W 0 rfl rfl rfl (sub_noS)
  · have h1 := Classical.not_not.1 h1
    have k1 := add1_ok w x.2.1 y.2.1 h1.1.2.1 h1.2.2.1 (limW_mid h1.1.2.1) (limW_mid h1.2.2.1)
    have k2 := sum_calls h1.1.2.1 h1.2.2.1
    have k3 := add1_ok w x.2.2 y.2.2 h1.1.2.2.1 h1.2.2.2.1 (limW_mid h1.1.2.2.1) (limW_mid h1.2.2.2.1)
    have k4 := sum_calls h1.1.2.2.1 h1.2.2.2.1
    rw [if_pos h1]
    generalize ladd (limW w x.2.1) (limW w y.2.1) = l at k1 k2
    generalize ladd (limW w x.2.2) (limW w y.2.2) = m at k3 k4
    rw [limV_eq] at k1 k2 k3 k4
    refine dre W 0 12 [] [.agg [.int .i64 l.1, .pr (l.1 = 0 ∧ l.2 < 0), .fi .i64 (if l.1 = 0 then dt l.2 else []), .fi .i64 (if l.1 = 0 then db l.2 else [])], .tup [.int .i64 (sumB w x.2.1 y.2.1).1, .int .i64 (sumB w x.2.1 y.2.1).2]] rfl rfl rfl ⟨k1.at rfl _, k2.at rfl _, trivial⟩ rfl ?_
    refine dre W 0 12 [] [.agg [.int .i64 m.1, .pr (m.1 = 0 ∧ m.2 < 0), .fi .i64 (if m.1 = 0 then dt m.2 else []), .fi .i64 (if m.1 = 0 then db m.2 else [])], .tup [.int .i64 (sumB w x.2.2 y.2.2).1, .int .i64 (sumB w x.2.2 y.2.2).2]] rfl rfl rfl ⟨k3.at rfl _, k4.at rfl _, trivial⟩ rfl ?_
    refine ce W 0 rfl rfl (some_ok (sumB w x.2.1 y.2.1).1 (sumB w x.2.2 y.2.2).2) rfl ?_
    refine rp W 0 rfl rfl rfl (.refl)
end Pf
/- impl's SpanSub -/
namespace Pf
open Go Go.Proofs
theorem implSub_ok (w : Int) (x y : Prop × Int × Int) : AFunP Tryd.prog 22 [.int .i64 w, spA x, spA y] (· = spA (addSp w x (negS' w y))) := by
  refine afun_of Tryd.func22 Tryd.call22 rfl Tryd.ntmps22 rfl ?_
  have W : Walk Tryd.prog TT 22 _ := Walk.of TT_ok Tryd.func22 Tryd.results22
  refine dre W 0 6 [] [spA (negS' w y), spA (addSp w x (negS' w y))] rfl rfl rfl ⟨(implNeg_ok w y).at rfl _, (implAdd_ok w x (negS' w y)).at rfl _, trivial⟩ rfl ?_
  refine rp W 0 rfl rfl rfl (.refl)
end Pf
/- The model's l9Infinite -/
namespace Pf
open Go Go.Proofs
theorem l9Inf_ok (w n : Int) : AFunP Tryd.prog 110 [.int .i64 w, .int .i64 n] (· = .pr (n = top w ∨ n = -top w)) := by
  have ht := top_rng w
  refine afun_of Tryd.func110 Tryd.call110 rfl Tryd.ntmps110 rfl ?_
  have W : Walk Tryd.prog TT 110 _ := Walk.of TT_ok Tryd.func110 Tryd.results110
  refine ce W 0 rfl rfl (specBitTop_ok w) rfl ?_
  refine sp W 0 rfl rfl rfl (fun h1 => ?_) (fun h1 => ?_)
  · refine rp W 0 rfl rfl rfl (.yes (.inl h1))
  · refine ce W 0 rfl rfl (specBitTop_ok w) rfl ?_
    refine rp W 0 rfl rfl rfl (.pr (by omega))
end Pf
/- The model's floats, either width -/
namespace Pf
open Go Go.Proofs
theorem l8Of_w (w n : Int) (hw : w = 32 ∨ w = 64) (h : n.natAbs < fT w) : AFunP Tryd.prog 78 [.int .i64 w, .int .i64 n] (fun v => ∃ A B : Nat, v = .agg [.pr (n < 0), .fi .i64 (dig A), .fi .i64 (dig B)] ∧ B ≠ 0 ∧ mkRat (sg (n < 0) A) B = vl w n ∧ (dig A).length ≤ 200 ∧ (dig B).length ≤ 200) := by
  rcases hw with rfl | rfl
  · refine (l8Of_32 n h).mono ?_
    rintro v ⟨A, B, h1, h2, h3, h4, h5⟩
    exact ⟨A, B, h1, h2, h3, by omega, by omega⟩
  · refine (l8Of_64 n h).mono ?_
    rintro v ⟨A, B, h1, h2, h3, h4, h5⟩
    exact ⟨A, B, h1, h2, h3, by omega, by omega⟩
theorem l8Round_w (w : Int) (hw : w = 32 ∨ w = 64) (p : Prop) (a b : Nat) (r : Rat) (hb : b ≠ 0) (hr : mkRat (sg p a) b = r) (ha : (dig a).length ≤ 1000) (hbl : (dig b).length ≤ 1000) :
    AFunP Tryd.prog 91 [.int .i64 w, .agg [.pr p, .fi .i64 (dig a), .fi .i64 (dig b)], .bool false] (· = .int .i64 (dn w r)) ∧
    AFunP Tryd.prog 91 [.int .i64 w, .agg [.pr p, .fi .i64 (dig a), .fi .i64 (dig b)], .bool true] (· = .int .i64 (up w r)) := by
  rcases hw with rfl | rfl
  · exact l8Round_32 p a b r hb hr ha hbl
  · exact l8Round_64 p a b r hb hr ha hbl
end Pf
/- Bounds of a sum: the three ways -/
namespace Pf
open Go Go.Proofs
theorem sumB_l {w a : Int} (b : Int) (hw : w = 32 ∨ w = 64) (h : a = top w ∨ a = -top w) : sumB w a b = (a, a) := by
  have hp : top w ≠ 0 := by rcases hw with rfl | rfl <;> decide
  unfold sumB limW
  by_cases h1 : a = top w
  · rw [if_pos h1, ladd, if_pos (by decide), lflo, if_neg (by decide)]
    simp [h1]
  · have h2 := h.resolve_left h1
    rw [if_neg h1, if_pos h2, ladd, if_pos (by decide), lflo, if_neg (by decide)]
    simp [h2]
theorem sumB_r {w a b : Int} (hw : w = 32 ∨ w = 64) (h0 : ¬ (a = top w ∨ a = -top w)) (h : b = top w ∨ b = -top w) : sumB w a b = (b, b) := by
  have hl : limW w a = (0, vl w a) := by rw [limW, if_neg (fun k => h0 (.inl k)), if_neg (fun k => h0 (.inr k))]
  unfold sumB
  rw [hl, ladd, if_neg (by simp)]
  unfold limW
  by_cases h1 : b = top w
  · rw [if_pos h1, if_pos (by decide), lflo, if_neg (by decide)]
    simp [h1]
  · have h2 := h.resolve_left h1
    rw [if_neg h1, if_pos h2, if_pos (by decide), lflo, if_neg (by decide)]
    simp [h2]
theorem sumB_f {w a b : Int} (h0 : ¬ (a = top w ∨ a = -top w)) (h : ¬ (b = top w ∨ b = -top w)) : sumB w a b = (dn w (vl w a + vl w b), up w (vl w a + vl w b)) := by
  have hl : limW w a = (0, vl w a) := by rw [limW, if_neg (fun k => h0 (.inl k)), if_neg (fun k => h0 (.inr k))]
  have hm : limW w b = (0, vl w b) := by rw [limW, if_neg (fun k => h (.inl k)), if_neg (fun k => h (.inr k))]
  unfold sumB
  rw [hl, hm, ladd, if_neg (by simp), if_neg (by simp), lflo, if_pos rfl]
end Pf
/- The model's l9Add -/
namespace Pf
open Go Go.Proofs
theorem l9AddDn_ok (w a b : Int) (ha : bitOk w a) (hb : bitOk w b) : AFunP Tryd.prog 62 [.int .i64 w, .int .i64 a, .int .i64 b, .bool false] (· = .int .i64 (sumB w a b).1) := by
  have hw := ha.1
  have ht := top_fT hw
  have h1 := ha.2
  have h2 := hb.2
  refine afun_of Tryd.func62 Tryd.call62 rfl Tryd.ntmps62 rfl ?_
  have W : Walk Tryd.prog TT 62 _ := Walk.of TT_ok Tryd.func62 Tryd.results62
  refine ce W 0 rfl rfl (l9Inf_ok w a) rfl ?_
  refine sp W 0 rfl rfl rfl (fun h3 => ?_) (fun h3 => ?_)
  · rw [sumB_l b hw h3]
    refine rp W 0 rfl rfl rfl (.refl)
  · refine ce W 0 rfl rfl (l9Inf_ok w b) rfl ?_
    refine sp W 0 rfl rfl rfl (fun h4 => ?_) (fun h4 => ?_)
    · rw [sumB_r hw h3 h4]
      refine rp W 0 rfl rfl rfl (.refl)
    · rw [sumB_f h3 h4]
      refine cq W 0 rfl rfl (l8Of_w w a hw (by omega)) ?_
      rintro _ ⟨A, B, rfl, a1, a2, a3, a4⟩
      refine ⟨_, rfl, ?_⟩
      refine cq W 0 rfl rfl (l8Of_w w b hw (by omega)) ?_
      rintro _ ⟨C, D, rfl, b1, b2, b3, b4⟩
      refine ⟨_, rfl, ?_⟩
      refine ce W 0 rfl rfl (l6Sum_ok (a < 0) (b < 0) A B C D (by omega) (by omega) (by omega) (by omega)) rfl ?_
      have es : mkRat (sg (sumP (a < 0) (b < 0) (A * D) (C * B)) (sumT (a < 0) (b < 0) (A * D) (C * B))) (B * D) = vl w a + vl w b := by
        rw [sg_sum, sg_mul_nat, sg_mul_nat, ← Rat.mkRat_add_mkRat _ _ a1 b1, a2, b2]
      have hx : (dig (sumT (a < 0) (b < 0) (A * D) (C * B))).length ≤ 1000 := by
        have := dig_mono (sumT_le (a < 0) (b < 0) (A * D) (C * B)) (dig_len_add (dig_len_mul a3 b4) (dig_len_mul b3 a4)); omega
      have hy : (dig (B * D)).length ≤ 1000 := by have := dig_len_mul a4 b4; omega
      have hz := Nat.mul_ne_zero a1 b1
      generalize sumT (a < 0) (b < 0) (A * D) (C * B) = T at *
      generalize B * D = E at *
      generalize sumP (a < 0) (b < 0) (A * D) (C * B) = p at *
      have e0 : (0 : Int) < (dig T).length ↔ T ≠ 0 := by rw [len_nil, ne_eq, dig_nil]
      refine sp W 0 rfl rfl rfl (fun h5 => ?_) (fun h5 => ?_)
      · have e1 : mkRat (sg ((0 : Int) < (dig T).length) T) E = vl w a + vl w b := by
          rw [← es]; congr 1
          by_cases hT : T = 0
          · subst hT; rw [sg_zero, sg_zero]
          · rw [sg_yes (e0.2 hT), sg_yes h5]
        refine ce W 0 rfl rfl ((l8Round_w w hw _ T E _ hz e1 hx hy).1) rfl ?_
        refine rp W 0 rfl rfl rfl (.refl)
      · have e1 : mkRat (sg False T) E = vl w a + vl w b := by
          rw [← es]; congr 1
          rw [sg_no id, sg_no h5]
        refine ce W 0 rfl rfl (AFun.sub (l8Round_w w hw _ T E _ hz e1 hx hy).1 ⟨.refl, .agg ⟨.no id, .refl, .refl, trivial⟩, .refl, trivial⟩) rfl ?_
        refine rp W 0 rfl rfl rfl (.refl)
theorem l9AddUp_ok (w a b : Int) (ha : bitOk w a) (hb : bitOk w b) : AFunP Tryd.prog 62 [.int .i64 w, .int .i64 a, .int .i64 b, .bool true] (· = .int .i64 (sumB w a b).2) := by
  have hw := ha.1
  have ht := top_fT hw
  have h1 := ha.2
  have h2 := hb.2
  refine afun_of Tryd.func62 Tryd.call62 rfl Tryd.ntmps62 rfl ?_
  have W : Walk Tryd.prog TT 62 _ := Walk.of TT_ok Tryd.func62 Tryd.results62
  refine ce W 0 rfl rfl (l9Inf_ok w a) rfl ?_
  refine sp W 0 rfl rfl rfl (fun h3 => ?_) (fun h3 => ?_)
  · rw [sumB_l b hw h3]
    refine rp W 0 rfl rfl rfl (.refl)
  · refine ce W 0 rfl rfl (l9Inf_ok w b) rfl ?_
    refine sp W 0 rfl rfl rfl (fun h4 => ?_) (fun h4 => ?_)
    · rw [sumB_r hw h3 h4]
      refine rp W 0 rfl rfl rfl (.refl)
    · rw [sumB_f h3 h4]
      refine cq W 0 rfl rfl (l8Of_w w a hw (by omega)) ?_
      rintro _ ⟨A, B, rfl, a1, a2, a3, a4⟩
      refine ⟨_, rfl, ?_⟩
      refine cq W 0 rfl rfl (l8Of_w w b hw (by omega)) ?_
      rintro _ ⟨C, D, rfl, b1, b2, b3, b4⟩
      refine ⟨_, rfl, ?_⟩
      refine ce W 0 rfl rfl (l6Sum_ok (a < 0) (b < 0) A B C D (by omega) (by omega) (by omega) (by omega)) rfl ?_
      have es : mkRat (sg (sumP (a < 0) (b < 0) (A * D) (C * B)) (sumT (a < 0) (b < 0) (A * D) (C * B))) (B * D) = vl w a + vl w b := by
        rw [sg_sum, sg_mul_nat, sg_mul_nat, ← Rat.mkRat_add_mkRat _ _ a1 b1, a2, b2]
      have hx : (dig (sumT (a < 0) (b < 0) (A * D) (C * B))).length ≤ 1000 := by
        have := dig_mono (sumT_le (a < 0) (b < 0) (A * D) (C * B)) (dig_len_add (dig_len_mul a3 b4) (dig_len_mul b3 a4)); omega
      have hy : (dig (B * D)).length ≤ 1000 := by have := dig_len_mul a4 b4; omega
      have hz := Nat.mul_ne_zero a1 b1
      generalize sumT (a < 0) (b < 0) (A * D) (C * B) = T at *
      generalize B * D = E at *
      generalize sumP (a < 0) (b < 0) (A * D) (C * B) = p at *
      have e0 : (0 : Int) < (dig T).length ↔ T ≠ 0 := by rw [len_nil, ne_eq, dig_nil]
      refine sp W 0 rfl rfl rfl (fun h5 => ?_) (fun h5 => ?_)
      · have e1 : mkRat (sg ((0 : Int) < (dig T).length) T) E = vl w a + vl w b := by
          rw [← es]; congr 1
          by_cases hT : T = 0
          · subst hT; rw [sg_zero, sg_zero]
          · rw [sg_yes (e0.2 hT), sg_yes h5]
        refine ce W 0 rfl rfl ((l8Round_w w hw _ T E _ hz e1 hx hy).2) rfl ?_
        refine rp W 0 rfl rfl rfl (.refl)
      · have e1 : mkRat (sg False T) E = vl w a + vl w b := by
          rw [← es]; congr 1
          rw [sg_no id, sg_no h5]
        refine ce W 0 rfl rfl (AFun.sub (l8Round_w w hw _ T E _ hz e1 hx hy).2 ⟨.refl, .agg ⟨.no id, .refl, .refl, trivial⟩, .refl, trivial⟩) rfl ?_
        refine rp W 0 rfl rfl rfl (.refl)
end Pf
/- The model's SpanAdd, SpanSub -/
namespace Pf
open Go Go.Proofs
theorem specAdd_ok (w : Int) (x y : Prop × Int × Int) : AFunP Tryd.prog 19 [.int .i64 w, spA x, spA y] (· = spA (addSp w x y)) := by
  refine afun_of Tryd.func19 Tryd.call19 rfl Tryd.ntmps19 rfl ?_
  have W : Walk Tryd.prog TT 19 _ := Walk.of TT_ok Tryd.func19 Tryd.results19
  unfold addSp
  refine ce W 0 rfl rfl (l9Both_ok w x.1 x.2.1 x.2.2 y.1 y.2.1 y.2.2) rfl ?_
  refine sp W 0 rfl rfl rfl (fun h1 => ?_) (fun h1 => ?_)
  · rw [if_neg (fun k => h1 ⟨⟨k.1.1, k.2.1⟩, k.1.2, k.2.2⟩)]
    refine rp W 0 rfl rfl rfl (sub_noS)
  · have h1 := Classical.not_not.1 h1
    rw [if_pos ⟨⟨h1.1.1, h1.2.1⟩, h1.1.2, h1.2.2⟩]
    have k1 := l9AddDn_ok w x.2.1 y.2.1 h1.2.1.1 h1.2.2.1
    have k2 := l9AddUp_ok w x.2.2 y.2.2 h1.2.1.2.1 h1.2.2.2.1
    refine dre W 0 12 [] [.int .i64 (sumB w x.2.1 y.2.1).1, .int .i64 (sumB w x.2.2 y.2.2).2] rfl rfl rfl ⟨k1.at rfl _, k2.at rfl _, trivial⟩ rfl ?_
    refine ce W 0 rfl rfl (l9Of_ok (sumB w x.2.1 y.2.1).1 (sumB w x.2.2 y.2.2).2) rfl ?_
    refine rp W 0 rfl rfl rfl (.refl)
theorem specSub_ok (w : Int) (x y : Prop × Int × Int) : AFunP Tryd.prog 21 [.int .i64 w, spA x, spA y] (· = spA (addSp w x (negS' w y))) := by
  refine afun_of Tryd.func21 Tryd.call21 rfl Tryd.ntmps21 rfl ?_
  have W : Walk Tryd.prog TT 21 _ := Walk.of TT_ok Tryd.func21 Tryd.results21
  refine dre W 0 6 [] [spA (negS' w y), spA (addSp w x (negS' w y))] rfl rfl rfl ⟨(specNeg_ok w y.1 y.2.1 y.2.2).at rfl _, (specAdd_ok w x (negS' w y)).at rfl _, trivial⟩ rfl ?_
  refine rp W 0 rfl rfl rfl (.refl)
end Pf
/- The laws of SpanAdd and SpanSub -/
namespace Pf
open Go Go.Proofs
theorem fnExactSpanAdd_law (w : Int) (s : Prop) (a b : Int) (t : Prop) (c d : Int) : AFunP Tryd.prog 4 [.int .i64 w, spV s a b, spV t c d] (· = .pr True) := by
  have k1 := specAdd_ok w (s, a, b) (t, c, d)
  have k2 := implAdd_ok w (s, a, b) (t, c, d)
  generalize addSp w (s, a, b) (t, c, d) = r at k1 k2
  have k3 := toSpan_ok s a b
  have k4 := toSpan_ok t c d
  refine afun_of Tryd.func4 Tryd.call4 rfl Tryd.ntmps4 rfl ?_
  have W : Walk Tryd.prog TT 4 _ := Walk.of TT_ok Tryd.func4 Tryd.results4
  refine phg W 0 7 [6] rfl rfl (fun PW => ?_)
  refine pho PW 0 6 [] [spV s a b, spV t c d, spA r] rfl rfl ⟨k3.at rfl _, k4.at rfl _, k1.at rfl _, trivial⟩ rfl rfl ?_
  refine phe PW 0 [] [spV s a b, spV t c d, spA r] rfl ⟨k3.at rfl _, k4.at rfl _, k1.at rfl _, trivial⟩ rfl ?_
  refine phg W 0 7 [6] rfl rfl (fun PW => ?_)
  refine pho PW 0 6 [] [spV s a b, spV t c d, spA r] rfl rfl ⟨k3.at rfl _, k4.at rfl _, k2.at rfl _, trivial⟩ rfl rfl ?_
  refine phe PW 0 [] [spV s a b, spV t c d, spA r] rfl ⟨k3.at rfl _, k4.at rfl _, k2.at rfl _, trivial⟩ rfl ?_
  refine ce W 0 rfl rfl (eqSpan_ok r.1 r.2.1 r.2.2 r.1 r.2.1 r.2.2) rfl ?_
  refine sp W 0 rfl rfl rfl (fun h1 => ?_) (fun h1 => ?_)
  · exact absurd ⟨Iff.rfl, rfl, rfl⟩ h1
  refine rp W 0 rfl rfl rfl (.yes trivial)
theorem fnExactSpanSub_law (w : Int) (s : Prop) (a b : Int) (t : Prop) (c d : Int) : AFunP Tryd.prog 5 [.int .i64 w, spV s a b, spV t c d] (· = .pr True) := by
  have k1 := specSub_ok w (s, a, b) (t, c, d)
  have k2 := implSub_ok w (s, a, b) (t, c, d)
  generalize addSp w (s, a, b) (negS' w (t, c, d)) = r at k1 k2
  have k3 := toSpan_ok s a b
  have k4 := toSpan_ok t c d
  refine afun_of Tryd.func5 Tryd.call5 rfl Tryd.ntmps5 rfl ?_
  have W : Walk Tryd.prog TT 5 _ := Walk.of TT_ok Tryd.func5 Tryd.results5
  refine phg W 0 7 [6] rfl rfl (fun PW => ?_)
  refine pho PW 0 6 [] [spV s a b, spV t c d, spA r] rfl rfl ⟨k3.at rfl _, k4.at rfl _, k1.at rfl _, trivial⟩ rfl rfl ?_
  refine phe PW 0 [] [spV s a b, spV t c d, spA r] rfl ⟨k3.at rfl _, k4.at rfl _, k1.at rfl _, trivial⟩ rfl ?_
  refine phg W 0 7 [6] rfl rfl (fun PW => ?_)
  refine pho PW 0 6 [] [spV s a b, spV t c d, spA r] rfl rfl ⟨k3.at rfl _, k4.at rfl _, k2.at rfl _, trivial⟩ rfl rfl ?_
  refine phe PW 0 [] [spV s a b, spV t c d, spA r] rfl ⟨k3.at rfl _, k4.at rfl _, k2.at rfl _, trivial⟩ rfl ?_
  refine ce W 0 rfl rfl (eqSpan_ok r.1 r.2.1 r.2.2 r.1 r.2.1 r.2.2) rfl ?_
  refine sp W 0 rfl rfl rfl (fun h1 => ?_) (fun h1 => ?_)
  · exact absurd ⟨Iff.rfl, rfl, rfl⟩ h1
  refine rp W 0 rfl rfl rfl (.yes trivial)
end Pf
/- Bounds: signs; bounds of a product -/
namespace Pf
open Go Go.Proofs
theorem vl_zero (w : Int) : vl w 0 = 0 := by
  unfold vl
  rw [show (0 : Int).natAbs = 0 from rfl, fv_zero, sg_zero]; exact Rat.zero_mkRat _
theorem fv_pos {F n : Nat} (h : n ≠ 0) : fv F n ≠ 0 := by
  have := fv_lt (F := F) (show 0 < n by omega)
  omega
theorem vl_lt {w n : Int} : vl w n < 0 ↔ n < 0 := by
  unfold vl
  rw [← (mkRat_parts (n < 0) (fv (fF w) n.natAbs) (2 ^ fK w) (two_nz _)).2.2]
  exact ⟨fun h => h.1, fun h => ⟨h, fv_pos (by omega)⟩⟩
theorem vl_pos {w n : Int} : 0 < vl w n ↔ 0 < n := by
  have h := vl_lt (w := w) (n := n)
  by_cases h0 : n = 0
  · subst h0; rw [vl_zero]; exact ⟨fun k => absurd k Rat.lt_irrefl, fun k => absurd k (by omega)⟩
  · by_cases hn : n < 0
    · exact ⟨fun k => absurd (h.2 hn) (Rat.not_lt.2 (Rat.le_of_lt k)), fun k => by omega⟩
    · refine ⟨fun _ => by omega, fun _ => ?_⟩
      have h1 : ¬ vl w n < 0 := fun k => hn (h.1 k)
      refine Rat.lt_of_le_of_ne (Rat.not_lt.1 h1) fun e => ?_
      have e2 : (vl w n).num = 0 := by rw [← e]; rfl
      unfold vl at e2
      rw [Rat.num_mkRat, if_neg (two_nz _)] at e2
      have e3 : dt (vl w n) = [] := dt_nil.2 e.symm
      unfold vl at e3
      rw [← (mkRat_parts (n < 0) (fv (fF w) n.natAbs) (2 ^ fK w) (two_nz _)).1, lT, dig_nil] at e3
      have hp := fv_pos (F := fF w) (n := n.natAbs) (by omega)
      have hg : 0 < (fv (fF w) n.natAbs).gcd (2 ^ fK w) := Nat.gcd_pos_of_pos_left _ (by omega)
      have h5 : 0 < fv (fF w) n.natAbs / (fv (fF w) n.natAbs).gcd (2 ^ fK w) := Nat.div_pos (Nat.gcd_le_left _ (by omega)) hg
      omega
theorem vl_eq0 {w n : Int} : vl w n = 0 ↔ n = 0 := by
  refine ⟨fun h => ?_, fun h => by rw [h, vl_zero]⟩
  have h1 := vl_lt (w := w) (n := n)
  have h2 := vl_pos (w := w) (n := n)
  rw [h] at h1 h2
  have k1 : ¬ n < 0 := fun k => Rat.lt_irrefl (h1.2 k)
  have k2 : ¬ 0 < n := fun k => Rat.lt_irrefl (h2.2 k)
  omega
/-- The sign of a whole number. -/
def sgI (n : Int) : Int := if n < 0 then -1 else if n = 0 then 0 else 1
theorem fsgn_vl (w n : Int) : fsgn (vl w n < 0) (dt (vl w n)) = sgI n := by
  unfold fsgn sgI
  by_cases h : n < 0
  · rw [if_pos (vl_lt.2 h), if_pos h]
  · rw [if_neg (fun k => h (vl_lt.1 k)), if_neg h]
    by_cases h0 : n = 0
    · rw [if_pos (dt_nil.2 (vl_eq0.2 h0)), if_pos h0]
    · rw [if_neg (fun k => h0 (vl_eq0.1 (dt_nil.1 k))), if_neg h0]
theorem top_pos {w : Int} (hw : w = 32 ∨ w = 64) : 0 < top w := by rcases hw with rfl | rfl <;> decide
theorem lsgn_limW {w n : Int} (hw : w = 32 ∨ w = 64) : lsgn (limW w n) = sgI n := by
  have hp := top_pos hw
  unfold lsgn limW
  by_cases h1 : n = top w
  · rw [if_pos h1, if_neg (by decide)]
    unfold sgI; rw [if_neg (by omega), if_neg (by omega)]
  · rw [if_neg h1]
    by_cases h2 : n = -top w
    · rw [if_pos h2, if_neg (by decide)]
      unfold sgI; rw [if_pos (by omega)]
    · rw [if_neg h2, if_pos rfl]
      exact fsgn_vl w n
theorem limW_fin {w n : Int} (h : ¬ (n = top w ∨ n = -top w)) : limW w n = (0, vl w n) := by
  rw [limW, if_neg (fun k => h (.inl k)), if_neg (fun k => h (.inr k))]
theorem limW_inf {w n : Int} (hw : w = 32 ∨ w = 64) (h : n = top w ∨ n = -top w) : limW w n = (sgI n, 0) := by
  have hp := top_pos hw
  unfold limW sgI
  by_cases h1 : n = top w
  · rw [if_pos h1, if_neg (by omega), if_neg (by omega)]
  · rw [if_neg h1, if_pos (h.resolve_left h1), if_pos (by omega)]
noncomputable def mulB (w a b : Int) : Int × Int := lflo w (ltimes (limW w a) (limW w b))
theorem mulB_z {w a b : Int} (hw : w = 32 ∨ w = 64) (h : a = 0 ∨ b = 0) : mulB w a b = (0, 0) := by
  have hp := top_pos hw
  have e : ltimes (limW w a) (limW w b) = (0, 0) := by
    unfold ltimes
    split
    · rename_i k
      have ha : ¬ (a = top w ∨ a = -top w) := fun h1 => by
        have := k.1; rw [limW_inf hw h1] at this
        unfold sgI at this; split at this <;> (try split at this) <;> omega
      have hb : ¬ (b = top w ∨ b = -top w) := fun h1 => by
        have := k.2; rw [limW_inf hw h1] at this
        unfold sgI at this; split at this <;> (try split at this) <;> omega
      rw [limW_fin ha, limW_fin hb]
      rcases h with rfl | rfl
      · rw [vl_zero, Rat.zero_mul]
      · rw [vl_zero, Rat.mul_zero]
    · rw [lsgn_limW hw, lsgn_limW hw]
      rcases h with rfl | rfl
      · rw [show sgI 0 = 0 from rfl, Int.zero_mul]
      · rw [show sgI 0 = 0 from rfl, Int.mul_zero]
  rw [mulB, e, lflo, if_pos rfl, (dn_zero w).1, (dn_zero w).2]
theorem sgI_mul (a b : Int) (ha : a ≠ 0) (hb : b ≠ 0) : sgI a * sgI b = if (a < 0 ↔ b < 0) then 1 else -1 := by
  unfold sgI
  by_cases h1 : a < 0 <;> by_cases h2 : b < 0 <;> simp [h1, h2, ha, hb]
theorem mulB_i {w a b : Int} (hw : w = 32 ∨ w = 64) (ha : a ≠ 0) (hb : b ≠ 0) (h : (a = top w ∨ a = -top w) ∨ (b = top w ∨ b = -top w)) : mulB w a b = if (a < 0 ↔ b < 0) then (top w, top w) else (-top w, -top w) := by
  have e : ltimes (limW w a) (limW w b) = (sgI a * sgI b, 0) := by
    unfold ltimes
    rw [if_neg, lsgn_limW hw, lsgn_limW hw]
    rintro ⟨k1, k2⟩
    rcases h with h | h
    · rw [limW_inf hw h] at k1; unfold sgI at k1; split at k1 <;> (try split at k1) <;> omega
    · rw [limW_inf hw h] at k2; unfold sgI at k2; split at k2 <;> (try split at k2) <;> omega
  rw [mulB, e, lflo, sgI_mul a b ha hb]
  split
  · rw [if_neg (by decide)]; simp
  · rw [if_neg (by decide)]; simp
theorem mulB_f {w a b : Int} (h0 : ¬ (a = top w ∨ a = -top w)) (h : ¬ (b = top w ∨ b = -top w)) : mulB w a b = (dn w (vl w a * vl w b), up w (vl w a * vl w b)) := by
  rw [mulB, limW_fin h0, limW_fin h, ltimes, if_pos ⟨rfl, rfl⟩, lflo, if_pos rfl]
theorem ltimes_mid {w a b : Int} (ha : bitOk w a) (hb : bitOk w b) : (ltimes (limW w a) (limW w b)).1 = 0 → mid (ltimes (limW w a) (limW w b)).2 := by
  have h1 := limW_midN ha
  have h2 := limW_midN hb
  unfold ltimes
  split
  · rename_i k
    intro _
    have := midN_mul (h1 k.1) (h2 k.2)
    exact ⟨Nat.le_trans this.1 (by decide), Nat.le_trans this.2 (by decide)⟩
  · intro _
    dsimp only
    unfold mid dt db
    exact ⟨by rw [show dig (Rat.num 0).natAbs = [] from dig_nil.2 rfl]; decide, by rw [show dig (Rat.den 0) = [1] from dig_one]; decide⟩
theorem ltimes_rng {w a b : Int} : -1 ≤ (ltimes (limW w a) (limW w b)).1 ∧ (ltimes (limW w a) (limW w b)).1 ≤ 1 := by
  unfold ltimes
  split
  · dsimp only; omega
  · exact lsgn_mul _ _ (limW_rng w a) (limW_rng w b)
theorem mul_calls {w a b : Int} (ha : bitOk w a) (hb : bitOk w b) : AFunP Tryd.prog 60 [limV (ltimes (limW w a) (limW w b)), .int .i64 w] (· = .tup [.int .i64 (mulB w a b).1, .int .i64 (mulB w a b).2]) :=
  lfloats_ok w ha.1 _ (ltimes_mid ha hb) ltimes_rng
end Pf
/- Bounds of a quotient; the part above 0 -/
namespace Pf
open Go Go.Proofs
theorem vl_negate (w n : Int) : vl w (-n) = - vl w n := by
  unfold vl
  rw [Rat.neg_mkRat, Int.natAbs_neg]
  congr 1
  by_cases h0 : n = 0
  · subst h0; rw [show (0 : Int).natAbs = 0 from rfl, fv_zero, sg_zero, sg_zero]; rfl
  · by_cases h : n < 0
    · rw [sg_yes h, sg_no (show ¬ -n < 0 by omega), Int.neg_neg]
    · rw [sg_no h, sg_yes (show -n < 0 by omega)]
theorem mkRat_mono {a b : Int} {d : Nat} (hd : d ≠ 0) (h : a ≤ b) : mkRat a d ≤ mkRat b d := by
  rw [Rat.mkRat_eq_div, Rat.mkRat_eq_div, Rat.div_def, Rat.div_def]
  refine Rat.mul_le_mul_of_nonneg_right (Rat.intCast_le_intCast.2 h) (Rat.le_of_lt (Rat.inv_pos.2 ?_))
  rw [Rat.natCast_pos]; omega
theorem vl_mono {w a b : Int} (h : a ≤ b) : vl w a ≤ vl w b := by
  unfold vl
  refine mkRat_mono (two_nz _) ?_
  by_cases ha : a < 0
  · rw [sg_yes ha]
    by_cases hb : b < 0
    · rw [sg_yes hb]
      have := fv_le (F := fF w) (show b.natAbs ≤ a.natAbs by omega)
      omega
    · rw [sg_no hb]; omega
  · rw [sg_no ha, sg_no (show ¬ b < 0 by omega)]
    have := fv_le (F := fF w) (show a.natAbs ≤ b.natAbs by omega)
    omega
noncomputable def quotB (w a c : Int) : Int × Int := lflo w (lby (limW w a) (limW w c))
theorem quotB_z {w a c : Int} (hw : w = 32 ∨ w = 64) (h : a = 0 ∨ (c = top w ∨ c = -top w)) : quotB w a c = (0, 0) := by
  have hp := top_pos hw
  have e : lby (limW w a) (limW w c) = (0, 0) := by
    unfold lby
    by_cases hc : c = top w ∨ c = -top w
    · rw [if_pos]
      rw [limW_inf hw hc]; unfold sgI; dsimp only; split <;> (try split) <;> omega
    · have ha : a = 0 := h.resolve_right hc
      subst ha
      rw [limW_fin hc, limW_fin (w := w) (n := 0) (by omega), if_neg (by simp), if_neg (by simp), vl_zero]
      simp [Rat.div_def, Rat.zero_mul]
  rw [quotB, e, lflo, if_pos rfl, (dn_zero w).1, (dn_zero w).2]
theorem quotB_a {w a c : Int} (hw : w = 32 ∨ w = 64) (h : a = top w ∨ a = -top w) (hc : ¬ (c = top w ∨ c = -top w)) : quotB w a c = (a, a) := by
  have hp := top_pos hw
  have ha := limW_inf hw h
  have hs : sgI a ≠ 0 := by unfold sgI; split <;> (try split) <;> omega
  rw [quotB, limW_fin hc, ha, lby, if_neg (by simp), if_pos hs, lflo, if_neg hs]
  have : sgI a * top w = a := by
    unfold sgI
    rcases h with h | h
    · rw [if_neg (by omega), if_neg (by omega)]; omega
    · rw [if_pos (by omega)]; omega
  dsimp only; rw [this]
theorem quotB_f {w a c : Int} (ha : ¬ (a = top w ∨ a = -top w)) (hc : ¬ (c = top w ∨ c = -top w)) : quotB w a c = (dn w (vl w a / vl w c), up w (vl w a / vl w c)) := by
  rw [quotB, limW_fin hc, limW_fin ha, lby, if_neg (by simp), if_neg (by simp), lflo, if_pos rfl]
theorem quotB_neg {w a c : Int} (hw : w = 32 ∨ w = 64) : quotB w (-a) c = (-(quotB w a c).2, -(quotB w a c).1) := by
  by_cases h1 : a = 0 ∨ (c = top w ∨ c = -top w)
  · rw [quotB_z hw h1, quotB_z hw (h1.imp (by omega) id)]; rfl
  · have h1' := not_or.1 h1
    by_cases h2 : a = top w ∨ a = -top w
    · rw [quotB_a hw h2 h1'.2, quotB_a hw (by omega) h1'.2]
    · rw [quotB_f h2 h1'.2, quotB_f (by omega) h1'.2, vl_negate, Rat.div_def, Rat.neg_mul, ← Rat.div_def, dn_neg, up_neg]
theorem dn_nonneg {w : Int} {r : Rat} (h : 0 ≤ r) : 0 ≤ dn w r ∧ 0 ≤ up w r := by
  unfold dn up
  rw [if_neg (Rat.not_lt.2 h), if_neg (Rat.not_lt.2 h)]
  omega
theorem div_nonneg' {a b : Rat} (ha : 0 ≤ a) (hb : 0 < b) : 0 ≤ a / b := by
  rw [Rat.div_def]; exact Rat.mul_nonneg ha (Rat.le_of_lt (Rat.inv_pos.2 hb))
theorem div_le_div' {a b c d : Rat} (hb : 0 ≤ b) (h : a ≤ b) (hd : 0 < d) (hdc : d ≤ c) : a / c ≤ b / d := by
  have hc : 0 < c := by
    refine Rat.not_le.1 fun k => Rat.not_le.2 hd (Rat.le_trans hdc k)
  refine Rat.not_lt.1 fun k => ?_
  rw [Rat.lt_div_iff hc] at k
  have h1 : b / d * d ≤ b / d * c := Rat.mul_le_mul_of_nonneg_left hdc (div_nonneg' hb hd)
  rw [Rat.div_mul_cancel (Rat.ne_of_gt hd)] at h1
  exact Rat.not_le.2 k (Rat.le_trans h h1)
theorem le0 {w n : Int} (h : 0 ≤ n) : 0 ≤ vl w n := by have := vl_mono (w := w) h; rwa [vl_zero] at this
theorem up_rng' (w : Int) (r : Rat) : -(fT w : Int) < up w r ∧ up w r ≤ fT w := by
  have h := dn_rng w (-r)
  rw [dn_neg] at h
  omega
theorem quotB_rng {w a c : Int} (hb : bitOk w a) : -top w ≤ (quotB w a c).1 ∧ (quotB w a c).2 ≤ top w ∧ (a ≠ top w → (quotB w a c).1 ≠ top w) ∧ (a ≠ -top w → (quotB w a c).2 ≠ -top w) := by
  have hw := hb.1
  have hp := top_pos hw
  have ht := top_fT hw
  have hbr := hb.2
  by_cases h1 : a = 0 ∨ (c = top w ∨ c = -top w)
  · rw [quotB_z hw h1]; dsimp only; omega
  · have h1' := not_or.1 h1
    by_cases h2 : a = top w ∨ a = -top w
    · rw [quotB_a hw h2 h1'.2]; dsimp only; omega
    · rw [quotB_f h2 h1'.2]
      have k1 := dn_rng w (vl w a / vl w c)
      have k2 := up_rng' w (vl w a / vl w c)
      dsimp only
      omega
theorem quotB_nonneg {w a c : Int} (hw : w = 32 ∨ w = 64) (ha : 0 ≤ a) (hc : 0 < c) : 0 ≤ (quotB w a c).1 ∧ 0 ≤ (quotB w a c).2 := by
  by_cases h1 : a = 0 ∨ (c = top w ∨ c = -top w)
  · rw [quotB_z hw h1]; exact ⟨Int.le_refl _, Int.le_refl _⟩
  · have h1' := not_or.1 h1
    by_cases h2 : a = top w ∨ a = -top w
    · rw [quotB_a hw h2 h1'.2]; exact ⟨ha, ha⟩
    · rw [quotB_f h2 h1'.2]
      exact dn_nonneg (div_nonneg' (le0 ha) (vl_pos.2 hc))
theorem quotB_mono {w a b c d : Int} (hb : bitOk w b) (ha : 0 ≤ a) (hab : a ≤ b) (hd : 0 < d) (hdc : d ≤ c) (hc : c ≤ top w) : (quotB w a c).1 ≤ (quotB w b d).2 := by
  have hw := hb.1
  have hp := top_pos hw
  have hbr := hb.2
  have n2 := (quotB_nonneg hw (show 0 ≤ b by omega) hd).2
  by_cases h1 : a = 0 ∨ (c = top w ∨ c = -top w)
  · rw [quotB_z hw h1]; exact n2
  · have h1' := not_or.1 h1
    have hdi : ¬ (d = top w ∨ d = -top w) := by omega
    by_cases h2 : b = top w ∨ b = -top w
    · rw [quotB_a hw h2 hdi]
      have := (quotB_rng (w := w) (a := a) (c := c) ⟨hw, by omega, by omega⟩)
      by_cases h3 : a = top w ∨ a = -top w
      · rw [quotB_a hw h3 h1'.2]; exact hab
      · rw [quotB_f h3 h1'.2]
        have k1 := dn_rng w (vl w a / vl w c)
        have ht := top_fT hw
        dsimp only; omega
    · have h3 : ¬ (a = top w ∨ a = -top w) := by omega
      rw [quotB_f h3 h1'.2, quotB_f h2 hdi]
      exact dn_le_up (div_le_div' (le0 (by omega)) (vl_mono hab) (vl_pos.2 hd) (vl_mono hdc))
open Classical in
/-- All quotients of what the first has by what is above 0 in the second. -/
noncomputable def partS (w : Int) (x y : Prop × Int × Int) : Prop × Int × Int :=
  if y.2.2 ≤ 0 then noS else (True, (if 0 ≤ x.2.1 then (quotB w x.2.1 y.2.2).1 else if 0 < y.2.1 then (quotB w x.2.1 y.2.1).1 else -top w), (if x.2.2 ≤ 0 then (quotB w x.2.2 y.2.2).2 else if 0 < y.2.1 then (quotB w x.2.2 y.2.1).2 else top w))
theorem partS_ok {w : Int} {x y : Prop × Int × Int} (hx : fullS w x) (hy : fullS w y) (h : ¬ y.2.2 ≤ 0) : fullS w (partS w x y) := by
  obtain ⟨sx, a, b⟩ := x
  obtain ⟨sy, c, d⟩ := y
  obtain ⟨-, x1, x2, x3, x4, x5⟩ := hx
  obtain ⟨-, y1, y2, y3, y4, y5⟩ := hy
  have hw := x1.1
  have hp := top_pos hw
  rw [partS, if_neg h]
  dsimp only at *
  have x1r := x1.2
  have x2r := x2.2
  have y1r := y1.2
  have y2r := y2.2
  have r1 := quotB_rng (c := d) x1
  have r2 := quotB_rng (c := c) x1
  have r3 := quotB_rng (c := d) x2
  have r4 := quotB_rng (c := c) x2
  refine ⟨trivial, ?_⟩
  dsimp only
  -- the lower bound is no infinite one above, the upper none below
  have key : ∀ lo hi : Int, lo ≤ hi → -top w ≤ lo → hi ≤ top w → lo ≠ top w → hi ≠ -top w → pairOk w lo hi := fun lo hi k1 k2 k3 k4 k5 => ⟨⟨hw, by omega, by omega⟩, ⟨hw, by omega, by omega⟩, k1, k4, k5⟩
  by_cases ha : 0 ≤ a
  · rw [if_pos ha]
    have n1 := quotB_nonneg (c := d) hw ha (by omega)
    by_cases hb : b ≤ 0
    · have ea : a = 0 := by omega
      have eb : b = 0 := by omega
      rw [if_pos hb, ea, eb, quotB_z hw (.inl rfl)]
      exact key _ _ (by omega) (by omega) (by omega) (by omega) (by omega)
    · rw [if_neg hb]
      by_cases hc : 0 < c
      · rw [if_pos hc]
        have m := quotB_mono x2 ha x3 hc y3 (by omega)
        exact key _ _ m (by omega) (by omega) (by omega) (by omega)
      · rw [if_neg hc]
        refine key _ _ ?_ (by omega) (by omega) (by omega) (by omega)
        have := quotB_mono (w := w) (a := a) (b := top w) (c := d) (d := d) ⟨hw, by omega, by omega⟩ ha (by omega) (by omega) (Int.le_refl _) (by omega)
        have e := (quotB_rng (w := w) (a := top w) (c := d) ⟨hw, by omega, by omega⟩).2.1
        omega
  · rw [if_neg ha]
    by_cases hb : b ≤ 0
    · rw [if_pos hb]
      by_cases hc : 0 < c
      · rw [if_pos hc]
        have m := quotB_mono (w := w) (a := -b) (b := -a) (c := d) (d := c) ⟨hw, by omega, by omega⟩ (by omega) (by omega) hc y3 (by omega)
        rw [quotB_neg hw, quotB_neg hw] at m
        dsimp only at m
        exact key _ _ (by omega) (by omega) (by omega) (by omega) (by omega)
      · rw [if_neg hc]
        have n := quotB_neg (a := b) (c := d) hw
        have n2 := quotB_rng (w := w) (a := -b) (c := d) ⟨hw, by omega, by omega⟩
        rw [n] at n2
        dsimp only at n2
        have m := quotB_mono (w := w) (a := -b) (b := top w) (c := d) (d := d) ⟨hw, by omega, by omega⟩ (by omega) (by omega) (by omega) (Int.le_refl _) (by omega)
        have e := (quotB_rng (w := w) (a := top w) (c := d) ⟨hw, by omega, by omega⟩).2.1
        rw [n] at m
        dsimp only at m
        exact key _ _ (by omega) (by omega) (by omega) (by omega) (by omega)
    · rw [if_neg hb]
      by_cases hc : 0 < c
      · rw [if_pos hc, if_pos hc]
        have n1 := quotB_nonneg (w := w) (a := -a) (c := c) hw (by omega) hc
        rw [quotB_neg hw] at n1
        dsimp only at n1
        have n2 := quotB_nonneg (w := w) (a := b) (c := c) hw (by omega) hc
        exact key _ _ (by omega) (by omega) (by omega) (by omega) (by omega)
      · rw [if_neg hc, if_neg hc]
        exact key _ _ (by omega) (by omega) (by omega) (by omega) (by omega)
theorem partS_neg {w : Int} {x y : Prop × Int × Int} (hx : fullS w x) : partS w (True, -x.2.2, -x.2.1) y = if y.2.2 ≤ 0 then noS else (True, -(partS w x y).2.2, -(partS w x y).2.1) := by
  have hw := hx.2.1.1
  have hp := top_pos hw
  have h3 := hx.2.2.2.1
  by_cases h : y.2.2 ≤ 0
  · rw [if_pos h, partS, if_pos h]
  · rw [if_neg h, partS, if_neg h, partS, if_neg h]
    dsimp only
    rw [quotB_neg hw, quotB_neg hw, quotB_neg hw, quotB_neg hw]
    dsimp only
    refine Prod.ext rfl (Prod.ext ?_ ?_)
    · dsimp only
      by_cases hb : x.2.2 ≤ 0
      · rw [if_pos (show 0 ≤ -x.2.2 by omega), if_pos hb]
      · rw [if_neg (show ¬ 0 ≤ -x.2.2 by omega), if_neg hb]
        split <;> rfl
    · dsimp only
      by_cases ha : 0 ≤ x.2.1
      · rw [if_pos (show -x.2.1 ≤ 0 by omega), if_pos ha]
      · rw [if_neg (show ¬ -x.2.1 ≤ 0 by omega), if_neg ha]
        split <;> omega
end Pf
/- Two parts of a quotient -/
namespace Pf
open Go Go.Proofs
/-- What two parts are together: two spans, or their hull. -/
noncomputable def twoV (w : Int) (p q : Prop × Int × Int) : (Prop × Int × Int) × (Prop × Int × Int) :=
  open Classical in if p.1 ∧ q.1 ∧ p.2.2 < q.2.1 then (p, q) else if p.1 ∧ q.1 ∧ q.2.2 < p.2.1 then (q, p) else (hullS w p q, noS)
def okS (w : Int) (z : Prop × Int × Int) : Prop := z = noS ∨ fullS w z
theorem okS_span {w : Int} (hw : w = 32 ∨ w = 64) {z : Prop × Int × Int} (h : okS w z) : spanOk w z.1 z.2.1 z.2.2 := by
  rcases h with rfl | h
  · exact ⟨hw, .inr ⟨id, rfl, rfl⟩⟩
  · exact (fullS_iff.1 h).2
theorem okS_no {w : Int} {z : Prop × Int × Int} (h : okS w z) (hn : ¬ z.1) : z = noS := h.resolve_right fun k => hn k.1
theorem okS_full {w : Int} {z : Prop × Int × Int} (h : okS w z) (hn : z.1) : fullS w z := by
  rcases h with rfl | h
  · exact hn.elim
  · exact h
theorem two_p {w : Int} (hw : w = 32 ∨ w = 64) {p q : Prop × Int × Int} (hp : okS w p) (hq : okS w q) (h : ¬ p.1) : twoV w p q = (q, noS) := by
  rw [twoV, if_neg (fun k => h k.1), if_neg (fun k => h k.1), hullS, if_pos ⟨okS_span hw hp, okS_span hw hq⟩, if_neg h]
theorem two_q {w : Int} (hw : w = 32 ∨ w = 64) {p q : Prop × Int × Int} (hp : okS w p) (hq : okS w q) (h : p.1) (h2 : ¬ q.1) : twoV w p q = (p, noS) := by
  rw [twoV, if_neg (fun k => h2 k.2.1), if_neg (fun k => h2 k.2.1), hullS, if_pos ⟨okS_span hw hp, okS_span hw hq⟩, if_pos h, if_neg h2]
theorem meet_iff {w : Int} {p q : Prop × Int × Int} (hp : fullS w p) (hq : fullS w q) : (meetS w p q).1 ↔ (p.2.1 ≤ q.2.2 ∧ q.2.1 ≤ p.2.2) := by
  have h1 := hp.2
  have h2 := hq.2
  unfold pairOk bitOk at h1 h2
  unfold meetS
  by_cases h : fullS w p ∧ fullS w q ∧ pairOk w (max p.2.1 q.2.1) (min p.2.2 q.2.2)
  · rw [if_pos h]
    have := h.2.2.2.2.1
    exact ⟨fun _ => by omega, fun _ => trivial⟩
  · rw [if_neg h]
    refine ⟨fun k => k.elim, fun k => (h ⟨hp, hq, ?_⟩).elim⟩
    unfold pairOk bitOk
    refine ⟨⟨h1.1.1, by omega, by omega⟩, ⟨h1.1.1, by omega, by omega⟩, by omega, ?_, ?_⟩
    · intro k; omega
    · intro k; omega
theorem two_m {w : Int} {p q : Prop × Int × Int} (hp : fullS w p) (hq : fullS w q) (h : (meetS w p q).1) : twoV w p q = (hullS w p q, noS) := by
  have := (meet_iff hp hq).1 h
  rw [twoV, if_neg (fun k => by omega), if_neg (fun k => by omega)]
theorem two_l {w : Int} {p q : Prop × Int × Int} (hp : fullS w p) (hq : fullS w q) (h : ¬ (meetS w p q).1) (hl : p.2.1 < q.2.1) : twoV w p q = (p, q) := by
  have h1 := mt (meet_iff hp hq).2 h
  have := hp.2.2.2.1
  have := hq.2.2.2.1
  rw [twoV, if_pos ⟨hp.1, hq.1, by omega⟩]
theorem two_r {w : Int} {p q : Prop × Int × Int} (hp : fullS w p) (hq : fullS w q) (h : ¬ (meetS w p q).1) (hl : ¬ p.2.1 < q.2.1) : twoV w p q = (q, p) := by
  have h1 := mt (meet_iff hp hq).2 h
  have := hp.2.2.2.1
  have := hq.2.2.2.1
  rw [twoV, if_neg (fun k => by omega), if_pos ⟨hp.1, hq.1, by omega⟩]
open Classical in
noncomputable def twoS (w : Int) (x y : Prop × Int × Int) : (Prop × Int × Int) × (Prop × Int × Int) :=
  if fullS w x ∧ fullS w y then twoV w (partS w x y) (negS' w (partS w x (negS' w y))) else (noS, noS)
theorem negS_ok {w : Int} (hw : w = 32 ∨ w = 64) {x : Prop × Int × Int} (h : fullS w x) : fullS w (negS' w x) := by
  have h1 := h.2
  unfold negS'
  rw [if_pos h]
  unfold pairOk bitOk at h1
  refine ⟨trivial, ⟨hw, ?_, ?_⟩, ⟨hw, ?_, ?_⟩, ?_, ?_, ?_⟩ <;> dsimp only <;> omega
theorem negS_no (w : Int) : negS' w noS = noS := if_neg (fun k => k.1)
theorem partS_okS {w : Int} {x y : Prop × Int × Int} (hx : fullS w x) (hy : fullS w y) : okS w (partS w x y) := by
  by_cases h : y.2.2 ≤ 0
  · exact .inl (by rw [partS, if_pos h])
  · exact .inr (partS_ok hx hy h)
theorem negS_okS {w : Int} {x : Prop × Int × Int} (h : okS w x) : okS w (negS' w x) := by
  rcases h with rfl | h
  · exact .inl (negS_no w)
  · exact .inr (negS_ok h.2.1.1 h)
theorem part_below {w : Int} {x y : Prop × Int × Int} (hx : fullS w x) (hy : fullS w y) : partS w (negS' w x) (negS' w y) = negS' w (partS w x (negS' w y)) := by
  have hn := negS_ok hx.2.1.1 hy
  rw [show negS' w x = (True, -x.2.2, -x.2.1) from if_pos hx, partS_neg hx]
  by_cases h : (negS' w y).2.2 ≤ 0
  · rw [if_pos h, show partS w x (negS' w y) = noS by rw [partS, if_pos h], negS_no]
  · rw [if_neg h, show negS' w (partS w x (negS' w y)) = _ from if_pos (partS_ok hx hn h)]
theorem twoS_okS {w : Int} (hw : w = 32 ∨ w = 64) (x y : Prop × Int × Int) : okS w (twoS w x y).1 ∧ okS w (twoS w x y).2 := by
  unfold twoS
  split
  · rename_i h
    have h1 := partS_okS h.1 h.2
    have h2 := negS_okS (partS_okS h.1 (negS_ok hw h.2))
    generalize partS w x y = p at *
    generalize negS' w (partS w x (negS' w y)) = q at *
    unfold twoV
    split
    · exact ⟨h1, h2⟩
    · split
      · exact ⟨h2, h1⟩
      · refine ⟨?_, .inl rfl⟩
        unfold hullS
        rw [if_pos ⟨okS_span hw h1, okS_span hw h2⟩]
        split
        · split
          · rename_i k1 k2
            have f1 := (okS_full h1 k1).2
            have f2 := (okS_full h2 k2).2
            unfold pairOk bitOk at f1 f2
            refine .inr ⟨trivial, ⟨hw, ?_, ?_⟩, ⟨hw, ?_, ?_⟩, ?_, ?_, ?_⟩ <;> dsimp only <;> omega
          · exact h1
        · exact h2
  · exact ⟨.inl rfl, .inl rfl⟩
end Pf
/- The model's l9Mul, SpanMul -/
namespace Pf
open Go Go.Proofs
theorem l9MulDn_ok (w a b : Int) (ha : bitOk w a) (hb : bitOk w b) : AFunP Tryd.prog 54 [.int .i64 w, .int .i64 a, .int .i64 b, .bool false] (· = .int .i64 (mulB w a b).1) := by
  have hw := ha.1
  have ht := top_fT hw
  have htr := top_rng w
  have h1 := ha.2
  have h2 := hb.2
  refine afun_of Tryd.func54 Tryd.call54 rfl Tryd.ntmps54 rfl ?_
  have W : Walk Tryd.prog TT 54 _ := Walk.of TT_ok Tryd.func54 Tryd.results54
  refine sp W 0 rfl rfl rfl (fun h3 => ?_) (fun h3 => ?_)
  · rw [mulB_z hw (.inl h3)]
    refine rp W 0 rfl rfl rfl (.refl)
  · refine sp W 0 rfl rfl rfl (fun h4 => ?_) (fun h4 => ?_)
    · rw [mulB_z hw (.inr h4)]
      refine rp W 0 rfl rfl rfl (.refl)
    · have i1 := fun h => mulB_i (w := w) hw h3 h4 h
      refine ce W 0 rfl rfl (l9Inf_ok w a) rfl ?_
      refine sp W 0 rfl rfl rfl (fun h5 => ?_) (fun h5 => ?_)
      · rw [i1 (.inl h5)]
        refine sp W 0 rfl rfl rfl (fun h7 => ?_) (fun h7 => ?_)
        · rw [if_neg h7]
          refine ce W 0 rfl rfl (specBitTop_ok w) rfl ?_
          refine rp W 0 rfl rfl rfl (.refl)
        · rw [if_pos (Classical.not_not.1 h7)]
          refine ce W 0 rfl rfl (specBitTop_ok w) rfl ?_
          refine rp W 0 rfl rfl rfl (.refl)
      · refine ce W 0 rfl rfl (l9Inf_ok w b) rfl ?_
        refine sp W 0 rfl rfl rfl (fun h6 => ?_) (fun h6 => ?_)
        · rw [i1 (.inr h6)]
          refine sp W 0 rfl rfl rfl (fun h7 => ?_) (fun h7 => ?_)
          · rw [if_neg h7]
            refine ce W 0 rfl rfl (specBitTop_ok w) rfl ?_
            refine rp W 0 rfl rfl rfl (.refl)
          · rw [if_pos (Classical.not_not.1 h7)]
            refine ce W 0 rfl rfl (specBitTop_ok w) rfl ?_
            refine rp W 0 rfl rfl rfl (.refl)
        · rw [mulB_f h5 h6]
          refine cq W 0 rfl rfl (l8Of_w w a hw (by omega)) ?_
          rintro _ ⟨A, B, rfl, a1, a2, a3, a4⟩
          refine ⟨_, rfl, ?_⟩
          refine cq W 0 rfl rfl (l8Of_w w b hw (by omega)) ?_
          rintro _ ⟨C, D, rfl, b1, b2, b3, b4⟩
          refine ⟨_, rfl, ?_⟩
          have hx := dig_len_mul a3 b3
          have hy := dig_len_mul a4 b4
          have es : mkRat (sg (¬ (a < 0 ↔ b < 0)) (A * C)) (B * D) = vl w a * vl w b := by
            rw [sg_mul, ← Rat.mkRat_mul_mkRat, a2, b2]
          refine dre W 0 14 [] [.fi .i64 (dig (A * C)), .fi .i64 (dig (B * D))] rfl rfl rfl ⟨(l5Mul_ok A C (by omega) (by omega)).at rfl _, (l5Mul_ok B D (by omega) (by omega)).at rfl _, trivial⟩ rfl ?_
          refine ce W 0 rfl rfl ((l8Round_w w hw _ (A * C) (B * D) _ (Nat.mul_ne_zero a1 b1) es (by omega) (by omega)).1) rfl ?_
          refine rp W 0 rfl rfl rfl (.refl)
theorem l9MulUp_ok (w a b : Int) (ha : bitOk w a) (hb : bitOk w b) : AFunP Tryd.prog 54 [.int .i64 w, .int .i64 a, .int .i64 b, .bool true] (· = .int .i64 (mulB w a b).2) := by
  have hw := ha.1
  have ht := top_fT hw
  have htr := top_rng w
  have h1 := ha.2
  have h2 := hb.2
  refine afun_of Tryd.func54 Tryd.call54 rfl Tryd.ntmps54 rfl ?_
  have W : Walk Tryd.prog TT 54 _ := Walk.of TT_ok Tryd.func54 Tryd.results54
  refine sp W 0 rfl rfl rfl (fun h3 => ?_) (fun h3 => ?_)
  · rw [mulB_z hw (.inl h3)]
    refine rp W 0 rfl rfl rfl (.refl)
  · refine sp W 0 rfl rfl rfl (fun h4 => ?_) (fun h4 => ?_)
    · rw [mulB_z hw (.inr h4)]
      refine rp W 0 rfl rfl rfl (.refl)
    · have i1 := fun h => mulB_i (w := w) hw h3 h4 h
      refine ce W 0 rfl rfl (l9Inf_ok w a) rfl ?_
      refine sp W 0 rfl rfl rfl (fun h5 => ?_) (fun h5 => ?_)
      · rw [i1 (.inl h5)]
        refine sp W 0 rfl rfl rfl (fun h7 => ?_) (fun h7 => ?_)
        · rw [if_neg h7]
          refine ce W 0 rfl rfl (specBitTop_ok w) rfl ?_
          refine rp W 0 rfl rfl rfl (.refl)
        · rw [if_pos (Classical.not_not.1 h7)]
          refine ce W 0 rfl rfl (specBitTop_ok w) rfl ?_
          refine rp W 0 rfl rfl rfl (.refl)
      · refine ce W 0 rfl rfl (l9Inf_ok w b) rfl ?_
        refine sp W 0 rfl rfl rfl (fun h6 => ?_) (fun h6 => ?_)
        · rw [i1 (.inr h6)]
          refine sp W 0 rfl rfl rfl (fun h7 => ?_) (fun h7 => ?_)
          · rw [if_neg h7]
            refine ce W 0 rfl rfl (specBitTop_ok w) rfl ?_
            refine rp W 0 rfl rfl rfl (.refl)
          · rw [if_pos (Classical.not_not.1 h7)]
            refine ce W 0 rfl rfl (specBitTop_ok w) rfl ?_
            refine rp W 0 rfl rfl rfl (.refl)
        · rw [mulB_f h5 h6]
          refine cq W 0 rfl rfl (l8Of_w w a hw (by omega)) ?_
          rintro _ ⟨A, B, rfl, a1, a2, a3, a4⟩
          refine ⟨_, rfl, ?_⟩
          refine cq W 0 rfl rfl (l8Of_w w b hw (by omega)) ?_
          rintro _ ⟨C, D, rfl, b1, b2, b3, b4⟩
          refine ⟨_, rfl, ?_⟩
          have hx := dig_len_mul a3 b3
          have hy := dig_len_mul a4 b4
          have es : mkRat (sg (¬ (a < 0 ↔ b < 0)) (A * C)) (B * D) = vl w a * vl w b := by
            rw [sg_mul, ← Rat.mkRat_mul_mkRat, a2, b2]
          refine dre W 0 14 [] [.fi .i64 (dig (A * C)), .fi .i64 (dig (B * D))] rfl rfl rfl ⟨(l5Mul_ok A C (by omega) (by omega)).at rfl _, (l5Mul_ok B D (by omega) (by omega)).at rfl _, trivial⟩ rfl ?_
          refine ce W 0 rfl rfl ((l8Round_w w hw _ (A * C) (B * D) _ (Nat.mul_ne_zero a1 b1) es (by omega) (by omega)).2) rfl ?_
          refine rp W 0 rfl rfl rfl (.refl)
open Classical in
noncomputable def mulSp (w : Int) (x y : Prop × Int × Int) : Prop × Int × Int :=
  if fullS w x ∧ fullS w y then (True, min (min (mulB w x.2.1 y.2.1).1 (mulB w x.2.1 y.2.2).1) (min (mulB w x.2.2 y.2.1).1 (mulB w x.2.2 y.2.2).1), max (max (mulB w x.2.1 y.2.1).2 (mulB w x.2.1 y.2.2).2) (max (mulB w x.2.2 y.2.1).2 (mulB w x.2.2 y.2.2).2)) else noS
theorem specMul_ok (w : Int) (x y : Prop × Int × Int) : AFunP Tryd.prog 15 [.int .i64 w, spA x, spA y] (· = spA (mulSp w x y)) := by
  refine afun_of Tryd.func15 Tryd.call15 rfl Tryd.ntmps15 rfl ?_
  have W : Walk Tryd.prog TT 15 _ := Walk.of TT_ok Tryd.func15 Tryd.results15
  unfold mulSp
  refine ce W 0 rfl rfl (l9Both_ok w x.1 x.2.1 x.2.2 y.1 y.2.1 y.2.2) rfl ?_
  refine sp W 0 rfl rfl rfl (fun h1 => ?_) (fun h1 => ?_)
  · rw [if_neg (fun k => h1 ⟨⟨k.1.1, k.2.1⟩, k.1.2, k.2.2⟩)]
    refine rp W 0 rfl rfl rfl (sub_noS)
  · have h1 := Classical.not_not.1 h1
    rw [if_pos ⟨⟨h1.1.1, h1.2.1⟩, h1.1.2, h1.2.2⟩]
    obtain ⟨-, ⟨xa, xb, -⟩, ya, yb, -⟩ := h1
    have d1 := l9MulDn_ok w x.2.1 y.2.1 xa ya
    have d2 := l9MulDn_ok w x.2.1 y.2.2 xa yb
    have d3 := l9MulDn_ok w x.2.2 y.2.1 xb ya
    have d4 := l9MulDn_ok w x.2.2 y.2.2 xb yb
    have u1 := l9MulUp_ok w x.2.1 y.2.1 xa ya
    have u2 := l9MulUp_ok w x.2.1 y.2.2 xa yb
    have u3 := l9MulUp_ok w x.2.2 y.2.1 xb ya
    have u4 := l9MulUp_ok w x.2.2 y.2.2 xb yb
    generalize (mulB w x.2.1 y.2.1).1 = a1 at *
    generalize (mulB w x.2.1 y.2.2).1 = a2 at *
    generalize (mulB w x.2.2 y.2.1).1 = a3 at *
    generalize (mulB w x.2.2 y.2.2).1 = a4 at *
    generalize (mulB w x.2.1 y.2.1).2 = b1 at *
    generalize (mulB w x.2.1 y.2.2).2 = b2 at *
    generalize (mulB w x.2.2 y.2.1).2 = b3 at *
    generalize (mulB w x.2.2 y.2.2).2 = b4 at *
    refine dre W 0 24 [] [.int .i64 a1, .int .i64 a2, .int .i64 (min a1 a2), .int .i64 a3] rfl rfl rfl ⟨d1.at rfl _, d2.at rfl _, (l3Min_ok _ _).at rfl _, d3.at rfl _, trivial⟩ rfl ?_
    refine ce W 0 rfl rfl (d4) rfl ?_
    refine ce W 0 rfl rfl (l3Min_ok a3 a4) rfl ?_
    refine ce W 0 rfl rfl (l3Min_ok (min a1 a2) (min a3 a4)) rfl ?_
    refine dre W 0 24 [] [.int .i64 b1, .int .i64 b2, .int .i64 (max b1 b2), .int .i64 b3] rfl rfl rfl ⟨u1.at rfl _, u2.at rfl _, (l3Max_ok _ _).at rfl _, u3.at rfl _, trivial⟩ rfl ?_
    refine ce W 0 rfl rfl (u4) rfl ?_
    refine ce W 0 rfl rfl (l3Max_ok b3 b4) rfl ?_
    refine ce W 0 rfl rfl (l3Max_ok (max b1 b2) (max b3 b4)) rfl ?_
    refine ce W 0 rfl rfl (l9Of_ok (min (min a1 a2) (min a3 a4)) (max (max b1 b2) (max b3 b4))) rfl ?_
    refine rp W 0 rfl rfl rfl (.refl)
end Pf
/- The model's l9Quot, l9Part -/
namespace Pf
open Go Go.Proofs
theorem mkRat_div {n : Int} {b c d : Nat} (hb : b ≠ 0) (hd : d ≠ 0) (hc : c ≠ 0) : mkRat (n * d) (b * c) = mkRat n b / mkRat (c : Int) d := by
  rw [Rat.div_def, ← Rat.divInt_ofNat, ← Rat.divInt_ofNat, ← Rat.divInt_ofNat, Rat.inv_divInt, Rat.divInt_mul_divInt, Int.natCast_mul]
theorem l9QuotDn_ok (w a b : Int) (ha : bitOk w a) (hb : bitOk w b) (hb0 : 0 < b) : AFunP Tryd.prog 145 [.int .i64 w, .int .i64 a, .int .i64 b, .bool false] (· = .int .i64 (quotB w a b).1) := by
  have hw := ha.1
  have ht := top_fT hw
  have htr := top_rng w
  have h1 := ha.2
  have h2 := hb.2
  refine afun_of Tryd.func145 Tryd.call145 rfl Tryd.ntmps145 rfl ?_
  have W : Walk Tryd.prog TT 145 _ := Walk.of TT_ok Tryd.func145 Tryd.results145
  refine sp W 0 rfl rfl rfl (fun h3 => ?_) (fun h3 => ?_)
  · rw [quotB_z hw (.inl h3)]
    refine rp W 0 rfl rfl rfl (.refl)
  · refine ce W 0 rfl rfl (l9Inf_ok w b) rfl ?_
    refine sp W 0 rfl rfl rfl (fun h4 => ?_) (fun h4 => ?_)
    · rw [quotB_z hw (.inr h4)]
      refine rp W 0 rfl rfl rfl (.refl)
    · refine ce W 0 rfl rfl (l9Inf_ok w a) rfl ?_
      refine sp W 0 rfl rfl rfl (fun h5 => ?_) (fun h5 => ?_)
      · rw [quotB_a hw h5 h4]
        refine rp W 0 rfl rfl rfl (.refl)
      · rw [quotB_f h5 h4]
        refine cq W 0 rfl rfl (l8Of_w w a hw (by omega)) ?_
        rintro _ ⟨A, B, rfl, a1, a2, a3, a4⟩
        refine ⟨_, rfl, ?_⟩
        refine cq W 0 rfl rfl (l8Of_w w b hw (by omega)) ?_
        rintro _ ⟨C, D, rfl, b1, b2, b3, b4⟩
        refine ⟨_, rfl, ?_⟩
        have hx := dig_len_mul a3 b4
        have hy := dig_len_mul a4 b3
        have hC : C ≠ 0 := fun h0 => by
          subst h0
          rw [sg_zero] at b2
          have := vl_pos (w := w).2 hb0
          rw [← b2, Rat.zero_mkRat] at this
          exact Rat.lt_irrefl this
        have es : mkRat (sg (a < 0) (A * D)) (B * C) = vl w a / vl w b := by
          rw [← a2, ← b2, sg_no (show ¬ b < 0 by omega), sg_mul_nat]
          exact mkRat_div a1 b1 hC
        refine dre W 0 15 [] [.fi .i64 (dig (A * D)), .fi .i64 (dig (B * C))] rfl rfl rfl ⟨(l5Mul_ok A D (by omega) (by omega)).at rfl _, (l5Mul_ok B C (by omega) (by omega)).at rfl _, trivial⟩ rfl ?_
        refine ce W 0 rfl rfl ((l8Round_w w hw _ (A * D) (B * C) _ (Nat.mul_ne_zero a1 hC) es (by omega) (by omega)).1) rfl ?_
        refine rp W 0 rfl rfl rfl (.refl)
theorem l9QuotUp_ok (w a b : Int) (ha : bitOk w a) (hb : bitOk w b) (hb0 : 0 < b) : AFunP Tryd.prog 145 [.int .i64 w, .int .i64 a, .int .i64 b, .bool true] (· = .int .i64 (quotB w a b).2) := by
  have hw := ha.1
  have ht := top_fT hw
  have htr := top_rng w
  have h1 := ha.2
  have h2 := hb.2
  refine afun_of Tryd.func145 Tryd.call145 rfl Tryd.ntmps145 rfl ?_
  have W : Walk Tryd.prog TT 145 _ := Walk.of TT_ok Tryd.func145 Tryd.results145
  refine sp W 0 rfl rfl rfl (fun h3 => ?_) (fun h3 => ?_)
  · rw [quotB_z hw (.inl h3)]
    refine rp W 0 rfl rfl rfl (.refl)
  · refine ce W 0 rfl rfl (l9Inf_ok w b) rfl ?_
    refine sp W 0 rfl rfl rfl (fun h4 => ?_) (fun h4 => ?_)
    · rw [quotB_z hw (.inr h4)]
      refine rp W 0 rfl rfl rfl (.refl)
    · refine ce W 0 rfl rfl (l9Inf_ok w a) rfl ?_
      refine sp W 0 rfl rfl rfl (fun h5 => ?_) (fun h5 => ?_)
      · rw [quotB_a hw h5 h4]
        refine rp W 0 rfl rfl rfl (.refl)
      · rw [quotB_f h5 h4]
        refine cq W 0 rfl rfl (l8Of_w w a hw (by omega)) ?_
        rintro _ ⟨A, B, rfl, a1, a2, a3, a4⟩
        refine ⟨_, rfl, ?_⟩
        refine cq W 0 rfl rfl (l8Of_w w b hw (by omega)) ?_
        rintro _ ⟨C, D, rfl, b1, b2, b3, b4⟩
        refine ⟨_, rfl, ?_⟩
        have hx := dig_len_mul a3 b4
        have hy := dig_len_mul a4 b3
        have hC : C ≠ 0 := fun h0 => by
          subst h0
          rw [sg_zero] at b2
          have := vl_pos (w := w).2 hb0
          rw [← b2, Rat.zero_mkRat] at this
          exact Rat.lt_irrefl this
        have es : mkRat (sg (a < 0) (A * D)) (B * C) = vl w a / vl w b := by
          rw [← a2, ← b2, sg_no (show ¬ b < 0 by omega), sg_mul_nat]
          exact mkRat_div a1 b1 hC
        refine dre W 0 15 [] [.fi .i64 (dig (A * D)), .fi .i64 (dig (B * C))] rfl rfl rfl ⟨(l5Mul_ok A D (by omega) (by omega)).at rfl _, (l5Mul_ok B C (by omega) (by omega)).at rfl _, trivial⟩ rfl ?_
        refine ce W 0 rfl rfl ((l8Round_w w hw _ (A * D) (B * C) _ (Nat.mul_ne_zero a1 hC) es (by omega) (by omega)).2) rfl ?_
        refine rp W 0 rfl rfl rfl (.refl)
theorem l9Part_ok (w : Int) (x y : Prop × Int × Int) (hx : fullS w x) (hy : fullS w y) : AFunP Tryd.prog 97 [.int .i64 w, spA x, spA y] (· = spA (partS w x y)) := by
  obtain ⟨-, x1, x2, x3, x4, x5⟩ := hx
  obtain ⟨-, y1, y2, y3, y4, y5⟩ := hy
  have hw := x1.1
  have htr := top_rng w
  have hyr := y1.2
  refine afun_of Tryd.func97 Tryd.call97 rfl Tryd.ntmps97 rfl ?_
  have W : Walk Tryd.prog TT 97 _ := Walk.of TT_ok Tryd.func97 Tryd.results97
  refine sp W 0 rfl rfl rfl (fun h1 => ?_) (fun h1 => ?_)
  · unfold partS
    rw [if_pos h1]
    refine rp W 0 rfl rfl rfl (sub_noS)
  · unfold partS
    rw [if_neg h1]
    refine ce W 0 rfl rfl (l3Max_ok y.2.1 0) rfl ?_
    refine ce W 0 rfl rfl (specBitTop_ok w) rfl ?_
    refine sp W 0 rfl rfl rfl (fun h2 => ?_) (fun h2 => ?_)
    · rw [if_pos h2]
      refine ce W 0 rfl rfl (l9QuotDn_ok w x.2.1 y.2.2 x1 y2 (by omega)) rfl ?_
      refine ce W 0 rfl rfl (specBitTop_ok w) rfl ?_
      refine sp W 0 rfl rfl rfl (fun h6 => ?_) (fun h6 => ?_)
      · rw [if_pos h6]
        refine ce W 0 rfl rfl (l9QuotUp_ok w x.2.2 y.2.2 x2 y2 (by omega)) rfl ?_
        refine ce W 0 rfl rfl (l9Of_ok (quotB w x.2.1 y.2.2).1 (quotB w x.2.2 y.2.2).2) rfl ?_
        refine rp W 0 rfl rfl rfl (.refl)
      · rw [if_neg h6]
        refine sp W 0 rfl rfl rfl (fun h7 => ?_) (fun h7 => ?_)
        · have h8 : 0 < y.2.1 := by omega
          have e2 : max y.2.1 0 = y.2.1 := by omega
          rw [if_pos h8]
          refine ce W 0 rfl rfl (l9QuotUp_ok w x.2.2 (max y.2.1 0) x2 (by rw [e2]; exact y1) (by omega)) rfl ?_
          refine ce W 0 rfl rfl (l9Of_ok (quotB w x.2.1 y.2.2).1 (quotB w x.2.2 (max y.2.1 0)).2) rfl ?_
          rw [e2]
          refine rp W 0 rfl rfl rfl (.refl)
        · rw [if_neg (show ¬ 0 < y.2.1 by omega)]
          refine ce W 0 rfl rfl (l9Of_ok (quotB w x.2.1 y.2.2).1 (top w)) rfl ?_
          refine rp W 0 rfl rfl rfl (.refl)
    · rw [if_neg h2]
      refine sp W 0 rfl rfl rfl (fun h3 => ?_) (fun h3 => ?_)
      · have h3' : 0 < y.2.1 := by omega
        have e3 : max y.2.1 0 = y.2.1 := by omega
        rw [if_pos h3']
        refine ce W 0 rfl rfl (l9QuotDn_ok w x.2.1 (max y.2.1 0) x1 (by rw [e3]; exact y1) (by omega)) rfl ?_
        refine ce W 0 rfl rfl (specBitTop_ok w) rfl ?_
        refine sp W 0 rfl rfl rfl (fun h6 => ?_) (fun h6 => ?_)
        · rw [if_pos h6]
          refine ce W 0 rfl rfl (l9QuotUp_ok w x.2.2 y.2.2 x2 y2 (by omega)) rfl ?_
          refine ce W 0 rfl rfl (l9Of_ok (quotB w x.2.1 (max y.2.1 0)).1 (quotB w x.2.2 y.2.2).2) rfl ?_
          rw [e3]
          refine rp W 0 rfl rfl rfl (.refl)
        · rw [if_neg h6]
          refine sp W 0 rfl rfl rfl (fun h7 => ?_) (fun h7 => ?_)
          · have h8 : 0 < y.2.1 := by omega
            have e2 : max y.2.1 0 = y.2.1 := by omega
            rw [if_pos h8]
            refine ce W 0 rfl rfl (l9QuotUp_ok w x.2.2 (max y.2.1 0) x2 (by rw [e2]; exact y1) (by omega)) rfl ?_
            refine ce W 0 rfl rfl (l9Of_ok (quotB w x.2.1 (max y.2.1 0)).1 (quotB w x.2.2 (max y.2.1 0)).2) rfl ?_
            rw [e2]
            refine rp W 0 rfl rfl rfl (.refl)
          · rw [if_neg (show ¬ 0 < y.2.1 by omega)]
            refine ce W 0 rfl rfl (l9Of_ok (quotB w x.2.1 (max y.2.1 0)).1 (top w)) rfl ?_
            rw [e3]
            refine rp W 0 rfl rfl rfl (.refl)
      · rw [if_neg (show ¬ 0 < y.2.1 by omega)]
        refine ce W 0 rfl rfl (specBitTop_ok w) rfl ?_
        refine sp W 0 rfl rfl rfl (fun h6 => ?_) (fun h6 => ?_)
        · rw [if_pos h6]
          refine ce W 0 rfl rfl (l9QuotUp_ok w x.2.2 y.2.2 x2 y2 (by omega)) rfl ?_
          refine ce W 0 rfl rfl (l9Of_ok (-top w) (quotB w x.2.2 y.2.2).2) rfl ?_
          refine rp W 0 rfl rfl rfl (.refl)
        · rw [if_neg h6]
          refine sp W 0 rfl rfl rfl (fun h7 => ?_) (fun h7 => ?_)
          · have h8 : 0 < y.2.1 := by omega
            have e2 : max y.2.1 0 = y.2.1 := by omega
            rw [if_pos h8]
            refine ce W 0 rfl rfl (l9QuotUp_ok w x.2.2 (max y.2.1 0) x2 (by rw [e2]; exact y1) (by omega)) rfl ?_
            refine ce W 0 rfl rfl (l9Of_ok (-top w) (quotB w x.2.2 (max y.2.1 0)).2) rfl ?_
            rw [e2]
            refine rp W 0 rfl rfl rfl (.refl)
          · rw [if_neg (show ¬ 0 < y.2.1 by omega)]
            refine ce W 0 rfl rfl (l9Of_ok (-top w) (top w)) rfl ?_
            refine rp W 0 rfl rfl rfl (.refl)
end Pf
/- impl's divAbove -/
namespace Pf
open Go Go.Proofs
open Classical in
noncomputable def nearL (w c : Int) (l : Int × Rat) : Int × Rat := if 0 < c then lby l (limW w c) else if lsgn l = 0 then l else (lsgn l, 0)
theorem near_ok (w : Int) (y : Prop × Int × Int) (hy : bitOk w y.2.1) (l : Int × Rat) (hl : l.1 = 0 → mid l.2) (h2 : -1 ≤ l.1 ∧ l.1 ≤ 1) : AFunP Tryd.prog 146 [limV l, .fptr (spR y) 0, .fptr [.int .i64 w] 0] (· = limV (nearL w y.2.1 l)) := by
  have k1 := limitOf_ok w y.2.1 hy
  have k2 : 0 < y.2.1 → _ := fun h0 => lby_ok l (limW w y.2.1) hl (fun h => ⟨limW_mid hy h, by
    have hi : ¬ (y.2.1 = top w ∨ y.2.1 = -top w) := fun hi => by
      rw [limW_inf hy.1 hi] at h; unfold sgI at h; split at h <;> (try split at h) <;> omega
    rw [limW_fin hi]
    exact fun h0' => by have := vl_eq0.1 h0'; omega⟩)
  have k3 := lsign_ok l hl
  have hr := lsgn_cases l h2
  generalize hm : limW w y.2.1 = m at k1 k2
  rw [limV_eq] at k1 k3
  rw [limV_eq l, limV_eq m] at k2
  rw [limV_eq l]
  refine afun_of Tryd.func146 Tryd.call146 rfl Tryd.ntmps146 rfl ?_
  have W : Walk Tryd.prog TT 146 _ := Walk.of TT_ok Tryd.func146 Tryd.results146
  refine sp W 0 rfl rfl rfl (fun h1 => ?_) (fun h1 => ?_)
  · have e : nearL w y.2.1 l = lby l m := by rw [nearL, if_pos h1, hm]
    have k2 := k2 h1
    rw [e]
    generalize hx : lby l m = z at *
    rw [limV_eq z] at k2 ⊢
    refine dre W 0 6 [] [.agg [.int .i64 m.1, .pr (m.1 = 0 ∧ m.2 < 0), .fi .i64 (if m.1 = 0 then dt m.2 else []), .fi .i64 (if m.1 = 0 then db m.2 else [])], .agg [.int .i64 z.1, .pr (z.1 = 0 ∧ z.2 < 0), .fi .i64 (if z.1 = 0 then dt z.2 else []), .fi .i64 (if z.1 = 0 then db z.2 else [])]] rfl rfl rfl ⟨k1.at rfl _, k2.at rfl _, trivial⟩ rfl ?_
    refine rp W 0 rfl rfl rfl (.refl)
  · refine ce W 0 rfl rfl (k3) rfl ?_
    refine sp W 0 rfl rfl rfl (fun h3 => ?_) (fun h3 => ?_)
    · have e : nearL w y.2.1 l = l := by rw [nearL, if_neg h1, if_pos h3]
      rw [e, limV_eq l]
      refine rp W 0 rfl rfl rfl (.refl)
    · have e : nearL w y.2.1 l = (lsgn l, 0) := by rw [nearL, if_neg h1, if_neg h3]
      rw [e, limV_inf h3]
      refine ce W 0 rfl rfl (k3) rfl ?_
      refine rp W 0 rfl rfl rfl (.agg ⟨.refl, .no id, .nils_fi, .nils_fi, trivial⟩)
/-- A bound, written out. -/
abbrev limA (l : Int × Rat) : AV := .agg [.int .i64 l.1, .pr (l.1 = 0 ∧ l.2 < 0), .fi .i64 (if l.1 = 0 then dt l.2 else []), .fi .i64 (if l.1 = 0 then db l.2 else [])]
theorem limVA (l : Int × Rat) : limV l = limA l := limV_eq l
theorem midN_div {r s : Rat} {n : Nat} (h0 : 0 < s) (hr : midN n r) (hs : midN n s) : midN (n + n) (r / s) := by
  have hp : ¬ s < 0 := Rat.not_lt.2 (Rat.le_of_lt h0)
  have hn : s.num.natAbs ≠ 0 := fun h => Rat.ne_of_gt h0 (Rat.num_eq_zero.1 (by omega))
  refine midN_low (p := r < 0) (a := r.num.natAbs * s.den) (b := r.den * s.num.natAbs) (Nat.mul_ne_zero r.den_nz hn) ?_ (dig_len_mul hr.1 hs.2) (dig_len_mul hr.2 hs.1)
  rw [sg_mul_nat, mkRat_div r.den_nz s.den_nz hn, mk_R]
  congr 1
  have := mk_R s
  rwa [sg_no hp] at this
theorem mid_zero : mid 0 := by
  unfold mid dt db
  exact ⟨by rw [show dig (Rat.num 0).natAbs = [] from dig_nil.2 rfl]; decide, by rw [show dig (Rat.den 0) = [1] from dig_one]; decide⟩
theorem limW_fin0 {w c : Int} (hw : w = 32 ∨ w = 64) (h : (limW w c).1 = 0) : (limW w c).2 = vl w c := by
  have hi : ¬ (c = top w ∨ c = -top w) := fun hi => by
    have hp := top_pos hw
    rw [limW_inf hw hi] at h; unfold sgI at h; split at h <;> (try split at h) <;> omega
  rw [limW_fin hi]
theorem lby_mid {w a c : Int} (ha : bitOk w a) (hc : bitOk w c) (h0 : 0 < c) : ((lby (limW w a) (limW w c)).1 = 0 → mid (lby (limW w a) (limW w c)).2) ∧ -1 ≤ (lby (limW w a) (limW w c)).1 ∧ (lby (limW w a) (limW w c)).1 ≤ 1 := by
  have h1 := limW_midN ha
  have h2 := limW_midN hc
  have h3 := limW_rng w a
  unfold lby
  split
  · exact ⟨fun _ => mid_zero, by omega, by omega⟩
  · rename_i k1
    have k1 := Classical.not_not.1 k1
    split
    · rename_i k2
      exact ⟨fun k => absurd k k2, h3⟩
    · rename_i k2
      refine ⟨fun _ => ?_, by omega, by omega⟩
      have e := limW_fin0 hc.1 k1
      have := midN_div (by rw [e]; exact vl_pos.2 h0) (h1 (Classical.not_not.1 k2)) (h2 k1)
      exact ⟨Nat.le_trans this.1 (by decide), Nat.le_trans this.2 (by decide)⟩
theorem quot_calls {w a c : Int} (ha : bitOk w a) (hc : bitOk w c) (h0 : 0 < c) : AFunP Tryd.prog 60 [limV (lby (limW w a) (limW w c)), .int .i64 w] (· = .tup [.int .i64 (quotB w a c).1, .int .i64 (quotB w a c).2]) :=
  have h := lby_mid ha hc h0
  lfloats_ok w ha.1 _ h.1 h.2
theorem by_calls {w a c : Int} (ha : bitOk w a) (hc : bitOk w c) (h0 : 0 < c) : AFunP Tryd.prog 147 [limV (limW w a), limV (limW w c)] (· = limV (lby (limW w a) (limW w c))) :=
  lby_ok _ _ (limW_mid ha) (fun h => ⟨limW_mid hc h, by rw [limW_fin0 hc.1 h]; exact Rat.ne_of_gt (vl_pos.2 h0)⟩)
noncomputable def nearB (w a c : Int) : Int × Int := lflo w (nearL w c (limW w a))
theorem nearB_y {w a c : Int} (h : 0 < c) : nearB w a c = quotB w a c := by rw [nearB, nearL, if_pos h]; rfl
theorem nearB_n {w a c : Int} (hw : w = 32 ∨ w = 64) (h : ¬ 0 < c) : nearB w a c = (sgI a * top w, sgI a * top w) := by
  have hp := top_pos hw
  rw [nearB, nearL, if_neg h, lsgn_limW hw]
  split
  · rename_i h0
    have ha : a = 0 := by unfold sgI at h0; split at h0 <;> (try split at h0) <;> omega
    subst ha
    rw [limW_fin (by omega), lflo, if_pos rfl, vl_zero, (dn_zero w).1, (dn_zero w).2, h0, Int.zero_mul]
  · rename_i h0
    rw [lflo, if_neg h0]
theorem near_calls {w a c : Int} (ha : bitOk w a) (hc : bitOk w c) : AFunP Tryd.prog 60 [limV (nearL w c (limW w a)), .int .i64 w] (· = .tup [.int .i64 (nearB w a c).1, .int .i64 (nearB w a c).2]) := by
  have hr := limW_rng w a
  refine lfloats_ok w ha.1 _ ?_ ?_
  · unfold nearL
    split
    · rename_i h0; exact (lby_mid ha hc h0).1
    · split
      · exact limW_mid ha
      · rename_i h; exact fun k => absurd k h
  · unfold nearL
    split
    · rename_i h0; exact (lby_mid ha hc h0).2
    · split
      · exact hr
      · have := lsgn_cases _ hr; dsimp only; omega
theorem part_lo {w : Int} {x y : Prop × Int × Int} (hw : w = 32 ∨ w = 64) (h : ¬ y.2.2 ≤ 0) : (partS w x y).2.1 = if 0 ≤ sgI x.2.1 then (quotB w x.2.1 y.2.2).1 else (nearB w x.2.1 y.2.1).1 := by
  rw [partS, if_neg h]
  dsimp only
  have e : 0 ≤ sgI x.2.1 ↔ 0 ≤ x.2.1 := by unfold sgI; split <;> (try split) <;> omega
  by_cases h1 : 0 ≤ x.2.1
  · rw [if_pos h1, if_pos (e.2 h1)]
  · rw [if_neg h1, if_neg (fun k => h1 (e.1 k))]
    by_cases h2 : 0 < y.2.1
    · rw [if_pos h2, nearB_y h2]
    · rw [if_neg h2, nearB_n hw h2, show sgI x.2.1 = -1 from if_pos (by omega)]; dsimp only; omega
theorem part_hi {w : Int} {x y : Prop × Int × Int} (hw : w = 32 ∨ w = 64) (h : ¬ y.2.2 ≤ 0) : (partS w x y).2.2 = if sgI x.2.2 < 0 then (quotB w x.2.2 y.2.2).2 else (nearB w x.2.2 y.2.1).2 := by
  rw [partS, if_neg h]
  dsimp only
  by_cases h1 : x.2.2 < 0
  · rw [if_pos (show x.2.2 ≤ 0 by omega), if_pos (show sgI x.2.2 < 0 by rw [sgI, if_pos h1]; decide)]
  · rw [if_neg (show ¬ sgI x.2.2 < 0 by rw [sgI, if_neg h1]; split <;> omega)]
    by_cases h0 : x.2.2 = 0
    · rw [if_pos (show x.2.2 ≤ 0 by omega), h0, quotB_z hw (.inl rfl)]
      by_cases h2 : 0 < y.2.1
      · rw [nearB_y h2, quotB_z hw (.inl rfl)]
      · rw [nearB_n hw h2]; simp [sgI]
    · rw [if_neg (show ¬ x.2.2 ≤ 0 by omega)]
      by_cases h2 : 0 < y.2.1
      · rw [if_pos h2, nearB_y h2]
      · rw [if_neg h2, nearB_n hw h2, show sgI x.2.2 = 1 by rw [sgI, if_neg h1, if_neg h0]]; dsimp only; omega
theorem divAbove_ok (w : Int) (x y : Prop × Int × Int) (hx : fullS w x) (hy : fullS w y) : AFunP Tryd.prog 99 [.int .i64 w, spA x, spA y] (· = spA (partS w x y)) := by
  obtain ⟨-, x1, x2, x3, x4, x5⟩ := hx
  obtain ⟨-, y1, y2, y3, y4, y5⟩ := hy
  have hw := x1.1
  have htr := top_rng w
  have hyr := y1.2
  have k1 := limitOf_ok w y.2.2 y2
  have k2 := limitOf_ok w x.2.1 x1
  have k3 := limitOf_ok w x.2.2 x2
  have n2 := near_ok w y y1 (limW w x.2.1) (limW_mid x1) (limW_rng w _)
  have n3 := near_ok w y y1 (limW w x.2.2) (limW_mid x2) (limW_rng w _)
  have s1 := lsign_ok (limW w x.2.1) (limW_mid x1)
  have s2 := lsign_ok (limW w x.2.2) (limW_mid x2)
  rw [lsgn_limW hw] at s1 s2
  have g1 := near_calls x1 y1
  have g2 := near_calls x2 y1
  have b1 : 0 < y.2.2 → _ := fun h0 => by_calls x1 y2 h0
  have b2 : 0 < y.2.2 → _ := fun h0 => by_calls x2 y2 h0
  have f1 : 0 < y.2.2 → _ := fun h0 => quot_calls x1 y2 h0
  have f2 : 0 < y.2.2 → _ := fun h0 => quot_calls x2 y2 h0
  simp only [limVA] at k1 k2 k3 n2 n3 s1 s2 g1 g2 b1 b2 f1 f2
  have e0 : y.2.2 ≤ 0 → partS w x y = noS := fun h => by rw [partS, if_pos h]
  have e1 : ¬ y.2.2 ≤ 0 → spA (partS w x y) = spA (True, (if 0 ≤ sgI x.2.1 then (quotB w x.2.1 y.2.2).1 else (nearB w x.2.1 y.2.1).1), (if sgI x.2.2 < 0 then (quotB w x.2.2 y.2.2).2 else (nearB w x.2.2 y.2.1).2)) := fun h => by
    rw [← part_lo hw h, ← part_hi hw h, partS, if_neg h]
  generalize partS w x y = res at *
  generalize quotB w x.2.1 y.2.2 = Q1 at *
  generalize quotB w x.2.2 y.2.2 = Q2 at *
  generalize nearB w x.2.1 y.2.1 = N1 at *
  generalize nearB w x.2.2 y.2.1 = N2 at *
  generalize nearL w y.2.1 (limW w x.2.1) = ln at *
  generalize nearL w y.2.1 (limW w x.2.2) = mn at *
  generalize lby (limW w x.2.1) (limW w y.2.2) = q1 at *
  generalize lby (limW w x.2.2) (limW w y.2.2) = q2 at *
  generalize limW w x.2.1 = l at *
  generalize limW w x.2.2 = m at *
  generalize limW w y.2.2 = n at *
  refine afun_of Tryd.func99 Tryd.call99 rfl Tryd.ntmps99 rfl ?_
  have W : Walk Tryd.prog TT 99 _ := Walk.of TT_ok Tryd.func99 Tryd.results99
  refine sp W 0 rfl rfl rfl (fun h1 => ?_) (fun h1 => ?_)
  · rw [e0 h1]
    refine rp W 0 rfl rfl rfl (sub_noS)
  · have h0 : 0 < y.2.2 := by omega
    rw [e1 h1]
    have b1 := b1 h0
    have b2 := b2 h0
    have f1 := f1 h0
    have f2 := f2 h0
    refine cf W 0 [0, 2] [0, 1, 2, 3, 4, 5, 6] rfl rfl rfl rfl rfl rfl (k1) rfl ?_
    refine phg W 0 10 [8, 9] rfl rfl (fun PW => ?_)
    refine phf PW 0 8 9 [] [limA l, limA m] rfl rfl ⟨k2.at rfl _, k3.at rfl _, trivial⟩ rfl rfl rfl rfl ?_ ?_
    · refine pho PW 0 9 [] [limA l, limA m] rfl rfl ⟨k2.at rfl _, k3.at rfl _, trivial⟩ rfl rfl ?_
      refine phe PW 0 [] [limA l, limA m] rfl ⟨k2.at rfl _, k3.at rfl _, trivial⟩ rfl ?_
      refine phg W 0 8 [6, 7] rfl rfl (fun PW => ?_)
      refine phf PW 0 6 7 [] [limA ln, limA mn] rfl rfl ⟨n2.at rfl _, n3.at rfl _, trivial⟩ rfl rfl rfl rfl ?_ ?_
      · refine pho PW 0 7 [] [limA ln, limA mn] rfl rfl ⟨n2.at rfl _, n3.at rfl _, trivial⟩ rfl rfl ?_
        refine phe PW 0 [] [limA ln, limA mn] rfl ⟨n2.at rfl _, n3.at rfl _, trivial⟩ rfl ?_
        refine ce W 0 rfl rfl (s1) rfl ?_
        refine sp W 0 rfl rfl rfl (fun h2 => ?_) (fun h2 => ?_)
        · rw [if_pos h2]
          refine ce W 0 rfl rfl (b1) rfl ?_
          refine ce W 0 rfl rfl (s2) rfl ?_
          refine sp W 0 rfl rfl rfl (fun h3 => ?_) (fun h3 => ?_)
          · rw [if_pos h3]
            refine ce W 0 rfl rfl (b2) rfl ?_
            refine ce W 0 rfl rfl (f1) rfl ?_
            refine ce W 0 rfl rfl (f2) rfl ?_
            refine ce W 0 rfl rfl (some_ok Q1.1 Q2.2) rfl ?_
            refine rp W 0 rfl rfl rfl (.refl)
          · rw [if_neg h3]
            refine ce W 0 rfl rfl (f1) rfl ?_
            refine ce W 0 rfl rfl (g2) rfl ?_
            refine ce W 0 rfl rfl (some_ok Q1.1 N2.2) rfl ?_
            refine rp W 0 rfl rfl rfl (.refl)
        · rw [if_neg h2]
          refine ce W 0 rfl rfl (s2) rfl ?_
          refine sp W 0 rfl rfl rfl (fun h3 => ?_) (fun h3 => ?_)
          · rw [if_pos h3]
            refine ce W 0 rfl rfl (b2) rfl ?_
            refine ce W 0 rfl rfl (g1) rfl ?_
            refine ce W 0 rfl rfl (f2) rfl ?_
            refine ce W 0 rfl rfl (some_ok N1.1 Q2.2) rfl ?_
            refine rp W 0 rfl rfl rfl (.refl)
          · rw [if_neg h3]
            refine ce W 0 rfl rfl (g1) rfl ?_
            refine ce W 0 rfl rfl (g2) rfl ?_
            refine ce W 0 rfl rfl (some_ok N1.1 N2.2) rfl ?_
            refine rp W 0 rfl rfl rfl (.refl)
      · refine pho PW 0 6 [] [limA ln, limA mn] rfl rfl ⟨n2.at rfl _, n3.at rfl _, trivial⟩ rfl rfl ?_
        refine phe PW 0 [] [limA ln, limA mn] rfl ⟨n2.at rfl _, n3.at rfl _, trivial⟩ rfl ?_
        refine ce W 0 rfl rfl (s1) rfl ?_
        refine sp W 0 rfl rfl rfl (fun h2 => ?_) (fun h2 => ?_)
        · rw [if_pos h2]
          refine ce W 0 rfl rfl (b1) rfl ?_
          refine ce W 0 rfl rfl (s2) rfl ?_
          refine sp W 0 rfl rfl rfl (fun h3 => ?_) (fun h3 => ?_)
          · rw [if_pos h3]
            refine ce W 0 rfl rfl (b2) rfl ?_
            refine ce W 0 rfl rfl (f1) rfl ?_
            refine ce W 0 rfl rfl (f2) rfl ?_
            refine ce W 0 rfl rfl (some_ok Q1.1 Q2.2) rfl ?_
            refine rp W 0 rfl rfl rfl (.refl)
          · rw [if_neg h3]
            refine ce W 0 rfl rfl (f1) rfl ?_
            refine ce W 0 rfl rfl (g2) rfl ?_
            refine ce W 0 rfl rfl (some_ok Q1.1 N2.2) rfl ?_
            refine rp W 0 rfl rfl rfl (.refl)
        · rw [if_neg h2]
          refine ce W 0 rfl rfl (s2) rfl ?_
          refine sp W 0 rfl rfl rfl (fun h3 => ?_) (fun h3 => ?_)
          · rw [if_pos h3]
            refine ce W 0 rfl rfl (b2) rfl ?_
            refine ce W 0 rfl rfl (g1) rfl ?_
            refine ce W 0 rfl rfl (f2) rfl ?_
            refine ce W 0 rfl rfl (some_ok N1.1 Q2.2) rfl ?_
            refine rp W 0 rfl rfl rfl (.refl)
          · rw [if_neg h3]
            refine ce W 0 rfl rfl (g1) rfl ?_
            refine ce W 0 rfl rfl (g2) rfl ?_
            refine ce W 0 rfl rfl (some_ok N1.1 N2.2) rfl ?_
            refine rp W 0 rfl rfl rfl (.refl)
    · refine pho PW 0 8 [] [limA l, limA m] rfl rfl ⟨k2.at rfl _, k3.at rfl _, trivial⟩ rfl rfl ?_
      refine phe PW 0 [] [limA l, limA m] rfl ⟨k2.at rfl _, k3.at rfl _, trivial⟩ rfl ?_
      refine phg W 0 8 [6, 7] rfl rfl (fun PW => ?_)
      refine phf PW 0 6 7 [] [limA ln, limA mn] rfl rfl ⟨n2.at rfl _, n3.at rfl _, trivial⟩ rfl rfl rfl rfl ?_ ?_
      · refine pho PW 0 7 [] [limA ln, limA mn] rfl rfl ⟨n2.at rfl _, n3.at rfl _, trivial⟩ rfl rfl ?_
        refine phe PW 0 [] [limA ln, limA mn] rfl ⟨n2.at rfl _, n3.at rfl _, trivial⟩ rfl ?_
        refine ce W 0 rfl rfl (s1) rfl ?_
        refine sp W 0 rfl rfl rfl (fun h2 => ?_) (fun h2 => ?_)
        · rw [if_pos h2]
          refine ce W 0 rfl rfl (b1) rfl ?_
          refine ce W 0 rfl rfl (s2) rfl ?_
          refine sp W 0 rfl rfl rfl (fun h3 => ?_) (fun h3 => ?_)
          · rw [if_pos h3]
            refine ce W 0 rfl rfl (b2) rfl ?_
            refine ce W 0 rfl rfl (f1) rfl ?_
            refine ce W 0 rfl rfl (f2) rfl ?_
            refine ce W 0 rfl rfl (some_ok Q1.1 Q2.2) rfl ?_
            refine rp W 0 rfl rfl rfl (.refl)
          · rw [if_neg h3]
            refine ce W 0 rfl rfl (f1) rfl ?_
            refine ce W 0 rfl rfl (g2) rfl ?_
            refine ce W 0 rfl rfl (some_ok Q1.1 N2.2) rfl ?_
            refine rp W 0 rfl rfl rfl (.refl)
        · rw [if_neg h2]
          refine ce W 0 rfl rfl (s2) rfl ?_
          refine sp W 0 rfl rfl rfl (fun h3 => ?_) (fun h3 => ?_)
          · rw [if_pos h3]
            refine ce W 0 rfl rfl (b2) rfl ?_
            refine ce W 0 rfl rfl (g1) rfl ?_
            refine ce W 0 rfl rfl (f2) rfl ?_
            refine ce W 0 rfl rfl (some_ok N1.1 Q2.2) rfl ?_
            refine rp W 0 rfl rfl rfl (.refl)
          · rw [if_neg h3]
            refine ce W 0 rfl rfl (g1) rfl ?_
            refine ce W 0 rfl rfl (g2) rfl ?_
            refine ce W 0 rfl rfl (some_ok N1.1 N2.2) rfl ?_
            refine rp W 0 rfl rfl rfl (.refl)
      · refine pho PW 0 6 [] [limA ln, limA mn] rfl rfl ⟨n2.at rfl _, n3.at rfl _, trivial⟩ rfl rfl ?_
        refine phe PW 0 [] [limA ln, limA mn] rfl ⟨n2.at rfl _, n3.at rfl _, trivial⟩ rfl ?_
        refine ce W 0 rfl rfl (s1) rfl ?_
        refine sp W 0 rfl rfl rfl (fun h2 => ?_) (fun h2 => ?_)
        · rw [if_pos h2]
          refine ce W 0 rfl rfl (b1) rfl ?_
          refine ce W 0 rfl rfl (s2) rfl ?_
          refine sp W 0 rfl rfl rfl (fun h3 => ?_) (fun h3 => ?_)
          · rw [if_pos h3]
            refine ce W 0 rfl rfl (b2) rfl ?_
            refine ce W 0 rfl rfl (f1) rfl ?_
            refine ce W 0 rfl rfl (f2) rfl ?_
            refine ce W 0 rfl rfl (some_ok Q1.1 Q2.2) rfl ?_
            refine rp W 0 rfl rfl rfl (.refl)
          · rw [if_neg h3]
            refine ce W 0 rfl rfl (f1) rfl ?_
            refine ce W 0 rfl rfl (g2) rfl ?_
            refine ce W 0 rfl rfl (some_ok Q1.1 N2.2) rfl ?_
            refine rp W 0 rfl rfl rfl (.refl)
        · rw [if_neg h2]
          refine ce W 0 rfl rfl (s2) rfl ?_
          refine sp W 0 rfl rfl rfl (fun h3 => ?_) (fun h3 => ?_)
          · rw [if_pos h3]
            refine ce W 0 rfl rfl (b2) rfl ?_
            refine ce W 0 rfl rfl (g1) rfl ?_
            refine ce W 0 rfl rfl (f2) rfl ?_
            refine ce W 0 rfl rfl (some_ok N1.1 Q2.2) rfl ?_
            refine rp W 0 rfl rfl rfl (.refl)
          · rw [if_neg h3]
            refine ce W 0 rfl rfl (g1) rfl ?_
            refine ce W 0 rfl rfl (g2) rfl ?_
            refine ce W 0 rfl rfl (some_ok N1.1 N2.2) rfl ?_
            refine rp W 0 rfl rfl rfl (.refl)
end Pf
/- Spans: the model's hulls and meets -/
namespace Pf
open Go Go.Proofs
theorem specHull_ok (w : Int) (x y : Prop × Int × Int) : AFunP Tryd.prog 98 [.int .i64 w, spA x, spA y] (· = spA (hullS w x y)) := by
  refine afun_of Tryd.func98 Tryd.call98 rfl Tryd.ntmps98 rfl ?_
  have W : Walk Tryd.prog TT 98 _ := Walk.of TT_ok Tryd.func98 Tryd.results98
  unfold hullS
  refine ce W 0 rfl rfl (specSpanOk_ok w x.1 x.2.1 x.2.2) rfl ?_
  refine sp W 0 rfl rfl rfl (fun h1 => ?_) (fun h1 => ?_)
  · rw [if_neg (fun k => h1 k.1)]
    refine rp W 0 rfl rfl rfl (sub_noS)
  · have h1 := Classical.not_not.1 h1
    refine ce W 0 rfl rfl (specSpanOk_ok w y.1 y.2.1 y.2.2) rfl ?_
    refine sp W 0 rfl rfl rfl (fun h2 => ?_) (fun h2 => ?_)
    · rw [if_neg (fun k => h2 k.2)]
      refine rp W 0 rfl rfl rfl (sub_noS)
    · rw [if_pos ⟨h1, Classical.not_not.1 h2⟩]
      refine sp W 0 rfl rfl rfl (fun h3 => ?_) (fun h3 => ?_)
      · rw [if_neg h3]
        refine rp W 0 rfl rfl rfl (.refl)
      · rw [if_pos (Classical.not_not.1 h3)]
        refine sp W 0 rfl rfl rfl (fun h4 => ?_) (fun h4 => ?_)
        · rw [if_neg h4]
          refine rp W 0 rfl rfl rfl (.refl)
        · rw [if_pos (Classical.not_not.1 h4)]
          refine dre W 0 11 [] [.int .i64 (min x.2.1 y.2.1), .int .i64 (max x.2.2 y.2.2), spA (True, min x.2.1 y.2.1, max x.2.2 y.2.2)] rfl rfl rfl ⟨(l3Min_ok x.2.1 y.2.1).at rfl _, (l3Max_ok x.2.2 y.2.2).at rfl _, (l9Of_ok (min x.2.1 y.2.1) (max x.2.2 y.2.2)).at rfl _, trivial⟩ rfl ?_
          refine rp W 0 rfl rfl rfl (.refl)
theorem specMeet_ok (w : Int) (x y : Prop × Int × Int) : AFunP Tryd.prog 68 [.int .i64 w, spA x, spA y] (· = spA (meetS w x y)) := by
  refine afun_of Tryd.func68 Tryd.call68 rfl Tryd.ntmps68 rfl ?_
  have W : Walk Tryd.prog TT 68 _ := Walk.of TT_ok Tryd.func68 Tryd.results68
  unfold meetS
  refine ce W 0 rfl rfl (l9Both_ok w x.1 x.2.1 x.2.2 y.1 y.2.1 y.2.2) rfl ?_
  refine sp W 0 rfl rfl rfl (fun h1 => ?_) (fun h1 => ?_)
  · rw [if_neg (fun k => h1 ⟨⟨k.1.1, k.2.1.1⟩, k.1.2, k.2.1.2⟩)]
    refine rp W 0 rfl rfl rfl (sub_noS)
  · have h1 := Classical.not_not.1 h1
    have hm := meet_pair (w := w) (a := x.2) (b := y.2) h1.2.1 h1.2.2
    refine phg W 0 11 [9, 10] rfl rfl (fun PW => ?_)
    refine pho PW 0 9 [] [.agg [.int .i64 x.2.1, .int .i64 x.2.2], .agg [.int .i64 y.2.1, .int .i64 y.2.2], .tup [pairV (pmeet w x.2 y.2), .pr (meetOk w x.2 y.2)]] rfl rfl ⟨(l9Pair_ok x.1 x.2.1 x.2.2).at rfl _, (l9Pair_ok y.1 y.2.1 y.2.2).at rfl _, (specPairMeet_ok w x.2 y.2).at rfl _, trivial⟩ rfl rfl ?_
    refine pho PW 0 10 [] [.agg [.int .i64 x.2.1, .int .i64 x.2.2], .agg [.int .i64 y.2.1, .int .i64 y.2.2], .tup [pairV (pmeet w x.2 y.2), .pr (meetOk w x.2 y.2)]] rfl rfl ⟨(l9Pair_ok x.1 x.2.1 x.2.2).at rfl _, (l9Pair_ok y.1 y.2.1 y.2.2).at rfl _, (specPairMeet_ok w x.2 y.2).at rfl _, trivial⟩ rfl rfl ?_
    refine phe PW 0 [] [] rfl trivial rfl ?_
    refine sp W 0 rfl rfl rfl (fun h2 => ?_) (fun h2 => ?_)
    · have h2 : ¬ meetOk w x.2 y.2 := h2
      rw [if_neg (fun k => h2 ⟨h1.2.1, h1.2.2, hm.1 k.2.2⟩)]
      refine rp W 0 rfl rfl rfl (sub_noS)
    · have h2 : meetOk w x.2 y.2 := Classical.not_not.1 h2
      rw [if_pos ⟨⟨h1.1.1, h1.2.1⟩, ⟨h1.1.2, h1.2.2⟩, hm.2 h2.2.2⟩, pmeet_yes h2]
      refine ce W 0 rfl rfl (l9Of_ok (max x.2.1 y.2.1) (min x.2.2 y.2.2)) rfl ?_
      refine rp W 0 rfl rfl rfl (.refl)
end Pf
/- SpanDivTwo, SpanDiv on both sides -/
namespace Pf
open Go Go.Proofs
noncomputable abbrev spR2 (p : (Prop × Int × Int) × (Prop × Int × Int)) : AV := .tup [spA p.1, spA p.2]
theorem implDivTwo_ok (w : Int) (x y : Prop × Int × Int) : AFunP Tryd.prog 39 [.int .i64 w, spA x, spA y] (· = spR2 (twoS w x y)) := by
  refine afun_of Tryd.func39 Tryd.call39 rfl Tryd.ntmps39 rfl ?_
  have W : Walk Tryd.prog TT 39 _ := Walk.of TT_ok Tryd.func39 Tryd.results39
  refine cf W 0 [4] [0, 1, 2, 4, 5, 6, 7] rfl rfl rfl rfl rfl rfl (full2_ok w x y) rfl ?_
  refine sp W 0 rfl rfl rfl (fun h1 => ?_) (fun h1 => ?_)
  · unfold twoS
    rw [if_neg h1]
    refine rp W 0 rfl rfl rfl (.tup ⟨sub_noS, sub_noS, trivial⟩)
  · have h1 := Classical.not_not.1 h1
    have p1 := divAbove_ok w x y h1.1 h1.2
    have p2 := divAbove_ok w (negS' w x) (negS' w y) (negS_ok h1.1.2.1.1 h1.1) (negS_ok h1.1.2.1.1 h1.2)
    rw [part_below h1.1 h1.2] at p2
    unfold twoS
    rw [if_pos h1]
    generalize partS w x y = p at *
    generalize negS' w (partS w x (negS' w y)) = q at *
    refine ce W 0 rfl rfl (p1) rfl ?_
    refine phg W 0 9 [8] rfl rfl (fun PW => ?_)
    refine pho PW 0 8 [] [spA (negS' w x), spA (negS' w y), spA q] rfl rfl ⟨(implNeg_ok w x).at rfl _, (implNeg_ok w y).at rfl _, p2.at rfl _, trivial⟩ rfl rfl ?_
    refine phe PW 0 [] [spA (negS' w x), spA (negS' w y), spA q] rfl ⟨(implNeg_ok w x).at rfl _, (implNeg_ok w y).at rfl _, p2.at rfl _, trivial⟩ rfl ?_
    refine sp W 0 rfl rfl rfl (fun a1 => ?_) (fun a1 => ?_)
    · refine sp W 0 rfl rfl rfl (fun a2 => ?_) (fun a2 => ?_)
      · refine sp W 0 rfl rfl rfl (fun a3 => ?_) (fun a3 => ?_)
        · rw [show twoV w p q = (p, q) from if_pos ⟨a1, a2, a3⟩]
          refine phg W 0 3 [2] rfl rfl (fun PW => ?_)
          refine pho PW 0 2 [] [] rfl rfl trivial rfl rfl ?_
          refine phe PW 0 [] [] rfl trivial rfl ?_
          refine rp W 0 rfl rfl rfl (.refl)
        · refine sp W 0 rfl rfl rfl (fun b1 => ?_) (fun b1 => ?_)
          · refine sp W 0 rfl rfl rfl (fun b2 => ?_) (fun b2 => ?_)
            · refine sp W 0 rfl rfl rfl (fun b3 => ?_) (fun b3 => ?_)
              · rw [show twoV w p q = (q, p) by rw [twoV, if_neg (fun k => a3 k.2.2), if_pos ⟨a1, a2, b3⟩]]
                refine phg W 0 3 [2] rfl rfl (fun PW => ?_)
                refine pho PW 0 2 [] [] rfl rfl trivial rfl rfl ?_
                refine phe PW 0 [] [] rfl trivial rfl ?_
                refine rp W 0 rfl rfl rfl (.refl)
              · rw [show twoV w p q = (hullS w p q, noS) by rw [twoV, if_neg (fun k => a3 k.2.2), if_neg (fun k => b3 k.2.2)]]
                refine ce W 0 rfl rfl (implHull_ok w p q) rfl ?_
                refine rp W 0 rfl rfl rfl (.tup ⟨.refl, sub_noS, trivial⟩)
            · exact absurd a2 b2
          · exact absurd a1 b1
      · refine sp W 0 rfl rfl rfl (fun b1 => ?_) (fun b1 => ?_)
        · refine sp W 0 rfl rfl rfl (fun b2 => ?_) (fun b2 => ?_)
          · exact absurd b2 a2
          · rw [show twoV w p q = (hullS w p q, noS) by rw [twoV, if_neg (fun k => a2 k.2.1), if_neg (fun k => a2 k.2.1)]]
            refine ce W 0 rfl rfl (implHull_ok w p q) rfl ?_
            refine rp W 0 rfl rfl rfl (.tup ⟨.refl, sub_noS, trivial⟩)
        · exact absurd a1 b1
    · refine sp W 0 rfl rfl rfl (fun b1 => ?_) (fun b1 => ?_)
      · exact absurd b1 a1
      · rw [show twoV w p q = (hullS w p q, noS) by rw [twoV, if_neg (fun k => a1 k.1), if_neg (fun k => a1 k.1)]]
        refine ce W 0 rfl rfl (implHull_ok w p q) rfl ?_
        refine rp W 0 rfl rfl rfl (.tup ⟨.refl, sub_noS, trivial⟩)
theorem specDivTwo_ok (w : Int) (x y : Prop × Int × Int) : AFunP Tryd.prog 38 [.int .i64 w, spA x, spA y] (· = spR2 (twoS w x y)) := by
  refine afun_of Tryd.func38 Tryd.call38 rfl Tryd.ntmps38 rfl ?_
  have W : Walk Tryd.prog TT 38 _ := Walk.of TT_ok Tryd.func38 Tryd.results38
  refine ce W 0 rfl rfl (l9Both_ok w x.1 x.2.1 x.2.2 y.1 y.2.1 y.2.2) rfl ?_
  refine sp W 0 rfl rfl rfl (fun h1 => ?_) (fun h1 => ?_)
  · unfold twoS
    rw [if_neg (fun k => h1 ⟨⟨k.1.1, k.2.1⟩, k.1.2, k.2.2⟩)]
    refine rp W 0 rfl rfl rfl (.tup ⟨sub_noS, sub_noS, trivial⟩)
  · have h1 := Classical.not_not.1 h1
    have hx : fullS w x := ⟨h1.1.1, h1.2.1⟩
    have hy : fullS w y := ⟨h1.1.2, h1.2.2⟩
    have hw := hx.2.1.1
    have p1 := l9Part_ok w x y hx hy
    have p2 := l9Part_ok w x (negS' w y) hx (negS_ok hw hy)
    have o1 := partS_okS hx hy
    have o2 := negS_okS (partS_okS hx (negS_ok hw hy))
    unfold twoS
    rw [if_pos ⟨hx, hy⟩]
    refine ce W 0 rfl rfl (p1) rfl ?_
    refine phg W 0 9 [8] rfl rfl (fun PW => ?_)
    refine pho PW 0 8 [] [spA (negS' w y), spA (partS w x (negS' w y)), spA (negS' w (partS w x (negS' w y)))] rfl rfl ⟨(specNeg_ok w _ _ _).at rfl _, p2.at rfl _, (specNeg_ok w _ _ _).at rfl _, trivial⟩ rfl rfl ?_
    refine phe PW 0 [] [spA (negS' w y), spA (partS w x (negS' w y)), spA (negS' w (partS w x (negS' w y)))] rfl ⟨(specNeg_ok w _ _ _).at rfl _, p2.at rfl _, (specNeg_ok w _ _ _).at rfl _, trivial⟩ rfl ?_
    generalize partS w x y = p at *
    generalize negS' w (partS w x (negS' w y)) = q at *
    refine sp W 0 rfl rfl rfl (fun a1 => ?_) (fun a1 => ?_)
    · rw [two_p hw o1 o2 a1]
      refine rp W 0 rfl rfl rfl (.tup ⟨.refl, sub_noS, trivial⟩)
    · have a1 := Classical.not_not.1 a1
      refine sp W 0 rfl rfl rfl (fun a2 => ?_) (fun a2 => ?_)
      · rw [two_q hw o1 o2 a1 a2]
        refine rp W 0 rfl rfl rfl (.tup ⟨.refl, sub_noS, trivial⟩)
      · have a2 := Classical.not_not.1 a2
        have fp := okS_full o1 a1
        have fq := okS_full o2 a2
        refine ce W 0 rfl rfl (l9Both_ok w p.1 p.2.1 p.2.2 q.1 q.2.1 q.2.2) rfl ?_
        refine sp W 0 rfl rfl rfl (fun a3 => ?_) (fun a3 => ?_)
        · refine ce W 0 rfl rfl (specMeet_ok w p q) rfl ?_
          refine sp W 0 rfl rfl rfl (fun a4 => ?_) (fun a4 => ?_)
          · rw [two_m fp fq a4]
            refine ce W 0 rfl rfl (specHull_ok w p q) rfl ?_
            refine rp W 0 rfl rfl rfl (.tup ⟨.refl, sub_noS, trivial⟩)
          · refine sp W 0 rfl rfl rfl (fun a5 => ?_) (fun a5 => ?_)
            · rw [two_l fp fq a4 a5]
              refine phg W 0 3 [2] rfl rfl (fun PW => ?_)
              refine pho PW 0 2 [] [] rfl rfl trivial rfl rfl ?_
              refine phe PW 0 [] [] rfl trivial rfl ?_
              refine rp W 0 rfl rfl rfl (.refl)
            · rw [two_r fp fq a4 a5]
              refine phg W 0 3 [2] rfl rfl (fun PW => ?_)
              refine pho PW 0 2 [] [] rfl rfl trivial rfl rfl ?_
              refine phe PW 0 [] [] rfl trivial rfl ?_
              refine rp W 0 rfl rfl rfl (.refl)
        · exact absurd ⟨⟨a1, a2⟩, fp.2, fq.2⟩ a3
noncomputable def divSp (w : Int) (x y : Prop × Int × Int) : Prop × Int × Int := hullS w (twoS w x y).1 (twoS w x y).2
theorem implDiv_ok (w : Int) (x y : Prop × Int × Int) : AFunP Tryd.prog 41 [.int .i64 w, spA x, spA y] (· = spA (divSp w x y)) := by
  have k := implDivTwo_ok w x y
  unfold divSp
  generalize twoS w x y = r at *
  refine afun_of Tryd.func41 Tryd.call41 rfl Tryd.ntmps41 rfl ?_
  have W : Walk Tryd.prog TT 41 _ := Walk.of TT_ok Tryd.func41 Tryd.results41
  refine ce W 0 rfl rfl (k) rfl ?_
  refine ce W 0 rfl rfl (implHull_ok w r.1 r.2) rfl ?_
  refine rp W 0 rfl rfl rfl (.refl)
theorem specDiv_ok (w : Int) (x y : Prop × Int × Int) : AFunP Tryd.prog 40 [.int .i64 w, spA x, spA y] (· = spA (divSp w x y)) := by
  have k := specDivTwo_ok w x y
  unfold divSp
  generalize twoS w x y = r at *
  refine afun_of Tryd.func40 Tryd.call40 rfl Tryd.ntmps40 rfl ?_
  have W : Walk Tryd.prog TT 40 _ := Walk.of TT_ok Tryd.func40 Tryd.results40
  refine ce W 0 rfl rfl (k) rfl ?_
  refine ce W 0 rfl rfl (specHull_ok w r.1 r.2) rfl ?_
  refine rp W 0 rfl rfl rfl (.refl)
end Pf
/- impl's SpanMul -/
namespace Pf
open Go Go.Proofs
theorem mul1 {w X Y : Int} (hX : bitOk w X) (hY : bitOk w Y) : ∃ (i j k : Int) (p q r : Prop) (t u t' u' t'' u'' : List Int),
    AFunP Tryd.prog 58 [.int .i64 w, .int .i64 X] (· = .agg [.int .i64 i, .pr p, .fi .i64 t, .fi .i64 u]) ∧ AFunP Tryd.prog 58 [.int .i64 w, .int .i64 Y] (· = .agg [.int .i64 j, .pr q, .fi .i64 t', .fi .i64 u']) ∧
    AFunP Tryd.prog 59 [.agg [.int .i64 i, .pr p, .fi .i64 t, .fi .i64 u], .agg [.int .i64 j, .pr q, .fi .i64 t', .fi .i64 u']] (· = .agg [.int .i64 k, .pr r, .fi .i64 t'', .fi .i64 u'']) ∧
    AFunP Tryd.prog 60 [.agg [.int .i64 k, .pr r, .fi .i64 t'', .fi .i64 u''], .int .i64 w] (· = .tup [.int .i64 (mulB w X Y).1, .int .i64 (mulB w X Y).2]) := by
  have k1 := limitOf_ok w X hX
  have k2 := limitOf_ok w Y hY
  have k3 := ltimes_ok (limW w X) (limW w Y) (limW_mid hX) (limW_mid hY) (limW_rng w X) (limW_rng w Y)
  have k4 := mul_calls hX hY
  rw [limV_eq, limV_eq (limW w Y), limV_eq (ltimes _ _)] at k3
  rw [limV_eq] at k1 k2 k4
  exact ⟨_, _, _, _, _, _, _, _, _, _, _, _, k1, k2, k3, k4⟩
def mulAcc (B : Nat → Int × Int) : Nat → Int × Int
  | 0 => (0, 0)
  | 1 => B 0
  | n + 2 => (min (mulAcc B (n + 1)).1 (B (n + 1)).1, max (mulAcc B (n + 1)).2 (B (n + 1)).2)
def accR (B : Nat → Int × Int) : Nat → List AV
  | 0 => [.bool false, .int .i64 0, .int .i64 0]
  | n + 1 => [.pr True, .int .i64 (mulAcc B (n + 1)).1, .int .i64 (mulAcc B (n + 1)).2]
noncomputable def mulX (w : Int) (x y : Prop × Int × Int) (n : Nat) : Int × Int := mulB w (if n / 2 = 0 then x.2.1 else x.2.2) (if n % 2 = 0 then y.2.1 else y.2.2)
theorem mulAcc_end (w : Int) (x y : Prop × Int × Int) (h : fullS w x ∧ fullS w y) : spA (mulSp w x y) = .agg [.pr True, .int .i64 (mulAcc (mulX w x y) 4).1, .int .i64 (mulAcc (mulX w x y) 4).2] := by
  rw [mulSp, if_pos h]
  have e0 : mulX w x y 0 = mulB w x.2.1 y.2.1 := rfl
  have e1 : mulX w x y 1 = mulB w x.2.1 y.2.2 := rfl
  have e2 : mulX w x y 2 = mulB w x.2.2 y.2.1 := rfl
  have e3 : mulX w x y 3 = mulB w x.2.2 y.2.2 := rfl
  simp only [mulAcc, e0, e1, e2, e3, spA, spV]
  have m1 : ∀ a b c d : Int, min (min a b) (min c d) = min (min (min a b) c) d := by intros; omega
  have m2 : ∀ a b c d : Int, max (max a b) (max c d) = max (max (max a b) c) d := by intros; omega
  rw [m1, m2]
theorem implMul_ok (w : Int) (x y : Prop × Int × Int) : AFunP Tryd.prog 17 [.int .i64 w, spA x, spA y] (· = spA (mulSp w x y)) := by
  refine afun_of Tryd.func17 Tryd.call17 rfl Tryd.ntmps17 rfl ?_
  have W : Walk Tryd.prog TT 17 _ := Walk.of TT_ok Tryd.func17 Tryd.results17
  refine cf W 0 [3] [0, 1, 2, 4, 5, 6] rfl rfl rfl rfl rfl rfl (full2_ok w x y) rfl ?_
  refine sp W 0 rfl rfl rfl (fun h1 => ?_) (fun h1 => ?_)
  · unfold mulSp
    rw [if_neg h1]
    refine rp W 0 rfl rfl rfl (sub_noS)
  · have h1 := Classical.not_not.1 h1
    rw [mulAcc_end w x y h1]
    obtain ⟨⟨-, xa, xb, -⟩, -, ya, yb, -⟩ := h1
    refine lp W 0 (σ := Nat) (fun i => [(0, .int .i64 w), (4, .ptr 0 0 0 0), (5, .ptr 1 0 0 0), (6, .ptr 2 0 0 0), (7, .ptr 4 0 0 0), (26, .sl 5 0 0 2), (27, .int .i64 2), (28, .int .i64 i)]) (fun i => [.lst 0 [spR x], .lst 0 [spR y], .lst 0 [[.bool false, .int .i64 0, .int .i64 0]], .dead, .lst 0 [accR (mulX w x y) (2 * i)], .ints 0 .i64 [x.2.1, x.2.2]]) (fun i => 2 - i)
      (fun i => i ≤ 2) 0 [0, 4, 5, 6, 7, 26, 27, 28] rfl rfl rfl (by omega) ?_
    rintro i hi ih
    refine sp W 0 rfl rfl rfl (fun h2 => ?_) (fun h2 => ?_)
    · rcases (by omega : i = 0 ∨ i = 1) with rfl | rfl
      · refine lp W 0 (σ := Nat) (fun j => [(0, .int .i64 w), (4, .ptr 0 0 0 0), (5, .ptr 1 0 0 0), (6, .ptr 2 0 0 0), (7, .ptr 4 0 0 0), (26, .sl 5 0 0 2), (27, .int .i64 2), (28, .int .i64 ((0 : Nat) : Int)), (9, .int .i64 x.2.1), (36, .sl 6 0 0 2), (37, .int .i64 2), (38, .int .i64 j)]) (fun j => [.lst 0 [spR x], .lst 0 [spR y], .lst 0 [[.bool false, .int .i64 0, .int .i64 0]], .dead, .lst 0 [accR (mulX w x y) (2 * 0 + j)], .ints 0 .i64 [x.2.1, x.2.2], .ints 0 .i64 [y.2.1, y.2.2]]) (fun j => 2 - j)
          (fun j => j ≤ 2) 0 [0, 4, 5, 6, 7, 26, 27, 28, 9, 36, 37, 38] rfl rfl rfl (by omega) ?_
        rintro j hj jh
        refine sp W 0 rfl rfl rfl (fun h3 => ?_) (fun h3 => ?_)
        · rcases (by omega : j = 0 ∨ j = 1) with rfl | rfl
          · skip
            have hb : mulX w x y 0 = mulB w x.2.1 y.2.1 := rfl
            obtain ⟨i1, i2, i3, p1, p2, p3, t1, u1, t2, u2, t3, u3, q1, q2, q3, q4⟩ := mul1 xa ya
            rw [← hb] at q4
            generalize mulX w x y = B at *
            refine ce W 0 rfl rfl (q1) rfl ?_
            refine ce W 0 rfl rfl (q2) rfl ?_
            refine ce W 0 rfl rfl (q3) rfl ?_
            refine ce W 0 rfl rfl (q4) rfl ?_
            refine ce W 0 rfl rfl (some_ok (B 0).1 (B 0).2) rfl ?_
            refine ce W 0 rfl rfl (some_ok (min (B 0).1 (B 0).1) (max (B 0).2 (B 0).2)) rfl ?_
            rw [Int.min_self, Int.max_self]
            refine bk W 0 [0, 4, 5, 6, 7, 26, 27, 28, 9, 36, 37, 38] rfl rfl (jh 1 (by omega) (by omega))
          · skip
            have hb : mulX w x y 1 = mulB w x.2.1 y.2.2 := rfl
            obtain ⟨i1, i2, i3, p1, p2, p3, t1, u1, t2, u2, t3, u3, q1, q2, q3, q4⟩ := mul1 xa yb
            rw [← hb] at q4
            generalize mulX w x y = B at *
            refine ce W 0 rfl rfl (q1) rfl ?_
            refine ce W 0 rfl rfl (q2) rfl ?_
            refine ce W 0 rfl rfl (q3) rfl ?_
            refine ce W 0 rfl rfl (q4) rfl ?_
            refine sp W 0 rfl rfl rfl (fun hs => ?_) (fun hs => ?_)
            · exact absurd trivial hs
            refine ce W 0 rfl rfl (some_ok (mulAcc B (1 + 1)).1 (mulAcc B (1 + 1)).2) rfl ?_
            refine bk W 0 [0, 4, 5, 6, 7, 26, 27, 28, 9, 36, 37, 38] rfl rfl (jh 2 (by omega) (by omega))
        · obtain rfl : j = 2 := by omega
          refine bd W 0 6 [0, 4, 5, 6, 7, 26, 27, 28] rfl rfl rfl rfl rfl (ih 1 (by omega) (by omega))
      · refine lp W 0 (σ := Nat) (fun j => [(0, .int .i64 w), (4, .ptr 0 0 0 0), (5, .ptr 1 0 0 0), (6, .ptr 2 0 0 0), (7, .ptr 4 0 0 0), (26, .sl 5 0 0 2), (27, .int .i64 2), (28, .int .i64 ((1 : Nat) : Int)), (9, .int .i64 x.2.2), (36, .sl 6 0 0 2), (37, .int .i64 2), (38, .int .i64 j)]) (fun j => [.lst 0 [spR x], .lst 0 [spR y], .lst 0 [[.bool false, .int .i64 0, .int .i64 0]], .dead, .lst 0 [accR (mulX w x y) (2 * 1 + j)], .ints 0 .i64 [x.2.1, x.2.2], .ints 0 .i64 [y.2.1, y.2.2]]) (fun j => 2 - j)
          (fun j => j ≤ 2) 0 [0, 4, 5, 6, 7, 26, 27, 28, 9, 36, 37, 38] rfl rfl rfl (by omega) ?_
        rintro j hj jh
        refine sp W 0 rfl rfl rfl (fun h3 => ?_) (fun h3 => ?_)
        · rcases (by omega : j = 0 ∨ j = 1) with rfl | rfl
          · skip
            have hb : mulX w x y 2 = mulB w x.2.2 y.2.1 := rfl
            obtain ⟨i1, i2, i3, p1, p2, p3, t1, u1, t2, u2, t3, u3, q1, q2, q3, q4⟩ := mul1 xb ya
            rw [← hb] at q4
            generalize mulX w x y = B at *
            refine ce W 0 rfl rfl (q1) rfl ?_
            refine ce W 0 rfl rfl (q2) rfl ?_
            refine ce W 0 rfl rfl (q3) rfl ?_
            refine ce W 0 rfl rfl (q4) rfl ?_
            refine sp W 0 rfl rfl rfl (fun hs => ?_) (fun hs => ?_)
            · exact absurd trivial hs
            refine ce W 0 rfl rfl (some_ok (mulAcc B (2 + 1)).1 (mulAcc B (2 + 1)).2) rfl ?_
            refine bk W 0 [0, 4, 5, 6, 7, 26, 27, 28, 9, 36, 37, 38] rfl rfl (jh 1 (by omega) (by omega))
          · skip
            have hb : mulX w x y 3 = mulB w x.2.2 y.2.2 := rfl
            obtain ⟨i1, i2, i3, p1, p2, p3, t1, u1, t2, u2, t3, u3, q1, q2, q3, q4⟩ := mul1 xb yb
            rw [← hb] at q4
            generalize mulX w x y = B at *
            refine ce W 0 rfl rfl (q1) rfl ?_
            refine ce W 0 rfl rfl (q2) rfl ?_
            refine ce W 0 rfl rfl (q3) rfl ?_
            refine ce W 0 rfl rfl (q4) rfl ?_
            refine sp W 0 rfl rfl rfl (fun hs => ?_) (fun hs => ?_)
            · exact absurd trivial hs
            refine ce W 0 rfl rfl (some_ok (mulAcc B (3 + 1)).1 (mulAcc B (3 + 1)).2) rfl ?_
            refine bk W 0 [0, 4, 5, 6, 7, 26, 27, 28, 9, 36, 37, 38] rfl rfl (jh 2 (by omega) (by omega))
        · obtain rfl : j = 2 := by omega
          refine bd W 0 6 [0, 4, 5, 6, 7, 26, 27, 28] rfl rfl rfl rfl rfl (ih 2 (by omega) (by omega))
    · obtain rfl : i = 2 := by omega

      refine rp W 0 rfl rfl rfl (.refl)
end Pf
/- BackMul, its gap, BackTop, BackBottom on both sides -/
namespace Pf
open Go Go.Proofs
/-- A span has 0; is just 0. -/
def zeroS (x : Prop × Int × Int) : Prop := x.2.1 ≤ 0 ∧ 0 ≤ x.2.2
theorem zero_ok (x : Prop × Int × Int) : AFunP Tryd.prog 102 [spA x] (· = .pr (zeroS x)) := by
  refine afun_of Tryd.func102 Tryd.call102 rfl Tryd.ntmps102 rfl ?_
  have W : Walk Tryd.prog TT 102 _ := Walk.of TT_ok Tryd.func102 Tryd.results102
  refine sp W 0 rfl rfl rfl (fun h1 => ?_) (fun h1 => ?_)
  · refine rp W 0 rfl rfl rfl (.pr ⟨fun h => ⟨h1, h⟩, fun h => h.2⟩)
  · refine rp W 0 rfl rfl rfl (.no (fun h => h1 h.1))
theorem nought_ok (x : Prop × Int × Int) : AFunP Tryd.prog 69 [spA x] (· = .pr (x.2.1 = 0 ∧ x.2.2 = 0)) := by
  refine afun_of Tryd.func69 Tryd.call69 rfl Tryd.ntmps69 rfl ?_
  have W : Walk Tryd.prog TT 69 _ := Walk.of TT_ok Tryd.func69 Tryd.results69
  refine sp W 0 rfl rfl rfl (fun h1 => ?_) (fun h1 => ?_)
  · refine rp W 0 rfl rfl rfl (.pr ⟨fun h => ⟨h1, h⟩, fun h => h.2⟩)
  · refine rp W 0 rfl rfl rfl (.no (fun h => h1 h.1))
theorem l10Nought_ok (x : Prop × Int × Int) : AFunP Tryd.prog 101 [spA x] (· = .pr (x.1 ∧ zeroS x)) := by
  refine afun_of Tryd.func101 Tryd.call101 rfl Tryd.ntmps101 rfl ?_
  have W : Walk Tryd.prog TT 101 _ := Walk.of TT_ok Tryd.func101 Tryd.results101
  refine sp W 0 rfl rfl rfl (fun h1 => ?_) (fun h1 => ?_)
  · refine sp W 0 rfl rfl rfl (fun h2 => ?_) (fun h2 => ?_)
    · refine rp W 0 rfl rfl rfl (.pr ⟨fun h => ⟨h1, h2, h⟩, fun h => h.2.2⟩)
    · refine rp W 0 rfl rfl rfl (.no (fun h => h2 h.2.1))
  · refine rp W 0 rfl rfl rfl (.no (fun h => h1 h.1))
theorem l10Three_ok (w : Int) (x y z : Prop × Int × Int) : AFunP Tryd.prog 67 [.int .i64 w, spA x, spA y, spA z] (· = .pr (fullS w x ∧ fullS w y ∧ fullS w z)) := by
  refine afun_of Tryd.func67 Tryd.call67 rfl Tryd.ntmps67 rfl ?_
  have W : Walk Tryd.prog TT 67 _ := Walk.of TT_ok Tryd.func67 Tryd.results67
  refine ce W 0 rfl rfl (l9Both_ok w x.1 x.2.1 x.2.2 y.1 y.2.1 y.2.2) rfl ?_
  refine sp W 0 rfl rfl rfl (fun h1 => ?_) (fun h1 => ?_)
  · refine ce W 0 rfl rfl (specSpanOk_ok w z.1 z.2.1 z.2.2) rfl ?_
    refine sp W 0 rfl rfl rfl (fun h2 => ?_) (fun h2 => ?_)
    · refine rp W 0 rfl rfl rfl (.pr ⟨fun h => ⟨⟨h1.1.1, h1.2.1⟩, ⟨h1.1.2, h1.2.2⟩, fullS_iff.2 ⟨h, h2⟩⟩, fun h => h.2.2.1⟩)
    · refine rp W 0 rfl rfl rfl (.no (fun h => h2 (fullS_iff.1 h.2.2).2))
  · refine rp W 0 rfl rfl rfl (.no (fun h => h1 ⟨⟨h.1.1, h.2.1.1⟩, h.1.2, h.2.1.2⟩))
theorem backParts_ok (w : Int) (z y x : Prop × Int × Int) : AFunP Tryd.prog 103 [.int .i64 w, spA z, spA y, spA x] (· = spR2 (meetS w x (twoS w z y).1, meetS w x (twoS w z y).2)) := by
  have k := implDivTwo_ok w z y
  generalize twoS w z y = r at *
  refine afun_of Tryd.func103 Tryd.call103 rfl Tryd.ntmps103 rfl ?_
  have W : Walk Tryd.prog TT 103 _ := Walk.of TT_ok Tryd.func103 Tryd.results103
  refine ce W 0 rfl rfl (k) rfl ?_
  refine dre W 0 7 [] [spA (meetS w x r.1)] rfl rfl rfl ⟨(implMeet_ok w x r.1).at rfl _, trivial⟩ rfl ?_
  refine ce W 0 rfl rfl (implMeet_ok w x r.2) rfl ?_
  refine rp W 0 rfl rfl rfl (.refl)
open Classical in
noncomputable def backMul (w : Int) (z y x : Prop × Int × Int) : Prop × Int × Int :=
  if fullS w z ∧ fullS w y ∧ fullS w x then (if zeroS z ∧ zeroS y then x else hullS w (meetS w x (twoS w z y).1) (meetS w x (twoS w z y).2)) else noS
theorem implBackMul_ok (w : Int) (z y x : Prop × Int × Int) : AFunP Tryd.prog 46 [.int .i64 w, spA z, spA y, spA x] (· = spA (backMul w z y x)) := by
  have k := backParts_ok w z y x
  unfold backMul
  generalize meetS w x (twoS w z y).1 = p at *
  generalize meetS w x (twoS w z y).2 = q at *
  refine afun_of Tryd.func46 Tryd.call46 rfl Tryd.ntmps46 rfl ?_
  have W : Walk Tryd.prog TT 46 _ := Walk.of TT_ok Tryd.func46 Tryd.results46
  refine cf W 0 [4] [0, 1, 2, 3, 4, 5, 6, 7, 8, 9] rfl rfl rfl rfl rfl rfl (full3_ok w z y x) rfl ?_
  refine sp W 0 rfl rfl rfl (fun h1 => ?_) (fun h1 => ?_)
  · rw [if_neg h1]
    refine rp W 0 rfl rfl rfl (sub_noS)
  · rw [if_pos (Classical.not_not.1 h1)]
    refine ce W 0 rfl rfl (zero_ok z) rfl ?_
    refine sp W 0 rfl rfl rfl (fun h2 => ?_) (fun h2 => ?_)
    · refine ce W 0 rfl rfl (zero_ok y) rfl ?_
      refine sp W 0 rfl rfl rfl (fun h3 => ?_) (fun h3 => ?_)
      · rw [if_pos ⟨h2, h3⟩]
        refine rp W 0 rfl rfl rfl (.refl)
      · rw [if_neg (fun k => h3 k.2)]
        refine ce W 0 rfl rfl (k) rfl ?_
        refine ce W 0 rfl rfl (implHull_ok w p q) rfl ?_
        refine rp W 0 rfl rfl rfl (.refl)
    · rw [if_neg (fun k => h2 k.1)]
      refine ce W 0 rfl rfl (k) rfl ?_
      refine ce W 0 rfl rfl (implHull_ok w p q) rfl ?_
      refine rp W 0 rfl rfl rfl (.refl)
theorem specBackMul_ok (w : Int) (z y x : Prop × Int × Int) : AFunP Tryd.prog 45 [.int .i64 w, spA z, spA y, spA x] (· = spA (backMul w z y x)) := by
  have k := specDivTwo_ok w z y
  unfold backMul
  generalize twoS w z y = r at *
  refine afun_of Tryd.func45 Tryd.call45 rfl Tryd.ntmps45 rfl ?_
  have W : Walk Tryd.prog TT 45 _ := Walk.of TT_ok Tryd.func45 Tryd.results45
  refine ce W 0 rfl rfl (l10Three_ok w z y x) rfl ?_
  refine sp W 0 rfl rfl rfl (fun h1 => ?_) (fun h1 => ?_)
  · rw [if_neg h1]
    refine rp W 0 rfl rfl rfl (sub_noS)
  · have h1 := Classical.not_not.1 h1
    rw [if_pos h1]
    refine ce W 0 rfl rfl (l10Nought_ok z) rfl ?_
    refine sp W 0 rfl rfl rfl (fun h2 => ?_) (fun h2 => ?_)
    · refine ce W 0 rfl rfl (l10Nought_ok y) rfl ?_
      refine sp W 0 rfl rfl rfl (fun h3 => ?_) (fun h3 => ?_)
      · rw [if_pos ⟨h2.2, h3.2⟩]
        refine rp W 0 rfl rfl rfl (.refl)
      · rw [if_neg (fun k => h3 ⟨h1.2.1.1, k.2⟩)]
        refine ce W 0 rfl rfl (k) rfl ?_
        refine dre W 0 9 [] [spA (meetS w x r.1), spA (meetS w x r.2)] rfl rfl rfl ⟨(specMeet_ok w x r.1).at rfl _, (specMeet_ok w x r.2).at rfl _, trivial⟩ rfl ?_
        refine ce W 0 rfl rfl (specHull_ok w (meetS w x r.1) (meetS w x r.2)) rfl ?_
        refine rp W 0 rfl rfl rfl (.refl)
    · rw [if_neg (fun k => h2 ⟨h1.1.1, k.1⟩)]
      refine ce W 0 rfl rfl (k) rfl ?_
      refine dre W 0 9 [] [spA (meetS w x r.1), spA (meetS w x r.2)] rfl rfl rfl ⟨(specMeet_ok w x r.1).at rfl _, (specMeet_ok w x r.2).at rfl _, trivial⟩ rfl ?_
      refine ce W 0 rfl rfl (specHull_ok w (meetS w x r.1) (meetS w x r.2)) rfl ?_
      refine rp W 0 rfl rfl rfl (.refl)
open Classical in
/-- The gap: whether there is one, its bounds. -/
noncomputable def gapS (w : Int) (z y x : Prop × Int × Int) : Prop × Int × Int :=
  if fullS w z ∧ fullS w y ∧ fullS w x then (if zeroS z ∧ zeroS y then noS else if (meetS w x (twoS w z y).1).1 ∧ (meetS w x (twoS w z y).2).1 then (True, (meetS w x (twoS w z y).1).2.2, (meetS w x (twoS w z y).2).2.1) else noS) else noS
abbrev gapA (g : Prop × Int × Int) : AV := .tup [.agg [.int .i64 g.2.1, .int .i64 g.2.2], .pr g.1]
theorem sub_gap : Sub (.tup [.agg [.int .i64 0, .int .i64 0], .bool false]) (gapA noS) := .tup ⟨.agg ⟨.refl, .refl, trivial⟩, .no id, trivial⟩
theorem implGap_ok (w : Int) (z y x : Prop × Int × Int) : AFunP Tryd.prog 43 [.int .i64 w, spA z, spA y, spA x] (· = gapA (gapS w z y x)) := by
  have k := backParts_ok w z y x
  unfold gapS
  generalize meetS w x (twoS w z y).1 = p at *
  generalize meetS w x (twoS w z y).2 = q at *
  refine afun_of Tryd.func43 Tryd.call43 rfl Tryd.ntmps43 rfl ?_
  have W : Walk Tryd.prog TT 43 _ := Walk.of TT_ok Tryd.func43 Tryd.results43
  refine cf W 0 [4] [0, 1, 2, 3, 4, 5, 6, 7, 8, 9] rfl rfl rfl rfl rfl rfl (full3_ok w z y x) rfl ?_
  refine sp W 0 rfl rfl rfl (fun h1 => ?_) (fun h1 => ?_)
  · rw [if_neg h1]
    refine rp W 0 rfl rfl rfl (sub_gap)
  · rw [if_pos (Classical.not_not.1 h1)]
    refine ce W 0 rfl rfl (zero_ok z) rfl ?_
    refine sp W 0 rfl rfl rfl (fun h2 => ?_) (fun h2 => ?_)
    · refine ce W 0 rfl rfl (zero_ok y) rfl ?_
      refine sp W 0 rfl rfl rfl (fun h3 => ?_) (fun h3 => ?_)
      · rw [if_pos ⟨h2, h3⟩]
        refine rp W 0 rfl rfl rfl (sub_gap)
      · rw [if_neg (fun k => h3 k.2)]
        refine ce W 0 rfl rfl (k) rfl ?_
        refine sp W 0 rfl rfl rfl (fun h4 => ?_) (fun h4 => ?_)
        · rw [if_neg (fun k => h4 k.1)]
          refine rp W 0 rfl rfl rfl (sub_gap)
        · refine sp W 0 rfl rfl rfl (fun h5 => ?_) (fun h5 => ?_)
          · rw [if_neg (fun k => h5 k.2)]
            refine rp W 0 rfl rfl rfl (sub_gap)
          · rw [if_pos ⟨Classical.not_not.1 h4, Classical.not_not.1 h5⟩]
            refine rp W 0 rfl rfl rfl (.tup ⟨.refl, .yes trivial, trivial⟩)
    · rw [if_neg (fun k => h2 k.1)]
      refine ce W 0 rfl rfl (k) rfl ?_
      refine sp W 0 rfl rfl rfl (fun h4 => ?_) (fun h4 => ?_)
      · rw [if_neg (fun k => h4 k.1)]
        refine rp W 0 rfl rfl rfl (sub_gap)
      · refine sp W 0 rfl rfl rfl (fun h5 => ?_) (fun h5 => ?_)
        · rw [if_neg (fun k => h5 k.2)]
          refine rp W 0 rfl rfl rfl (sub_gap)
        · rw [if_pos ⟨Classical.not_not.1 h4, Classical.not_not.1 h5⟩]
          refine rp W 0 rfl rfl rfl (.tup ⟨.refl, .yes trivial, trivial⟩)
theorem specGap_ok (w : Int) (z y x : Prop × Int × Int) : AFunP Tryd.prog 42 [.int .i64 w, spA z, spA y, spA x] (· = gapA (gapS w z y x)) := by
  have k := specDivTwo_ok w z y
  unfold gapS
  generalize twoS w z y = r at *
  have k1 := specMeet_ok w x r.1
  have k2 := specMeet_ok w x r.2
  generalize meetS w x r.1 = p at *
  generalize meetS w x r.2 = q at *
  refine afun_of Tryd.func42 Tryd.call42 rfl Tryd.ntmps42 rfl ?_
  have W : Walk Tryd.prog TT 42 _ := Walk.of TT_ok Tryd.func42 Tryd.results42
  refine ce W 0 rfl rfl (l10Three_ok w z y x) rfl ?_
  refine sp W 0 rfl rfl rfl (fun h1 => ?_) (fun h1 => ?_)
  · rw [if_neg h1]
    refine rp W 0 rfl rfl rfl (sub_gap)
  · have h1 := Classical.not_not.1 h1
    rw [if_pos h1]
    refine ce W 0 rfl rfl (l10Nought_ok z) rfl ?_
    refine sp W 0 rfl rfl rfl (fun h2 => ?_) (fun h2 => ?_)
    · refine ce W 0 rfl rfl (l10Nought_ok y) rfl ?_
      refine sp W 0 rfl rfl rfl (fun h3 => ?_) (fun h3 => ?_)
      · rw [if_pos ⟨h2.2, h3.2⟩]
        refine rp W 0 rfl rfl rfl (sub_gap)
      · rw [if_neg (fun k => h3 ⟨h1.2.1.1, k.2⟩)]
        refine ce W 0 rfl rfl (k) rfl ?_
        refine ce W 0 rfl rfl (k1) rfl ?_
        refine ce W 0 rfl rfl (k2) rfl ?_
        refine sp W 0 rfl rfl rfl (fun h4 => ?_) (fun h4 => ?_)
        · rw [if_neg (fun k => h4 k.1)]
          refine rp W 0 rfl rfl rfl (sub_gap)
        · refine sp W 0 rfl rfl rfl (fun h5 => ?_) (fun h5 => ?_)
          · rw [if_neg (fun k => h5 k.2)]
            refine rp W 0 rfl rfl rfl (sub_gap)
          · rw [if_pos ⟨Classical.not_not.1 h4, Classical.not_not.1 h5⟩]
            refine rp W 0 rfl rfl rfl (.tup ⟨.refl, .yes trivial, trivial⟩)
    · rw [if_neg (fun k => h2 ⟨h1.1.1, k.1⟩)]
      refine ce W 0 rfl rfl (k) rfl ?_
      refine ce W 0 rfl rfl (k1) rfl ?_
      refine ce W 0 rfl rfl (k2) rfl ?_
      refine sp W 0 rfl rfl rfl (fun h4 => ?_) (fun h4 => ?_)
      · rw [if_neg (fun k => h4 k.1)]
        refine rp W 0 rfl rfl rfl (sub_gap)
      · refine sp W 0 rfl rfl rfl (fun h5 => ?_) (fun h5 => ?_)
        · rw [if_neg (fun k => h5 k.2)]
          refine rp W 0 rfl rfl rfl (sub_gap)
        · rw [if_pos ⟨Classical.not_not.1 h4, Classical.not_not.1 h5⟩]
          refine rp W 0 rfl rfl rfl (.tup ⟨.refl, .yes trivial, trivial⟩)
open Classical in
noncomputable def backTop (w : Int) (z y x : Prop × Int × Int) : Prop × Int × Int :=
  if fullS w z ∧ fullS w y ∧ fullS w x then (if y.2.1 = 0 ∧ y.2.2 = 0 then noS else meetS w x (mulSp w z y)) else noS
theorem implBackTop_ok (w : Int) (z y x : Prop × Int × Int) : AFunP Tryd.prog 24 [.int .i64 w, spA z, spA y, spA x] (· = spA (backTop w z y x)) := by
  have k := implMul_ok w z y
  unfold backTop
  generalize mulSp w z y = r at *
  refine afun_of Tryd.func24 Tryd.call24 rfl Tryd.ntmps24 rfl ?_
  have W : Walk Tryd.prog TT 24 _ := Walk.of TT_ok Tryd.func24 Tryd.results24
  refine cf W 0 [4] [0, 1, 2, 3, 4, 5, 6, 7, 8, 9] rfl rfl rfl rfl rfl rfl (full3_ok w z y x) rfl ?_
  refine sp W 0 rfl rfl rfl (fun h1 => ?_) (fun h1 => ?_)
  · rw [if_neg h1]
    refine rp W 0 rfl rfl rfl (sub_noS)
  · rw [if_pos (Classical.not_not.1 h1)]
    refine ce W 0 rfl rfl (nought_ok y) rfl ?_
    refine sp W 0 rfl rfl rfl (fun h2 => ?_) (fun h2 => ?_)
    · rw [if_pos h2]
      refine rp W 0 rfl rfl rfl (sub_noS)
    · rw [if_neg h2]
      refine dre W 0 6 [] [spA r] rfl rfl rfl ⟨k.at rfl _, trivial⟩ rfl ?_
      refine ce W 0 rfl rfl (implMeet_ok w x r) rfl ?_
      refine rp W 0 rfl rfl rfl (.refl)
theorem specBackTop_ok (w : Int) (z y x : Prop × Int × Int) : AFunP Tryd.prog 23 [.int .i64 w, spA z, spA y, spA x] (· = spA (backTop w z y x)) := by
  have k := specMul_ok w z y
  unfold backTop
  generalize mulSp w z y = r at *
  refine afun_of Tryd.func23 Tryd.call23 rfl Tryd.ntmps23 rfl ?_
  have W : Walk Tryd.prog TT 23 _ := Walk.of TT_ok Tryd.func23 Tryd.results23
  refine ce W 0 rfl rfl (l10Three_ok w z y x) rfl ?_
  refine sp W 0 rfl rfl rfl (fun h1 => ?_) (fun h1 => ?_)
  · rw [if_neg h1]
    refine rp W 0 rfl rfl rfl (sub_noS)
  · rw [if_pos (Classical.not_not.1 h1)]
    refine sp W 0 rfl rfl rfl (fun h2 => ?_) (fun h2 => ?_)
    · refine sp W 0 rfl rfl rfl (fun h3 => ?_) (fun h3 => ?_)
      · rw [if_pos ⟨h2, h3⟩]
        refine rp W 0 rfl rfl rfl (sub_noS)
      · rw [if_neg (fun k => h3 k.2)]
        refine dre W 0 6 [] [spA r] rfl rfl rfl ⟨k.at rfl _, trivial⟩ rfl ?_
        refine ce W 0 rfl rfl (specMeet_ok w x r) rfl ?_
        refine rp W 0 rfl rfl rfl (.refl)
    · rw [if_neg (fun k => h2 k.1)]
      refine dre W 0 6 [] [spA r] rfl rfl rfl ⟨k.at rfl _, trivial⟩ rfl ?_
      refine ce W 0 rfl rfl (specMeet_ok w x r) rfl ?_
      refine rp W 0 rfl rfl rfl (.refl)
open Classical in
noncomputable def backBot (w : Int) (z x y : Prop × Int × Int) : Prop × Int × Int :=
  if fullS w z ∧ fullS w x ∧ fullS w y then (if y.2.1 = 0 ∧ y.2.2 = 0 then noS else backMul w x z y) else noS
theorem implBackBot_ok (w : Int) (z x y : Prop × Int × Int) : AFunP Tryd.prog 48 [.int .i64 w, spA z, spA x, spA y] (· = spA (backBot w z x y)) := by
  have k := implBackMul_ok w x z y
  unfold backBot
  generalize backMul w x z y = r at *
  refine afun_of Tryd.func48 Tryd.call48 rfl Tryd.ntmps48 rfl ?_
  have W : Walk Tryd.prog TT 48 _ := Walk.of TT_ok Tryd.func48 Tryd.results48
  refine cf W 0 [4] [0, 1, 2, 3, 4, 5, 6, 7, 8, 9] rfl rfl rfl rfl rfl rfl (full3_ok w z x y) rfl ?_
  refine sp W 0 rfl rfl rfl (fun h1 => ?_) (fun h1 => ?_)
  · rw [if_neg h1]
    refine rp W 0 rfl rfl rfl (sub_noS)
  · rw [if_pos (Classical.not_not.1 h1)]
    refine ce W 0 rfl rfl (nought_ok y) rfl ?_
    refine sp W 0 rfl rfl rfl (fun h2 => ?_) (fun h2 => ?_)
    · rw [if_pos h2]
      refine rp W 0 rfl rfl rfl (sub_noS)
    · rw [if_neg h2]
      refine ce W 0 rfl rfl (k) rfl ?_
      refine rp W 0 rfl rfl rfl (.refl)
theorem specBackBot_ok (w : Int) (z x y : Prop × Int × Int) : AFunP Tryd.prog 47 [.int .i64 w, spA z, spA x, spA y] (· = spA (backBot w z x y)) := by
  have k := specBackMul_ok w x z y
  unfold backBot
  generalize backMul w x z y = r at *
  refine afun_of Tryd.func47 Tryd.call47 rfl Tryd.ntmps47 rfl ?_
  have W : Walk Tryd.prog TT 47 _ := Walk.of TT_ok Tryd.func47 Tryd.results47
  refine ce W 0 rfl rfl (l10Three_ok w z x y) rfl ?_
  refine sp W 0 rfl rfl rfl (fun h1 => ?_) (fun h1 => ?_)
  · rw [if_neg h1]
    refine rp W 0 rfl rfl rfl (sub_noS)
  · rw [if_pos (Classical.not_not.1 h1)]
    refine sp W 0 rfl rfl rfl (fun h2 => ?_) (fun h2 => ?_)
    · refine sp W 0 rfl rfl rfl (fun h3 => ?_) (fun h3 => ?_)
      · rw [if_pos ⟨h2, h3⟩]
        refine rp W 0 rfl rfl rfl (sub_noS)
      · rw [if_neg (fun k => h3 k.2)]
        refine ce W 0 rfl rfl (k) rfl ?_
        refine rp W 0 rfl rfl rfl (.refl)
    · rw [if_neg (fun k => h2 k.1)]
      refine ce W 0 rfl rfl (k) rfl ?_
      refine rp W 0 rfl rfl rfl (.refl)
end Pf
/- The laws of SpanMul, SpanDiv, SpanDivTwo, BackMul, BackMulGap, BackTop, BackBottom -/
namespace Pf
open Go Go.Proofs
theorem eqPair_ok (a b c d : Int) : AFunP Tryd.prog 44 [.agg [.int .i64 a, .int .i64 b], .agg [.int .i64 c, .int .i64 d]] (· = .pr (a = c ∧ b = d)) := by
  refine afun_of Tryd.func44 Tryd.call44 rfl Tryd.ntmps44 rfl ?_
  have W : Walk Tryd.prog TT 44 _ := Walk.of TT_ok Tryd.func44 Tryd.results44
  refine sp W 0 rfl rfl rfl (fun h1 => ?_) (fun h1 => ?_)
  · refine rp W 0 rfl rfl rfl (.no (fun h => h1 h.1))
  refine sp W 0 rfl rfl rfl (fun h2 => ?_) (fun h2 => ?_)
  · refine rp W 0 rfl rfl rfl (.no (fun h => h2 h.2))
  refine rp W 0 rfl rfl rfl (.yes ⟨Classical.not_not.1 h1, Classical.not_not.1 h2⟩)
theorem fnExactSpanMul_law (w : Int) (s : Prop) (a b : Int) (t : Prop) (c d : Int) : AFunP Tryd.prog 3 [.int .i64 w, spV s a b, spV t c d] (· = .pr True) := by
  have k1 := specMul_ok w (s, a, b) (t, c, d)
  have k2 := implMul_ok w (s, a, b) (t, c, d)
  generalize mulSp w (s, a, b) (t, c, d) = r at k1 k2
  have k3 := toSpan_ok s a b
  have k4 := toSpan_ok t c d
  refine afun_of Tryd.func3 Tryd.call3 rfl Tryd.ntmps3 rfl ?_
  have W : Walk Tryd.prog TT 3 _ := Walk.of TT_ok Tryd.func3 Tryd.results3
  refine phg W 0 7 [6] rfl rfl (fun PW => ?_)
  refine pho PW 0 6 [] [spV s a b, spV t c d, spA r] rfl rfl ⟨k3.at rfl _, k4.at rfl _, k1.at rfl _, trivial⟩ rfl rfl ?_
  refine phe PW 0 [] [spV s a b, spV t c d, spA r] rfl ⟨k3.at rfl _, k4.at rfl _, k1.at rfl _, trivial⟩ rfl ?_
  refine phg W 0 7 [6] rfl rfl (fun PW => ?_)
  refine pho PW 0 6 [] [spV s a b, spV t c d, spA r] rfl rfl ⟨k3.at rfl _, k4.at rfl _, k2.at rfl _, trivial⟩ rfl rfl ?_
  refine phe PW 0 [] [spV s a b, spV t c d, spA r] rfl ⟨k3.at rfl _, k4.at rfl _, k2.at rfl _, trivial⟩ rfl ?_
  refine ce W 0 rfl rfl (eqSpan_ok r.1 r.2.1 r.2.2 r.1 r.2.1 r.2.2) rfl ?_
  refine sp W 0 rfl rfl rfl (fun h1 => ?_) (fun h1 => ?_)
  · exact absurd ⟨Iff.rfl, rfl, rfl⟩ h1
  refine rp W 0 rfl rfl rfl (.yes trivial)
theorem fnExactSpanDiv_law (w : Int) (s : Prop) (a b : Int) (t : Prop) (c d : Int) : AFunP Tryd.prog 10 [.int .i64 w, spV s a b, spV t c d] (· = .pr True) := by
  have k1 := specDiv_ok w (s, a, b) (t, c, d)
  have k2 := implDiv_ok w (s, a, b) (t, c, d)
  generalize divSp w (s, a, b) (t, c, d) = r at k1 k2
  have k3 := toSpan_ok s a b
  have k4 := toSpan_ok t c d
  refine afun_of Tryd.func10 Tryd.call10 rfl Tryd.ntmps10 rfl ?_
  have W : Walk Tryd.prog TT 10 _ := Walk.of TT_ok Tryd.func10 Tryd.results10
  refine phg W 0 7 [6] rfl rfl (fun PW => ?_)
  refine pho PW 0 6 [] [spV s a b, spV t c d, spA r] rfl rfl ⟨k3.at rfl _, k4.at rfl _, k1.at rfl _, trivial⟩ rfl rfl ?_
  refine phe PW 0 [] [spV s a b, spV t c d, spA r] rfl ⟨k3.at rfl _, k4.at rfl _, k1.at rfl _, trivial⟩ rfl ?_
  refine phg W 0 7 [6] rfl rfl (fun PW => ?_)
  refine pho PW 0 6 [] [spV s a b, spV t c d, spA r] rfl rfl ⟨k3.at rfl _, k4.at rfl _, k2.at rfl _, trivial⟩ rfl rfl ?_
  refine phe PW 0 [] [spV s a b, spV t c d, spA r] rfl ⟨k3.at rfl _, k4.at rfl _, k2.at rfl _, trivial⟩ rfl ?_
  refine ce W 0 rfl rfl (eqSpan_ok r.1 r.2.1 r.2.2 r.1 r.2.1 r.2.2) rfl ?_
  refine sp W 0 rfl rfl rfl (fun h1 => ?_) (fun h1 => ?_)
  · exact absurd ⟨Iff.rfl, rfl, rfl⟩ h1
  refine rp W 0 rfl rfl rfl (.yes trivial)
theorem fnExactSpanDivTwo_law (w : Int) (s : Prop) (a b : Int) (t : Prop) (c d : Int) : AFunP Tryd.prog 9 [.int .i64 w, spV s a b, spV t c d] (· = .pr True) := by
  have k1 := specDivTwo_ok w (s, a, b) (t, c, d)
  have k2 := implDivTwo_ok w (s, a, b) (t, c, d)
  generalize twoS w (s, a, b) (t, c, d) = r at k1 k2
  have k3 := toSpan_ok s a b
  have k4 := toSpan_ok t c d
  refine afun_of Tryd.func9 Tryd.call9 rfl Tryd.ntmps9 rfl ?_
  have W : Walk Tryd.prog TT 9 _ := Walk.of TT_ok Tryd.func9 Tryd.results9
  refine phg W 0 12 [9, 10, 11] rfl rfl (fun PW => ?_)
  refine phf PW 0 9 10 [] [spV s a b, spV t c d, spR2 r] rfl rfl ⟨k3.at rfl _, k4.at rfl _, k1.at rfl _, trivial⟩ rfl rfl rfl rfl ?_ ?_
  · refine pho PW 0 10 [] [spV s a b, spV t c d, spR2 r] rfl rfl ⟨k3.at rfl _, k4.at rfl _, k1.at rfl _, trivial⟩ rfl rfl ?_
    refine pho PW 0 11 [] [spV s a b, spV t c d, spR2 r] rfl rfl ⟨k3.at rfl _, k4.at rfl _, k1.at rfl _, trivial⟩ rfl rfl ?_
    refine phe PW 0 [] [] rfl trivial rfl ?_
    refine phg W 0 12 [9, 10, 11] rfl rfl (fun PW => ?_)
    refine phf PW 0 9 10 [] [spV s a b, spV t c d, spR2 r] rfl rfl ⟨k3.at rfl _, k4.at rfl _, k2.at rfl _, trivial⟩ rfl rfl rfl rfl ?_ ?_
    · refine pho PW 0 10 [] [spV s a b, spV t c d, spR2 r] rfl rfl ⟨k3.at rfl _, k4.at rfl _, k2.at rfl _, trivial⟩ rfl rfl ?_
      refine pho PW 0 11 [] [spV s a b, spV t c d, spR2 r] rfl rfl ⟨k3.at rfl _, k4.at rfl _, k2.at rfl _, trivial⟩ rfl rfl ?_
      refine phe PW 0 [] [] rfl trivial rfl ?_
      refine ce W 0 rfl rfl (eqSpan_ok r.1.1 r.1.2.1 r.1.2.2 r.1.1 r.1.2.1 r.1.2.2) rfl ?_
      refine sp W 0 rfl rfl rfl (fun h1 => ?_) (fun h1 => ?_)
      · exact absurd ⟨Iff.rfl, rfl, rfl⟩ h1
      refine ce W 0 rfl rfl (eqSpan_ok r.2.1 r.2.2.1 r.2.2.2 r.2.1 r.2.2.1 r.2.2.2) rfl ?_
      refine sp W 0 rfl rfl rfl (fun h2 => ?_) (fun h2 => ?_)
      · exact absurd ⟨Iff.rfl, rfl, rfl⟩ h2
      refine rp W 0 rfl rfl rfl (.yes trivial)
    · refine pho PW 0 9 [] [spV s a b, spV t c d, spR2 r] rfl rfl ⟨k3.at rfl _, k4.at rfl _, k2.at rfl _, trivial⟩ rfl rfl ?_
      refine pho PW 0 11 [] [spV s a b, spV t c d, spR2 r] rfl rfl ⟨k3.at rfl _, k4.at rfl _, k2.at rfl _, trivial⟩ rfl rfl ?_
      refine phe PW 0 [] [] rfl trivial rfl ?_
      refine ce W 0 rfl rfl (eqSpan_ok r.1.1 r.1.2.1 r.1.2.2 r.1.1 r.1.2.1 r.1.2.2) rfl ?_
      refine sp W 0 rfl rfl rfl (fun h1 => ?_) (fun h1 => ?_)
      · exact absurd ⟨Iff.rfl, rfl, rfl⟩ h1
      refine ce W 0 rfl rfl (eqSpan_ok r.2.1 r.2.2.1 r.2.2.2 r.2.1 r.2.2.1 r.2.2.2) rfl ?_
      refine sp W 0 rfl rfl rfl (fun h2 => ?_) (fun h2 => ?_)
      · exact absurd ⟨Iff.rfl, rfl, rfl⟩ h2
      refine rp W 0 rfl rfl rfl (.yes trivial)
  · refine pho PW 0 9 [] [spV s a b, spV t c d, spR2 r] rfl rfl ⟨k3.at rfl _, k4.at rfl _, k1.at rfl _, trivial⟩ rfl rfl ?_
    refine pho PW 0 11 [] [spV s a b, spV t c d, spR2 r] rfl rfl ⟨k3.at rfl _, k4.at rfl _, k1.at rfl _, trivial⟩ rfl rfl ?_
    refine phe PW 0 [] [] rfl trivial rfl ?_
    refine phg W 0 12 [9, 10, 11] rfl rfl (fun PW => ?_)
    refine phf PW 0 9 10 [] [spV s a b, spV t c d, spR2 r] rfl rfl ⟨k3.at rfl _, k4.at rfl _, k2.at rfl _, trivial⟩ rfl rfl rfl rfl ?_ ?_
    · refine pho PW 0 10 [] [spV s a b, spV t c d, spR2 r] rfl rfl ⟨k3.at rfl _, k4.at rfl _, k2.at rfl _, trivial⟩ rfl rfl ?_
      refine pho PW 0 11 [] [spV s a b, spV t c d, spR2 r] rfl rfl ⟨k3.at rfl _, k4.at rfl _, k2.at rfl _, trivial⟩ rfl rfl ?_
      refine phe PW 0 [] [] rfl trivial rfl ?_
      refine ce W 0 rfl rfl (eqSpan_ok r.1.1 r.1.2.1 r.1.2.2 r.1.1 r.1.2.1 r.1.2.2) rfl ?_
      refine sp W 0 rfl rfl rfl (fun h1 => ?_) (fun h1 => ?_)
      · exact absurd ⟨Iff.rfl, rfl, rfl⟩ h1
      refine ce W 0 rfl rfl (eqSpan_ok r.2.1 r.2.2.1 r.2.2.2 r.2.1 r.2.2.1 r.2.2.2) rfl ?_
      refine sp W 0 rfl rfl rfl (fun h2 => ?_) (fun h2 => ?_)
      · exact absurd ⟨Iff.rfl, rfl, rfl⟩ h2
      refine rp W 0 rfl rfl rfl (.yes trivial)
    · refine pho PW 0 9 [] [spV s a b, spV t c d, spR2 r] rfl rfl ⟨k3.at rfl _, k4.at rfl _, k2.at rfl _, trivial⟩ rfl rfl ?_
      refine pho PW 0 11 [] [spV s a b, spV t c d, spR2 r] rfl rfl ⟨k3.at rfl _, k4.at rfl _, k2.at rfl _, trivial⟩ rfl rfl ?_
      refine phe PW 0 [] [] rfl trivial rfl ?_
      refine ce W 0 rfl rfl (eqSpan_ok r.1.1 r.1.2.1 r.1.2.2 r.1.1 r.1.2.1 r.1.2.2) rfl ?_
      refine sp W 0 rfl rfl rfl (fun h1 => ?_) (fun h1 => ?_)
      · exact absurd ⟨Iff.rfl, rfl, rfl⟩ h1
      refine ce W 0 rfl rfl (eqSpan_ok r.2.1 r.2.2.1 r.2.2.2 r.2.1 r.2.2.1 r.2.2.2) rfl ?_
      refine sp W 0 rfl rfl rfl (fun h2 => ?_) (fun h2 => ?_)
      · exact absurd ⟨Iff.rfl, rfl, rfl⟩ h2
      refine rp W 0 rfl rfl rfl (.yes trivial)
theorem fnExactBackMul_law (w : Int) (s : Prop) (a b : Int) (t : Prop) (c d : Int) (u : Prop) (e f : Int) : AFunP Tryd.prog 12 [.int .i64 w, spV s a b, spV t c d, spV u e f] (· = .pr True) := by
  have k1 := specBackMul_ok w (s, a, b) (t, c, d) (u, e, f)
  have k2 := implBackMul_ok w (s, a, b) (t, c, d) (u, e, f)
  generalize backMul w (s, a, b) (t, c, d) (u, e, f) = r at k1 k2
  have k3 := toSpan_ok s a b
  have k4 := toSpan_ok t c d
  have k5 := toSpan_ok u e f
  refine afun_of Tryd.func12 Tryd.call12 rfl Tryd.ntmps12 rfl ?_
  have W : Walk Tryd.prog TT 12 _ := Walk.of TT_ok Tryd.func12 Tryd.results12
  refine phg W 0 9 [8] rfl rfl (fun PW => ?_)
  refine pho PW 0 8 [] [spV s a b, spV t c d, spV u e f, spA r] rfl rfl ⟨k3.at rfl _, k4.at rfl _, k5.at rfl _, k1.at rfl _, trivial⟩ rfl rfl ?_
  refine phe PW 0 [] [spV s a b, spV t c d, spV u e f, spA r] rfl ⟨k3.at rfl _, k4.at rfl _, k5.at rfl _, k1.at rfl _, trivial⟩ rfl ?_
  refine phg W 0 9 [8] rfl rfl (fun PW => ?_)
  refine pho PW 0 8 [] [spV s a b, spV t c d, spV u e f, spA r] rfl rfl ⟨k3.at rfl _, k4.at rfl _, k5.at rfl _, k2.at rfl _, trivial⟩ rfl rfl ?_
  refine phe PW 0 [] [spV s a b, spV t c d, spV u e f, spA r] rfl ⟨k3.at rfl _, k4.at rfl _, k5.at rfl _, k2.at rfl _, trivial⟩ rfl ?_
  refine ce W 0 rfl rfl (eqSpan_ok r.1 r.2.1 r.2.2 r.1 r.2.1 r.2.2) rfl ?_
  refine sp W 0 rfl rfl rfl (fun h1 => ?_) (fun h1 => ?_)
  · exact absurd ⟨Iff.rfl, rfl, rfl⟩ h1
  refine rp W 0 rfl rfl rfl (.yes trivial)
theorem fnExactBackTop_law (w : Int) (s : Prop) (a b : Int) (t : Prop) (c d : Int) (u : Prop) (e f : Int) : AFunP Tryd.prog 6 [.int .i64 w, spV s a b, spV t c d, spV u e f] (· = .pr True) := by
  have k1 := specBackTop_ok w (s, a, b) (t, c, d) (u, e, f)
  have k2 := implBackTop_ok w (s, a, b) (t, c, d) (u, e, f)
  generalize backTop w (s, a, b) (t, c, d) (u, e, f) = r at k1 k2
  have k3 := toSpan_ok s a b
  have k4 := toSpan_ok t c d
  have k5 := toSpan_ok u e f
  refine afun_of Tryd.func6 Tryd.call6 rfl Tryd.ntmps6 rfl ?_
  have W : Walk Tryd.prog TT 6 _ := Walk.of TT_ok Tryd.func6 Tryd.results6
  refine phg W 0 9 [8] rfl rfl (fun PW => ?_)
  refine pho PW 0 8 [] [spV s a b, spV t c d, spV u e f, spA r] rfl rfl ⟨k3.at rfl _, k4.at rfl _, k5.at rfl _, k1.at rfl _, trivial⟩ rfl rfl ?_
  refine phe PW 0 [] [spV s a b, spV t c d, spV u e f, spA r] rfl ⟨k3.at rfl _, k4.at rfl _, k5.at rfl _, k1.at rfl _, trivial⟩ rfl ?_
  refine phg W 0 9 [8] rfl rfl (fun PW => ?_)
  refine pho PW 0 8 [] [spV s a b, spV t c d, spV u e f, spA r] rfl rfl ⟨k3.at rfl _, k4.at rfl _, k5.at rfl _, k2.at rfl _, trivial⟩ rfl rfl ?_
  refine phe PW 0 [] [spV s a b, spV t c d, spV u e f, spA r] rfl ⟨k3.at rfl _, k4.at rfl _, k5.at rfl _, k2.at rfl _, trivial⟩ rfl ?_
  refine ce W 0 rfl rfl (eqSpan_ok r.1 r.2.1 r.2.2 r.1 r.2.1 r.2.2) rfl ?_
  refine sp W 0 rfl rfl rfl (fun h1 => ?_) (fun h1 => ?_)
  · exact absurd ⟨Iff.rfl, rfl, rfl⟩ h1
  refine rp W 0 rfl rfl rfl (.yes trivial)
theorem fnExactBackBottom_law (w : Int) (s : Prop) (a b : Int) (t : Prop) (c d : Int) (u : Prop) (e f : Int) : AFunP Tryd.prog 13 [.int .i64 w, spV s a b, spV t c d, spV u e f] (· = .pr True) := by
  have k1 := specBackBot_ok w (s, a, b) (t, c, d) (u, e, f)
  have k2 := implBackBot_ok w (s, a, b) (t, c, d) (u, e, f)
  generalize backBot w (s, a, b) (t, c, d) (u, e, f) = r at k1 k2
  have k3 := toSpan_ok s a b
  have k4 := toSpan_ok t c d
  have k5 := toSpan_ok u e f
  refine afun_of Tryd.func13 Tryd.call13 rfl Tryd.ntmps13 rfl ?_
  have W : Walk Tryd.prog TT 13 _ := Walk.of TT_ok Tryd.func13 Tryd.results13
  refine phg W 0 9 [8] rfl rfl (fun PW => ?_)
  refine pho PW 0 8 [] [spV s a b, spV t c d, spV u e f, spA r] rfl rfl ⟨k3.at rfl _, k4.at rfl _, k5.at rfl _, k1.at rfl _, trivial⟩ rfl rfl ?_
  refine phe PW 0 [] [spV s a b, spV t c d, spV u e f, spA r] rfl ⟨k3.at rfl _, k4.at rfl _, k5.at rfl _, k1.at rfl _, trivial⟩ rfl ?_
  refine phg W 0 9 [8] rfl rfl (fun PW => ?_)
  refine pho PW 0 8 [] [spV s a b, spV t c d, spV u e f, spA r] rfl rfl ⟨k3.at rfl _, k4.at rfl _, k5.at rfl _, k2.at rfl _, trivial⟩ rfl rfl ?_
  refine phe PW 0 [] [spV s a b, spV t c d, spV u e f, spA r] rfl ⟨k3.at rfl _, k4.at rfl _, k5.at rfl _, k2.at rfl _, trivial⟩ rfl ?_
  refine ce W 0 rfl rfl (eqSpan_ok r.1 r.2.1 r.2.2 r.1 r.2.1 r.2.2) rfl ?_
  refine sp W 0 rfl rfl rfl (fun h1 => ?_) (fun h1 => ?_)
  · exact absurd ⟨Iff.rfl, rfl, rfl⟩ h1
  refine rp W 0 rfl rfl rfl (.yes trivial)
theorem fnExactBackMulGap_law (w : Int) (s : Prop) (a b : Int) (t : Prop) (c d : Int) (u : Prop) (e f : Int) : AFunP Tryd.prog 11 [.int .i64 w, spV s a b, spV t c d, spV u e f] (· = .pr True) := by
  have k1 := specGap_ok w (s, a, b) (t, c, d) (u, e, f)
  have k2 := implGap_ok w (s, a, b) (t, c, d) (u, e, f)
  generalize gapS w (s, a, b) (t, c, d) (u, e, f) = r at k1 k2
  have k3 := toSpan_ok s a b
  have k4 := toSpan_ok t c d
  have k5 := toSpan_ok u e f
  refine afun_of Tryd.func11 Tryd.call11 rfl Tryd.ntmps11 rfl ?_
  have W : Walk Tryd.prog TT 11 _ := Walk.of TT_ok Tryd.func11 Tryd.results11
  refine phg W 0 13 [11, 12] rfl rfl (fun PW => ?_)
  refine pho PW 0 11 [] [spV s a b, spV t c d, spV u e f, gapA r] rfl rfl ⟨k3.at rfl _, k4.at rfl _, k5.at rfl _, k1.at rfl _, trivial⟩ rfl rfl ?_
  refine pho PW 0 12 [] [spV s a b, spV t c d, spV u e f, gapA r] rfl rfl ⟨k3.at rfl _, k4.at rfl _, k5.at rfl _, k1.at rfl _, trivial⟩ rfl rfl ?_
  refine phe PW 0 [] [] rfl trivial rfl ?_
  refine phg W 0 13 [11, 12] rfl rfl (fun PW => ?_)
  refine pho PW 0 11 [] [spV s a b, spV t c d, spV u e f, gapA r] rfl rfl ⟨k3.at rfl _, k4.at rfl _, k5.at rfl _, k2.at rfl _, trivial⟩ rfl rfl ?_
  refine pho PW 0 12 [] [spV s a b, spV t c d, spV u e f, gapA r] rfl rfl ⟨k3.at rfl _, k4.at rfl _, k5.at rfl _, k2.at rfl _, trivial⟩ rfl rfl ?_
  refine phe PW 0 [] [] rfl trivial rfl ?_
  refine ce W 0 rfl rfl (eqPair_ok r.2.1 r.2.2 r.2.1 r.2.2) rfl ?_
  refine sp W 0 rfl rfl rfl (fun h1 => ?_) (fun h1 => ?_)
  · exact absurd ⟨rfl, rfl⟩ h1
  refine sp W 0 rfl rfl rfl (fun h2 => ?_) (fun h2 => ?_)
  · exact absurd Iff.rfl h2
  refine rp W 0 rfl rfl rfl (.yes trivial)
end Pf
/- Fractions compared: impl's cmp, the model's l8Cmp -/
namespace Pf
open Go Go.Proofs
open Classical in
/-- How two numbers compare. -/
noncomputable def cmpR (r s : Rat) : Int := if r < s then -1 else if r = s then 0 else 1
theorem sgn_mul_pos {z k : Int} (hk : 0 < k) : sgn (z * k) = sgn z := by
  unfold sgn
  rcases Int.lt_trichotomy z 0 with h | h | h
  · have := Int.mul_neg_of_neg_of_pos h hk; omega
  · subst h; rw [Int.zero_mul]
  · have := Int.mul_pos h hk; omega
theorem cmpR_xy (r s : Rat) : cmpR r s = sgn (r.num * s.den - s.num * r.den) := by
  unfold cmpR sgn
  by_cases h : r < s
  · rw [if_pos h]; have := (Rat.lt_iff r s).1 h; omega
  · rw [if_neg h]
    have h1 := mt (Rat.lt_iff r s).2 h
    by_cases h2 : r = s
    · rw [if_pos h2]; have := Rat.eq_iff_mul_eq_mul.1 h2; omega
    · rw [if_neg h2]; have := mt Rat.eq_iff_mul_eq_mul.2 h2; omega
theorem mkRat_parts2 (n : Int) {b : Nat} (hb : b ≠ 0) : ∃ k : Nat, k ≠ 0 ∧ n = (mkRat n b).num * k ∧ b = (mkRat n b).den * k := by
  obtain ⟨m, h1, h2, h3⟩ := Rat.mkRat_num_den hb (show mkRat n b = ⟨(mkRat n b).num, (mkRat n b).den, (mkRat n b).den_nz, (mkRat n b).reduced⟩ from rfl)
  exact ⟨m, h1, h2, h3⟩
theorem cmpR_mk {n m : Int} {b d : Nat} (hb : b ≠ 0) (hd : d ≠ 0) : cmpR (mkRat n b) (mkRat m d) = sgn (n * d - m * b) := by
  obtain ⟨k, k0, k1, k2⟩ := mkRat_parts2 n hb
  obtain ⟨l, l0, l1, l2⟩ := mkRat_parts2 m hd
  rw [cmpR_xy]
  generalize mkRat n b = r at *
  generalize mkRat m d = s at *
  rw [k1, l1, k2, l2]
  have e : r.num * k * ((s.den * l : Nat) : Int) - s.num * l * ((r.den * k : Nat) : Int) = (r.num * s.den - s.num * r.den) * ((k * l : Nat) : Int) := by
    simp only [Int.natCast_mul, Int.sub_mul]
    congr 1
    · simp only [Int.mul_assoc, Int.mul_left_comm, Int.mul_comm]
    · simp only [Int.mul_assoc, Int.mul_left_comm, Int.mul_comm]
  rw [e, sgn_mul_pos (Int.natCast_pos.2 (Nat.mul_pos (by omega) (by omega)))]
open Classical in
theorem cmpR_sg (p q : Prop) {a b c d : Nat} (hb : b ≠ 0) (hd : d ≠ 0) : cmpR (mkRat (sg p a) b) (mkRat (sg q c) d) =
    (if p ∧ a * d ≠ 0 then (if q ∧ c * b ≠ 0 then sgn ((c * b : Nat) - (a * d : Nat) : Int) else -1) else if q ∧ c * b ≠ 0 then 1 else sgn ((a * d : Nat) - (c * b : Nat) : Int)) := by
  rw [cmpR_mk hb hd, ← sg_mul_nat, ← sg_mul_nat]
  generalize a * d = x
  generalize c * b = y
  unfold sgn
  by_cases hp : p
  · rw [sg_yes hp]
    by_cases hq : q
    · rw [sg_yes hq]; simp only [hp, hq, true_and]
      split <;> (try split) <;> omega
    · rw [sg_no hq]; simp only [hp, hq, true_and, false_and, if_false]
      split <;> omega
  · rw [sg_no hp]
    by_cases hq : q
    · rw [sg_yes hq]; simp only [hp, hq, true_and, false_and, if_false]
      split <;> omega
    · rw [sg_no hq]; simp only [hp, hq, false_and, if_false]
theorem l8Cmp_ok (p q : Prop) (a b c d : Nat) (r s : Rat) (hb : b ≠ 0) (hd : d ≠ 0) (hr : mkRat (sg p a) b = r) (hs : mkRat (sg q c) d = s) (ha : (dig a).length ≤ 10000) (hbl : (dig b).length ≤ 10000) (hc : (dig c).length ≤ 10000) (hdl : (dig d).length ≤ 10000) :
    AFunP Tryd.prog 93 [.agg [.pr p, .fi .i64 (dig a), .fi .i64 (dig b)], .agg [.pr q, .fi .i64 (dig c), .fi .i64 (dig d)]] (· = .int .i64 (cmpR r s)) := by
  subst hr; subst hs
  rw [cmpR_sg p q hb hd]
  have x1 := dig_len_mul ha hdl
  have x2 := dig_len_mul hc hbl
  have m1 := l5Mul_ok a d (by omega) (by omega)
  have m2 := l5Mul_ok c b (by omega) (by omega)
  generalize a * d = x at *
  generalize c * b = y at *
  have ex : ∀ z : Nat, (0 : Int) < (dig z).length ↔ z ≠ 0 := fun z => by rw [len_nil, ne_eq, dig_nil]
  have ez : ∀ z : Nat, ((dig z).length : Int) = 0 ↔ z = 0 := fun z => by have := ex z; omega
  refine afun_of Tryd.func93 Tryd.call93 rfl Tryd.ntmps93 rfl ?_
  have W : Walk Tryd.prog TT 93 _ := Walk.of TT_ok Tryd.func93 Tryd.results93
  refine ce W 0 rfl rfl (m1) rfl ?_
  refine ce W 0 rfl rfl (m2) rfl ?_
  have e0 : sgn 0 = 0 := by decide
  refine sp W 0 rfl rfl rfl (fun h1 => ?_) (fun h1 => ?_)
  · have hx0 := (ez x).1 h1
    refine sp W 0 rfl rfl rfl (fun h2 => ?_) (fun h2 => ?_)
    · have hy0 := (ez y).1 h2
      subst hx0; subst hy0
      refine rp W 0 rfl rfl rfl (.int (by simp [e0]))
    · skip
      refine sp W 0 rfl rfl rfl (fun hp => ?_) (fun hp => ?_)
      · refine sp W 0 rfl rfl rfl (fun hxl => ?_) (fun hxl => ?_)
        · have hx := (ex x).1 hxl
          refine sp W 0 rfl rfl rfl (fun hq => ?_) (fun hq => ?_)
          · refine sp W 0 rfl rfl rfl (fun hyl => ?_) (fun hyl => ?_)
            · have hy := (ex y).1 hyl
              refine ce W 0 rfl rfl (l5Cmp_ok y x (by omega) (by omega)) rfl ?_
              refine rp W 0 rfl rfl rfl (.int (by simp [hp, hq, hx, hy]))
            · have hy := Classical.not_not.1 (mt (ex y).2 hyl)
              refine rp W 0 rfl rfl rfl (.int (by simp [hp, hq, hx, hy]))
          · refine rp W 0 rfl rfl rfl (.int (by simp [hp, hq, hx]))
        · have hx := Classical.not_not.1 (mt (ex x).2 hxl)
          refine sp W 0 rfl rfl rfl (fun hq => ?_) (fun hq => ?_)
          · refine sp W 0 rfl rfl rfl (fun hyl => ?_) (fun hyl => ?_)
            · have hy := (ex y).1 hyl
              refine rp W 0 rfl rfl rfl (.int (by simp [hp, hq, hx, hy]))
            · have hy := Classical.not_not.1 (mt (ex y).2 hyl)
              refine ce W 0 rfl rfl (l5Cmp_ok x y (by omega) (by omega)) rfl ?_
              refine rp W 0 rfl rfl rfl (.int (by simp [hp, hq, hx, hy]))
          · refine ce W 0 rfl rfl (l5Cmp_ok x y (by omega) (by omega)) rfl ?_
            refine rp W 0 rfl rfl rfl (.int (by simp [hp, hq, hx]))
      · refine sp W 0 rfl rfl rfl (fun hq => ?_) (fun hq => ?_)
        · refine sp W 0 rfl rfl rfl (fun hyl => ?_) (fun hyl => ?_)
          · have hy := (ex y).1 hyl
            refine rp W 0 rfl rfl rfl (.int (by simp [hp, hq, hy]))
          · have hy := Classical.not_not.1 (mt (ex y).2 hyl)
            refine ce W 0 rfl rfl (l5Cmp_ok x y (by omega) (by omega)) rfl ?_
            refine rp W 0 rfl rfl rfl (.int (by simp [hp, hq, hy]))
        · refine ce W 0 rfl rfl (l5Cmp_ok x y (by omega) (by omega)) rfl ?_
          refine rp W 0 rfl rfl rfl (.int (by simp [hp, hq]))
  · skip
    refine sp W 0 rfl rfl rfl (fun hp => ?_) (fun hp => ?_)
    · refine sp W 0 rfl rfl rfl (fun hxl => ?_) (fun hxl => ?_)
      · have hx := (ex x).1 hxl
        refine sp W 0 rfl rfl rfl (fun hq => ?_) (fun hq => ?_)
        · refine sp W 0 rfl rfl rfl (fun hyl => ?_) (fun hyl => ?_)
          · have hy := (ex y).1 hyl
            refine ce W 0 rfl rfl (l5Cmp_ok y x (by omega) (by omega)) rfl ?_
            refine rp W 0 rfl rfl rfl (.int (by simp [hp, hq, hx, hy]))
          · have hy := Classical.not_not.1 (mt (ex y).2 hyl)
            refine rp W 0 rfl rfl rfl (.int (by simp [hp, hq, hx, hy]))
        · refine rp W 0 rfl rfl rfl (.int (by simp [hp, hq, hx]))
      · have hx := Classical.not_not.1 (mt (ex x).2 hxl)
        refine sp W 0 rfl rfl rfl (fun hq => ?_) (fun hq => ?_)
        · refine sp W 0 rfl rfl rfl (fun hyl => ?_) (fun hyl => ?_)
          · have hy := (ex y).1 hyl
            refine rp W 0 rfl rfl rfl (.int (by simp [hp, hq, hx, hy]))
          · have hy := Classical.not_not.1 (mt (ex y).2 hyl)
            refine ce W 0 rfl rfl (l5Cmp_ok x y (by omega) (by omega)) rfl ?_
            refine rp W 0 rfl rfl rfl (.int (by simp [hp, hq, hx, hy]))
        · refine ce W 0 rfl rfl (l5Cmp_ok x y (by omega) (by omega)) rfl ?_
          refine rp W 0 rfl rfl rfl (.int (by simp [hp, hq, hx]))
    · refine sp W 0 rfl rfl rfl (fun hq => ?_) (fun hq => ?_)
      · refine sp W 0 rfl rfl rfl (fun hyl => ?_) (fun hyl => ?_)
        · have hy := (ex y).1 hyl
          refine rp W 0 rfl rfl rfl (.int (by simp [hp, hq, hy]))
        · have hy := Classical.not_not.1 (mt (ex y).2 hyl)
          refine ce W 0 rfl rfl (l5Cmp_ok x y (by omega) (by omega)) rfl ?_
          refine rp W 0 rfl rfl rfl (.int (by simp [hp, hq, hy]))
      · refine ce W 0 rfl rfl (l5Cmp_ok x y (by omega) (by omega)) rfl ?_
        refine rp W 0 rfl rfl rfl (.int (by simp [hp, hq]))
theorem cmpR_f (r s : Rat) : cmpR r s = (if r < 0 then (if s < 0 then sgn ((s.num.natAbs * r.den : Nat) - (r.num.natAbs * s.den : Nat) : Int) else -1) else if s < 0 then 1 else sgn ((r.num.natAbs * s.den : Nat) - (s.num.natAbs * r.den : Nat) : Int)) := by
  have h := cmpR_sg (r < 0) (s < 0) (a := r.num.natAbs) (c := s.num.natAbs) r.den_nz s.den_nz
  rw [mk_R, mk_R] at h
  rw [h]
  have hr : r < 0 → r.num.natAbs * s.den ≠ 0 := fun k => Nat.mul_ne_zero (by have := num_neg.1 k; omega) s.den_nz
  have hs : s < 0 → s.num.natAbs * r.den ≠ 0 := fun k => Nat.mul_ne_zero (by have := num_neg.1 k; omega) r.den_nz
  by_cases h1 : r < 0 <;> by_cases h2 : s < 0 <;> simp [h1, h2, hr, hs]
theorem fsgn_R (r : Rat) : fsgn (r < 0) (dt r) = if r < 0 then -1 else if r.num.natAbs = 0 then 0 else 1 := by
  unfold fsgn dt
  simp only [dig_nil]
theorem cmpR_ne {r s : Rat} (h : fsgn (r < 0) (dt r) ≠ fsgn (s < 0) (dt s)) : max (-1) (min 1 (fsgn (r < 0) (dt r) - fsgn (s < 0) (dt s))) = cmpR r s := by
  rw [cmpR_f]
  have hA : r.num.natAbs = 0 ↔ r.num.natAbs * s.den = 0 := by have := s.den_nz; simp [Nat.mul_eq_zero, this]
  have hB : s.num.natAbs = 0 ↔ s.num.natAbs * r.den = 0 := by have := r.den_nz; simp [Nat.mul_eq_zero, this]
  rw [fsgn_R, fsgn_R] at h ⊢
  generalize r.num.natAbs * s.den = A at *
  generalize s.num.natAbs * r.den = B at *
  generalize r.num.natAbs = R at *
  generalize s.num.natAbs = S at *
  unfold sgn
  by_cases h1 : r < 0 <;> by_cases h2 : s < 0 <;> simp only [h1, h2, if_true, if_false] at h ⊢ <;> (repeat' split) <;> (try split at h) <;> (try split at h) <;> omega
theorem cmpR_eq {r s : Rat} (h : fsgn (r < 0) (dt r) = fsgn (s < 0) (dt s)) : cmpR r s = if r < 0 then -sgn ((r.num.natAbs * s.den : Nat) - (s.num.natAbs * r.den : Nat) : Int) else sgn ((r.num.natAbs * s.den : Nat) - (s.num.natAbs * r.den : Nat) : Int) := by
  rw [cmpR_f]
  rw [fsgn_R, fsgn_R] at h
  generalize r.num.natAbs * s.den = A at *
  generalize s.num.natAbs * r.den = B at *
  unfold sgn
  by_cases h1 : r < 0 <;> by_cases h2 : s < 0 <;> simp only [h1, h2, if_true, if_false] at h ⊢ <;> (try split at h) <;> omega
theorem fcmp_ok (r s : Rat) (hr : mid r) (hs : mid s) : AFunP Tryd.prog 83 [frR r, frR s] (· = .int .i64 (cmpR r s)) := by
  have s1 := signR_ok r hr
  have s2 := signR_ok s hs
  have b1 : ∀ t : Rat, -1 ≤ fsgn (t < 0) (dt t) ∧ fsgn (t < 0) (dt t) ≤ 1 := fun t => by unfold fsgn; split <;> (try split) <;> omega
  have b1r := b1 r
  have b1s := b1 s
  refine afun_of Tryd.func83 Tryd.call83 rfl Tryd.ntmps83 rfl ?_
  have W : Walk Tryd.prog TT 83 _ := Walk.of TT_ok Tryd.func83 Tryd.results83
  refine dre W 0 3 [] [.int .i64 (fsgn (r < 0) (dt r))] rfl rfl rfl ⟨s1.at rfl _, trivial⟩ rfl ?_
  refine ce W 0 rfl rfl (s2) rfl ?_
  refine sp W 0 rfl rfl rfl (fun h1 => ?_) (fun h1 => ?_)
  · rw [← cmpR_ne h1]
    refine dre W 0 3 [] [.int .i64 (fsgn (r < 0) (dt r))] rfl rfl rfl ⟨s1.at rfl _, trivial⟩ rfl ?_
    refine ce W 0 rfl rfl (s2) rfl ?_
    refine rp W 0 rfl rfl rfl (.refl)
  · rw [cmpR_eq (Classical.not_not.1 h1)]
    have x1 := dig_len_mul hr.1 hs.2
    have x2 := dig_len_mul hs.1 hr.2
    refine dre W 0 9 [] [.fi .i64 (dig (r.num.natAbs * s.den))] rfl rfl rfl ⟨(natMul_ok _ _ (by have := hr.1; unfold dt at this; omega) (by have := hs.2; unfold db at this; omega)).at rfl _, trivial⟩ rfl ?_
    refine ce W 0 rfl rfl (natMul_ok s.num.natAbs r.den (by have := hs.1; unfold dt at this; omega) (by have := hr.2; unfold db at this; omega)) rfl ?_
    refine ce W 0 rfl rfl (natCmp_ok (r.num.natAbs * s.den) (s.num.natAbs * r.den) (by omega) (by omega)) rfl ?_
    have b2 : -1 ≤ sgn ((r.num.natAbs * s.den : Nat) - (s.num.natAbs * r.den : Nat) : Int) ∧ sgn ((r.num.natAbs * s.den : Nat) - (s.num.natAbs * r.den : Nat) : Int) ≤ 1 := by unfold sgn; omega
    generalize sgn ((r.num.natAbs * s.den : Nat) - (s.num.natAbs * r.den : Nat) : Int) = z at *
    refine sp W 0 rfl rfl rfl (fun h2 => ?_) (fun h2 => ?_)
    · rw [if_pos h2]
      refine rp W 0 rfl rfl rfl (.refl)
    · rw [if_neg h2]
      refine rp W 0 rfl rfl rfl (.refl)
end Pf
/- The law of FracNeg -/
namespace Pf
open Go Go.Proofs
theorem szF_le {t d : List Int} (h : ¬ szF 1048576 t d < 0) : t.length ≤ 1048576 ∧ d.length ≤ 1048576 ∧ szF 1048576 t d = 1048576 - t.length - d.length := by
  unfold szF at h ⊢
  split at h
  · omega
  · split at h
    · omega
    · rename_i h1 h2; rw [if_neg h1, if_neg h2]; omega
abbrev nilFr : AV := .agg [.bool false, .nils, .nils]
theorem eqFrac_nil : AFunP Tryd.prog 37 [nilFr, frF False [] []] (· = .pr True) :=
  AFun.sub (args := [nilFr, frF False [] []]) ((eqFrac_ok False False [] [] [] [] (by simp) (by simp)).subv (.eq (by simp)) rfl) ⟨.agg ⟨.no id, .nils_fi, .nils_fi, trivial⟩, .refl, trivial⟩
end Pf
/- FloatNear on both sides, its law -/
namespace Pf
open Go Go.Proofs
theorem floated_ok (w : Int) (p : Prop) (t u : List Int) (ht : t.length ≤ 9223372036854775806) (hu : u.length ≤ 9223372036854775806) : AFunP Tryd.prog 80 [.int .i64 w, frF p t u] (· = .pr ((w = 32 ∨ w = 64) ∧ frOk p t u)) := by
  refine afun_of Tryd.func80 Tryd.call80 rfl Tryd.ntmps80 rfl ?_
  have W : Walk Tryd.prog TT 80 _ := Walk.of TT_ok Tryd.func80 Tryd.results80
  refine ce W 0 rfl rfl (formatOf_ok w) rfl ?_
  refine sp W 0 rfl rfl rfl (fun h1 => ?_) (fun h1 => ?_)
  · refine ce W 0 rfl rfl (implFracOk_ok p t u ht hu) rfl ?_
    refine rp W 0 rfl rfl rfl (.pr ⟨fun h => ⟨h1, h⟩, fun h => h.2⟩)
  · refine rp W 0 rfl rfl rfl (.no (fun h => h1 h.1))
theorem l8Frac_ok (p : Prop) (t u : List Int) : AFunP Tryd.prog 92 [frF p t u] (· = frF p t u) := by
  refine afun_of Tryd.func92 Tryd.call92 rfl Tryd.ntmps92 rfl ?_
  have W : Walk Tryd.prog TT 92 _ := Walk.of TT_ok Tryd.func92 Tryd.results92
  refine rp W 0 rfl rfl rfl (.refl)
theorem frR_neg (r : Rat) : frF (¬ r < 0 ∧ dt r ≠ []) (dt r) (db r) = frR (-r) := by
  unfold frR
  have e1 : dt (-r) = dt r := by unfold dt; rw [Rat.neg_num, Int.natAbs_neg]
  have e2 : db (-r) = db r := by unfold db; rw [Rat.neg_den]
  have e3 : (¬ r < 0 ∧ dt r ≠ []) ↔ -r < 0 := by
    rw [Rat.neg_lt_iff, Rat.neg_zero, ne_eq, dt_nil, Rat.not_lt]
    exact ⟨fun h => Rat.lt_of_le_of_ne h.1 (Ne.symm h.2), fun h => ⟨Rat.le_of_lt h, Rat.ne_of_gt h⟩⟩
  rw [e1, e2, propext e3]
theorem negR_ok (r : Rat) (hr : mid r) : AFunP Tryd.prog 82 [frR r] (· = frR (-r)) := by
  have := fneg_ok (r < 0) (dt r) (db r) (by have := hr.1; omega)
  rw [frR_neg] at this
  exact this
theorem cmpR_add (a b c : Rat) : cmpR (a + c) (b + c) = cmpR a b := by
  unfold cmpR
  have h1 : (a + c < b + c) = (a < b) := propext Rat.add_lt_add_right
  have h2 : (a + c = b + c) = (a = b) := propext ⟨Rat.add_right_cancel c, fun h => by rw [h]⟩
  simp only [h1, h2]
theorem cmpR_near (r v u : Rat) : cmpR (r + -v) (u + -r) = cmpR (r + r) (v + u) := by
  rw [← cmpR_add (r + -v) (u + -r) (v + r)]
  congr 1
  · rw [Rat.add_assoc, ← Rat.add_assoc (-v), Rat.neg_add_cancel, Rat.zero_add]
  · rw [Rat.add_comm v r, Rat.add_assoc, ← Rat.add_assoc (-r), Rat.neg_add_cancel, Rat.zero_add, Rat.add_comm]
theorem dn_low {w : Int} {r : Rat} (h : dn w r = -(fT w : Int)) : up w r = -(fT w : Int) + 1 := by
  have h1 := tv_le w r
  have h2 := nx_le w r
  have h3 := fT_pos w
  unfold dn at h
  unfold up
  by_cases h0 : r < 0
  · rw [if_pos h0] at h ⊢; omega
  · rw [if_neg h0] at h; omega
theorem up_high {w : Int} {r : Rat} (h : up w r = (fT w : Int)) : dn w r = (fT w : Int) - 1 := by
  have := dn_low (w := w) (r := -r) (by rw [dn_neg, h])
  rw [up_neg] at this
  omega
open Classical in
/-- The finite float that is nearest. -/
noncomputable def nearF (w : Int) (r : Rat) : Int :=
  if dn w r = -top w then -top w + 1 else if up w r = top w then top w - 1 else
    if cmpR (r + r) (vl w (dn w r) + vl w (up w r)) < 0 ∨ (cmpR (r + r) (vl w (dn w r) + vl w (up w r)) = 0 ∧ (dn w r).tmod 2 = 0) then dn w r else up w r
theorem midN_mono {m n : Nat} {r : Rat} (h : midN m r) (hm : m ≤ n) : midN n r := ⟨Nat.le_trans h.1 hm, Nat.le_trans h.2 hm⟩
theorem midN_neg {n : Nat} {r : Rat} (h : midN n r) : midN n (-r) := by
  unfold midN dt db at *
  rw [Rat.neg_num, Int.natAbs_neg, Rat.neg_den]
  exact h
theorem cmpR_rng (r s : Rat) : -1 ≤ cmpR r s ∧ cmpR r s ≤ 1 := by unfold cmpR; split <;> (try split) <;> omega
theorem implNear_ok (w : Int) (hw : w = 32 ∨ w = 64) (r : Rat) (hr : small r) (hok : AFunP Tryd.prog 80 [.int .i64 w, frR r] (· = .pr True)) : AFunP Tryd.prog 30 [.int .i64 w, frR r] (· = .tup [.int .i64 (nearF w r), .pr True]) := by
  have hm : midN 256 r := hr
  have hm' : mid r := ⟨Nat.le_trans hm.1 (by decide), Nat.le_trans hm.2 (by decide)⟩
  have r1 := dn_rng w r
  have r2 := up_rng w r
  have ht := top_fT hw
  have htr := top_rng w
  have hn := fT_rng w
  have hlu : dn w r ≤ up w r := dn_le_up Rat.le_refl
  have k1 := around_w w hw r hm'
  have e1 := dn_low (w := w) (r := r)
  have e2 := up_high (w := w) (r := r)
  have v1 : dn w r ≠ -top w → _ := fun h => value_w w (dn w r) hw (by omega)
  have v2 : up w r ≠ top w → _ := fun h => value_w w (up w r) hw (by omega)
  have m1 : dn w r ≠ -top w → _ := fun h => vl_midN (n := dn w r) hw (by omega)
  have m2 : up w r ≠ top w → _ := fun h => vl_midN (n := up w r) hw (by omega)
  unfold nearF
  rw [← cmpR_near]
  rw [← ht] at e1 e2
  have kn := negR_ok r hm'
  generalize dn w r = lo at *
  generalize up w r = hi at *
  refine afun_of Tryd.func30 Tryd.call30 rfl Tryd.ntmps30 rfl ?_
  have W : Walk Tryd.prog TT 30 _ := Walk.of TT_ok Tryd.func30 Tryd.results30
  refine ce W 0 rfl rfl (hok) rfl ?_
  refine sp W 0 rfl rfl rfl (fun h0 => ?_) (fun h0 => ?_)
  · exact absurd trivial h0
  refine ce W 0 rfl rfl (k1) rfl ?_
  refine ce W 0 rfl rfl (implBitTop_ok w) rfl ?_
  refine sp W 0 rfl rfl rfl (fun h1 => ?_) (fun h1 => ?_)
  · rw [if_pos h1, ← e1 h1]
    refine rp W 0 rfl rfl rfl (.tup ⟨.refl, .yes trivial, trivial⟩)
  · rw [if_neg h1]
    have v1 := v1 h1
    have m1 := m1 h1
    have mf : mid (vl w lo) := ⟨Nat.le_trans m1.1 (by decide), Nat.le_trans m1.2 (by decide)⟩
    have n1 := negR_ok (vl w lo) mf
    have a1 := addR_ok r (-vl w lo) hm' (by have := midN_neg m1; exact ⟨Nat.le_trans this.1 (by decide), Nat.le_trans this.2 (by decide)⟩)
    have s1 := midN_add hm (midN_mono (midN_neg m1) (by decide))
    refine sp W 0 rfl rfl rfl (fun h2 => ?_) (fun h2 => ?_)
    · rw [if_pos h2, ← e2 h2]
      refine rp W 0 rfl rfl rfl (.tup ⟨.refl, .yes trivial, trivial⟩)
    · rw [if_neg h2]
      have v2 := v2 h2
      have m2 := m2 h2
      have a2 := addR_ok (vl w hi) (-r) ⟨Nat.le_trans m2.1 (by decide), Nat.le_trans m2.2 (by decide)⟩ (by have := midN_neg hm; exact ⟨Nat.le_trans this.1 (by decide), Nat.le_trans this.2 (by decide)⟩)
      have s2 := midN_add (midN_mono m2 (show 204 ≤ 256 by decide)) (midN_neg hm)
      have kc := fcmp_ok (r + -vl w lo) (vl w hi + -r) ⟨Nat.le_trans s1.1 (by decide), Nat.le_trans s1.2 (by decide)⟩ ⟨Nat.le_trans s2.1 (by decide), Nat.le_trans s2.2 (by decide)⟩
      have cr := cmpR_rng (r + -vl w lo) (vl w hi + -r)
      refine sp W 0 rfl rfl rfl (fun h3 => ?_) (fun h3 => ?_)
      · rw [h3, ite_self]
        refine rp W 0 rfl rfl rfl (.tup ⟨.refl, .yes trivial, trivial⟩)
      · generalize cmpR (r + -vl w lo) (vl w hi + -r) = c at *
        generalize r + -vl w lo = A at *
        generalize vl w hi + -r = B at *
        generalize - vl w lo = C at *
        generalize vl w lo = D at *
        generalize vl w hi = E at *
        refine phg W 0 14 [12, 13] rfl rfl (fun PW => ?_)
        refine phf PW 0 12 13 [] [frR D, frR C, frR A, frR E, frR (-r), frR B] rfl rfl ⟨v1.at rfl _, n1.at rfl _, a1.at rfl _, v2.at rfl _, kn.at rfl _, a2.at rfl _, trivial⟩ rfl rfl rfl rfl ?_ ?_
        · refine pho PW 0 13 [] [frR D, frR C, frR A, frR E, frR (-r), frR B] rfl rfl ⟨v1.at rfl _, n1.at rfl _, a1.at rfl _, v2.at rfl _, kn.at rfl _, a2.at rfl _, trivial⟩ rfl rfl ?_
          refine phe PW 0 [] [frR D, frR C, frR A, frR E, frR (-r), frR B] rfl ⟨v1.at rfl _, n1.at rfl _, a1.at rfl _, v2.at rfl _, kn.at rfl _, a2.at rfl _, trivial⟩ rfl ?_
          refine ce W 0 rfl rfl (kc) rfl ?_
          refine sp W 0 rfl rfl rfl (fun h4 => ?_) (fun h4 => ?_)
          · rw [if_pos (.inl h4)]
            refine rp W 0 rfl rfl rfl (.tup ⟨.refl, .yes trivial, trivial⟩)
          · refine sp W 0 rfl rfl rfl (fun h5 => ?_) (fun h5 => ?_)
            · refine sp W 1 rfl rfl rfl (fun h6 => ?_) (fun h6 => ?_)
              · rw [if_pos (.inr ⟨h5, h6⟩)]
                refine rp W 0 rfl rfl rfl (.tup ⟨.refl, .yes trivial, trivial⟩)
              · rw [if_neg (fun k => k.elim h4 (fun k => h6 k.2))]
                refine rp W 0 rfl rfl rfl (.tup ⟨.refl, .yes trivial, trivial⟩)
            · rw [if_neg (fun k => k.elim h4 (fun k => h5 k.1))]
              refine rp W 0 rfl rfl rfl (.tup ⟨.refl, .yes trivial, trivial⟩)
        · refine pho PW 0 12 [] [frR D, frR C, frR A, frR E, frR (-r), frR B] rfl rfl ⟨v1.at rfl _, n1.at rfl _, a1.at rfl _, v2.at rfl _, kn.at rfl _, a2.at rfl _, trivial⟩ rfl rfl ?_
          refine phe PW 0 [] [frR D, frR C, frR A, frR E, frR (-r), frR B] rfl ⟨v1.at rfl _, n1.at rfl _, a1.at rfl _, v2.at rfl _, kn.at rfl _, a2.at rfl _, trivial⟩ rfl ?_
          refine ce W 0 rfl rfl (kc) rfl ?_
          refine sp W 0 rfl rfl rfl (fun h4 => ?_) (fun h4 => ?_)
          · rw [if_pos (.inl h4)]
            refine rp W 0 rfl rfl rfl (.tup ⟨.refl, .yes trivial, trivial⟩)
          · refine sp W 0 rfl rfl rfl (fun h5 => ?_) (fun h5 => ?_)
            · refine sp W 1 rfl rfl rfl (fun h6 => ?_) (fun h6 => ?_)
              · rw [if_pos (.inr ⟨h5, h6⟩)]
                refine rp W 0 rfl rfl rfl (.tup ⟨.refl, .yes trivial, trivial⟩)
              · rw [if_neg (fun k => k.elim h4 (fun k => h6 k.2))]
                refine rp W 0 rfl rfl rfl (.tup ⟨.refl, .yes trivial, trivial⟩)
            · rw [if_neg (fun k => k.elim h4 (fun k => h5 k.1))]
              refine rp W 0 rfl rfl rfl (.tup ⟨.refl, .yes trivial, trivial⟩)
theorem specNear_ok (w : Int) (hw : w = 32 ∨ w = 64) (r : Rat) (hr : small r) (hok : AFunP Tryd.prog 87 [frR r] (· = .pr True)) : AFunP Tryd.prog 35 [.int .i64 w, frR r] (· = .tup [.int .i64 (nearF w r), .pr True]) := by
  have hm : midN 256 r := hr
  have r1 := dn_rng w r
  have r2 := up_rng w r
  have ht := top_fT hw
  have htr := top_rng w
  have hn := fT_rng w
  have k := l8Round_w w hw (r < 0) r.num.natAbs r.den r r.den_nz (mk_R r) (Nat.le_trans hm.1 (by decide)) (Nat.le_trans hm.2 (by decide))
  have hlu : dn w r ≤ up w r := dn_le_up Rat.le_refl
  have v1 : dn w r ≠ -top w → _ := fun h => l8Of_w w (dn w r) hw (by omega)
  have v2 : up w r ≠ top w → _ := fun h => l8Of_w w (up w r) hw (by omega)
  unfold nearF
  generalize dn w r = lo at *
  generalize up w r = hi at *
  refine afun_of Tryd.func35 Tryd.call35 rfl Tryd.ntmps35 rfl ?_
  have W : Walk Tryd.prog TT 35 _ := Walk.of TT_ok Tryd.func35 Tryd.results35
  refine ce W 0 rfl rfl (l1Width_ok w) rfl ?_
  refine sp W 0 rfl rfl rfl (fun h0 => ?_) (fun h0 => ?_)
  · exact absurd hw h0
  refine ce W 0 rfl rfl (hok) rfl ?_
  refine sp W 0 rfl rfl rfl (fun h9 => ?_) (fun h9 => ?_)
  · exact absurd trivial h9
  refine ce W 0 rfl rfl (l8Frac_ok (r < 0) (dt r) (db r)) rfl ?_
  refine ce W 0 rfl rfl (k.1) rfl ?_
  refine ce W 0 rfl rfl (l8Frac_ok (r < 0) (dt r) (db r)) rfl ?_
  refine ce W 0 rfl rfl (k.2) rfl ?_
  refine ce W 0 rfl rfl (specBitTop_ok w) rfl ?_
  refine sp W 0 rfl rfl rfl (fun h1 => ?_) (fun h1 => ?_)
  · rw [if_pos h1]
    refine rp W 0 rfl rfl rfl (.tup ⟨.refl, .yes trivial, trivial⟩)
  · rw [if_neg h1]
    refine sp W 0 rfl rfl rfl (fun h2 => ?_) (fun h2 => ?_)
    · rw [if_pos h2]
      refine rp W 0 rfl rfl rfl (.tup ⟨.refl, .yes trivial, trivial⟩)
    · rw [if_neg h2]
      refine cq W 0 rfl rfl (v1 h1) ?_
      rintro _ ⟨A, B, rfl, a1, a2, a3, a4⟩
      refine ⟨_, rfl, ?_⟩
      refine cq W 0 rfl rfl (v2 h2) ?_
      rintro _ ⟨C, D, rfl, b1, b2, b3, b4⟩
      refine ⟨_, rfl, ?_⟩
      refine ce W 0 rfl rfl (l6Sum_ok (lo < 0) (hi < 0) A B C D (by omega) (by omega) (by omega) (by omega)) rfl ?_
      have es : mkRat (sg (sumP (lo < 0) (hi < 0) (A * D) (C * B)) (sumT (lo < 0) (hi < 0) (A * D) (C * B))) (B * D) = vl w lo + vl w hi := by
        rw [sg_sum, sg_mul_nat, sg_mul_nat, ← Rat.mkRat_add_mkRat _ _ a1 b1, a2, b2]
      have hx : (dig (sumT (lo < 0) (hi < 0) (A * D) (C * B))).length ≤ 1000 := by
        have := dig_mono (sumT_le (lo < 0) (hi < 0) (A * D) (C * B)) (dig_len_add (dig_len_mul a3 b4) (dig_len_mul b3 a4)); omega
      have hy : (dig (B * D)).length ≤ 1000 := by have := dig_len_mul a4 b4; omega
      have hz := Nat.mul_ne_zero a1 b1
      generalize sumT (lo < 0) (hi < 0) (A * D) (C * B) = T at *
      generalize B * D = E at *
      generalize sumP (lo < 0) (hi < 0) (A * D) (C * B) = p at *
      generalize vl w lo + vl w hi = V at *
      have e0 : (0 : Int) < (dig T).length ↔ T ≠ 0 := by rw [len_nil, ne_eq, dig_nil]
      have l0 : (dig r.num.natAbs).length ≤ 256 := hm.1
      have l1 : (dig r.den).length ≤ 256 := hm.2
      have l2 := dig_len_mul l0 (show (dig 2).length ≤ 1 from dig_len_le.2 (by decide))
      have tw := l5Times_ok r.num.natAbs 2 (by omega) (by omega)
      have et : mkRat (sg (r < 0) (r.num.natAbs * 2)) r.den = r + r := by
        rw [sg_mul_nat]
        conv => rhs; rw [← mk_R r, Rat.mkRat_add_mkRat _ _ r.den_nz r.den_nz, ← Int.add_mul, Rat.mkRat_mul_right r.den_nz]
        congr 1; omega
      by_cases hp : p
      · refine dre W 0 17 [(79, true)] [.fi .i64 (dig (r.num.natAbs * 2))] rfl rfl rfl ⟨tw.at rfl _, trivial⟩ rfl ?_
        have e1 : mkRat (sg ((0 : Int) < (dig T).length) T) E = V := by
          rw [← es]; congr 1
          by_cases hT : T = 0
          · subst hT; rw [sg_zero, sg_zero]
          · rw [sg_yes (e0.2 hT), sg_yes hp]
        refine ce W 0 rfl rfl (l8Cmp_ok (r < 0) ((0 : Int) < (dig T).length) (r.num.natAbs * 2) r.den T E (r + r) V r.den_nz hz et e1 (by omega) (by omega) (by omega) (by omega)) rfl ?_
        have cr := cmpR_rng (r + r) V
        generalize cmpR (r + r) V = c at *
        refine sp W 0 rfl rfl rfl (fun h4 => ?_) (fun h4 => ?_)
        · rw [if_pos (.inl h4)]
          refine rp W 0 rfl rfl rfl (.tup ⟨.refl, .yes trivial, trivial⟩)
        · refine sp W 0 rfl rfl rfl (fun h5 => ?_) (fun h5 => ?_)
          · refine sp W 1 rfl rfl rfl (fun h6 => ?_) (fun h6 => ?_)
            · rw [if_pos (.inr ⟨h5, h6⟩)]
              refine rp W 0 rfl rfl rfl (.tup ⟨.refl, .yes trivial, trivial⟩)
            · rw [if_neg (fun k => k.elim h4 (fun k => h6 k.2))]
              refine rp W 0 rfl rfl rfl (.tup ⟨.refl, .yes trivial, trivial⟩)
          · rw [if_neg (fun k => k.elim h4 (fun k => h5 k.1))]
            refine rp W 0 rfl rfl rfl (.tup ⟨.refl, .yes trivial, trivial⟩)
      · refine dre W 0 17 [(79, false)] [.fi .i64 (dig (r.num.natAbs * 2))] rfl rfl rfl ⟨tw.at rfl _, trivial⟩ rfl ?_
        have e1 : mkRat (sg False T) E = V := by
          rw [← es]; congr 1
          rw [sg_no id, sg_no hp]
        refine ce W 0 rfl rfl (AFun.sub (l8Cmp_ok (r < 0) False (r.num.natAbs * 2) r.den T E (r + r) V r.den_nz hz et e1 (by omega) (by omega) (by omega) (by omega)) ⟨.refl, .agg ⟨.no id, .refl, .refl, trivial⟩, trivial⟩) rfl ?_
        have cr := cmpR_rng (r + r) V
        generalize cmpR (r + r) V = c at *
        refine sp W 0 rfl rfl rfl (fun h4 => ?_) (fun h4 => ?_)
        · rw [if_pos (.inl h4)]
          refine rp W 0 rfl rfl rfl (.tup ⟨.refl, .yes trivial, trivial⟩)
        · refine sp W 0 rfl rfl rfl (fun h5 => ?_) (fun h5 => ?_)
          · refine sp W 1 rfl rfl rfl (fun h6 => ?_) (fun h6 => ?_)
            · rw [if_pos (.inr ⟨h5, h6⟩)]
              refine rp W 0 rfl rfl rfl (.tup ⟨.refl, .yes trivial, trivial⟩)
            · rw [if_neg (fun k => k.elim h4 (fun k => h6 k.2))]
              refine rp W 0 rfl rfl rfl (.tup ⟨.refl, .yes trivial, trivial⟩)
          · rw [if_neg (fun k => k.elim h4 (fun k => h5 k.1))]
            refine rp W 0 rfl rfl rfl (.tup ⟨.refl, .yes trivial, trivial⟩)
open Classical in
noncomputable def nearN (w : Int) (p : Prop) (t u : List Int) : Int := if (w = 32 ∨ w = 64) ∧ frOk p t u then nearF w (rat p t u) else 0
theorem specNear_any (w : Int) (p : Prop) (t u : List Int) (ht : t.length ≤ 1048576) (hu : u.length ≤ 1048576) : AFunP Tryd.prog 35 [.int .i64 w, frF p t u] (· = .tup [.int .i64 (nearN w p t u), .pr ((w = 32 ∨ w = 64) ∧ frOk p t u)]) := by
  have hok := specFracOk_ok p t u (by omega) (by omega)
  by_cases h : (w = 32 ∨ w = 64) ∧ frOk p t u
  · have e := frR_eq h.2
    have hs : small (rat p t u) := frOk_iff.1 (by
      obtain ⟨e1, e2, e3⟩ := frOk_rat h.2
      rw [← e1, ← e2, ← propext e3]; exact h.2)
    rw [eq_true h.2] at hok
    rw [nearN, if_pos h, eq_true h, e]
    rw [e] at hok
    exact specNear_ok w h.1 _ hs hok
  · rw [nearN, if_neg h, eq_false h]
    refine afun_of Tryd.func35 Tryd.call35 rfl Tryd.ntmps35 rfl ?_
    have W : Walk Tryd.prog TT 35 _ := Walk.of TT_ok Tryd.func35 Tryd.results35
    refine ce W 0 rfl rfl (l1Width_ok w) rfl ?_
    refine sp W 0 rfl rfl rfl (fun h1 => ?_) (fun h1 => ?_)
    · refine rp W 0 rfl rfl rfl (.tup ⟨.refl, .no id, trivial⟩)
    · refine ce W 0 rfl rfl (hok) rfl ?_
      refine sp W 0 rfl rfl rfl (fun h2 => ?_) (fun h2 => ?_)
      · refine rp W 0 rfl rfl rfl (.tup ⟨.refl, .no id, trivial⟩)
      · exact absurd ⟨Classical.not_not.1 h1, Classical.not_not.1 h2⟩ h
theorem implNear_any (w : Int) (p : Prop) (t u : List Int) (ht : t.length ≤ 1048576) (hu : u.length ≤ 1048576) : AFunP Tryd.prog 30 [.int .i64 w, frF p t u] (· = .tup [.int .i64 (nearN w p t u), .pr ((w = 32 ∨ w = 64) ∧ frOk p t u)]) := by
  have hok := floated_ok w p t u (by omega) (by omega)
  by_cases h : (w = 32 ∨ w = 64) ∧ frOk p t u
  · have e := frR_eq h.2
    have hs : small (rat p t u) := frOk_iff.1 (by
      obtain ⟨e1, e2, e3⟩ := frOk_rat h.2
      rw [← e1, ← e2, ← propext e3]; exact h.2)
    rw [eq_true h] at hok
    rw [nearN, if_pos h, eq_true h, e]
    rw [e] at hok
    exact implNear_ok w h.1 _ hs hok
  · rw [nearN, if_neg h, eq_false h]
    refine afun_of Tryd.func30 Tryd.call30 rfl Tryd.ntmps30 rfl ?_
    have W : Walk Tryd.prog TT 30 _ := Walk.of TT_ok Tryd.func30 Tryd.results30
    refine ce W 0 rfl rfl (hok) rfl ?_
    refine sp W 0 rfl rfl rfl (fun h2 => ?_) (fun h2 => ?_)
    · refine rp W 0 rfl rfl rfl (.tup ⟨.refl, .no id, trivial⟩)
    · exact absurd (Classical.not_not.1 h2) h
theorem fnExactFloatNear_law (w : Int) (p : Prop) (t u : List Int) (ht : t.length ≤ 9223372036854775807) (hu : u.length ≤ 9223372036854775807) (h1 : ∀ n ∈ t, Pf.InK .i64 n) (h2 : ∀ n ∈ u, Pf.InK .i64 n) : AFunP Tryd.prog 8 [.int .i64 w, frF p t u] (· = .pr True) := by
  refine afun_of Tryd.func8 Tryd.call8 rfl Tryd.ntmps8 rfl ?_
  have W : Walk Tryd.prog TT 8 _ := Walk.of TT_ok Tryd.func8 Tryd.results8
  refine ce W 0 rfl rfl (szFrac_ok p t u 1048576 (by omega) (by omega) ht hu) rfl ?_
  refine sp W 0 rfl rfl rfl (fun h => ?_) (fun h => ?_)
  · refine rp W 0 rfl rfl rfl (.yes trivial)
  obtain ⟨lt, lu, -⟩ := szF_le h
  have k1 := specNear_any w p t u lt lu
  have k2 := implNear_any w p t u lt lu
  generalize nearN w p t u = z at *
  generalize ((w = 32 ∨ w = 64) ∧ frOk p t u) = q at *
  refine ce W 0 rfl rfl (toFrac_ok p t u lt lu) rfl ?_
  refine ce W 0 rfl rfl (k1) rfl ?_
  refine cn W 0 rfl rfl rfl (toFrac_new p t u lt lu) ?_
  rintro _ _ ⟨rfl, rfl⟩
  refine ⟨_, _, rfl, rfl, ?_⟩
  refine cb W 0 rfl rfl rfl rfl (k2) rfl ?_
  refine sp W 0 rfl rfl rfl (fun h3 => ?_) (fun h3 => ?_)
  · exact absurd rfl h3
  refine sp W 0 rfl rfl rfl (fun h4 => ?_) (fun h4 => ?_)
  · exact absurd Iff.rfl h4
  refine dre W 0 4 [] [frF p t u, .pr ((p ↔ p) ∧ t = t ∧ u = u)] rfl rfl rfl ⟨(toFrac_ok p t u lt lu).at rfl _, (eqFrac_ok p p t u t u (by omega) (by omega)).bor rfl (by simp [AllC]) rfl (fun _ h => by rw [h]; rfl), trivial⟩ rfl ?_
  refine sp W 0 rfl rfl rfl (fun h5 => ?_) (fun h5 => ?_)
  · exact absurd ⟨Iff.rfl, rfl, rfl⟩ h5
  refine rp W 0 rfl rfl rfl (.yes trivial)
end Pf
/- Floats and numbers: roundings of floats, what lies between -/
namespace Pf
open Go Go.Proofs
theorem tv_vl {w n : Int} (h : n.natAbs < fT w) : tv w (vl w n) = n.natAbs ∧ te w (vl w n) := by
  have hb := two_nz (fK w)
  have k := tv_of (w := w) (p := n < 0) (a := fv (fF w) n.natAbs) (b := 2 ^ fK w) (r := vl w n) hb rfl
  have e1 : fv (fF w) n.natAbs * 2 ^ fK w / 2 ^ fK w = fv (fF w) n.natAbs := Nat.mul_div_cancel _ (Nat.pow_pos (by omega))
  have e2 : tvN w (fv (fF w) n.natAbs) (2 ^ fK w) = n.natAbs := by
    unfold tvN
    rw [e1]
    exact trn_eq (by omega) (Nat.le_refl _) (.inr (fv_step _ _))
  refine ⟨by rw [← k.1, e2], k.2.1 ?_⟩
  unfold teN
  rw [e2]
theorem dn_vl {w n : Int} (h : n.natAbs < fT w) : dn w (vl w n) = n ∧ up w (vl w n) = n := by
  obtain ⟨h1, h2⟩ := tv_vl h
  unfold dn up nx
  rw [if_pos h2, h1]
  by_cases hn : n < 0
  · rw [if_pos (vl_lt.2 hn)]; omega
  · rw [if_neg (fun k => hn (vl_lt.1 k))]; omega
theorem fv_sgn (F : Nat) (a b : Nat) : sgn ((fv F a : Int) - fv F b) = sgn ((a : Int) - b) := by
  rcases Nat.lt_trichotomy a b with h | h | h
  · have := fv_lt (F := F) h; unfold sgn; omega
  · subst h; unfold sgn; omega
  · have := fv_lt (F := F) h; unfold sgn; omega
theorem cmp_vl (w a b : Int) : cmpR (vl w a) (vl w b) = sgn (a - b) := by
  unfold vl
  rw [cmpR_mk (two_nz _) (two_nz _), ← Int.sub_mul, sgn_mul_pos (Int.natCast_pos.2 (Nat.pow_pos (by omega)))]
  have k1 := fv_sgn (fF w) a.natAbs b.natAbs
  have p1 : a ≠ 0 → fv (fF w) a.natAbs ≠ 0 := fun h => fv_pos (by omega)
  have p2 : b ≠ 0 → fv (fF w) b.natAbs ≠ 0 := fun h => fv_pos (by omega)
  have z1 : a = 0 → fv (fF w) a.natAbs = 0 := fun h => by subst h; exact fv_zero _
  have z2 : b = 0 → fv (fF w) b.natAbs = 0 := fun h => by subst h; exact fv_zero _
  generalize fv (fF w) a.natAbs = x at *
  generalize fv (fF w) b.natAbs = y at *
  unfold sgn at *
  by_cases ha : a < 0
  · rw [sg_yes ha]
    by_cases hb : b < 0
    · rw [sg_yes hb]; omega
    · rw [sg_no hb]; omega
  · rw [sg_no ha]
    by_cases hb : b < 0
    · rw [sg_yes hb]; omega
    · rw [sg_no hb]; omega
theorem cmpR_neg (r s : Rat) : cmpR (-r) (-s) = - cmpR r s := by
  have := cmpR_xy r s
  rw [this, cmpR_xy, Rat.neg_num, Rat.neg_num, Rat.neg_den, Rat.neg_den, Int.neg_mul, Int.neg_mul]
  unfold sgn; omega
theorem cmpR_swap (r s : Rat) : cmpR s r = - cmpR r s := by
  rw [cmpR_xy, cmpR_xy]; unfold sgn; omega
theorem te_iff {w : Int} {r : Rat} : te w r ↔ dn w r = up w r := by
  unfold dn up nx
  by_cases h : te w r
  · simp [h]
  · simp only [h, if_false, false_iff]
    split <;> omega
open Classical in
theorem cmp_tv {w : Int} {r : Rat} (h0 : ¬ r < 0) : cmpR (vl w (tv w r)) r = (if te w r then 0 else -1) ∧ (tv w r + 1 ≠ fT w → cmpR (vl w ((tv w r : Int) + 1)) r = 1) := by
  have hd : 0 < r.den := Nat.pos_of_ne_zero r.den_nz
  have hr : mkRat (r.num.natAbs : Int) r.den = r := by have := mk_R r; rwa [sg_no h0] at this
  have key : ∀ m : Nat, cmpR (vl w m) r = sgn ((fv (fF w) m * r.den : Nat) - (r.num.natAbs * 2 ^ fK w : Nat) : Int) := fun m => by
    unfold vl
    conv => lhs; rw [← hr]
    rw [cmpR_mk (two_nz _) r.den_nz, sg_no (by omega), Int.natAbs_natCast, ← Int.natCast_mul, ← Int.natCast_mul]
  have hle : fv (fF w) (tv w r) * r.den ≤ r.num.natAbs * 2 ^ fK w := (Nat.le_div_iff_mul_le hd).1 (trn_fv (fF w) (fT w) (r.num.natAbs * 2 ^ fK w / r.den))
  have hnx := trn_next (fF w) (fT w) (r.num.natAbs * 2 ^ fK w / r.den)
  have hte : te w r ↔ fv (fF w) (tv w r) * r.den = r.num.natAbs * 2 ^ fK w := Iff.rfl
  refine ⟨?_, fun hT => ?_⟩
  · rw [key]
    by_cases h : te w r
    · rw [if_pos h, hte.1 h]; unfold sgn; omega
    · rw [if_neg h]
      have := mt hte.2 h
      unfold sgn; omega
  · have e : ((tv w r : Int) + 1) = ((tv w r + 1 : Nat) : Int) := by omega
    rw [e, key]
    have hT' : tv w r ≠ fT w - 1 := by have := fT_pos w; omega
    have h1 : r.num.natAbs * 2 ^ fK w / r.den < fv (fF w) (tv w r + 1) := hnx.resolve_left hT'
    have h2 := (Nat.div_lt_iff_lt_mul hd).1 h1
    unfold sgn; omega
open Classical in
theorem lo_hi0 {w : Int} {r : Rat} (h0 : ¬ r < 0) : (dn w r ≠ -(fT w : Int) → cmpR (vl w (dn w r)) r = if te w r then 0 else -1) ∧ (up w r ≠ (fT w : Int) → cmpR (vl w (up w r)) r = if te w r then 0 else 1) := by
  obtain ⟨k1, k2⟩ := cmp_tv (w := w) h0
  refine ⟨fun _ => ?_, fun h => ?_⟩
  · rw [show dn w r = tv w r from if_neg h0]; exact k1
  · have e : up w r = nx w r := if_neg h0
    rw [e] at h ⊢
    unfold nx at h ⊢
    by_cases ht : te w r
    · rw [if_pos ht, if_pos ht, k1, if_pos ht]
    · rw [if_neg ht] at h ⊢
      rw [if_neg ht]
      exact k2 (by omega)
open Classical in
theorem lo_hi (w : Int) (r : Rat) : (dn w r ≠ -(fT w : Int) → cmpR (vl w (dn w r)) r = if te w r then 0 else -1) ∧ (up w r ≠ (fT w : Int) → cmpR (vl w (up w r)) r = if te w r then 0 else 1) := by
  by_cases h0 : r < 0
  · have h1 : ¬ -r < 0 := by rw [num_neg, Rat.neg_num]; have := num_neg.1 h0; omega
    obtain ⟨k1, k2⟩ := lo_hi0 (w := w) h1
    have et := (tv_neg w r).2
    rw [dn_neg, vl_negate, cmpR_neg] at k1
    rw [up_neg, vl_negate, cmpR_neg] at k2
    by_cases ht : te w r
    · rw [if_pos (et.2 ht)] at k1 k2
      rw [if_pos ht, if_pos ht]
      exact ⟨fun h => by have := k2 (by omega); omega, fun h => by have := k1 (by omega); omega⟩
    · rw [if_neg (fun k => ht (et.1 k))] at k1 k2
      rw [if_neg ht, if_neg ht]
      exact ⟨fun h => by have := k2 (by omega); omega, fun h => by have := k1 (by omega); omega⟩
  · exact lo_hi0 h0
theorem nearF_vl {w n : Int} (hw : w = 32 ∨ w = 64) (h : n.natAbs < fT w) : nearF w (vl w n) = n := by
  have ht := top_fT hw
  obtain ⟨e1, e2⟩ := dn_vl h
  unfold nearF
  rw [e1, e2, if_neg (by omega), if_neg (by omega), ite_self]
theorem tmod2 (n : Int) : n.tmod 2 = 0 ↔ n % 2 = 0 := by
  rw [← Int.dvd_iff_tmod_eq_zero, Int.dvd_iff_emod_eq_zero]
theorem up_dn1 (w : Int) (r : Rat) : dn w r ≤ up w r ∧ up w r ≤ dn w r + 1 := by
  have := nx_le w r
  unfold dn up
  split <;> omega
theorem nearF_rng {w : Int} {r : Rat} (hw : w = 32 ∨ w = 64) : -top w < nearF w r ∧ nearF w r < top w := by
  have ht := top_fT hw
  have h1 := dn_rng w r
  have h2 := up_rng w r
  have h3 := fT_rng w
  have h4 := up_dn1 w r
  unfold nearF
  split
  · omega
  · split
    · omega
    · split <;> omega
/-- The nearest one, of two finite ones. -/
theorem nearF_fin {w : Int} {r : Rat} (h1 : dn w r ≠ -top w) (h2 : up w r ≠ top w) :
    (cmpR (r + -vl w (dn w r)) (vl w (up w r) + -r) = 0 → dn w r ≠ up w r → nearF w r % 2 = 0) ∧
    ((nearF w r = dn w r ∧ cmpR (r + -vl w (dn w r)) (vl w (up w r) + -r) ≤ 0) ∨ (nearF w r = up w r ∧ 0 ≤ cmpR (r + -vl w (dn w r)) (vl w (up w r) + -r))) := by
  have h4 := up_dn1 w r
  unfold nearF
  rw [if_neg h1, if_neg h2, cmpR_near]
  have hc := cmpR_rng (r + r) (vl w (dn w r) + vl w (up w r))
  have t2 := tmod2 (dn w r)
  generalize cmpR (r + r) (vl w (dn w r) + vl w (up w r)) = c at *
  generalize dn w r = lo at *
  generalize up w r = hi at *
  by_cases h : c < 0 ∨ (c = 0 ∧ lo.tmod 2 = 0)
  · rw [if_pos h]
    exact ⟨fun k1 k2 => by omega, .inl ⟨rfl, by omega⟩⟩
  · rw [if_neg h]
    exact ⟨fun k1 k2 => by omega, .inr ⟨rfl, by omega⟩⟩
end Pf
/- FloatFrac, FloatDown, FloatUp, the model's FracCmp -/
namespace Pf
open Go Go.Proofs
theorem bitFin {w n : Int} (h : bitOk w n) (h2 : ¬ n.natAbs < fT w) : n = top w ∨ n = -top w := by
  have := top_fT h.1
  have := h.2
  omega
theorem partNo_impl (w n : Int) (hn : InI n) (h : ¬ ((w = 32 ∨ w = 64) ∧ n.natAbs < fT w)) : AFunP Tryd.prog 74 [.int .i64 w, .int .i64 n] (· = .tup [.agg [.pr False, .int .u64 0, .int .i64 0], .pr False]) := by
  refine afun_of Tryd.func74 Tryd.call74 rfl Tryd.ntmps74 rfl ?_
  have W : Walk Tryd.prog TT 74 _ := Walk.of TT_ok Tryd.func74 Tryd.results74
  refine ce W 0 rfl rfl (formatOf_ok w) rfl ?_
  by_cases hb : bitOk w n
  · have ht := top_fT hb.1
    have hr := top_rng w
    have h0 := hb.2
    refine dre W 0 11 [(19, false)] [.pr (bitOk w n), .int .i64 n.natAbs] rfl rfl rfl ⟨(implBitOk_ok w n).at rfl _, (size_ok n (by omega) (by omega)).at rfl _, trivial⟩ rfl ?_ (hp := by simp [AllP, hb])
    refine sp W 0 rfl rfl rfl (fun h1 => ?_) (fun h1 => ?_)
    · refine rp W 0 rfl rfl rfl (.tup ⟨.agg ⟨.no id, .refl, .refl, trivial⟩, .no id, trivial⟩)
    · exact absurd ⟨hb.1, by omega⟩ h
  · refine dre W 0 11 [(19, true)] [.pr (bitOk w n)] rfl rfl rfl ⟨(implBitOk_ok w n).at rfl _, trivial⟩ rfl ?_ (hp := by simp [AllP, hb])
    refine rp W 0 rfl rfl rfl (.tup ⟨.agg ⟨.no id, .refl, .refl, trivial⟩, .no id, trivial⟩)
theorem partNo_spec (w n : Int) (h : ¬ ((w = 32 ∨ w = 64) ∧ n.natAbs < fT w)) : AFunP Tryd.prog 77 [.int .i64 w, .int .i64 n] (· = .tup [.agg [.pr False, .int .u64 0, .int .i64 0], .pr False]) := by
  have hr := top_rng w
  refine afun_of Tryd.func77 Tryd.call77 rfl Tryd.ntmps77 rfl ?_
  have W : Walk Tryd.prog TT 77 _ := Walk.of TT_ok Tryd.func77 Tryd.results77
  refine ce W 0 rfl rfl (specBitOk_ok w n) rfl ?_
  refine sp W 0 rfl rfl rfl (fun h1 => ?_) (fun h1 => ?_)
  · refine rp W 0 rfl rfl rfl (.tup ⟨.agg ⟨.no id, .refl, .refl, trivial⟩, .no id, trivial⟩)
  · have h1 := Classical.not_not.1 h1
    have ht := top_fT h1.1
    have h0 := h1.2
    refine ce W 0 rfl rfl (specBitTop_ok w) rfl ?_
    refine sp W 0 rfl rfl rfl (fun h2 => ?_) (fun h2 => ?_)
    · refine rp W 0 rfl rfl rfl (.tup ⟨.agg ⟨.no id, .refl, .refl, trivial⟩, .no id, trivial⟩)
    · refine ce W 0 rfl rfl (specBitTop_ok w) rfl ?_
      refine sp W 0 rfl rfl rfl (fun h3 => ?_) (fun h3 => ?_)
      · refine rp W 0 rfl rfl rfl (.tup ⟨.agg ⟨.no id, .refl, .refl, trivial⟩, .no id, trivial⟩)
      · exact absurd ⟨h1.1, by omega⟩ h
/-- A finite float. -/
def finF (w n : Int) : Prop := (w = 32 ∨ w = 64) ∧ n.natAbs < fT w
theorem part_impl (w n : Int) (h : finF w n) : ∃ p s e, AFunP Tryd.prog 74 [.int .i64 w, .int .i64 n] (· = .tup [.agg [.pr p, .int .u64 s, .int .i64 e], .pr True]) := by
  obtain ⟨rfl | rfl, h2⟩ := h
  · exact ⟨_, _, _, bitPart_32 n h2⟩
  · exact ⟨_, _, _, bitPart_64 n h2⟩
theorem part_spec (w n : Int) (h : finF w n) : ∃ p s e, AFunP Tryd.prog 77 [.int .i64 w, .int .i64 n] (· = .tup [.agg [.pr p, .int .u64 s, .int .i64 e], .pr True]) := by
  obtain ⟨rfl | rfl, h2⟩ := h
  · exact ⟨_, _, _, specPart_32 n h2⟩
  · exact ⟨_, _, _, specPart_64 n h2⟩
theorem vl_small {w n : Int} (h : finF w n) : small (vl w n) := midN_mono (vl_midN h.1 h.2) (by decide)
theorem vl_frOk {w n : Int} (h : finF w n) : frOk (vl w n < 0) (dt (vl w n)) (db (vl w n)) := frOk_iff.2 (vl_small h)
theorem implFloatFrac_yes (w n : Int) (h : finF w n) : AFunN Tryd.prog 26 [.int .i64 w, .int .i64 n] (NewFT (vl w n < 0) (dt (vl w n)) (db (vl w n))) := by
  obtain ⟨p, s, e, hk⟩ := part_impl w n h
  have hs := vl_small h
  refine afun_of Tryd.func26 Tryd.call26 rfl Tryd.ntmps26 rfl ?_
  have W : Walk Tryd.prog TT 26 _ := Walk.of TT_ok Tryd.func26 Tryd.results26
  refine ce W 0 rfl rfl (hk) rfl ?_
  refine sp W 0 rfl rfl rfl (fun h1 => ?_) (fun h1 => ?_)
  · exact absurd trivial h1
  refine ce W 0 rfl rfl (value_w w n h.1 h.2) rfl ?_
  refine cn W 0 rfl rfl rfl (given_new (vl w n < 0) (dt (vl w n)) (db (vl w n)) hs.1 hs.2) ?_
  rintro _ _ ⟨rfl, rfl⟩
  refine ⟨_, _, rfl, rfl, ?_⟩
  refine rn W 0 rfl rfl rfl (.tup [.agg [.pr (vl w n < 0), .sl 0 0 0 (dt (vl w n)).length, .sl 1 0 0 (db (vl w n)).length], .pr True]) rfl .refl ⟨rfl, by simp [blksM]⟩
theorem implFloatFrac_no (w n : Int) (hn : InI n) (h : ¬ finF w n) : AFunP Tryd.prog 26 [.int .i64 w, .int .i64 n] (· = nilF) := by
  refine afun_of Tryd.func26 Tryd.call26 rfl Tryd.ntmps26 rfl ?_
  have W : Walk Tryd.prog TT 26 _ := Walk.of TT_ok Tryd.func26 Tryd.results26
  refine ce W 0 rfl rfl (partNo_impl w n hn h) rfl ?_
  refine sp W 0 rfl rfl rfl (fun h1 => ?_) (fun h1 => ?_)
  · refine rp W 0 rfl rfl rfl (.refl)
  · exact absurd h1 (by simp)
theorem specFloatFrac_yes (w n : Int) (h : finF w n) : AFunP Tryd.prog 27 [.int .i64 w, .int .i64 n] (· = .tup [frR (vl w n), .pr True]) := by
  obtain ⟨p, s, e, hk⟩ := part_spec w n h
  have hs := vl_small h
  refine afun_of Tryd.func27 Tryd.call27 rfl Tryd.ntmps27 rfl ?_
  have W : Walk Tryd.prog TT 27 _ := Walk.of TT_ok Tryd.func27 Tryd.results27
  refine ce W 0 rfl rfl (hk) rfl ?_
  refine sp W 0 rfl rfl rfl (fun h1 => ?_) (fun h1 => ?_)
  · exact absurd trivial h1
  refine cq W 0 rfl rfl (l8Of_w w n h.1 h.2) ?_
  rintro _ ⟨A, B, rfl, a1, a2, a3, a4⟩
  refine ⟨_, rfl, ?_⟩
  refine ce W 0 rfl rfl (l6Make_ok (n < 0) A B a1 (by omega) (by omega)) rfl ?_
  have e1 := frF_low (p := n < 0) a1 a2
  have e2 : fits A B := (fits_iff (n < 0) A B a1).2 (by rw [a2]; exact hs)
  rw [made_eq, resF_yes e2, e1]
  refine rp W 0 rfl rfl rfl (.refl)
theorem specFloatFrac_no (w n : Int) (h : ¬ finF w n) : AFunP Tryd.prog 27 [.int .i64 w, .int .i64 n] (· = .tup [frF False [] [], .pr False]) := by
  refine afun_of Tryd.func27 Tryd.call27 rfl Tryd.ntmps27 rfl ?_
  have W : Walk Tryd.prog TT 27 _ := Walk.of TT_ok Tryd.func27 Tryd.results27
  refine ce W 0 rfl rfl (partNo_spec w n h) rfl ?_
  refine sp W 0 rfl rfl rfl (fun h1 => ?_) (fun h1 => ?_)
  · refine rp W 0 rfl rfl rfl (sub_noF)
  · exact absurd h1 (by simp)
open Classical in
/-- The floats next to what is a fraction. -/
noncomputable def nextN (w : Int) (p : Prop) (t u : List Int) : Int × Int := if (w = 32 ∨ w = 64) ∧ frOk p t u then (dn w (rat p t u), up w (rat p t u)) else (0, 0)
theorem frOk_small {p : Prop} {t u : List Int} (h : frOk p t u) : small (rat p t u) := frOk_iff.1 (by
  obtain ⟨e1, e2, e3⟩ := frOk_rat h
  rw [← e1, ← e2, ← propext e3]; exact h)
theorem small_mid {r : Rat} (h : small r) : mid r := ⟨Nat.le_trans h.1 (by decide), Nat.le_trans h.2 (by decide)⟩
theorem implFloatDown_ok (w : Int) (p : Prop) (t u : List Int) (ht : t.length ≤ 1048576) (hu : u.length ≤ 1048576) : AFunP Tryd.prog 28 [.int .i64 w, frF p t u] (· = .tup [.int .i64 (nextN w p t u).1, .pr ((w = 32 ∨ w = 64) ∧ frOk p t u)]) := by
  have hok := floated_ok w p t u (by omega) (by omega)
  refine afun_of Tryd.func28 Tryd.call28 rfl Tryd.ntmps28 rfl ?_
  have W : Walk Tryd.prog TT 28 _ := Walk.of TT_ok Tryd.func28 Tryd.results28
  refine ce W 0 rfl rfl (hok) rfl ?_
  refine sp W 0 rfl rfl rfl (fun h1 => ?_) (fun h1 => ?_)
  · rw [nextN, if_neg h1, eq_false h1]
    refine rp W 0 rfl rfl rfl (.tup ⟨.refl, .no id, trivial⟩)
  · have h1 := Classical.not_not.1 h1
    have ka := around_w w h1.1 (rat p t u) (small_mid (frOk_small h1.2))
    rw [← frR_eq h1.2] at ka
    rw [nextN, if_pos h1, eq_true h1]
    refine ce W 0 rfl rfl (ka) rfl ?_
    refine rp W 0 rfl rfl rfl (.tup ⟨.refl, .yes trivial, trivial⟩)
theorem implFloatUp_ok (w : Int) (p : Prop) (t u : List Int) (ht : t.length ≤ 1048576) (hu : u.length ≤ 1048576) : AFunP Tryd.prog 29 [.int .i64 w, frF p t u] (· = .tup [.int .i64 (nextN w p t u).2, .pr ((w = 32 ∨ w = 64) ∧ frOk p t u)]) := by
  have hok := floated_ok w p t u (by omega) (by omega)
  refine afun_of Tryd.func29 Tryd.call29 rfl Tryd.ntmps29 rfl ?_
  have W : Walk Tryd.prog TT 29 _ := Walk.of TT_ok Tryd.func29 Tryd.results29
  refine ce W 0 rfl rfl (hok) rfl ?_
  refine sp W 0 rfl rfl rfl (fun h1 => ?_) (fun h1 => ?_)
  · rw [nextN, if_neg h1, eq_false h1]
    refine rp W 0 rfl rfl rfl (.tup ⟨.refl, .no id, trivial⟩)
  · have h1 := Classical.not_not.1 h1
    have ka := around_w w h1.1 (rat p t u) (small_mid (frOk_small h1.2))
    rw [← frR_eq h1.2] at ka
    rw [nextN, if_pos h1, eq_true h1]
    refine ce W 0 rfl rfl (ka) rfl ?_
    refine rp W 0 rfl rfl rfl (.tup ⟨.refl, .yes trivial, trivial⟩)
theorem specFloatDown_ok (w : Int) (p : Prop) (t u : List Int) (ht : t.length ≤ 1048576) (hu : u.length ≤ 1048576) : AFunP Tryd.prog 50 [.int .i64 w, frF p t u] (· = .tup [.int .i64 (nextN w p t u).1, .pr ((w = 32 ∨ w = 64) ∧ frOk p t u)]) := by
  have hok := specFracOk_ok p t u (by omega) (by omega)
  refine afun_of Tryd.func50 Tryd.call50 rfl Tryd.ntmps50 rfl ?_
  have W : Walk Tryd.prog TT 50 _ := Walk.of TT_ok Tryd.func50 Tryd.results50
  refine ce W 0 rfl rfl (l1Width_ok w) rfl ?_
  refine sp W 0 rfl rfl rfl (fun h0 => ?_) (fun h0 => ?_)
  · rw [nextN, if_neg (fun k => h0 k.1), eq_false (show ¬ ((w = 32 ∨ w = 64) ∧ frOk p t u) from fun k => h0 k.1)]
    refine rp W 0 rfl rfl rfl (.tup ⟨.refl, .no id, trivial⟩)
  · have h0 := Classical.not_not.1 h0
    refine ce W 0 rfl rfl (hok) rfl ?_
    refine sp W 0 rfl rfl rfl (fun h1 => ?_) (fun h1 => ?_)
    · rw [nextN, if_neg (fun k => h1 k.2), eq_false (show ¬ ((w = 32 ∨ w = 64) ∧ frOk p t u) from fun k => h1 k.2)]
      refine rp W 0 rfl rfl rfl (.tup ⟨.refl, .no id, trivial⟩)
    · have h1 := Classical.not_not.1 h1
      obtain ⟨e1, e2, e3⟩ := frOk_rat h1
      have hs := frOk_small h1
      have k := (l8Round_w w h0 (rat p t u < 0) (rat p t u).num.natAbs (rat p t u).den (rat p t u) (rat p t u).den_nz (mk_R _) (Nat.le_trans hs.1 (by decide)) (Nat.le_trans hs.2 (by decide))).1
      have ef : frF p t u = .agg [.pr (rat p t u < 0), .fi .i64 (dig (rat p t u).num.natAbs), .fi .i64 (dig (rat p t u).den)] := frR_eq h1
      rw [← ef] at k
      rw [nextN, if_pos ⟨h0, h1⟩, eq_true (show (w = 32 ∨ w = 64) ∧ frOk p t u from ⟨h0, h1⟩)]
      refine ce W 0 rfl rfl (l8Frac_ok p t u) rfl ?_
      refine ce W 0 rfl rfl (k) rfl ?_
      refine rp W 0 rfl rfl rfl (.tup ⟨.refl, .yes trivial, trivial⟩)
open Classical in
/-- How two fractions compare; 2, if one is none. -/
noncomputable def fcmpN (p : Prop) (t u : List Int) (q : Prop) (x y : List Int) : Int := if frOk p t u ∧ frOk q x y then cmpR (rat p t u) (rat q x y) else 2
theorem specFracCmp_ok (p : Prop) (t u : List Int) (q : Prop) (x y : List Int) (ht : t.length ≤ 1048576) (hu : u.length ≤ 1048576) (hx : x.length ≤ 1048576) (hy : y.length ≤ 1048576) : AFunP Tryd.prog 33 [frF p t u, frF q x y] (· = .int .i64 (fcmpN p t u q x y)) := by
  refine afun_of Tryd.func33 Tryd.call33 rfl Tryd.ntmps33 rfl ?_
  have W : Walk Tryd.prog TT 33 _ := Walk.of TT_ok Tryd.func33 Tryd.results33
  refine ce W 0 rfl rfl (specFracOk_ok p t u (by omega) (by omega)) rfl ?_
  refine sp W 0 rfl rfl rfl (fun h1 => ?_) (fun h1 => ?_)
  · rw [fcmpN, if_neg (fun k => h1 k.1)]
    refine rp W 0 rfl rfl rfl (.refl)
  · have h1 := Classical.not_not.1 h1
    refine ce W 0 rfl rfl (specFracOk_ok q x y (by omega) (by omega)) rfl ?_
    refine sp W 0 rfl rfl rfl (fun h2 => ?_) (fun h2 => ?_)
    · rw [fcmpN, if_neg (fun k => h2 k.2)]
      refine rp W 0 rfl rfl rfl (.refl)
    · have h2 := Classical.not_not.1 h2
      rw [fcmpN, if_pos ⟨h1, h2⟩]
      obtain ⟨a, b, rfl, rfl, ha, hb, hb0, hap, hab⟩ := frOk_dig h1
      obtain ⟨c, d, rfl, rfl, hc, hd, hd0, hcq, hcd⟩ := frOk_dig h2
      have kn := l6Neg_ok q (dig c) (dig d) h2.1 h2.2.1
      have ks := l6Sum_ok p (¬ q ∧ dig c ≠ []) a b c d (by omega) (by omega) (by omega) (by omega)
      have e1 : sg (¬ q ∧ dig c ≠ []) (c * b) = - sg q (c * b) := by
        by_cases hq : q
        · rw [sg_yes hq, sg_no (fun k => k.1 hq), Int.neg_neg]
        · rw [sg_no hq]
          by_cases hc0 : c = 0
          · subst hc0; rw [Nat.zero_mul, sg_zero]; rfl
          · rw [sg_yes ⟨hq, fun k => hc0 (dig_nil.1 k)⟩]
      have e2 : cmpR (rat p (dig a) (dig b)) (rat q (dig c) (dig d)) = sgn (sg (sumP p (¬ q ∧ dig c ≠ []) (a * d) (c * b)) (sumT p (¬ q ∧ dig c ≠ []) (a * d) (c * b))) := by
        unfold rat
        rw [nm_dig, nm_dig, nm_dig, nm_dig, cmpR_mk hb0 hd0, sg_sum, e1, sg_mul_nat, sg_mul_nat]
        congr 1
      have lx := dig_mono (sumT_le p (¬ q ∧ dig c ≠ []) (a * d) (c * b)) (dig_len_add (dig_len_mul ha hd) (dig_len_mul hc hb))
      rw [e2]
      generalize sumT p (¬ q ∧ dig c ≠ []) (a * d) (c * b) = T at *
      generalize sumP p (¬ q ∧ dig c ≠ []) (a * d) (c * b) = P at *
      have e0 : (0 : Int) < (dig T).length ↔ T ≠ 0 := by rw [len_nil, ne_eq, dig_nil]
      refine dre W 0 10 [] [frF (¬ q ∧ dig c ≠ []) (dig c) (dig d), .tup [.pr P, .fi .i64 (dig T), .fi .i64 (dig (b * d))]] rfl rfl rfl ⟨kn.at rfl _, ks.at rfl _, trivial⟩ rfl ?_
      refine sp W 0 rfl rfl rfl (fun h3 => ?_) (fun h3 => ?_)
      · have hT : T = 0 := Classical.not_not.1 (mt e0.2 (by omega))
        subst hT
        refine rp W 0 rfl rfl rfl (.int (by rw [sg_zero]; decide))
      · have hT : T ≠ 0 := e0.1 (by omega)
        refine sp W 0 rfl rfl rfl (fun h4 => ?_) (fun h4 => ?_)
        · refine rp W 0 rfl rfl rfl (.int (by rw [sg_yes h4]; unfold sgn; omega))
        · refine rp W 0 rfl rfl rfl (.int (by rw [sg_no h4]; unfold sgn; omega))
end Pf
/- Pairs and boxes: steps, what two have in common. -/
namespace Pf
open Go Go.Proofs

def gap (a b : Int) : Int := if b < a then 0 else b - a
/-- Two boxes. -/
def bmeetOk (w : Int) (a b : List (Int × Int)) : Prop := boxOk w a ∧ boxOk w b ∧ a.length = b.length ∧ ∀ i, i < a.length → meetOk w (a.getD i (0, 0)) (b.getD i (0, 0))
open Classical in
noncomputable def bmeet (w : Int) (a b : List (Int × Int)) : List (Int × Int) := if bmeetOk w a b then (List.range a.length).map fun i => pmeet w (a.getD i (0, 0)) (b.getD i (0, 0)) else []
theorem bx_nil : Sub (.agg [.nils]) (bx []) := .agg ⟨.nils_fz, trivial⟩
end Pf
/- Boxes: one within another, units, paths, fineness. -/
namespace Pf
open Go Go.Proofs

def boxIs (l m : List (Int × Int)) : Prop := l.length = m.length ∧ ∀ i, i < l.length → (m.getD i (0, 0)).1 ≤ (l.getD i (0, 0)).1 ∧ (l.getD i (0, 0)).2 ≤ (m.getD i (0, 0)).2
/-- How many boxes are taken at most. -/
def unitsL : List (Int × Int) → Int → Int
  | [], u => u
  | p :: l, u => unitsL l (if 0 < gap p.1 p.2 then min 1000000000 (u * (4 * min (gap p.1 p.2) 1000000000 - 1)) else u)
open Classical in
noncomputable def units (w : Int) (l : List (Int × Int)) : Int := if boxOk w l then unitsL l 1 else 0
theorem unitsL_take (l : List (Int × Int)) (u : Int) (i : Nat) (h : i < l.length) : unitsL (l.take (i + 1)) u = (if 0 < gap (l.getD i (0, 0)).1 (l.getD i (0, 0)).2 then min 1000000000 (unitsL (l.take i) u * (4 * min (gap (l.getD i (0, 0)).1 (l.getD i (0, 0)).2) 1000000000 - 1)) else unitsL (l.take i) u) := by
  induction l generalizing u i with
  | nil => simp at h
  | cons p l ih =>
    cases i with
    | zero => simp [unitsL]
    | succ i =>
      have := ih (if 0 < gap p.1 p.2 then min 1000000000 (u * (4 * min (gap p.1 p.2) 1000000000 - 1)) else u) i (by simpa using h)
      simpa [unitsL] using this
theorem gap_rng {a b : Int} (h : -9218868437227405312 ≤ a ∧ a ≤ b ∧ b ≤ 9218868437227405312) : gap a b = b - a ∧ 0 ≤ gap a b ∧ gap a b ≤ 18437736874454810624 := by
  unfold gap; rw [if_neg (by omega)]; omega
theorem boxOk_get {w : Int} {l : List (Int × Int)} (h : boxOk w l) {i : Nat} (hi : i < l.length) : pairOk w (l.getD i (0, 0)).1 (l.getD i (0, 0)).2 := h.2.2 _ (getD_mem hi)
end Pf
/- Boxes: paths, fineness; the reference's pairs and boxes. -/
namespace Pf
open Go Go.Proofs

/-- How many boxes wait at most. -/
def pathL : List (Int × Int) → Int → Int
  | [], u => u
  | p :: l, u => pathL l (u + bitLen (gap p.1 p.2))
open Classical in
noncomputable def path (w : Int) (l : List (Int × Int)) : Int := if boxOk w l then pathL l 1 else 0
theorem pathL_take (l : List (Int × Int)) (u : Int) (i : Nat) (h : i < l.length) : pathL (l.take (i + 1)) u = pathL (l.take i) u + bitLen (gap (l.getD i (0, 0)).1 (l.getD i (0, 0)).2) := by
  induction l generalizing u i with
  | nil => simp at h
  | cons p l ih =>
    cases i with
    | zero => simp [pathL]
    | succ i => simpa [pathL] using ih (u + bitLen (gap p.1 p.2)) i (by simpa using h)
def fineN (n : Int) : Int := max 1 (min 1000000 n) + 1
def boxFine (w : Int) (l : List (Int × Int)) (n : Int) : Prop := boxOk w l ∧ ∀ a ∈ l, gap a.1 a.2 ≤ fineN n
end Pf
/- Draws of bits, pairs and boxes. -/
namespace Pf
open Go Go.Proofs

/-- A reader of bytes, at a place. -/
def rdB (b : List Int) (p : Int) : ABlk := .lst 0 [[.fi .u8 b, .int .i64 p]]
def BytesOk (b : List Int) : Prop := b.length ≤ 2000 ∧ ∀ x ∈ b, 0 ≤ x ∧ x ≤ 255
theorem BytesOk.get {b : List Int} (h : BytesOk b) (i : Nat) : 0 ≤ b.getD i 0 ∧ b.getD i 0 ≤ 255 := by
  rw [List.getD_eq_getElem?_getD]
  cases hi : b[i]? with
  | none => simp
  | some x => simpa using h.2 x (List.mem_of_getElem? hi)
/-- What a reading function does: the place goes on, no farther than so. -/
def RdQ (b : List Int) (p K : Int) (Q : AV → Prop) (u : AV) (blks : List ABlk) : Prop := ∃ p', blks = [rdB b p'] ∧ p ≤ p' ∧ p' ≤ p + K ∧ Q u
def PickV (n : Int) (u : AV) : Prop := ∃ x, u = .int .i64 x ∧ 0 ≤ x ∧ (x < n ∨ x = 0)

def OpenQ (u : AV) (H : AHeap) : Prop := u = .ptr 0 0 0 0 ∧ ∃ c, H = [rdB c 0] ∧ BytesOk c
theorem OpenQ.flat (u : AV) (H : AHeap) (h : OpenQ u H) : Pf.flat u = true ∧ flatH H := by
  obtain ⟨rfl, c, rfl, _⟩ := h
  exact ⟨rfl, rfl, trivial⟩
theorem l31Open_ok (b : List Int) (h : ∀ x ∈ b, 0 ≤ x ∧ x ≤ 255) : AFun Tryd.prog 71 [.fi .u8 b] [] OpenQ := by
  refine afun_of Tryd.func71 Tryd.call71 rfl Tryd.ntmps71 rfl ?_
  have W : Walk Tryd.prog TT 71 _ := Walk.of TT_ok Tryd.func71 Tryd.results71
  refine sp W 0 rfl rfl rfl (fun h1 => ?_) (fun h1 => ?_)
  · refine rg W 0 rfl (⟨rfl, _, rfl, ⟨List.length_take_le _ _, fun x hx => h x (List.mem_of_mem_take hx)⟩⟩)
  · refine rg W 0 rfl (⟨rfl, _, rfl, ⟨by omega, h⟩⟩)
theorem bxor_nonneg {a b : Int} (h0 : 0 ≤ a) (h1 : a ≤ 9223372036854775807) (g0 : 0 ≤ b) (g1 : b ≤ 9223372036854775807) : 0 ≤ bxor .i64 a b ∧ bxor .i64 a b ≤ 9223372036854775807 := by
  obtain ⟨m, rfl⟩ : ∃ m : Nat, a = m := ⟨a.toNat, by omega⟩
  obtain ⟨n, rfl⟩ : ∃ n : Nat, b = n := ⟨b.toNat, by omega⟩
  have a1 : (BitVec.ofInt 64 (m : Int)).toNat = m := by rw [BitVec.toNat_ofInt]; omega
  have a2 : (BitVec.ofInt 64 (n : Int)).toNat = n := by rw [BitVec.toNat_ofInt]; omega
  have e : bxor .i64 (m : Int) (n : Int) = IntKind.i64.wrap (((BitVec.ofInt 64 (m : Int) ^^^ BitVec.ofInt 64 (n : Int)).toNat : Nat) : Int) := rfl
  have h2 : m ^^^ n < 2 ^ 63 := Nat.xor_lt_two_pow (by omega) (by omega)
  rw [e, BitVec.toNat_xor, a1, a2, wrap_id (k := .i64) rfl (by omega)]
  omega
theorem pick31_ok (b : List Int) (p n : Int) (hb : BytesOk b) (h0 : 0 ≤ p) (h1 : p ≤ 1000000000) (hn : InI n) : AFunM Tryd.prog 104 [.ptr 0 0 0 0, .int .i64 n] [rdB b p] (RdQ b p 1 (PickV n)) := by
  refine afun_of Tryd.func104 Tryd.call104 rfl Tryd.ntmps104 rfl ?_
  have W : Walk Tryd.prog TT 104 _ := Walk.of TT_ok Tryd.func104 Tryd.results104
  have hl := hb.1
  unfold InI at hn
  refine sp W 0 rfl rfl rfl (fun h2 => ?_) (fun h2 => ?_)
  · refine rm W 0 [rdB b (p + 1)] rfl rfl rfl ⟨rfl, trivial⟩ rfl rfl (.int .i64 0) rfl (.refl) (⟨p + 1, rfl, by omega, by omega, 0, rfl, by omega, .inr rfl⟩)
  refine sp W 0 rfl rfl rfl (fun h3 => ?_) (fun h3 => ?_)
  · refine rm W 0 [rdB b (p + 1)] rfl rfl rfl ⟨rfl, trivial⟩ rfl rfl (.int .i64 0) rfl (.refl) (⟨p + 1, rfl, by omega, by omega, 0, rfl, by omega, .inr rfl⟩)
  refine sp W 0 rfl rfl rfl (fun h4 => ?_) (fun h4 => ?_)
  · have := hb.get (p + 1 - 1).toNat
    refine rm W 0 [rdB b (p + 1)] rfl rfl rfl ⟨rfl, trivial⟩ rfl rfl (.int .i64 (b.getD (p + 1 - 1).toNat 0 % n)) rfl (.refl) (⟨p + 1, rfl, by omega, by omega, _, rfl, Int.emod_nonneg _ (by omega), .inl (Int.emod_lt_of_pos _ (by omega))⟩)
  have k1 := Int.emod_nonneg (p + 1 - 1) (b := b.length) (by omega)
  have k2 := Int.emod_lt_of_pos (p + 1 - 1) (b := b.length) (by omega)
  have k3 := Int.emod_nonneg ((p + 1 - 1) * 7 + 3) (b := b.length) (by omega)
  have k4 := Int.emod_lt_of_pos ((p + 1 - 1) * 7 + 3) (b := b.length) (by omega)
  have k5 := hb.get ((p + 1 - 1) % b.length).toNat
  have k6 := hb.get (((p + 1 - 1) * 7 + 3) % b.length).toNat
  have k7 : 0 ≤ (p + 1 - 1) / b.length := Int.ediv_nonneg (by omega) (by omega)
  have k8 : (p + 1 - 1) / b.length ≤ p + 1 - 1 := Int.ediv_le_self _ (by omega)
  refine dre W 0 44 [] [] rfl rfl rfl trivial rfl ?_
  have kx := bxor_nonneg (a := b.getD ((p + 1 - 1) % b.length).toNat 0 * 131 + b.getD (((p + 1 - 1) * 7 + 3) % b.length).toNat 0 * 1117 + (p + 1 - 1) * 29 + (p + 1 - 1) / b.length * 53)
    (b := (b.getD ((p + 1 - 1) % b.length).toNat 0 * 131 + b.getD (((p + 1 - 1) * 7 + 3) % b.length).toNat 0 * 1117 + (p + 1 - 1) * 29 + (p + 1 - 1) / b.length * 53) / 64) (by omega) (by omega) (by omega) (by omega)
  refine rm W 0 [rdB b (p + 1)] rfl rfl rfl ⟨rfl, trivial⟩ rfl rfl (.int .i64 _) rfl (.refl) (⟨p + 1, rfl, by omega, by omega, _, rfl, Int.emod_nonneg _ (by omega), .inl (Int.emod_lt_of_pos _ (by omega))⟩)

def IntV (u : AV) : Prop := ∃ w, u = .int .i64 w ∧ -9223372036854775808 ≤ w ∧ w ≤ 9223372036854775807
theorem width31_ok (b : List Int) (p : Int) (hb : BytesOk b) (h0 : 0 ≤ p) (h1 : p ≤ 999999000) : AFunM Tryd.prog 72 [.ptr 0 0 0 0] [rdB b p] (RdQ b p 2 IntV) := by
  refine afun_of Tryd.func72 Tryd.call72 rfl Tryd.ntmps72 rfl ?_
  have W : Walk Tryd.prog TT 72 _ := Walk.of TT_ok Tryd.func72 Tryd.results72
  refine cm W 0 [(0, 0)] rfl (pick31_ok b p 32 hb (by omega) (by omega) (by unfold InI; omega)) ⟨rfl, trivial⟩ rfl rfl rfl ?_
  rintro _ _ ⟨p1, rfl, p1a, p1b, x, rfl, xa, xb⟩
  refine ⟨_, _, rfl, rfl, ?_⟩
  refine sp W 0 rfl rfl rfl (fun h2 => ?_) (fun h2 => ?_)
  · refine rm W 0 [rdB b p1] rfl rfl rfl ⟨rfl, trivial⟩ rfl rfl (.int .i64 32) rfl (.refl) (⟨p1, rfl, by omega, by omega, _, rfl, by omega, by omega⟩)
  refine sp W 0 rfl rfl rfl (fun h3 => ?_) (fun h3 => ?_)
  · refine rm W 0 [rdB b p1] rfl rfl rfl ⟨rfl, trivial⟩ rfl rfl (.int .i64 64) rfl (.refl) (⟨p1, rfl, by omega, by omega, _, rfl, by omega, by omega⟩)
  refine cm W 0 [(0, 0)] rfl (pick31_ok b p1 4 hb (by omega) (by omega) (by unfold InI; omega)) ⟨rfl, trivial⟩ rfl rfl rfl ?_
  rintro _ _ ⟨p2, rfl, p2a, p2b, y, rfl, ya, yb⟩
  refine ⟨_, _, rfl, rfl, ?_⟩
  have hy : y = 0 ∨ y = 1 ∨ y = 2 ∨ y = 3 := by omega
  have hw : (-9223372036854775808 ≤ ([0, 63, 16, -64] : List Int).getD y.toNat 0 ∧ ([0, 63, 16, -64] : List Int).getD y.toNat 0 ≤ 9223372036854775807) ∧ y.toNat < 4 := by rcases hy with rfl | rfl | rfl | rfl <;> decide
  refine rm W 0 [rdB b p2] rfl rfl rfl ⟨rfl, trivial⟩ rfl rfl (.int .i64 (([0, 63, 16, -64] : List Int).getD y.toNat 0)) rfl (.refl) (⟨p2, rfl, by omega, by omega, _, rfl, hw.1.1, hw.1.2⟩)
def U64V (u : AV) : Prop := ∃ w, u = .int .u64 w ∧ 0 ≤ w ∧ w ≤ 18446744073709551615
theorem big31_ok (b : List Int) (p : Int) (hb : BytesOk b) (h0 : 0 ≤ p) (h1 : p ≤ 999999000) : AFunM Tryd.prog 123 [.ptr 0 0 0 0] [rdB b p] (RdQ b p 8 U64V) := by
  refine afun_of Tryd.func123 Tryd.call123 rfl Tryd.ntmps123 rfl ?_
  have W : Walk Tryd.prog TT 123 _ := Walk.of TT_ok Tryd.func123 Tryd.results123
  refine go_loop W 0 300 (σ := Nat × Int × Int) (fun s => [(0, .ptr 0 0 0 0), (3, .int .u64 s.2.2), (4, .int .i64 s.1)]) (fun s => [rdB b s.2.1]) (fun s => 8 - s.1) (fun s => s.1 ≤ 8 ∧ p ≤ s.2.1 ∧ s.2.1 ≤ p + s.1 ∧ 0 ≤ s.2.2 ∧ s.2.2 ≤ 18446744073709551615) (0, p, 0) [0, 3, 4] rfl rfl rfl (by first | exact True.intro | (simp only [AllC, AllP, addN, Int.toNat_natCast, true_and, and_true, Option.getD, List.length_set, wrapU, pw1, pw7, pw8, pw16, pw23, pw32, pw52, Holds] <;> first | omega | ((repeat' apply And.intro) <;> first | omega | (intros; rfl))) | (simp [AllC, AllP, addN, cloL, clo, mrgL, mrg, wrapU, Holds] <;> omega))
    ⟨by omega, by simp, by simp, by simp, by simp⟩ ?_
  rintro ⟨i, p1, n⟩ ⟨hi, a1, a2, a3, a4⟩ ih
  dsimp only at hi a1 a2 a3 a4 ih ⊢
  refine sp W 0 rfl rfl rfl (fun h2 => ?_) (fun h2 => ?_)
  · refine cm W 1 [(0, 0)] rfl (pick31_ok b p1 256 hb (by omega) (by omega) (by unfold InI; omega)) ⟨rfl, trivial⟩ rfl rfl rfl ?_
    rintro _ _ ⟨p2, rfl, _, _, x, rfl, _, _⟩
    refine ⟨_, _, rfl, rfl, ?_⟩
    refine go_back W 1 300 (ds := [0, 3, 4]) (T1 := [(0, .ptr 0 0 0 0), (3, .int .u64 (IntKind.u64.wrap (IntKind.u64.wrap (n * 256) + IntKind.u64.wrap x))), (4, .int .i64 (i + 1 : Nat))]) rfl ?_ (by first | exact True.intro | (simp only [AllC, AllP, addN, Int.toNat_natCast, true_and, and_true, Option.getD, List.length_set, wrapU, pw1, pw7, pw8, pw16, pw23, pw32, pw52, Holds] <;> first | omega | ((repeat' apply And.intro) <;> first | omega | (intros; rfl))) | (simp [AllC, AllP, addN, cloL, clo, mrgL, mrg, wrapU, Holds] <;> omega)) (ih (i + 1, p2, IntKind.u64.wrap (IntKind.u64.wrap (n * 256) + IntKind.u64.wrap x)) ⟨?_, ?_, ?_, ?_, ?_⟩ ?_)
    · simp only [keepM, getM]
      have : IntKind.i64.wrap ((i : Int) + 1) = ((i + 1 : Nat) : Int) := by rw [wrap_id (k := .i64) rfl (by omega)]; omega
      simp [this]
    all_goals dsimp only
    all_goals first | omega | (simp only [wrapU]; omega)
  · refine rm W 0 [rdB b p1] rfl rfl rfl ⟨rfl, trivial⟩ rfl rfl (.int .u64 n) rfl (.refl) (⟨p1, rfl, by omega, by omega, _, rfl, by omega, by omega⟩)
def InB (n : Int) : Prop := -9218868437227410000 ≤ n ∧ n ≤ 9218868437227410000
def OrdV (u : AV) : Prop := ∃ w, u = .int .i64 w ∧ -9218868437227405400 ≤ w ∧ w ≤ 9218868437227405400
theorem ord31_ok (b : List Int) (p w : Int) (hb : BytesOk b) (h0 : 0 ≤ p) (h1 : p ≤ 999990000) (hw : InI w) : AFunM Tryd.prog 73 [.ptr 0 0 0 0, .int .i64 w] [rdB b p] (RdQ b p 20 OrdV) := by
  refine afun_of Tryd.func73 Tryd.call73 rfl Tryd.ntmps73 rfl ?_
  have W : Walk Tryd.prog TT 73 _ := Walk.of TT_ok Tryd.func73 Tryd.results73
  have ht := top_rng w
  refine ce W 0 rfl rfl (specBitTop_ok w) rfl ?_
  refine cm W 0 [(0, 0)] rfl (pick31_ok b p 10 hb (by omega) (by omega) (by unfold InI; omega)) ⟨rfl, trivial⟩ rfl rfl rfl ?_
  rintro _ _ ⟨p1, rfl, p1a, p1b, x, rfl, xa, xb⟩
  refine ⟨_, _, rfl, rfl, ?_⟩
  by_cases hx : x ≤ 4
  · (repeat' (first | (refine sp W 0 rfl rfl rfl (fun _ => ?_) (fun _ => ?_)) | (refine cm W 0 [(0, 0)] rfl (pick31_ok b _ _ hb (by omega) (by omega) (by unfold InI; omega)) ⟨rfl, trivial⟩ rfl rfl rfl ?_; rintro _ _ ⟨_, rfl, _, _, ⟨_, rfl, _, _⟩⟩; refine ⟨_, _, rfl, rfl, ?_⟩) | (refine cm W 0 [(0, 0)] rfl (big31_ok b _ hb (by omega) (by omega)) ⟨rfl, trivial⟩ rfl rfl rfl ?_; rintro _ _ ⟨_, rfl, _, _, ⟨_, rfl, _, _⟩⟩; refine ⟨_, _, rfl, rfl, ?_⟩))) <;> (first | (exfalso; omega) | (exact rm W 0 [rdB b _] rfl rfl rfl ⟨rfl, trivial⟩ rfl rfl (.int .i64 _) rfl (.refl) (⟨_, rfl, by omega, by omega, _, rfl, (by first | omega | (simp only [pw1, pw7, pw8, pw16, pw23, pw32, pw52] at * <;> omega)), (by first | omega | (simp only [pw1, pw7, pw8, pw16, pw23, pw32, pw52] at * <;> omega))⟩)))
  refine sp W 0 rfl rfl rfl (fun c0 => ?_) (fun c0 => ?_)
  · exfalso; omega
  refine sp W 0 rfl rfl rfl (fun c1 => ?_) (fun c1 => ?_)
  · exfalso; omega
  refine sp W 0 rfl rfl rfl (fun c2 => ?_) (fun c2 => ?_)
  · exfalso; omega
  refine sp W 0 rfl rfl rfl (fun c3 => ?_) (fun c3 => ?_)
  · exfalso; omega
  refine sp W 0 rfl rfl rfl (fun c4 => ?_) (fun c4 => ?_)
  · exfalso; omega
  refine cm W 0 [(0, 0)] rfl (big31_ok b _ hb (by omega) (by omega)) ⟨rfl, trivial⟩ rfl rfl rfl ?_
  rintro _ _ ⟨p2, rfl, p2a, p2b, ⟨z, rfl, z0, z1⟩⟩
  refine ⟨_, _, rfl, rfl, ?_⟩
  have k1 := Int.emod_nonneg (z / 2 ^ 1) (b := top w + 1) (by omega)
  have k2 := Int.emod_lt_of_pos (z / 2 ^ 1) (b := top w + 1) (by omega)
  refine sp W 0 rfl rfl rfl (fun c5 => ?_) (fun c5 => ?_)
  · refine cm W 0 [(0, 0)] rfl (pick31_ok b p2 40 hb (by omega) (by omega) (by unfold InI; omega)) ⟨rfl, trivial⟩ rfl rfl rfl ?_
    rintro _ _ ⟨p3, rfl, p3a, p3b, y, rfl, ya, yb⟩
    refine ⟨_, _, rfl, rfl, ?_⟩
    generalize z / 2 ^ 1 % (top w + 1) = n at *
    (repeat' (first | (refine sp W 0 rfl rfl rfl (fun _ => ?_) (fun _ => ?_)) | (refine cm W 0 [(0, 0)] rfl (pick31_ok b _ _ hb (by omega) (by omega) (by unfold InI; omega)) ⟨rfl, trivial⟩ rfl rfl rfl ?_; rintro _ _ ⟨_, rfl, _, _, ⟨_, rfl, _, _⟩⟩; refine ⟨_, _, rfl, rfl, ?_⟩))) <;> (first | (exfalso; omega) | (exact rm W 0 [rdB b _] rfl rfl rfl ⟨rfl, trivial⟩ rfl rfl (.int .i64 _) rfl (.refl) (⟨_, rfl, by omega, by omega, _, rfl, (by first | omega | (simp only [pw1, pw7, pw8, pw16, pw23, pw32, pw52] at * <;> omega)), (by first | omega | (simp only [pw1, pw7, pw8, pw16, pw23, pw32, pw52] at * <;> omega))⟩)))
  · refine cm W 0 [(0, 0)] rfl (pick31_ok b p2 40 hb (by omega) (by omega) (by unfold InI; omega)) ⟨rfl, trivial⟩ rfl rfl rfl ?_
    rintro _ _ ⟨p3, rfl, p3a, p3b, y, rfl, ya, yb⟩
    refine ⟨_, _, rfl, rfl, ?_⟩
    (repeat' (first | (refine sp W 0 rfl rfl rfl (fun _ => ?_) (fun _ => ?_)) | (refine cm W 0 [(0, 0)] rfl (pick31_ok b _ _ hb (by omega) (by omega) (by unfold InI; omega)) ⟨rfl, trivial⟩ rfl rfl rfl ?_; rintro _ _ ⟨_, rfl, _, _, ⟨_, rfl, _, _⟩⟩; refine ⟨_, _, rfl, rfl, ?_⟩))) <;> (first | (exfalso; omega) | (exact rm W 0 [rdB b _] rfl rfl rfl ⟨rfl, trivial⟩ rfl rfl (.int .i64 _) rfl (.refl) (⟨_, rfl, by omega, by omega, _, rfl, (by first | omega | (simp only [pw1, pw7, pw8, pw16, pw23, pw32, pw52] at * <;> omega)), (by first | omega | (simp only [pw1, pw7, pw8, pw16, pw23, pw32, pw52] at * <;> omega))⟩)))
end Pf
/- The law of FloatFrac -/
namespace Pf
open Go Go.Proofs
theorem drawFloatFrac_ok (b : List Int) (hb : ∀ x ∈ b, 0 ≤ x ∧ x ≤ 255) : AFunP Tryd.prog 25 [.fi .u8 b] (fun u => ∃ w n, u = .tup [.int .i64 w, .int .i64 n] ∧ InI w ∧ InI n) := by
  refine afun_of Tryd.func25 Tryd.call25 rfl Tryd.ntmps25 rfl ?_
  have W : Walk Tryd.prog TT 25 _ := Walk.of TT_ok Tryd.func25 Tryd.results25
  refine cx W 0 rfl rfl (l31Open_ok b hb) (OpenQ.flat) ?_
  rintro _ _ ⟨rfl, c, rfl, hc⟩
  refine ⟨_, _, rfl, rfl, ?_⟩
  refine cm W 0 [(0, 0)] rfl (width31_ok c _ hc (by omega) (by omega)) ⟨rfl, trivial⟩ rfl rfl rfl ?_
  rintro _ _ ⟨p1, rfl, p1a, p1b, ⟨w, rfl, w0, w1⟩⟩
  refine ⟨_, _, rfl, rfl, ?_⟩
  refine cm W 0 [(0, 0)] rfl (ord31_ok c _ w hc (by omega) (by omega) ⟨w0, w1⟩) ⟨rfl, trivial⟩ rfl rfl rfl ?_
  rintro _ _ ⟨p2, rfl, p2a, p2b, ⟨n, rfl, n0, n1⟩⟩
  refine ⟨_, _, rfl, rfl, ?_⟩
  refine rq W 0 rfl rfl (.tup [.int .i64 w, .int .i64 n]) (⟨w, n, rfl, ⟨w0, w1⟩, by unfold InI; omega⟩) rfl .refl
theorem fnFloatFrac_law (b m : List Int) (hb : ∀ x ∈ b, 0 ≤ x ∧ x ≤ 255) (hm : ∀ x ∈ m, 0 ≤ x ∧ x ≤ 255) : AFunP Tryd.prog 7 [.fi .u8 b, .fi .u8 m] (· = .pr True) := by
  refine afun_of Tryd.func7 Tryd.call7 rfl Tryd.ntmps7 rfl ?_
  have W : Walk Tryd.prog TT 7 _ := Walk.of TT_ok Tryd.func7 Tryd.results7
  refine sp W 0 rfl rfl rfl (fun h1 => ?_) (fun h1 => ?_)
  · refine rp W 0 rfl rfl rfl (.yes trivial)
  refine sp W 0 rfl rfl rfl (fun h2 => ?_) (fun h2 => ?_)
  · refine rp W 0 rfl rfl rfl (.yes trivial)
  refine cq W 0 rfl rfl (drawFloatFrac_ok b hb) ?_
  rintro _ ⟨w, n, rfl, hw, hn⟩
  refine ⟨_, rfl, ?_⟩
  by_cases hf : finF w n
  · have hs := vl_small hf
    have hok := vl_frOk hf
    have hl := hs.1
    have hu := hs.2
    have er := rat_frR (vl w n)
    have kd := implFloatDown_ok w (vl w n < 0) (dt (vl w n)) (db (vl w n)) (by omega) (by omega)
    have ku := implFloatUp_ok w (vl w n < 0) (dt (vl w n)) (db (vl w n)) (by omega) (by omega)
    have kn := implNear_any w (vl w n < 0) (dt (vl w n)) (db (vl w n)) (by omega) (by omega)
    have ed := dn_vl hf.2
    rw [nextN, if_pos ⟨hf.1, hok⟩, er, ed.1, ed.2] at kd ku
    rw [nearN, if_pos ⟨hf.1, hok⟩, er, nearF_vl hf.1 hf.2] at kn
    rw [eq_true (show (w = 32 ∨ w = 64) ∧ frOk (vl w n < 0) (dt (vl w n)) (db (vl w n)) from ⟨hf.1, hok⟩)] at kd ku kn
    have kc : ∀ k, finF w k → _ := fun k hk => specFracCmp_ok (vl w n < 0) (dt (vl w n)) (db (vl w n)) (vl w k < 0) (dt (vl w k)) (db (vl w k)) (by omega) (by omega) (by have := (vl_small hk).1; omega) (by have := (vl_small hk).2; omega)
    refine cn W 0 rfl rfl rfl (implFloatFrac_yes w n hf) ?_
    rintro _ _ ⟨rfl, rfl⟩
    refine ⟨_, _, rfl, rfl, ?_⟩
    refine ce W 0 rfl rfl (specFloatFrac_yes w n hf) rfl ?_
    refine sp W 0 rfl rfl rfl (fun hA => ?_) (fun hA => ?_)
    · exact absurd Iff.rfl hA
    refine sp W 0 rfl rfl rfl (fun hB => ?_) (fun hB => ?_)
    · exact absurd trivial hB
    refine cb W 0 rfl rfl rfl rfl (kd) rfl ?_
    refine cb W 0 rfl rfl rfl rfl (ku) rfl ?_
    refine cb W 0 rfl rfl rfl rfl (kn) rfl ?_
    refine sp W 0 rfl rfl rfl (fun hC => ?_) (fun hC => ?_)
    · exact absurd trivial hC
    refine sp W 0 rfl rfl rfl (fun hD => ?_) (fun hD => ?_)
    · exact absurd trivial hD
    refine sp W 0 rfl rfl rfl (fun hE => ?_) (fun hE => ?_)
    · exact absurd trivial hE
    refine sp W 0 rfl rfl rfl (fun hF => ?_) (fun hF => ?_)
    · exact absurd rfl hF
    refine sp W 0 rfl rfl rfl (fun hG => ?_) (fun hG => ?_)
    · exact absurd rfl hG
    refine sp W 0 rfl rfl rfl (fun hH => ?_) (fun hH => ?_)
    · exact absurd rfl hH
    refine cq W 0 rfl rfl (drawFloatFrac_ok m hm) ?_
    rintro _ ⟨w2, k, rfl, hw2, hk⟩
    refine ⟨_, rfl, ?_⟩
    by_cases hg : finF w k
    · have kc := kc k hg
      have hok2 := vl_frOk hg
      have ec : fcmpN (vl w n < 0) (dt (vl w n)) (db (vl w n)) (vl w k < 0) (dt (vl w k)) (db (vl w k)) = sgn (n - k) := by
        rw [fcmpN, if_pos ⟨hok, hok2⟩, er, rat_frR, cmp_vl]
      rw [ec] at kc
      refine cn W 0 rfl rfl rfl (implFloatFrac_yes w k hg) ?_
      rintro _ _ ⟨rfl, rfl⟩
      refine ⟨_, _, rfl, rfl, ?_⟩
      refine sp W 0 rfl rfl rfl (fun hI => ?_) (fun hI => ?_)
      · exact absurd trivial hI
      refine cb W 0 rfl rfl rfl rfl (kc) rfl ?_
      refine sp W 0 rfl rfl rfl (fun hJ => ?_) (fun hJ => ?_)
      · refine rp W 0 rfl rfl rfl (.pr ⟨fun _ => trivial, fun _ => by unfold sgn; omega⟩)
      · exact absurd (by unfold sgn; omega) hJ
    · refine ce W 0 rfl rfl (implFloatFrac_no w k hk hg) rfl ?_
      refine ce W 0 rfl rfl (specBitOk_ok w k) rfl ?_
      refine sp W 0 rfl rfl rfl (fun hI => ?_) (fun hI => ?_)
      · refine rp W 0 rfl rfl rfl (.yes trivial)
      · have hb := Classical.not_not.1 hI
        have ht := bitFin hb (fun k => hg ⟨hb.1, k⟩)
        have htr := top_rng w
        refine ce W 0 rfl rfl (implBitTop_ok w) rfl ?_
        refine sp W 0 rfl rfl rfl (fun hJ => ?_) (fun hJ => ?_)
        · refine rp W 0 rfl rfl rfl (.yes trivial)
        · refine ce W 0 rfl rfl (implBitTop_ok w) rfl ?_
          refine rp W 0 rfl rfl rfl (.pr ⟨fun _ => trivial, fun _ => by omega⟩)
  · refine ce W 0 rfl rfl (implFloatFrac_no w n hn hf) rfl ?_
    refine ce W 0 rfl rfl (specFloatFrac_no w n hf) rfl ?_
    refine sp W 0 rfl rfl rfl (fun hA => ?_) (fun hA => ?_)
    · exact absurd hA (by simp)
    · refine rp W 0 rfl rfl rfl (.yes trivial)
end Pf
/- Effects of a region that come in any order, calls that write among them. -/
namespace Pf
open Go
variable {P : Program} {TT : TypeId → Option TI} {f N n0 : Nat} {k : List Item} {T : Env} {H : AHeap} {R : AV → AHeap → Prop} {nf : Nat} {ops : Array Oper} {past op op' pend' pd : List Nat} {vin ws vs' : List (Option Nat × AV)} {ps : List Prop} {cl : List CallM}

/-- What comes of an effect, it being the next. -/
def Nx (P : Program) (f N n0 nf : Nat) (ops : Array Oper) (k : List Item) (T : Env) (R : AV → AHeap → Prop) (past op' : List Nat) (ws : List (Option Nat × AV)) (H : AHeap) (e : Nat) (pd : List Nat) : Prop :=
  (∃ h : e < ws.length, ∃ o, ops[e]? = some o ∧ o.dst = ws[e].1) → ws.map (·.1) = (dstsM nf ops.toList).map (·.1) → dropD ws T = dropD (dstsM nf ops.toList) T →
    ∃ o Q, ops[e]? = some o ∧ (∃ h : e < ws.length, o.dst = ws[e].1) ∧ EffStep P N ops o (TS (memM (preds ops.toList e)) 0 ws (dropD ws T)) H Q ∧
      ∀ u H1, Q u H1 → Ph P f N n0 ops k T R (e :: past) pd op' (ws.set e (o.dst, u)) H1
theorem nx_op (W : PW P TT N ops nf) (m : Nat) {e : Nat} {d : Option Nat} {C : Prop} {v : AV} {H1 : AHeap}
    (he : effM TT m ops.toList (dropD (dstsM nf ops.toList) T) ws H e = some (d, C, v, H1)) (hset : setM (d, v) ws e = some vs') (next : Ph1 P f N n0 nf ops k T R (e :: past) pd op' vs' H1) (hC : Holds C := by first | exact True.intro | (simp only [AllC, AllP, addN, Int.toNat_natCast, true_and, and_true, Option.getD, List.length_set, wrapU, pw1, pw7, pw8, pw16, pw23, pw32, pw52, Holds] <;> first | omega | ((repeat' apply And.intro) <;> first | omega | (intros; rfl))) | (simp [AllC, AllP, addN, cloL, clo, mrgL, mrg, wrapU, Holds] <;> omega)) : Nx P f N n0 nf ops k T R past op' ws H e pd := by
  rintro ⟨hlt, o', o1, o2⟩ hD hdrop
  unfold effM at he
  split at he
  · rename_i o ho
    have ho' : ops[e]? = some o := by rw [nthM_eq] at ho; simpa using ho
    have : o' = o := by rw [ho'] at o1; exact (Option.some.inj o1).symm
    subst this
    split at he
    · rename_i hg
      split at he
      · have key : ∀ {v1 : AV} {H2 : AHeap}, EffStep P N ops o' (TS (memM (preds ops.toList e)) 0 ws (dropD (dstsM nf ops.toList) T)) H (fun u H1 => u = v1 ∧ H1 = H2) → o'.dst = d → v1 = v → H2 = H1 →
            ∃ o Q, ops[e]? = some o ∧ (∃ h : e < ws.length, o.dst = ws[e].1) ∧ EffStep P N ops o (TS (memM (preds ops.toList e)) 0 ws (dropD ws T)) H Q ∧ ∀ u H1, Q u H1 → Ph P f N n0 ops k T R (e :: past) pd op' (ws.set e (o.dst, u)) H1 := by
          rintro v1 H2 hE rfl rfl rfl
          refine ⟨o', _, ho', ⟨hlt, o2⟩, by rw [hdrop]; exact hE, ?_⟩
          rintro _ _ ⟨rfl, rfl⟩
          obtain ⟨r1, r2⟩ := fst_set hD ⟨hlt, o2⟩ hset
          rw [← r1]
          exact next r2
        split at he
        · rename_i hst
          simp only [Option.some.injEq, Prod.mk.injEq] at he
          obtain ⟨r1, r2, r3, r4⟩ := he
          exact key (.ok W.tt m hg hst) r1 r3 r4
        · rename_i hst
          simp only [Option.some.injEq, Prod.mk.injEq] at he
          obtain ⟨r1, r2, r3, r4⟩ := he
          subst r2
          exact key (.okc W.tt m hg hst hC) r1 r3 r4
        · cases he
      · cases he
    · cases he
  · cases he
theorem nx_call (W : PW P TT N ops nf) {e : Nat} {d : Option Nat} {g : FuncId} {args : List AV} {Q : AV → AHeap → Prop}
    (he : effC ops.toList (dropD (dstsM nf ops.toList) T) ws e = some (d, g, args)) (hq : AFun P g args H Q) (next : ∀ u H1, Q u H1 → ∃ vs', setM (d, u) ws e = some vs' ∧ Ph1 P f N n0 nf ops k T R (e :: past) pd op' vs' H1) : Nx P f N n0 nf ops k T R past op' ws H e pd := by
  rintro ⟨hlt, o', o1, o2⟩ hD hdrop
  unfold effC at he
  split at he
  · rename_i o ho
    have ho' : ops[e]? = some o := by rw [nthM_eq] at ho; simpa using ho
    have : o' = o := by rw [ho'] at o1; exact (Option.some.inj o1).symm
    subst this
    split at he
    · rename_i hg
      split at he
      · rename_i g' args' hk
        simp only [Option.some.injEq, Prod.mk.injEq] at he
        obtain ⟨r1, r2, r3⟩ := he
        subst r1; subst r2; subst r3
        refine ⟨o', Q, ho', ⟨hlt, o2⟩, by rw [hdrop]; exact .call hg hk hq, fun u H1 hQ => ?_⟩
        obtain ⟨vs', hset, nx⟩ := next u H1 hQ
        obtain ⟨r1, r2⟩ := fst_set hD ⟨hlt, o2⟩ hset
        rw [← r1]
        exact nx r2
      · cases he
    · cases he
  · cases he
theorem nx_callM (W : PW P TT N ops nf) (ρ : List (Nat × Nat)) {e : Nat} {d : Option Nat} {g : FuncId} {args args' : List AV} {blks : List ABlk} {Q : AV → List ABlk → Prop}
    (he : effC ops.toList (dropD (dstsM nf ops.toList) T) ws e = some (d, g, args)) (hq : AFunM P g args' blks Q) (hb : getAll ρ blks H) (hρ : distP ρ = true) (er : renL ρ args = some args') (hbc : bcloL blks = true)
    (next : ∀ u blks', Q u blks' → ∃ vs' H1, setM (d, u) ws e = some vs' ∧ setAll ρ blks' H = some H1 ∧ Ph1 P f N n0 nf ops k T R (e :: past) pd op' vs' H1) : Nx P f N n0 nf ops k T R past op' ws H e pd :=
  nx_call W he (hq.at hb hρ er hbc) fun v H1 ⟨blks', r1, r2⟩ => by
    obtain ⟨vs', H1', q1, q2, q3⟩ := next v blks' r1
    rw [r2] at q2
    cases q2
    exact ⟨vs', q1, q3⟩

/-- The others without one. -/
def dropN (e : Nat) : List Nat → List Nat
  | [] => []
  | p :: ps => match Nat.beq p e with | true => dropN e ps | false => p :: dropN e ps
theorem dropN_eq (e : Nat) : ∀ ps : List Nat, dropN e ps = ps.filter (· != e)
  | [] => rfl
  | p :: ps => by
    simp only [dropN]
    split
    · rename_i h; rw [List.filter_cons_of_neg (by simp [Nat.eq_of_beq_eq_true h]), dropN_eq e ps]
    · rename_i h
      have : p ≠ e := fun h2 => by subst h2; simp at h
      rw [List.filter_cons_of_pos (by simpa using this), dropN_eq e ps]
/-- Does each one to come stand among the first ones, or hang on one of these? -/
def hangM (ops : List Oper) (es : List Nat) : List Nat → Bool
  | [] => true
  | p :: ps => match memM es p with
    | true => hangM ops es ps
    | false => match anyN (needs ops p p []) es with | true => hangM ops es ps | false => false
where
  anyN (ns : List Nat) : List Nat → Bool
    | [] => false
    | e :: es => match memM ns e with | true => true | false => anyN ns es
theorem anyN_ok {ns : List Nat} : ∀ {es : List Nat}, hangM.anyN ns es = true → ∃ e ∈ es, e ∈ ns
  | e :: es, h => by
    simp only [hangM.anyN] at h
    split at h
    · rename_i h1; exact ⟨e, by simp, memM_iff.1 h1⟩
    · obtain ⟨e', h1, h2⟩ := anyN_ok h; exact ⟨e', by simp [h1], h2⟩
theorem hangM_ok {ops : List Oper} {es : List Nat} : ∀ {ps : List Nat}, hangM ops es ps = true → ∀ p ∈ ps, p ∈ es ∨ ∃ e ∈ es, e ∈ needs ops p p []
  | q :: ps, h, p, hp => by
    simp only [hangM] at h
    split at h
    · rename_i h1
      rcases List.mem_cons.1 hp with rfl | hp
      · exact .inl (memM_iff.1 h1)
      · exact hangM_ok h p hp
    · split at h
      · rename_i h1
        rcases List.mem_cons.1 hp with rfl | hp
        · exact .inr (anyN_ok h1)
        · exact hangM_ok h p hp
      · cases h
def allP (Q : Nat → Prop) : List Nat → Prop
  | [] => True
  | e :: es => Q e ∧ allP Q es
theorem allP_get {Q : Nat → Prop} : ∀ {es : List Nat}, allP Q es → ∀ e ∈ es, Q e
  | e :: es, h, x, hx => by
    rcases List.mem_cons.1 hx with rfl | hx
    · exact h.1
    · exact allP_get h.2 x hx
def someM : List Nat → Bool
  | [] => false
  | _ :: _ => true
/-- Any of these effects may be the next. -/
theorem phl (W : PW P TT N ops nf) (m : Nat) (es : List Nat) (hs : List (Nat × Bool)) (us : List AV) {pend : List Nat}
    (hd : phM TT m ops.toList (dropD (dstsM nf ops.toList) T) H hs past (needsAll ops.toList past []) pend op vin nf 0 [] us = some (ps, cl, ws))
    (hch : (hangM ops.toList es pend && subM es pend && subM pend op && ltAll nf pend && someM pend) = true) (hcl : AllCalls P H cl)
    (next : allP (fun e => Nx P f N n0 nf ops k T R past pend ws H e (dropN e pend)) es) (hp : AllP ps := by first | exact True.intro | (simp only [AllC, AllP, addN, Int.toNat_natCast, true_and, and_true, Option.getD, List.length_set, wrapU, pw1, pw7, pw8, pw16, pw23, pw32, pw52, Holds] <;> first | omega | ((repeat' apply And.intro) <;> first | omega | (intros; rfl))) | (simp [AllC, AllP, addN, cloL, clo, mrgL, mrg, wrapU, Holds] <;> omega)) : Ph1 P f N n0 nf ops k T R past pend op vin H := by
  intro hv
  obtain ⟨hch, hne⟩ := Bool.and_eq_true_iff.1 hch
  obtain ⟨hch, hlt⟩ := Bool.and_eq_true_iff.1 hch
  obtain ⟨hch, hsub⟩ := Bool.and_eq_true_iff.1 hch
  obtain ⟨hch, hes⟩ := Bool.and_eq_true_iff.1 hch
  obtain ⟨c1, c2, c3, c4, c5, c6, c7, c8, c9, c10⟩ := Ph.base W.tt W.st hd hp hcl hv
  refine Ph.core c1 c2 c3 c4 c5 c6 (fun j hj hj' hx => c9 j hj hj' (hx.imp id fun hx => ⟨hx, touch_sub (subM_ok hsub) hx⟩)) (fun i hi q1 q2 q3 => ?_) (fun p hp => ?_) (fun p hp hn => ?_) (fun h => ?_)
  · obtain ⟨o, o1, o2, o3⟩ := c10 i hi
    exact ⟨o, o1, o2, o3 q1 q2 q3 fun j hj => (needsAll_iff hj).elim (fun h => by simp at h) id⟩
  · have := ltAll_ok hlt p hp; omega
  · rcases hangM_ok hch p hp with h | ⟨e, h1, h2⟩
    · have hnx := allP_get next p h
      rw [dropN_eq] at hnx
      obtain ⟨o, o1, o2, _⟩ := c10 p (by have := ltAll_ok hlt p hp; omega)
      exact hnx ⟨by have := ltAll_ok hlt p hp; omega, o, o1, o2⟩ (c6.symm.trans hv) c8
    · exact absurd (subM_ok hes e h1) (hn e h2)
  · subst h; cases hne
end Pf
/- From a point within a region of unknown order on, nobody writes some blocks. -/
namespace Pf
open Go
variable {P : Program} {TT : TypeId → Option TI} {f N n0 : Nat} {k : List Item} {T : Env} {H : AHeap} {R : AV → AHeap → Prop} {nf : Nat} {ops : Array Oper} {past op pend : List Nat} {vs : List (Option Nat × AV)}

theorem frzT_at {sel : Nat → Bool} {FM FM' : FMem} {β : BMap} {w : World} (hh : RelH FM β H w) (hF : Frozen sel FM β H w FM') {n e : Nat} {cv : Value} : ∀ {T T' : Env} {ps : List Prop}, frzT sel H n T = some (ps, T') → AllC ps →
    (∀ x, getM T e = some x → VR FM β x cv) → ∀ x, getM T' e = some x → VR FM' β x cv := by
  intro T
  induction T with
  | nil =>
    intro T' ps h hq hr x hx
    simp only [frzT, Option.some.injEq, Prod.mk.injEq] at h
    obtain ⟨_, rfl⟩ := h
    simp only [getM, Option.some.injEq] at hx
    subst hx
    exact .top
  | cons p T ih =>
    obtain ⟨d', v'⟩ := p
    intro T' ps h hq hr x hx
    simp only [frzT] at h
    have hT : Nat.beq d' e = false → ∀ x, getM T e = some x → VR FM β x cv := fun hb x hx => hr x (by simp only [getM, hb]; exact hx)
    split at h
    · rename_i ps1 u hf
      split at h
      · rename_i qs1 T1 ht
        split at h
        · rename_i rs happ
          simp only [Option.some.injEq, Prod.mk.injEq] at h
          obtain ⟨rfl, rfl⟩ := h
          have hcc := AllC_app happ hq
          simp only [getM] at hx
          cases hb : Nat.beq d' e with
          | true =>
            simp only [hb, Option.some.injEq] at hx
            subst hx
            exact frz_ok hh hF n hf hcc.2 (hr v' (by simp [getM, hb]))
          | false =>
            simp only [hb] at hx
            exact ih ht hcc.1 (hT hb) x hx
        · cases h
      · cases h
    · split at h
      · rename_i qs1 T1 ht
        simp only [Option.some.injEq, Prod.mk.injEq] at h
        obtain ⟨rfl, rfl⟩ := h
        simp only [getM] at hx
        cases hb : Nat.beq d' e with
        | true =>
          simp only [hb, Option.some.injEq] at hx
          subst hx
          exact (hr v' (by simp [getM, hb])).mono hF.1 (fun _ _ _ h => h)
        | false =>
          simp only [hb] at hx
          exact ih ht hq (hT hb) x hx
      · cases h
/-- Values that lie in these blocks, as such that nobody writes. -/
def frzV (sel : Nat → Bool) (H : AHeap) (n : Nat) : List (Option Nat × AV) → Option (List Prop × List (Option Nat × AV))
  | [] => some ([], [])
  | (d, v) :: vs => match frz sel H n v with
    | some (ps, u) => match frzV sel H n vs with
      | some (qs, us) => match appM ps qs with | some rs => some (rs, (d, u) :: us) | none => none
      | none => none
    | none => match frzV sel H n vs with
      | some (qs, us) => some (qs, (d, v) :: us)
      | none => none
theorem frzV_get {sel : Nat → Bool} {n : Nat} : ∀ {vs us : List (Option Nat × AV)} {ps : List Prop}, frzV sel H n vs = some (ps, us) → AllC ps → us.map (·.1) = vs.map (·.1) ∧
    ∀ j (h : j < vs.length) (h' : j < us.length), us[j].2 = vs[j].2 ∨ ∃ qs, frz sel H n vs[j].2 = some (qs, us[j].2) ∧ AllC qs
  | [], us, ps, h, _ => by
    simp only [frzV, Option.some.injEq, Prod.mk.injEq] at h
    obtain ⟨_, rfl⟩ := h
    exact ⟨rfl, fun j h => by simp at h⟩
  | (d, v) :: vs, us, ps, h, hc => by
    simp only [frzV] at h
    split at h
    · rename_i ps1 u hf
      split at h
      · rename_i qs1 us1 ht
        split at h
        · rename_i rs happ
          simp only [Option.some.injEq, Prod.mk.injEq] at h
          obtain ⟨rfl, rfl⟩ := h
          have hcc := AllC_app happ hc
          obtain ⟨h1, h2⟩ := frzV_get ht hcc.1
          refine ⟨by simp [h1], fun j h3 h4 => ?_⟩
          cases j with
          | zero => exact .inr ⟨_, hf, hcc.2⟩
          | succ j => exact h2 j (by simpa using h3) (by simpa using h4)
        · cases h
      · cases h
    · split at h
      · rename_i qs1 us1 ht
        simp only [Option.some.injEq, Prod.mk.injEq] at h
        obtain ⟨rfl, rfl⟩ := h
        obtain ⟨h1, h2⟩ := frzV_get ht hc
        refine ⟨by simp [h1], fun j h3 h4 => ?_⟩
        cases j with
        | zero => exact .inl rfl
        | succ j => exact h2 j (by simpa using h3) (by simpa using h4)
      · cases h
theorem distD_get {d : Nat} : ∀ {vs : List (Option Nat × AV)}, distD vs = true → ∀ i j (hi : i < vs.length) (hj : j < vs.length), vs[i].1 = some d → vs[j].1 = some d → i = j
  | [], _, i, _, hi, _, _, _ => by simp at hi
  | (x, v) :: vs, h, i, j, hi, hj, h1, h2 => by
    have hd : distD vs = true ∧ ∀ e, x = some e → hasD e vs = false := by
      cases x with
      | none => exact ⟨h, fun e he => by cases he⟩
      | some e =>
        simp only [distD] at h
        split at h
        · cases h
        · rename_i hb
          exact ⟨h, fun e' he => by cases he; exact hb⟩
    have no : ∀ k (hk : k < vs.length), vs[k].1 = some d → x = some d → False := fun k hk q1 q2 => by
      have := hd.2 d q2
      rw [hasD_iff.2 ⟨k, hk, q1⟩] at this; cases this
    cases i with
    | zero =>
      cases j with
      | zero => rfl
      | succ j => exact (no j (by simpa using hj) (by simpa using h2) (by simpa using h1)).elim
    | succ i =>
      cases j with
      | zero => exact (no i (by simpa using hi) (by simpa using h1) (by simpa using h2)).elim
      | succ j => rw [distD_get hd.1 i j (by simpa using hi) (by simpa using hj) (by simpa using h1) (by simpa using h2)]
/-- From here on nobody writes the blocks 'bs'; of the other slots only 'ds' are kept. -/
theorem phz (W : PW P TT N ops nf) (bs ds : List Nat) {T1 T2 : Env} {H2 : AHeap} {vs2 : List (Option Nat × AV)} {ps qs rs : List Prop} (e1 : keepM T ds = some T1) (e2 : frzT (memM bs) H 9 T1 = some (ps, T2)) (e3 : frzH (memM bs) H 9 0 H = some (qs, H2))
    (e4 : frzV (memM bs) H 9 vs = some (rs, vs2)) (h : Ph1 P f N n0 nf ops k T2 R past pend op vs2 H2) (c1 : AllC ps := by first | exact True.intro | (simp only [AllC, AllP, addN, Int.toNat_natCast, true_and, and_true, Option.getD, List.length_set, wrapU, pw1, pw7, pw8, pw16, pw23, pw32, pw52, Holds] <;> first | omega | ((repeat' apply And.intro) <;> first | omega | (intros; rfl))) | (simp [AllC, AllP, addN, cloL, clo, mrgL, mrg, wrapU, Holds] <;> omega)) (c2 : AllC qs := by first | exact True.intro | (simp only [AllC, AllP, addN, Int.toNat_natCast, true_and, and_true, Option.getD, List.length_set, wrapU, pw1, pw7, pw8, pw16, pw23, pw32, pw52, Holds] <;> first | omega | ((repeat' apply And.intro) <;> first | omega | (intros; rfl))) | (simp [AllC, AllP, addN, cloL, clo, mrgL, mrg, wrapU, Holds] <;> omega)) (c3 : AllC rs := by first | exact True.intro | (simp only [AllC, AllP, addN, Int.toNat_natCast, true_and, and_true, Option.getD, List.length_set, wrapU, pw1, pw7, pw8, pw16, pw23, pw32, pw52, Holds] <;> first | omega | ((repeat' apply And.intro) <;> first | omega | (intros; rfl))) | (simp [AllC, AllP, addN, cloL, clo, mrgL, mrg, wrapU, Holds] <;> omega)) : Ph1 P f N n0 nf ops k T R past pend op vs H := by
  intro hv
  obtain ⟨g1, g2⟩ := frzV_get e4 c3
  have hlen : vs2.length = vs.length := by simpa using congrArg List.length g1
  have hd : distD vs = true := by
    rw [distD_fst hv]
    have hst := W.st
    simp only [stM, Bool.and_eq_true] at hst
    exact hst.1.2
  have hd2 : distD vs2 = true := by rw [distD_fst g1]; exact hd
  intro l done p1 p2 p3 p4 p5 p6
  have key := h (g1.trans hv) l done p1 p2 (fun j h1 h2 => p3 j (by omega) h2) p4 p5 (fun j h1 h2 => p6 j (by omega) h2)
  intro FM β b cs a w a1 a2 a3 a4 hT hH hn0
  have hF := frzFM_frozen (sel := memM bs) hH
  refine Ext.go (Ext.freeze hH e3 c2) hn0 (key _ β b cs a w a1 a2 a3 a4 ?_ (hH.freeze e3 c2)) (b := b) (.refl _ _)
  intro d v hg
  rcases TS_get (S := done) (d := d) (T := T2) hd2 with ⟨j, hj, q1, q2, q3⟩ | ⟨q1, q2⟩
  · rw [q3] at hg
    cases hg
    have hj' : j < vs.length := by omega
    have e5 : vs2[j].1 = vs[j].1 := by
      have := congrArg (fun l => l[j]?) g1
      simpa [hj, hj'] using this
    have hold : VR FM β vs[j].2 (a.tmps.getD d undef) := by
      refine hT d _ ?_
      rcases TS_get (S := done) (d := d) (T := T) hd with ⟨j', hj2, r1, r2, r3⟩ | ⟨r1, r2⟩
      · have : j' = j := distD_get hd j' j hj2 hj' r1 (by rw [← e5, q1])
        subst this
        exact r3
      · have := r1 j hj' (by rw [← e5, q1])
        rw [q2] at this; cases this
    rcases g2 j hj' hj with h1 | ⟨qs', h1, h2⟩
    · rw [h1]; exact hold.mono hF.1 (fun _ _ _ h => h)
    · exact frz_ok hH hF 9 h1 h2 hold
  · rw [q2] at hg
    refine frzT_at hH hF e2 c1 (fun x hx => ?_) v hg
    rcases keepM_get e1 d x hx with rfl | hx
    · exact .top
    refine hT d x ?_
    rcases TS_get (S := done) (d := d) (T := T) hd with ⟨j, hj, r1, r2, r3⟩ | ⟨r1, r2⟩
    · have hj' : j < vs2.length := by omega
      have e5 : vs2[j].1 = vs[j].1 := by
        have := congrArg (fun l => l[j]?) g1
        simpa [hj, hj'] using this
      have := q1 j hj' (by rw [e5, r1])
      rw [r2] at this; cases this
    · rw [r2]; exact hx
end Pf
/- Draws of fractions (l31) -/
namespace Pf
open Go Go.Proofs
theorem resF_tup (ok p : Prop) (t u : List Int) (h : ok → t.length ≤ 256 ∧ u.length ≤ 256) : ∃ p' t' d', resF ok p t u = .tup [frF p' t' d', .pr ok] ∧ t'.length ≤ 256 ∧ d'.length ≤ 256 := by
  by_cases ho : ok
  · exact ⟨p, t, u, by rw [resF_yes ho, eq_true ho], h ho⟩
  · exact ⟨False, [], [], by rw [resF_no ho, eq_false ho], by simp, by simp⟩
theorem fracOf_any (p : Prop) (a b : Nat) (hb : b ≠ 0) (ha : (dig a).length ≤ 256) (hbl : (dig b).length ≤ 256) : ∃ ok p' t' d', AFunP Tryd.prog 148 [.pr p, .fi .i64 (dig a), .fi .i64 (dig b)] (· = .tup [frF p' t' d', .pr ok]) ∧ t'.length ≤ 256 ∧ d'.length ≤ 256 ∧ made p a b = .tup [frF p' t' d', .pr ok] := by
  obtain ⟨p', t', d', e, h⟩ := resF_tup (fits a b) (p ∧ a ≠ 0) (lT a b) (lB a b) (fun h => h)
  have e0 : dig b ≠ [] := fun h => hb (dig_nil.1 h)
  have el : ((dig b).length : Int) ≠ 0 := fun h => e0 (List.length_eq_zero_iff.1 (by omega))
  have k6 := l6Make_ok p a b hb (by omega) (by omega)
  rw [made_eq, e] at k6
  refine ⟨_, _, _, _, ?_, h.1, h.2, by rw [made_eq, e]⟩
  refine afun_of Tryd.func148 Tryd.call148 rfl Tryd.ntmps148 rfl ?_
  have W : Walk Tryd.prog TT 148 _ := Walk.of TT_ok Tryd.func148 Tryd.results148
  refine ce W 0 rfl rfl (specNatOk_ok (dig a) (by omega)) rfl ?_
  refine sp W 0 rfl rfl rfl (fun h1 => ?_) (fun h1 => ?_)
  · exact absurd (natOk_of ha) h1
  refine ce W 0 rfl rfl (specNatOk_ok (dig b) (by omega)) rfl ?_
  refine sp W 0 rfl rfl rfl (fun h2 => ?_) (fun h2 => ?_)
  · exact absurd (natOk_of hbl) h2
  refine sp W 0 rfl rfl rfl (fun h3 => ?_) (fun h3 => ?_)
  · exact absurd h3 el
  refine ce W 0 rfl rfl (k6) rfl ?_
  refine rp W 0 rfl rfl rfl (.refl)
theorem floatFrac_any (w n : Int) : ∃ ok p' t' d', AFunP Tryd.prog 27 [.int .i64 w, .int .i64 n] (· = .tup [frF p' t' d', .pr ok]) ∧ t'.length ≤ 256 ∧ d'.length ≤ 256 := by
  by_cases h : finF w n
  · exact ⟨True, _, _, _, specFloatFrac_yes w n h, (vl_small h).1, (vl_small h).2⟩
  · exact ⟨False, _, _, _, specFloatFrac_no w n h, by simp, by simp⟩
theorem fracAdd_any (p q : Prop) (t u x y : List Int) (ht : t.length ≤ 1048576) (hu : u.length ≤ 1048576) (hx : x.length ≤ 1048576) (hy : y.length ≤ 1048576) : ∃ ok p' t' d', AFunP Tryd.prog 106 [frF p t u, frF q x y] (· = .tup [frF p' t' d', .pr ok]) ∧ t'.length ≤ 256 ∧ d'.length ≤ 256 := by
  have k : AFunP Tryd.prog 106 [frF p t u, frF q x y] (· = (addS p t u q x y).av) := specFracAdd_ok p q t u x y ht hu hx hy
  obtain ⟨p', t', d', e, h⟩ := resF_tup (addS p t u q x y).ok (addS p t u q x y).p (addS p t u q x y).t (addS p t u q x y).u (fun h => h.2)
  rw [FRes.av, e] at k
  exact ⟨_, _, _, _, k, h⟩
theorem fracMul_any (p q : Prop) (t u x y : List Int) (ht : t.length ≤ 1048576) (hu : u.length ≤ 1048576) (hx : x.length ≤ 1048576) (hy : y.length ≤ 1048576) : ∃ ok p' t' d', AFunP Tryd.prog 107 [frF p t u, frF q x y] (· = .tup [frF p' t' d', .pr ok]) ∧ t'.length ≤ 256 ∧ d'.length ≤ 256 := by
  have k : AFunP Tryd.prog 107 [frF p t u, frF q x y] (· = (mulS p t u q x y).av) := specFracMul_ok p q t u x y ht hu hx hy
  obtain ⟨p', t', d', e, h⟩ := resF_tup (mulS p t u q x y).ok (mulS p t u q x y).p (mulS p t u q x y).t (mulS p t u q x y).u (fun h => h.2)
  rw [FRes.av, e] at k
  exact ⟨_, _, _, _, k, h⟩
def FracV (u : AV) : Prop := ∃ p t d, u = frF p t d ∧ t.length ≤ 256 ∧ d.length ≤ 256
theorem dlen1 {m : Nat} (h : m < 65536) : (dig m).length ≤ 1 := dig_len_le.2 (by simpa using h)
theorem digS {m : Nat} (h : m ≠ 0) (h2 : m < 65536) : [(m : Int)] = dig m := by rw [dig_small h2, if_neg h]
theorem frac31_ok (b : List Int) (p : Int) (hb : BytesOk b) (h0 : 0 ≤ p) (h1 : p ≤ 999980000) : AFunM Tryd.prog 108 [.ptr 0 0 0 0] [rdB b p] (RdQ b p 200 FracV) := by
  refine afun_of Tryd.func108 Tryd.call108 rfl Tryd.ntmps108 rfl ?_
  have W : Walk Tryd.prog TT 108 _ := Walk.of TT_ok Tryd.func108 Tryd.results108
  refine cm W 0 [(0, 0)] rfl (pick31_ok b p 2000 hb (by omega) (by omega) (by unfold InI; omega)) ⟨rfl, trivial⟩ rfl rfl rfl ?_
  rintro _ _ ⟨p1, rfl, p1a, p1b, n, rfl, na, nb⟩
  refine ⟨_, _, rfl, rfl, ?_⟩
  refine cm W 0 [(0, 0)] rfl (pick31_ok b p1 6 hb (by omega) (by omega) (by unfold InI; omega)) ⟨rfl, trivial⟩ rfl rfl rfl ?_
  rintro _ _ ⟨p2, rfl, p2a, p2b, k, rfl, ka, kb⟩
  refine ⟨_, _, rfl, rfl, ?_⟩
  refine cm W 0 [(0, 0)] rfl (pick31_ok b p2 2 hb (by omega) (by omega) (by unfold InI; omega)) ⟨rfl, trivial⟩ rfl rfl rfl ?_
  rintro _ _ ⟨p3, rfl, p3a, p3b, x, rfl, xa, xb⟩
  refine ⟨_, _, rfl, rfl, ?_⟩
  obtain ⟨n, rfl⟩ : ∃ m : Nat, n = m := ⟨n.toNat, by omega⟩
  refine ce W 0 rfl rfl (specNatOf_ok n (by omega)) rfl ?_
  refine cm W 0 [(0, 0)] rfl (pick31_ok b p3 50 hb (by omega) (by omega) (by unfold InI; omega)) ⟨rfl, trivial⟩ rfl rfl rfl ?_
  rintro _ _ ⟨p4, rfl, p4a, p4b, y, rfl, ya, yb⟩
  refine ⟨_, _, rfl, rfl, ?_⟩
  obtain ⟨y, rfl⟩ : ∃ m : Nat, y = m := ⟨y.toNat, by omega⟩
  have d1 := dlen1 (m := n) (by omega)
  have d2 := dlen1 (m := 1 + y) (by omega)
  obtain ⟨ok, q, t, d, kf, l1, l2, -⟩ := fracOf_any (x = 0) n (1 + y) (by omega) (by omega) (by omega)
  rw [← digS (m := 1 + y) (by omega) (by omega), show ((1 + y : Nat) : Int) = 1 + (y : Int) by omega] at kf
  refine cf W 0 [2] [0, 2, 3, 4] rfl rfl rfl rfl rfl rfl (kf) rfl ?_
  refine sp W 0 rfl rfl rfl (fun c0 => ?_) (fun c0 => ?_)
  · skip
    refine cm W 0 [(0, 0)] rfl (ord31_ok b p4 32 hb (by omega) (by omega) (by unfold InI; omega)) ⟨rfl, trivial⟩ rfl rfl rfl ?_
    rintro _ _ ⟨p5, rfl, p5a, p5b, ⟨v, rfl, v0, v1⟩⟩
    refine ⟨_, _, rfl, rfl, ?_⟩
    obtain ⟨ok2, q2, t2, d2, kg, m1, m2⟩ := floatFrac_any 32 v
    refine ce W 0 rfl rfl (kg) rfl ?_
    refine sp W 0 rfl rfl rfl (fun hk => ?_) (fun hk => ?_)
    · skip
      refine cm W 0 [(0, 0)] rfl (pick31_ok b p5 40 hb (by omega) (by omega) (by unfold InI; omega)) ⟨rfl, trivial⟩ rfl rfl rfl ?_
      rintro _ _ ⟨pz, rfl, pza, pzb, z, rfl, za, zb⟩
      refine ⟨_, _, rfl, rfl, ?_⟩
      refine sp W 0 rfl rfl rfl (fun hz => ?_) (fun hz => ?_)
      · refine rm W 0 [rdB b pz] rfl rfl rfl ⟨rfl, trivial⟩ rfl rfl (frF q2 t2 []) rfl (.agg ⟨.refl, .refl, .nils_fi, trivial⟩) (⟨_, rfl, by omega, by omega, _, _, _, rfl, by omega, by simp⟩)
      · refine rm W 0 [rdB b pz] rfl rfl rfl ⟨rfl, trivial⟩ rfl rfl (frF q2 t2 d2) rfl (.refl) (⟨_, rfl, by omega, by omega, _, _, _, rfl, by omega, by omega⟩)
    · skip
      refine cm W 0 [(0, 0)] rfl (pick31_ok b p5 40 hb (by omega) (by omega) (by unfold InI; omega)) ⟨rfl, trivial⟩ rfl rfl rfl ?_
      rintro _ _ ⟨pz, rfl, pza, pzb, z, rfl, za, zb⟩
      refine ⟨_, _, rfl, rfl, ?_⟩
      refine sp W 0 rfl rfl rfl (fun hz => ?_) (fun hz => ?_)
      · refine rm W 0 [rdB b pz] rfl rfl rfl ⟨rfl, trivial⟩ rfl rfl (frF q t []) rfl (.agg ⟨.refl, .refl, .nils_fi, trivial⟩) (⟨_, rfl, by omega, by omega, _, _, _, rfl, by omega, by simp⟩)
      · refine rm W 0 [rdB b pz] rfl rfl rfl ⟨rfl, trivial⟩ rfl rfl (frF q t d) rfl (.refl) (⟨_, rfl, by omega, by omega, _, _, _, rfl, by omega, by omega⟩)
  refine sp W 0 rfl rfl rfl (fun c1 => ?_) (fun c1 => ?_)
  · skip
    refine cm W 0 [(0, 0)] rfl (ord31_ok b p4 64 hb (by omega) (by omega) (by unfold InI; omega)) ⟨rfl, trivial⟩ rfl rfl rfl ?_
    rintro _ _ ⟨p5, rfl, p5a, p5b, ⟨v, rfl, v0, v1⟩⟩
    refine ⟨_, _, rfl, rfl, ?_⟩
    obtain ⟨ok2, q2, t2, d2, kg, m1, m2⟩ := floatFrac_any 64 v
    refine ce W 0 rfl rfl (kg) rfl ?_
    refine sp W 0 rfl rfl rfl (fun hk => ?_) (fun hk => ?_)
    · skip
      refine cm W 0 [(0, 0)] rfl (pick31_ok b p5 40 hb (by omega) (by omega) (by unfold InI; omega)) ⟨rfl, trivial⟩ rfl rfl rfl ?_
      rintro _ _ ⟨pz, rfl, pza, pzb, z, rfl, za, zb⟩
      refine ⟨_, _, rfl, rfl, ?_⟩
      refine sp W 0 rfl rfl rfl (fun hz => ?_) (fun hz => ?_)
      · refine rm W 0 [rdB b pz] rfl rfl rfl ⟨rfl, trivial⟩ rfl rfl (frF q2 t2 []) rfl (.agg ⟨.refl, .refl, .nils_fi, trivial⟩) (⟨_, rfl, by omega, by omega, _, _, _, rfl, by omega, by simp⟩)
      · refine rm W 0 [rdB b pz] rfl rfl rfl ⟨rfl, trivial⟩ rfl rfl (frF q2 t2 d2) rfl (.refl) (⟨_, rfl, by omega, by omega, _, _, _, rfl, by omega, by omega⟩)
    · skip
      refine cm W 0 [(0, 0)] rfl (pick31_ok b p5 40 hb (by omega) (by omega) (by unfold InI; omega)) ⟨rfl, trivial⟩ rfl rfl rfl ?_
      rintro _ _ ⟨pz, rfl, pza, pzb, z, rfl, za, zb⟩
      refine ⟨_, _, rfl, rfl, ?_⟩
      refine sp W 0 rfl rfl rfl (fun hz => ?_) (fun hz => ?_)
      · refine rm W 0 [rdB b pz] rfl rfl rfl ⟨rfl, trivial⟩ rfl rfl (frF q t []) rfl (.agg ⟨.refl, .refl, .nils_fi, trivial⟩) (⟨_, rfl, by omega, by omega, _, _, _, rfl, by omega, by simp⟩)
      · refine rm W 0 [rdB b pz] rfl rfl rfl ⟨rfl, trivial⟩ rfl rfl (frF q t d) rfl (.refl) (⟨_, rfl, by omega, by omega, _, _, _, rfl, by omega, by omega⟩)
  refine sp W 0 rfl rfl rfl (fun c2 => ?_) (fun c2 => ?_)
  · skip
    refine cm W 0 [(0, 0)] rfl (ord31_ok b p4 32 hb (by omega) (by omega) (by unfold InI; omega)) ⟨rfl, trivial⟩ rfl rfl rfl ?_
    rintro _ _ ⟨p5, rfl, p5a, p5b, ⟨v, rfl, v0, v1⟩⟩
    refine ⟨_, _, rfl, rfl, ?_⟩
    obtain ⟨ok2, q2, t2, d2, kg, m1, m2⟩ := floatFrac_any 32 v
    refine ce W 0 rfl rfl (kg) rfl ?_
    refine sp W 0 rfl rfl rfl (fun hk => ?_) (fun hk => ?_)
    · skip
      refine cm W 0 [(0, 0)] rfl (pick31_ok b p5 30 hb (by omega) (by omega) (by unfold InI; omega)) ⟨rfl, trivial⟩ rfl rfl rfl ?_
      rintro _ _ ⟨p6, rfl, p6a, p6b, e, rfl, ea, eb⟩
      refine ⟨_, _, rfl, rfl, ?_⟩
      refine cm W 0 [(0, 0)] rfl (pick31_ok b p6 200 hb (by omega) (by omega) (by unfold InI; omega)) ⟨rfl, trivial⟩ rfl rfl rfl ?_
      rintro _ _ ⟨p7, rfl, p7a, p7b, g, rfl, ga, gb⟩
      refine ⟨_, _, rfl, rfl, ?_⟩
      obtain ⟨e, rfl⟩ : ∃ m : Nat, e = m := ⟨e.toNat, by omega⟩
      obtain ⟨g, rfl⟩ : ∃ m : Nat, g = m := ⟨g.toNat, by omega⟩
      refine ce W 0 rfl rfl (l5Pow2_ok g (by omega)) rfl ?_
      have lg : (dig (2 ^ g)).length ≤ 100 := dig_pow_len g 100 (by omega)
      have le : (dig (1 + 2 * e)).length ≤ 1 := dlen1 (by omega)
      obtain ⟨ok3, q3, t3, d3, k3, n1, n2, -⟩ := fracOf_any False (1 + 2 * e) (2 ^ g) (two_nz g) (by omega) (by omega)
      rw [← digS (m := 1 + 2 * e) (by omega) (by omega), show ((1 + 2 * e : Nat) : Int) = 1 + 2 * (e : Int) by omega] at k3
      have k3' : AFunP Tryd.prog 148 [.bool false, .fi .i64 [1 + 2 * (e : Int)], .fi .i64 (dig (2 ^ g))] (· = .tup [frF q3 t3 d3, .pr ok3]) := AFun.sub k3 ⟨.no id, .refl, .refl, trivial⟩
      obtain ⟨ok4, q4, t4, d4, k4, o1, o2⟩ := fracAdd_any q2 q3 t2 d2 t3 d3 (by omega) (by omega) (by omega) (by omega)
      refine cf W 0 [5] [0, 2, 5, 11] rfl rfl rfl rfl rfl rfl (k3') rfl ?_
      refine ce W 0 rfl rfl (k4) rfl ?_
      refine sp W 0 rfl rfl rfl (fun hy => ?_) (fun hy => ?_)
      · skip
        refine cm W 0 [(0, 0)] rfl (pick31_ok b p7 40 hb (by omega) (by omega) (by unfold InI; omega)) ⟨rfl, trivial⟩ rfl rfl rfl ?_
        rintro _ _ ⟨pz, rfl, pza, pzb, z, rfl, za, zb⟩
        refine ⟨_, _, rfl, rfl, ?_⟩
        refine sp W 0 rfl rfl rfl (fun hz => ?_) (fun hz => ?_)
        · refine rm W 0 [rdB b pz] rfl rfl rfl ⟨rfl, trivial⟩ rfl rfl (frF q4 t4 []) rfl (.agg ⟨.refl, .refl, .nils_fi, trivial⟩) (⟨_, rfl, by omega, by omega, _, _, _, rfl, by omega, by simp⟩)
        · refine rm W 0 [rdB b pz] rfl rfl rfl ⟨rfl, trivial⟩ rfl rfl (frF q4 t4 d4) rfl (.refl) (⟨_, rfl, by omega, by omega, _, _, _, rfl, by omega, by omega⟩)
      · skip
        refine cm W 0 [(0, 0)] rfl (pick31_ok b p7 40 hb (by omega) (by omega) (by unfold InI; omega)) ⟨rfl, trivial⟩ rfl rfl rfl ?_
        rintro _ _ ⟨pz, rfl, pza, pzb, z, rfl, za, zb⟩
        refine ⟨_, _, rfl, rfl, ?_⟩
        refine sp W 0 rfl rfl rfl (fun hz => ?_) (fun hz => ?_)
        · refine rm W 0 [rdB b pz] rfl rfl rfl ⟨rfl, trivial⟩ rfl rfl (frF q t []) rfl (.agg ⟨.refl, .refl, .nils_fi, trivial⟩) (⟨_, rfl, by omega, by omega, _, _, _, rfl, by omega, by simp⟩)
        · refine rm W 0 [rdB b pz] rfl rfl rfl ⟨rfl, trivial⟩ rfl rfl (frF q t d) rfl (.refl) (⟨_, rfl, by omega, by omega, _, _, _, rfl, by omega, by omega⟩)
    · skip
      refine cm W 0 [(0, 0)] rfl (pick31_ok b p5 40 hb (by omega) (by omega) (by unfold InI; omega)) ⟨rfl, trivial⟩ rfl rfl rfl ?_
      rintro _ _ ⟨pz, rfl, pza, pzb, z, rfl, za, zb⟩
      refine ⟨_, _, rfl, rfl, ?_⟩
      refine sp W 0 rfl rfl rfl (fun hz => ?_) (fun hz => ?_)
      · refine rm W 0 [rdB b pz] rfl rfl rfl ⟨rfl, trivial⟩ rfl rfl (frF q t []) rfl (.agg ⟨.refl, .refl, .nils_fi, trivial⟩) (⟨_, rfl, by omega, by omega, _, _, _, rfl, by omega, by simp⟩)
      · refine rm W 0 [rdB b pz] rfl rfl rfl ⟨rfl, trivial⟩ rfl rfl (frF q t d) rfl (.refl) (⟨_, rfl, by omega, by omega, _, _, _, rfl, by omega, by omega⟩)
  refine sp W 0 rfl rfl rfl (fun c3 => ?_) (fun c3 => ?_)
  · refine phg W 0 12 [2, 4, 10, 11] rfl rfl (fun PW => ?_)
    refine phl PW 0 [2, 4, 10] [] [] rfl rfl trivial ⟨?_, ?_, ?_, trivial⟩
    · refine nx_callM PW [(0, 0)] rfl (pick31_ok b p4 1200 hb (by omega) (by omega) (by unfold InI; omega)) ⟨rfl, trivial⟩ rfl rfl rfl ?_
      rintro _ _ ⟨p5, rfl, p5a, p5b, x, rfl, xa, xb⟩
      refine ⟨_, _, rfl, rfl, ?_⟩
      obtain ⟨x, rfl⟩ : ∃ m : Nat, x = m := ⟨x.toNat, by omega⟩
      have kp := l5Pow2_ok x (by omega)
      have lp : (dig (2 ^ x)).length ≤ 100 := dig_pow_len x 100 (by omega)
      obtain ⟨ok2, q2, t2, d2, km0, m1, m2⟩ := fracMul_any q False t d (dig (2 ^ x)) [1] (by omega) (by omega) (by omega) (by simp)
      have km : AFunP Tryd.prog 107 [frF q t d, .agg [.bool false, .fi .i64 (dig (2 ^ x)), .fi .i64 [1]]] (· = .tup [frF q2 t2 d2, .pr ok2]) := AFun.sub km0 ⟨.refl, .agg ⟨.no id, .refl, .refl, trivial⟩, trivial⟩
      refine phl PW 0 [4, 10] [] [.fi .i64 (dig (2 ^ x))] rfl rfl ⟨kp.at rfl _, trivial⟩ ⟨?_, ?_, trivial⟩
      · refine nx_op PW 0 rfl rfl ?_
        refine phz PW [4] [0, 2, 5] rfl rfl rfl rfl ?_
        refine phl PW 0 [10] [] [.fi .i64 (dig (2 ^ x)), .tup [frF q2 t2 d2, .pr ok2]] rfl rfl ⟨kp.at rfl _, km.at rfl _, trivial⟩ ⟨?_, trivial⟩
        · refine nx_op PW 0 rfl rfl ?_
          refine pho PW 0 11 [] [.fi .i64 (dig (2 ^ x)), .tup [frF q2 t2 d2, .pr ok2]] rfl rfl ⟨kp.at rfl _, km.at rfl _, trivial⟩ rfl rfl ?_
          refine phe PW 0 [] [] rfl trivial rfl ?_
          refine sp W 0 rfl rfl rfl (fun hk => ?_) (fun hk => ?_)
          · skip
            refine cm W 0 [(0, 0)] rfl (pick31_ok b p5 40 hb (by omega) (by omega) (by unfold InI; omega)) ⟨rfl, trivial⟩ rfl rfl rfl ?_
            rintro _ _ ⟨pz, rfl, pza, pzb, z, rfl, za, zb⟩
            refine ⟨_, _, rfl, rfl, ?_⟩
            refine sp W 0 rfl rfl rfl (fun hz => ?_) (fun hz => ?_)
            · refine rm W 0 [rdB b pz] rfl rfl rfl ⟨rfl, trivial⟩ rfl rfl (frF q2 t2 []) rfl (.agg ⟨.refl, .refl, .nils_fi, trivial⟩) (⟨_, rfl, by omega, by omega, _, _, _, rfl, by omega, by simp⟩)
            · refine rm W 0 [rdB b pz] rfl rfl rfl ⟨rfl, trivial⟩ rfl rfl (frF q2 t2 d2) rfl (.refl) (⟨_, rfl, by omega, by omega, _, _, _, rfl, by omega, by omega⟩)
          · skip
            refine cm W 0 [(0, 0)] rfl (pick31_ok b p5 40 hb (by omega) (by omega) (by unfold InI; omega)) ⟨rfl, trivial⟩ rfl rfl rfl ?_
            rintro _ _ ⟨pz, rfl, pza, pzb, z, rfl, za, zb⟩
            refine ⟨_, _, rfl, rfl, ?_⟩
            refine sp W 0 rfl rfl rfl (fun hz => ?_) (fun hz => ?_)
            · refine rm W 0 [rdB b pz] rfl rfl rfl ⟨rfl, trivial⟩ rfl rfl (frF q t []) rfl (.agg ⟨.refl, .refl, .nils_fi, trivial⟩) (⟨_, rfl, by omega, by omega, _, _, _, rfl, by omega, by simp⟩)
            · refine rm W 0 [rdB b pz] rfl rfl rfl ⟨rfl, trivial⟩ rfl rfl (frF q t d) rfl (.refl) (⟨_, rfl, by omega, by omega, _, _, _, rfl, by omega, by omega⟩)
      · refine nx_op PW 0 rfl rfl ?_
        refine phl PW 0 [4] [] [.fi .i64 (dig (2 ^ x))] rfl rfl ⟨kp.at rfl _, trivial⟩ ⟨?_, trivial⟩
        · refine nx_op PW 0 rfl rfl ?_
          refine phz PW [5] [0, 2, 5] rfl rfl rfl rfl ?_
          refine pho PW 0 11 [] [.fi .i64 (dig (2 ^ x)), .tup [frF q2 t2 d2, .pr ok2]] rfl rfl ⟨kp.at rfl _, km.at rfl _, trivial⟩ rfl rfl ?_
          refine phe PW 0 [] [] rfl trivial rfl ?_
          refine sp W 0 rfl rfl rfl (fun hk => ?_) (fun hk => ?_)
          · skip
            refine cm W 0 [(0, 0)] rfl (pick31_ok b p5 40 hb (by omega) (by omega) (by unfold InI; omega)) ⟨rfl, trivial⟩ rfl rfl rfl ?_
            rintro _ _ ⟨pz, rfl, pza, pzb, z, rfl, za, zb⟩
            refine ⟨_, _, rfl, rfl, ?_⟩
            refine sp W 0 rfl rfl rfl (fun hz => ?_) (fun hz => ?_)
            · refine rm W 0 [rdB b pz] rfl rfl rfl ⟨rfl, trivial⟩ rfl rfl (frF q2 t2 []) rfl (.agg ⟨.refl, .refl, .nils_fi, trivial⟩) (⟨_, rfl, by omega, by omega, _, _, _, rfl, by omega, by simp⟩)
            · refine rm W 0 [rdB b pz] rfl rfl rfl ⟨rfl, trivial⟩ rfl rfl (frF q2 t2 d2) rfl (.refl) (⟨_, rfl, by omega, by omega, _, _, _, rfl, by omega, by omega⟩)
          · skip
            refine cm W 0 [(0, 0)] rfl (pick31_ok b p5 40 hb (by omega) (by omega) (by unfold InI; omega)) ⟨rfl, trivial⟩ rfl rfl rfl ?_
            rintro _ _ ⟨pz, rfl, pza, pzb, z, rfl, za, zb⟩
            refine ⟨_, _, rfl, rfl, ?_⟩
            refine sp W 0 rfl rfl rfl (fun hz => ?_) (fun hz => ?_)
            · refine rm W 0 [rdB b pz] rfl rfl rfl ⟨rfl, trivial⟩ rfl rfl (frF q t []) rfl (.agg ⟨.refl, .refl, .nils_fi, trivial⟩) (⟨_, rfl, by omega, by omega, _, _, _, rfl, by omega, by simp⟩)
            · refine rm W 0 [rdB b pz] rfl rfl rfl ⟨rfl, trivial⟩ rfl rfl (frF q t d) rfl (.refl) (⟨_, rfl, by omega, by omega, _, _, _, rfl, by omega, by omega⟩)
    · refine nx_op PW 0 rfl rfl ?_
      refine phl PW 0 [2, 10] [] [] rfl rfl trivial ⟨?_, ?_, trivial⟩
      · refine nx_callM PW [(0, 0)] rfl (pick31_ok b p4 1200 hb (by omega) (by omega) (by unfold InI; omega)) ⟨rfl, trivial⟩ rfl rfl rfl ?_
        rintro _ _ ⟨p5, rfl, p5a, p5b, x, rfl, xa, xb⟩
        refine ⟨_, _, rfl, rfl, ?_⟩
        obtain ⟨x, rfl⟩ : ∃ m : Nat, x = m := ⟨x.toNat, by omega⟩
        have kp := l5Pow2_ok x (by omega)
        have lp : (dig (2 ^ x)).length ≤ 100 := dig_pow_len x 100 (by omega)
        obtain ⟨ok2, q2, t2, d2, km0, m1, m2⟩ := fracMul_any q False t d (dig (2 ^ x)) [1] (by omega) (by omega) (by omega) (by simp)
        have km : AFunP Tryd.prog 107 [frF q t d, .agg [.bool false, .fi .i64 (dig (2 ^ x)), .fi .i64 [1]]] (· = .tup [frF q2 t2 d2, .pr ok2]) := AFun.sub km0 ⟨.refl, .agg ⟨.no id, .refl, .refl, trivial⟩, trivial⟩
        refine phz PW [4] [0, 2, 5] rfl rfl rfl rfl ?_
        refine phl PW 0 [10] [] [.fi .i64 (dig (2 ^ x)), .tup [frF q2 t2 d2, .pr ok2]] rfl rfl ⟨kp.at rfl _, km.at rfl _, trivial⟩ ⟨?_, trivial⟩
        · refine nx_op PW 0 rfl rfl ?_
          refine pho PW 0 11 [] [.fi .i64 (dig (2 ^ x)), .tup [frF q2 t2 d2, .pr ok2]] rfl rfl ⟨kp.at rfl _, km.at rfl _, trivial⟩ rfl rfl ?_
          refine phe PW 0 [] [] rfl trivial rfl ?_
          refine sp W 0 rfl rfl rfl (fun hk => ?_) (fun hk => ?_)
          · skip
            refine cm W 0 [(0, 0)] rfl (pick31_ok b p5 40 hb (by omega) (by omega) (by unfold InI; omega)) ⟨rfl, trivial⟩ rfl rfl rfl ?_
            rintro _ _ ⟨pz, rfl, pza, pzb, z, rfl, za, zb⟩
            refine ⟨_, _, rfl, rfl, ?_⟩
            refine sp W 0 rfl rfl rfl (fun hz => ?_) (fun hz => ?_)
            · refine rm W 0 [rdB b pz] rfl rfl rfl ⟨rfl, trivial⟩ rfl rfl (frF q2 t2 []) rfl (.agg ⟨.refl, .refl, .nils_fi, trivial⟩) (⟨_, rfl, by omega, by omega, _, _, _, rfl, by omega, by simp⟩)
            · refine rm W 0 [rdB b pz] rfl rfl rfl ⟨rfl, trivial⟩ rfl rfl (frF q2 t2 d2) rfl (.refl) (⟨_, rfl, by omega, by omega, _, _, _, rfl, by omega, by omega⟩)
          · skip
            refine cm W 0 [(0, 0)] rfl (pick31_ok b p5 40 hb (by omega) (by omega) (by unfold InI; omega)) ⟨rfl, trivial⟩ rfl rfl rfl ?_
            rintro _ _ ⟨pz, rfl, pza, pzb, z, rfl, za, zb⟩
            refine ⟨_, _, rfl, rfl, ?_⟩
            refine sp W 0 rfl rfl rfl (fun hz => ?_) (fun hz => ?_)
            · refine rm W 0 [rdB b pz] rfl rfl rfl ⟨rfl, trivial⟩ rfl rfl (frF q t []) rfl (.agg ⟨.refl, .refl, .nils_fi, trivial⟩) (⟨_, rfl, by omega, by omega, _, _, _, rfl, by omega, by simp⟩)
            · refine rm W 0 [rdB b pz] rfl rfl rfl ⟨rfl, trivial⟩ rfl rfl (frF q t d) rfl (.refl) (⟨_, rfl, by omega, by omega, _, _, _, rfl, by omega, by omega⟩)
      · refine nx_op PW 0 rfl rfl ?_
        refine phl PW 0 [2] [] [] rfl rfl trivial ⟨?_, trivial⟩
        · refine nx_callM PW [(0, 0)] rfl (pick31_ok b p4 1200 hb (by omega) (by omega) (by unfold InI; omega)) ⟨rfl, trivial⟩ rfl rfl rfl ?_
          rintro _ _ ⟨p5, rfl, p5a, p5b, x, rfl, xa, xb⟩
          refine ⟨_, _, rfl, rfl, ?_⟩
          obtain ⟨x, rfl⟩ : ∃ m : Nat, x = m := ⟨x.toNat, by omega⟩
          have kp := l5Pow2_ok x (by omega)
          have lp : (dig (2 ^ x)).length ≤ 100 := dig_pow_len x 100 (by omega)
          obtain ⟨ok2, q2, t2, d2, km0, m1, m2⟩ := fracMul_any q False t d (dig (2 ^ x)) [1] (by omega) (by omega) (by omega) (by simp)
          have km : AFunP Tryd.prog 107 [frF q t d, .agg [.bool false, .fi .i64 (dig (2 ^ x)), .fi .i64 [1]]] (· = .tup [frF q2 t2 d2, .pr ok2]) := AFun.sub km0 ⟨.refl, .agg ⟨.no id, .refl, .refl, trivial⟩, trivial⟩
          refine phz PW [4] [0, 2, 5] rfl rfl rfl rfl ?_
          refine pho PW 0 11 [] [.fi .i64 (dig (2 ^ x)), .tup [frF q2 t2 d2, .pr ok2]] rfl rfl ⟨kp.at rfl _, km.at rfl _, trivial⟩ rfl rfl ?_
          refine phe PW 0 [] [] rfl trivial rfl ?_
          refine sp W 0 rfl rfl rfl (fun hk => ?_) (fun hk => ?_)
          · skip
            refine cm W 0 [(0, 0)] rfl (pick31_ok b p5 40 hb (by omega) (by omega) (by unfold InI; omega)) ⟨rfl, trivial⟩ rfl rfl rfl ?_
            rintro _ _ ⟨pz, rfl, pza, pzb, z, rfl, za, zb⟩
            refine ⟨_, _, rfl, rfl, ?_⟩
            refine sp W 0 rfl rfl rfl (fun hz => ?_) (fun hz => ?_)
            · refine rm W 0 [rdB b pz] rfl rfl rfl ⟨rfl, trivial⟩ rfl rfl (frF q2 t2 []) rfl (.agg ⟨.refl, .refl, .nils_fi, trivial⟩) (⟨_, rfl, by omega, by omega, _, _, _, rfl, by omega, by simp⟩)
            · refine rm W 0 [rdB b pz] rfl rfl rfl ⟨rfl, trivial⟩ rfl rfl (frF q2 t2 d2) rfl (.refl) (⟨_, rfl, by omega, by omega, _, _, _, rfl, by omega, by omega⟩)
          · skip
            refine cm W 0 [(0, 0)] rfl (pick31_ok b p5 40 hb (by omega) (by omega) (by unfold InI; omega)) ⟨rfl, trivial⟩ rfl rfl rfl ?_
            rintro _ _ ⟨pz, rfl, pza, pzb, z, rfl, za, zb⟩
            refine ⟨_, _, rfl, rfl, ?_⟩
            refine sp W 0 rfl rfl rfl (fun hz => ?_) (fun hz => ?_)
            · refine rm W 0 [rdB b pz] rfl rfl rfl ⟨rfl, trivial⟩ rfl rfl (frF q t []) rfl (.agg ⟨.refl, .refl, .nils_fi, trivial⟩) (⟨_, rfl, by omega, by omega, _, _, _, rfl, by omega, by simp⟩)
            · refine rm W 0 [rdB b pz] rfl rfl rfl ⟨rfl, trivial⟩ rfl rfl (frF q t d) rfl (.refl) (⟨_, rfl, by omega, by omega, _, _, _, rfl, by omega, by omega⟩)
    · refine nx_op PW 0 rfl rfl ?_
      refine phl PW 0 [2, 4] [] [] rfl rfl trivial ⟨?_, ?_, trivial⟩
      · refine nx_callM PW [(0, 0)] rfl (pick31_ok b p4 1200 hb (by omega) (by omega) (by unfold InI; omega)) ⟨rfl, trivial⟩ rfl rfl rfl ?_
        rintro _ _ ⟨p5, rfl, p5a, p5b, x, rfl, xa, xb⟩
        refine ⟨_, _, rfl, rfl, ?_⟩
        obtain ⟨x, rfl⟩ : ∃ m : Nat, x = m := ⟨x.toNat, by omega⟩
        have kp := l5Pow2_ok x (by omega)
        have lp : (dig (2 ^ x)).length ≤ 100 := dig_pow_len x 100 (by omega)
        obtain ⟨ok2, q2, t2, d2, km0, m1, m2⟩ := fracMul_any q False t d (dig (2 ^ x)) [1] (by omega) (by omega) (by omega) (by simp)
        have km : AFunP Tryd.prog 107 [frF q t d, .agg [.bool false, .fi .i64 (dig (2 ^ x)), .fi .i64 [1]]] (· = .tup [frF q2 t2 d2, .pr ok2]) := AFun.sub km0 ⟨.refl, .agg ⟨.no id, .refl, .refl, trivial⟩, trivial⟩
        refine phl PW 0 [4] [] [.fi .i64 (dig (2 ^ x))] rfl rfl ⟨kp.at rfl _, trivial⟩ ⟨?_, trivial⟩
        · refine nx_op PW 0 rfl rfl ?_
          refine phz PW [5] [0, 2, 5] rfl rfl rfl rfl ?_
          refine pho PW 0 11 [] [.fi .i64 (dig (2 ^ x)), .tup [frF q2 t2 d2, .pr ok2]] rfl rfl ⟨kp.at rfl _, km.at rfl _, trivial⟩ rfl rfl ?_
          refine phe PW 0 [] [] rfl trivial rfl ?_
          refine sp W 0 rfl rfl rfl (fun hk => ?_) (fun hk => ?_)
          · skip
            refine cm W 0 [(0, 0)] rfl (pick31_ok b p5 40 hb (by omega) (by omega) (by unfold InI; omega)) ⟨rfl, trivial⟩ rfl rfl rfl ?_
            rintro _ _ ⟨pz, rfl, pza, pzb, z, rfl, za, zb⟩
            refine ⟨_, _, rfl, rfl, ?_⟩
            refine sp W 0 rfl rfl rfl (fun hz => ?_) (fun hz => ?_)
            · refine rm W 0 [rdB b pz] rfl rfl rfl ⟨rfl, trivial⟩ rfl rfl (frF q2 t2 []) rfl (.agg ⟨.refl, .refl, .nils_fi, trivial⟩) (⟨_, rfl, by omega, by omega, _, _, _, rfl, by omega, by simp⟩)
            · refine rm W 0 [rdB b pz] rfl rfl rfl ⟨rfl, trivial⟩ rfl rfl (frF q2 t2 d2) rfl (.refl) (⟨_, rfl, by omega, by omega, _, _, _, rfl, by omega, by omega⟩)
          · skip
            refine cm W 0 [(0, 0)] rfl (pick31_ok b p5 40 hb (by omega) (by omega) (by unfold InI; omega)) ⟨rfl, trivial⟩ rfl rfl rfl ?_
            rintro _ _ ⟨pz, rfl, pza, pzb, z, rfl, za, zb⟩
            refine ⟨_, _, rfl, rfl, ?_⟩
            refine sp W 0 rfl rfl rfl (fun hz => ?_) (fun hz => ?_)
            · refine rm W 0 [rdB b pz] rfl rfl rfl ⟨rfl, trivial⟩ rfl rfl (frF q t []) rfl (.agg ⟨.refl, .refl, .nils_fi, trivial⟩) (⟨_, rfl, by omega, by omega, _, _, _, rfl, by omega, by simp⟩)
            · refine rm W 0 [rdB b pz] rfl rfl rfl ⟨rfl, trivial⟩ rfl rfl (frF q t d) rfl (.refl) (⟨_, rfl, by omega, by omega, _, _, _, rfl, by omega, by omega⟩)
      · refine nx_op PW 0 rfl rfl ?_
        refine phl PW 0 [2] [] [] rfl rfl trivial ⟨?_, trivial⟩
        · refine nx_callM PW [(0, 0)] rfl (pick31_ok b p4 1200 hb (by omega) (by omega) (by unfold InI; omega)) ⟨rfl, trivial⟩ rfl rfl rfl ?_
          rintro _ _ ⟨p5, rfl, p5a, p5b, x, rfl, xa, xb⟩
          refine ⟨_, _, rfl, rfl, ?_⟩
          obtain ⟨x, rfl⟩ : ∃ m : Nat, x = m := ⟨x.toNat, by omega⟩
          have kp := l5Pow2_ok x (by omega)
          have lp : (dig (2 ^ x)).length ≤ 100 := dig_pow_len x 100 (by omega)
          obtain ⟨ok2, q2, t2, d2, km0, m1, m2⟩ := fracMul_any q False t d (dig (2 ^ x)) [1] (by omega) (by omega) (by omega) (by simp)
          have km : AFunP Tryd.prog 107 [frF q t d, .agg [.bool false, .fi .i64 (dig (2 ^ x)), .fi .i64 [1]]] (· = .tup [frF q2 t2 d2, .pr ok2]) := AFun.sub km0 ⟨.refl, .agg ⟨.no id, .refl, .refl, trivial⟩, trivial⟩
          refine phz PW [5] [0, 2, 5] rfl rfl rfl rfl ?_
          refine pho PW 0 11 [] [.fi .i64 (dig (2 ^ x)), .tup [frF q2 t2 d2, .pr ok2]] rfl rfl ⟨kp.at rfl _, km.at rfl _, trivial⟩ rfl rfl ?_
          refine phe PW 0 [] [] rfl trivial rfl ?_
          refine sp W 0 rfl rfl rfl (fun hk => ?_) (fun hk => ?_)
          · skip
            refine cm W 0 [(0, 0)] rfl (pick31_ok b p5 40 hb (by omega) (by omega) (by unfold InI; omega)) ⟨rfl, trivial⟩ rfl rfl rfl ?_
            rintro _ _ ⟨pz, rfl, pza, pzb, z, rfl, za, zb⟩
            refine ⟨_, _, rfl, rfl, ?_⟩
            refine sp W 0 rfl rfl rfl (fun hz => ?_) (fun hz => ?_)
            · refine rm W 0 [rdB b pz] rfl rfl rfl ⟨rfl, trivial⟩ rfl rfl (frF q2 t2 []) rfl (.agg ⟨.refl, .refl, .nils_fi, trivial⟩) (⟨_, rfl, by omega, by omega, _, _, _, rfl, by omega, by simp⟩)
            · refine rm W 0 [rdB b pz] rfl rfl rfl ⟨rfl, trivial⟩ rfl rfl (frF q2 t2 d2) rfl (.refl) (⟨_, rfl, by omega, by omega, _, _, _, rfl, by omega, by omega⟩)
          · skip
            refine cm W 0 [(0, 0)] rfl (pick31_ok b p5 40 hb (by omega) (by omega) (by unfold InI; omega)) ⟨rfl, trivial⟩ rfl rfl rfl ?_
            rintro _ _ ⟨pz, rfl, pza, pzb, z, rfl, za, zb⟩
            refine ⟨_, _, rfl, rfl, ?_⟩
            refine sp W 0 rfl rfl rfl (fun hz => ?_) (fun hz => ?_)
            · refine rm W 0 [rdB b pz] rfl rfl rfl ⟨rfl, trivial⟩ rfl rfl (frF q t []) rfl (.agg ⟨.refl, .refl, .nils_fi, trivial⟩) (⟨_, rfl, by omega, by omega, _, _, _, rfl, by omega, by simp⟩)
            · refine rm W 0 [rdB b pz] rfl rfl rfl ⟨rfl, trivial⟩ rfl rfl (frF q t d) rfl (.refl) (⟨_, rfl, by omega, by omega, _, _, _, rfl, by omega, by omega⟩)
  refine cm W 0 [(0, 0)] rfl (pick31_ok b p4 40 hb (by omega) (by omega) (by unfold InI; omega)) ⟨rfl, trivial⟩ rfl rfl rfl ?_
  rintro _ _ ⟨pz, rfl, pza, pzb, z, rfl, za, zb⟩
  refine ⟨_, _, rfl, rfl, ?_⟩
  refine sp W 0 rfl rfl rfl (fun hz => ?_) (fun hz => ?_)
  · refine rm W 0 [rdB b pz] rfl rfl rfl ⟨rfl, trivial⟩ rfl rfl (frF q t []) rfl (.agg ⟨.refl, .refl, .nils_fi, trivial⟩) (⟨_, rfl, by omega, by omega, _, _, _, rfl, by omega, by simp⟩)
  · refine rm W 0 [rdB b pz] rfl rfl rfl ⟨rfl, trivial⟩ rfl rfl (frF q t d) rfl (.refl) (⟨_, rfl, by omega, by omega, _, _, _, rfl, by omega, by omega⟩)
end Pf
