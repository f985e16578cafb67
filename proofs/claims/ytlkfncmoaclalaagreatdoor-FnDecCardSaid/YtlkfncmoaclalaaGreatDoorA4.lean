/- Part 4 of the lemmas that the claim rests on: an abstract machine over the model, what it is sound for, and the contracts of the functions that the law reaches. -/
import Derived.Test.YtlkfncmoaclalaaGreatDoorA3
import Derived.Shelf.Strconv.Itoa3
import Derived.Shelf.Strings.Repeat
import Derived.Test.YtlkfncmoaclalaaGreatDoorProg
set_option linter.unusedSimpArgs false
set_option linter.unusedVariables false
set_option maxRecDepth 20000
set_option maxHeartbeats 4000000
/- Floats and numbers: roundings of floats, what lies between -/
namespace Pf
open Go Go.Proofs
theorem tv_vl {w n : Int} (h : n.natAbs < fT w) : tv w (vl w n) = n.natAbs ∧ te w (vl w n) := by
  have hb := two_nz (fK w)
  have k := tv_of (w := w) (p := n < 0) (a := fv (fF w) n.natAbs) (b := 2 ^ fK w) (r := vl w n) hb rfl
  have e1 : fv (fF w) n.natAbs * 2 ^ fK w / 2 ^ fK w = fv (fF w) n.natAbs := Nat.mul_div_cancel _ (Nat.pow_pos (by omega))
  have e2 : tvN w (fv (fF w) n.natAbs) (2 ^ fK w) = n.natAbs := by
    unfold tvN
    rw [e1]
    exact trn_eq (by omega) (Nat.le_refl _) (.inr (fv_step _ _))
  refine ⟨by rw [← k.1, e2], k.2.1 ?_⟩
  unfold teN
  rw [e2]
theorem dn_vl {w n : Int} (h : n.natAbs < fT w) : dn w (vl w n) = n ∧ up w (vl w n) = n := by
  obtain ⟨h1, h2⟩ := tv_vl h
  unfold dn up nx
  rw [if_pos h2, h1]
  by_cases hn : n < 0
  · rw [if_pos (vl_lt.2 hn)]; omega
  · rw [if_neg (fun k => hn (vl_lt.1 k))]; omega
theorem fv_sgn (F : Nat) (a b : Nat) : sgn ((fv F a : Int) - fv F b) = sgn ((a : Int) - b) := by
  rcases Nat.lt_trichotomy a b with h | h | h
  · have := fv_lt (F := F) h; unfold sgn; omega
  · subst h; unfold sgn; omega
  · have := fv_lt (F := F) h; unfold sgn; omega
theorem cmp_vl (w a b : Int) : cmpR (vl w a) (vl w b) = sgn (a - b) := by
  unfold vl
  rw [cmpR_mk (two_nz _) (two_nz _), ← Int.sub_mul, sgn_mul_pos (Int.natCast_pos.2 (Nat.pow_pos (by omega)))]
  have k1 := fv_sgn (fF w) a.natAbs b.natAbs
  have p1 : a ≠ 0 → fv (fF w) a.natAbs ≠ 0 := fun h => fv_pos (by omega)
  have p2 : b ≠ 0 → fv (fF w) b.natAbs ≠ 0 := fun h => fv_pos (by omega)
  have z1 : a = 0 → fv (fF w) a.natAbs = 0 := fun h => by subst h; exact fv_zero _
  have z2 : b = 0 → fv (fF w) b.natAbs = 0 := fun h => by subst h; exact fv_zero _
  generalize fv (fF w) a.natAbs = x at *
  generalize fv (fF w) b.natAbs = y at *
  unfold sgn at *
  by_cases ha : a < 0
  · rw [sg_yes ha]
    by_cases hb : b < 0
    · rw [sg_yes hb]; omega
    · rw [sg_no hb]; omega
  · rw [sg_no ha]
    by_cases hb : b < 0
    · rw [sg_yes hb]; omega
    · rw [sg_no hb]; omega
theorem cmpR_neg (r s : Rat) : cmpR (-r) (-s) = - cmpR r s := by
  have := cmpR_xy r s
  rw [this, cmpR_xy, Rat.neg_num, Rat.neg_num, Rat.neg_den, Rat.neg_den, Int.neg_mul, Int.neg_mul]
  unfold sgn; omega
theorem cmpR_swap (r s : Rat) : cmpR s r = - cmpR r s := by
  rw [cmpR_xy, cmpR_xy]; unfold sgn; omega
theorem te_iff {w : Int} {r : Rat} : te w r ↔ dn w r = up w r := by
  unfold dn up nx
  by_cases h : te w r
  · simp [h]
  · simp only [h, if_false, false_iff]
    split <;> omega
open Classical in
theorem cmp_tv {w : Int} {r : Rat} (h0 : ¬ r < 0) : cmpR (vl w (tv w r)) r = (if te w r then 0 else -1) ∧ (tv w r + 1 ≠ fT w → cmpR (vl w ((tv w r : Int) + 1)) r = 1) := by
  have hd : 0 < r.den := Nat.pos_of_ne_zero r.den_nz
  have hr : mkRat (r.num.natAbs : Int) r.den = r := by have := mk_R r; rwa [sg_no h0] at this
  have key : ∀ m : Nat, cmpR (vl w m) r = sgn ((fv (fF w) m * r.den : Nat) - (r.num.natAbs * 2 ^ fK w : Nat) : Int) := fun m => by
    unfold vl
    conv => lhs; rw [← hr]
    rw [cmpR_mk (two_nz _) r.den_nz, sg_no (by omega), Int.natAbs_natCast, ← Int.natCast_mul, ← Int.natCast_mul]
  have hle : fv (fF w) (tv w r) * r.den ≤ r.num.natAbs * 2 ^ fK w := (Nat.le_div_iff_mul_le hd).1 (trn_fv (fF w) (fT w) (r.num.natAbs * 2 ^ fK w / r.den))
  have hnx := trn_next (fF w) (fT w) (r.num.natAbs * 2 ^ fK w / r.den)
  have hte : te w r ↔ fv (fF w) (tv w r) * r.den = r.num.natAbs * 2 ^ fK w := Iff.rfl
  refine ⟨?_, fun hT => ?_⟩
  · rw [key]
    by_cases h : te w r
    · rw [if_pos h, hte.1 h]; unfold sgn; omega
    · rw [if_neg h]
      have := mt hte.2 h
      unfold sgn; omega
  · have e : ((tv w r : Int) + 1) = ((tv w r + 1 : Nat) : Int) := by omega
    rw [e, key]
    have hT' : tv w r ≠ fT w - 1 := by have := fT_pos w; omega
    have h1 : r.num.natAbs * 2 ^ fK w / r.den < fv (fF w) (tv w r + 1) := hnx.resolve_left hT'
    have h2 := (Nat.div_lt_iff_lt_mul hd).1 h1
    unfold sgn; omega
open Classical in
theorem lo_hi0 {w : Int} {r : Rat} (h0 : ¬ r < 0) : (dn w r ≠ -(fT w : Int) → cmpR (vl w (dn w r)) r = if te w r then 0 else -1) ∧ (up w r ≠ (fT w : Int) → cmpR (vl w (up w r)) r = if te w r then 0 else 1) := by
  obtain ⟨k1, k2⟩ := cmp_tv (w := w) h0
  refine ⟨fun _ => ?_, fun h => ?_⟩
  · rw [show dn w r = tv w r from if_neg h0]; exact k1
  · have e : up w r = nx w r := if_neg h0
    rw [e] at h ⊢
    unfold nx at h ⊢
    by_cases ht : te w r
    · rw [if_pos ht, if_pos ht, k1, if_pos ht]
    · rw [if_neg ht] at h ⊢
      rw [if_neg ht]
      exact k2 (by omega)
open Classical in
theorem lo_hi (w : Int) (r : Rat) : (dn w r ≠ -(fT w : Int) → cmpR (vl w (dn w r)) r = if te w r then 0 else -1) ∧ (up w r ≠ (fT w : Int) → cmpR (vl w (up w r)) r = if te w r then 0 else 1) := by
  by_cases h0 : r < 0
  · have h1 : ¬ -r < 0 := by rw [num_neg, Rat.neg_num]; have := num_neg.1 h0; omega
    obtain ⟨k1, k2⟩ := lo_hi0 (w := w) h1
    have et := (tv_neg w r).2
    rw [dn_neg, vl_negate, cmpR_neg] at k1
    rw [up_neg, vl_negate, cmpR_neg] at k2
    by_cases ht : te w r
    · rw [if_pos (et.2 ht)] at k1 k2
      rw [if_pos ht, if_pos ht]
      exact ⟨fun h => by have := k2 (by omega); omega, fun h => by have := k1 (by omega); omega⟩
    · rw [if_neg (fun k => ht (et.1 k))] at k1 k2
      rw [if_neg ht, if_neg ht]
      exact ⟨fun h => by have := k2 (by omega); omega, fun h => by have := k1 (by omega); omega⟩
  · exact lo_hi0 h0
theorem nearF_vl {w n : Int} (hw : w = 32 ∨ w = 64) (h : n.natAbs < fT w) : nearF w (vl w n) = n := by
  have ht := top_fT hw
  obtain ⟨e1, e2⟩ := dn_vl h
  unfold nearF
  rw [e1, e2, if_neg (by omega), if_neg (by omega), ite_self]
theorem tmod2 (n : Int) : n.tmod 2 = 0 ↔ n % 2 = 0 := by
  rw [← Int.dvd_iff_tmod_eq_zero, Int.dvd_iff_emod_eq_zero]
theorem up_dn1 (w : Int) (r : Rat) : dn w r ≤ up w r ∧ up w r ≤ dn w r + 1 := by
  have := nx_le w r
  unfold dn up
  split <;> omega
theorem nearF_rng {w : Int} {r : Rat} (hw : w = 32 ∨ w = 64) : -top w < nearF w r ∧ nearF w r < top w := by
  have ht := top_fT hw
  have h1 := dn_rng w r
  have h2 := up_rng w r
  have h3 := fT_rng w
  have h4 := up_dn1 w r
  unfold nearF
  split
  · omega
  · split
    · omega
    · split <;> omega
/-- The nearest one, of two finite ones. -/
theorem nearF_fin {w : Int} {r : Rat} (h1 : dn w r ≠ -top w) (h2 : up w r ≠ top w) :
    (cmpR (r + -vl w (dn w r)) (vl w (up w r) + -r) = 0 → dn w r ≠ up w r → nearF w r % 2 = 0) ∧
    ((nearF w r = dn w r ∧ cmpR (r + -vl w (dn w r)) (vl w (up w r) + -r) ≤ 0) ∨ (nearF w r = up w r ∧ 0 ≤ cmpR (r + -vl w (dn w r)) (vl w (up w r) + -r))) := by
  have h4 := up_dn1 w r
  unfold nearF
  rw [if_neg h1, if_neg h2, cmpR_near]
  have hc := cmpR_rng (r + r) (vl w (dn w r) + vl w (up w r))
  have t2 := tmod2 (dn w r)
  generalize cmpR (r + r) (vl w (dn w r) + vl w (up w r)) = c at *
  generalize dn w r = lo at *
  generalize up w r = hi at *
  by_cases h : c < 0 ∨ (c = 0 ∧ lo.tmod 2 = 0)
  · rw [if_pos h]
    exact ⟨fun k1 k2 => by omega, .inl ⟨rfl, by omega⟩⟩
  · rw [if_neg h]
    exact ⟨fun k1 k2 => by omega, .inr ⟨rfl, by omega⟩⟩
end Pf
/- FloatFrac, FloatDown, FloatUp, the model's FracCmp -/
namespace Pf
open Go Go.Proofs
theorem bitFin {w n : Int} (h : bitOk w n) (h2 : ¬ n.natAbs < fT w) : n = top w ∨ n = -top w := by
  have := top_fT h.1
  have := h.2
  omega
/-- A finite float. -/
def finF (w n : Int) : Prop := (w = 32 ∨ w = 64) ∧ n.natAbs < fT w
theorem vl_small {w n : Int} (h : finF w n) : small (vl w n) := midN_mono (vl_midN h.1 h.2) (by decide)
theorem vl_frOk {w n : Int} (h : finF w n) : frOk (vl w n < 0) (dt (vl w n)) (db (vl w n)) := frOk_iff.2 (vl_small h)
open Classical in
/-- The floats next to what is a fraction. -/
noncomputable def nextN (w : Int) (p : Prop) (t u : List Int) : Int × Int := if (w = 32 ∨ w = 64) ∧ frOk p t u then (dn w (rat p t u), up w (rat p t u)) else (0, 0)
theorem frOk_small {p : Prop} {t u : List Int} (h : frOk p t u) : small (rat p t u) := frOk_iff.1 (by
  obtain ⟨e1, e2, e3⟩ := frOk_rat h
  rw [← e1, ← e2, ← propext e3]; exact h)
theorem small_mid {r : Rat} (h : small r) : mid r := ⟨Nat.le_trans h.1 (by decide), Nat.le_trans h.2 (by decide)⟩
open Classical in
/-- How two fractions compare; 2, if one is none. -/
noncomputable def fcmpN (p : Prop) (t u : List Int) (q : Prop) (x y : List Int) : Int := if frOk p t u ∧ frOk q x y then cmpR (rat p t u) (rat q x y) else 2
end Pf
/- Pairs and boxes: steps, what two have in common. -/
namespace Pf
open Go Go.Proofs

def gap (a b : Int) : Int := if b < a then 0 else b - a
/-- Two boxes. -/
def bmeetOk (w : Int) (a b : List (Int × Int)) : Prop := boxOk w a ∧ boxOk w b ∧ a.length = b.length ∧ ∀ i, i < a.length → meetOk w (a.getD i (0, 0)) (b.getD i (0, 0))
open Classical in
noncomputable def bmeet (w : Int) (a b : List (Int × Int)) : List (Int × Int) := if bmeetOk w a b then (List.range a.length).map fun i => pmeet w (a.getD i (0, 0)) (b.getD i (0, 0)) else []
theorem bx_nil : Sub (.agg [.nils]) (bx []) := .agg ⟨.nils_fz, trivial⟩
end Pf
/- Boxes: one within another, units, paths, fineness. -/
namespace Pf
open Go Go.Proofs

def boxIs (l m : List (Int × Int)) : Prop := l.length = m.length ∧ ∀ i, i < l.length → (m.getD i (0, 0)).1 ≤ (l.getD i (0, 0)).1 ∧ (l.getD i (0, 0)).2 ≤ (m.getD i (0, 0)).2
/-- How many boxes are taken at most. -/
def unitsL : List (Int × Int) → Int → Int
  | [], u => u
  | p :: l, u => unitsL l (if 0 < gap p.1 p.2 then min 1000000000 (u * (4 * min (gap p.1 p.2) 1000000000 - 1)) else u)
open Classical in
noncomputable def units (w : Int) (l : List (Int × Int)) : Int := if boxOk w l then unitsL l 1 else 0
theorem unitsL_take (l : List (Int × Int)) (u : Int) (i : Nat) (h : i < l.length) : unitsL (l.take (i + 1)) u = (if 0 < gap (l.getD i (0, 0)).1 (l.getD i (0, 0)).2 then min 1000000000 (unitsL (l.take i) u * (4 * min (gap (l.getD i (0, 0)).1 (l.getD i (0, 0)).2) 1000000000 - 1)) else unitsL (l.take i) u) := by
  induction l generalizing u i with
  | nil => simp at h
  | cons p l ih =>
    cases i with
    | zero => simp [unitsL]
    | succ i =>
      have := ih (if 0 < gap p.1 p.2 then min 1000000000 (u * (4 * min (gap p.1 p.2) 1000000000 - 1)) else u) i (by simpa using h)
      simpa [unitsL] using this
theorem gap_rng {a b : Int} (h : -9218868437227405312 ≤ a ∧ a ≤ b ∧ b ≤ 9218868437227405312) : gap a b = b - a ∧ 0 ≤ gap a b ∧ gap a b ≤ 18437736874454810624 := by
  unfold gap; rw [if_neg (by omega)]; omega
theorem boxOk_get {w : Int} {l : List (Int × Int)} (h : boxOk w l) {i : Nat} (hi : i < l.length) : pairOk w (l.getD i (0, 0)).1 (l.getD i (0, 0)).2 := h.2.2 _ (getD_mem hi)
end Pf
/- Boxes: paths, fineness; the reference's pairs and boxes. -/
namespace Pf
open Go Go.Proofs

/-- How many boxes wait at most. -/
def pathL : List (Int × Int) → Int → Int
  | [], u => u
  | p :: l, u => pathL l (u + bitLen (gap p.1 p.2))
open Classical in
noncomputable def path (w : Int) (l : List (Int × Int)) : Int := if boxOk w l then pathL l 1 else 0
theorem pathL_take (l : List (Int × Int)) (u : Int) (i : Nat) (h : i < l.length) : pathL (l.take (i + 1)) u = pathL (l.take i) u + bitLen (gap (l.getD i (0, 0)).1 (l.getD i (0, 0)).2) := by
  induction l generalizing u i with
  | nil => simp at h
  | cons p l ih =>
    cases i with
    | zero => simp [pathL]
    | succ i => simpa [pathL] using ih (u + bitLen (gap p.1 p.2)) i (by simpa using h)
def fineN (n : Int) : Int := max 1 (min 1000000 n) + 1
def boxFine (w : Int) (l : List (Int × Int)) (n : Int) : Prop := boxOk w l ∧ ∀ a ∈ l, gap a.1 a.2 ≤ fineN n
end Pf
/- Draws of bits, pairs and boxes. -/
namespace Pf
open Go Go.Proofs

/-- A reader of bytes, at a place. -/
def rdB (b : List Int) (p : Int) : ABlk := .lst 0 [[.fi .u8 b, .int .i64 p]]
def BytesOk (b : List Int) : Prop := b.length ≤ 2000 ∧ ∀ x ∈ b, 0 ≤ x ∧ x ≤ 255
theorem BytesOk.get {b : List Int} (h : BytesOk b) (i : Nat) : 0 ≤ b.getD i 0 ∧ b.getD i 0 ≤ 255 := by
  rw [List.getD_eq_getElem?_getD]
  cases hi : b[i]? with
  | none => simp
  | some x => simpa using h.2 x (List.mem_of_getElem? hi)
/-- What a reading function does: the place goes on, no farther than so. -/
def RdQ (b : List Int) (p K : Int) (Q : AV → Prop) (u : AV) (blks : List ABlk) : Prop := ∃ p', blks = [rdB b p'] ∧ p ≤ p' ∧ p' ≤ p + K ∧ Q u
def PickV (n : Int) (u : AV) : Prop := ∃ x, u = .int .i64 x ∧ 0 ≤ x ∧ (x < n ∨ x = 0)

def OpenQ (u : AV) (H : AHeap) : Prop := u = .ptr 0 0 0 0 ∧ ∃ c, H = [rdB c 0] ∧ BytesOk c
theorem OpenQ.flat (u : AV) (H : AHeap) (h : OpenQ u H) : Pf.flat u = true ∧ flatH H := by
  obtain ⟨rfl, c, rfl, _⟩ := h
  exact ⟨rfl, rfl, trivial⟩
theorem bxor_nonneg {a b : Int} (h0 : 0 ≤ a) (h1 : a ≤ 9223372036854775807) (g0 : 0 ≤ b) (g1 : b ≤ 9223372036854775807) : 0 ≤ bxor .i64 a b ∧ bxor .i64 a b ≤ 9223372036854775807 := by
  obtain ⟨m, rfl⟩ : ∃ m : Nat, a = m := ⟨a.toNat, by omega⟩
  obtain ⟨n, rfl⟩ : ∃ n : Nat, b = n := ⟨b.toNat, by omega⟩
  have a1 : (BitVec.ofInt 64 (m : Int)).toNat = m := by rw [BitVec.toNat_ofInt]; omega
  have a2 : (BitVec.ofInt 64 (n : Int)).toNat = n := by rw [BitVec.toNat_ofInt]; omega
  have e : bxor .i64 (m : Int) (n : Int) = IntKind.i64.wrap (((BitVec.ofInt 64 (m : Int) ^^^ BitVec.ofInt 64 (n : Int)).toNat : Nat) : Int) := rfl
  have h2 : m ^^^ n < 2 ^ 63 := Nat.xor_lt_two_pow (by omega) (by omega)
  rw [e, BitVec.toNat_xor, a1, a2, wrap_id (k := .i64) rfl (by omega)]
  omega
def IntV (u : AV) : Prop := ∃ w, u = .int .i64 w ∧ -9223372036854775808 ≤ w ∧ w ≤ 9223372036854775807
def U64V (u : AV) : Prop := ∃ w, u = .int .u64 w ∧ 0 ≤ w ∧ w ≤ 18446744073709551615
def InB (n : Int) : Prop := -9218868437227410000 ≤ n ∧ n ≤ 9218868437227410000
def OrdV (u : AV) : Prop := ∃ w, u = .int .i64 w ∧ -9218868437227405400 ≤ w ∧ w ≤ 9218868437227405400
end Pf
/- The law of FloatFrac -/
namespace Pf
open Go Go.Proofs
end Pf
/- Draws of fractions (l31) -/
namespace Pf
open Go Go.Proofs
theorem resF_tup (ok p : Prop) (t u : List Int) (h : ok → t.length ≤ 256 ∧ u.length ≤ 256) : ∃ p' t' d', resF ok p t u = .tup [frF p' t' d', .pr ok] ∧ t'.length ≤ 256 ∧ d'.length ≤ 256 := by
  by_cases ho : ok
  · exact ⟨p, t, u, by rw [resF_yes ho, eq_true ho], h ho⟩
  · exact ⟨False, [], [], by rw [resF_no ho, eq_false ho], by simp, by simp⟩
def FracV (u : AV) : Prop := ∃ p t d, u = frF p t d ∧ t.length ≤ 256 ∧ d.length ≤ 256
theorem dlen1 {m : Nat} (h : m < 65536) : (dig m).length ≤ 1 := dig_len_le.2 (by simpa using h)
theorem digS {m : Nat} (h : m ≠ 0) (h2 : m < 65536) : [(m : Int)] = dig m := by rw [dig_small h2, if_neg h]
end Pf
/- Draws of numbers (l32) -/
namespace Pf
open Go Go.Proofs
theorem l32Open_ok (b : List Int) (h : ∀ x ∈ b, 0 ≤ x ∧ x ≤ 255) : AFun Tryz.prog 23 [.fi .u8 b] [] OpenQ := by
  refine afun_of Tryz.func23 Tryz.call23 rfl Tryz.ntmps23 rfl ?_
  have W : Walk Tryz.prog TT 23 _ := Walk.of TT_ok Tryz.func23 Tryz.results23
  refine sp W 0 rfl rfl rfl (fun h1 => ?_) (fun h1 => ?_)
  · refine rg W 0 rfl (⟨rfl, _, rfl, ⟨List.length_take_le _ _, fun x hx => h x (List.mem_of_mem_take hx)⟩⟩)
  · refine rg W 0 rfl (⟨rfl, _, rfl, ⟨by omega, h⟩⟩)
theorem pick32_ok (b : List Int) (p n : Int) (hb : BytesOk b) (h0 : 0 ≤ p) (h1 : p ≤ 1000000000) (hn : InI n) : AFunM Tryz.prog 53 [.ptr 0 0 0 0, .int .i64 n] [rdB b p] (RdQ b p 1 (PickV n)) := by
  refine afun_of Tryz.func53 Tryz.call53 rfl Tryz.ntmps53 rfl ?_
  have W : Walk Tryz.prog TT 53 _ := Walk.of TT_ok Tryz.func53 Tryz.results53
  have hl := hb.1
  unfold InI at hn
  refine sp W 0 rfl rfl rfl (fun h2 => ?_) (fun h2 => ?_)
  · refine rm W 0 [rdB b (p + 1)] rfl rfl rfl ⟨rfl, trivial⟩ rfl rfl (.int .i64 0) rfl (.refl) (⟨p + 1, rfl, by omega, by omega, 0, rfl, by omega, .inr rfl⟩)
  refine sp W 0 rfl rfl rfl (fun h3 => ?_) (fun h3 => ?_)
  · refine rm W 0 [rdB b (p + 1)] rfl rfl rfl ⟨rfl, trivial⟩ rfl rfl (.int .i64 0) rfl (.refl) (⟨p + 1, rfl, by omega, by omega, 0, rfl, by omega, .inr rfl⟩)
  refine sp W 0 rfl rfl rfl (fun h4 => ?_) (fun h4 => ?_)
  · have := hb.get (p + 1 - 1).toNat
    refine rm W 0 [rdB b (p + 1)] rfl rfl rfl ⟨rfl, trivial⟩ rfl rfl (.int .i64 (b.getD (p + 1 - 1).toNat 0 % n)) rfl (.refl) (⟨p + 1, rfl, by omega, by omega, _, rfl, Int.emod_nonneg _ (by omega), .inl (Int.emod_lt_of_pos _ (by omega))⟩)
  have k1 := Int.emod_nonneg (p + 1 - 1) (b := b.length) (by omega)
  have k2 := Int.emod_lt_of_pos (p + 1 - 1) (b := b.length) (by omega)
  have k3 := Int.emod_nonneg ((p + 1 - 1) * 7 + 3) (b := b.length) (by omega)
  have k4 := Int.emod_lt_of_pos ((p + 1 - 1) * 7 + 3) (b := b.length) (by omega)
  have k5 := hb.get ((p + 1 - 1) % b.length).toNat
  have k6 := hb.get (((p + 1 - 1) * 7 + 3) % b.length).toNat
  have k7 : 0 ≤ (p + 1 - 1) / b.length := Int.ediv_nonneg (by omega) (by omega)
  have k8 : (p + 1 - 1) / b.length ≤ p + 1 - 1 := Int.ediv_le_self _ (by omega)
  refine dre W 0 44 [] [] rfl rfl rfl trivial rfl ?_
  have kx := bxor_nonneg (a := b.getD ((p + 1 - 1) % b.length).toNat 0 * 131 + b.getD (((p + 1 - 1) * 7 + 3) % b.length).toNat 0 * 1117 + (p + 1 - 1) * 29 + (p + 1 - 1) / b.length * 53)
    (b := (b.getD ((p + 1 - 1) % b.length).toNat 0 * 131 + b.getD (((p + 1 - 1) * 7 + 3) % b.length).toNat 0 * 1117 + (p + 1 - 1) * 29 + (p + 1 - 1) / b.length * 53) / 64) (by omega) (by omega) (by omega) (by omega)
  refine rm W 0 [rdB b (p + 1)] rfl rfl rfl ⟨rfl, trivial⟩ rfl rfl (.int .i64 _) rfl (.refl) (⟨p + 1, rfl, by omega, by omega, _, rfl, Int.emod_nonneg _ (by omega), .inl (Int.emod_lt_of_pos _ (by omega))⟩)
theorem specNatOf_new (n : Nat) (h1 : n ≤ 18446744073709551615) : AFunN Tryz.prog 52 [.int .u64 n] (fun v H => v = .sl 0 0 0 (dig n).length ∧ H = [.ints 0 .i64 (dig n)]) := by
  refine afun_of Tryz.func52 Tryz.call52 rfl Tryz.ntmps52 rfl ?_
  have W : Walk Tryz.prog TT 52 _ := Walk.of TT_ok Tryz.func52 Tryz.results52
  refine atl W rfl ?_
  refine go_nilT 3 (.ints 0 .i64 []) rfl rfl rfl rfl rfl ?_
  refine lp W 0 (σ := Nat × Nat × List Int) (fun s => [(0, .int .u64 s.1), (3, .sl 0 s.2.1 0 s.2.2.length)]) (fun s => [.ints s.2.1 .i64 s.2.2]) (fun s => s.1) (fun s => s.1 ≤ 18446744073709551615 ∧ s.2.2 ++ dig s.1 = dig n) (n, 0, []) [0, 3] rfl rfl rfl ⟨h1, rfl⟩ ?_
  rintro ⟨m, g, l⟩ ⟨hm, he⟩ ih
  dsimp only at hm he ih ⊢
  have hl : l.length ≤ 4 := by
    have h2 := congrArg List.length he
    rw [List.length_append] at h2
    have h3 : (dig n).length ≤ 4 := dig_len_le.2 (by omega)
    omega
  refine sp W 0 rfl rfl rfl (fun h2 => ?_) (fun h2 => ?_)
  · have hm0 : m ≠ 0 := by omega
    have e1 : ((m : Int) % 65536) = ((m % 65536 : Nat) : Int) := by omega
    have e2 : ((m : Int) / 65536) = ((m / 65536 : Nat) : Int) := by omega
    rw [dig_pos hm0] at he
    have nx := ih (m / 65536, g + 1, l ++ [((m % 65536 : Nat) : Int)]) ⟨by dsimp only; omega, by simpa using he⟩ (by dsimp only; omega)
    dsimp only at nx
    rw [List.length_append, ← e1, ← e2] at nx
    refine bd W 0 1 [0, 3] rfl rfl rfl rfl rfl (nx)
  · have hm0 : m = 0 := by omega
    subst hm0
    rw [dig_zero, List.append_nil] at he
    subst he
    refine rn W 0 rfl rfl rfl (.sl 0 0 0 (dig n).length) rfl (.refl) (⟨rfl, by simp [blksM]⟩)
def NatQ (b : List Int) (p : Int) (v : AV) (H : AHeap) : Prop := ∃ (q : Int) (l : List Int), p ≤ q ∧ q ≤ p + 600 ∧ l.length ≤ 256 ∧ ∃ g, v = .sl 1 g 0 l.length ∧ H = [rdB b q, .ints g .i64 l]
theorem nat32_ok (b : List Int) (p : Int) (hb : BytesOk b) (h0 : 0 ≤ p) (h1 : p ≤ 999990000) : AFun Tryz.prog 54 [.ptr 0 0 0 0] [rdB b p] (NatQ b p) := by
  have hbits : (IntKind.i64.bits : Int) = 64 := rfl
  have hpw : ∀ k : Nat, k < 16 → (1 : Int) ≤ 2 ^ k ∧ (2 : Int) ^ k ≤ 32768 := by decide
  refine afun_of Tryz.func54 Tryz.call54 rfl Tryz.ntmps54 rfl ?_
  have W : Walk Tryz.prog TT 54 _ := Walk.of TT_ok Tryz.func54 Tryz.results54
  refine cm W 0 [(0, 0)] rfl (pick32_ok b p 4 hb (by omega) (by omega) (by unfold InI; omega)) ⟨rfl, trivial⟩ rfl rfl rfl ?_
  rintro _ _ ⟨p1, rfl, p1a, p1b, n, rfl, na, nb⟩
  refine ⟨_, _, rfl, rfl, ?_⟩
  refine cm W 0 [(0, 0)] rfl (pick32_ok b p1 16 hb (by omega) (by omega) (by unfold InI; omega)) ⟨rfl, trivial⟩ rfl rfl rfl ?_
  rintro _ _ ⟨p2, rfl, p2a, p2b, k, rfl, ka, kb⟩
  refine ⟨_, _, rfl, rfl, ?_⟩
  refine sp W 0 rfl rfl rfl (fun c0 => ?_) (fun c0 => ?_)
  · refine cm W 0 [(0, 0)] rfl (pick32_ok b p2 24 hb (by omega) (by omega) (by unfold InI; omega)) ⟨rfl, trivial⟩ rfl rfl rfl ?_
    rintro _ _ ⟨p3, rfl, p3a, p3b, n1, rfl, n1a, n1b⟩
    refine ⟨_, _, rfl, rfl, ?_⟩
    refine cm W 0 [(0, 0)] rfl (pick32_ok b p3 5 hb (by omega) (by omega) (by unfold InI; omega)) ⟨rfl, trivial⟩ rfl rfl rfl ?_
    rintro _ _ ⟨pk, rfl, pka, pkb, kd, rfl, kda, kdb⟩
    refine ⟨_, _, rfl, rfl, ?_⟩
    refine atl W rfl ?_
    refine go_nil 5 (.ints 0 .i64 []) rfl rfl rfl rfl rfl ?_
    refine go_loop W 0 300 (σ := Nat × List Int × Nat × Int) (fun s => [(0, .ptr 0 0 0 0), (3, .int .i64 (n1)), (4, .int .i64 kd), (5, .sl 1 s.2.2.1 0 s.1), (6, .int .i64 s.1)]) (fun s => [rdB b s.2.2.2, .ints s.2.2.1 .i64 s.2.1]) (fun s => 256 - s.1)
      (fun s => s.2.1.length = s.1 ∧ s.1 ≤ 256 ∧ ((s.1 : Int) ≤ n1 ∨ s.1 = 0) ∧ p ≤ s.2.2.2 ∧ s.2.2.2 ≤ p + 10 + 2 * s.1) (0, [], 0, pk) [0, 3, 4, 5, 6] rfl rfl rfl (by first | exact True.intro | (simp only [AllC, AllP, addN, Int.toNat_natCast, true_and, and_true, Option.getD, List.length_set, wrapU, pw1, pw7, pw8, pw16, pw23, pw32, pw52, Holds] <;> first | omega | ((repeat' apply And.intro) <;> first | omega | (intros; rfl))) | (simp [AllC, AllP, addN, cloL, clo, mrgL, mrg, wrapU, Holds] <;> omega)) ⟨by simp, by simp, .inr rfl, by dsimp only; omega, by dsimp only; omega⟩ ?_
    rintro ⟨i, L, g, q⟩ ⟨i0, i1, i2, i3, i4⟩ ih
    dsimp only at i0 i1 i2 i3 i4 ih ⊢
    refine sp W 0 rfl rfl rfl (fun h2 => ?_) (fun h2 => ?_)
    · refine cm W 0 [(0, 0)] rfl (pick32_ok b q 256 hb (by omega) (by omega) (by unfold InI; omega)) ⟨rfl, trivial⟩ rfl rfl rfl ?_
      rintro _ _ ⟨q1, rfl, q1a, q1b, x, rfl, xa, xb⟩
      refine ⟨_, _, rfl, rfl, ?_⟩
      refine cm W 0 [(0, 0)] rfl (pick32_ok b q1 256 hb (by omega) (by omega) (by unfold InI; omega)) ⟨rfl, trivial⟩ rfl rfl rfl ?_
      rintro _ _ ⟨q2, rfl, q2a, q2b, y, rfl, ya, yb⟩
      refine ⟨_, _, rfl, rfl, ?_⟩
      refine sp W 0 rfl rfl rfl (fun e0 => ?_) (fun e0 => ?_)
      · refine sp W 0 rfl rfl rfl (fun e1 => ?_) (fun e1 => ?_)
        · exfalso; omega
        · refine bd W 0 2 [0, 3, 4, 5, 6] rfl rfl rfl rfl rfl (ih (i + 1, L ++ [65535], g + 1, q2) ⟨by simp; omega, by dsimp only; omega, by dsimp only; omega, by dsimp only; omega, by dsimp only; omega⟩ (by dsimp only; omega)) (hc := by simp only [AllC, addN, Int.toNat_natCast, true_and, and_true, eq_self, List.length_set, List.length_cons, List.length_nil, List.length_append, List.length_replicate, wrapU, pw1, pw7, pw8, pw16, pw23, pw32, pw52] <;> first | omega | ((repeat' apply And.intro) <;> first | omega | (intros; rfl)))
      · refine sp W 0 rfl rfl rfl (fun e1 => ?_) (fun e1 => ?_)
        · refine bd W 0 2 [0, 3, 4, 5, 6] rfl rfl rfl rfl rfl (ih (i + 1, L ++ [0], g + 1, q2) ⟨by simp; omega, by dsimp only; omega, by dsimp only; omega, by dsimp only; omega, by dsimp only; omega⟩ (by dsimp only; omega)) (hc := by simp only [AllC, addN, Int.toNat_natCast, true_and, and_true, eq_self, List.length_set, List.length_cons, List.length_nil, List.length_append, List.length_replicate, wrapU, pw1, pw7, pw8, pw16, pw23, pw32, pw52] <;> first | omega | ((repeat' apply And.intro) <;> first | omega | (intros; rfl)))
        · refine bd W 0 2 [0, 3, 4, 5, 6] rfl rfl rfl rfl rfl (ih (i + 1, L ++ [x * 256 + y], g + 1, q2) ⟨by simp; omega, by dsimp only; omega, by dsimp only; omega, by dsimp only; omega, by dsimp only; omega⟩ (by dsimp only; omega)) (hc := by simp only [AllC, addN, Int.toNat_natCast, true_and, and_true, eq_self, List.length_set, List.length_cons, List.length_nil, List.length_append, List.length_replicate, wrapU, pw1, pw7, pw8, pw16, pw23, pw32, pw52] <;> first | omega | ((repeat' apply And.intro) <;> first | omega | (intros; rfl)))
    · refine sp W 0 rfl rfl rfl (fun f1 => ?_) (fun f1 => ?_)
      · refine sp W 0 rfl rfl rfl (fun f2 => ?_) (fun f2 => ?_)
        · refine cm W 0 [(0, 0)] rfl (pick32_ok b q 16 hb (by omega) (by omega) (by unfold InI; omega)) ⟨rfl, trivial⟩ rfl rfl rfl ?_
          rintro _ _ ⟨q1, rfl, q1a, q1b, x, rfl, xa, xb⟩
          refine ⟨_, _, rfl, rfl, ?_⟩
          have hx := hpw x.toNat (by omega)
          refine rg W 2 rfl (⟨q1, L.set (n1 - 1).toNat _, by omega, by omega, by simp; omega, g, by rw [List.length_set, i0], rfl⟩)
        · refine rg W 0 rfl (⟨q, L, by omega, by omega, by omega, g, by rw [i0], rfl⟩)
      · refine rg W 0 rfl (⟨q, L, by omega, by omega, by omega, g, by rw [i0], rfl⟩)
  refine sp W 0 rfl rfl rfl (fun c1 => ?_) (fun c1 => ?_)
  · refine cm W 0 [(0, 0)] rfl (pick32_ok b p2 6 hb (by omega) (by omega) (by unfold InI; omega)) ⟨rfl, trivial⟩ rfl rfl rfl ?_
    rintro _ _ ⟨p3, rfl, p3a, p3b, y, rfl, ya, yb⟩
    refine ⟨_, _, rfl, rfl, ?_⟩
    refine sp W 0 rfl rfl rfl (fun c3 => ?_) (fun c3 => ?_)
    · refine cm W 0 [(0, 0)] rfl (pick32_ok b p3 3 hb (by omega) (by omega) (by unfold InI; omega)) ⟨rfl, trivial⟩ rfl rfl rfl ?_
      rintro _ _ ⟨p4, rfl, p4a, p4b, z, rfl, za, zb⟩
      refine ⟨_, _, rfl, rfl, ?_⟩
      refine cm W 0 [(0, 0)] rfl (pick32_ok b p4 5 hb (by omega) (by omega) (by unfold InI; omega)) ⟨rfl, trivial⟩ rfl rfl rfl ?_
      rintro _ _ ⟨pk, rfl, pka, pkb, kd, rfl, kda, kdb⟩
      refine ⟨_, _, rfl, rfl, ?_⟩
      refine atl W rfl ?_
      refine go_nil 5 (.ints 0 .i64 []) rfl rfl rfl rfl rfl ?_
      refine go_loop W 0 300 (σ := Nat × List Int × Nat × Int) (fun s => [(0, .ptr 0 0 0 0), (3, .int .i64 (256 - z)), (4, .int .i64 kd), (5, .sl 1 s.2.2.1 0 s.1), (6, .int .i64 s.1)]) (fun s => [rdB b s.2.2.2, .ints s.2.2.1 .i64 s.2.1]) (fun s => 256 - s.1)
        (fun s => s.2.1.length = s.1 ∧ s.1 ≤ 256 ∧ ((s.1 : Int) ≤ 256 - z ∨ s.1 = 0) ∧ p ≤ s.2.2.2 ∧ s.2.2.2 ≤ p + 10 + 2 * s.1) (0, [], 0, pk) [0, 3, 4, 5, 6] rfl rfl rfl (by first | exact True.intro | (simp only [AllC, AllP, addN, Int.toNat_natCast, true_and, and_true, Option.getD, List.length_set, wrapU, pw1, pw7, pw8, pw16, pw23, pw32, pw52, Holds] <;> first | omega | ((repeat' apply And.intro) <;> first | omega | (intros; rfl))) | (simp [AllC, AllP, addN, cloL, clo, mrgL, mrg, wrapU, Holds] <;> omega)) ⟨by simp, by simp, .inr rfl, by dsimp only; omega, by dsimp only; omega⟩ ?_
      rintro ⟨i, L, g, q⟩ ⟨i0, i1, i2, i3, i4⟩ ih
      dsimp only at i0 i1 i2 i3 i4 ih ⊢
      refine sp W 0 rfl rfl rfl (fun h2 => ?_) (fun h2 => ?_)
      · refine cm W 0 [(0, 0)] rfl (pick32_ok b q 256 hb (by omega) (by omega) (by unfold InI; omega)) ⟨rfl, trivial⟩ rfl rfl rfl ?_
        rintro _ _ ⟨q1, rfl, q1a, q1b, x, rfl, xa, xb⟩
        refine ⟨_, _, rfl, rfl, ?_⟩
        refine cm W 0 [(0, 0)] rfl (pick32_ok b q1 256 hb (by omega) (by omega) (by unfold InI; omega)) ⟨rfl, trivial⟩ rfl rfl rfl ?_
        rintro _ _ ⟨q2, rfl, q2a, q2b, y, rfl, ya, yb⟩
        refine ⟨_, _, rfl, rfl, ?_⟩
        refine sp W 0 rfl rfl rfl (fun e0 => ?_) (fun e0 => ?_)
        · refine sp W 0 rfl rfl rfl (fun e1 => ?_) (fun e1 => ?_)
          · exfalso; omega
          · refine bd W 0 2 [0, 3, 4, 5, 6] rfl rfl rfl rfl rfl (ih (i + 1, L ++ [65535], g + 1, q2) ⟨by simp; omega, by dsimp only; omega, by dsimp only; omega, by dsimp only; omega, by dsimp only; omega⟩ (by dsimp only; omega)) (hc := by simp only [AllC, addN, Int.toNat_natCast, true_and, and_true, eq_self, List.length_set, List.length_cons, List.length_nil, List.length_append, List.length_replicate, wrapU, pw1, pw7, pw8, pw16, pw23, pw32, pw52] <;> first | omega | ((repeat' apply And.intro) <;> first | omega | (intros; rfl)))
        · refine sp W 0 rfl rfl rfl (fun e1 => ?_) (fun e1 => ?_)
          · refine bd W 0 2 [0, 3, 4, 5, 6] rfl rfl rfl rfl rfl (ih (i + 1, L ++ [0], g + 1, q2) ⟨by simp; omega, by dsimp only; omega, by dsimp only; omega, by dsimp only; omega, by dsimp only; omega⟩ (by dsimp only; omega)) (hc := by simp only [AllC, addN, Int.toNat_natCast, true_and, and_true, eq_self, List.length_set, List.length_cons, List.length_nil, List.length_append, List.length_replicate, wrapU, pw1, pw7, pw8, pw16, pw23, pw32, pw52] <;> first | omega | ((repeat' apply And.intro) <;> first | omega | (intros; rfl)))
          · refine bd W 0 2 [0, 3, 4, 5, 6] rfl rfl rfl rfl rfl (ih (i + 1, L ++ [x * 256 + y], g + 1, q2) ⟨by simp; omega, by dsimp only; omega, by dsimp only; omega, by dsimp only; omega, by dsimp only; omega⟩ (by dsimp only; omega)) (hc := by simp only [AllC, addN, Int.toNat_natCast, true_and, and_true, eq_self, List.length_set, List.length_cons, List.length_nil, List.length_append, List.length_replicate, wrapU, pw1, pw7, pw8, pw16, pw23, pw32, pw52] <;> first | omega | ((repeat' apply And.intro) <;> first | omega | (intros; rfl)))
      · refine sp W 0 rfl rfl rfl (fun f1 => ?_) (fun f1 => ?_)
        · refine sp W 0 rfl rfl rfl (fun f2 => ?_) (fun f2 => ?_)
          · refine cm W 0 [(0, 0)] rfl (pick32_ok b q 16 hb (by omega) (by omega) (by unfold InI; omega)) ⟨rfl, trivial⟩ rfl rfl rfl ?_
            rintro _ _ ⟨q1, rfl, q1a, q1b, x, rfl, xa, xb⟩
            refine ⟨_, _, rfl, rfl, ?_⟩
            have hx := hpw x.toNat (by omega)
            refine rg W 2 rfl (⟨q1, L.set (256 - z - 1).toNat _, by omega, by omega, by simp; omega, g, by rw [List.length_set, i0], rfl⟩)
          · refine rg W 0 rfl (⟨q, L, by omega, by omega, by omega, g, by rw [i0], rfl⟩)
        · refine rg W 0 rfl (⟨q, L, by omega, by omega, by omega, g, by rw [i0], rfl⟩)
    · skip
      refine cm W 0 [(0, 0)] rfl (pick32_ok b p3 5 hb (by omega) (by omega) (by unfold InI; omega)) ⟨rfl, trivial⟩ rfl rfl rfl ?_
      rintro _ _ ⟨pk, rfl, pka, pkb, kd, rfl, kda, kdb⟩
      refine ⟨_, _, rfl, rfl, ?_⟩
      refine atl W rfl ?_
      refine go_nil 5 (.ints 0 .i64 []) rfl rfl rfl rfl rfl ?_
      refine go_loop W 0 300 (σ := Nat × List Int × Nat × Int) (fun s => [(0, .ptr 0 0 0 0), (3, .int .i64 (n)), (4, .int .i64 kd), (5, .sl 1 s.2.2.1 0 s.1), (6, .int .i64 s.1)]) (fun s => [rdB b s.2.2.2, .ints s.2.2.1 .i64 s.2.1]) (fun s => 256 - s.1)
        (fun s => s.2.1.length = s.1 ∧ s.1 ≤ 256 ∧ ((s.1 : Int) ≤ n ∨ s.1 = 0) ∧ p ≤ s.2.2.2 ∧ s.2.2.2 ≤ p + 10 + 2 * s.1) (0, [], 0, pk) [0, 3, 4, 5, 6] rfl rfl rfl (by first | exact True.intro | (simp only [AllC, AllP, addN, Int.toNat_natCast, true_and, and_true, Option.getD, List.length_set, wrapU, pw1, pw7, pw8, pw16, pw23, pw32, pw52, Holds] <;> first | omega | ((repeat' apply And.intro) <;> first | omega | (intros; rfl))) | (simp [AllC, AllP, addN, cloL, clo, mrgL, mrg, wrapU, Holds] <;> omega)) ⟨by simp, by simp, .inr rfl, by dsimp only; omega, by dsimp only; omega⟩ ?_
      rintro ⟨i, L, g, q⟩ ⟨i0, i1, i2, i3, i4⟩ ih
      dsimp only at i0 i1 i2 i3 i4 ih ⊢
      refine sp W 0 rfl rfl rfl (fun h2 => ?_) (fun h2 => ?_)
      · refine cm W 0 [(0, 0)] rfl (pick32_ok b q 256 hb (by omega) (by omega) (by unfold InI; omega)) ⟨rfl, trivial⟩ rfl rfl rfl ?_
        rintro _ _ ⟨q1, rfl, q1a, q1b, x, rfl, xa, xb⟩
        refine ⟨_, _, rfl, rfl, ?_⟩
        refine cm W 0 [(0, 0)] rfl (pick32_ok b q1 256 hb (by omega) (by omega) (by unfold InI; omega)) ⟨rfl, trivial⟩ rfl rfl rfl ?_
        rintro _ _ ⟨q2, rfl, q2a, q2b, y, rfl, ya, yb⟩
        refine ⟨_, _, rfl, rfl, ?_⟩
        refine sp W 0 rfl rfl rfl (fun e0 => ?_) (fun e0 => ?_)
        · refine sp W 0 rfl rfl rfl (fun e1 => ?_) (fun e1 => ?_)
          · exfalso; omega
          · refine bd W 0 2 [0, 3, 4, 5, 6] rfl rfl rfl rfl rfl (ih (i + 1, L ++ [65535], g + 1, q2) ⟨by simp; omega, by dsimp only; omega, by dsimp only; omega, by dsimp only; omega, by dsimp only; omega⟩ (by dsimp only; omega)) (hc := by simp only [AllC, addN, Int.toNat_natCast, true_and, and_true, eq_self, List.length_set, List.length_cons, List.length_nil, List.length_append, List.length_replicate, wrapU, pw1, pw7, pw8, pw16, pw23, pw32, pw52] <;> first | omega | ((repeat' apply And.intro) <;> first | omega | (intros; rfl)))
        · refine sp W 0 rfl rfl rfl (fun e1 => ?_) (fun e1 => ?_)
          · refine bd W 0 2 [0, 3, 4, 5, 6] rfl rfl rfl rfl rfl (ih (i + 1, L ++ [0], g + 1, q2) ⟨by simp; omega, by dsimp only; omega, by dsimp only; omega, by dsimp only; omega, by dsimp only; omega⟩ (by dsimp only; omega)) (hc := by simp only [AllC, addN, Int.toNat_natCast, true_and, and_true, eq_self, List.length_set, List.length_cons, List.length_nil, List.length_append, List.length_replicate, wrapU, pw1, pw7, pw8, pw16, pw23, pw32, pw52] <;> first | omega | ((repeat' apply And.intro) <;> first | omega | (intros; rfl)))
          · refine bd W 0 2 [0, 3, 4, 5, 6] rfl rfl rfl rfl rfl (ih (i + 1, L ++ [x * 256 + y], g + 1, q2) ⟨by simp; omega, by dsimp only; omega, by dsimp only; omega, by dsimp only; omega, by dsimp only; omega⟩ (by dsimp only; omega)) (hc := by simp only [AllC, addN, Int.toNat_natCast, true_and, and_true, eq_self, List.length_set, List.length_cons, List.length_nil, List.length_append, List.length_replicate, wrapU, pw1, pw7, pw8, pw16, pw23, pw32, pw52] <;> first | omega | ((repeat' apply And.intro) <;> first | omega | (intros; rfl)))
      · refine sp W 0 rfl rfl rfl (fun f1 => ?_) (fun f1 => ?_)
        · refine sp W 0 rfl rfl rfl (fun f2 => ?_) (fun f2 => ?_)
          · refine cm W 0 [(0, 0)] rfl (pick32_ok b q 16 hb (by omega) (by omega) (by unfold InI; omega)) ⟨rfl, trivial⟩ rfl rfl rfl ?_
            rintro _ _ ⟨q1, rfl, q1a, q1b, x, rfl, xa, xb⟩
            refine ⟨_, _, rfl, rfl, ?_⟩
            have hx := hpw x.toNat (by omega)
            refine rg W 2 rfl (⟨q1, L.set (n - 1).toNat _, by omega, by omega, by simp; omega, g, by rw [List.length_set, i0], rfl⟩)
          · refine rg W 0 rfl (⟨q, L, by omega, by omega, by omega, g, by rw [i0], rfl⟩)
        · refine rg W 0 rfl (⟨q, L, by omega, by omega, by omega, g, by rw [i0], rfl⟩)
  refine sp W 0 rfl rfl rfl (fun c2 => ?_) (fun c2 => ?_)
  · refine cm W 0 [(0, 0)] rfl (pick32_ok b p2 12 hb (by omega) (by omega) (by unfold InI; omega)) ⟨rfl, trivial⟩ rfl rfl rfl ?_
    rintro _ _ ⟨p3, rfl, p3a, p3b, y, rfl, ya, yb⟩
    refine ⟨_, _, rfl, rfl, ?_⟩
    obtain ⟨y, rfl⟩ : ∃ m : Nat, y = m := ⟨y.toNat, by omega⟩
    have ly := dlen1 (m := y) (by omega)
    refine cn W 0 rfl rfl rfl (specNatOf_new y (by omega)) ?_
    rintro _ _ ⟨rfl, rfl⟩
    refine ⟨_, _, rfl, rfl, ?_⟩
    refine rg W 0 rfl (⟨p3, dig y, by omega, by omega, by omega, 0, rfl, rfl⟩)
  refine cm W 0 [(0, 0)] rfl (pick32_ok b p2 5 hb (by omega) (by omega) (by unfold InI; omega)) ⟨rfl, trivial⟩ rfl rfl rfl ?_
  rintro _ _ ⟨pk, rfl, pka, pkb, kd, rfl, kda, kdb⟩
  refine ⟨_, _, rfl, rfl, ?_⟩
  refine atl W rfl ?_
  refine go_nil 5 (.ints 0 .i64 []) rfl rfl rfl rfl rfl ?_
  refine go_loop W 0 300 (σ := Nat × List Int × Nat × Int) (fun s => [(0, .ptr 0 0 0 0), (3, .int .i64 (n)), (4, .int .i64 kd), (5, .sl 1 s.2.2.1 0 s.1), (6, .int .i64 s.1)]) (fun s => [rdB b s.2.2.2, .ints s.2.2.1 .i64 s.2.1]) (fun s => 256 - s.1)
    (fun s => s.2.1.length = s.1 ∧ s.1 ≤ 256 ∧ ((s.1 : Int) ≤ n ∨ s.1 = 0) ∧ p ≤ s.2.2.2 ∧ s.2.2.2 ≤ p + 10 + 2 * s.1) (0, [], 0, pk) [0, 3, 4, 5, 6] rfl rfl rfl (by first | exact True.intro | (simp only [AllC, AllP, addN, Int.toNat_natCast, true_and, and_true, Option.getD, List.length_set, wrapU, pw1, pw7, pw8, pw16, pw23, pw32, pw52, Holds] <;> first | omega | ((repeat' apply And.intro) <;> first | omega | (intros; rfl))) | (simp [AllC, AllP, addN, cloL, clo, mrgL, mrg, wrapU, Holds] <;> omega)) ⟨by simp, by simp, .inr rfl, by dsimp only; omega, by dsimp only; omega⟩ ?_
  rintro ⟨i, L, g, q⟩ ⟨i0, i1, i2, i3, i4⟩ ih
  dsimp only at i0 i1 i2 i3 i4 ih ⊢
  refine sp W 0 rfl rfl rfl (fun h2 => ?_) (fun h2 => ?_)
  · refine cm W 0 [(0, 0)] rfl (pick32_ok b q 256 hb (by omega) (by omega) (by unfold InI; omega)) ⟨rfl, trivial⟩ rfl rfl rfl ?_
    rintro _ _ ⟨q1, rfl, q1a, q1b, x, rfl, xa, xb⟩
    refine ⟨_, _, rfl, rfl, ?_⟩
    refine cm W 0 [(0, 0)] rfl (pick32_ok b q1 256 hb (by omega) (by omega) (by unfold InI; omega)) ⟨rfl, trivial⟩ rfl rfl rfl ?_
    rintro _ _ ⟨q2, rfl, q2a, q2b, y, rfl, ya, yb⟩
    refine ⟨_, _, rfl, rfl, ?_⟩
    refine sp W 0 rfl rfl rfl (fun e0 => ?_) (fun e0 => ?_)
    · refine sp W 0 rfl rfl rfl (fun e1 => ?_) (fun e1 => ?_)
      · exfalso; omega
      · refine bd W 0 2 [0, 3, 4, 5, 6] rfl rfl rfl rfl rfl (ih (i + 1, L ++ [65535], g + 1, q2) ⟨by simp; omega, by dsimp only; omega, by dsimp only; omega, by dsimp only; omega, by dsimp only; omega⟩ (by dsimp only; omega)) (hc := by simp only [AllC, addN, Int.toNat_natCast, true_and, and_true, eq_self, List.length_set, List.length_cons, List.length_nil, List.length_append, List.length_replicate, wrapU, pw1, pw7, pw8, pw16, pw23, pw32, pw52] <;> first | omega | ((repeat' apply And.intro) <;> first | omega | (intros; rfl)))
    · refine sp W 0 rfl rfl rfl (fun e1 => ?_) (fun e1 => ?_)
      · refine bd W 0 2 [0, 3, 4, 5, 6] rfl rfl rfl rfl rfl (ih (i + 1, L ++ [0], g + 1, q2) ⟨by simp; omega, by dsimp only; omega, by dsimp only; omega, by dsimp only; omega, by dsimp only; omega⟩ (by dsimp only; omega)) (hc := by simp only [AllC, addN, Int.toNat_natCast, true_and, and_true, eq_self, List.length_set, List.length_cons, List.length_nil, List.length_append, List.length_replicate, wrapU, pw1, pw7, pw8, pw16, pw23, pw32, pw52] <;> first | omega | ((repeat' apply And.intro) <;> first | omega | (intros; rfl)))
      · refine bd W 0 2 [0, 3, 4, 5, 6] rfl rfl rfl rfl rfl (ih (i + 1, L ++ [x * 256 + y], g + 1, q2) ⟨by simp; omega, by dsimp only; omega, by dsimp only; omega, by dsimp only; omega, by dsimp only; omega⟩ (by dsimp only; omega)) (hc := by simp only [AllC, addN, Int.toNat_natCast, true_and, and_true, eq_self, List.length_set, List.length_cons, List.length_nil, List.length_append, List.length_replicate, wrapU, pw1, pw7, pw8, pw16, pw23, pw32, pw52] <;> first | omega | ((repeat' apply And.intro) <;> first | omega | (intros; rfl)))
  · refine sp W 0 rfl rfl rfl (fun f1 => ?_) (fun f1 => ?_)
    · refine sp W 0 rfl rfl rfl (fun f2 => ?_) (fun f2 => ?_)
      · refine cm W 0 [(0, 0)] rfl (pick32_ok b q 16 hb (by omega) (by omega) (by unfold InI; omega)) ⟨rfl, trivial⟩ rfl rfl rfl ?_
        rintro _ _ ⟨q1, rfl, q1a, q1b, x, rfl, xa, xb⟩
        refine ⟨_, _, rfl, rfl, ?_⟩
        have hx := hpw x.toNat (by omega)
        refine rg W 2 rfl (⟨q1, L.set (n - 1).toNat _, by omega, by omega, by simp; omega, g, by rw [List.length_set, i0], rfl⟩)
      · refine rg W 0 rfl (⟨q, L, by omega, by omega, by omega, g, by rw [i0], rfl⟩)
    · refine rg W 0 rfl (⟨q, L, by omega, by omega, by omega, g, by rw [i0], rfl⟩)
end Pf
/- impl's fractions as numbers, in new memory; FracCmp, FracSign -/
namespace Pf
open Go Go.Proofs
theorem frOk_ex {p : Prop} {t u : List Int} (h : frOk p t u) : ∃ r : Rat, small r ∧ p = (r < 0) ∧ t = dt r ∧ u = db r := by
  obtain ⟨e1, e2, e3⟩ := frOk_rat h
  exact ⟨rat p t u, frOk_small h, propext e3, e1, e2⟩
theorem small_frOk {r : Rat} (h : small r) : frOk (r < 0) (dt r) (db r) := frOk_iff.2 h
/-- A function of fractions answers so: a number, in new memory; or nothing. -/
structure RI (g : FuncId) (args : List AV) (z : Rat) : Prop where
  no : ¬ small z → AFunP Tryz.prog g args (· = nilF)
  yes : small z → AFunN Tryz.prog g args (NewFT (z < 0) (dt z) (db z))
theorem ImplF.ri {g : FuncId} {args : List AV} {ok : Prop} {z : Rat} (ho : ok) (h : ImplF g args (.ofRat ok z)) : RI g args z :=
  ⟨fun hz => h.no (fun k => hz k.2), fun hz => h.yes ⟨ho, hz⟩⟩
theorem mulI {r s : Rat} (hr : small r) (hs : small s) : RI 9 [frR r, frR s] (r * s) := by
  have h := implFracMul_f (r < 0) (s < 0) (dt r) (db r) (dt s) (db s) (by have := hr.1; omega) (by have := hr.2; omega) (by have := hs.1; omega) (by have := hs.2; omega)
  rw [mulS_rat (small_frOk hr) (small_frOk hs), rat_frR, rat_frR] at h
  exact h.ri ⟨small_frOk hr, small_frOk hs⟩
open Classical in
theorem implFracSign_ok (p : Prop) (t u : List Int) (ht : t.length ≤ 1048576) (hu : u.length ≤ 1048576) : AFunP Tryz.prog 13 [frF p t u] (· = .int .i64 (if frOk p t u then fsgn p t else 0)) := by
  refine afun_of Tryz.func13 Tryz.call13 rfl Tryz.ntmps13 rfl ?_
  have W : Walk Tryz.prog TT 13 _ := Walk.of TT_ok Tryz.func13 Tryz.results13
  refine ce W 0 rfl rfl (implFracOk_ok p t u (by omega) (by omega)) rfl ?_
  refine sp W 0 rfl rfl rfl (fun h1 => ?_) (fun h1 => ?_)
  · have h1 : ¬ frOk p t u := h1
    rw [if_neg h1]
    refine rp W 0 rfl rfl rfl (.refl)
  · have h1 : frOk p t u := Classical.not_not.1 h1
    rw [if_pos h1]
    refine ce W 0 rfl rfl (sign_ok p t u (by omega)) rfl ?_
    refine rp W 0 rfl rfl rfl (.refl)
theorem pwSame_ok (l m : List Int) (hl : l.length ≤ 9223372036854775806) : AFunP Tryz.prog 36 [.fi .i64 l, .fi .i64 m] (· = .pr (l = m)) := by
  refine afun_of Tryz.func36 Tryz.call36 rfl Tryz.ntmps36 rfl ?_
  have W : Walk Tryz.prog TT 36 _ := Walk.of TT_ok Tryz.func36 Tryz.results36
  refine sp W 0 rfl rfl rfl (fun h1 => ?_) (fun h1 => ?_)
  · refine rp W 0 rfl rfl rfl (.no (fun h => by subst h; omega))
  · have h1 : l.length = m.length := by omega
    refine lp W 0 (σ := Nat) (fun i => [(0, .fi .i64 l), (1, .fi .i64 m), (5, .int .i64 i)]) (fun _ => []) (fun i => l.length - i) (fun i => i ≤ l.length ∧ ∀ j, j < i → l.getD j 0 = m.getD j 0) 0 [0, 1, 5] rfl rfl rfl ⟨Nat.zero_le _, fun j hj => by omega⟩ ?_
    rintro i ⟨hi, he⟩ ih
    refine sp W 0 rfl rfl rfl (fun h2 => ?_) (fun h2 => ?_)
    · have h2 : i < l.length := by omega
      refine dre W 0 8 [] [] rfl rfl rfl trivial rfl ?_
      refine sp W 0 rfl rfl rfl (fun h3 => ?_) (fun h3 => ?_)
      · refine rp W 0 rfl rfl rfl (.no (fun h => by subst h; exact h3 rfl))
      · refine bd W 0 0 [0, 1, 5] rfl rfl rfl rfl rfl (ih (i + 1) ⟨by omega, fun j hj => ?_⟩ (by omega))
        by_cases hji : j = i
        · subst hji; simpa using h3
        · exact he j (by omega)
    · have hfin : l = m := List.ext_getElem h1 fun j h3 h4 => by
        have := he j (by omega)
        simpa [List.getD_eq_getElem?_getD, h3, h4] using this
      refine rp W 0 rfl rfl rfl (.yes hfin)
theorem pwFrac_ok (p q : Prop) (t u x y : List Int) (ht : t.length ≤ 9223372036854775806) (hu : u.length ≤ 9223372036854775806) : AFunP Tryz.prog 11 [frF p t u, frF q x y] (· = .pr ((p ↔ q) ∧ t = x ∧ u = y)) := by
  refine afun_of Tryz.func11 Tryz.call11 rfl Tryz.ntmps11 rfl ?_
  have W : Walk Tryz.prog TT 11 _ := Walk.of TT_ok Tryz.func11 Tryz.results11
  refine sp W 0 rfl rfl rfl (fun h1 => ?_) (fun h1 => ?_)
  · refine ce W 0 rfl rfl (pwSame_ok t x ht) rfl ?_
    refine sp W 0 rfl rfl rfl (fun h2 => ?_) (fun h2 => ?_)
    · refine ce W 0 rfl rfl (pwSame_ok u y hu) rfl ?_
      refine rp W 0 rfl rfl rfl (.pr ⟨fun h => ⟨h1, h2, h⟩, fun h => h.2.2⟩)
    · refine rp W 0 rfl rfl rfl (.no (fun h => h2 h.2.1))
  · refine rp W 0 rfl rfl rfl (.no (fun h => h1 h.1))
end Pf
/- Draws of fractions (l32) -/
namespace Pf
open Go Go.Proofs
theorem natM_ok (b : List Int) (p : Int) (hb : BytesOk b) (h0 : 0 ≤ p) (h1 : p ≤ 999990000) : AFunM Tryz.prog 54 [.ptr 0 0 0 0] [rdB b p] (RdQ b p 600 fun u => ∃ l, u = .fi .i64 l ∧ l.length ≤ 256) := by
  refine AFun.mono (nat32_ok b p hb h0 h1) ?_
  rintro v H ⟨q, l, a1, a2, a3, g, rfl, rfl⟩
  exact ⟨_, _, _, _, _, [rdB b q], rfl, by simp [AllC], .refl, rfl, rfl, trivial, ⟨rfl, trivial⟩, BC_of rfl, rfl, q, rfl, a1, a2, l, rfl, a3⟩
def RawV (u : AV) : Prop := ∃ l, u = .fi .i64 l ∧ l.length ≤ 258
def FracW (u : AV) : Prop := ∃ p t d, u = frF p t d ∧ t.length ≤ 300 ∧ d.length ≤ 300
end Pf
/- The law of FracOrder -/
namespace Pf
open Go Go.Proofs
theorem cmp_eq0 {r s : Rat} (h : cmpR r s = 0) : r = s := by
  unfold cmpR at h
  split at h
  · cases h
  · split at h
    · assumption
    · cases h
theorem cmp_sub (r s : Rat) : cmpR (r - s) 0 = cmpR r s := by
  have := cmpR_add (r - s) 0 s
  rw [Rat.sub_add_cancel, Rat.zero_add] at this
  exact this.symm
theorem fsgn_cmp (r : Rat) : fsgn (r < 0) (dt r) = cmpR r 0 := by
  unfold fsgn cmpR
  by_cases h : r < 0
  · rw [if_pos h, if_pos h]
  · rw [if_neg h, if_neg h]
    by_cases h0 : r = 0
    · rw [if_pos (dt_nil.2 h0), if_pos h0]
    · rw [if_neg (fun k => h0 (dt_nil.1 k)), if_neg h0]
theorem cmp_trans {r s t : Rat} (h : cmpR r s = cmpR s t) : cmpR r t = cmpR r s := by
  rcases (by have := cmpR_rng r s; omega : cmpR r s = -1 ∨ cmpR r s = 0 ∨ cmpR r s = 1) with e | e | e
  · have e2 : cmpR s t = -1 := by omega
    rw [e]
    have lt : ∀ {a b : Rat}, cmpR a b = -1 → a < b := fun {a b} h => by
      unfold cmpR at h
      split at h
      · assumption
      · split at h <;> cases h
    have h1 := lt e
    have h2 := lt e2
    have h3 : r < t := by
      refine Rat.not_le.1 fun k => ?_
      exact Rat.not_le.2 h2 (Rat.le_trans k (Rat.le_of_lt h1))
    unfold cmpR; rw [if_pos h3]
  · rw [e]
    have := cmp_eq0 e
    subst this
    rw [← h, e]
  · have e2 : cmpR s t = 1 := by omega
    rw [e]
    have lt : ∀ {a b : Rat}, cmpR a b = 1 → b < a := fun {a b} h => by
      unfold cmpR at h
      split at h
      · cases h
      · split at h
        · cases h
        · rename_i k1 k2; exact Rat.lt_of_le_of_ne (Rat.not_lt.1 k1) (Ne.symm k2)
    have h1 := lt e
    have h2 := lt e2
    have h3 : t < r := by
      refine Rat.not_le.1 fun k => ?_
      exact Rat.not_le.2 h1 (Rat.le_trans k (Rat.le_of_lt h2))
    unfold cmpR; rw [if_neg (Rat.not_lt.2 (Rat.le_of_lt h3)), if_neg (Rat.ne_of_gt h3)]
end Pf
/- The law of NumTop -/
namespace Pf
open Go Go.Proofs
/-- A fraction that was made; nothing, if it has too many digits. -/
def PR (z : Rat) : Prop := small z ∧ z < 0
open Classical in
noncomputable def TR (z : Rat) : List Int := if small z then dt z else []
open Classical in
noncomputable def UR (z : Rat) : List Int := if small z then db z else []
noncomputable abbrev fR (z : Rat) : AV := frF (PR z) (TR z) (UR z)
noncomputable abbrev resR (z : Rat) : AV := .tup [fR z, .pr (small z)]
theorem PR_eq {z : Rat} (h : small z) : PR z = (z < 0) := propext ⟨fun k => k.2, fun k => ⟨h, k⟩⟩
theorem TR_eq {z : Rat} (h : small z) : TR z = dt z := if_pos h
theorem UR_eq {z : Rat} (h : small z) : UR z = db z := if_pos h
theorem fR_eq {z : Rat} (h : small z) : fR z = frR z := by unfold fR; rw [PR_eq h, TR_eq h, UR_eq h]; rfl
theorem TR_len (z : Rat) : (TR z).length ≤ 256 := by unfold TR; split <;> simp_all [small]
theorem UR_len (z : Rat) : (UR z).length ≤ 256 := by unfold UR; split <;> simp_all [small]
theorem fR_frOk {z : Rat} (h : small z) : frOk (PR z) (TR z) (UR z) := by rw [PR_eq h, TR_eq h, UR_eq h]; exact small_frOk h
theorem fR_rat {z : Rat} (h : small z) : rat (PR z) (TR z) (UR z) = z := by rw [PR_eq h, TR_eq h, UR_eq h]; exact rat_frR z
theorem frOk_ex' {p : Prop} {t u : List Int} (h : frOk p t u) : ∃ r : Rat, small r ∧ p = PR r ∧ t = TR r ∧ u = UR r := by
  obtain ⟨r, h1, h2, h3, h4⟩ := frOk_ex h
  exact ⟨r, h1, by rw [PR_eq h1, h2], by rw [TR_eq h1, h3], by rw [UR_eq h1, h4]⟩
theorem av_ofRat {ok : Prop} {z : Rat} (ho : ok) : (FRes.ofRat ok z).av = resR z := by
  unfold FRes.av FRes.ofRat
  by_cases h : small z
  · rw [resF_yes ⟨ho, h⟩, resR, fR_eq h, eq_true h]; rfl
  · rw [resF_no (fun k => h k.2), resR]
    have e1 : PR z = False := eq_false (fun k => h k.1)
    have e2 : TR z = [] := if_neg h
    have e3 : UR z = [] := if_neg h
    rw [fR, e1, e2, e3, eq_false h]
theorem mulE {r s : Rat} (hr : small r) (hs : small s) : AFunP Tryz.prog 9 [fR r, fR s] (· = resR (r * s)) := by
  have h1 := TR_len r; have h2 := UR_len r; have h3 := TR_len s; have h4 := UR_len s
  have h := (implFracMul_f (PR r) (PR s) (TR r) (UR r) (TR s) (UR s) (by omega) (by omega) (by omega) (by omega)).fz rfl (by simp [AllC]) rfl
  rw [mulS_rat (fR_frOk hr) (fR_frOk hs), fR_rat hr, fR_rat hs, av_ofRat ⟨fR_frOk hr, fR_frOk hs⟩] at h
  exact h
theorem signE {z : Rat} (h : small z) : AFunP Tryz.prog 13 [fR z] (· = .int .i64 (cmpR z 0)) := by
  have h1 := TR_len z; have h2 := UR_len z
  have k := implFracSign_ok (PR z) (TR z) (UR z) (by omega) (by omega)
  rw [if_pos (fR_frOk h)] at k
  rw [show cmpR z 0 = fsgn (PR z) (TR z) by rw [PR_eq h, TR_eq h, fsgn_cmp]]
  exact k
noncomputable abbrev noR : AV := .tup [frF False [] [], .pr False]
theorem pwR (z : Rat) : AFunP Tryz.prog 11 [fR z, fR z] (· = .pr True) := by
  have h1 := TR_len z; have h2 := UR_len z
  have h := pwFrac_ok (PR z) (PR z) (TR z) (UR z) (TR z) (UR z) (by omega) (by omega)
  rw [eq_true (show (PR z ↔ PR z) ∧ TR z = TR z ∧ UR z = UR z from ⟨Iff.rfl, rfl, rfl⟩)] at h
  exact h
theorem pwNo : AFunP Tryz.prog 11 [frF False [] [], frF False [] []] (· = .pr True) := by
  have h := pwFrac_ok False False [] [] [] [] (by simp) (by simp)
  rw [eq_true (show (False ↔ False) ∧ ([] : List Int) = [] ∧ ([] : List Int) = [] from ⟨Iff.rfl, rfl, rfl⟩)] at h
  exact h
end Pf
/- Decimals: laws that the walks use -/
namespace Pf
open Go Go.Proofs
/-- At most three digits: not above 400. -/
theorem le400 {E : List UInt8} (ha : E.all dB = true) (hl : E.length ≤ 3) : ¬ (E.length = 3 ∧ ¬ (Op.bytesLess E [52, 48, 48] = true ∨ E = [52, 48, 48])) ↔ dval E ≤ 400 := by
  match E, ha, hl with
  | [], _, _ => simp [dval]
  | [a], ha, _ =>
    have h := dval_lt ha
    simp only [List.length_cons, List.length_nil] at h ⊢
    constructor
    · intro _; omega
    · intro _ k; have := k.1; omega
  | [a, b], ha, _ =>
    have h := dval_lt ha
    simp only [List.length_cons, List.length_nil] at h ⊢
    constructor
    · intro _; omega
    · intro _ k; have := k.1; omega
  | [a, b, c], ha, _ =>
    obtain ⟨h1, h2, h3⟩ : dB a = true ∧ dB b = true ∧ dB c = true := by simpa using ha
    have h := dB_iff.1 h1
    have h' := dB_iff.1 h2
    have h'' := dB_iff.1 h3
    have e2 : (Op.bytesLess [a, b, c] [52, 48, 48] = true ∨ [a, b, c] = [52, 48, 48]) ↔ ((a.toNat - 48) * 10 + (b.toNat - 48)) * 10 + (c.toNat - 48) ≤ 400 := by
      simp only [Op.bytesLess, Bool.or_eq_true, Bool.and_eq_true, decide_eq_true_eq, beq_iff_eq, List.cons.injEq, and_true, is48, is52, u8_lt, Bool.false_eq_true]
      have q1 : (52 : UInt8).toNat = 52 := rfl
      have q2 : (48 : UInt8).toNat = 48 := rfl
      rw [q1, q2]
      omega
    have e3 : dval [a, b, c] = ((a.toNat - 48) * 10 + (b.toNat - 48)) * 10 + (c.toNat - 48) := by simp [dval]
    rw [e2, e3]
    constructor
    · intro k; exact Classical.byContradiction fun n => k ⟨rfl, n⟩
    · intro k n; exact n.2 k
theorem least_ex {P : Nat → Prop} : ∀ {k : Nat}, P k → ∃ n, n ≤ k ∧ P n ∧ ∀ m, m < n → ¬ P m := by
  intro k
  induction k using Nat.strongRecOn with
  | ind k ih =>
    intro h
    by_cases hm : ∃ m, m < k ∧ P m
    · obtain ⟨m, h1, h2⟩ := hm
      obtain ⟨n, a, b, c⟩ := ih m h1 h2
      exact ⟨n, by omega, b, c⟩
    · exact ⟨k, Nat.le_refl _, h, fun m h1 h2 => hm ⟨m, h1, h2⟩⟩
/-- A fraction that is not below 0 is its parts. -/
theorem rat_parts {z : Rat} (h : ¬ z < 0) : z = mkRat ((z.num.natAbs : Nat) : Int) z.den := by
  have h1 : ¬ z.num < 0 := fun k => h (num_neg.2 k)
  have e : ((z.num.natAbs : Nat) : Int) = z.num := by omega
  rw [e, Rat.mkRat_self]
/-- What a text of a fraction says. -/
def DecS (A B : Nat) (u : AV) : Prop :=
  (∃ n, n ≤ 60 ∧ A * 10 ^ n % B = 0 ∧ (∀ m, m < n → ¬ A * 10 ^ m % B = 0) ∧ (decT n (A * 10 ^ n / B)).length ≤ 60 ∧ u = .tup [.str (decT n (A * 10 ^ n / B)), .pr True]) ∨
  ((∀ n, n ≤ 60 → A * 10 ^ n % B = 0 → (∀ m, m < n → ¬ A * 10 ^ m % B = 0) → 60 < (decT n (A * 10 ^ n / B)).length) ∧ u = .tup [.str [], .pr False])
/-- A literal's value in digits: the text is a literal of the same number; a literal without a power has such a text. -/
theorem decS_lit {A B : Nat} (hB : 0 < B) {u : AV} (h : DecS A B u) : (∃ t, u = .tup [.str t, .pr True] ∧ litP t ∧ t.length ≤ 60 ∧ litv t = mkRat (A : Int) B) ∨
    (u = .tup [.str [], .pr False] ∧ ∀ s, litP s → s.length ≤ 60 → (101 : UInt8) ∉ s → ¬ litv s = mkRat (A : Int) B) := by
  rcases h with ⟨n, h1, h2, h3, h4, rfl⟩ | ⟨h1, rfl⟩
  · left
    obtain ⟨k1, k2, k3⟩ := decT_lit n (A * 10 ^ n / B)
    refine ⟨_, rfl, k1, h4, ?_⟩
    rw [k3, mkRat_nat (ten_pos _) hB]
    exact Nat.div_mul_cancel (Nat.dvd_of_mod_eq_zero h2)
  · right
    refine ⟨rfl, fun s k1 k2 k3 k4 => ?_⟩
    obtain ⟨k, q1, q2, q3⟩ := decT_fits hB k1 k2 k3 k4
    obtain ⟨n, p1, p2, p3⟩ := least_ex (P := fun n => A * 10 ^ n % B = 0) q2
    have := h1 n (by omega) p2 p3
    have := q3 n p1 p2
    omega
/-- The last four digits ahead of what is written. -/
theorem text_step {m : Nat} (hm : m ≠ 0) : Lib.decDigits m = (if m / 10000 = 0 then [] else Lib.decDigits (m / 10000)) ++ (if m / 10000 = 0 then Lib.decDigits (m % 10000) else padD 4 (m % 10000)) := by
  by_cases h : m / 10000 = 0
  · rw [if_pos h, if_pos h]
    have : m % 10000 = m := by omega
    rw [this]; rfl
  · rw [if_neg h, if_neg h]
    have := dec_split (k := 4) (by omega) (u := m) (by omega)
    exact this
end Pf
/- Literals: impl's side, with their numbers -/
namespace Pf
open Go Go.Proofs
theorem litN_minus {s : List UInt8} {v : Int} (h : (101 : UInt8) ∈ s) (hm : (cutR s 101).head? = some 45) (hv : Lib.atoiAll (cutP (cutR s 101) 45) = .ok v) : litN s = -v := by
  unfold litN; rw [if_pos h, if_pos hm, atoiV_of hv]
theorem litN_plus {s : List UInt8} {v : Int} (h : (101 : UInt8) ∈ s) (hm : ¬ (cutR s 101).head? = some 45) (hv : Lib.atoiAll (cutP (cutR s 101) 45) = .ok v) : litN s = v := by
  unfold litN; rw [if_pos h, if_neg hm, atoiV_of hv]
theorem lit3_ok (s : List UInt8) (hl : s.length ≤ 281474976710656) : AFunP Tryz.prog 25 [.str s] (fun u => ∃ a b n, u = .tup [.str a, .str b, .int .i64 n, .pr (litP s)] ∧ (litP s → a = litA s ∧ b = litB s ∧ n = litN s)) := by
  have l1 := cutL_len s 101
  have l2 := cutR_len s 101
  have l3 := cutL_len (cutL s 101) 46
  have l4 := cutR_len (cutL s 101) 46
  have l5 := cutP_len (cutR s 101) 45
  refine afun_of Tryz.func25 Tryz.call25 rfl Tryz.ntmps25 rfl ?_
  have W : Walk Tryz.prog TT 25 _ := Walk.of TT_ok Tryz.func25 Tryz.results25
  refine ce W 0 rfl rfl (cut_ok s 101 (by omega)) rfl ?_
  refine ce W 0 rfl rfl (cut_ok (cutL s 101) 46 (by omega)) rfl ?_
  refine ce W 0 rfl rfl (wholeDigits_ok _ (by omega)) rfl ?_
  refine sp W 0 rfl rfl rfl (fun h1 => ?_) (fun h1 => ?_)
  · have hno : ¬ litP s := fun k => h1 k.1
    refine rq W 0 rfl rfl (.tup [.str [], .str [], .int .i64 0, .pr (litP s)]) ⟨_, _, _, rfl, fun k => absurd k hno⟩ rfl (.tup ⟨.refl, .refl, .refl, .no hno, trivial⟩)
  have h1 : wd (cutL (cutL s 101) 46) := Classical.not_not.1 h1
  refine sp W 0 rfl rfl rfl (fun h2 => ?_) (fun h2 => ?_)
  · refine ce W 0 rfl rfl (isDigits_ok _ (by omega)) rfl ?_
    refine sp W 0 rfl rfl rfl (fun h3 => ?_) (fun h3 => ?_)
    · have hno : ¬ litP s := fun k => h3 (k.2.1 h2)
      refine rq W 0 rfl rfl (.tup [.str [], .str [], .int .i64 0, .pr (litP s)]) ⟨_, _, _, rfl, fun k => absurd k hno⟩ rfl (.tup ⟨.refl, .refl, .refl, .no hno, trivial⟩)
    have h3 := Classical.not_not.1 h3
    refine sp W 0 rfl rfl rfl (fun h4 => ?_) (fun h4 => ?_)
    · have hy : litP s := ⟨h1, fun _ => h3, fun k => absurd k h4⟩
      refine rq W 0 rfl rfl (.tup [.str (cutL (cutL s 101) 46), .str (cutR (cutL s 101) 46), .int .i64 0, .pr (litP s)]) ⟨_, _, _, rfl, fun _ => ⟨rfl, rfl, (litN_none h4).symm⟩⟩ rfl (.tup ⟨.refl, .refl, .refl, .yes hy, trivial⟩)
    · skip
      have h4 : 101 ∈ s := Classical.not_not.1 h4
      refine ce W 0 rfl rfl (cutPrefix_ok _ 45 (by omega)) rfl ?_
      refine cq W 0 rfl rfl (atoi_ok (cutP (cutR s 101) 45) (by omega)) ?_
      rintro _ (⟨v, hv, rfl⟩ | ⟨hv, n, rfl⟩)
      · refine ⟨_, rfl, ?_⟩
        refine ce W 0 rfl rfl (wholeDigits_ok _ (by omega)) rfl ?_
        refine sp W 0 rfl rfl rfl (fun b1 => ?_) (fun b1 => ?_)
        · have hno : ¬ litP s := fun k => b1 (k.2.2 h4).1
          refine rq W 0 rfl rfl (.tup [.str [], .str [], .int .i64 0, .pr (litP s)]) ⟨_, _, _, rfl, fun k => absurd k hno⟩ rfl (.tup ⟨.refl, .refl, .refl, .no hno, trivial⟩)
        have b1 := Classical.not_not.1 b1
        have v0 := atoi_nonneg b1 hv
        refine sp W 0 rfl rfl rfl (fun b2 => ?_) (fun b2 => ?_)
        · have hno : ¬ litP s := fun k => by have := (k.2.2 h4).2.1; omega
          refine rq W 0 rfl rfl (.tup [.str [], .str [], .int .i64 0, .pr (litP s)]) ⟨_, _, _, rfl, fun k => absurd k hno⟩ rfl (.tup ⟨.refl, .refl, .refl, .no hno, trivial⟩)
        refine sp W 0 rfl rfl rfl (fun b3 => ?_) (fun b3 => ?_)
        · have hno : ¬ litP s := fun k => by obtain ⟨v', e, k1, k2⟩ := (k.2.2 h4).2.2; rw [hv] at e; cases e; omega
          refine rq W 0 rfl rfl (.tup [.str [], .str [], .int .i64 0, .pr (litP s)]) ⟨_, _, _, rfl, fun k => absurd k hno⟩ rfl (.tup ⟨.refl, .refl, .refl, .no hno, trivial⟩)
        refine sp W 0 rfl rfl rfl (fun b4 => ?_) (fun b4 => ?_)
        · refine sp W 0 rfl rfl rfl (fun b5 => ?_) (fun b5 => ?_)
          · have hno : ¬ litP s := fun k => by obtain ⟨v', e, k1, k2⟩ := (k.2.2 h4).2.2; rw [hv] at e; cases e; exact k2 ⟨b4, b5⟩
            refine rq W 0 rfl rfl (.tup [.str [], .str [], .int .i64 0, .pr (litP s)]) ⟨_, _, _, rfl, fun k => absurd k hno⟩ rfl (.tup ⟨.refl, .refl, .refl, .no hno, trivial⟩)
          · refine sp W 0 rfl rfl rfl (fun b6 => ?_) (fun b6 => ?_)
            · have hy : litP s := ⟨h1, fun _ => h3, fun _ => ⟨b1, by omega, v, hv, by omega, fun k => b5 k.2⟩⟩
              refine rq W 0 rfl rfl (.tup [.str (cutL (cutL s 101) 46), .str (cutR (cutL s 101) 46), .int .i64 (-v), .pr (litP s)]) ⟨_, _, _, rfl, fun _ => ⟨rfl, rfl, (litN_minus h4 b4 hv).symm⟩⟩ rfl (.tup ⟨.refl, .refl, .refl, .yes hy, trivial⟩)
            · exact absurd b4 b6
        · refine sp W 0 rfl rfl rfl (fun b6 => ?_) (fun b6 => ?_)
          · exact absurd b6 b4
          · have hy : litP s := ⟨h1, fun _ => h3, fun _ => ⟨b1, by omega, v, hv, by omega, fun k => b4 k.1⟩⟩
            refine rq W 0 rfl rfl (.tup [.str (cutL (cutL s 101) 46), .str (cutR (cutL s 101) 46), .int .i64 (v), .pr (litP s)]) ⟨_, _, _, rfl, fun _ => ⟨rfl, rfl, (litN_plus h4 b4 hv).symm⟩⟩ rfl (.tup ⟨.refl, .refl, .refl, .yes hy, trivial⟩)
      · refine ⟨_, rfl, ?_⟩
        have hno : ¬ litP s := fun k => by obtain ⟨v', e, k1, k2⟩ := (k.2.2 h4).2.2; exact hv _ e
        refine rq W 0 rfl rfl (.tup [.str [], .str [], .int .i64 0, .pr (litP s)]) ⟨_, _, _, rfl, fun k => absurd k hno⟩ rfl (.tup ⟨.refl, .refl, .refl, .no hno, trivial⟩)
  · refine sp W 0 rfl rfl rfl (fun h4 => ?_) (fun h4 => ?_)
    · have hy : litP s := ⟨h1, fun k => absurd k h2, fun k => absurd k h4⟩
      refine rq W 0 rfl rfl (.tup [.str (cutL (cutL s 101) 46), .str (cutR (cutL s 101) 46), .int .i64 0, .pr (litP s)]) ⟨_, _, _, rfl, fun _ => ⟨rfl, rfl, (litN_none h4).symm⟩⟩ rfl (.tup ⟨.refl, .refl, .refl, .yes hy, trivial⟩)
    · skip
      have h4 : 101 ∈ s := Classical.not_not.1 h4
      refine ce W 0 rfl rfl (cutPrefix_ok _ 45 (by omega)) rfl ?_
      refine cq W 0 rfl rfl (atoi_ok (cutP (cutR s 101) 45) (by omega)) ?_
      rintro _ (⟨v, hv, rfl⟩ | ⟨hv, n, rfl⟩)
      · refine ⟨_, rfl, ?_⟩
        refine ce W 0 rfl rfl (wholeDigits_ok _ (by omega)) rfl ?_
        refine sp W 0 rfl rfl rfl (fun b1 => ?_) (fun b1 => ?_)
        · have hno : ¬ litP s := fun k => b1 (k.2.2 h4).1
          refine rq W 0 rfl rfl (.tup [.str [], .str [], .int .i64 0, .pr (litP s)]) ⟨_, _, _, rfl, fun k => absurd k hno⟩ rfl (.tup ⟨.refl, .refl, .refl, .no hno, trivial⟩)
        have b1 := Classical.not_not.1 b1
        have v0 := atoi_nonneg b1 hv
        refine sp W 0 rfl rfl rfl (fun b2 => ?_) (fun b2 => ?_)
        · have hno : ¬ litP s := fun k => by have := (k.2.2 h4).2.1; omega
          refine rq W 0 rfl rfl (.tup [.str [], .str [], .int .i64 0, .pr (litP s)]) ⟨_, _, _, rfl, fun k => absurd k hno⟩ rfl (.tup ⟨.refl, .refl, .refl, .no hno, trivial⟩)
        refine sp W 0 rfl rfl rfl (fun b3 => ?_) (fun b3 => ?_)
        · have hno : ¬ litP s := fun k => by obtain ⟨v', e, k1, k2⟩ := (k.2.2 h4).2.2; rw [hv] at e; cases e; omega
          refine rq W 0 rfl rfl (.tup [.str [], .str [], .int .i64 0, .pr (litP s)]) ⟨_, _, _, rfl, fun k => absurd k hno⟩ rfl (.tup ⟨.refl, .refl, .refl, .no hno, trivial⟩)
        refine sp W 0 rfl rfl rfl (fun b4 => ?_) (fun b4 => ?_)
        · refine sp W 0 rfl rfl rfl (fun b5 => ?_) (fun b5 => ?_)
          · have hno : ¬ litP s := fun k => by obtain ⟨v', e, k1, k2⟩ := (k.2.2 h4).2.2; rw [hv] at e; cases e; exact k2 ⟨b4, b5⟩
            refine rq W 0 rfl rfl (.tup [.str [], .str [], .int .i64 0, .pr (litP s)]) ⟨_, _, _, rfl, fun k => absurd k hno⟩ rfl (.tup ⟨.refl, .refl, .refl, .no hno, trivial⟩)
          · refine sp W 0 rfl rfl rfl (fun b6 => ?_) (fun b6 => ?_)
            · have hy : litP s := ⟨h1, fun k => absurd k h2, fun _ => ⟨b1, by omega, v, hv, by omega, fun k => b5 k.2⟩⟩
              refine rq W 0 rfl rfl (.tup [.str (cutL (cutL s 101) 46), .str (cutR (cutL s 101) 46), .int .i64 (-v), .pr (litP s)]) ⟨_, _, _, rfl, fun _ => ⟨rfl, rfl, (litN_minus h4 b4 hv).symm⟩⟩ rfl (.tup ⟨.refl, .refl, .refl, .yes hy, trivial⟩)
            · exact absurd b4 b6
        · refine sp W 0 rfl rfl rfl (fun b6 => ?_) (fun b6 => ?_)
          · exact absurd b6 b4
          · have hy : litP s := ⟨h1, fun k => absurd k h2, fun _ => ⟨b1, by omega, v, hv, by omega, fun k => b4 k.1⟩⟩
            refine rq W 0 rfl rfl (.tup [.str (cutL (cutL s 101) 46), .str (cutR (cutL s 101) 46), .int .i64 (v), .pr (litP s)]) ⟨_, _, _, rfl, fun _ => ⟨rfl, rfl, (litN_plus h4 b4 hv).symm⟩⟩ rfl (.tup ⟨.refl, .refl, .refl, .yes hy, trivial⟩)
      · refine ⟨_, rfl, ?_⟩
        have hno : ¬ litP s := fun k => by obtain ⟨v', e, k1, k2⟩ := (k.2.2 h4).2.2; exact hv _ e
        refine rq W 0 rfl rfl (.tup [.str [], .str [], .int .i64 0, .pr (litP s)]) ⟨_, _, _, rfl, fun k => absurd k hno⟩ rfl (.tup ⟨.refl, .refl, .refl, .no hno, trivial⟩)

/-- Ten to a power. -/
theorem dig_ten : dig 10 = [10] := by rw [dig_pos (by omega)]; simp [dig_zero]
theorem fR_mk {a b : Nat} (hb : 0 < b) (h : small (mkRat (a : Int) b)) (X : Prop) : frF (False ∧ X) (lT a b) (lB a b) = fR (mkRat (a : Int) b) := by
  obtain ⟨e1, e2, -⟩ := mkRat_parts False a b (by omega)
  rw [sg_false] at e1 e2
  rw [fR_eq h]
  unfold frR
  rw [e1, e2]
  have : (False ∧ X) = (mkRat (a : Int) b < 0) := propext ⟨fun k => k.1.elim, fun k => absurd k (mkRat_nonneg a b hb)⟩
  rw [this]
theorem ten_ok (n : Int) (h0 : 0 ≤ n) (h1 : n ≤ 500) : AFunP Tryz.prog 30 [.int .i64 n] (· = .fi .i64 (dig (10 ^ n.toNat))) := by
  have e0 : ([1] : List Int) = dig (10 ^ 0) := by rw [Nat.pow_zero, dig_one]
  refine afun_of Tryz.func30 Tryz.call30 rfl Tryz.ntmps30 rfl ?_
  have W : Walk Tryz.prog TT 30 _ := Walk.of TT_ok Tryz.func30 Tryz.results30
  refine atl W rfl ?_
  refine go_frz [0] [3, 5, 6] rfl rfl rfl (by first | exact True.intro | (simp only [AllC, AllP, addN, Int.toNat_natCast, true_and, and_true, Option.getD, List.length_set, wrapU, pw1, pw7, pw8, pw16, pw23, pw32, pw52, Holds] <;> first | omega | ((repeat' apply And.intro) <;> first | omega | (intros; rfl))) | (simp [AllC, AllP, addN, cloL, clo, mrgL, mrg, wrapU, Holds] <;> omega)) (by first | exact True.intro | (simp only [AllC, AllP, addN, Int.toNat_natCast, true_and, and_true, Option.getD, List.length_set, wrapU, pw1, pw7, pw8, pw16, pw23, pw32, pw52, Holds] <;> first | omega | ((repeat' apply And.intro) <;> first | omega | (intros; rfl))) | (simp [AllC, AllP, addN, cloL, clo, mrgL, mrg, wrapU, Holds] <;> omega)) ?_
  rw [e0]
  refine lp W 0 (σ := Nat) (fun i => [(3, .fi .i64 (dig (10 ^ i))), (5, .int .i64 n), (6, .int .i64 i)]) (fun _ => [.dead]) (fun i => 600 - i) (fun i => (i : Int) ≤ n) 0 [3, 5, 6] rfl rfl rfl (by first | exact True.intro | (simp only [AllC, AllP, addN, Int.toNat_natCast, true_and, and_true, Option.getD, List.length_set, wrapU, pw1, pw7, pw8, pw16, pw23, pw32, pw52, Holds] <;> first | omega | ((repeat' apply And.intro) <;> first | omega | (intros; rfl))) | (simp [AllC, AllP, addN, cloL, clo, mrgL, mrg, wrapU, Holds] <;> omega)) ?_
  rintro i hi ih
  have l1 := dig10 (e := i) (k := 200) (by omega) (Nat.le_refl _)
  have l2 : (dig 10).length ≤ 1 := by rw [dig_ten]; simp
  have km := natMul_ok (10 ^ i) 10 (by omega) (by omega)
  rw [dig_ten, ← Nat.pow_succ] at km
  refine sp W 0 rfl rfl rfl (fun h => ?_) (fun h => ?_)
  · refine cf W 0 [1] [3, 5, 6] rfl rfl rfl rfl rfl rfl (km) rfl ?_
    refine bd W 0 1 [3, 5, 6] rfl rfl rfl rfl rfl (ih (i + 1) (by omega) (by omega))
  · have : i = n.toNat := by omega
    subst this
    refine rp W 0 rfl rfl rfl (.refl)
/-- Digits read as a number. -/
theorem natRead_ok (s : List UInt8) (ha : s.all dB = true) (hl : s.length ≤ 500) : AFunP Tryz.prog 26 [.str s] (· = .fi .i64 (dig (dval s))) := by
  have e0 : ([] : List Int) = dig (dval (s.take 0)) := by rw [List.take_zero]; exact dig_zero.symm
  refine afun_of Tryz.func26 Tryz.call26 rfl Tryz.ntmps26 rfl ?_
  have W : Walk Tryz.prog TT 26 _ := Walk.of TT_ok Tryz.func26 Tryz.results26
  refine atl W rfl ?_
  refine go_sub 3 (.fi .i64 (dig (dval (s.take 0)))) rfl (by rw [← e0]; exact .nils_fi) rfl ?_
  refine lp W 0 (σ := Nat) (fun i => [(0, .str s), (3, .fi .i64 (dig (dval (s.take i)))), (5, .str s), (6, .int .i64 s.length), (7, .int .i64 i)]) (fun _ => []) (fun i => s.length - i) (fun i => i ≤ s.length) 0 [0, 3, 5, 6, 7] rfl rfl rfl (Nat.zero_le _) ?_
  rintro i hi ih
  have hv := dval_lt (s := s.take i) (List.all_eq_true.2 fun x hx => List.all_eq_true.1 ha x (List.mem_of_mem_take hx))
  rw [List.length_take, Nat.min_eq_left hi] at hv
  have l1 := dig10 (e := i) (k := 200) (by omega) (Nat.le_of_lt hv)
  have l2 : (dig 10).length ≤ 1 := by rw [dig_ten]; simp
  have km := natMul_ok (dval (s.take i)) 10 (by omega) (by omega)
  have l3 : (dig (dval (s.take i) * 10)).length ≤ 201 := dig_len_mul l1 l2
  rw [dig_ten] at km
  refine sp W 0 rfl rfl rfl (fun h => ?_) (fun h => ?_)
  · have hi2 : i < s.length := by omega
    have hb := dB_iff.1 (all_getD.1 ha i hi2)
    refine phg W 0 8 [1] rfl rfl (fun PW => ?_)
    refine pho PW 0 1 [] [] rfl rfl trivial rfl rfl ?_
    refine phz PW [0] [0, 3, 4, 5, 6, 7] rfl rfl rfl rfl ?_
    refine phe PW 0 [] [.fi .i64 (dig (dval (s.take i) * 10))] rfl ⟨km.at rfl _, trivial⟩ rfl ?_
    have ec : ((s.getD (i : Int).toNat 0).toNat : Int) - 48 = (((s.getD i 0).toNat - 48 : Nat) : Int) := by rw [Int.toNat_natCast]; omega
    have ko := natOf_ok ((s.getD i 0).toNat - 48) (by omega)
    rw [← ec] at ko
    refine ce W 0 rfl rfl (ko) rfl ?_
    have l4 : (dig ((s.getD i 0).toNat - 48)).length ≤ 1 := dlen1 (by omega)
    refine ce W 0 rfl rfl (natAdd_ok (dval (s.take i) * 10) ((s.getD i 0).toNat - 48) (by omega) (by omega)) rfl ?_
    have es : s.take (i + 1) = s.take i ++ [s.getD i 0] := by
      rw [List.take_add_one, List.getElem?_eq_getElem hi2, List.getD_eq_getElem?_getD, List.getElem?_eq_getElem hi2]; rfl
    have ih2 := ih (i + 1) (by omega) (by omega)
    rw [es, dval_snoc] at ih2
    refine bd W 0 0 [0, 3, 5, 6, 7] rfl rfl rfl rfl rfl (ih2)
  · have : s.take i = s := List.take_of_length_le (by omega)
    rw [this]
    refine rp W 0 rfl rfl rfl (.refl)
theorem implFracInt10_ok : AFunP Tryz.prog 10 [.int .i64 10] (· = fR 10) := by
  have kn := natOf_ok 10 (by omega)
  have kw := whole_ok ((10 : Int) < 0) 10 (by rw [dig_ten]; simp)
  rw [dig_ten] at kn kw
  have e : ((10 : Int) < 0 ∧ (10 : Nat) ≠ 0) = False := by simp
  rw [e] at kw
  have e1 : frF False [10] [1] = fR 10 := by
    have h := fR_mk (a := 10) (b := 1) (by omega) (small_mk (by omega) (by rw [dig_ten]; simp) (by rw [dig_one]; simp)) True
    unfold lT lB at h
    rw [Nat.gcd_one_right, Nat.div_one, Nat.div_one, dig_ten, dig_one] at h
    have e2 : mkRat ((10 : Nat) : Int) 1 = 10 := ten_rat.symm
    rw [e2, show (False ∧ True) = False from by simp] at h
    exact h
  rw [← e1]
  refine afun_of Tryz.func10 Tryz.call10 rfl Tryz.ntmps10 rfl ?_
  have W : Walk Tryz.prog TT 10 _ := Walk.of TT_ok Tryz.func10 Tryz.results10
  refine sp W 0 rfl rfl rfl (fun h1 => ?_) (fun h1 => ?_)
  · exfalso; omega
  refine ce W 0 rfl rfl (kn) rfl ?_
  refine ce W 0 rfl rfl (kw) rfl ?_
  refine cn W 0 rfl rfl rfl (given_new False [10] [1] (by simp) (by simp)) ?_
  rintro _ _ ⟨rfl, rfl⟩
  refine ⟨_, _, rfl, rfl, ?_⟩
  refine rp W 0 rfl rfl rfl (.refl)
theorem decFrac_no (s : List UInt8) (hl : s.length ≤ 281474976710656) (h : ¬ (litP s ∧ s.length ≤ 60)) : AFunP Tryz.prog 6 [.str s] (· = noR) := by
  refine afun_of Tryz.func6 Tryz.call6 rfl Tryz.ntmps6 rfl ?_
  have W : Walk Tryz.prog TT 6 _ := Walk.of TT_ok Tryz.func6 Tryz.results6
  refine ce W 0 rfl rfl (decOk_ok s hl) rfl ?_
  refine sp W 0 rfl rfl rfl (fun h1 => ?_) (fun h1 => ?_)
  · refine rp W 0 rfl rfl rfl (sub_noF)
  · exact absurd (Classical.not_not.1 h1) h
theorem decFrac_yes (s : List UInt8) (h : litP s) (hl : s.length ≤ 60) : AFunP Tryz.prog 6 [.str s] (· = resR (litv s)) := by
  refine afun_of Tryz.func6 Tryz.call6 rfl Tryz.ntmps6 rfl ?_
  have W : Walk Tryz.prog TT 6 _ := Walk.of TT_ok Tryz.func6 Tryz.results6
  refine ce W 0 rfl rfl (decOk_ok s (by omega)) rfl ?_
  refine sp W 0 rfl rfl rfl (fun h1 => ?_) (fun h1 => ?_)
  · exact absurd ⟨h, hl⟩ h1
  refine cq W 0 rfl rfl (lit3_ok s (by omega)) ?_
  rintro _ ⟨a, b, n, rfl, hq⟩
  obtain ⟨rfl, rfl, rfl⟩ := hq h
  refine ⟨_, rfl, ?_⟩
  have l1 := (lit_len s).1
  have hN := litN_in h
  have hall : (litA s ++ litB s).all dB = true := by rw [List.all_append, litA_all h, litB_all h]; rfl
  have hD := lit_val h hl
  have hs := lit_small h hl
  have kr := natRead_ok (litA s ++ litB s) hall (by rw [List.length_append]; omega)
  have e : resR (litv s) = .tup [fR (litv s), .pr True] := by rw [resR, eq_true hs]
  rw [e]
  unfold litv at hs ⊢
  refine ce W 0 rfl rfl (kr) rfl ?_
  generalize dval (litA s ++ litB s) = D at *
  have ld := dig10 (e := 60) (k := 16) (by omega) hD
  have hE0 : -500 ≤ litN s - ((litB s).length : Int) ∧ litN s - ((litB s).length : Int) ≤ 500 := by omega
  obtain ⟨E, eE⟩ : ∃ E, litN s - ((litB s).length : Int) = E := ⟨_, rfl⟩
  rw [eE] at hs hE0 ⊢
  have hE : -500 ≤ E ∧ E ≤ 500 := hE0
  obtain ⟨d1, d2⟩ := tenv_dig hD hE.1 hE.2
  have hs2 := hs
  unfold tenv at hs2 ⊢
  have ef := fR_mk (ten_pos _) hs2
  have lT1 : (lT (D * 10 ^ E.toNat) (10 ^ (-E).toNat)).length ≤ 256 := dig_len_le.2 (Nat.lt_of_le_of_lt (Nat.div_le_self _ _) (dig_len_le.1 d1))
  have lB1 : (lB (D * 10 ^ E.toNat) (10 ^ (-E).toNat)).length ≤ 256 := dig_len_le.2 (Nat.lt_of_le_of_lt (Nat.div_le_self _ _) (dig_len_le.1 d2))
  refine sp W 0 rfl rfl rfl (fun h2 => ?_) (fun h2 => ?_)
  · rw [eE] at h2
    have kt : AFunP Tryz.prog 30 [.int .i64 (litN s - ((litB s).length : Int))] (· = .fi .i64 (dig (10 ^ E.toNat))) := by rw [eE]; exact ten_ok E (by omega) (by omega)
    refine ce W 0 rfl rfl (kt) rfl ?_
    have l5 := dig10 (e := E.toNat) (k := 200) (by omega) (Nat.le_refl _)
    refine ce W 0 rfl rfl (natMul_ok D (10 ^ E.toNat) (by omega) (by omega)) rfl ?_
    have kw : AFunP Tryz.prog 28 [.bool false, .fi .i64 (dig (D * 10 ^ E.toNat))] _ := AFun.sub (whole_ok False (D * 10 ^ E.toNat) (by omega)) ⟨.no id, .refl, trivial⟩
    have z1 : (-E).toNat = 0 := by omega
    have et : lT (D * 10 ^ E.toNat) (10 ^ (-E).toNat) = dig (D * 10 ^ E.toNat) := by
      rw [z1]; unfold lT; rw [Nat.pow_zero, Nat.gcd_one_right, Nat.div_one]
    have eb : lB (D * 10 ^ E.toNat) (10 ^ (-E).toNat) = [1] := by
      rw [z1]; unfold lB; rw [Nat.pow_zero, Nat.gcd_one_right, Nat.div_one, dig_one]
    rw [et, eb] at ef
    rw [← ef (D * 10 ^ E.toNat ≠ 0)]
    refine ce W 0 rfl rfl (kw) rfl ?_
    refine cn W 0 rfl rfl rfl (given_new (False ∧ D * 10 ^ E.toNat ≠ 0) (dig (D * 10 ^ E.toNat)) [1] (by omega) (by simp)) ?_
    rintro _ _ ⟨rfl, rfl⟩
    refine ⟨_, _, rfl, rfl, ?_⟩
    refine rp W 0 rfl rfl rfl (.refl)
  · rw [eE] at h2
    have kt : AFunP Tryz.prog 30 [.int .i64 (-(litN s - ((litB s).length : Int)))] (· = .fi .i64 (dig (10 ^ (-E).toNat))) := by rw [eE]; exact ten_ok (-E) (by omega) (by omega)
    refine ce W 0 rfl rfl (kt) rfl ?_
    have l5 := dig10 (e := (-E).toNat) (k := 200) (by omega) (Nat.le_refl _)
    have z1 : E.toNat = 0 := by omega
    have z2 : D * 10 ^ E.toNat = D := by rw [z1, Nat.pow_zero, Nat.mul_one]
    rw [z2] at ef lT1 lB1 ⊢
    have kw : AFunP Tryz.prog 31 [.bool false, .fi .i64 (dig D), .fi .i64 (dig (10 ^ (-E).toNat))] _ := AFun.sub (lowest_ok False D (10 ^ (-E).toNat) (by have := ten_pos (-E).toNat; omega) (by omega) (by omega)) ⟨.no id, .refl, .refl, trivial⟩
    rw [← ef (D ≠ 0)]
    refine ce W 0 rfl rfl (kw) rfl ?_
    refine cn W 0 rfl rfl rfl (given_new (False ∧ D ≠ 0) (lT D (10 ^ (-E).toNat)) (lB D (10 ^ (-E).toNat)) lT1 lB1) ?_
    rintro _ _ ⟨rfl, rfl⟩
    refine ⟨_, _, rfl, rfl, ?_⟩
    refine rp W 0 rfl rfl rfl (.refl)
end Pf
/- The library's layings at this dump (Itoa, Repeat), written by the shelf's tools. -/
namespace Go.Proofs
open Go.Shelf
def Tryz.lays171_ren : Go.Shelf.Ren := ⟨fun | 171 => 70 | 243 => 97 | 246 => 119 | 283 => 144 | 284 => 145 | 285 => 146 | 286 => 147 | 129 => 96 | 317 => 163 | 318 => 164 | 319 => 165 | 320 => 166 | 337 => 168 | 338 => 169 | n => n, fun | 3 => 3 | 9 => 9 | 2 => 2 | 4 => 4 | 171 => 166 | 0 => 0 | 53 => 67 | 37 => 22 | 5 => 5 | 173 => 168 | 212 => 184 | 51 => 126 | 20 => 20 | 213 => 185 | 46 => 98 | 232 => 189 | 233 => 190 | n => n, fun | 17 => 4 | 18 => 5 | 19 => 6 | n => n⟩
theorem Tryz.lays171 : Go.Proofs.LaysM.n171 Tryz.prog Tryz.lays171_ren := {
  mixed := by kernel_rfl
  f129 := Tryz.func96.trans (congrArg some (by kernel_rfl))
  f171 := Tryz.func70.trans (congrArg some (by kernel_rfl))
  f243 := Tryz.func97.trans (congrArg some (by kernel_rfl))
  f246 := Tryz.func119.trans (congrArg some (by kernel_rfl))
  f283 := Tryz.func144.trans (congrArg some (by kernel_rfl))
  f284 := Tryz.func145.trans (congrArg some (by kernel_rfl))
  f285 := Tryz.func146.trans (congrArg some (by kernel_rfl))
  f286 := Tryz.func147.trans (congrArg some (by kernel_rfl))
  f317 := Tryz.func163.trans (congrArg some (by kernel_rfl))
  f318 := Tryz.func164.trans (congrArg some (by kernel_rfl))
  f319 := Tryz.func165.trans (congrArg some (by kernel_rfl))
  f320 := Tryz.func166.trans (congrArg some (by kernel_rfl))
  f337 := Tryz.func168.trans (congrArg some (by kernel_rfl))
  f338 := Tryz.func169.trans (congrArg some (by kernel_rfl))
  t0 := Tryz.underlying0
  a0 := Tryz.isAgg0
  z0 := Tryz.sizeOf0
  v0 := Tryz.zeroValue0
  t2 := Tryz.underlying2
  a2 := Tryz.isAgg2
  z2 := Tryz.sizeOf2
  v2 := Tryz.zeroValue2
  t3 := Tryz.underlying3
  a3 := Tryz.isAgg3
  z3 := Tryz.sizeOf3
  v3 := Tryz.zeroValue3
  t4 := Tryz.underlying4
  a4 := Tryz.isAgg4
  z4 := Tryz.sizeOf4
  v4 := Tryz.zeroValue4
  t5 := Tryz.underlying5
  a5 := Tryz.isAgg5
  z5 := Tryz.sizeOf5
  v5 := Tryz.zeroValue5
  t9 := Tryz.underlying9
  a9 := Tryz.isAgg9
  z9 := Tryz.sizeOf9
  v9 := Tryz.zeroValue9
  t20 := Tryz.underlying20
  a20 := Tryz.isAgg20
  z20 := Tryz.sizeOf20
  v20 := Tryz.zeroValue20
  t37 := Tryz.underlying22
  a37 := Tryz.isAgg22
  z37 := Tryz.sizeOf22
  v37 := Tryz.zeroValue22
  t46 := Tryz.underlying98
  a46 := Tryz.isAgg98
  z46 := Tryz.sizeOf98
  v46 := Tryz.zeroValue98
  t51 := Tryz.underlying126
  a51 := Tryz.isAgg126
  z51 := Tryz.sizeOf126
  v51 := Tryz.zeroValue126
  t53 := Tryz.underlying67
  a53 := Tryz.isAgg67
  z53 := Tryz.sizeOf67
  v53 := Tryz.zeroValue67
  t171 := Tryz.underlying166
  a171 := Tryz.isAgg166
  z171 := Tryz.sizeOf166
  v171 := Tryz.zeroValue166
  t173 := Tryz.underlying168
  a173 := Tryz.isAgg168
  z173 := Tryz.sizeOf168
  v173 := Tryz.zeroValue168
  t212 := Tryz.underlying184
  a212 := Tryz.isAgg184
  z212 := Tryz.sizeOf184
  v212 := Tryz.zeroValue184
  t213 := Tryz.underlying185
  a213 := Tryz.isAgg185
  z213 := Tryz.sizeOf185
  t232 := Tryz.underlying189
  a232 := Tryz.isAgg189
  z232 := Tryz.sizeOf189
  v232 := Tryz.zeroValue189
  t233 := Tryz.underlying190
  a233 := Tryz.isAgg190
  z233 := Tryz.sizeOf190
  v233 := Tryz.zeroValue190
  g17 := by kernel_rfl
  g18 := by kernel_rfl
  g19 := by kernel_rfl
  i0 := by kernel_rfl
  i2 := by kernel_rfl
  i3 := by kernel_rfl
  i4 := by kernel_rfl
  i5 := by kernel_rfl
  i9 := by kernel_rfl
  i20 := by kernel_rfl
  i37 := by kernel_rfl
  i46 := by kernel_rfl
  i51 := by kernel_rfl
  i53 := by kernel_rfl
  i171 := by kernel_rfl
  i173 := by kernel_rfl
  i212 := by kernel_rfl
  i232 := by kernel_rfl
  i233 := by kernel_rfl
  m17 := by kernel_rfl
  m18 := by kernel_rfl
  m19 := by kernel_rfl }
def Tryz.lays105_ren : Go.Shelf.Ren := ⟨fun | 105 => 40 | 212 => 71 | 99 => 72 | 165 => 73 | 166 => 74 | 170 => 75 | 169 => 76 | 263 => 98 | 264 => 99 | 206 => 100 | 240 => 101 | 241 => 102 | 276 => 120 | 277 => 121 | n => n, fun | 9 => 9 | 3 => 3 | 4 => 4 | 20 => 20 | 0 => 0 | 46 => 98 | 109 => 105 | 5 => 5 | 72 => 110 | 76 => 95 | 51 => 126 | 146 => 128 | 53 => 67 | 148 => 130 | 70 => 108 | 37 => 22 | 75 => 94 | 127 => 132 | 164 => 146 | 80 => 54 | n => n, fun | n => n⟩
theorem Tryz.lays105 : Go.Proofs.Lays.n105 Tryz.prog Tryz.lays105_ren := {
  mixed := by kernel_rfl
  f99 := Tryz.func72.trans (congrArg some (by kernel_rfl))
  f105 := Tryz.func40.trans (congrArg some (by kernel_rfl))
  f165 := Tryz.func73.trans (congrArg some (by kernel_rfl))
  f166 := Tryz.func74.trans (congrArg some (by kernel_rfl))
  f169 := Tryz.func76.trans (congrArg some (by kernel_rfl))
  f170 := Tryz.func75.trans (congrArg some (by kernel_rfl))
  f206 := Tryz.func100.trans (congrArg some (by kernel_rfl))
  f212 := Tryz.func71.trans (congrArg some (by kernel_rfl))
  f240 := Tryz.func101.trans (congrArg some (by kernel_rfl))
  f241 := Tryz.func102.trans (congrArg some (by kernel_rfl))
  f263 := Tryz.func98.trans (congrArg some (by kernel_rfl))
  f264 := Tryz.func99.trans (congrArg some (by kernel_rfl))
  f276 := Tryz.func120.trans (congrArg some (by kernel_rfl))
  f277 := Tryz.func121.trans (congrArg some (by kernel_rfl))
  t0 := Tryz.underlying0
  a0 := Tryz.isAgg0
  z0 := Tryz.sizeOf0
  v0 := Tryz.zeroValue0
  t3 := Tryz.underlying3
  a3 := Tryz.isAgg3
  z3 := Tryz.sizeOf3
  v3 := Tryz.zeroValue3
  t4 := Tryz.underlying4
  a4 := Tryz.isAgg4
  z4 := Tryz.sizeOf4
  v4 := Tryz.zeroValue4
  t5 := Tryz.underlying5
  a5 := Tryz.isAgg5
  z5 := Tryz.sizeOf5
  v5 := Tryz.zeroValue5
  t9 := Tryz.underlying9
  a9 := Tryz.isAgg9
  z9 := Tryz.sizeOf9
  v9 := Tryz.zeroValue9
  t20 := Tryz.underlying20
  a20 := Tryz.isAgg20
  z20 := Tryz.sizeOf20
  v20 := Tryz.zeroValue20
  t37 := Tryz.underlying22
  a37 := Tryz.isAgg22
  z37 := Tryz.sizeOf22
  v37 := Tryz.zeroValue22
  t46 := Tryz.underlying98
  a46 := Tryz.isAgg98
  z46 := Tryz.sizeOf98
  v46 := Tryz.zeroValue98
  t51 := Tryz.underlying126
  a51 := Tryz.isAgg126
  z51 := Tryz.sizeOf126
  v51 := Tryz.zeroValue126
  t53 := Tryz.underlying67
  a53 := Tryz.isAgg67
  z53 := Tryz.sizeOf67
  v53 := Tryz.zeroValue67
  t70 := Tryz.underlying108
  a70 := Tryz.isAgg108
  z70 := Tryz.sizeOf108
  v70 := Tryz.zeroValue108
  t72 := Tryz.underlying110
  a72 := Tryz.isAgg110
  z72 := Tryz.sizeOf110
  v72 := Tryz.zeroValue110
  t75 := Tryz.underlying94
  a75 := Tryz.isAgg94
  z75 := Tryz.sizeOf94
  v75 := Tryz.zeroValue94
  t76 := Tryz.underlying95
  a76 := Tryz.isAgg95
  z76 := Tryz.sizeOf95
  v76 := Tryz.zeroValue95
  t109 := Tryz.underlying105
  a109 := Tryz.isAgg105
  z109 := Tryz.sizeOf105
  v109 := Tryz.zeroValue105
  t127 := Tryz.underlying132
  a127 := Tryz.isAgg132
  z127 := Tryz.sizeOf132
  v127 := Tryz.zeroValue132
  t146 := Tryz.underlying128
  a146 := Tryz.isAgg128
  z146 := Tryz.sizeOf128
  v146 := Tryz.zeroValue128
  t148 := Tryz.underlying130
  a148 := Tryz.isAgg130
  z148 := Tryz.sizeOf130
  v148 := Tryz.zeroValue130
  t164 := Tryz.underlying146
  a164 := Tryz.isAgg146
  z164 := Tryz.sizeOf146
  v164 := Tryz.zeroValue146 }
theorem Tryz.extra105 : Builder.Extra Tryz.prog Tryz.lays105_ren where
  sizeBuilder := by kernel_rfl
  liesBuilder := by kernel_rfl
  t5 := Tryz.underlying5
  a5 := Tryz.isAgg5
  z5 := Tryz.sizeOf5
  v5 := Tryz.zeroValue5
  infoByte := by kernel_rfl
  cellsByte := by kernel_rfl
  sizeByte := by kernel_rfl
  neB5 := by decide
end Go.Proofs
/- The library's Itoa and Repeat -/
namespace Pf
open Go Go.Proofs
theorem tabIs {FM : FMem} {β : BMap} {H : AHeap} {w : World} (hh : RelH FM β H w) : Lib.TabIs Tryz.prog w "internal/strconv.uint64pow10" .u64 Lib.pow10Tab := by
  obtain ⟨cs, el, fr, h1, h2⟩ := hh.gk.tabw rfl
  have hg : Tryz.prog.globalNamed "internal/strconv.uint64pow10" = some 4 := by kernel_rfl
  unfold Lib.TabIs World.var?
  rw [hg]
  simp only [Option.bind_some, h1, Option.some.injEq]
  have e : gtab = Lib.pow10Tab := by decide
  refine Array.ext (by rw [h2, e]; simp) fun i hi1 hi2 => ?_
  have hi : i < gtab.length := by omega
  have h3 := hh.fm _ _ _ (hh.gk.tab i hi)
  simp only [World.cell?, h1] at h3
  have h4 : cs[i]? = some (Value.int .u64 (gtab.getD i 0)) := by simpa using h3
  rw [Array.getElem?_eq_getElem hi1, Option.some.injEq] at h4
  rw [h4, List.getD_eq_getElem?_getD, List.getElem?_eq_getElem hi]
  simp [e]
theorem int_arg {FM : FMem} {β : BMap} {n : Int} {k : IntKind} {cargs : Array Value} (h : VRs FM β [.int k n] cargs.toList) : cargs = #[.int k n] := by
  obtain ⟨h1, h2⟩ := h
  have h3 := h2 0 (by simp)
  obtain ⟨l⟩ := cargs
  match l, h1, h3 with
  | [x], _, h3 =>
    simp only [List.getD_cons_zero, List.getElem_cons_zero] at h3
    cases h3; rfl
theorem itoaAll_ok (n : Int) (h0 : 0 ≤ n) (h1 : n ≤ 9223372036854775807) : AFunP Tryz.prog 70 [.int .i64 n] (· = .str (Lib.decDigits n.toNat)) := by
  refine AFunP.of_calls (Enters.of Tryz.func70 (by kernel_rfl) (by kernel_rfl)) fun FM β w cargs hh hv => ?_
  obtain rfl := int_arg hv
  refine (Any.strconv_Itoa Tryz.lays171 n (by omega) h1 w (tabIs hh)).mono ?_
  rintro e w' ⟨rfl, k, os, rfl⟩
  have e1 : Lib.itoa n = Lib.decDigits n.toNat := by unfold Lib.itoa; rw [if_neg (by omega)]
  refine ⟨_, .str (Lib.decDigits n.toNat), rfl, ⟨rfl, rfl, rfl, by show w.heap.size ≤ (w.heap ++ os).size; rw [Array.size_append]; omega, fun j hj => by show (w.heap ++ os)[j]? = w.heap[j]?; rw [Array.getElem?_append_left hj]⟩, pure_of rfl rfl rfl, ?_⟩
  rw [e1]
  exact .str rfl
theorem rep_one (b : UInt8) (k : Nat) : Lib.repeatL [b] k = List.replicate k b := by
  induction k with
  | zero => rfl
  | succ k ih => simp [Lib.repeatL, List.replicate_succ, ← ih]
theorem repeat_ok (b : UInt8) (c : Int) (h0 : 0 ≤ c) (hc : c ≤ 1000000) : AFunP Tryz.prog 40 [.str [b], .int .i64 c] (· = .str (List.replicate c.toNat b)) := by
  refine AFunP.of_calls (Enters.of Tryz.func40 (by kernel_rfl) (by kernel_rfl)) fun FM β w cargs hh hv => ?_
  obtain ⟨s, hs, rfl⟩ : ∃ s : ByteArray, s.data.toList = [b] ∧ cargs = #[.string s, .int .i64 c] := by
    obtain ⟨h1, h2⟩ := hv
    have h3 := h2 0 (by simp)
    have h4 := h2 1 (by simp)
    obtain ⟨l⟩ := cargs
    match l, h1, h3, h4 with
    | [x, y], _, h3, h4 =>
      simp only [List.getD_cons_zero, List.getElem_cons_zero, List.getD_cons_succ, List.getElem_cons_succ] at h3 h4
      cases h3 with
      | str hb =>
        cases h4
        exact ⟨_, hb, rfl⟩
  obtain ⟨k, rfl⟩ : ∃ k : Nat, c = k := ⟨c.toNat, by omega⟩
  have hsz : s.size = 1 := by
    have := congrArg List.length hs
    simpa using this
  refine (Any.strings_Repeat Tryz.lays105 Tryz.extra105 s k w (by omega) (by rw [hsz]; omega)).mono ?_
  rintro e w' ⟨rfl, hb⟩
  refine ⟨_, .str (List.replicate k b), rfl, hb, pure_of rfl rfl (by simp), ?_⟩
  rw [hs, rep_one]
  exact .str rfl
end Pf
/- DecText of impl: a fraction's text -/
namespace Pf
open Go Go.Proofs
/-- A number's text. -/
theorem dig_head {r : Nat} (h : r < 65536) (h0 : r ≠ 0) : dig r = [(r : Int)] := by
  rw [dig_pos h0, show r / 65536 = 0 by omega, dig_zero, show r % 65536 = r by omega]
theorem dig_e4 : dig 10000 = [10000] := dig_head (by omega) (by omega)
theorem dec_long {A k : Nat} (h : (dig A).length ≤ k) (hk : 1 ≤ k) : (Lib.decDigits A).length ≤ 5 * k := by
  have h1 := dig_len_le.1 h
  have h2 : 65536 ^ k ≤ (10 ^ 5) ^ k := Nat.pow_le_pow_left (by omega) k
  rw [← Nat.pow_mul] at h2
  rw [dec_len]
  exact nDig_le (by omega) (by omega)
theorem natText_ok (A : Nat) (ha : (dig A).length ≤ 400) : AFunP Tryz.prog 39 [.fi .i64 (dig A)] (· = .str (Lib.decDigits A)) := by
  refine afun_of Tryz.func39 Tryz.call39 rfl Tryz.ntmps39 rfl ?_
  have W : Walk Tryz.prog TT 39 _ := Walk.of TT_ok Tryz.func39 Tryz.results39
  refine sp W 0 rfl rfl rfl (fun h0 => ?_) (fun h0 => ?_)
  · have : A = 0 := dig_nil.1 (List.length_eq_zero_iff.1 (by omega))
    subst this
    rw [dec_small (by omega)]
    refine rp W 0 rfl rfl rfl (.refl)
  · have hA : A ≠ 0 := fun k => h0 (by rw [k, dig_zero]; rfl)
    refine lp W 0 (σ := Nat × List UInt8) (fun s => [(0, .fi .i64 (dig s.1)), (3, .str s.2)]) (fun _ => []) (fun s => s.1) (fun s => s.1 ≤ A ∧ (if s.1 = 0 then [] else Lib.decDigits s.1) ++ s.2 = Lib.decDigits A) (A, []) [0, 3] rfl rfl rfl ⟨Nat.le_refl _, by rw [if_neg hA, List.append_nil]⟩ ?_
    rintro ⟨m, out⟩ ⟨hm, he⟩ ih
    dsimp only at hm he ih ⊢
    have lm : (dig m).length ≤ (dig A).length := dig_mono hm (Nat.le_refl _)
    have kd := natDiv_ok m 10000 (by omega) (by omega) (by rw [dig_e4]; simp)
    rw [dig_e4] at kd
    have lr : (Lib.decDigits (m % 10000)).length ≤ 4 := by rw [dec_len]; exact nDig_le (by omega) (by omega)
    have lo : out.length ≤ 2000 := by
      have h := congrArg List.length he
      rw [List.length_append] at h
      have := dec_long ha (by omega)
      omega
    have kr : AFunP Tryz.prog 40 [.str [48], .int .i64 (4 - ((Lib.decDigits (m % 10000)).length : Int))] (· = .str (List.replicate (4 - (Lib.decDigits (m % 10000)).length) 48)) := by
      have h := repeat_ok 48 (4 - ((Lib.decDigits (m % 10000)).length : Int)) (by omega) (by omega)
      rwa [show (4 - ((Lib.decDigits (m % 10000)).length : Int)).toNat = 4 - (Lib.decDigits (m % 10000)).length by omega] at h
    refine sp W 0 rfl rfl rfl (fun h1 => ?_) (fun h1 => ?_)
    · have hm0 : m ≠ 0 := fun k => by rw [k, dig_zero] at h1; simp at h1
      refine cf W 0 [0] [0, 3] rfl rfl rfl rfl rfl rfl (kd) rfl ?_
      refine sp W 0 rfl rfl rfl (fun h2 => ?_) (fun h2 => ?_)
      · have hr0 : m % 10000 ≠ 0 := fun k => by rw [k, dig_zero] at h2; simp at h2
        have er : (dig (m % 10000)).getD (Int.toNat 0) 0 = ((m % 10000 : Nat) : Int) := by rw [dig_head (by omega) hr0]; rfl
        have ki : AFunP Tryz.prog 70 [.int .i64 ((dig (m % 10000)).getD (Int.toNat 0) 0)] (· = .str (Lib.decDigits (m % 10000))) := by
          rw [er]; exact itoaAll_ok ((m % 10000 : Nat) : Int) (by omega) (by omega)
        refine ce W 0 rfl rfl (ki) rfl ?_
        refine sp W 0 rfl rfl rfl (fun h3 => ?_) (fun h3 => ?_)
        · have hq : m / 10000 ≠ 0 := fun k => by rw [k, dig_zero] at h3; simp at h3
          refine ce W 0 rfl rfl (kr) rfl ?_
          have ih2 := ih (m / 10000, padD 4 (m % 10000) ++ out) ⟨by dsimp only; omega, by dsimp only; rw [if_neg hq, ← he, if_neg hm0, ← List.append_assoc]; congr 1; rw [text_step hm0, if_neg hq, if_neg hq]⟩ (by dsimp only; omega)
          refine bd W 0 0 [0, 3] rfl rfl rfl rfl rfl (ih2)
        · have hq : m / 10000 = 0 := dig_nil.1 (List.length_eq_zero_iff.1 (by omega))
          have ih2 := ih (m / 10000, Lib.decDigits (m % 10000) ++ out) ⟨by dsimp only; omega, by dsimp only; rw [if_pos hq, List.nil_append, ← he, if_neg hm0]; congr 1; rw [text_step hm0, if_pos hq, if_pos hq]; rfl⟩ (by dsimp only; omega)
          refine bd W 0 0 [0, 3] rfl rfl rfl rfl rfl (ih2)
      · have hr0 : m % 10000 = 0 := dig_nil.1 (List.length_eq_zero_iff.1 (by omega))
        have ki : AFunP Tryz.prog 70 [.int .i64 0] (· = .str (Lib.decDigits (m % 10000))) := by
          rw [hr0]; exact itoaAll_ok 0 (by omega) (by omega)
        refine ce W 0 rfl rfl (ki) rfl ?_
        refine sp W 0 rfl rfl rfl (fun h3 => ?_) (fun h3 => ?_)
        · have hq : m / 10000 ≠ 0 := fun k => by rw [k, dig_zero] at h3; simp at h3
          refine ce W 0 rfl rfl (kr) rfl ?_
          have ih2 := ih (m / 10000, padD 4 (m % 10000) ++ out) ⟨by dsimp only; omega, by dsimp only; rw [if_neg hq, ← he, if_neg hm0, ← List.append_assoc]; congr 1; rw [text_step hm0, if_neg hq, if_neg hq]⟩ (by dsimp only; omega)
          refine bd W 0 0 [0, 3] rfl rfl rfl rfl rfl (ih2)
        · have hq : m / 10000 = 0 := dig_nil.1 (List.length_eq_zero_iff.1 (by omega))
          have ih2 := ih (m / 10000, Lib.decDigits (m % 10000) ++ out) ⟨by dsimp only; omega, by dsimp only; rw [if_pos hq, List.nil_append, ← he, if_neg hm0]; congr 1; rw [text_step hm0, if_pos hq, if_pos hq]; rfl⟩ (by dsimp only; omega)
          refine bd W 0 0 [0, 3] rfl rfl rfl rfl rfl (ih2)
    · have hm0 : m = 0 := dig_nil.1 (List.length_eq_zero_iff.1 (by omega))
      subst hm0
      rw [if_pos rfl, List.nil_append] at he
      rw [he]
      refine rp W 0 rfl rfl rfl (.refl)
/-- A fraction's text. -/
theorem decText_ok (A B : Nat) (hf : frOk False (dig A) (dig B)) : AFunP Tryz.prog 12 [frF False (dig A) (dig B)] (DecS A B) := by
  have hB : B ≠ 0 := fun k => hf.2.2.1 (dig_nil.2 k)
  have lA : (dig A).length ≤ 256 := hf.1.1
  have lB0 : (dig B).length ≤ 256 := hf.2.1.1
  refine afun_of Tryz.func12 Tryz.call12 rfl Tryz.ntmps12 rfl ?_
  have W : Walk Tryz.prog TT 12 _ := Walk.of TT_ok Tryz.func12 Tryz.results12
  refine ce W 0 rfl rfl (implFracOk_ok False (dig A) (dig B) (by omega) (by omega)) rfl ?_
  refine sp W 0 rfl rfl rfl (fun h1 => ?_) (fun h1 => ?_)
  · exact absurd hf h1
  refine sp W 0 rfl rfl rfl (fun h2 => ?_) (fun h2 => ?_)
  · exact h2.elim
  have e0 : dig A = dig (A * 10 ^ 0) := by rw [Nat.pow_zero, Nat.mul_one]
  have lt : ∀ n : Nat, n ≤ 61 → (dig (A * 10 ^ n)).length ≤ 272 := fun n hn => dig_len_mul lA (dig10 (e := n) (k := 16) (by omega) (Nat.le_refl _))
  refine lp W 0 (σ := Nat) (fun n => [(1, .ptr 0 0 0 0), (4, .fi .i64 (dig (A * 10 ^ n))), (5, .int .i64 n)]) (fun _ => [.lst 0 [[.pr False, .fi .i64 (dig A), .fi .i64 (dig B)]]]) (fun n => 62 - n) (fun n => n ≤ 61 ∧ ∀ m, m < n → ¬ A * 10 ^ m % B = 0) 0 [1, 4, 5] rfl (by rw [← e0]; rfl) rfl ⟨by omega, fun m hm => by omega⟩ ?_
  rintro n ⟨hn, he⟩ ih
  refine sp W 0 rfl rfl rfl (fun h3 => ?_) (fun h3 => ?_)
  · have hn60 : n ≤ 60 := by omega
    have ln := lt n (by omega)
    refine ce W 0 rfl rfl (natDiv_ok (A * 10 ^ n) B hB (by omega) (by omega)) rfl ?_
    have lq : (dig (A * 10 ^ n / B)).length ≤ 272 := dig_mono (Nat.div_le_self _ _) ln
    refine sp W 0 rfl rfl rfl (fun h4 => ?_) (fun h4 => ?_)
    · have hr0 : ¬ A * 10 ^ n % B = 0 := fun k => by rw [k, dig_zero] at h4; simp at h4
      have km := natMul_ok (A * 10 ^ n) 10 (by omega) (by rw [dig_ten]; simp)
      rw [dig_ten, Nat.mul_assoc, ← Nat.pow_succ] at km
      refine cf W 0 [1] [1, 4, 5] rfl rfl rfl rfl rfl rfl (km) rfl ?_
      refine bd W 0 1 [1, 4, 5] rfl rfl rfl rfl rfl (ih (n + 1) ⟨by omega, fun m hm => ?_⟩ (by omega))
      by_cases hmn : m = n
      · subst hmn; exact hr0
      · exact he m (by omega)
    · have hr0 : A * 10 ^ n % B = 0 := dig_nil.1 (List.length_eq_zero_iff.1 (by omega))
      have hd : DecS A B = DecS A B := rfl
      refine ce W 0 rfl rfl (natText_ok (A * 10 ^ n / B) (by omega)) rfl ?_
      generalize hq : A * 10 ^ n / B = q at *
      have lo := dec_long lq (by omega)
      have kr : AFunP Tryz.prog 40 [.str [48], .int .i64 (max 0 ((n : Int) + 1 - ((Lib.decDigits q).length : Int)))] (· = .str (List.replicate (n + 1 - (Lib.decDigits q).length) 48)) := by
        have h := repeat_ok 48 (max 0 ((n : Int) + 1 - ((Lib.decDigits q).length : Int))) (by omega) (by omega)
        rwa [show (max 0 ((n : Int) + 1 - ((Lib.decDigits q).length : Int))).toNat = n + 1 - (Lib.decDigits q).length by omega] at h
      have hg := pad_ge (n + 1) q
      refine sp W 0 rfl rfl rfl (fun h5 => ?_) (fun h5 => ?_)
      · refine ce W 0 rfl rfl (kr) rfl ?_
        have lp1 : (List.replicate (n + 1 - (Lib.decDigits q).length) (48 : UInt8) ++ Lib.decDigits q).length = (padD (n + 1) q).length := rfl
        have hn0 : n ≠ 0 := by omega
        have hlen : ((List.replicate (n + 1 - (Lib.decDigits q).length) (48 : UInt8) ++ Lib.decDigits q).length : Int) ≤ 2000 := by rw [lp1]; omega
        have hlen2 : (n : Int) ≤ ((List.replicate (n + 1 - (Lib.decDigits q).length) (48 : UInt8) ++ Lib.decDigits q).length : Int) := by rw [lp1]; omega
        have ed : List.take (((List.replicate (n + 1 - (Lib.decDigits q).length) (48 : UInt8) ++ Lib.decDigits q).length : Int) - (n : Int)).toNat (List.replicate (n + 1 - (Lib.decDigits q).length) (48 : UInt8) ++ Lib.decDigits q) ++ [46] ++ List.drop (((List.replicate (n + 1 - (Lib.decDigits q).length) (48 : UInt8) ++ Lib.decDigits q).length : Int) - (n : Int)).toNat (List.replicate (n + 1 - (Lib.decDigits q).length) (48 : UInt8) ++ Lib.decDigits q) = decT n q := by
          have eP : List.replicate (n + 1 - (Lib.decDigits q).length) (48 : UInt8) ++ Lib.decDigits q = padD (n + 1) q := rfl
          rw [eP, show (((padD (n + 1) q).length : Int) - (n : Int)).toNat = (padD (n + 1) q).length - n by omega]
          unfold decT
          rw [if_neg hn0, List.append_assoc]
          rfl
        have hlen3 := congrArg List.length ed
        rw [decT_len, if_neg hn0] at hlen3
        refine dre W 0 13 [] [] rfl rfl rfl trivial rfl ?_
        have e46 : (⟨#[46]⟩ : ByteArray).data.toList = [46] := rfl
        refine sp W 0 rfl rfl rfl (fun h6 => ?_) (fun h6 => ?_)
        · rw [e46, ed] at h6
          refine rq W 0 rfl rfl (.tup [.str [], .pr False]) (.inr ⟨fun k hk q5 q6 => ?_, rfl⟩) rfl (.tup ⟨.refl, .no id, trivial⟩)
          have hk0 : k = n := by
            rcases Nat.lt_trichotomy k n with c | c | c
            · exact absurd q5 (he k c)
            · exact c
            · exact absurd hr0 (q6 n c)
          subst hk0
          rw [hq]
          omega
        · rw [e46, ed] at h6
          refine rq W 0 rfl rfl (.tup [.str (decT n q), .pr True]) (.inl ⟨n, hn60, hr0, he, by rw [hq]; omega, by rw [hq]⟩) rfl (.tup ⟨by rw [← ed]; exact .refl, .yes trivial, trivial⟩)
      · have hn0 : n = 0 := by omega
        have ed : decT n q = Lib.decDigits q := by unfold decT; rw [if_pos hn0]
        refine sp W 0 rfl rfl rfl (fun h6 => ?_) (fun h6 => ?_)
        · refine rq W 0 rfl rfl (.tup [.str [], .pr False]) (.inr ⟨fun k hk q5 q6 => ?_, rfl⟩) rfl (.tup ⟨.refl, .no id, trivial⟩)
          have hk0 : k = n := by
            rcases Nat.lt_trichotomy k n with c | c | c
            · exact absurd q5 (he k c)
            · exact c
            · exact absurd hr0 (q6 n c)
          subst hk0
          rw [hq, ed]
          omega
        · refine rq W 0 rfl rfl (.tup [.str (decT n q), .pr True]) (.inl ⟨n, hn60, hr0, he, by rw [hq, ed]; omega, by rw [hq]⟩) rfl (.tup ⟨by rw [ed]; exact .refl, .yes trivial, trivial⟩)
  · refine rq W 0 rfl rfl (.tup [.str [], .pr False]) (.inr ⟨fun k hk h5 h6 => absurd h5 (he k (by omega)), rfl⟩) rfl (.tup ⟨.refl, .no id, trivial⟩)
end Pf
/- Literals: the model's side -/
namespace Pf
open Go Go.Proofs
/-- Behind 'e' and its sign: the place a, the sign m. -/
def powA (s : List UInt8) (a : Nat) (m : Prop) : Prop := run s a ≠ 0 ∧ run s a ≤ 3 ∧ ¬ (s.getD a 0 = 48 ∧ (1 < run s a ∨ m)) ∧
  ¬ (run s a = 3 ∧ ¬ (Op.bytesLess ((s.take (a + run s a)).drop a) [52, 48, 48] = true ∨ (s.take (a + run s a)).drop a = [52, 48, 48])) ∧ a + run s a = s.length
theorem run_le (s : List UInt8) (a : Nat) (h : a ≤ s.length) : a + run s a ≤ s.length := by
  have := (List.takeWhile_prefix (l := s.drop a) dB).length_le
  rw [List.length_drop] at this
  have e := run_dg s a
  have : (Dg (s.drop a)).length ≤ s.length - a := this
  omega
theorem powA_ok {s t : List UInt8} {a : Nat} {m : Prop} (ha : a ≤ s.length) (hu : s.drop a = cutP t 45) (hm : m ↔ t.head? = some 45) : powE1 t ↔ powA s a m := by
  have h1 := run_dg s a
  have h2 := drop_rg s a
  have h3 := run_le s a ha
  unfold powE1 powA
  rw [← hu, ← hm]
  have e1 : (s.take (a + run s a)).drop a = Dg (s.drop a) := by
    rw [List.drop_take, Nat.add_sub_cancel_left]
    conv => lhs; rw [← dg_app (s.drop a)]
    rw [h1, List.take_left']
    rfl
  have e2 : (s.drop a).getD 0 0 = s.getD a 0 := by simp [List.getD_eq_getElem?_getD]
  have e3 : Rg (s.drop a) = [] ↔ a + run s a = s.length := by
    rw [← h2, List.drop_eq_nil_iff]
    omega
  have e4 : Dg (s.drop a) ≠ [] ↔ run s a ≠ 0 := by rw [h1, ne_eq, ne_eq, List.length_eq_zero_iff]
  rw [e1, e2, e3, e4, h1]
theorem drop_cons {s : List UInt8} {a : Nat} (h : a < s.length) : s.drop a = s.getD a 0 :: s.drop (a + 1) := by
  rw [List.drop_eq_getElem_cons h, List.getD_eq_getElem?_getD]
  simp [h]
theorem powE_yes {s : List UInt8} {a : Nat} (h : a < s.length) (e : s.getD a 0 = 101) : powE (s.drop a) ↔ powE1 (s.drop (a + 1)) := by
  rw [drop_cons h, e]; simp [powE]
theorem powE_no {s : List UInt8} {a : Nat} (h : a < s.length) (e : ¬ s.getD a 0 = 101) : ¬ powE (s.drop a) := by
  rw [drop_cons h]
  intro k
  have := k.2 (by simpa using e)
  cases this
theorem powE_nil {s : List UInt8} {a : Nat} (h : s.length ≤ a) : powE (s.drop a) := by
  rw [List.drop_eq_nil_iff.2 h]; simp [powE]
theorem fracE_yes {s : List UInt8} {n : Nat} (h : n < s.length) (e : s.getD n 0 = 46) : fracE (s.drop n) ↔ run s (n + 1) ≠ 0 ∧ powE (s.drop (n + 1 + run s (n + 1))) := by
  have h1 := run_dg s (n + 1)
  have h2 := drop_rg s (n + 1)
  rw [drop_cons h, e]
  simp only [fracE, List.head?_cons, List.drop_succ_cons, List.drop_zero, forall_const, ne_eq, not_true_eq_false, false_implies, and_true]
  rw [h2, h1, List.length_eq_zero_iff]
theorem fracE_no {s : List UInt8} {n : Nat} (e : ¬ s.getD n 0 = 46) : fracE (s.drop n) ↔ powE (s.drop n) := by
  have : (s.drop n).head? ≠ some 46 := by
    by_cases h : n < s.length
    · rw [ne_eq, head_at h]; exact e
    · rw [List.drop_eq_nil_iff.2 (by omega)]; simp
  exact ⟨fun k => k.2 this, fun k => ⟨fun e => absurd e this, fun _ => k⟩⟩
theorem cutP_yes {s : List UInt8} {a : Nat} (h : a < s.length) (e : s.getD a 0 = 45) : s.drop (a + 1) = cutP (s.drop a) 45 := by
  unfold cutP
  rw [if_pos ((head_at h 45).2 e), List.drop_drop]
theorem cutP_no {s : List UInt8} {a : Nat} (h : a < s.length) (e : ¬ s.getD a 0 = 45) : s.drop a = cutP (s.drop a) 45 := by
  unfold cutP
  rw [if_neg fun k => e ((head_at h 45).1 k)]
end Pf
/- The model's reading of literals -/
namespace Pf
open Go Go.Proofs
theorem go_env {P : Program} {f N n0 : Nat} {k : List Item} {T : Env} {H : AHeap} {R : AV → AHeap → Prop} (ds : List Nat) (T1 : Env) (e : keepM T ds = some T1) (h : AGo P f N n0 k T1 H R) : AGo P f N n0 k T H R :=
  fun FM β b cs a w a1 a2 a3 a4 hT hH hn => h FM β b cs a w a1 a2 a3 a4 (hT.keep e) hH hn
theorem l7Digits_ok (s : List UInt8) (f : Nat) (hl : s.length ≤ 4611686018427387903) (hf : f ≤ 4611686018427387903) : AFunP Tryz.prog 65 [.str s, .int .i64 f] (· = .int .i64 (run s f : Nat)) := by
  refine afun_of Tryz.func65 Tryz.call65 rfl Tryz.ntmps65 rfl ?_
  have W : Walk Tryz.prog TT 65 _ := Walk.of TT_ok Tryz.func65 Tryz.results65
  refine lp W 0 (σ := Nat) (fun i => [(0, .str s), (1, .int .i64 f), (5, .int .i64 i)]) (fun _ => []) (fun i => s.length - i) (fun i => i ≤ s.length ∧ ∀ j, j < i → f + j < s.length ∧ dB (s.getD (f + j) 0) = true) 0 [0, 1, 5] rfl rfl rfl ⟨Nat.zero_le _, fun j hj => by omega⟩ ?_
  rintro i ⟨hi, he⟩ ih
  have e1 : ((f : Int) + (i : Int)).toNat = f + i := by omega
  refine sp W 0 rfl rfl rfl (fun h1 => ?_) (fun h1 => ?_)
  · refine sp W 0 rfl rfl rfl (fun h2 => ?_) (fun h2 => ?_)
    · rw [e1] at h2
      refine sp W 0 rfl rfl rfl (fun h3 => ?_) (fun h3 => ?_)
      · rw [e1] at h3
        refine bd W 0 0 [0, 1, 5] rfl rfl rfl rfl rfl (ih (i + 1) ⟨by omega, fun j hj => ?_⟩ (by omega))
        by_cases hji : j = i
        · subst hji; exact ⟨by omega, dB_iff.2 ⟨by omega, by omega⟩⟩
        · exact he j (by omega)
      · rw [e1] at h3
        have hr : run s f = i := run_of he fun _ => by simp only [dB, decide_eq_false_iff_not]; omega
        rw [hr]
        refine rp W 0 rfl rfl rfl (.refl)
    · rw [e1] at h2
      have hr : run s f = i := run_of he fun _ => by simp only [dB, decide_eq_false_iff_not]; omega
      rw [hr]
      refine rp W 0 rfl rfl rfl (.refl)
  · have hr : run s f = i := run_of he fun k => by omega
    rw [hr]
    refine rp W 0 rfl rfl rfl (.refl)
/-- Literals: the model's own reading. -/
def PtQ (P : Prop) (u : AV) : Prop := ∃ a b c, u = .tup [a, b, c, .pr P]
theorem l7Parts_ok (s : List UInt8) (hl : s.length ≤ 281474976710656) : AFunP Tryz.prog 32 [.str s] (PtQ (litP s ∧ s.length ≤ 60)) := by
  rw [← num_ok s]
  have k0 := l7Digits_ok s 0 (by omega) (by omega)
  have r0 : s.drop (run s 0) = Rg s := by have := drop_rg s 0; rwa [Nat.zero_add] at this
  have t0 := run_le s 0 (by omega)
  rw [Nat.zero_add] at t0
  have w0 : run s 0 ≠ 0 → (wd (Dg s) ↔ ¬ (1 < run s 0 ∧ s.getD 0 0 = 48)) := by
    intro h
    have d0 : run s 0 = (Dg s).length := rfl
    have e0 : s.getD 0 0 = (Dg s).getD 0 0 := by
      conv => lhs; rw [← dg_app s]
      simp only [List.getD_eq_getElem?_getD]
      rw [List.getElem?_append_left (by omega)]
    rw [d0] at h ⊢
    rw [e0]
    have ha := dg_all s
    unfold wd
    clear e0
    revert h
    match Dg s, ha with
    | [], _ => intro h; exact absurd rfl h
    | [a], ha => intro h; simp at ha; simp [ha]; exact Decidable.em _
    | a :: b :: l, ha => intro h; simp at ha; simp [ha]; exact fun _ => ha.2.2
  have w1 : wd (Dg s) → run s 0 ≠ 0 := fun k => by
    have d0 : run s 0 = (Dg s).length := rfl
    rw [d0, ne_eq, List.length_eq_zero_iff]
    exact k.1.1
  have no : ¬ (numE s ∧ s.length ≤ 60) → Sub (.tup [.str [], .int .i64 0, .int .i64 0, .bool false]) (.tup [.str [], .int .i64 0, .int .i64 0, .pr (numE s ∧ s.length ≤ 60)]) := fun h => .tup ⟨.refl, .refl, .refl, .no h, trivial⟩
  refine afun_of Tryz.func32 Tryz.call32 rfl Tryz.ntmps32 rfl ?_
  have W : Walk Tryz.prog TT 32 _ := Walk.of TT_ok Tryz.func32 Tryz.results32
  refine sp W 0 rfl rfl rfl (fun h1 => ?_) (fun h1 => ?_)
  · refine rq W 0 rfl rfl (.tup [.str [], .int .i64 0, .int .i64 0, .pr (numE s ∧ s.length ≤ 60)]) ⟨_, _, _, rfl⟩ rfl (no fun k => by have := k.2; omega)
  have hl60 : s.length ≤ 60 := by omega
  refine ce W 0 rfl rfl (k0) rfl ?_
  generalize run s 0 = n at *
  refine sp W 0 rfl rfl rfl (fun h2 => ?_) (fun h2 => ?_)
  · refine rq W 0 rfl rfl (.tup [.str [], .int .i64 0, .int .i64 0, .pr (numE s ∧ s.length ≤ 60)]) ⟨_, _, _, rfl⟩ rfl (no fun q => w1 q.1.1 (by omega))
  refine' cutK (fun K2 => ?main) ?k2
  case main =>
    refine sp W 0 rfl rfl rfl (fun h3 => ?_) (fun h3 => ?_)
    · refine sp W 0 rfl rfl rfl (fun h4 => ?_) (fun h4 => ?_)
      · have h4 := (u8_eq (c := 48)).1 h4
        refine rq W 0 rfl rfl (.tup [.str [], .int .i64 0, .int .i64 0, .pr (numE s ∧ s.length ≤ 60)]) ⟨_, _, _, rfl⟩ rfl (no fun q => (w0 (by omega)).1 q.1.1 ⟨by omega, h4⟩)
      · have hw : wd (Dg s) := (w0 (by omega)).2 fun k => h4 ((u8_eq (c := 48)).2 k.2)
        have hq0 : numE s ↔ fracE (s.drop n) := by rw [r0]; exact ⟨fun e => e.2, fun e => ⟨hw, e⟩⟩
        refine sp W 0 rfl rfl rfl (fun p1 => ?_) (fun p1 => ?_)
        · refine sp W 0 rfl rfl rfl (fun p2 => ?_) (fun p2 => ?_)
          · rw [Int.toNat_natCast] at p2
            have p2 := (u8_eq (c := 46)).1 p2
            have hf : numE s ↔ run s (n + 1) ≠ 0 ∧ powE (s.drop (n + 1 + run s (n + 1))) := hq0.trans (fracE_yes (by omega) p2)
            have kk : AFunP Tryz.prog 65 [.str s, .int .i64 ((n : Int) + 1)] (· = .int .i64 (run s (n + 1) : Nat)) := l7Digits_ok s (n + 1) (by omega) (by omega)
            have tk := run_le s (n + 1) (by omega)
            refine ce W 0 rfl rfl (kk) rfl ?_
            generalize run s (n + 1) = j at *
            refine sp W 0 rfl rfl rfl (fun p5 => ?_) (fun p5 => ?_)
            · refine rq W 0 rfl rfl (.tup [.str [], .int .i64 0, .int .i64 0, .pr (numE s ∧ s.length ≤ 60)]) ⟨_, _, _, rfl⟩ rfl (no fun q => (hf.1 q.1).1 (by omega))
            have hq : numE s ↔ powE (s.drop (n + 1 + j)) := ⟨fun e => (hf.1 e).2, fun e => hf.2 ⟨by omega, e⟩⟩
            refine sp W 0 rfl rfl rfl (fun c1 => ?_) (fun c1 => ?_)
            · have f1 : 0 ≤ (n : Int) + 1 + (j : Int) ∧ (n : Int) + 1 + (j : Int) < (s.length : Int) := by omega
              have f2 : numE s ↔ powE (s.drop ((n : Int) + 1 + (j : Int)).toNat) := by rw [show ((n : Int) + 1 + (j : Int)).toNat = n + 1 + j by omega]; exact hq
              obtain ⟨a, ha⟩ : ∃ a : Int, a = (n : Int) + 1 + (j : Int) := ⟨_, rfl⟩
              rw [← ha] at f1 f2
              refine go_env [0, 9, 10, 68] [(0, .str s), (9, .int .i64 a), (10, .int .i64 0), (68, .bool true)] (by rw [ha]; rfl) ?_
              clear ha
              revert a
              exact K2.get
            · have hy : numE s ∧ s.length ≤ 60 := ⟨hq.2 (powE_nil (by omega)), hl60⟩
              refine rq W 0 rfl rfl (.tup [_, _, _, .pr (numE s ∧ s.length ≤ 60)]) ⟨_, _, _, rfl⟩ rfl (.tup ⟨.refl, .refl, .refl, .pr ⟨fun _ => hy, fun _ => by omega⟩, trivial⟩)
          · rw [Int.toNat_natCast] at p2
            have hq : numE s ↔ powE (s.drop n) := hq0.trans (fracE_no fun k => p2 ((u8_eq (c := 46)).2 k))
            refine sp W 0 rfl rfl rfl (fun c1 => ?_) (fun c1 => ?_)
            · have f1 : 0 ≤ (n : Int) ∧ (n : Int) < (s.length : Int) := by omega
              have f2 : numE s ↔ powE (s.drop ((n : Int)).toNat) := by rw [Int.toNat_natCast]; exact hq
              obtain ⟨a, ha⟩ : ∃ a : Int, a = (n : Int) := ⟨_, rfl⟩
              rw [← ha] at f1 f2
              refine go_env [0, 9, 10, 68] [(0, .str s), (9, .int .i64 a), (10, .int .i64 0), (68, .bool true)] (by rw [ha]; rfl) ?_
              clear ha
              revert a
              exact K2.get
            · have hy : numE s ∧ s.length ≤ 60 := ⟨hq.2 (powE_nil (by omega)), hl60⟩
              refine rq W 0 rfl rfl (.tup [_, _, _, .pr (numE s ∧ s.length ≤ 60)]) ⟨_, _, _, rfl⟩ rfl (.tup ⟨.refl, .refl, .refl, .pr ⟨fun _ => hy, fun _ => by omega⟩, trivial⟩)
        · have hq : numE s := hq0.2 (by rw [List.drop_eq_nil_iff.2 (by omega)]; simp [fracE, powE])
          refine sp W 0 rfl rfl rfl (fun c1 => ?_) (fun c1 => ?_)
          · exfalso; omega
          · have hy : numE s ∧ s.length ≤ 60 := ⟨hq, hl60⟩
            refine rq W 0 rfl rfl (.tup [_, _, _, .pr (numE s ∧ s.length ≤ 60)]) ⟨_, _, _, rfl⟩ rfl (.tup ⟨.refl, .refl, .refl, .pr ⟨fun _ => hy, fun _ => by omega⟩, trivial⟩)
    · have hw : wd (Dg s) := (w0 (by omega)).2 fun k => h3 (by omega)
      have hq0 : numE s ↔ fracE (s.drop n) := by rw [r0]; exact ⟨fun e => e.2, fun e => ⟨hw, e⟩⟩
      refine sp W 0 rfl rfl rfl (fun p1 => ?_) (fun p1 => ?_)
      · refine sp W 0 rfl rfl rfl (fun p2 => ?_) (fun p2 => ?_)
        · rw [Int.toNat_natCast] at p2
          have p2 := (u8_eq (c := 46)).1 p2
          have hf : numE s ↔ run s (n + 1) ≠ 0 ∧ powE (s.drop (n + 1 + run s (n + 1))) := hq0.trans (fracE_yes (by omega) p2)
          have kk : AFunP Tryz.prog 65 [.str s, .int .i64 ((n : Int) + 1)] (· = .int .i64 (run s (n + 1) : Nat)) := l7Digits_ok s (n + 1) (by omega) (by omega)
          have tk := run_le s (n + 1) (by omega)
          refine ce W 0 rfl rfl (kk) rfl ?_
          generalize run s (n + 1) = j at *
          refine sp W 0 rfl rfl rfl (fun p5 => ?_) (fun p5 => ?_)
          · refine rq W 0 rfl rfl (.tup [.str [], .int .i64 0, .int .i64 0, .pr (numE s ∧ s.length ≤ 60)]) ⟨_, _, _, rfl⟩ rfl (no fun q => (hf.1 q.1).1 (by omega))
          have hq : numE s ↔ powE (s.drop (n + 1 + j)) := ⟨fun e => (hf.1 e).2, fun e => hf.2 ⟨by omega, e⟩⟩
          refine sp W 0 rfl rfl rfl (fun c1 => ?_) (fun c1 => ?_)
          · have f1 : 0 ≤ (n : Int) + 1 + (j : Int) ∧ (n : Int) + 1 + (j : Int) < (s.length : Int) := by omega
            have f2 : numE s ↔ powE (s.drop ((n : Int) + 1 + (j : Int)).toNat) := by rw [show ((n : Int) + 1 + (j : Int)).toNat = n + 1 + j by omega]; exact hq
            obtain ⟨a, ha⟩ : ∃ a : Int, a = (n : Int) + 1 + (j : Int) := ⟨_, rfl⟩
            rw [← ha] at f1 f2
            refine go_env [0, 9, 10, 68] [(0, .str s), (9, .int .i64 a), (10, .int .i64 0), (68, .bool true)] (by rw [ha]; rfl) ?_
            clear ha
            revert a
            exact K2.get
          · have hy : numE s ∧ s.length ≤ 60 := ⟨hq.2 (powE_nil (by omega)), hl60⟩
            refine rq W 0 rfl rfl (.tup [_, _, _, .pr (numE s ∧ s.length ≤ 60)]) ⟨_, _, _, rfl⟩ rfl (.tup ⟨.refl, .refl, .refl, .pr ⟨fun _ => hy, fun _ => by omega⟩, trivial⟩)
        · rw [Int.toNat_natCast] at p2
          have hq : numE s ↔ powE (s.drop n) := hq0.trans (fracE_no fun k => p2 ((u8_eq (c := 46)).2 k))
          refine sp W 0 rfl rfl rfl (fun c1 => ?_) (fun c1 => ?_)
          · have f1 : 0 ≤ (n : Int) ∧ (n : Int) < (s.length : Int) := by omega
            have f2 : numE s ↔ powE (s.drop ((n : Int)).toNat) := by rw [Int.toNat_natCast]; exact hq
            obtain ⟨a, ha⟩ : ∃ a : Int, a = (n : Int) := ⟨_, rfl⟩
            rw [← ha] at f1 f2
            refine go_env [0, 9, 10, 68] [(0, .str s), (9, .int .i64 a), (10, .int .i64 0), (68, .bool true)] (by rw [ha]; rfl) ?_
            clear ha
            revert a
            exact K2.get
          · have hy : numE s ∧ s.length ≤ 60 := ⟨hq.2 (powE_nil (by omega)), hl60⟩
            refine rq W 0 rfl rfl (.tup [_, _, _, .pr (numE s ∧ s.length ≤ 60)]) ⟨_, _, _, rfl⟩ rfl (.tup ⟨.refl, .refl, .refl, .pr ⟨fun _ => hy, fun _ => by omega⟩, trivial⟩)
      · have hq : numE s := hq0.2 (by rw [List.drop_eq_nil_iff.2 (by omega)]; simp [fracE, powE])
        refine sp W 0 rfl rfl rfl (fun c1 => ?_) (fun c1 => ?_)
        · exfalso; omega
        · have hy : numE s ∧ s.length ≤ 60 := ⟨hq, hl60⟩
          refine rq W 0 rfl rfl (.tup [_, _, _, .pr (numE s ∧ s.length ≤ 60)]) ⟨_, _, _, rfl⟩ rfl (.tup ⟨.refl, .refl, .refl, .pr ⟨fun _ => hy, fun _ => by omega⟩, trivial⟩)
  case k2 =>
    intro a f2 f1
    obtain ⟨x, rfl⟩ : ∃ x : Nat, a = x := ⟨a.toNat, by omega⟩
    rw [Int.toNat_natCast] at f2
    have hx : x < s.length := by omega
    refine sp W 0 rfl rfl rfl (fun p3 => ?_) (fun p3 => ?_)
    · rw [Int.toNat_natCast] at p3
      have p3 := (u8_eq (c := 101)).1 p3
      have hP : numE s ↔ powE1 (s.drop (x + 1)) := f2.trans (powE_yes hx p3)
      refine' cutK (fun K3 => ?main3) ?k3
      case main3 =>
        refine sp W 0 rfl rfl rfl (fun m1 => ?_) (fun m1 => ?_)
        · refine sp W 0 rfl rfl rfl (fun m2 => ?_) (fun m2 => ?_)
          · skip
            have kr : AFunP Tryz.prog 65 [.str s, .int .i64 ((x : Int) + 1 + 1)] (· = .int .i64 (run s ((x : Int) + 1 + 1 : Int).toNat : Nat)) := by
              have := l7Digits_ok s (x + 1 + 1) (by omega) (by omega)
              rw [show ((x : Int) + 1 + 1 : Int).toNat = x + 1 + 1 by omega]
              rwa [show ((x + 1 + 1 : Nat) : Int) = (x : Int) + 1 + 1 by omega] at this
            refine ce W 0 rfl rfl (kr) rfl ?_
            refine go_sub 11 (.pr True) rfl (.pr ⟨fun _ => trivial, fun _ => m2⟩) rfl ?_
            have g1 : 0 ≤ ((x : Int) + 1 + 1 : Int) ∧ ((x : Int) + 1 + 1 : Int) ≤ s.length := by omega
            have m3 : s.getD (x + 1) 0 = 45 := (u8_eq (c := 45)).1 (by rw [show ((x : Int) + 1).toNat = x + 1 by omega] at m2; exact m2)
            have g2 : numE s ↔ powA s ((x : Int) + 1 + 1).toNat True := by
              rw [show ((x : Int) + 1 + 1).toNat = x + 1 + 1 by omega]
              exact hP.trans (powA_ok (by omega) (cutP_yes (by omega) m3) (by rw [head_at (by omega)]; exact ⟨fun _ => m3, fun _ => trivial⟩))
            obtain ⟨a, ha⟩ : ∃ a : Int, a = (x : Int) + 1 + 1 := ⟨_, rfl⟩
            rw [← ha] at g1 g2
            refine go_env [0, 9, 10, 11, 91] [(0, .str s), (9, .int .i64 a), (10, .int .i64 0), (11, .pr True), (91, .int .i64 (run s a.toNat : Nat))] (by rw [ha]; rfl) ?_
            clear ha
            obtain ⟨m, hm⟩ : ∃ m : Prop, m = True := ⟨_, rfl⟩
            rw [← hm] at g2 ⊢
            clear hm
            revert a m
            exact K3.get
          · skip
            have kr : AFunP Tryz.prog 65 [.str s, .int .i64 ((x : Int) + 1)] (· = .int .i64 (run s ((x : Int) + 1 : Int).toNat : Nat)) := by
              have := l7Digits_ok s (x + 1) (by omega) (by omega)
              rw [show ((x : Int) + 1 : Int).toNat = x + 1 by omega]
              rwa [show ((x + 1 : Nat) : Int) = (x : Int) + 1 by omega] at this
            refine ce W 0 rfl rfl (kr) rfl ?_
            refine go_sub 11 (.pr False) rfl (.pr ⟨fun k => absurd k m2, False.elim⟩) rfl ?_
            have g1 : 0 ≤ ((x : Int) + 1 : Int) ∧ ((x : Int) + 1 : Int) ≤ s.length := by omega
            have m3 : ¬ s.getD (x + 1) 0 = 45 := fun k => m2 (by rw [show ((x : Int) + 1).toNat = x + 1 by omega]; exact (u8_eq (c := 45)).2 k)
            have g2 : numE s ↔ powA s ((x : Int) + 1).toNat False := by
              rw [show ((x : Int) + 1).toNat = x + 1 by omega]
              exact hP.trans (powA_ok (by omega) (cutP_no (by omega) m3) (by rw [head_at (by omega)]; exact ⟨False.elim, fun k => m3 k⟩))
            obtain ⟨a, ha⟩ : ∃ a : Int, a = (x : Int) + 1 := ⟨_, rfl⟩
            rw [← ha] at g1 g2
            refine go_env [0, 9, 10, 11, 91] [(0, .str s), (9, .int .i64 a), (10, .int .i64 0), (11, .pr False), (91, .int .i64 (run s a.toNat : Nat))] (by rw [ha]; rfl) ?_
            clear ha
            obtain ⟨m, hm⟩ : ∃ m : Prop, m = False := ⟨_, rfl⟩
            rw [← hm] at g2 ⊢
            clear hm
            revert a m
            exact K3.get
        · skip
          have kr : AFunP Tryz.prog 65 [.str s, .int .i64 ((x : Int) + 1)] (· = .int .i64 (run s ((x : Int) + 1 : Int).toNat : Nat)) := by
            have := l7Digits_ok s (x + 1) (by omega) (by omega)
            rw [show ((x : Int) + 1 : Int).toNat = x + 1 by omega]
            rwa [show ((x + 1 : Nat) : Int) = (x : Int) + 1 by omega] at this
          refine ce W 0 rfl rfl (kr) rfl ?_
          refine go_sub 11 (.pr False) rfl (.no id) rfl ?_
          have g1 : 0 ≤ ((x : Int) + 1 : Int) ∧ ((x : Int) + 1 : Int) ≤ s.length := by omega
          have g2 : numE s ↔ powA s ((x : Int) + 1).toNat False := by
            rw [show ((x : Int) + 1).toNat = x + 1 by omega]
            have e : s.drop (x + 1) = [] := List.drop_eq_nil_iff.2 (by omega)
            exact hP.trans (powA_ok (by omega) (by rw [e]; rfl) (by rw [e]; simp))
          obtain ⟨a, ha⟩ : ∃ a : Int, a = (x : Int) + 1 := ⟨_, rfl⟩
          rw [← ha] at g1 g2
          refine go_env [0, 9, 10, 11, 91] [(0, .str s), (9, .int .i64 a), (10, .int .i64 0), (11, .pr False), (91, .int .i64 (run s a.toNat : Nat))] (by rw [ha]; rfl) ?_
          clear ha
          obtain ⟨m, hm⟩ : ∃ m : Prop, m = False := ⟨_, rfl⟩
          rw [← hm] at g2 ⊢
          clear hm
          revert a m
          exact K3.get
      case k3 =>
        intro a g1 m g2
        obtain ⟨y, rfl⟩ : ∃ y : Nat, a = y := ⟨a.toNat, by omega⟩
        rw [Int.toNat_natCast] at g2 ⊢
        have hr := run_le s y (by omega)
        have e0 : (Dg (s.drop y)).length = run s y := rfl
        have e1 : (s.take (y + run s y)).drop y = Dg (s.drop y) := by
          rw [List.drop_take, Nat.add_sub_cancel_left]
          conv => lhs; rw [← dg_app (s.drop y)]
          rw [← e0, List.take_left']
          rfl
        have e2 := dg_all (s.drop y)
        have e3 : ∀ j, j < run s y → s.getD (y + j) 0 = (Dg (s.drop y)).getD j 0 := by
          intro j hj
          have e4 : (s.drop y).getD j 0 = s.getD (y + j) 0 := by simp [List.getD_eq_getElem?_getD]
          rw [← e4]
          conv => lhs; rw [← dg_app (s.drop y)]
          simp only [List.getD_eq_getElem?_getD]
          rw [List.getElem?_append_left (by omega)]
        unfold powA at g2
        rw [e1] at g2
        generalize Dg (s.drop y) = E at *
        generalize run s y = k at *
        refine sp W 0 rfl rfl rfl (fun c1 => ?_) (fun c1 => ?_)
        · refine rq W 0 rfl rfl (.tup [.str [], .int .i64 0, .int .i64 0, .pr (numE s ∧ s.length ≤ 60)]) ⟨_, _, _, rfl⟩ rfl (no fun q => (g2.1 q.1).1 (by omega))
        refine sp W 0 rfl rfl rfl (fun c2 => ?_) (fun c2 => ?_)
        · refine rq W 0 rfl rfl (.tup [.str [], .int .i64 0, .int .i64 0, .pr (numE s ∧ s.length ≤ 60)]) ⟨_, _, _, rfl⟩ rfl (no fun q => by have := (g2.1 q.1).2.1; omega)
        refine' cutK (fun K4 => ?main4) ?k4
        case main4 =>
          refine sp W 0 rfl rfl rfl (fun c3 => ?_) (fun c3 => ?_)
          · refine sp W 0 rfl rfl rfl (fun c4 => ?_) (fun c4 => ?_)
            · refine rq W 0 rfl rfl (.tup [.str [], .int .i64 0, .int .i64 0, .pr (numE s ∧ s.length ≤ 60)]) ⟨_, _, _, rfl⟩ rfl (no fun q => (g2.1 q.1).2.2.1 ⟨(u8_eq (c := 48)).1 c4, .inl (by omega)⟩)
            · refine sp W 0 rfl rfl rfl (fun c5 => ?_) (fun c5 => ?_)
              · refine sp W 0 rfl rfl rfl (fun c6 => ?_) (fun c6 => ?_)
                · refine rq W 0 rfl rfl (.tup [.str [], .int .i64 0, .int .i64 0, .pr (numE s ∧ s.length ≤ 60)]) ⟨_, _, _, rfl⟩ rfl (no fun q => (g2.1 q.1).2.2.1 ⟨(u8_eq (c := 48)).1 c6, .inr c5⟩)
                · refine lp W 0 (σ := Nat) (fun i => [(0, .str s), (9, .int .i64 y), (10, .int .i64 (dval (E.take i) : Nat)), (11, .pr m), (12, .int .i64 k), (13, .int .i64 ((y + i : Nat) : Int))]) (fun _ => []) (fun i => k - i) (fun i => i ≤ k ∧ ¬ (s.getD y 0 = 48 ∧ (1 < k ∨ m))) 0 [0, 9, 10, 11, 12, 13] rfl rfl rfl ⟨Nat.zero_le _, fun q => c4 ((u8_eq (c := 48)).2 q.1)⟩ K4.get
              · refine lp W 0 (σ := Nat) (fun i => [(0, .str s), (9, .int .i64 y), (10, .int .i64 (dval (E.take i) : Nat)), (11, .pr m), (12, .int .i64 k), (13, .int .i64 ((y + i : Nat) : Int))]) (fun _ => []) (fun i => k - i) (fun i => i ≤ k ∧ ¬ (s.getD y 0 = 48 ∧ (1 < k ∨ m))) 0 [0, 9, 10, 11, 12, 13] rfl rfl rfl ⟨Nat.zero_le _, fun q => c4 ((u8_eq (c := 48)).2 q.1)⟩ K4.get
          · refine sp W 0 rfl rfl rfl (fun c5 => ?_) (fun c5 => ?_)
            · refine sp W 0 rfl rfl rfl (fun c6 => ?_) (fun c6 => ?_)
              · refine rq W 0 rfl rfl (.tup [.str [], .int .i64 0, .int .i64 0, .pr (numE s ∧ s.length ≤ 60)]) ⟨_, _, _, rfl⟩ rfl (no fun q => (g2.1 q.1).2.2.1 ⟨(u8_eq (c := 48)).1 c6, .inr c5⟩)
              · refine lp W 0 (σ := Nat) (fun i => [(0, .str s), (9, .int .i64 y), (10, .int .i64 (dval (E.take i) : Nat)), (11, .pr m), (12, .int .i64 k), (13, .int .i64 ((y + i : Nat) : Int))]) (fun _ => []) (fun i => k - i) (fun i => i ≤ k ∧ ¬ (s.getD y 0 = 48 ∧ (1 < k ∨ m))) 0 [0, 9, 10, 11, 12, 13] rfl rfl rfl ⟨Nat.zero_le _, fun q => c6 ((u8_eq (c := 48)).2 q.1)⟩ K4.get
            · refine lp W 0 (σ := Nat) (fun i => [(0, .str s), (9, .int .i64 y), (10, .int .i64 (dval (E.take i) : Nat)), (11, .pr m), (12, .int .i64 k), (13, .int .i64 ((y + i : Nat) : Int))]) (fun _ => []) (fun i => k - i) (fun i => i ≤ k ∧ ¬ (s.getD y 0 = 48 ∧ (1 < k ∨ m))) 0 [0, 9, 10, 11, 12, 13] rfl rfl rfl ⟨Nat.zero_le _, fun q => q.2.elim (fun z => c3 (by omega)) c5⟩ K4.get
        case k4 =>
          rintro i ⟨hi, hG⟩ ih
          have ek : k ≤ 3 := by omega
          have hv := dval_lt (s := E.take i) (List.all_eq_true.2 fun z hz => List.all_eq_true.1 e2 z (List.mem_of_mem_take hz))
          rw [List.length_take, e0, Nat.min_eq_left hi] at hv
          have hv3 : 10 ^ i ≤ 10 ^ 3 := Nat.pow_le_pow_right (by omega) (by omega)
          refine sp W 0 rfl rfl rfl (fun d1 => ?_) (fun d1 => ?_)
          · have hi2 : i < k := by omega
            have es : E.take (i + 1) = E.take i ++ [E.getD i 0] := by
              rw [List.take_add_one, List.getElem?_eq_getElem (by omega), List.getD_eq_getElem?_getD, List.getElem?_eq_getElem (by omega)]; rfl
            have hb := dB_iff.1 (all_getD.1 e2 i (by omega))
            have ih2 := ih (i + 1) ⟨by omega, hG⟩ (by omega)
            rw [es, dval_snoc] at ih2
            have ev : ((dval (E.take i) * 10 + ((E.getD i 0).toNat - 48) : Nat) : Int) = ((dval (E.take i) : Nat) : Int) * 10 + (((s.getD ((y + i : Nat) : Int).toNat 0).toNat : Int) - 48) := by
              rw [Int.toNat_natCast, e3 i hi2]; omega
            have hb3 : 48 ≤ ((s.getD ((y + i : Nat) : Int).toNat 0).toNat : Int) ∧ ((s.getD ((y + i : Nat) : Int).toNat 0).toNat : Int) ≤ 57 := by
              rw [Int.toNat_natCast, e3 i hi2]; exact hb
            rw [ev] at ih2
            have hb4 : 48 ≤ ((s.getD (y + i) 0).toNat : Int) ∧ ((s.getD (y + i) 0).toNat : Int) ≤ 57 := by rw [e3 i hi2]; exact hb
            refine bd W 0 0 [0, 9, 10, 11, 12, 13] rfl rfl rfl rfl rfl (ih2) (hc := by simp only [AllC, addN, Int.toNat_natCast, true_and, and_true, eq_self, List.length_set, List.length_cons, List.length_nil, List.length_append, List.length_replicate, wrapU, pw1, pw7, pw8, pw16, pw23, pw32, pw52] <;> first | omega | ((repeat' apply And.intro) <;> first | omega | (intros; rfl)))
          · have hik : i = k := by omega
            have et : E.take i = E := List.take_of_length_le (by omega)
            rw [et]
            have l4 := le400 e2 (by omega)
            have hfin : numE s ↔ dval E ≤ 400 ∧ y + k = s.length := by
              rw [g2, ← l4, e0]
              exact ⟨fun q => q.2.2.2, fun q => ⟨by omega, ek, hG, q⟩⟩
            refine sp W 0 rfl rfl rfl (fun d2 => ?_) (fun d2 => ?_)
            · refine rq W 0 rfl rfl (.tup [.str [], .int .i64 0, .int .i64 0, .pr (numE s ∧ s.length ≤ 60)]) ⟨_, _, _, rfl⟩ rfl (no fun q => by have := (hfin.1 q.1).1; omega)
            refine sp W 0 rfl rfl rfl (fun d3 => ?_) (fun d3 => ?_)
            · refine rq W 0 rfl rfl (.tup [_, _, _, .pr (numE s ∧ s.length ≤ 60)]) ⟨_, _, _, rfl⟩ rfl (.tup ⟨.refl, .refl, .refl, .pr ⟨fun q => ⟨hfin.2 ⟨by omega, by omega⟩, hl60⟩, fun q => by have := (hfin.1 q.1).2; omega⟩, trivial⟩)
            · refine rq W 0 rfl rfl (.tup [_, _, _, .pr (numE s ∧ s.length ≤ 60)]) ⟨_, _, _, rfl⟩ rfl (.tup ⟨.refl, .refl, .refl, .pr ⟨fun q => ⟨hfin.2 ⟨by omega, by omega⟩, hl60⟩, fun q => by have := (hfin.1 q.1).2; omega⟩, trivial⟩)
    · rw [Int.toNat_natCast] at p3
      have hy : ¬ numE s := fun q => powE_no hx (fun k => p3 ((u8_eq (c := 101)).2 k)) (f2.1 q)
      refine rq W 0 rfl rfl (.tup [_, _, _, .pr (numE s ∧ s.length ≤ 60)]) ⟨_, _, _, rfl⟩ rfl (.tup ⟨.refl, .refl, .refl, .pr ⟨fun k => by omega, fun k => absurd k.1 hy⟩, trivial⟩)
theorem specDecOk_ok (s : List UInt8) (hl : s.length ≤ 281474976710656) : AFunP Tryz.prog 8 [.str s] (· = .pr (litP s ∧ s.length ≤ 60)) := by
  refine afun_of Tryz.func8 Tryz.call8 rfl Tryz.ntmps8 rfl ?_
  have W : Walk Tryz.prog TT 8 _ := Walk.of TT_ok Tryz.func8 Tryz.results8
  refine cq W 0 rfl rfl (l7Parts_ok s hl) ?_
  rintro _ ⟨a, b, c, rfl⟩
  refine ⟨_, rfl, ?_⟩
  refine rp W 0 rfl rfl rfl (.refl)
end Pf
/- Draws of literals (l32) -/
namespace Pf
open Go Go.Proofs
theorem go_state {P : Program} {f N n0 : Nat} {k : List Item} {T : Env} {H : AHeap} {R : AV → AHeap → Prop} (ds : List Nat) (T1 : Env) (H1 : AHeap) (e : keepM T ds = some T1) (eH : H = H1) (h : AGo P f N n0 k T1 H1 R) : AGo P f N n0 k T H R := by
  subst eH
  exact fun FM β b cs a w a1 a2 a3 a4 hT hH hn => h FM β b cs a w a1 a2 a3 a4 (hT.keep e) hH hn
/-- The model's text of a number: any text, not too long. -/
theorem specNatText_any (l : List Int) (hl : l.length ≤ 256) : AFunP Tryz.prog 51 [.fi .i64 l] (fun u => ∃ s : List UInt8, u = .str s ∧ s.length ≤ 1300) := by
  refine afun_of Tryz.func51 Tryz.call51 rfl Tryz.ntmps51 rfl ?_
  have W : Walk Tryz.prog TT 51 _ := Walk.of TT_ok Tryz.func51 Tryz.results51
  refine ce W 0 rfl rfl (specNatOk_ok l (by omega)) rfl ?_
  refine sp W 0 rfl rfl rfl (fun h1 => ?_) (fun h1 => ?_)
  · refine rq W 0 rfl rfl (.str []) (⟨_, rfl, by simp⟩) rfl .refl
  obtain ⟨m, rfl, lm⟩ := natOk_dig (Classical.not_not.1 h1)
  refine sp W 0 rfl rfl rfl (fun h2 => ?_) (fun h2 => ?_)
  · refine rq W 0 rfl rfl (.str [48]) (⟨_, rfl, by simp⟩) rfl .refl
  obtain ⟨K, hK, hm⟩ : ∃ K, K ≤ 1280 ∧ m < 10 ^ K := by
    refine ⟨5 * (dig m).length, by omega, ?_⟩
    have h5 := dig_len_le.1 (Nat.le_refl (dig m).length)
    have h6 : 65536 ^ (dig m).length ≤ (10 ^ 5) ^ (dig m).length := Nat.pow_le_pow_left (by omega) _
    rw [← Nat.pow_mul] at h6
    omega
  refine atl W rfl ?_
  refine go_nilT 3 (.ints 0 .u8 []) rfl rfl rfl rfl rfl ?_
  refine lp W 0 (σ := Nat × Nat × List Int) (fun s => [(3, .sl 0 s.2.1 0 s.2.2.length), (4, .fi .i64 (dig s.1))]) (fun s => [.ints s.2.1 .u8 s.2.2]) (fun s => s.1) (fun s => s.1 * 10 ^ s.2.2.length ≤ m ∧ s.2.2.length ≤ K) (m, 0, []) [3, 4] rfl rfl rfl ⟨by simp, by simp⟩ ?_
  rintro ⟨x, g, B⟩ ⟨hx, hB⟩ ih
  dsimp only at hx hB ih ⊢
  have lx : (dig x).length ≤ 256 := dig_mono (Nat.le_trans (Nat.le_mul_of_pos_right x (Nat.pow_pos (by omega))) hx) hl
  refine sp W 0 rfl rfl rfl (fun h3 => ?_) (fun h3 => ?_)
  · have hx0 : x ≠ 0 := fun k => by rw [k, dig_zero] at h3; simp at h3
    refine ce W 0 rfl rfl (l5DivSmall_ok x 10 (by omega) (by omega) (by omega)) rfl ?_
    have hlt : B.length < K := by
      rcases Nat.lt_or_ge B.length K with h | h
      · exact h
      · have h5 : 10 ^ K ≤ 10 ^ B.length := Nat.pow_le_pow_right (by omega) h
        have h6 : 1 * 10 ^ B.length ≤ x * 10 ^ B.length := Nat.mul_le_mul_right _ (by omega)
        omega
    have hnx : x / 10 * 10 ^ (B.length + 1) ≤ m := by
      rw [Nat.pow_succ, Nat.mul_comm (10 ^ B.length) 10, ← Nat.mul_assoc]
      exact Nat.le_trans (Nat.mul_le_mul_right _ (Nat.div_mul_le_self _ _)) hx
    have nx := ih (x / 10, g + 1, B ++ [48 + ((x % 10 : Nat) : Int)]) ⟨by simpa using hnx, by simp; omega⟩ (by dsimp only; omega)
    dsimp only at nx
    rw [List.length_append] at nx
    refine bd W 0 1 [3, 4] rfl rfl rfl rfl rfl (nx)
  · refine atl W rfl ?_
    refine go_nilT 7 (.ints 0 .u8 []) rfl rfl rfl rfl rfl ?_
    refine lp W 0 (σ := Nat × Nat × List Int) (fun s => [(3, .sl 0 g 0 B.length), (7, .sl 1 s.2.1 0 s.2.2.length), (8, .int .i64 ((s.1 : Int) - 1))]) (fun s => [.ints g .u8 B, .ints s.2.1 .u8 s.2.2]) (fun s => s.1) (fun s => s.1 + s.2.2.length = B.length) (B.length, 0, []) [3, 7, 8] rfl rfl rfl rfl ?_
    rintro ⟨j, g2, O⟩ hj ih2
    dsimp only at hj ih2 ⊢
    refine sp W 0 rfl rfl rfl (fun h4 => ?_) (fun h4 => ?_)
    · have nx := ih2 (j - 1, g2 + 1, O ++ [B.getD (addN 0 ((j : Int) - 1).toNat) 0]) (by simp; omega) (by dsimp only; omega)
      dsimp only at nx
      rw [List.length_append, show ((j - 1 : Nat) : Int) = (j : Int) - 1 by omega] at nx
      refine bd W 0 2 [3, 7, 8] rfl rfl rfl rfl rfl (nx)
    · refine rq W 0 rfl rfl (.str (bytesT O)) (⟨_, rfl, by simp [bytesT]; omega⟩) rfl .refl
abbrev X8 (z : Int) : Int := ([0, 1, 5, 30, 399, 400, 401, 1000] : List Int).getD (addN 0 z.toNat) 0
theorem X8_in (z : Int) (h0 : 0 ≤ z) (h1 : z < 8) : 0 ≤ X8 z ∧ X8 z ≤ 60000 := by
  have : ∀ n : Nat, n < 8 → 0 ≤ X8 n ∧ X8 n ≤ 60000 := by decide
  obtain ⟨n, rfl⟩ : ∃ n : Nat, z = n := ⟨z.toNat, by omega⟩
  exact this n (by omega)
theorem literal32_ok (b : List Int) (p : Int) (hb : BytesOk b) (h0 : 0 ≤ p) (h1 : p ≤ 999900000) : AFunM Tryz.prog 24 [.ptr 0 0 0 0] [rdB b p] (RdQ b p 2000 fun u => ∃ s : List UInt8, u = .str s ∧ s.length ≤ 3000) := by
  have ko : ∀ n : Int, 0 ≤ n → n ≤ 60000 → AFunP Tryz.prog 52 [.int .u64 n] (· = .fi .i64 (dig n.toNat)) := fun n h1 h2 => by
    obtain ⟨k, rfl⟩ : ∃ k : Nat, n = k := ⟨n.toNat, by omega⟩
    rw [Int.toNat_natCast]
    exact specNatOf_ok k (by omega)
  have kt : ∀ n : Int, 0 ≤ n → n ≤ 60000 → AFunP Tryz.prog 51 [.fi .i64 (dig n.toNat)] (fun u => ∃ s : List UInt8, u = .str s ∧ s.length ≤ 1300) := fun n h1 h2 => specNatText_any _ (by have := dlen1 (m := n.toNat) (by omega); omega)
  refine afun_of Tryz.func24 Tryz.call24 rfl Tryz.ntmps24 rfl ?_
  have W : Walk Tryz.prog TT 24 _ := Walk.of TT_ok Tryz.func24 Tryz.results24
  refine cm W 0 [(0, 0)] rfl (pick32_ok b p 2000 hb (by omega) (by omega) (by unfold InI; omega)) ⟨rfl, trivial⟩ rfl rfl rfl ?_
  rintro _ _ ⟨p1, rfl, p1a, p1b, n1, rfl, n1a, n1b⟩
  refine ⟨_, _, rfl, rfl, ?_⟩
  refine ce W 0 rfl rfl (ko n1 (by omega) (by omega)) rfl ?_
  refine cq W 0 rfl rfl (kt n1 (by omega) (by omega)) ?_
  rintro _ ⟨s0, rfl, ls0⟩
  refine ⟨_, rfl, ?_⟩
  refine cm W 0 [(0, 0)] rfl (pick32_ok b p1 8 hb (by omega) (by omega) (by unfold InI; omega)) ⟨rfl, trivial⟩ rfl rfl rfl ?_
  rintro _ _ ⟨p2, rfl, p2a, p2b, n2, rfl, n2a, n2b⟩
  refine ⟨_, _, rfl, rfl, ?_⟩
  refine' cutK (fun K1 => ?main1) ?k1
  case main1 =>
    refine sp W 0 rfl rfl rfl (fun c1 => ?_) (fun c1 => ?_)
    · refine cm W 0 [(0, 0)] rfl (natM_ok b p2 hb (by omega) (by omega)) ⟨rfl, trivial⟩ rfl rfl rfl ?_
      rintro _ _ ⟨p3, rfl, p3a, p3b, ⟨l, rfl, ll⟩⟩
      refine ⟨_, _, rfl, rfl, ?_⟩
      refine cq W 0 rfl rfl (specNatText_any l ll) ?_
      rintro _ ⟨s1, rfl, ls1⟩
      refine ⟨_, rfl, ?_⟩
      refine cm W 0 [(0, 0)] rfl (pick32_ok b p3 2 hb (by omega) (by omega) (by unfold InI; omega)) ⟨rfl, trivial⟩ rfl rfl rfl ?_
      rintro _ _ ⟨p4, rfl, p4a, p4b, n3, rfl, n3a, n3b⟩
      refine ⟨_, _, rfl, rfl, ?_⟩
      have g : (p ≤ p4 ∧ p4 ≤ p + 700) ∧ s1.length ≤ 1300 ∧ 0 ≤ n3 ∧ n3 < 2 := ⟨⟨by omega, by omega⟩, by omega, by omega, by omega⟩
      refine go_state [0, 3, 18] [(0, .ptr 0 0 0 0), (3, .str s1), (18, .int .i64 n3)] [rdB b p4] rfl rfl ?_
      clear p4a p4b n3a n3b ls1
      revert s1 p4 n3
      exact K1.get
    · skip
      refine cm W 0 [(0, 0)] rfl (pick32_ok b p2 2 hb (by omega) (by omega) (by unfold InI; omega)) ⟨rfl, trivial⟩ rfl rfl rfl ?_
      rintro _ _ ⟨p4, rfl, p4a, p4b, n3, rfl, n3a, n3b⟩
      refine ⟨_, _, rfl, rfl, ?_⟩
      have g : (p ≤ p4 ∧ p4 ≤ p + 700) ∧ s0.length ≤ 1300 ∧ 0 ≤ n3 ∧ n3 < 2 := ⟨⟨by omega, by omega⟩, by omega, by omega, by omega⟩
      refine go_state [0, 3, 18] [(0, .ptr 0 0 0 0), (3, .str s0), (18, .int .i64 n3)] [rdB b p4] rfl rfl ?_
      clear p4a p4b n3a n3b ls0
      revert s0 p4 n3
      exact K1.get
  case k1 =>
    intro s1 q1 z1 ⟨⟨qa, qb⟩, ls, za, zb⟩
    refine' cutK (fun K2 => ?main2) ?k2
    case main2 =>
      refine' cutK (fun K3 => ?main3) ?k3
      case main3 =>
        refine sp W 0 rfl rfl rfl (fun c2 => ?_) (fun c2 => ?_)
        · refine cm W 0 [(0, 0)] rfl (pick32_ok b q1 5 hb (by omega) (by omega) (by unfold InI; omega)) ⟨rfl, trivial⟩ rfl rfl rfl ?_
          rintro _ _ ⟨q2, rfl, q2a, q2b, z2, rfl, z2a, z2b⟩
          refine ⟨_, _, rfl, rfl, ?_⟩
          refine cm W 0 [(0, 0)] rfl (pick32_ok b q2 10 hb (by omega) (by omega) (by unfold InI; omega)) ⟨rfl, trivial⟩ rfl rfl rfl ?_
          rintro _ _ ⟨q3, rfl, q3a, q3b, z3, rfl, z3a, z3b⟩
          refine ⟨_, _, rfl, rfl, ?_⟩
          refine sp W 0 rfl rfl rfl (fun c3 => ?_) (fun c3 => ?_)
          · refine cm W 0 [(0, 0)] rfl (pick32_ok b q3 50 hb (by omega) (by omega) (by unfold InI; omega)) ⟨rfl, trivial⟩ rfl rfl rfl ?_
            rintro _ _ ⟨q4, rfl, q4a, q4b, z4, rfl, z4a, z4b⟩
            refine ⟨_, _, rfl, rfl, ?_⟩
            refine atl W rfl ?_
            have g : (p ≤ q4 ∧ q4 ≤ p + 710) ∧ (s1 ++ [46]).length ≤ 1301 ∧ 0 ≤ z4 ∧ z4 ≤ 49 := ⟨⟨by omega, by omega⟩, by simp; omega, by omega, by omega⟩
            obtain ⟨s2, hs⟩ : ∃ s2, s2 = s1 ++ [46] := ⟨_, rfl⟩
            obtain ⟨N, hN⟩ : ∃ N, N = z4 := ⟨_, rfl⟩
            obtain ⟨Q, hQ⟩ : ∃ Q, Q = q4 := ⟨_, rfl⟩
            rw [← hs, ← hN, ← hQ] at g
            refine go_state [0, 3, 4, 5] [(0, .ptr 0 0 0 0), (3, .str s2), (4, .int .i64 N), (5, .int .i64 0)] [rdB b Q] (by rw [hs, hN]; rfl) (by rw [hQ]; rfl) ?_
            clear hs hN hQ
            revert s2 N Q
            exact K3.get
          · skip
            refine atl W rfl ?_
            have g : (p ≤ q3 ∧ q3 ≤ p + 710) ∧ (s1 ++ [46]).length ≤ 1301 ∧ 0 ≤ 1 + z2 ∧ 1 + z2 ≤ 49 := ⟨⟨by omega, by omega⟩, by simp; omega, by omega, by omega⟩
            obtain ⟨s2, hs⟩ : ∃ s2, s2 = s1 ++ [46] := ⟨_, rfl⟩
            obtain ⟨N, hN⟩ : ∃ N, N = 1 + z2 := ⟨_, rfl⟩
            obtain ⟨Q, hQ⟩ : ∃ Q, Q = q3 := ⟨_, rfl⟩
            rw [← hs, ← hN, ← hQ] at g
            refine go_state [0, 3, 4, 5] [(0, .ptr 0 0 0 0), (3, .str s2), (4, .int .i64 N), (5, .int .i64 0)] [rdB b Q] (by rw [hs, hN]; rfl) (by rw [hQ]; rfl) ?_
            clear hs hN hQ
            revert s2 N Q
            exact K3.get
        · skip
          refine cm W 0 [(0, 0)] rfl (pick32_ok b q1 3 hb (by omega) (by omega) (by unfold InI; omega)) ⟨rfl, trivial⟩ rfl rfl rfl ?_
          rintro _ _ ⟨q4, rfl, q4a, q4b, z4, rfl, z4a, z4b⟩
          refine ⟨_, _, rfl, rfl, ?_⟩
          have g : (p ≤ q4 ∧ q4 ≤ p + 800) ∧ s1.length ≤ 1351 ∧ 0 ≤ z4 ∧ z4 < 3 := ⟨⟨by omega, by omega⟩, by omega, by omega, by omega⟩
          obtain ⟨s5, hs⟩ : ∃ s5, s5 = s1 := ⟨_, rfl⟩
          rw [← hs] at g
          refine go_state [0, 3, 44] [(0, .ptr 0 0 0 0), (3, .str s5), (44, .int .i64 z4)] [rdB b q4] (by rw [hs]; rfl) rfl ?_
          clear hs q4a q4b z4a z4b
          revert s5 q4 z4
          exact K2.get
      case k3 =>
        intro s2 N Q ⟨⟨ga, gb⟩, gl, gn, gm⟩
        refine lp W 0 (σ := Nat × List UInt8 × Int) (fun s => [(0, .ptr 0 0 0 0), (3, .str s.2.1), (4, .int .i64 N), (5, .int .i64 s.1)]) (fun s => [rdB b s.2.2]) (fun s => 60 - s.1) (fun s => s.1 ≤ 49 ∧ s.2.1.length ≤ 1301 + s.1 ∧ p ≤ s.2.2 ∧ s.2.2 ≤ p + 710 + s.1) (0, s2, Q) [0, 3, 4, 5] rfl rfl rfl ⟨by dsimp only; omega, by dsimp only; omega, by dsimp only; omega, by dsimp only; omega⟩ ?_
        rintro ⟨i, s3, q⟩ ⟨i1, i2, i3, i4⟩ ih
        dsimp only at i1 i2 i3 i4 ih ⊢
        refine sp W 0 rfl rfl rfl (fun d1 => ?_) (fun d1 => ?_)
        · refine cm W 0 [(0, 0)] rfl (pick32_ok b q 10 hb (by omega) (by omega) (by unfold InI; omega)) ⟨rfl, trivial⟩ rfl rfl rfl ?_
          rintro _ _ ⟨q5, rfl, q5a, q5b, z5, rfl, z5a, z5b⟩
          refine ⟨_, _, rfl, rfl, ?_⟩
          have lb : (bytesT [48 + z5]).length = 1 := by simp [bytesT]
          refine bd W 0 1 [0, 3, 4, 5] rfl rfl rfl rfl rfl (ih (i + 1, s3 ++ bytesT [48 + z5], q5) ⟨by dsimp only; omega, by simp [bytesT]; omega, by dsimp only; omega, by dsimp only; omega⟩ (by dsimp only; omega))
        · skip
          refine cm W 0 [(0, 0)] rfl (pick32_ok b q 3 hb (by omega) (by omega) (by unfold InI; omega)) ⟨rfl, trivial⟩ rfl rfl rfl ?_
          rintro _ _ ⟨q4, rfl, q4a, q4b, z4, rfl, z4a, z4b⟩
          refine ⟨_, _, rfl, rfl, ?_⟩
          have g : (p ≤ q4 ∧ q4 ≤ p + 800) ∧ s3.length ≤ 1351 ∧ 0 ≤ z4 ∧ z4 < 3 := ⟨⟨by omega, by omega⟩, by omega, by omega, by omega⟩
          obtain ⟨s5, hs⟩ : ∃ s5, s5 = s3 := ⟨_, rfl⟩
          rw [← hs] at g
          refine go_state [0, 3, 44] [(0, .ptr 0 0 0 0), (3, .str s5), (44, .int .i64 z4)] [rdB b q4] (by rw [hs]; rfl) rfl ?_
          clear hs q4a q4b z4a z4b
          revert s5 q4 z4
          exact K2.get
    case k2 =>
      intro q5 z5 s4 ⟨⟨ra, rb⟩, rl, rza, rzb⟩
      refine' cutK (fun K4 => ?main4) ?k4
      case main4 =>
        refine sp W 0 rfl rfl rfl (fun e1 => ?_) (fun e1 => ?_)
        · skip
          refine phg W 0 15 [1, 3, 7, 9, 14] rfl rfl (fun PW => ?_)
          refine phl PW 0 [1, 3, 7] [] [] rfl rfl trivial ⟨?_, ?_, ?_, trivial⟩
          · refine nx_op PW 0 rfl rfl ?_
            refine phl PW 0 [3, 7] [] [] rfl rfl trivial ⟨?_, ?_, trivial⟩
            · refine nx_callM PW [(0, 0)] rfl (pick32_ok b q5 2 hb (by omega) (by omega) (by unfold InI; omega)) ⟨rfl, trivial⟩ rfl rfl rfl ?_
              rintro _ _ ⟨q6, rfl, q6a, q6b, z6, rfl, z6a, z6b⟩
              refine ⟨_, _, rfl, rfl, ?_⟩
              obtain rfl | rfl : z6 = 0 ∨ z6 = 1 := by omega
              · refine phl PW 0 [7, 9] [] [] rfl rfl trivial ⟨?_, ?_, trivial⟩
                · refine nx_op PW 0 rfl rfl ?_
                  refine phl PW 0 [9] [] [] rfl rfl trivial ⟨?_, trivial⟩
                  · refine nx_callM PW [(0, 0)] rfl (pick32_ok b q6 8 hb (by omega) (by omega) (by unfold InI; omega)) ⟨rfl, trivial⟩ rfl rfl rfl ?_
                    rintro _ _ ⟨q7, rfl, q7a, q7b, z7, rfl, z7a, z7b⟩
                    refine ⟨_, _, rfl, rfl, ?_⟩
                    have hX := X8_in z7 (by omega) (by omega)
                    have hX' : 0 ≤ ([0, 1, 5, 30, 399, 400, 401, 1000] : List Int).getD (addN 0 z7.toNat) 0 ∧ ([0, 1, 5, 30, 399, 400, 401, 1000] : List Int).getD (addN 0 z7.toNat) 0 ≤ 60000 := hX
                    have hz : addN 0 z7.toNat = z7.toNat := addN0 _
                    refine phl PW 0 [14] [] [.fi .i64 (dig (X8 z7).toNat)] rfl rfl ⟨(ko (X8 z7) hX.1 hX.2).at rfl _, trivial⟩ ⟨?_, trivial⟩ (hp := by simp only [AllP, Holds, Option.getD, List.length_cons, List.length_nil, true_and, and_true]; omega)
                    · refine nx_call PW rfl ((kt (X8 z7) hX.1 hX.2).at rfl _) ?_
                      rintro _ _ ⟨rfl, s6, rfl, l6⟩
                      refine ⟨_, rfl, ?_⟩
                      refine phe PW 0 [] [] rfl trivial rfl ?_
                      refine cm W 0 [(0, 0)] rfl (pick32_ok b q7 20 hb (by omega) (by omega) (by unfold InI; omega)) ⟨rfl, trivial⟩ rfl rfl rfl ?_
                      rintro _ _ ⟨q8, rfl, q8a, q8b, z8, rfl, z8a, z8b⟩
                      refine ⟨_, _, rfl, rfl, ?_⟩
                      refine go_drop 1 [0, 3, 63] rfl rfl rfl rfl (by first | exact True.intro | (simp only [AllC, AllP, addN, Int.toNat_natCast, true_and, and_true, Option.getD, List.length_set, wrapU, pw1, pw7, pw8, pw16, pw23, pw32, pw52, Holds] <;> first | omega | ((repeat' apply And.intro) <;> first | omega | (intros; rfl))) | (simp [AllC, AllP, addN, cloL, clo, mrgL, mrg, wrapU, Holds] <;> omega)) ?_
                      obtain ⟨s5, hs⟩ : ∃ s5, s5 = s4 ++ [101] ++ s6 := ⟨_, rfl⟩
                      have g : (p ≤ q8 ∧ q8 ≤ p + 900) ∧ s5.length ≤ 2660 ∧ 0 ≤ z8 ∧ z8 < 20 := ⟨⟨by omega, by omega⟩, by rw [hs]; simp; omega, by omega, by omega⟩
                      refine go_state [0, 3, 63] [(0, .ptr 0 0 0 0), (3, .str s5), (63, .int .i64 z8)] [rdB b q8] (by rw [hs]; rfl) rfl ?_
                      clear hs q8a q8b z8a z8b
                      revert s5 q8 z8
                      exact K4.get
                · refine nx_callM PW [(0, 0)] rfl (pick32_ok b q6 8 hb (by omega) (by omega) (by unfold InI; omega)) ⟨rfl, trivial⟩ rfl rfl rfl ?_
                  rintro _ _ ⟨q7, rfl, q7a, q7b, z7, rfl, z7a, z7b⟩
                  refine ⟨_, _, rfl, rfl, ?_⟩
                  have hX := X8_in z7 (by omega) (by omega)
                  have hX' : 0 ≤ ([0, 1, 5, 30, 399, 400, 401, 1000] : List Int).getD (addN 0 z7.toNat) 0 ∧ ([0, 1, 5, 30, 399, 400, 401, 1000] : List Int).getD (addN 0 z7.toNat) 0 ≤ 60000 := hX
                  have hz : addN 0 z7.toNat = z7.toNat := addN0 _
                  refine phl PW 0 [7] [] [] rfl rfl trivial ⟨?_, trivial⟩
                  · refine nx_op PW 0 rfl rfl ?_
                    refine phl PW 0 [14] [] [.fi .i64 (dig (X8 z7).toNat)] rfl rfl ⟨(ko (X8 z7) hX.1 hX.2).at rfl _, trivial⟩ ⟨?_, trivial⟩ (hp := by simp only [AllP, Holds, Option.getD, List.length_cons, List.length_nil, true_and, and_true]; omega)
                    · refine nx_call PW rfl ((kt (X8 z7) hX.1 hX.2).at rfl _) ?_
                      rintro _ _ ⟨rfl, s6, rfl, l6⟩
                      refine ⟨_, rfl, ?_⟩
                      refine phe PW 0 [] [] rfl trivial rfl ?_
                      refine cm W 0 [(0, 0)] rfl (pick32_ok b q7 20 hb (by omega) (by omega) (by unfold InI; omega)) ⟨rfl, trivial⟩ rfl rfl rfl ?_
                      rintro _ _ ⟨q8, rfl, q8a, q8b, z8, rfl, z8a, z8b⟩
                      refine ⟨_, _, rfl, rfl, ?_⟩
                      refine go_drop 1 [0, 3, 63] rfl rfl rfl rfl (by first | exact True.intro | (simp only [AllC, AllP, addN, Int.toNat_natCast, true_and, and_true, Option.getD, List.length_set, wrapU, pw1, pw7, pw8, pw16, pw23, pw32, pw52, Holds] <;> first | omega | ((repeat' apply And.intro) <;> first | omega | (intros; rfl))) | (simp [AllC, AllP, addN, cloL, clo, mrgL, mrg, wrapU, Holds] <;> omega)) ?_
                      obtain ⟨s5, hs⟩ : ∃ s5, s5 = s4 ++ [101] ++ s6 := ⟨_, rfl⟩
                      have g : (p ≤ q8 ∧ q8 ≤ p + 900) ∧ s5.length ≤ 2660 ∧ 0 ≤ z8 ∧ z8 < 20 := ⟨⟨by omega, by omega⟩, by rw [hs]; simp; omega, by omega, by omega⟩
                      refine go_state [0, 3, 63] [(0, .ptr 0 0 0 0), (3, .str s5), (63, .int .i64 z8)] [rdB b q8] (by rw [hs]; rfl) rfl ?_
                      clear hs q8a q8b z8a z8b
                      revert s5 q8 z8
                      exact K4.get
              · refine phl PW 0 [7, 9] [] [] rfl rfl trivial ⟨?_, ?_, trivial⟩
                · refine nx_op PW 0 rfl rfl ?_
                  refine phl PW 0 [9] [] [] rfl rfl trivial ⟨?_, trivial⟩
                  · refine nx_callM PW [(0, 0)] rfl (pick32_ok b q6 8 hb (by omega) (by omega) (by unfold InI; omega)) ⟨rfl, trivial⟩ rfl rfl rfl ?_
                    rintro _ _ ⟨q7, rfl, q7a, q7b, z7, rfl, z7a, z7b⟩
                    refine ⟨_, _, rfl, rfl, ?_⟩
                    have hX := X8_in z7 (by omega) (by omega)
                    have hX' : 0 ≤ ([0, 1, 5, 30, 399, 400, 401, 1000] : List Int).getD (addN 0 z7.toNat) 0 ∧ ([0, 1, 5, 30, 399, 400, 401, 1000] : List Int).getD (addN 0 z7.toNat) 0 ≤ 60000 := hX
                    have hz : addN 0 z7.toNat = z7.toNat := addN0 _
                    refine phl PW 0 [14] [] [.fi .i64 (dig (X8 z7).toNat)] rfl rfl ⟨(ko (X8 z7) hX.1 hX.2).at rfl _, trivial⟩ ⟨?_, trivial⟩ (hp := by simp only [AllP, Holds, Option.getD, List.length_cons, List.length_nil, true_and, and_true]; omega)
                    · refine nx_call PW rfl ((kt (X8 z7) hX.1 hX.2).at rfl _) ?_
                      rintro _ _ ⟨rfl, s6, rfl, l6⟩
                      refine ⟨_, rfl, ?_⟩
                      refine phe PW 0 [] [] rfl trivial rfl ?_
                      refine cm W 0 [(0, 0)] rfl (pick32_ok b q7 20 hb (by omega) (by omega) (by unfold InI; omega)) ⟨rfl, trivial⟩ rfl rfl rfl ?_
                      rintro _ _ ⟨q8, rfl, q8a, q8b, z8, rfl, z8a, z8b⟩
                      refine ⟨_, _, rfl, rfl, ?_⟩
                      refine go_drop 1 [0, 3, 63] rfl rfl rfl rfl (by first | exact True.intro | (simp only [AllC, AllP, addN, Int.toNat_natCast, true_and, and_true, Option.getD, List.length_set, wrapU, pw1, pw7, pw8, pw16, pw23, pw32, pw52, Holds] <;> first | omega | ((repeat' apply And.intro) <;> first | omega | (intros; rfl))) | (simp [AllC, AllP, addN, cloL, clo, mrgL, mrg, wrapU, Holds] <;> omega)) ?_
                      obtain ⟨s5, hs⟩ : ∃ s5, s5 = s4 ++ [101, 45] ++ s6 := ⟨_, rfl⟩
                      have g : (p ≤ q8 ∧ q8 ≤ p + 900) ∧ s5.length ≤ 2660 ∧ 0 ≤ z8 ∧ z8 < 20 := ⟨⟨by omega, by omega⟩, by rw [hs]; simp; omega, by omega, by omega⟩
                      refine go_state [0, 3, 63] [(0, .ptr 0 0 0 0), (3, .str s5), (63, .int .i64 z8)] [rdB b q8] (by rw [hs]; rfl) rfl ?_
                      clear hs q8a q8b z8a z8b
                      revert s5 q8 z8
                      exact K4.get
                · refine nx_callM PW [(0, 0)] rfl (pick32_ok b q6 8 hb (by omega) (by omega) (by unfold InI; omega)) ⟨rfl, trivial⟩ rfl rfl rfl ?_
                  rintro _ _ ⟨q7, rfl, q7a, q7b, z7, rfl, z7a, z7b⟩
                  refine ⟨_, _, rfl, rfl, ?_⟩
                  have hX := X8_in z7 (by omega) (by omega)
                  have hX' : 0 ≤ ([0, 1, 5, 30, 399, 400, 401, 1000] : List Int).getD (addN 0 z7.toNat) 0 ∧ ([0, 1, 5, 30, 399, 400, 401, 1000] : List Int).getD (addN 0 z7.toNat) 0 ≤ 60000 := hX
                  have hz : addN 0 z7.toNat = z7.toNat := addN0 _
                  refine phl PW 0 [7] [] [] rfl rfl trivial ⟨?_, trivial⟩
                  · refine nx_op PW 0 rfl rfl ?_
                    refine phl PW 0 [14] [] [.fi .i64 (dig (X8 z7).toNat)] rfl rfl ⟨(ko (X8 z7) hX.1 hX.2).at rfl _, trivial⟩ ⟨?_, trivial⟩ (hp := by simp only [AllP, Holds, Option.getD, List.length_cons, List.length_nil, true_and, and_true]; omega)
                    · refine nx_call PW rfl ((kt (X8 z7) hX.1 hX.2).at rfl _) ?_
                      rintro _ _ ⟨rfl, s6, rfl, l6⟩
                      refine ⟨_, rfl, ?_⟩
                      refine phe PW 0 [] [] rfl trivial rfl ?_
                      refine cm W 0 [(0, 0)] rfl (pick32_ok b q7 20 hb (by omega) (by omega) (by unfold InI; omega)) ⟨rfl, trivial⟩ rfl rfl rfl ?_
                      rintro _ _ ⟨q8, rfl, q8a, q8b, z8, rfl, z8a, z8b⟩
                      refine ⟨_, _, rfl, rfl, ?_⟩
                      refine go_drop 1 [0, 3, 63] rfl rfl rfl rfl (by first | exact True.intro | (simp only [AllC, AllP, addN, Int.toNat_natCast, true_and, and_true, Option.getD, List.length_set, wrapU, pw1, pw7, pw8, pw16, pw23, pw32, pw52, Holds] <;> first | omega | ((repeat' apply And.intro) <;> first | omega | (intros; rfl))) | (simp [AllC, AllP, addN, cloL, clo, mrgL, mrg, wrapU, Holds] <;> omega)) ?_
                      obtain ⟨s5, hs⟩ : ∃ s5, s5 = s4 ++ [101, 45] ++ s6 := ⟨_, rfl⟩
                      have g : (p ≤ q8 ∧ q8 ≤ p + 900) ∧ s5.length ≤ 2660 ∧ 0 ≤ z8 ∧ z8 < 20 := ⟨⟨by omega, by omega⟩, by rw [hs]; simp; omega, by omega, by omega⟩
                      refine go_state [0, 3, 63] [(0, .ptr 0 0 0 0), (3, .str s5), (63, .int .i64 z8)] [rdB b q8] (by rw [hs]; rfl) rfl ?_
                      clear hs q8a q8b z8a z8b
                      revert s5 q8 z8
                      exact K4.get
            · refine nx_op PW 0 rfl rfl ?_
              refine phl PW 0 [3] [] [] rfl rfl trivial ⟨?_, trivial⟩
              · refine nx_callM PW [(0, 0)] rfl (pick32_ok b q5 2 hb (by omega) (by omega) (by unfold InI; omega)) ⟨rfl, trivial⟩ rfl rfl rfl ?_
                rintro _ _ ⟨q6, rfl, q6a, q6b, z6, rfl, z6a, z6b⟩
                refine ⟨_, _, rfl, rfl, ?_⟩
                obtain rfl | rfl : z6 = 0 ∨ z6 = 1 := by omega
                · refine phl PW 0 [9] [] [] rfl rfl trivial ⟨?_, trivial⟩
                  · refine nx_callM PW [(0, 0)] rfl (pick32_ok b q6 8 hb (by omega) (by omega) (by unfold InI; omega)) ⟨rfl, trivial⟩ rfl rfl rfl ?_
                    rintro _ _ ⟨q7, rfl, q7a, q7b, z7, rfl, z7a, z7b⟩
                    refine ⟨_, _, rfl, rfl, ?_⟩
                    have hX := X8_in z7 (by omega) (by omega)
                    have hX' : 0 ≤ ([0, 1, 5, 30, 399, 400, 401, 1000] : List Int).getD (addN 0 z7.toNat) 0 ∧ ([0, 1, 5, 30, 399, 400, 401, 1000] : List Int).getD (addN 0 z7.toNat) 0 ≤ 60000 := hX
                    have hz : addN 0 z7.toNat = z7.toNat := addN0 _
                    refine phl PW 0 [14] [] [.fi .i64 (dig (X8 z7).toNat)] rfl rfl ⟨(ko (X8 z7) hX.1 hX.2).at rfl _, trivial⟩ ⟨?_, trivial⟩ (hp := by simp only [AllP, Holds, Option.getD, List.length_cons, List.length_nil, true_and, and_true]; omega)
                    · refine nx_call PW rfl ((kt (X8 z7) hX.1 hX.2).at rfl _) ?_
                      rintro _ _ ⟨rfl, s6, rfl, l6⟩
                      refine ⟨_, rfl, ?_⟩
                      refine phe PW 0 [] [] rfl trivial rfl ?_
                      refine cm W 0 [(0, 0)] rfl (pick32_ok b q7 20 hb (by omega) (by omega) (by unfold InI; omega)) ⟨rfl, trivial⟩ rfl rfl rfl ?_
                      rintro _ _ ⟨q8, rfl, q8a, q8b, z8, rfl, z8a, z8b⟩
                      refine ⟨_, _, rfl, rfl, ?_⟩
                      refine go_drop 1 [0, 3, 63] rfl rfl rfl rfl (by first | exact True.intro | (simp only [AllC, AllP, addN, Int.toNat_natCast, true_and, and_true, Option.getD, List.length_set, wrapU, pw1, pw7, pw8, pw16, pw23, pw32, pw52, Holds] <;> first | omega | ((repeat' apply And.intro) <;> first | omega | (intros; rfl))) | (simp [AllC, AllP, addN, cloL, clo, mrgL, mrg, wrapU, Holds] <;> omega)) ?_
                      obtain ⟨s5, hs⟩ : ∃ s5, s5 = s4 ++ [101] ++ s6 := ⟨_, rfl⟩
                      have g : (p ≤ q8 ∧ q8 ≤ p + 900) ∧ s5.length ≤ 2660 ∧ 0 ≤ z8 ∧ z8 < 20 := ⟨⟨by omega, by omega⟩, by rw [hs]; simp; omega, by omega, by omega⟩
                      refine go_state [0, 3, 63] [(0, .ptr 0 0 0 0), (3, .str s5), (63, .int .i64 z8)] [rdB b q8] (by rw [hs]; rfl) rfl ?_
                      clear hs q8a q8b z8a z8b
                      revert s5 q8 z8
                      exact K4.get
                · refine phl PW 0 [9] [] [] rfl rfl trivial ⟨?_, trivial⟩
                  · refine nx_callM PW [(0, 0)] rfl (pick32_ok b q6 8 hb (by omega) (by omega) (by unfold InI; omega)) ⟨rfl, trivial⟩ rfl rfl rfl ?_
                    rintro _ _ ⟨q7, rfl, q7a, q7b, z7, rfl, z7a, z7b⟩
                    refine ⟨_, _, rfl, rfl, ?_⟩
                    have hX := X8_in z7 (by omega) (by omega)
                    have hX' : 0 ≤ ([0, 1, 5, 30, 399, 400, 401, 1000] : List Int).getD (addN 0 z7.toNat) 0 ∧ ([0, 1, 5, 30, 399, 400, 401, 1000] : List Int).getD (addN 0 z7.toNat) 0 ≤ 60000 := hX
                    have hz : addN 0 z7.toNat = z7.toNat := addN0 _
                    refine phl PW 0 [14] [] [.fi .i64 (dig (X8 z7).toNat)] rfl rfl ⟨(ko (X8 z7) hX.1 hX.2).at rfl _, trivial⟩ ⟨?_, trivial⟩ (hp := by simp only [AllP, Holds, Option.getD, List.length_cons, List.length_nil, true_and, and_true]; omega)
                    · refine nx_call PW rfl ((kt (X8 z7) hX.1 hX.2).at rfl _) ?_
                      rintro _ _ ⟨rfl, s6, rfl, l6⟩
                      refine ⟨_, rfl, ?_⟩
                      refine phe PW 0 [] [] rfl trivial rfl ?_
                      refine cm W 0 [(0, 0)] rfl (pick32_ok b q7 20 hb (by omega) (by omega) (by unfold InI; omega)) ⟨rfl, trivial⟩ rfl rfl rfl ?_
                      rintro _ _ ⟨q8, rfl, q8a, q8b, z8, rfl, z8a, z8b⟩
                      refine ⟨_, _, rfl, rfl, ?_⟩
                      refine go_drop 1 [0, 3, 63] rfl rfl rfl rfl (by first | exact True.intro | (simp only [AllC, AllP, addN, Int.toNat_natCast, true_and, and_true, Option.getD, List.length_set, wrapU, pw1, pw7, pw8, pw16, pw23, pw32, pw52, Holds] <;> first | omega | ((repeat' apply And.intro) <;> first | omega | (intros; rfl))) | (simp [AllC, AllP, addN, cloL, clo, mrgL, mrg, wrapU, Holds] <;> omega)) ?_
                      obtain ⟨s5, hs⟩ : ∃ s5, s5 = s4 ++ [101, 45] ++ s6 := ⟨_, rfl⟩
                      have g : (p ≤ q8 ∧ q8 ≤ p + 900) ∧ s5.length ≤ 2660 ∧ 0 ≤ z8 ∧ z8 < 20 := ⟨⟨by omega, by omega⟩, by rw [hs]; simp; omega, by omega, by omega⟩
                      refine go_state [0, 3, 63] [(0, .ptr 0 0 0 0), (3, .str s5), (63, .int .i64 z8)] [rdB b q8] (by rw [hs]; rfl) rfl ?_
                      clear hs q8a q8b z8a z8b
                      revert s5 q8 z8
                      exact K4.get
          · refine nx_callM PW [(0, 0)] rfl (pick32_ok b q5 2 hb (by omega) (by omega) (by unfold InI; omega)) ⟨rfl, trivial⟩ rfl rfl rfl ?_
            rintro _ _ ⟨q6, rfl, q6a, q6b, z6, rfl, z6a, z6b⟩
            refine ⟨_, _, rfl, rfl, ?_⟩
            obtain rfl | rfl : z6 = 0 ∨ z6 = 1 := by omega
            · refine phl PW 0 [1, 7, 9] [] [] rfl rfl trivial ⟨?_, ?_, ?_, trivial⟩
              · refine nx_op PW 0 rfl rfl ?_
                refine phl PW 0 [7, 9] [] [] rfl rfl trivial ⟨?_, ?_, trivial⟩
                · refine nx_op PW 0 rfl rfl ?_
                  refine phl PW 0 [9] [] [] rfl rfl trivial ⟨?_, trivial⟩
                  · refine nx_callM PW [(0, 0)] rfl (pick32_ok b q6 8 hb (by omega) (by omega) (by unfold InI; omega)) ⟨rfl, trivial⟩ rfl rfl rfl ?_
                    rintro _ _ ⟨q7, rfl, q7a, q7b, z7, rfl, z7a, z7b⟩
                    refine ⟨_, _, rfl, rfl, ?_⟩
                    have hX := X8_in z7 (by omega) (by omega)
                    have hX' : 0 ≤ ([0, 1, 5, 30, 399, 400, 401, 1000] : List Int).getD (addN 0 z7.toNat) 0 ∧ ([0, 1, 5, 30, 399, 400, 401, 1000] : List Int).getD (addN 0 z7.toNat) 0 ≤ 60000 := hX
                    have hz : addN 0 z7.toNat = z7.toNat := addN0 _
                    refine phl PW 0 [14] [] [.fi .i64 (dig (X8 z7).toNat)] rfl rfl ⟨(ko (X8 z7) hX.1 hX.2).at rfl _, trivial⟩ ⟨?_, trivial⟩ (hp := by simp only [AllP, Holds, Option.getD, List.length_cons, List.length_nil, true_and, and_true]; omega)
                    · refine nx_call PW rfl ((kt (X8 z7) hX.1 hX.2).at rfl _) ?_
                      rintro _ _ ⟨rfl, s6, rfl, l6⟩
                      refine ⟨_, rfl, ?_⟩
                      refine phe PW 0 [] [] rfl trivial rfl ?_
                      refine cm W 0 [(0, 0)] rfl (pick32_ok b q7 20 hb (by omega) (by omega) (by unfold InI; omega)) ⟨rfl, trivial⟩ rfl rfl rfl ?_
                      rintro _ _ ⟨q8, rfl, q8a, q8b, z8, rfl, z8a, z8b⟩
                      refine ⟨_, _, rfl, rfl, ?_⟩
                      refine go_drop 1 [0, 3, 63] rfl rfl rfl rfl (by first | exact True.intro | (simp only [AllC, AllP, addN, Int.toNat_natCast, true_and, and_true, Option.getD, List.length_set, wrapU, pw1, pw7, pw8, pw16, pw23, pw32, pw52, Holds] <;> first | omega | ((repeat' apply And.intro) <;> first | omega | (intros; rfl))) | (simp [AllC, AllP, addN, cloL, clo, mrgL, mrg, wrapU, Holds] <;> omega)) ?_
                      obtain ⟨s5, hs⟩ : ∃ s5, s5 = s4 ++ [101] ++ s6 := ⟨_, rfl⟩
                      have g : (p ≤ q8 ∧ q8 ≤ p + 900) ∧ s5.length ≤ 2660 ∧ 0 ≤ z8 ∧ z8 < 20 := ⟨⟨by omega, by omega⟩, by rw [hs]; simp; omega, by omega, by omega⟩
                      refine go_state [0, 3, 63] [(0, .ptr 0 0 0 0), (3, .str s5), (63, .int .i64 z8)] [rdB b q8] (by rw [hs]; rfl) rfl ?_
                      clear hs q8a q8b z8a z8b
                      revert s5 q8 z8
                      exact K4.get
                · refine nx_callM PW [(0, 0)] rfl (pick32_ok b q6 8 hb (by omega) (by omega) (by unfold InI; omega)) ⟨rfl, trivial⟩ rfl rfl rfl ?_
                  rintro _ _ ⟨q7, rfl, q7a, q7b, z7, rfl, z7a, z7b⟩
                  refine ⟨_, _, rfl, rfl, ?_⟩
                  have hX := X8_in z7 (by omega) (by omega)
                  have hX' : 0 ≤ ([0, 1, 5, 30, 399, 400, 401, 1000] : List Int).getD (addN 0 z7.toNat) 0 ∧ ([0, 1, 5, 30, 399, 400, 401, 1000] : List Int).getD (addN 0 z7.toNat) 0 ≤ 60000 := hX
                  have hz : addN 0 z7.toNat = z7.toNat := addN0 _
                  refine phl PW 0 [7] [] [] rfl rfl trivial ⟨?_, trivial⟩
                  · refine nx_op PW 0 rfl rfl ?_
                    refine phl PW 0 [14] [] [.fi .i64 (dig (X8 z7).toNat)] rfl rfl ⟨(ko (X8 z7) hX.1 hX.2).at rfl _, trivial⟩ ⟨?_, trivial⟩ (hp := by simp only [AllP, Holds, Option.getD, List.length_cons, List.length_nil, true_and, and_true]; omega)
                    · refine nx_call PW rfl ((kt (X8 z7) hX.1 hX.2).at rfl _) ?_
                      rintro _ _ ⟨rfl, s6, rfl, l6⟩
                      refine ⟨_, rfl, ?_⟩
                      refine phe PW 0 [] [] rfl trivial rfl ?_
                      refine cm W 0 [(0, 0)] rfl (pick32_ok b q7 20 hb (by omega) (by omega) (by unfold InI; omega)) ⟨rfl, trivial⟩ rfl rfl rfl ?_
                      rintro _ _ ⟨q8, rfl, q8a, q8b, z8, rfl, z8a, z8b⟩
                      refine ⟨_, _, rfl, rfl, ?_⟩
                      refine go_drop 1 [0, 3, 63] rfl rfl rfl rfl (by first | exact True.intro | (simp only [AllC, AllP, addN, Int.toNat_natCast, true_and, and_true, Option.getD, List.length_set, wrapU, pw1, pw7, pw8, pw16, pw23, pw32, pw52, Holds] <;> first | omega | ((repeat' apply And.intro) <;> first | omega | (intros; rfl))) | (simp [AllC, AllP, addN, cloL, clo, mrgL, mrg, wrapU, Holds] <;> omega)) ?_
                      obtain ⟨s5, hs⟩ : ∃ s5, s5 = s4 ++ [101] ++ s6 := ⟨_, rfl⟩
                      have g : (p ≤ q8 ∧ q8 ≤ p + 900) ∧ s5.length ≤ 2660 ∧ 0 ≤ z8 ∧ z8 < 20 := ⟨⟨by omega, by omega⟩, by rw [hs]; simp; omega, by omega, by omega⟩
                      refine go_state [0, 3, 63] [(0, .ptr 0 0 0 0), (3, .str s5), (63, .int .i64 z8)] [rdB b q8] (by rw [hs]; rfl) rfl ?_
                      clear hs q8a q8b z8a z8b
                      revert s5 q8 z8
                      exact K4.get
              · refine nx_op PW 0 rfl rfl ?_
                refine phl PW 0 [1, 9] [] [] rfl rfl trivial ⟨?_, ?_, trivial⟩
                · refine nx_op PW 0 rfl rfl ?_
                  refine phl PW 0 [9] [] [] rfl rfl trivial ⟨?_, trivial⟩
                  · refine nx_callM PW [(0, 0)] rfl (pick32_ok b q6 8 hb (by omega) (by omega) (by unfold InI; omega)) ⟨rfl, trivial⟩ rfl rfl rfl ?_
                    rintro _ _ ⟨q7, rfl, q7a, q7b, z7, rfl, z7a, z7b⟩
                    refine ⟨_, _, rfl, rfl, ?_⟩
                    have hX := X8_in z7 (by omega) (by omega)
                    have hX' : 0 ≤ ([0, 1, 5, 30, 399, 400, 401, 1000] : List Int).getD (addN 0 z7.toNat) 0 ∧ ([0, 1, 5, 30, 399, 400, 401, 1000] : List Int).getD (addN 0 z7.toNat) 0 ≤ 60000 := hX
                    have hz : addN 0 z7.toNat = z7.toNat := addN0 _
                    refine phl PW 0 [14] [] [.fi .i64 (dig (X8 z7).toNat)] rfl rfl ⟨(ko (X8 z7) hX.1 hX.2).at rfl _, trivial⟩ ⟨?_, trivial⟩ (hp := by simp only [AllP, Holds, Option.getD, List.length_cons, List.length_nil, true_and, and_true]; omega)
                    · refine nx_call PW rfl ((kt (X8 z7) hX.1 hX.2).at rfl _) ?_
                      rintro _ _ ⟨rfl, s6, rfl, l6⟩
                      refine ⟨_, rfl, ?_⟩
                      refine phe PW 0 [] [] rfl trivial rfl ?_
                      refine cm W 0 [(0, 0)] rfl (pick32_ok b q7 20 hb (by omega) (by omega) (by unfold InI; omega)) ⟨rfl, trivial⟩ rfl rfl rfl ?_
                      rintro _ _ ⟨q8, rfl, q8a, q8b, z8, rfl, z8a, z8b⟩
                      refine ⟨_, _, rfl, rfl, ?_⟩
                      refine go_drop 1 [0, 3, 63] rfl rfl rfl rfl (by first | exact True.intro | (simp only [AllC, AllP, addN, Int.toNat_natCast, true_and, and_true, Option.getD, List.length_set, wrapU, pw1, pw7, pw8, pw16, pw23, pw32, pw52, Holds] <;> first | omega | ((repeat' apply And.intro) <;> first | omega | (intros; rfl))) | (simp [AllC, AllP, addN, cloL, clo, mrgL, mrg, wrapU, Holds] <;> omega)) ?_
                      obtain ⟨s5, hs⟩ : ∃ s5, s5 = s4 ++ [101] ++ s6 := ⟨_, rfl⟩
                      have g : (p ≤ q8 ∧ q8 ≤ p + 900) ∧ s5.length ≤ 2660 ∧ 0 ≤ z8 ∧ z8 < 20 := ⟨⟨by omega, by omega⟩, by rw [hs]; simp; omega, by omega, by omega⟩
                      refine go_state [0, 3, 63] [(0, .ptr 0 0 0 0), (3, .str s5), (63, .int .i64 z8)] [rdB b q8] (by rw [hs]; rfl) rfl ?_
                      clear hs q8a q8b z8a z8b
                      revert s5 q8 z8
                      exact K4.get
                · refine nx_callM PW [(0, 0)] rfl (pick32_ok b q6 8 hb (by omega) (by omega) (by unfold InI; omega)) ⟨rfl, trivial⟩ rfl rfl rfl ?_
                  rintro _ _ ⟨q7, rfl, q7a, q7b, z7, rfl, z7a, z7b⟩
                  refine ⟨_, _, rfl, rfl, ?_⟩
                  have hX := X8_in z7 (by omega) (by omega)
                  have hX' : 0 ≤ ([0, 1, 5, 30, 399, 400, 401, 1000] : List Int).getD (addN 0 z7.toNat) 0 ∧ ([0, 1, 5, 30, 399, 400, 401, 1000] : List Int).getD (addN 0 z7.toNat) 0 ≤ 60000 := hX
                  have hz : addN 0 z7.toNat = z7.toNat := addN0 _
                  refine phl PW 0 [1, 14] [] [.fi .i64 (dig (X8 z7).toNat)] rfl rfl ⟨(ko (X8 z7) hX.1 hX.2).at rfl _, trivial⟩ ⟨?_, ?_, trivial⟩ (hp := by simp only [AllP, Holds, Option.getD, List.length_cons, List.length_nil, true_and, and_true]; omega)
                  · refine nx_op PW 0 rfl rfl ?_
                    refine phl PW 0 [14] [] [.fi .i64 (dig (X8 z7).toNat)] rfl rfl ⟨(ko (X8 z7) hX.1 hX.2).at rfl _, trivial⟩ ⟨?_, trivial⟩ (hp := by simp only [AllP, Holds, Option.getD, List.length_cons, List.length_nil, true_and, and_true]; omega)
                    · refine nx_call PW rfl ((kt (X8 z7) hX.1 hX.2).at rfl _) ?_
                      rintro _ _ ⟨rfl, s6, rfl, l6⟩
                      refine ⟨_, rfl, ?_⟩
                      refine phe PW 0 [] [] rfl trivial rfl ?_
                      refine cm W 0 [(0, 0)] rfl (pick32_ok b q7 20 hb (by omega) (by omega) (by unfold InI; omega)) ⟨rfl, trivial⟩ rfl rfl rfl ?_
                      rintro _ _ ⟨q8, rfl, q8a, q8b, z8, rfl, z8a, z8b⟩
                      refine ⟨_, _, rfl, rfl, ?_⟩
                      refine go_drop 1 [0, 3, 63] rfl rfl rfl rfl (by first | exact True.intro | (simp only [AllC, AllP, addN, Int.toNat_natCast, true_and, and_true, Option.getD, List.length_set, wrapU, pw1, pw7, pw8, pw16, pw23, pw32, pw52, Holds] <;> first | omega | ((repeat' apply And.intro) <;> first | omega | (intros; rfl))) | (simp [AllC, AllP, addN, cloL, clo, mrgL, mrg, wrapU, Holds] <;> omega)) ?_
                      obtain ⟨s5, hs⟩ : ∃ s5, s5 = s4 ++ [101] ++ s6 := ⟨_, rfl⟩
                      have g : (p ≤ q8 ∧ q8 ≤ p + 900) ∧ s5.length ≤ 2660 ∧ 0 ≤ z8 ∧ z8 < 20 := ⟨⟨by omega, by omega⟩, by rw [hs]; simp; omega, by omega, by omega⟩
                      refine go_state [0, 3, 63] [(0, .ptr 0 0 0 0), (3, .str s5), (63, .int .i64 z8)] [rdB b q8] (by rw [hs]; rfl) rfl ?_
                      clear hs q8a q8b z8a z8b
                      revert s5 q8 z8
                      exact K4.get
                  · refine nx_call PW rfl ((kt (X8 z7) hX.1 hX.2).at rfl _) ?_
                    rintro _ _ ⟨rfl, s6, rfl, l6⟩
                    refine ⟨_, rfl, ?_⟩
                    refine phl PW 0 [1] [] [] rfl rfl trivial ⟨?_, trivial⟩
                    · refine nx_op PW 0 rfl rfl ?_
                      refine phe PW 0 [] [] rfl trivial rfl ?_
                      refine cm W 0 [(0, 0)] rfl (pick32_ok b q7 20 hb (by omega) (by omega) (by unfold InI; omega)) ⟨rfl, trivial⟩ rfl rfl rfl ?_
                      rintro _ _ ⟨q8, rfl, q8a, q8b, z8, rfl, z8a, z8b⟩
                      refine ⟨_, _, rfl, rfl, ?_⟩
                      refine go_drop 1 [0, 3, 63] rfl rfl rfl rfl (by first | exact True.intro | (simp only [AllC, AllP, addN, Int.toNat_natCast, true_and, and_true, Option.getD, List.length_set, wrapU, pw1, pw7, pw8, pw16, pw23, pw32, pw52, Holds] <;> first | omega | ((repeat' apply And.intro) <;> first | omega | (intros; rfl))) | (simp [AllC, AllP, addN, cloL, clo, mrgL, mrg, wrapU, Holds] <;> omega)) ?_
                      obtain ⟨s5, hs⟩ : ∃ s5, s5 = s4 ++ [101] ++ s6 := ⟨_, rfl⟩
                      have g : (p ≤ q8 ∧ q8 ≤ p + 900) ∧ s5.length ≤ 2660 ∧ 0 ≤ z8 ∧ z8 < 20 := ⟨⟨by omega, by omega⟩, by rw [hs]; simp; omega, by omega, by omega⟩
                      refine go_state [0, 3, 63] [(0, .ptr 0 0 0 0), (3, .str s5), (63, .int .i64 z8)] [rdB b q8] (by rw [hs]; rfl) rfl ?_
                      clear hs q8a q8b z8a z8b
                      revert s5 q8 z8
                      exact K4.get
              · refine nx_callM PW [(0, 0)] rfl (pick32_ok b q6 8 hb (by omega) (by omega) (by unfold InI; omega)) ⟨rfl, trivial⟩ rfl rfl rfl ?_
                rintro _ _ ⟨q7, rfl, q7a, q7b, z7, rfl, z7a, z7b⟩
                refine ⟨_, _, rfl, rfl, ?_⟩
                have hX := X8_in z7 (by omega) (by omega)
                have hX' : 0 ≤ ([0, 1, 5, 30, 399, 400, 401, 1000] : List Int).getD (addN 0 z7.toNat) 0 ∧ ([0, 1, 5, 30, 399, 400, 401, 1000] : List Int).getD (addN 0 z7.toNat) 0 ≤ 60000 := hX
                have hz : addN 0 z7.toNat = z7.toNat := addN0 _
                refine phl PW 0 [1, 7] [] [] rfl rfl trivial ⟨?_, ?_, trivial⟩
                · refine nx_op PW 0 rfl rfl ?_
                  refine phl PW 0 [7] [] [] rfl rfl trivial ⟨?_, trivial⟩
                  · refine nx_op PW 0 rfl rfl ?_
                    refine phl PW 0 [14] [] [.fi .i64 (dig (X8 z7).toNat)] rfl rfl ⟨(ko (X8 z7) hX.1 hX.2).at rfl _, trivial⟩ ⟨?_, trivial⟩ (hp := by simp only [AllP, Holds, Option.getD, List.length_cons, List.length_nil, true_and, and_true]; omega)
                    · refine nx_call PW rfl ((kt (X8 z7) hX.1 hX.2).at rfl _) ?_
                      rintro _ _ ⟨rfl, s6, rfl, l6⟩
                      refine ⟨_, rfl, ?_⟩
                      refine phe PW 0 [] [] rfl trivial rfl ?_
                      refine cm W 0 [(0, 0)] rfl (pick32_ok b q7 20 hb (by omega) (by omega) (by unfold InI; omega)) ⟨rfl, trivial⟩ rfl rfl rfl ?_
                      rintro _ _ ⟨q8, rfl, q8a, q8b, z8, rfl, z8a, z8b⟩
                      refine ⟨_, _, rfl, rfl, ?_⟩
                      refine go_drop 1 [0, 3, 63] rfl rfl rfl rfl (by first | exact True.intro | (simp only [AllC, AllP, addN, Int.toNat_natCast, true_and, and_true, Option.getD, List.length_set, wrapU, pw1, pw7, pw8, pw16, pw23, pw32, pw52, Holds] <;> first | omega | ((repeat' apply And.intro) <;> first | omega | (intros; rfl))) | (simp [AllC, AllP, addN, cloL, clo, mrgL, mrg, wrapU, Holds] <;> omega)) ?_
                      obtain ⟨s5, hs⟩ : ∃ s5, s5 = s4 ++ [101] ++ s6 := ⟨_, rfl⟩
                      have g : (p ≤ q8 ∧ q8 ≤ p + 900) ∧ s5.length ≤ 2660 ∧ 0 ≤ z8 ∧ z8 < 20 := ⟨⟨by omega, by omega⟩, by rw [hs]; simp; omega, by omega, by omega⟩
                      refine go_state [0, 3, 63] [(0, .ptr 0 0 0 0), (3, .str s5), (63, .int .i64 z8)] [rdB b q8] (by rw [hs]; rfl) rfl ?_
                      clear hs q8a q8b z8a z8b
                      revert s5 q8 z8
                      exact K4.get
                · refine nx_op PW 0 rfl rfl ?_
                  refine phl PW 0 [1, 14] [] [.fi .i64 (dig (X8 z7).toNat)] rfl rfl ⟨(ko (X8 z7) hX.1 hX.2).at rfl _, trivial⟩ ⟨?_, ?_, trivial⟩ (hp := by simp only [AllP, Holds, Option.getD, List.length_cons, List.length_nil, true_and, and_true]; omega)
                  · refine nx_op PW 0 rfl rfl ?_
                    refine phl PW 0 [14] [] [.fi .i64 (dig (X8 z7).toNat)] rfl rfl ⟨(ko (X8 z7) hX.1 hX.2).at rfl _, trivial⟩ ⟨?_, trivial⟩ (hp := by simp only [AllP, Holds, Option.getD, List.length_cons, List.length_nil, true_and, and_true]; omega)
                    · refine nx_call PW rfl ((kt (X8 z7) hX.1 hX.2).at rfl _) ?_
                      rintro _ _ ⟨rfl, s6, rfl, l6⟩
                      refine ⟨_, rfl, ?_⟩
                      refine phe PW 0 [] [] rfl trivial rfl ?_
                      refine cm W 0 [(0, 0)] rfl (pick32_ok b q7 20 hb (by omega) (by omega) (by unfold InI; omega)) ⟨rfl, trivial⟩ rfl rfl rfl ?_
                      rintro _ _ ⟨q8, rfl, q8a, q8b, z8, rfl, z8a, z8b⟩
                      refine ⟨_, _, rfl, rfl, ?_⟩
                      refine go_drop 1 [0, 3, 63] rfl rfl rfl rfl (by first | exact True.intro | (simp only [AllC, AllP, addN, Int.toNat_natCast, true_and, and_true, Option.getD, List.length_set, wrapU, pw1, pw7, pw8, pw16, pw23, pw32, pw52, Holds] <;> first | omega | ((repeat' apply And.intro) <;> first | omega | (intros; rfl))) | (simp [AllC, AllP, addN, cloL, clo, mrgL, mrg, wrapU, Holds] <;> omega)) ?_
                      obtain ⟨s5, hs⟩ : ∃ s5, s5 = s4 ++ [101] ++ s6 := ⟨_, rfl⟩
                      have g : (p ≤ q8 ∧ q8 ≤ p + 900) ∧ s5.length ≤ 2660 ∧ 0 ≤ z8 ∧ z8 < 20 := ⟨⟨by omega, by omega⟩, by rw [hs]; simp; omega, by omega, by omega⟩
                      refine go_state [0, 3, 63] [(0, .ptr 0 0 0 0), (3, .str s5), (63, .int .i64 z8)] [rdB b q8] (by rw [hs]; rfl) rfl ?_
                      clear hs q8a q8b z8a z8b
                      revert s5 q8 z8
                      exact K4.get
                  · refine nx_call PW rfl ((kt (X8 z7) hX.1 hX.2).at rfl _) ?_
                    rintro _ _ ⟨rfl, s6, rfl, l6⟩
                    refine ⟨_, rfl, ?_⟩
                    refine phl PW 0 [1] [] [] rfl rfl trivial ⟨?_, trivial⟩
                    · refine nx_op PW 0 rfl rfl ?_
                      refine phe PW 0 [] [] rfl trivial rfl ?_
                      refine cm W 0 [(0, 0)] rfl (pick32_ok b q7 20 hb (by omega) (by omega) (by unfold InI; omega)) ⟨rfl, trivial⟩ rfl rfl rfl ?_
                      rintro _ _ ⟨q8, rfl, q8a, q8b, z8, rfl, z8a, z8b⟩
                      refine ⟨_, _, rfl, rfl, ?_⟩
                      refine go_drop 1 [0, 3, 63] rfl rfl rfl rfl (by first | exact True.intro | (simp only [AllC, AllP, addN, Int.toNat_natCast, true_and, and_true, Option.getD, List.length_set, wrapU, pw1, pw7, pw8, pw16, pw23, pw32, pw52, Holds] <;> first | omega | ((repeat' apply And.intro) <;> first | omega | (intros; rfl))) | (simp [AllC, AllP, addN, cloL, clo, mrgL, mrg, wrapU, Holds] <;> omega)) ?_
                      obtain ⟨s5, hs⟩ : ∃ s5, s5 = s4 ++ [101] ++ s6 := ⟨_, rfl⟩
                      have g : (p ≤ q8 ∧ q8 ≤ p + 900) ∧ s5.length ≤ 2660 ∧ 0 ≤ z8 ∧ z8 < 20 := ⟨⟨by omega, by omega⟩, by rw [hs]; simp; omega, by omega, by omega⟩
                      refine go_state [0, 3, 63] [(0, .ptr 0 0 0 0), (3, .str s5), (63, .int .i64 z8)] [rdB b q8] (by rw [hs]; rfl) rfl ?_
                      clear hs q8a q8b z8a z8b
                      revert s5 q8 z8
                      exact K4.get
            · refine phl PW 0 [1, 7, 9] [] [] rfl rfl trivial ⟨?_, ?_, ?_, trivial⟩
              · refine nx_op PW 0 rfl rfl ?_
                refine phl PW 0 [7, 9] [] [] rfl rfl trivial ⟨?_, ?_, trivial⟩
                · refine nx_op PW 0 rfl rfl ?_
                  refine phl PW 0 [9] [] [] rfl rfl trivial ⟨?_, trivial⟩
                  · refine nx_callM PW [(0, 0)] rfl (pick32_ok b q6 8 hb (by omega) (by omega) (by unfold InI; omega)) ⟨rfl, trivial⟩ rfl rfl rfl ?_
                    rintro _ _ ⟨q7, rfl, q7a, q7b, z7, rfl, z7a, z7b⟩
                    refine ⟨_, _, rfl, rfl, ?_⟩
                    have hX := X8_in z7 (by omega) (by omega)
                    have hX' : 0 ≤ ([0, 1, 5, 30, 399, 400, 401, 1000] : List Int).getD (addN 0 z7.toNat) 0 ∧ ([0, 1, 5, 30, 399, 400, 401, 1000] : List Int).getD (addN 0 z7.toNat) 0 ≤ 60000 := hX
                    have hz : addN 0 z7.toNat = z7.toNat := addN0 _
                    refine phl PW 0 [14] [] [.fi .i64 (dig (X8 z7).toNat)] rfl rfl ⟨(ko (X8 z7) hX.1 hX.2).at rfl _, trivial⟩ ⟨?_, trivial⟩ (hp := by simp only [AllP, Holds, Option.getD, List.length_cons, List.length_nil, true_and, and_true]; omega)
                    · refine nx_call PW rfl ((kt (X8 z7) hX.1 hX.2).at rfl _) ?_
                      rintro _ _ ⟨rfl, s6, rfl, l6⟩
                      refine ⟨_, rfl, ?_⟩
                      refine phe PW 0 [] [] rfl trivial rfl ?_
                      refine cm W 0 [(0, 0)] rfl (pick32_ok b q7 20 hb (by omega) (by omega) (by unfold InI; omega)) ⟨rfl, trivial⟩ rfl rfl rfl ?_
                      rintro _ _ ⟨q8, rfl, q8a, q8b, z8, rfl, z8a, z8b⟩
                      refine ⟨_, _, rfl, rfl, ?_⟩
                      refine go_drop 1 [0, 3, 63] rfl rfl rfl rfl (by first | exact True.intro | (simp only [AllC, AllP, addN, Int.toNat_natCast, true_and, and_true, Option.getD, List.length_set, wrapU, pw1, pw7, pw8, pw16, pw23, pw32, pw52, Holds] <;> first | omega | ((repeat' apply And.intro) <;> first | omega | (intros; rfl))) | (simp [AllC, AllP, addN, cloL, clo, mrgL, mrg, wrapU, Holds] <;> omega)) ?_
                      obtain ⟨s5, hs⟩ : ∃ s5, s5 = s4 ++ [101, 45] ++ s6 := ⟨_, rfl⟩
                      have g : (p ≤ q8 ∧ q8 ≤ p + 900) ∧ s5.length ≤ 2660 ∧ 0 ≤ z8 ∧ z8 < 20 := ⟨⟨by omega, by omega⟩, by rw [hs]; simp; omega, by omega, by omega⟩
                      refine go_state [0, 3, 63] [(0, .ptr 0 0 0 0), (3, .str s5), (63, .int .i64 z8)] [rdB b q8] (by rw [hs]; rfl) rfl ?_
                      clear hs q8a q8b z8a z8b
                      revert s5 q8 z8
                      exact K4.get
                · refine nx_callM PW [(0, 0)] rfl (pick32_ok b q6 8 hb (by omega) (by omega) (by unfold InI; omega)) ⟨rfl, trivial⟩ rfl rfl rfl ?_
                  rintro _ _ ⟨q7, rfl, q7a, q7b, z7, rfl, z7a, z7b⟩
                  refine ⟨_, _, rfl, rfl, ?_⟩
                  have hX := X8_in z7 (by omega) (by omega)
                  have hX' : 0 ≤ ([0, 1, 5, 30, 399, 400, 401, 1000] : List Int).getD (addN 0 z7.toNat) 0 ∧ ([0, 1, 5, 30, 399, 400, 401, 1000] : List Int).getD (addN 0 z7.toNat) 0 ≤ 60000 := hX
                  have hz : addN 0 z7.toNat = z7.toNat := addN0 _
                  refine phl PW 0 [7] [] [] rfl rfl trivial ⟨?_, trivial⟩
                  · refine nx_op PW 0 rfl rfl ?_
                    refine phl PW 0 [14] [] [.fi .i64 (dig (X8 z7).toNat)] rfl rfl ⟨(ko (X8 z7) hX.1 hX.2).at rfl _, trivial⟩ ⟨?_, trivial⟩ (hp := by simp only [AllP, Holds, Option.getD, List.length_cons, List.length_nil, true_and, and_true]; omega)
                    · refine nx_call PW rfl ((kt (X8 z7) hX.1 hX.2).at rfl _) ?_
                      rintro _ _ ⟨rfl, s6, rfl, l6⟩
                      refine ⟨_, rfl, ?_⟩
                      refine phe PW 0 [] [] rfl trivial rfl ?_
                      refine cm W 0 [(0, 0)] rfl (pick32_ok b q7 20 hb (by omega) (by omega) (by unfold InI; omega)) ⟨rfl, trivial⟩ rfl rfl rfl ?_
                      rintro _ _ ⟨q8, rfl, q8a, q8b, z8, rfl, z8a, z8b⟩
                      refine ⟨_, _, rfl, rfl, ?_⟩
                      refine go_drop 1 [0, 3, 63] rfl rfl rfl rfl (by first | exact True.intro | (simp only [AllC, AllP, addN, Int.toNat_natCast, true_and, and_true, Option.getD, List.length_set, wrapU, pw1, pw7, pw8, pw16, pw23, pw32, pw52, Holds] <;> first | omega | ((repeat' apply And.intro) <;> first | omega | (intros; rfl))) | (simp [AllC, AllP, addN, cloL, clo, mrgL, mrg, wrapU, Holds] <;> omega)) ?_
                      obtain ⟨s5, hs⟩ : ∃ s5, s5 = s4 ++ [101, 45] ++ s6 := ⟨_, rfl⟩
                      have g : (p ≤ q8 ∧ q8 ≤ p + 900) ∧ s5.length ≤ 2660 ∧ 0 ≤ z8 ∧ z8 < 20 := ⟨⟨by omega, by omega⟩, by rw [hs]; simp; omega, by omega, by omega⟩
                      refine go_state [0, 3, 63] [(0, .ptr 0 0 0 0), (3, .str s5), (63, .int .i64 z8)] [rdB b q8] (by rw [hs]; rfl) rfl ?_
                      clear hs q8a q8b z8a z8b
                      revert s5 q8 z8
                      exact K4.get
              · refine nx_op PW 0 rfl rfl ?_
                refine phl PW 0 [1, 9] [] [] rfl rfl trivial ⟨?_, ?_, trivial⟩
                · refine nx_op PW 0 rfl rfl ?_
                  refine phl PW 0 [9] [] [] rfl rfl trivial ⟨?_, trivial⟩
                  · refine nx_callM PW [(0, 0)] rfl (pick32_ok b q6 8 hb (by omega) (by omega) (by unfold InI; omega)) ⟨rfl, trivial⟩ rfl rfl rfl ?_
                    rintro _ _ ⟨q7, rfl, q7a, q7b, z7, rfl, z7a, z7b⟩
                    refine ⟨_, _, rfl, rfl, ?_⟩
                    have hX := X8_in z7 (by omega) (by omega)
                    have hX' : 0 ≤ ([0, 1, 5, 30, 399, 400, 401, 1000] : List Int).getD (addN 0 z7.toNat) 0 ∧ ([0, 1, 5, 30, 399, 400, 401, 1000] : List Int).getD (addN 0 z7.toNat) 0 ≤ 60000 := hX
                    have hz : addN 0 z7.toNat = z7.toNat := addN0 _
                    refine phl PW 0 [14] [] [.fi .i64 (dig (X8 z7).toNat)] rfl rfl ⟨(ko (X8 z7) hX.1 hX.2).at rfl _, trivial⟩ ⟨?_, trivial⟩ (hp := by simp only [AllP, Holds, Option.getD, List.length_cons, List.length_nil, true_and, and_true]; omega)
                    · refine nx_call PW rfl ((kt (X8 z7) hX.1 hX.2).at rfl _) ?_
                      rintro _ _ ⟨rfl, s6, rfl, l6⟩
                      refine ⟨_, rfl, ?_⟩
                      refine phe PW 0 [] [] rfl trivial rfl ?_
                      refine cm W 0 [(0, 0)] rfl (pick32_ok b q7 20 hb (by omega) (by omega) (by unfold InI; omega)) ⟨rfl, trivial⟩ rfl rfl rfl ?_
                      rintro _ _ ⟨q8, rfl, q8a, q8b, z8, rfl, z8a, z8b⟩
                      refine ⟨_, _, rfl, rfl, ?_⟩
                      refine go_drop 1 [0, 3, 63] rfl rfl rfl rfl (by first | exact True.intro | (simp only [AllC, AllP, addN, Int.toNat_natCast, true_and, and_true, Option.getD, List.length_set, wrapU, pw1, pw7, pw8, pw16, pw23, pw32, pw52, Holds] <;> first | omega | ((repeat' apply And.intro) <;> first | omega | (intros; rfl))) | (simp [AllC, AllP, addN, cloL, clo, mrgL, mrg, wrapU, Holds] <;> omega)) ?_
                      obtain ⟨s5, hs⟩ : ∃ s5, s5 = s4 ++ [101, 45] ++ s6 := ⟨_, rfl⟩
                      have g : (p ≤ q8 ∧ q8 ≤ p + 900) ∧ s5.length ≤ 2660 ∧ 0 ≤ z8 ∧ z8 < 20 := ⟨⟨by omega, by omega⟩, by rw [hs]; simp; omega, by omega, by omega⟩
                      refine go_state [0, 3, 63] [(0, .ptr 0 0 0 0), (3, .str s5), (63, .int .i64 z8)] [rdB b q8] (by rw [hs]; rfl) rfl ?_
                      clear hs q8a q8b z8a z8b
                      revert s5 q8 z8
                      exact K4.get
                · refine nx_callM PW [(0, 0)] rfl (pick32_ok b q6 8 hb (by omega) (by omega) (by unfold InI; omega)) ⟨rfl, trivial⟩ rfl rfl rfl ?_
                  rintro _ _ ⟨q7, rfl, q7a, q7b, z7, rfl, z7a, z7b⟩
                  refine ⟨_, _, rfl, rfl, ?_⟩
                  have hX := X8_in z7 (by omega) (by omega)
                  have hX' : 0 ≤ ([0, 1, 5, 30, 399, 400, 401, 1000] : List Int).getD (addN 0 z7.toNat) 0 ∧ ([0, 1, 5, 30, 399, 400, 401, 1000] : List Int).getD (addN 0 z7.toNat) 0 ≤ 60000 := hX
                  have hz : addN 0 z7.toNat = z7.toNat := addN0 _
                  refine phl PW 0 [1, 14] [] [.fi .i64 (dig (X8 z7).toNat)] rfl rfl ⟨(ko (X8 z7) hX.1 hX.2).at rfl _, trivial⟩ ⟨?_, ?_, trivial⟩ (hp := by simp only [AllP, Holds, Option.getD, List.length_cons, List.length_nil, true_and, and_true]; omega)
                  · refine nx_op PW 0 rfl rfl ?_
                    refine phl PW 0 [14] [] [.fi .i64 (dig (X8 z7).toNat)] rfl rfl ⟨(ko (X8 z7) hX.1 hX.2).at rfl _, trivial⟩ ⟨?_, trivial⟩ (hp := by simp only [AllP, Holds, Option.getD, List.length_cons, List.length_nil, true_and, and_true]; omega)
                    · refine nx_call PW rfl ((kt (X8 z7) hX.1 hX.2).at rfl _) ?_
                      rintro _ _ ⟨rfl, s6, rfl, l6⟩
                      refine ⟨_, rfl, ?_⟩
                      refine phe PW 0 [] [] rfl trivial rfl ?_
                      refine cm W 0 [(0, 0)] rfl (pick32_ok b q7 20 hb (by omega) (by omega) (by unfold InI; omega)) ⟨rfl, trivial⟩ rfl rfl rfl ?_
                      rintro _ _ ⟨q8, rfl, q8a, q8b, z8, rfl, z8a, z8b⟩
                      refine ⟨_, _, rfl, rfl, ?_⟩
                      refine go_drop 1 [0, 3, 63] rfl rfl rfl rfl (by first | exact True.intro | (simp only [AllC, AllP, addN, Int.toNat_natCast, true_and, and_true, Option.getD, List.length_set, wrapU, pw1, pw7, pw8, pw16, pw23, pw32, pw52, Holds] <;> first | omega | ((repeat' apply And.intro) <;> first | omega | (intros; rfl))) | (simp [AllC, AllP, addN, cloL, clo, mrgL, mrg, wrapU, Holds] <;> omega)) ?_
                      obtain ⟨s5, hs⟩ : ∃ s5, s5 = s4 ++ [101, 45] ++ s6 := ⟨_, rfl⟩
                      have g : (p ≤ q8 ∧ q8 ≤ p + 900) ∧ s5.length ≤ 2660 ∧ 0 ≤ z8 ∧ z8 < 20 := ⟨⟨by omega, by omega⟩, by rw [hs]; simp; omega, by omega, by omega⟩
                      refine go_state [0, 3, 63] [(0, .ptr 0 0 0 0), (3, .str s5), (63, .int .i64 z8)] [rdB b q8] (by rw [hs]; rfl) rfl ?_
                      clear hs q8a q8b z8a z8b
                      revert s5 q8 z8
                      exact K4.get
                  · refine nx_call PW rfl ((kt (X8 z7) hX.1 hX.2).at rfl _) ?_
                    rintro _ _ ⟨rfl, s6, rfl, l6⟩
                    refine ⟨_, rfl, ?_⟩
                    refine phl PW 0 [1] [] [] rfl rfl trivial ⟨?_, trivial⟩
                    · refine nx_op PW 0 rfl rfl ?_
                      refine phe PW 0 [] [] rfl trivial rfl ?_
                      refine cm W 0 [(0, 0)] rfl (pick32_ok b q7 20 hb (by omega) (by omega) (by unfold InI; omega)) ⟨rfl, trivial⟩ rfl rfl rfl ?_
                      rintro _ _ ⟨q8, rfl, q8a, q8b, z8, rfl, z8a, z8b⟩
                      refine ⟨_, _, rfl, rfl, ?_⟩
                      refine go_drop 1 [0, 3, 63] rfl rfl rfl rfl (by first | exact True.intro | (simp only [AllC, AllP, addN, Int.toNat_natCast, true_and, and_true, Option.getD, List.length_set, wrapU, pw1, pw7, pw8, pw16, pw23, pw32, pw52, Holds] <;> first | omega | ((repeat' apply And.intro) <;> first | omega | (intros; rfl))) | (simp [AllC, AllP, addN, cloL, clo, mrgL, mrg, wrapU, Holds] <;> omega)) ?_
                      obtain ⟨s5, hs⟩ : ∃ s5, s5 = s4 ++ [101, 45] ++ s6 := ⟨_, rfl⟩
                      have g : (p ≤ q8 ∧ q8 ≤ p + 900) ∧ s5.length ≤ 2660 ∧ 0 ≤ z8 ∧ z8 < 20 := ⟨⟨by omega, by omega⟩, by rw [hs]; simp; omega, by omega, by omega⟩
                      refine go_state [0, 3, 63] [(0, .ptr 0 0 0 0), (3, .str s5), (63, .int .i64 z8)] [rdB b q8] (by rw [hs]; rfl) rfl ?_
                      clear hs q8a q8b z8a z8b
                      revert s5 q8 z8
                      exact K4.get
              · refine nx_callM PW [(0, 0)] rfl (pick32_ok b q6 8 hb (by omega) (by omega) (by unfold InI; omega)) ⟨rfl, trivial⟩ rfl rfl rfl ?_
                rintro _ _ ⟨q7, rfl, q7a, q7b, z7, rfl, z7a, z7b⟩
                refine ⟨_, _, rfl, rfl, ?_⟩
                have hX := X8_in z7 (by omega) (by omega)
                have hX' : 0 ≤ ([0, 1, 5, 30, 399, 400, 401, 1000] : List Int).getD (addN 0 z7.toNat) 0 ∧ ([0, 1, 5, 30, 399, 400, 401, 1000] : List Int).getD (addN 0 z7.toNat) 0 ≤ 60000 := hX
                have hz : addN 0 z7.toNat = z7.toNat := addN0 _
                refine phl PW 0 [1, 7] [] [] rfl rfl trivial ⟨?_, ?_, trivial⟩
                · refine nx_op PW 0 rfl rfl ?_
                  refine phl PW 0 [7] [] [] rfl rfl trivial ⟨?_, trivial⟩
                  · refine nx_op PW 0 rfl rfl ?_
                    refine phl PW 0 [14] [] [.fi .i64 (dig (X8 z7).toNat)] rfl rfl ⟨(ko (X8 z7) hX.1 hX.2).at rfl _, trivial⟩ ⟨?_, trivial⟩ (hp := by simp only [AllP, Holds, Option.getD, List.length_cons, List.length_nil, true_and, and_true]; omega)
                    · refine nx_call PW rfl ((kt (X8 z7) hX.1 hX.2).at rfl _) ?_
                      rintro _ _ ⟨rfl, s6, rfl, l6⟩
                      refine ⟨_, rfl, ?_⟩
                      refine phe PW 0 [] [] rfl trivial rfl ?_
                      refine cm W 0 [(0, 0)] rfl (pick32_ok b q7 20 hb (by omega) (by omega) (by unfold InI; omega)) ⟨rfl, trivial⟩ rfl rfl rfl ?_
                      rintro _ _ ⟨q8, rfl, q8a, q8b, z8, rfl, z8a, z8b⟩
                      refine ⟨_, _, rfl, rfl, ?_⟩
                      refine go_drop 1 [0, 3, 63] rfl rfl rfl rfl (by first | exact True.intro | (simp only [AllC, AllP, addN, Int.toNat_natCast, true_and, and_true, Option.getD, List.length_set, wrapU, pw1, pw7, pw8, pw16, pw23, pw32, pw52, Holds] <;> first | omega | ((repeat' apply And.intro) <;> first | omega | (intros; rfl))) | (simp [AllC, AllP, addN, cloL, clo, mrgL, mrg, wrapU, Holds] <;> omega)) ?_
                      obtain ⟨s5, hs⟩ : ∃ s5, s5 = s4 ++ [101, 45] ++ s6 := ⟨_, rfl⟩
                      have g : (p ≤ q8 ∧ q8 ≤ p + 900) ∧ s5.length ≤ 2660 ∧ 0 ≤ z8 ∧ z8 < 20 := ⟨⟨by omega, by omega⟩, by rw [hs]; simp; omega, by omega, by omega⟩
                      refine go_state [0, 3, 63] [(0, .ptr 0 0 0 0), (3, .str s5), (63, .int .i64 z8)] [rdB b q8] (by rw [hs]; rfl) rfl ?_
                      clear hs q8a q8b z8a z8b
                      revert s5 q8 z8
                      exact K4.get
                · refine nx_op PW 0 rfl rfl ?_
                  refine phl PW 0 [1, 14] [] [.fi .i64 (dig (X8 z7).toNat)] rfl rfl ⟨(ko (X8 z7) hX.1 hX.2).at rfl _, trivial⟩ ⟨?_, ?_, trivial⟩ (hp := by simp only [AllP, Holds, Option.getD, List.length_cons, List.length_nil, true_and, and_true]; omega)
                  · refine nx_op PW 0 rfl rfl ?_
                    refine phl PW 0 [14] [] [.fi .i64 (dig (X8 z7).toNat)] rfl rfl ⟨(ko (X8 z7) hX.1 hX.2).at rfl _, trivial⟩ ⟨?_, trivial⟩ (hp := by simp only [AllP, Holds, Option.getD, List.length_cons, List.length_nil, true_and, and_true]; omega)
                    · refine nx_call PW rfl ((kt (X8 z7) hX.1 hX.2).at rfl _) ?_
                      rintro _ _ ⟨rfl, s6, rfl, l6⟩
                      refine ⟨_, rfl, ?_⟩
                      refine phe PW 0 [] [] rfl trivial rfl ?_
                      refine cm W 0 [(0, 0)] rfl (pick32_ok b q7 20 hb (by omega) (by omega) (by unfold InI; omega)) ⟨rfl, trivial⟩ rfl rfl rfl ?_
                      rintro _ _ ⟨q8, rfl, q8a, q8b, z8, rfl, z8a, z8b⟩
                      refine ⟨_, _, rfl, rfl, ?_⟩
                      refine go_drop 1 [0, 3, 63] rfl rfl rfl rfl (by first | exact True.intro | (simp only [AllC, AllP, addN, Int.toNat_natCast, true_and, and_true, Option.getD, List.length_set, wrapU, pw1, pw7, pw8, pw16, pw23, pw32, pw52, Holds] <;> first | omega | ((repeat' apply And.intro) <;> first | omega | (intros; rfl))) | (simp [AllC, AllP, addN, cloL, clo, mrgL, mrg, wrapU, Holds] <;> omega)) ?_
                      obtain ⟨s5, hs⟩ : ∃ s5, s5 = s4 ++ [101, 45] ++ s6 := ⟨_, rfl⟩
                      have g : (p ≤ q8 ∧ q8 ≤ p + 900) ∧ s5.length ≤ 2660 ∧ 0 ≤ z8 ∧ z8 < 20 := ⟨⟨by omega, by omega⟩, by rw [hs]; simp; omega, by omega, by omega⟩
                      refine go_state [0, 3, 63] [(0, .ptr 0 0 0 0), (3, .str s5), (63, .int .i64 z8)] [rdB b q8] (by rw [hs]; rfl) rfl ?_
                      clear hs q8a q8b z8a z8b
                      revert s5 q8 z8
                      exact K4.get
                  · refine nx_call PW rfl ((kt (X8 z7) hX.1 hX.2).at rfl _) ?_
                    rintro _ _ ⟨rfl, s6, rfl, l6⟩
                    refine ⟨_, rfl, ?_⟩
                    refine phl PW 0 [1] [] [] rfl rfl trivial ⟨?_, trivial⟩
                    · refine nx_op PW 0 rfl rfl ?_
                      refine phe PW 0 [] [] rfl trivial rfl ?_
                      refine cm W 0 [(0, 0)] rfl (pick32_ok b q7 20 hb (by omega) (by omega) (by unfold InI; omega)) ⟨rfl, trivial⟩ rfl rfl rfl ?_
                      rintro _ _ ⟨q8, rfl, q8a, q8b, z8, rfl, z8a, z8b⟩
                      refine ⟨_, _, rfl, rfl, ?_⟩
                      refine go_drop 1 [0, 3, 63] rfl rfl rfl rfl (by first | exact True.intro | (simp only [AllC, AllP, addN, Int.toNat_natCast, true_and, and_true, Option.getD, List.length_set, wrapU, pw1, pw7, pw8, pw16, pw23, pw32, pw52, Holds] <;> first | omega | ((repeat' apply And.intro) <;> first | omega | (intros; rfl))) | (simp [AllC, AllP, addN, cloL, clo, mrgL, mrg, wrapU, Holds] <;> omega)) ?_
                      obtain ⟨s5, hs⟩ : ∃ s5, s5 = s4 ++ [101, 45] ++ s6 := ⟨_, rfl⟩
                      have g : (p ≤ q8 ∧ q8 ≤ p + 900) ∧ s5.length ≤ 2660 ∧ 0 ≤ z8 ∧ z8 < 20 := ⟨⟨by omega, by omega⟩, by rw [hs]; simp; omega, by omega, by omega⟩
                      refine go_state [0, 3, 63] [(0, .ptr 0 0 0 0), (3, .str s5), (63, .int .i64 z8)] [rdB b q8] (by rw [hs]; rfl) rfl ?_
                      clear hs q8a q8b z8a z8b
                      revert s5 q8 z8
                      exact K4.get
          · refine nx_op PW 0 rfl rfl ?_
            refine phl PW 0 [1, 3] [] [] rfl rfl trivial ⟨?_, ?_, trivial⟩
            · refine nx_op PW 0 rfl rfl ?_
              refine phl PW 0 [3] [] [] rfl rfl trivial ⟨?_, trivial⟩
              · refine nx_callM PW [(0, 0)] rfl (pick32_ok b q5 2 hb (by omega) (by omega) (by unfold InI; omega)) ⟨rfl, trivial⟩ rfl rfl rfl ?_
                rintro _ _ ⟨q6, rfl, q6a, q6b, z6, rfl, z6a, z6b⟩
                refine ⟨_, _, rfl, rfl, ?_⟩
                obtain rfl | rfl : z6 = 0 ∨ z6 = 1 := by omega
                · refine phl PW 0 [9] [] [] rfl rfl trivial ⟨?_, trivial⟩
                  · refine nx_callM PW [(0, 0)] rfl (pick32_ok b q6 8 hb (by omega) (by omega) (by unfold InI; omega)) ⟨rfl, trivial⟩ rfl rfl rfl ?_
                    rintro _ _ ⟨q7, rfl, q7a, q7b, z7, rfl, z7a, z7b⟩
                    refine ⟨_, _, rfl, rfl, ?_⟩
                    have hX := X8_in z7 (by omega) (by omega)
                    have hX' : 0 ≤ ([0, 1, 5, 30, 399, 400, 401, 1000] : List Int).getD (addN 0 z7.toNat) 0 ∧ ([0, 1, 5, 30, 399, 400, 401, 1000] : List Int).getD (addN 0 z7.toNat) 0 ≤ 60000 := hX
                    have hz : addN 0 z7.toNat = z7.toNat := addN0 _
                    refine phl PW 0 [14] [] [.fi .i64 (dig (X8 z7).toNat)] rfl rfl ⟨(ko (X8 z7) hX.1 hX.2).at rfl _, trivial⟩ ⟨?_, trivial⟩ (hp := by simp only [AllP, Holds, Option.getD, List.length_cons, List.length_nil, true_and, and_true]; omega)
                    · refine nx_call PW rfl ((kt (X8 z7) hX.1 hX.2).at rfl _) ?_
                      rintro _ _ ⟨rfl, s6, rfl, l6⟩
                      refine ⟨_, rfl, ?_⟩
                      refine phe PW 0 [] [] rfl trivial rfl ?_
                      refine cm W 0 [(0, 0)] rfl (pick32_ok b q7 20 hb (by omega) (by omega) (by unfold InI; omega)) ⟨rfl, trivial⟩ rfl rfl rfl ?_
                      rintro _ _ ⟨q8, rfl, q8a, q8b, z8, rfl, z8a, z8b⟩
                      refine ⟨_, _, rfl, rfl, ?_⟩
                      refine go_drop 1 [0, 3, 63] rfl rfl rfl rfl (by first | exact True.intro | (simp only [AllC, AllP, addN, Int.toNat_natCast, true_and, and_true, Option.getD, List.length_set, wrapU, pw1, pw7, pw8, pw16, pw23, pw32, pw52, Holds] <;> first | omega | ((repeat' apply And.intro) <;> first | omega | (intros; rfl))) | (simp [AllC, AllP, addN, cloL, clo, mrgL, mrg, wrapU, Holds] <;> omega)) ?_
                      obtain ⟨s5, hs⟩ : ∃ s5, s5 = s4 ++ [101] ++ s6 := ⟨_, rfl⟩
                      have g : (p ≤ q8 ∧ q8 ≤ p + 900) ∧ s5.length ≤ 2660 ∧ 0 ≤ z8 ∧ z8 < 20 := ⟨⟨by omega, by omega⟩, by rw [hs]; simp; omega, by omega, by omega⟩
                      refine go_state [0, 3, 63] [(0, .ptr 0 0 0 0), (3, .str s5), (63, .int .i64 z8)] [rdB b q8] (by rw [hs]; rfl) rfl ?_
                      clear hs q8a q8b z8a z8b
                      revert s5 q8 z8
                      exact K4.get
                · refine phl PW 0 [9] [] [] rfl rfl trivial ⟨?_, trivial⟩
                  · refine nx_callM PW [(0, 0)] rfl (pick32_ok b q6 8 hb (by omega) (by omega) (by unfold InI; omega)) ⟨rfl, trivial⟩ rfl rfl rfl ?_
                    rintro _ _ ⟨q7, rfl, q7a, q7b, z7, rfl, z7a, z7b⟩
                    refine ⟨_, _, rfl, rfl, ?_⟩
                    have hX := X8_in z7 (by omega) (by omega)
                    have hX' : 0 ≤ ([0, 1, 5, 30, 399, 400, 401, 1000] : List Int).getD (addN 0 z7.toNat) 0 ∧ ([0, 1, 5, 30, 399, 400, 401, 1000] : List Int).getD (addN 0 z7.toNat) 0 ≤ 60000 := hX
                    have hz : addN 0 z7.toNat = z7.toNat := addN0 _
                    refine phl PW 0 [14] [] [.fi .i64 (dig (X8 z7).toNat)] rfl rfl ⟨(ko (X8 z7) hX.1 hX.2).at rfl _, trivial⟩ ⟨?_, trivial⟩ (hp := by simp only [AllP, Holds, Option.getD, List.length_cons, List.length_nil, true_and, and_true]; omega)
                    · refine nx_call PW rfl ((kt (X8 z7) hX.1 hX.2).at rfl _) ?_
                      rintro _ _ ⟨rfl, s6, rfl, l6⟩
                      refine ⟨_, rfl, ?_⟩
                      refine phe PW 0 [] [] rfl trivial rfl ?_
                      refine cm W 0 [(0, 0)] rfl (pick32_ok b q7 20 hb (by omega) (by omega) (by unfold InI; omega)) ⟨rfl, trivial⟩ rfl rfl rfl ?_
                      rintro _ _ ⟨q8, rfl, q8a, q8b, z8, rfl, z8a, z8b⟩
                      refine ⟨_, _, rfl, rfl, ?_⟩
                      refine go_drop 1 [0, 3, 63] rfl rfl rfl rfl (by first | exact True.intro | (simp only [AllC, AllP, addN, Int.toNat_natCast, true_and, and_true, Option.getD, List.length_set, wrapU, pw1, pw7, pw8, pw16, pw23, pw32, pw52, Holds] <;> first | omega | ((repeat' apply And.intro) <;> first | omega | (intros; rfl))) | (simp [AllC, AllP, addN, cloL, clo, mrgL, mrg, wrapU, Holds] <;> omega)) ?_
                      obtain ⟨s5, hs⟩ : ∃ s5, s5 = s4 ++ [101, 45] ++ s6 := ⟨_, rfl⟩
                      have g : (p ≤ q8 ∧ q8 ≤ p + 900) ∧ s5.length ≤ 2660 ∧ 0 ≤ z8 ∧ z8 < 20 := ⟨⟨by omega, by omega⟩, by rw [hs]; simp; omega, by omega, by omega⟩
                      refine go_state [0, 3, 63] [(0, .ptr 0 0 0 0), (3, .str s5), (63, .int .i64 z8)] [rdB b q8] (by rw [hs]; rfl) rfl ?_
                      clear hs q8a q8b z8a z8b
                      revert s5 q8 z8
                      exact K4.get
            · refine nx_callM PW [(0, 0)] rfl (pick32_ok b q5 2 hb (by omega) (by omega) (by unfold InI; omega)) ⟨rfl, trivial⟩ rfl rfl rfl ?_
              rintro _ _ ⟨q6, rfl, q6a, q6b, z6, rfl, z6a, z6b⟩
              refine ⟨_, _, rfl, rfl, ?_⟩
              obtain rfl | rfl : z6 = 0 ∨ z6 = 1 := by omega
              · refine phl PW 0 [1, 9] [] [] rfl rfl trivial ⟨?_, ?_, trivial⟩
                · refine nx_op PW 0 rfl rfl ?_
                  refine phl PW 0 [9] [] [] rfl rfl trivial ⟨?_, trivial⟩
                  · refine nx_callM PW [(0, 0)] rfl (pick32_ok b q6 8 hb (by omega) (by omega) (by unfold InI; omega)) ⟨rfl, trivial⟩ rfl rfl rfl ?_
                    rintro _ _ ⟨q7, rfl, q7a, q7b, z7, rfl, z7a, z7b⟩
                    refine ⟨_, _, rfl, rfl, ?_⟩
                    have hX := X8_in z7 (by omega) (by omega)
                    have hX' : 0 ≤ ([0, 1, 5, 30, 399, 400, 401, 1000] : List Int).getD (addN 0 z7.toNat) 0 ∧ ([0, 1, 5, 30, 399, 400, 401, 1000] : List Int).getD (addN 0 z7.toNat) 0 ≤ 60000 := hX
                    have hz : addN 0 z7.toNat = z7.toNat := addN0 _
                    refine phl PW 0 [14] [] [.fi .i64 (dig (X8 z7).toNat)] rfl rfl ⟨(ko (X8 z7) hX.1 hX.2).at rfl _, trivial⟩ ⟨?_, trivial⟩ (hp := by simp only [AllP, Holds, Option.getD, List.length_cons, List.length_nil, true_and, and_true]; omega)
                    · refine nx_call PW rfl ((kt (X8 z7) hX.1 hX.2).at rfl _) ?_
                      rintro _ _ ⟨rfl, s6, rfl, l6⟩
                      refine ⟨_, rfl, ?_⟩
                      refine phe PW 0 [] [] rfl trivial rfl ?_
                      refine cm W 0 [(0, 0)] rfl (pick32_ok b q7 20 hb (by omega) (by omega) (by unfold InI; omega)) ⟨rfl, trivial⟩ rfl rfl rfl ?_
                      rintro _ _ ⟨q8, rfl, q8a, q8b, z8, rfl, z8a, z8b⟩
                      refine ⟨_, _, rfl, rfl, ?_⟩
                      refine go_drop 1 [0, 3, 63] rfl rfl rfl rfl (by first | exact True.intro | (simp only [AllC, AllP, addN, Int.toNat_natCast, true_and, and_true, Option.getD, List.length_set, wrapU, pw1, pw7, pw8, pw16, pw23, pw32, pw52, Holds] <;> first | omega | ((repeat' apply And.intro) <;> first | omega | (intros; rfl))) | (simp [AllC, AllP, addN, cloL, clo, mrgL, mrg, wrapU, Holds] <;> omega)) ?_
                      obtain ⟨s5, hs⟩ : ∃ s5, s5 = s4 ++ [101] ++ s6 := ⟨_, rfl⟩
                      have g : (p ≤ q8 ∧ q8 ≤ p + 900) ∧ s5.length ≤ 2660 ∧ 0 ≤ z8 ∧ z8 < 20 := ⟨⟨by omega, by omega⟩, by rw [hs]; simp; omega, by omega, by omega⟩
                      refine go_state [0, 3, 63] [(0, .ptr 0 0 0 0), (3, .str s5), (63, .int .i64 z8)] [rdB b q8] (by rw [hs]; rfl) rfl ?_
                      clear hs q8a q8b z8a z8b
                      revert s5 q8 z8
                      exact K4.get
                · refine nx_callM PW [(0, 0)] rfl (pick32_ok b q6 8 hb (by omega) (by omega) (by unfold InI; omega)) ⟨rfl, trivial⟩ rfl rfl rfl ?_
                  rintro _ _ ⟨q7, rfl, q7a, q7b, z7, rfl, z7a, z7b⟩
                  refine ⟨_, _, rfl, rfl, ?_⟩
                  have hX := X8_in z7 (by omega) (by omega)
                  have hX' : 0 ≤ ([0, 1, 5, 30, 399, 400, 401, 1000] : List Int).getD (addN 0 z7.toNat) 0 ∧ ([0, 1, 5, 30, 399, 400, 401, 1000] : List Int).getD (addN 0 z7.toNat) 0 ≤ 60000 := hX
                  have hz : addN 0 z7.toNat = z7.toNat := addN0 _
                  refine phl PW 0 [1, 14] [] [.fi .i64 (dig (X8 z7).toNat)] rfl rfl ⟨(ko (X8 z7) hX.1 hX.2).at rfl _, trivial⟩ ⟨?_, ?_, trivial⟩ (hp := by simp only [AllP, Holds, Option.getD, List.length_cons, List.length_nil, true_and, and_true]; omega)
                  · refine nx_op PW 0 rfl rfl ?_
                    refine phl PW 0 [14] [] [.fi .i64 (dig (X8 z7).toNat)] rfl rfl ⟨(ko (X8 z7) hX.1 hX.2).at rfl _, trivial⟩ ⟨?_, trivial⟩ (hp := by simp only [AllP, Holds, Option.getD, List.length_cons, List.length_nil, true_and, and_true]; omega)
                    · refine nx_call PW rfl ((kt (X8 z7) hX.1 hX.2).at rfl _) ?_
                      rintro _ _ ⟨rfl, s6, rfl, l6⟩
                      refine ⟨_, rfl, ?_⟩
                      refine phe PW 0 [] [] rfl trivial rfl ?_
                      refine cm W 0 [(0, 0)] rfl (pick32_ok b q7 20 hb (by omega) (by omega) (by unfold InI; omega)) ⟨rfl, trivial⟩ rfl rfl rfl ?_
                      rintro _ _ ⟨q8, rfl, q8a, q8b, z8, rfl, z8a, z8b⟩
                      refine ⟨_, _, rfl, rfl, ?_⟩
                      refine go_drop 1 [0, 3, 63] rfl rfl rfl rfl (by first | exact True.intro | (simp only [AllC, AllP, addN, Int.toNat_natCast, true_and, and_true, Option.getD, List.length_set, wrapU, pw1, pw7, pw8, pw16, pw23, pw32, pw52, Holds] <;> first | omega | ((repeat' apply And.intro) <;> first | omega | (intros; rfl))) | (simp [AllC, AllP, addN, cloL, clo, mrgL, mrg, wrapU, Holds] <;> omega)) ?_
                      obtain ⟨s5, hs⟩ : ∃ s5, s5 = s4 ++ [101] ++ s6 := ⟨_, rfl⟩
                      have g : (p ≤ q8 ∧ q8 ≤ p + 900) ∧ s5.length ≤ 2660 ∧ 0 ≤ z8 ∧ z8 < 20 := ⟨⟨by omega, by omega⟩, by rw [hs]; simp; omega, by omega, by omega⟩
                      refine go_state [0, 3, 63] [(0, .ptr 0 0 0 0), (3, .str s5), (63, .int .i64 z8)] [rdB b q8] (by rw [hs]; rfl) rfl ?_
                      clear hs q8a q8b z8a z8b
                      revert s5 q8 z8
                      exact K4.get
                  · refine nx_call PW rfl ((kt (X8 z7) hX.1 hX.2).at rfl _) ?_
                    rintro _ _ ⟨rfl, s6, rfl, l6⟩
                    refine ⟨_, rfl, ?_⟩
                    refine phl PW 0 [1] [] [] rfl rfl trivial ⟨?_, trivial⟩
                    · refine nx_op PW 0 rfl rfl ?_
                      refine phe PW 0 [] [] rfl trivial rfl ?_
                      refine cm W 0 [(0, 0)] rfl (pick32_ok b q7 20 hb (by omega) (by omega) (by unfold InI; omega)) ⟨rfl, trivial⟩ rfl rfl rfl ?_
                      rintro _ _ ⟨q8, rfl, q8a, q8b, z8, rfl, z8a, z8b⟩
                      refine ⟨_, _, rfl, rfl, ?_⟩
                      refine go_drop 1 [0, 3, 63] rfl rfl rfl rfl (by first | exact True.intro | (simp only [AllC, AllP, addN, Int.toNat_natCast, true_and, and_true, Option.getD, List.length_set, wrapU, pw1, pw7, pw8, pw16, pw23, pw32, pw52, Holds] <;> first | omega | ((repeat' apply And.intro) <;> first | omega | (intros; rfl))) | (simp [AllC, AllP, addN, cloL, clo, mrgL, mrg, wrapU, Holds] <;> omega)) ?_
                      obtain ⟨s5, hs⟩ : ∃ s5, s5 = s4 ++ [101] ++ s6 := ⟨_, rfl⟩
                      have g : (p ≤ q8 ∧ q8 ≤ p + 900) ∧ s5.length ≤ 2660 ∧ 0 ≤ z8 ∧ z8 < 20 := ⟨⟨by omega, by omega⟩, by rw [hs]; simp; omega, by omega, by omega⟩
                      refine go_state [0, 3, 63] [(0, .ptr 0 0 0 0), (3, .str s5), (63, .int .i64 z8)] [rdB b q8] (by rw [hs]; rfl) rfl ?_
                      clear hs q8a q8b z8a z8b
                      revert s5 q8 z8
                      exact K4.get
              · refine phl PW 0 [1, 9] [] [] rfl rfl trivial ⟨?_, ?_, trivial⟩
                · refine nx_op PW 0 rfl rfl ?_
                  refine phl PW 0 [9] [] [] rfl rfl trivial ⟨?_, trivial⟩
                  · refine nx_callM PW [(0, 0)] rfl (pick32_ok b q6 8 hb (by omega) (by omega) (by unfold InI; omega)) ⟨rfl, trivial⟩ rfl rfl rfl ?_
                    rintro _ _ ⟨q7, rfl, q7a, q7b, z7, rfl, z7a, z7b⟩
                    refine ⟨_, _, rfl, rfl, ?_⟩
                    have hX := X8_in z7 (by omega) (by omega)
                    have hX' : 0 ≤ ([0, 1, 5, 30, 399, 400, 401, 1000] : List Int).getD (addN 0 z7.toNat) 0 ∧ ([0, 1, 5, 30, 399, 400, 401, 1000] : List Int).getD (addN 0 z7.toNat) 0 ≤ 60000 := hX
                    have hz : addN 0 z7.toNat = z7.toNat := addN0 _
                    refine phl PW 0 [14] [] [.fi .i64 (dig (X8 z7).toNat)] rfl rfl ⟨(ko (X8 z7) hX.1 hX.2).at rfl _, trivial⟩ ⟨?_, trivial⟩ (hp := by simp only [AllP, Holds, Option.getD, List.length_cons, List.length_nil, true_and, and_true]; omega)
                    · refine nx_call PW rfl ((kt (X8 z7) hX.1 hX.2).at rfl _) ?_
                      rintro _ _ ⟨rfl, s6, rfl, l6⟩
                      refine ⟨_, rfl, ?_⟩
                      refine phe PW 0 [] [] rfl trivial rfl ?_
                      refine cm W 0 [(0, 0)] rfl (pick32_ok b q7 20 hb (by omega) (by omega) (by unfold InI; omega)) ⟨rfl, trivial⟩ rfl rfl rfl ?_
                      rintro _ _ ⟨q8, rfl, q8a, q8b, z8, rfl, z8a, z8b⟩
                      refine ⟨_, _, rfl, rfl, ?_⟩
                      refine go_drop 1 [0, 3, 63] rfl rfl rfl rfl (by first | exact True.intro | (simp only [AllC, AllP, addN, Int.toNat_natCast, true_and, and_true, Option.getD, List.length_set, wrapU, pw1, pw7, pw8, pw16, pw23, pw32, pw52, Holds] <;> first | omega | ((repeat' apply And.intro) <;> first | omega | (intros; rfl))) | (simp [AllC, AllP, addN, cloL, clo, mrgL, mrg, wrapU, Holds] <;> omega)) ?_
                      obtain ⟨s5, hs⟩ : ∃ s5, s5 = s4 ++ [101, 45] ++ s6 := ⟨_, rfl⟩
                      have g : (p ≤ q8 ∧ q8 ≤ p + 900) ∧ s5.length ≤ 2660 ∧ 0 ≤ z8 ∧ z8 < 20 := ⟨⟨by omega, by omega⟩, by rw [hs]; simp; omega, by omega, by omega⟩
                      refine go_state [0, 3, 63] [(0, .ptr 0 0 0 0), (3, .str s5), (63, .int .i64 z8)] [rdB b q8] (by rw [hs]; rfl) rfl ?_
                      clear hs q8a q8b z8a z8b
                      revert s5 q8 z8
                      exact K4.get
                · refine nx_callM PW [(0, 0)] rfl (pick32_ok b q6 8 hb (by omega) (by omega) (by unfold InI; omega)) ⟨rfl, trivial⟩ rfl rfl rfl ?_
                  rintro _ _ ⟨q7, rfl, q7a, q7b, z7, rfl, z7a, z7b⟩
                  refine ⟨_, _, rfl, rfl, ?_⟩
                  have hX := X8_in z7 (by omega) (by omega)
                  have hX' : 0 ≤ ([0, 1, 5, 30, 399, 400, 401, 1000] : List Int).getD (addN 0 z7.toNat) 0 ∧ ([0, 1, 5, 30, 399, 400, 401, 1000] : List Int).getD (addN 0 z7.toNat) 0 ≤ 60000 := hX
                  have hz : addN 0 z7.toNat = z7.toNat := addN0 _
                  refine phl PW 0 [1, 14] [] [.fi .i64 (dig (X8 z7).toNat)] rfl rfl ⟨(ko (X8 z7) hX.1 hX.2).at rfl _, trivial⟩ ⟨?_, ?_, trivial⟩ (hp := by simp only [AllP, Holds, Option.getD, List.length_cons, List.length_nil, true_and, and_true]; omega)
                  · refine nx_op PW 0 rfl rfl ?_
                    refine phl PW 0 [14] [] [.fi .i64 (dig (X8 z7).toNat)] rfl rfl ⟨(ko (X8 z7) hX.1 hX.2).at rfl _, trivial⟩ ⟨?_, trivial⟩ (hp := by simp only [AllP, Holds, Option.getD, List.length_cons, List.length_nil, true_and, and_true]; omega)
                    · refine nx_call PW rfl ((kt (X8 z7) hX.1 hX.2).at rfl _) ?_
                      rintro _ _ ⟨rfl, s6, rfl, l6⟩
                      refine ⟨_, rfl, ?_⟩
                      refine phe PW 0 [] [] rfl trivial rfl ?_
                      refine cm W 0 [(0, 0)] rfl (pick32_ok b q7 20 hb (by omega) (by omega) (by unfold InI; omega)) ⟨rfl, trivial⟩ rfl rfl rfl ?_
                      rintro _ _ ⟨q8, rfl, q8a, q8b, z8, rfl, z8a, z8b⟩
                      refine ⟨_, _, rfl, rfl, ?_⟩
                      refine go_drop 1 [0, 3, 63] rfl rfl rfl rfl (by first | exact True.intro | (simp only [AllC, AllP, addN, Int.toNat_natCast, true_and, and_true, Option.getD, List.length_set, wrapU, pw1, pw7, pw8, pw16, pw23, pw32, pw52, Holds] <;> first | omega | ((repeat' apply And.intro) <;> first | omega | (intros; rfl))) | (simp [AllC, AllP, addN, cloL, clo, mrgL, mrg, wrapU, Holds] <;> omega)) ?_
                      obtain ⟨s5, hs⟩ : ∃ s5, s5 = s4 ++ [101, 45] ++ s6 := ⟨_, rfl⟩
                      have g : (p ≤ q8 ∧ q8 ≤ p + 900) ∧ s5.length ≤ 2660 ∧ 0 ≤ z8 ∧ z8 < 20 := ⟨⟨by omega, by omega⟩, by rw [hs]; simp; omega, by omega, by omega⟩
                      refine go_state [0, 3, 63] [(0, .ptr 0 0 0 0), (3, .str s5), (63, .int .i64 z8)] [rdB b q8] (by rw [hs]; rfl) rfl ?_
                      clear hs q8a q8b z8a z8b
                      revert s5 q8 z8
                      exact K4.get
                  · refine nx_call PW rfl ((kt (X8 z7) hX.1 hX.2).at rfl _) ?_
                    rintro _ _ ⟨rfl, s6, rfl, l6⟩
                    refine ⟨_, rfl, ?_⟩
                    refine phl PW 0 [1] [] [] rfl rfl trivial ⟨?_, trivial⟩
                    · refine nx_op PW 0 rfl rfl ?_
                      refine phe PW 0 [] [] rfl trivial rfl ?_
                      refine cm W 0 [(0, 0)] rfl (pick32_ok b q7 20 hb (by omega) (by omega) (by unfold InI; omega)) ⟨rfl, trivial⟩ rfl rfl rfl ?_
                      rintro _ _ ⟨q8, rfl, q8a, q8b, z8, rfl, z8a, z8b⟩
                      refine ⟨_, _, rfl, rfl, ?_⟩
                      refine go_drop 1 [0, 3, 63] rfl rfl rfl rfl (by first | exact True.intro | (simp only [AllC, AllP, addN, Int.toNat_natCast, true_and, and_true, Option.getD, List.length_set, wrapU, pw1, pw7, pw8, pw16, pw23, pw32, pw52, Holds] <;> first | omega | ((repeat' apply And.intro) <;> first | omega | (intros; rfl))) | (simp [AllC, AllP, addN, cloL, clo, mrgL, mrg, wrapU, Holds] <;> omega)) ?_
                      obtain ⟨s5, hs⟩ : ∃ s5, s5 = s4 ++ [101, 45] ++ s6 := ⟨_, rfl⟩
                      have g : (p ≤ q8 ∧ q8 ≤ p + 900) ∧ s5.length ≤ 2660 ∧ 0 ≤ z8 ∧ z8 < 20 := ⟨⟨by omega, by omega⟩, by rw [hs]; simp; omega, by omega, by omega⟩
                      refine go_state [0, 3, 63] [(0, .ptr 0 0 0 0), (3, .str s5), (63, .int .i64 z8)] [rdB b q8] (by rw [hs]; rfl) rfl ?_
                      clear hs q8a q8b z8a z8b
                      revert s5 q8 z8
                      exact K4.get
        · skip
          refine cm W 0 [(0, 0)] rfl (pick32_ok b q5 20 hb (by omega) (by omega) (by unfold InI; omega)) ⟨rfl, trivial⟩ rfl rfl rfl ?_
          rintro _ _ ⟨q8, rfl, q8a, q8b, z8, rfl, z8a, z8b⟩
          refine ⟨_, _, rfl, rfl, ?_⟩
          have g : (p ≤ q8 ∧ q8 ≤ p + 900) ∧ s4.length ≤ 2660 ∧ 0 ≤ z8 ∧ z8 < 20 := ⟨⟨by omega, by omega⟩, by omega, by omega, by omega⟩
          obtain ⟨s5, hs⟩ : ∃ s5, s5 = s4 := ⟨_, rfl⟩
          rw [← hs] at g
          refine go_state [0, 3, 63] [(0, .ptr 0 0 0 0), (3, .str s5), (63, .int .i64 z8)] [rdB b q8] (by rw [hs]; rfl) rfl ?_
          clear hs q8a q8b z8a z8b
          revert s5 q8 z8
          exact K4.get
      case k4 =>
        intro q8 z8 s5 ⟨⟨ta, tb⟩, tl, tza, tzb⟩
        refine sp W 0 rfl rfl rfl (fun f1 => ?_) (fun f1 => ?_)
        · refine rm W 0 [rdB b q8] rfl rfl rfl ⟨rfl, trivial⟩ rfl rfl (.str ([48] ++ s5)) rfl (.refl) (⟨q8, rfl, by omega, by omega, _, rfl, by simp; omega⟩)
        refine sp W 0 rfl rfl rfl (fun f2 => ?_) (fun f2 => ?_)
        · skip
          refine cm W 0 [(0, 0)] rfl (pick32_ok b q8 8 hb (by omega) (by omega) (by unfold InI; omega)) ⟨rfl, trivial⟩ rfl rfl rfl ?_
          rintro _ _ ⟨q9, rfl, q9a, q9b, z9, rfl, z9a, z9b⟩
          refine ⟨_, _, rfl, rfl, ?_⟩
          obtain rfl | rfl | rfl | rfl | rfl | rfl | rfl | rfl : z9 = 0 ∨ z9 = 1 ∨ z9 = 2 ∨ z9 = 3 ∨ z9 = 4 ∨ z9 = 5 ∨ z9 = 6 ∨ z9 = 7 := by omega
          · refine rm W 0 [rdB b q9] rfl rfl rfl ⟨rfl, trivial⟩ rfl rfl (.str (s5 ++ [46])) rfl (.refl) (⟨q9, rfl, by omega, by omega, _, rfl, by simp; try omega⟩)
          · refine rm W 0 [rdB b q9] rfl rfl rfl ⟨rfl, trivial⟩ rfl rfl (.str (s5 ++ [101])) rfl (.refl) (⟨q9, rfl, by omega, by omega, _, rfl, by simp; try omega⟩)
          · refine rm W 0 [rdB b q9] rfl rfl rfl ⟨rfl, trivial⟩ rfl rfl (.str (s5 ++ [120])) rfl (.refl) (⟨q9, rfl, by omega, by omega, _, rfl, by simp; try omega⟩)
          · refine rm W 0 [rdB b q9] rfl rfl rfl ⟨rfl, trivial⟩ rfl rfl (.str (s5 ++ [32])) rfl (.refl) (⟨q9, rfl, by omega, by omega, _, rfl, by simp; try omega⟩)
          · refine rm W 0 [rdB b q9] rfl rfl rfl ⟨rfl, trivial⟩ rfl rfl (.str (s5 ++ [46, 53])) rfl (.refl) (⟨q9, rfl, by omega, by omega, _, rfl, by simp; try omega⟩)
          · refine rm W 0 [rdB b q9] rfl rfl rfl ⟨rfl, trivial⟩ rfl rfl (.str (s5 ++ [101, 43, 49])) rfl (.refl) (⟨q9, rfl, by omega, by omega, _, rfl, by simp; try omega⟩)
          · refine rm W 0 [rdB b q9] rfl rfl rfl ⟨rfl, trivial⟩ rfl rfl (.str (s5 ++ [101, 45, 48])) rfl (.refl) (⟨q9, rfl, by omega, by omega, _, rfl, by simp; try omega⟩)
          · refine rm W 0 [rdB b q9] rfl rfl rfl ⟨rfl, trivial⟩ rfl rfl (.str (s5 ++ [101, 48, 53])) rfl (.refl) (⟨q9, rfl, by omega, by omega, _, rfl, by simp; try omega⟩)
        refine sp W 0 rfl rfl rfl (fun f3 => ?_) (fun f3 => ?_)
        · skip
          refine cm W 0 [(0, 0)] rfl (pick32_ok b q8 8 hb (by omega) (by omega) (by unfold InI; omega)) ⟨rfl, trivial⟩ rfl rfl rfl ?_
          rintro _ _ ⟨q9, rfl, q9a, q9b, z9, rfl, z9a, z9b⟩
          refine ⟨_, _, rfl, rfl, ?_⟩
          obtain rfl | rfl | rfl | rfl | rfl | rfl | rfl | rfl : z9 = 0 ∨ z9 = 1 ∨ z9 = 2 ∨ z9 = 3 ∨ z9 = 4 ∨ z9 = 5 ∨ z9 = 6 ∨ z9 = 7 := by omega
          · refine rm W 0 [rdB b q9] rfl rfl rfl ⟨rfl, trivial⟩ rfl rfl (.str ([])) rfl (.refl) (⟨q9, rfl, by omega, by omega, _, rfl, by simp; try omega⟩)
          · refine rm W 0 [rdB b q9] rfl rfl rfl ⟨rfl, trivial⟩ rfl rfl (.str ([46, 53])) rfl (.refl) (⟨q9, rfl, by omega, by omega, _, rfl, by simp; try omega⟩)
          · refine rm W 0 [rdB b q9] rfl rfl rfl ⟨rfl, trivial⟩ rfl rfl (.str ([49, 46])) rfl (.refl) (⟨q9, rfl, by omega, by omega, _, rfl, by simp; try omega⟩)
          · refine rm W 0 [rdB b q9] rfl rfl rfl ⟨rfl, trivial⟩ rfl rfl (.str ([45, 49])) rfl (.refl) (⟨q9, rfl, by omega, by omega, _, rfl, by simp; try omega⟩)
          · refine rm W 0 [rdB b q9] rfl rfl rfl ⟨rfl, trivial⟩ rfl rfl (.str ([49, 101])) rfl (.refl) (⟨q9, rfl, by omega, by omega, _, rfl, by simp; try omega⟩)
          · refine rm W 0 [rdB b q9] rfl rfl rfl ⟨rfl, trivial⟩ rfl rfl (.str ([49, 46, 101, 53])) rfl (.refl) (⟨q9, rfl, by omega, by omega, _, rfl, by simp; try omega⟩)
          · refine rm W 0 [rdB b q9] rfl rfl rfl ⟨rfl, trivial⟩ rfl rfl (.str ([101, 53])) rfl (.refl) (⟨q9, rfl, by omega, by omega, _, rfl, by simp; try omega⟩)
          · refine rm W 0 [rdB b q9] rfl rfl rfl ⟨rfl, trivial⟩ rfl rfl (.str ([49, 46, 46, 50])) rfl (.refl) (⟨q9, rfl, by omega, by omega, _, rfl, by simp; try omega⟩)
        · refine rm W 0 [rdB b q8] rfl rfl rfl ⟨rfl, trivial⟩ rfl rfl (.str s5) rfl (.refl) (⟨q8, rfl, by omega, by omega, _, rfl, by omega⟩)
theorem drawDecFrac_ok (b : List Int) (hb : ∀ x ∈ b, 0 ≤ x ∧ x ≤ 255) : AFunP Tryz.prog 5 [.fi .u8 b] (fun u => ∃ s : List UInt8, u = .str s ∧ s.length ≤ 3000) := by
  refine afun_of Tryz.func5 Tryz.call5 rfl Tryz.ntmps5 rfl ?_
  have W : Walk Tryz.prog TT 5 _ := Walk.of TT_ok Tryz.func5 Tryz.results5
  refine cx W 0 rfl rfl (l32Open_ok b hb) (OpenQ.flat) ?_
  rintro _ _ ⟨rfl, c, rfl, hc⟩
  refine ⟨_, _, rfl, rfl, ?_⟩
  refine cm W 0 [(0, 0)] rfl (literal32_ok c 0 hc (by omega) (by omega)) ⟨rfl, trivial⟩ rfl rfl rfl ?_
  rintro _ _ ⟨p1, rfl, p1a, p1b, ⟨s, rfl, ls⟩⟩
  refine ⟨_, _, rfl, rfl, ?_⟩
  refine rq W 0 rfl rfl (.str s) (⟨_, rfl, by omega⟩) rfl .refl
end Pf
/- The law of literals (FnDec) -/
namespace Pf
open Go Go.Proofs
theorem decText_law {z : Rat} (hs : small z) (hz : ¬ z < 0) : AFunP Tryz.prog 12 [fR z] (DecS z.num.natAbs z.den) := by
  have h := fR_frOk hs
  have e1 : PR z = False := by rw [PR_eq hs]; exact eq_false hz
  rw [e1, TR_eq hs, UR_eq hs] at h
  have k := decText_ok z.num.natAbs z.den h
  rw [fR, e1, TR_eq hs, UR_eq hs]
  exact k
theorem cmpR_nn {z : Rat} (h : ¬ z < 0) : ¬ cmpR z 0 < 0 := by
  unfold cmpR
  rw [if_neg h]
  split <;> omega
theorem small10 : small 10 := by
  have h := small_mk (a := 10) (b := 1) (by omega) (by rw [dig_ten]; simp) (by rw [dig_one]; simp)
  rw [ten_rat]
  exact h
theorem fnDec_law (b : List Int) (hb : ∀ x ∈ b, 0 ≤ x ∧ x ≤ 255) : AFunP Tryz.prog 3 [.fi .u8 b] (· = .pr True) := by
  refine afun_of Tryz.func3 Tryz.call3 rfl Tryz.ntmps3 rfl ?_
  have W : Walk Tryz.prog TT 3 _ := Walk.of TT_ok Tryz.func3 Tryz.results3
  refine sp W 0 rfl rfl rfl (fun h1 => ?_) (fun h1 => ?_)
  · refine rp W 0 rfl rfl rfl (.yes trivial)
  refine cq W 0 rfl rfl (drawDecFrac_ok b hb) ?_
  rintro _ ⟨s, rfl, ls⟩
  refine ⟨_, rfl, ?_⟩
  by_cases hl : litP s ∧ s.length ≤ 60
  · obtain ⟨h, h60⟩ := hl
    have sm := lit_small h h60
    have nn := lit_nonneg s
    refine ce W 0 rfl rfl (decFrac_yes s h h60) rfl ?_
    refine ce W 0 rfl rfl (decOk_ok s (by omega)) rfl ?_
    refine sp W 0 rfl rfl rfl (fun a1 => ?_) (fun a1 => ?_)
    · exact absurd ⟨fun _ => ⟨h, h60⟩, fun _ => sm⟩ a1
    refine ce W 0 rfl rfl (specDecOk_ok s (by omega)) rfl ?_
    refine sp W 0 rfl rfl rfl (fun a2 => ?_) (fun a2 => ?_)
    · exact absurd ⟨fun _ => ⟨h, h60⟩, fun _ => sm⟩ a2
    refine sp W 0 rfl rfl rfl (fun a3 => ?_) (fun a3 => ?_)
    · exact absurd sm a3
    refine atl W rfl ?_
    refine lp W 0 (σ := Nat × AV × AV) (fun t => [(3, .str s), (4, .ptr 0 0 0 0), (6, t.2.1), (7, t.2.2), (8, .int .i64 t.1)]) (fun _ => [.lst 0 [[.pr (PR (litv s)), .fi .i64 (TR (litv s)), .fi .i64 (UR (litv s))]]]) (fun t => s.length - t.1) (fun t => t.1 ≤ s.length ∧ Sub t.2.1 (.pr ((46 : UInt8) ∈ s.take t.1)) ∧ Sub t.2.2 (.pr ((101 : UInt8) ∈ s.take t.1))) (0, .bool false, .bool false) [3, 4, 6, 7, 8] rfl rfl rfl ⟨Nat.zero_le _, .no (by simp), .no (by simp)⟩ ?_
    rintro ⟨i, u, v⟩ ⟨hi, hu, hv⟩ ih
    dsimp only at hi hu hv ih ⊢
    refine go_sub 6 _ rfl hu rfl ?_
    refine go_sub 7 _ rfl hv rfl ?_
    refine sp W 0 rfl rfl rfl (fun b1 => ?_) (fun b1 => ?_)
    · have hi2 : i < s.length := by omega
      have es : s.take (i + 1) = s.take i ++ [s.getD i 0] := by
        rw [List.take_add_one, List.getElem?_eq_getElem hi2, List.getD_eq_getElem?_getD, List.getElem?_eq_getElem hi2]; rfl
      have tr : ∀ {c : UInt8}, c ∈ s.take i → Sub (.bool true) (.pr (c ∈ s.take (i + 1))) := fun hc => .yes (by rw [es]; exact List.mem_append_left _ hc)
      have pr : ∀ {c : UInt8}, ¬ c ∈ s.take i → Sub (.pr (((s.getD (i : Int).toNat 0).toNat : Int) = (c.toNat : Int))) (.pr (c ∈ s.take (i + 1))) := fun hc => .pr (by
        rw [es, Int.toNat_natCast, u8_eq, List.mem_append, List.mem_singleton]
        exact ⟨fun k => .inr k.symm, fun k => k.elim (fun k => absurd k hc) fun k => k.symm⟩)
      refine sp W 0 rfl rfl rfl (fun b2 => ?_) (fun b2 => ?_)
      · refine sp W 0 rfl rfl rfl (fun b3 => ?_) (fun b3 => ?_)
        · refine bd W 0 1 [3, 4, 6, 7, 8] rfl rfl rfl rfl rfl (ih (i + 1, .bool true, .bool true) ⟨by dsimp only; omega, tr b2, tr b3⟩ (by dsimp only; omega))
        · refine bd W 0 1 [3, 4, 6, 7, 8] rfl rfl rfl rfl rfl (ih (i + 1, .bool true, .pr (((s.getD (i : Int).toNat 0).toNat : Int) = 101)) ⟨by dsimp only; omega, tr b2, pr b3⟩ (by dsimp only; omega))
      · refine sp W 0 rfl rfl rfl (fun b3 => ?_) (fun b3 => ?_)
        · refine bd W 0 1 [3, 4, 6, 7, 8] rfl rfl rfl rfl rfl (ih (i + 1, .pr (((s.getD (i : Int).toNat 0).toNat : Int) = 46), .bool true) ⟨by dsimp only; omega, pr b2, tr b3⟩ (by dsimp only; omega))
        · refine bd W 0 1 [3, 4, 6, 7, 8] rfl rfl rfl rfl rfl (ih (i + 1, .pr (((s.getD (i : Int).toNat 0).toNat : Int) = 46), .pr (((s.getD (i : Int).toNat 0).toNat : Int) = 101)) ⟨by dsimp only; omega, pr b2, pr b3⟩ (by dsimp only; omega))
    · have et : s.take i = s := List.take_of_length_le (by omega)
      rw [et]
      refine sp W 0 rfl rfl rfl (fun d1 => ?_) (fun d1 => ?_)
      · have n101 : (101 : UInt8) ∉ s := d1
        refine sp W 0 rfl rfl rfl (fun d2 => ?_) (fun d2 => ?_)
        · obtain ⟨q1, q2⟩ := lit_e1 h n101
          have ke := decFrac_yes (s ++ [101, 49]) q1 (by simp; omega)
          have s10 := lit_small q1 (by simp; omega)
          rw [q2] at ke s10
          refine ce W 0 rfl rfl (ke) rfl ?_
          refine phg W 0 8 [6, 7] rfl rfl (fun PW => ?_)
          refine pho PW 0 6 [] [fR 10, resR (litv s * 10)] rfl rfl ⟨implFracInt10_ok.at rfl _, (mulE sm small10).at rfl _, trivial⟩ rfl rfl ?_
          refine pho PW 0 7 [] [fR 10, resR (litv s * 10)] rfl rfl ⟨implFracInt10_ok.at rfl _, (mulE sm small10).at rfl _, trivial⟩ rfl rfl ?_
          refine phe PW 0 [] [] rfl trivial rfl ?_
          refine sp W 0 rfl rfl rfl (fun e1 => ?_) (fun e1 => ?_)
          · exact absurd s10 e1
          refine sp W 0 rfl rfl rfl (fun e2 => ?_) (fun e2 => ?_)
          · exact absurd s10 e2
          refine ce W 0 rfl rfl (pwR (litv s * 10)) rfl ?_
          refine sp W 0 rfl rfl rfl (fun e3 => ?_) (fun e3 => ?_)
          · exact absurd trivial e3
          refine sp W 0 rfl rfl rfl (fun e4 => ?_) (fun e4 => ?_)
          · obtain ⟨q3, q4⟩ := lit_zero h n101 e4
            have kz := decFrac_yes (s ++ [48]) q3 (by simp; omega)
            rw [q4] at kz
            refine ce W 0 rfl rfl (kz) rfl ?_
            refine sp W 0 rfl rfl rfl (fun e5 => ?_) (fun e5 => ?_)
            · exact absurd sm e5
            refine ce W 0 rfl rfl (pwR (litv s)) rfl ?_
            refine sp W 0 rfl rfl rfl (fun e6 => ?_) (fun e6 => ?_)
            · exact absurd trivial e6
            refine cq W 0 rfl rfl (decText_law sm nn) ?_
            intro u0 hu0
            have hz := rat_parts nn
            rcases decS_lit (litv s).den_pos hu0 with ⟨t, rfl, t1, t2, t3⟩ | ⟨rfl, t1⟩
            · refine ⟨_, rfl, ?_⟩
              rw [← hz] at t3
              have kt := decFrac_yes t t1 t2
              rw [t3] at kt
              refine sp W 0 rfl rfl rfl (fun x1 => ?_) (fun x1 => ?_)
              · refine sp W 0 rfl rfl rfl (fun x2 => ?_) (fun x2 => ?_)
                · exact absurd trivial x2
                · refine ce W 0 rfl rfl (signE sm) rfl ?_
                  refine sp W 0 rfl rfl rfl (fun x3 => ?_) (fun x3 => ?_)
                  · exact absurd x3 (cmpR_nn nn)
                  refine sp W 0 rfl rfl rfl (fun x4 => ?_) (fun x4 => ?_)
                  · exact absurd trivial x4
                  refine ce W 0 rfl rfl (kt) rfl ?_
                  refine sp W 0 rfl rfl rfl (fun x5 => ?_) (fun x5 => ?_)
                  · refine ce W 0 rfl rfl (pwR (litv s)) rfl ?_
                    refine rp W 0 rfl rfl rfl (.refl)
                  · exact absurd sm x5
              · refine ce W 0 rfl rfl (signE sm) rfl ?_
                refine sp W 0 rfl rfl rfl (fun x3 => ?_) (fun x3 => ?_)
                · exact absurd x3 (cmpR_nn nn)
                refine sp W 0 rfl rfl rfl (fun x4 => ?_) (fun x4 => ?_)
                · exact absurd trivial x4
                refine ce W 0 rfl rfl (kt) rfl ?_
                refine sp W 0 rfl rfl rfl (fun x5 => ?_) (fun x5 => ?_)
                · refine ce W 0 rfl rfl (pwR (litv s)) rfl ?_
                  refine rp W 0 rfl rfl rfl (.refl)
                · exact absurd sm x5
            · refine ⟨_, rfl, ?_⟩
              rw [← hz] at t1
              refine sp W 0 rfl rfl rfl (fun x1 => ?_) (fun x1 => ?_)
              · exact absurd rfl (t1 s h h60 x1)
              · refine ce W 0 rfl rfl (signE sm) rfl ?_
                refine sp W 0 rfl rfl rfl (fun x3 => ?_) (fun x3 => ?_)
                · exact absurd x3 (cmpR_nn nn)
                refine sp W 0 rfl rfl rfl (fun x4 => ?_) (fun x4 => ?_)
                · refine rp W 0 rfl rfl rfl (.pr ⟨fun _ => trivial, fun _ => rfl⟩)
                · exact absurd (fun k => k) x4
          · skip
            refine cq W 0 rfl rfl (decText_law sm nn) ?_
            intro u0 hu0
            have hz := rat_parts nn
            rcases decS_lit (litv s).den_pos hu0 with ⟨t, rfl, t1, t2, t3⟩ | ⟨rfl, t1⟩
            · refine ⟨_, rfl, ?_⟩
              rw [← hz] at t3
              have kt := decFrac_yes t t1 t2
              rw [t3] at kt
              refine sp W 0 rfl rfl rfl (fun x1 => ?_) (fun x1 => ?_)
              · refine sp W 0 rfl rfl rfl (fun x2 => ?_) (fun x2 => ?_)
                · exact absurd trivial x2
                · refine ce W 0 rfl rfl (signE sm) rfl ?_
                  refine sp W 0 rfl rfl rfl (fun x3 => ?_) (fun x3 => ?_)
                  · exact absurd x3 (cmpR_nn nn)
                  refine sp W 0 rfl rfl rfl (fun x4 => ?_) (fun x4 => ?_)
                  · exact absurd trivial x4
                  refine ce W 0 rfl rfl (kt) rfl ?_
                  refine sp W 0 rfl rfl rfl (fun x5 => ?_) (fun x5 => ?_)
                  · refine ce W 0 rfl rfl (pwR (litv s)) rfl ?_
                    refine rp W 0 rfl rfl rfl (.refl)
                  · exact absurd sm x5
              · refine ce W 0 rfl rfl (signE sm) rfl ?_
                refine sp W 0 rfl rfl rfl (fun x3 => ?_) (fun x3 => ?_)
                · exact absurd x3 (cmpR_nn nn)
                refine sp W 0 rfl rfl rfl (fun x4 => ?_) (fun x4 => ?_)
                · exact absurd trivial x4
                refine ce W 0 rfl rfl (kt) rfl ?_
                refine sp W 0 rfl rfl rfl (fun x5 => ?_) (fun x5 => ?_)
                · refine ce W 0 rfl rfl (pwR (litv s)) rfl ?_
                  refine rp W 0 rfl rfl rfl (.refl)
                · exact absurd sm x5
            · refine ⟨_, rfl, ?_⟩
              rw [← hz] at t1
              refine sp W 0 rfl rfl rfl (fun x1 => ?_) (fun x1 => ?_)
              · exact absurd rfl (t1 s h h60 x1)
              · refine ce W 0 rfl rfl (signE sm) rfl ?_
                refine sp W 0 rfl rfl rfl (fun x3 => ?_) (fun x3 => ?_)
                · exact absurd x3 (cmpR_nn nn)
                refine sp W 0 rfl rfl rfl (fun x4 => ?_) (fun x4 => ?_)
                · refine rp W 0 rfl rfl rfl (.pr ⟨fun _ => trivial, fun _ => rfl⟩)
                · exact absurd (fun k => k) x4
        · skip
          refine cq W 0 rfl rfl (decText_law sm nn) ?_
          intro u0 hu0
          have hz := rat_parts nn
          rcases decS_lit (litv s).den_pos hu0 with ⟨t, rfl, t1, t2, t3⟩ | ⟨rfl, t1⟩
          · refine ⟨_, rfl, ?_⟩
            rw [← hz] at t3
            have kt := decFrac_yes t t1 t2
            rw [t3] at kt
            refine sp W 0 rfl rfl rfl (fun x1 => ?_) (fun x1 => ?_)
            · refine sp W 0 rfl rfl rfl (fun x2 => ?_) (fun x2 => ?_)
              · exact absurd trivial x2
              · refine ce W 0 rfl rfl (signE sm) rfl ?_
                refine sp W 0 rfl rfl rfl (fun x3 => ?_) (fun x3 => ?_)
                · exact absurd x3 (cmpR_nn nn)
                refine sp W 0 rfl rfl rfl (fun x4 => ?_) (fun x4 => ?_)
                · exact absurd trivial x4
                refine ce W 0 rfl rfl (kt) rfl ?_
                refine sp W 0 rfl rfl rfl (fun x5 => ?_) (fun x5 => ?_)
                · refine ce W 0 rfl rfl (pwR (litv s)) rfl ?_
                  refine rp W 0 rfl rfl rfl (.refl)
                · exact absurd sm x5
            · refine ce W 0 rfl rfl (signE sm) rfl ?_
              refine sp W 0 rfl rfl rfl (fun x3 => ?_) (fun x3 => ?_)
              · exact absurd x3 (cmpR_nn nn)
              refine sp W 0 rfl rfl rfl (fun x4 => ?_) (fun x4 => ?_)
              · exact absurd trivial x4
              refine ce W 0 rfl rfl (kt) rfl ?_
              refine sp W 0 rfl rfl rfl (fun x5 => ?_) (fun x5 => ?_)
              · refine ce W 0 rfl rfl (pwR (litv s)) rfl ?_
                refine rp W 0 rfl rfl rfl (.refl)
              · exact absurd sm x5
          · refine ⟨_, rfl, ?_⟩
            rw [← hz] at t1
            refine sp W 0 rfl rfl rfl (fun x1 => ?_) (fun x1 => ?_)
            · exact absurd rfl (t1 s h h60 x1)
            · refine ce W 0 rfl rfl (signE sm) rfl ?_
              refine sp W 0 rfl rfl rfl (fun x3 => ?_) (fun x3 => ?_)
              · exact absurd x3 (cmpR_nn nn)
              refine sp W 0 rfl rfl rfl (fun x4 => ?_) (fun x4 => ?_)
              · refine rp W 0 rfl rfl rfl (.pr ⟨fun _ => trivial, fun _ => rfl⟩)
              · exact absurd (fun k => k) x4
      · skip
        refine cq W 0 rfl rfl (decText_law sm nn) ?_
        intro u0 hu0
        have hz := rat_parts nn
        rcases decS_lit (litv s).den_pos hu0 with ⟨t, rfl, t1, t2, t3⟩ | ⟨rfl, t1⟩
        · refine ⟨_, rfl, ?_⟩
          rw [← hz] at t3
          have kt := decFrac_yes t t1 t2
          rw [t3] at kt
          refine sp W 0 rfl rfl rfl (fun x1 => ?_) (fun x1 => ?_)
          · refine sp W 0 rfl rfl rfl (fun x2 => ?_) (fun x2 => ?_)
            · exact absurd trivial x2
            · refine ce W 0 rfl rfl (signE sm) rfl ?_
              refine sp W 0 rfl rfl rfl (fun x3 => ?_) (fun x3 => ?_)
              · exact absurd x3 (cmpR_nn nn)
              refine sp W 0 rfl rfl rfl (fun x4 => ?_) (fun x4 => ?_)
              · exact absurd trivial x4
              refine ce W 0 rfl rfl (kt) rfl ?_
              refine sp W 0 rfl rfl rfl (fun x5 => ?_) (fun x5 => ?_)
              · refine ce W 0 rfl rfl (pwR (litv s)) rfl ?_
                refine rp W 0 rfl rfl rfl (.refl)
              · exact absurd sm x5
          · refine ce W 0 rfl rfl (signE sm) rfl ?_
            refine sp W 0 rfl rfl rfl (fun x3 => ?_) (fun x3 => ?_)
            · exact absurd x3 (cmpR_nn nn)
            refine sp W 0 rfl rfl rfl (fun x4 => ?_) (fun x4 => ?_)
            · exact absurd trivial x4
            refine ce W 0 rfl rfl (kt) rfl ?_
            refine sp W 0 rfl rfl rfl (fun x5 => ?_) (fun x5 => ?_)
            · refine ce W 0 rfl rfl (pwR (litv s)) rfl ?_
              refine rp W 0 rfl rfl rfl (.refl)
            · exact absurd sm x5
        · refine ⟨_, rfl, ?_⟩
          rw [← hz] at t1
          refine sp W 0 rfl rfl rfl (fun x1 => ?_) (fun x1 => ?_)
          · exact absurd rfl (t1 s h h60 x1)
          · refine ce W 0 rfl rfl (signE sm) rfl ?_
            refine sp W 0 rfl rfl rfl (fun x3 => ?_) (fun x3 => ?_)
            · exact absurd x3 (cmpR_nn nn)
            refine sp W 0 rfl rfl rfl (fun x4 => ?_) (fun x4 => ?_)
            · refine rp W 0 rfl rfl rfl (.pr ⟨fun _ => trivial, fun _ => rfl⟩)
            · exact absurd (fun k => k) x4
  · refine ce W 0 rfl rfl (decFrac_no s (by omega) hl) rfl ?_
    refine ce W 0 rfl rfl (decOk_ok s (by omega)) rfl ?_
    refine sp W 0 rfl rfl rfl (fun a1 => ?_) (fun a1 => ?_)
    · exact absurd ⟨False.elim, hl⟩ a1
    refine ce W 0 rfl rfl (specDecOk_ok s (by omega)) rfl ?_
    refine sp W 0 rfl rfl rfl (fun a2 => ?_) (fun a2 => ?_)
    · exact absurd ⟨False.elim, hl⟩ a2
    refine sp W 0 rfl rfl rfl (fun a3 => ?_) (fun a3 => ?_)
    · refine rp W 0 rfl rfl rfl (.yes trivial)
    · exact absurd a3 (by simp)
end Pf
/- How many parts a node has -/
namespace Pf
open Go Go.Proofs
open Classical in
/-- How many parts a node has; -1: it is none. -/
noncomputable def partsZ (k n : Int) (s : List UInt8) : Int :=
  if k = 1 then (if n = 0 ∧ litP s ∧ s.length ≤ 60 then 0 else -1)
  else if k = 2 then (if n = 0 ∧ wordP s ∧ ¬ s ∈ ownW then 0 else -1)
  else if k = 3 ∨ k = 9 ∨ k = 10 then (if n = 0 ∧ s = [] then 1 else -1)
  else if k = 4 ∨ k = 5 ∨ k = 6 ∨ k = 7 ∨ k = 11 ∨ k = 12 then (if n = 0 ∧ s = [] then 2 else -1)
  else if k = 8 then (if 0 ≤ n ∧ n ≤ 8 ∧ s = [] then 1 else -1)
  else if k = 13 then (if 1 ≤ n ∧ n ≤ 6 ∧ wordP s ∧ ¬ s ∈ ownW then n else -1)
  else -1
end Pf
/- The law of TermOk -/
namespace Pf
open Go Go.Proofs
/-- A node of a term, and terms. -/
abbrev Nd := Int × Int × List UInt8
def nodeV (x : Nd) : AV := .agg [.int .i64 x.1, .int .i64 x.2.1, .str x.2.2]
def nodeR (l : List Nd) (i : Nat) : List AV := [.int .i64 (l.getD i (0, 0, [])).1, .int .i64 (l.getD i (0, 0, [])).2.1, .str (l.getD i (0, 0, [])).2.2]
abbrev termV (l : List Nd) : AV := .agg [.fz l.length (nodeR l)]
noncomputable def pz (x : Nd) : Int := partsZ x.1 x.2.1 x.2.2
/-- How deep the stack is behind the first i nodes; none: a node found too few parts. -/
noncomputable def dep (l : List Nd) : Nat → Option Int
  | 0 => some 0
  | i + 1 => match dep l i with
    | none => none
    | some d => if pz (l.getD i (0, 0, [])) < 0 ∨ d < pz (l.getD i (0, 0, [])) then none else some (d - pz (l.getD i (0, 0, [])) + 1)
def termP (l : List Nd) : Prop := l.length ≤ 100 ∧ dep l l.length = some 1
/-- Each text is no longer than a text may be. -/
def txtOk (l : List Nd) : Prop := ∀ i, i < l.length → (l.getD i (0, 0, [])).2.2.length ≤ 281474976710656
theorem dep_rng {l : List Nd} : ∀ {i : Nat} {d : Int}, dep l i = some d → 0 ≤ d ∧ d ≤ i
  | 0, d, h => by simp only [dep, Option.some.injEq] at h; omega
  | i + 1, d, h => by
    simp only [dep] at h
    split at h
    · cases h
    · rename_i d' hd
      have := dep_rng hd
      split at h
      · cases h
      · cases h
        omega
theorem dep_none {l : List Nd} {i : Nat} (h : dep l i = none) : ∀ {j : Nat}, i ≤ j → dep l j = none := by
  intro j hj
  induction j with
  | zero => rw [show i = 0 by omega] at h; exact h
  | succ j ih =>
    rcases (by omega : i = j + 1 ∨ i ≤ j) with rfl | h2
    · exact h
    · simp only [dep, ih h2]
theorem szNode_ok (x : Nd) (left : Int) (hl : 0 ≤ left ∧ left ≤ 1048576) (hx : x.2.2.length ≤ 9223372036854775807) : AFunP Tryz.prog 77 [nodeV x, .int .i64 left] (· = .int .i64 (if left < x.2.2.length then -1 else left - x.2.2.length)) := by
  unfold nodeV
  refine afun_of Tryz.func77 Tryz.call77 rfl Tryz.ntmps77 rfl ?_
  have W : Walk Tryz.prog TT 77 _ := Walk.of TT_ok Tryz.func77 Tryz.results77
  refine sp W 0 rfl rfl rfl (fun h1 => ?_) (fun h1 => ?_)
  · refine rp W 0 rfl rfl rfl (.int (by rw [if_pos (by omega)]))
  · refine rp W 0 rfl rfl rfl (.int (by rw [if_neg (by omega)]))
theorem toNode_ok (x : Nd) : AFunP Tryz.prog 79 [nodeV x] (· = nodeV x) := by
  unfold nodeV
  refine afun_of Tryz.func79 Tryz.call79 rfl Tryz.ntmps79 rfl ?_
  have W : Walk Tryz.prog TT 79 _ := Walk.of TT_ok Tryz.func79 Tryz.results79
  refine rp W 0 rfl rfl rfl (.refl)
theorem eqNode_ok (x y : Nd) : AFunP Tryz.prog 84 [nodeV x, nodeV y] (· = .pr (x = y)) := by
  unfold nodeV
  refine afun_of Tryz.func84 Tryz.call84 rfl Tryz.ntmps84 rfl ?_
  have W : Walk Tryz.prog TT 84 _ := Walk.of TT_ok Tryz.func84 Tryz.results84
  refine sp W 0 rfl rfl rfl (fun h1 => ?_) (fun h1 => ?_)
  · refine rp W 0 rfl rfl rfl (.no (fun k => by subst k; exact h1 rfl))
  refine sp W 0 rfl rfl rfl (fun h2 => ?_) (fun h2 => ?_)
  · refine rp W 0 rfl rfl rfl (.no (fun k => by subst k; exact h2 rfl))
  refine sp W 0 rfl rfl rfl (fun h3 => ?_) (fun h3 => ?_)
  · refine rp W 0 rfl rfl rfl (.no (fun k => by subst k; exact h3 rfl))
  · refine rp W 0 rfl rfl rfl (.yes (Prod.ext (Classical.not_not.1 h1) (Prod.ext (Classical.not_not.1 h2) (Classical.not_not.1 h3))))
theorem eqNodeS_ok (l m : List Nd) (hl : l.length ≤ 1048576) (hm : m.length ≤ 1048576) : AFunP Tryz.prog 48 [.fz l.length (nodeR l), .fz m.length (nodeR m)] (· = .pr (l = m)) := by
  refine afun_of Tryz.func48 Tryz.call48 rfl Tryz.ntmps48 rfl ?_
  have W : Walk Tryz.prog TT 48 _ := Walk.of TT_ok Tryz.func48 Tryz.results48
  refine sp W 0 rfl rfl rfl (fun h1 => ?_) (fun h1 => ?_)
  · refine rp W 0 rfl rfl rfl (.no (fun k => by subst k; omega))
  have h1 : l.length = m.length := by omega
  refine lp W 0 (σ := Nat) (fun i => [(0, .fz l.length (nodeR l)), (1, .fz m.length (nodeR m)), (5, .int .i64 i)]) (fun _ => []) (fun i => l.length - i) (fun i => i ≤ l.length ∧ ∀ j, j < i → l.getD j (0, 0, []) = m.getD j (0, 0, [])) 0 [0, 1, 5] rfl rfl rfl ⟨Nat.zero_le _, fun j hj => by omega⟩ ?_
  rintro i ⟨hi, he⟩ ih
  refine sp W 0 rfl rfl rfl (fun h2 => ?_) (fun h2 => ?_)
  · have h2 : i < l.length := by omega
    have kq := eqNode_ok (l.getD i (0, 0, [])) (m.getD i (0, 0, []))
    refine dre W 0 10 [] [.pr (l.getD i (0, 0, []) = m.getD i (0, 0, []))] rfl rfl rfl ⟨kq.at rfl _, trivial⟩ rfl ?_
    refine sp W 0 rfl rfl rfl (fun h3 => ?_) (fun h3 => ?_)
    · refine rp W 0 rfl rfl rfl (.no (fun k => by subst k; exact h3 rfl))
    · refine bd W 0 0 [0, 1, 5] rfl rfl rfl rfl rfl (ih (i + 1) ⟨by omega, fun j hj => ?_⟩ (by omega))
      by_cases hji : j = i
      · subst hji; exact Classical.not_not.1 h3
      · exact he j (by omega)
  · have hfin : l = m := List.ext_getElem h1 fun j h3 h4 => by
      have := he j (by omega)
      simpa [List.getD_eq_getElem?_getD, h3, h4] using this
    refine rp W 0 rfl rfl rfl (.yes hfin)
theorem eqTerm_ok (l m : List Nd) (hl : l.length ≤ 1048576) (hm : m.length ≤ 1048576) : AFunP Tryz.prog 19 [termV l, termV m] (· = .pr (l = m)) := by
  refine afun_of Tryz.func19 Tryz.call19 rfl Tryz.ntmps19 rfl ?_
  have W : Walk Tryz.prog TT 19 _ := Walk.of TT_ok Tryz.func19 Tryz.results19
  refine ce W 0 rfl rfl (eqNodeS_ok l m hl hm) rfl ?_
  refine sp W 0 rfl rfl rfl (fun h1 => ?_) (fun h1 => ?_)
  · refine rp W 0 rfl rfl rfl (.no h1)
  · refine rp W 0 rfl rfl rfl (.yes (Classical.not_not.1 h1))
theorem toNodeS_ok (l : List Nd) (hl : l.length ≤ 1048576) : AFunP Tryz.prog 45 [.fz l.length (nodeR l)] (· = .fz l.length (nodeR l)) := by
  refine afun_of Tryz.func45 Tryz.call45 rfl Tryz.ntmps45 rfl ?_
  have W : Walk Tryz.prog TT 45 _ := Walk.of TT_ok Tryz.func45 Tryz.results45
  refine lp W 0 (σ := Nat × (Nat → Int) × (Nat → Int) × (Nat → List UInt8)) (fun s => [(0, .fz l.length (nodeR l)), (3, .sl 0 0 0 l.length), (4, .int .i64 s.1)]) (fun s => [.tab 0 l.length fun j => [.int .i64 (s.2.1 j), .int .i64 (s.2.2.1 j), .str (s.2.2.2 j)]]) (fun s => l.length - s.1) (fun s => s.1 ≤ l.length ∧ ∀ j, j < s.1 → (s.2.1 j, s.2.2.1 j, s.2.2.2 j) = l.getD j (0, 0, [])) (0, fun _ => 0, fun _ => 0, fun _ => []) [0, 3, 4] rfl rfl rfl ⟨Nat.zero_le _, fun j hj => by omega⟩ ?_
  rintro ⟨i, F, G, S⟩ ⟨hi, he⟩ ih
  dsimp only at hi he ih ⊢
  refine sp W 0 rfl rfl rfl (fun h2 => ?_) (fun h2 => ?_)
  · have h2 : i < l.length := by omega
    refine ce W 0 rfl rfl (toNode_ok (l.getD i (0, 0, []))) rfl ?_
    refine bd W 0 1 [0, 3, 4] rfl rfl rfl rfl rfl (ih (i + 1, fun j => if j = i then (l.getD i (0, 0, [])).1 else F j, fun j => if j = i then (l.getD i (0, 0, [])).2.1 else G j, fun j => if j = i then (l.getD i (0, 0, [])).2.2 else S j) ⟨by dsimp only; omega, fun j hj => ?_⟩ (by dsimp only; omega))
    dsimp only at hj ⊢
    by_cases hji : j = i
    · subst hji; rw [if_pos rfl, if_pos rfl, if_pos rfl]
    · rw [if_neg hji, if_neg hji, if_neg hji]; exact he j (by omega)
  · refine rp W 0 rfl rfl rfl (.fzn rfl fun j hj => ?_)
    show [AV.int .i64 (F j), AV.int .i64 (G j), AV.str (S j)] = nodeR l j
    have e := he j (by omega)
    unfold nodeR
    rw [← e]
theorem toTerm_ok (l : List Nd) (hl : l.length ≤ 1048576) : AFunP Tryz.prog 16 [termV l] (· = termV l) := by
  refine afun_of Tryz.func16 Tryz.call16 rfl Tryz.ntmps16 rfl ?_
  have W : Walk Tryz.prog TT 16 _ := Walk.of TT_ok Tryz.func16 Tryz.results16
  refine ce W 0 rfl rfl (toNodeS_ok l hl) rfl ?_
  refine rp W 0 rfl rfl rfl (.refl)
theorem szNodeS_ok (l : List Nd) (left : Int) (hl : 0 ≤ left ∧ left ≤ 1048576) (hm : l.length ≤ 9223372036854775807) (hx : ∀ i, i < l.length → (l.getD i (0, 0, [])).2.2.length ≤ 9223372036854775807) : AFunP Tryz.prog 42 [.fz l.length (nodeR l), .int .i64 left] (fun u => ∃ n, u = .int .i64 n ∧ (0 ≤ n → l.length ≤ left ∧ ∀ i, i < l.length → ((l.getD i (0, 0, [])).2.2.length : Int) ≤ left)) := by
  refine afun_of Tryz.func42 Tryz.call42 rfl Tryz.ntmps42 rfl ?_
  have W : Walk Tryz.prog TT 42 _ := Walk.of TT_ok Tryz.func42 Tryz.results42
  refine sp W 0 rfl rfl rfl (fun h1 => ?_) (fun h1 => ?_)
  · refine rq W 0 rfl rfl (.int .i64 (-1)) (⟨_, rfl, fun k => by omega⟩) rfl .refl
  refine lp W 0 (σ := Nat × Int) (fun s => [(0, .fz l.length (nodeR l)), (1, .int .i64 s.2), (5, .int .i64 s.1)]) (fun _ => []) (fun s => l.length - s.1) (fun s => s.1 ≤ l.length ∧ (0 ≤ s.2 ∧ s.2 ≤ left) ∧ ∀ j, j < s.1 → ((l.getD j (0, 0, [])).2.2.length : Int) ≤ left) (0, left - l.length) [0, 1, 5] rfl rfl rfl ⟨Nat.zero_le _, ⟨by dsimp only; omega, by dsimp only; omega⟩, fun j hj => by omega⟩ ?_
  rintro ⟨i, d⟩ ⟨hi, hd, he⟩ ih
  dsimp only at hi hd he ih ⊢
  refine sp W 0 rfl rfl rfl (fun h2 => ?_) (fun h2 => ?_)
  · have h2 : i < l.length := by omega
    have hxi := hx i h2
    refine ce W 0 rfl rfl (szNode_ok (l.getD i (0, 0, [])) d ⟨by omega, by omega⟩ hxi) rfl ?_
    refine sp W 0 rfl rfl rfl (fun h3 => ?_) (fun h3 => ?_)
    · refine rq W 0 rfl rfl (.int .i64 (-1)) (⟨_, rfl, fun k => by omega⟩) rfl .refl
    · by_cases h4 : d < (l.getD i (0, 0, [])).2.2.length
      · rw [if_pos h4] at h3; exact absurd (by omega) h3
      · simp only [if_neg h4]
        refine bd W 0 0 [0, 1, 5] rfl rfl rfl rfl rfl (ih (i + 1, d - (l.getD i (0, 0, [])).2.2.length) ⟨by dsimp only; omega, ⟨by dsimp only; omega, by dsimp only; omega⟩, fun j hj => ?_⟩ (by dsimp only; omega))
        by_cases hji : j = i
        · subst hji; omega
        · exact he j (by dsimp only at hj; omega)
  · refine rq W 0 rfl rfl (.int .i64 d) (⟨_, rfl, fun k => ⟨by omega, fun j hj => he j (by omega)⟩⟩) rfl .refl
theorem szTerm_ok (l : List Nd) (hm : l.length ≤ 9223372036854775807) (hx : ∀ i, i < l.length → (l.getD i (0, 0, [])).2.2.length ≤ 9223372036854775807) : AFunP Tryz.prog 14 [termV l, .int .i64 1048576] (fun u => ∃ n, u = .int .i64 n ∧ (0 ≤ n → l.length ≤ 1048576 ∧ txtOk l)) := by
  refine afun_of Tryz.func14 Tryz.call14 rfl Tryz.ntmps14 rfl ?_
  have W : Walk Tryz.prog TT 14 _ := Walk.of TT_ok Tryz.func14 Tryz.results14
  refine cq W 0 rfl rfl (szNodeS_ok l 1048576 ⟨by omega, by omega⟩ hm hx) ?_
  rintro _ ⟨n, rfl, hn⟩
  refine ⟨_, rfl, ?_⟩
  refine sp W 0 rfl rfl rfl (fun h1 => ?_) (fun h1 => ?_)
  · refine rq W 0 rfl rfl (.int .i64 (-1)) (⟨_, rfl, fun k => by omega⟩) rfl .refl
  · refine rq W 0 rfl rfl (.int .i64 n) (⟨_, rfl, fun k => ⟨by have := (hn k).1; omega, fun i hi => by have := (hn k).2 i hi; omega⟩⟩) rfl .refl
end Pf
/- What the laid variables hold -/
namespace Pf
open Go Go.Proofs
open Go.RowKit
theorem open_strs {P : Program} {H : Type} {enc : TypeId × Value → H} {w : World} {base : Nat} {spare : Nat → Bool} {held : Bool} {fuel : Nat} {t e : TypeId} {cs : List Value} {p : List MemPlace} (ht : P.underlying t = some (.slice e)) (he : P.underlying e = some .string) (hc : P.cellsOf e = 1)
    {ws : List (List UInt8)} (hw : ws ≠ []) (h : DataW.trod enc P w base spare held fuel t cs = some (.slice (ws.map fun s => .lit (.string s)) [], p)) : VRs (worldFM w) noB [.fz ws.length fun i => [.str (ws.getD i [])]] cs := by
  rcases Go.Deep.open_slice ht h with ⟨_, h2⟩ | ⟨a, len, cap, m, n, D, Pl, rfl, _, hl, hm, hmm, hx, hel⟩
  · cases (Prod.mk.inj h2).1
  have hle : len ≤ m := by rw [hmm]; split <;> omega
  have e1 : ws.map (fun s => (DataW.lit (.string s) : DataW H)) = (List.range len).map D := (DataW.slice.inj (Prod.mk.inj hx).1).1
  have el : ws.length = len := by have := congrArg List.length e1; simpa using this
  have eD : ∀ i, i < len → D i = .lit (.string (ws.getD i [])) := by
    intro i hi
    have := congrArg (fun l => l[i]?) e1
    simp only [List.getElem?_map, List.getElem?_range, hi, Option.map_some] at this
    rw [List.getElem?_eq_getElem (by omega : i < ws.length)] at this
    simp only [Option.map_some, Option.some.injEq] at this
    rw [← this]
    simp [List.getD_eq_getElem?_getD, show i < ws.length by omega]
  have each : ∀ i, i < len → ∃ s : ByteArray, s.data.toList = ws.getD i [] ∧ w.cell? (a.add i) = some (.string s) := by
    intro i hi
    obtain ⟨cs', h1, h2⟩ := hel i (by omega)
    obtain ⟨s, rfl, h3, _⟩ := DataW.trod_string he h2
    obtain ⟨_, _, h6⟩ := World.cells?_some h1
    rw [hc] at h6
    have h7 := h6 0 (by omega)
    rw [Nat.mul_one] at h7
    refine ⟨s, ?_, by simpa [Addr.add] using h7⟩
    have h8 := (Prod.mk.inj h3).1
    rw [eD i hi] at h8
    injection h8 with h9
    injection h9 with h9
    exact h9.symm
  have hpos : 0 < len := by rw [← el]; exact List.length_pos_iff.2 hw
  have ha : a = ⟨a.block, a.off, none⟩ := by
    obtain ⟨s, _, h4⟩ := each 0 hpos
    exact cell_spot (by simpa [Addr.add] using h4)
  rw [el]
  refine .single ?_
  rw [ha]
  let f : Nat → Value := fun i => if h : i < len then .string (each i h).choose else undef
  have hf : ∀ i, i < len → ∃ s : ByteArray, f i = .string s ∧ s.data.toList = ws.getD i [] ∧ w.cell? (a.add i) = some (f i) := fun i hi => by
    have := (each i hi).choose_spec
    simp only [f, dif_pos hi]
    exact ⟨_, rfl, this.1, this.2⟩
  refine .fz (sz := 1) (fun i _ => f i) (by omega) hl (fun i hi => rfl) (fun i j hi hj => ?_) (fun i j hi hj => ?_) (fun i j hi hj => ?_)
  · obtain ⟨s, h1, h2, h3⟩ := hf i hi
    rw [ha, addr_add] at h3
    unfold worldFM
    rw [show j = 0 by omega, Nat.mul_one, Nat.add_zero]
    exact h3
  · obtain ⟨s, h1, h2, h3⟩ := hf i hi
    rw [h1]; rfl
  · obtain ⟨s, h1, h2, h3⟩ := hf i hi
    have : j = 0 := by simpa using hj
    subst this
    rw [h1]
    exact .str h2
theorem var_one {P : Program} {w : World} {n : String} {g : Nat} {cs : Array Value} (hg : P.globalNamed n = some g) (hv : w.var? P n = some cs) {a : AV} (h : VRs (worldFM w) noB [a] cs.toList) : ∃ c, worldFM w g 0 = some c ∧ VR (worldFM w) noB a c := by
  obtain ⟨h1, h2⟩ := h
  have h3 := h2 0 (by simp)
  have hl : 0 < cs.size := by have : 1 = cs.toList.length := h1; simp at this; omega
  refine ⟨cs[0], ?_, ?_⟩
  · show w.cell? ⟨g, 0, none⟩ = _
    rw [World.var?_cell hg hv 0]
    simp [hl]
  · have e : cs.toList.getD 0 undef = cs[0] := by simp [List.getD_eq_getElem?_getD, hl]
    rw [e] at h3
    exact h3
theorem iface_of {P : Program} {H : Type} {enc : TypeId × Value → H} {w : World} {base : Nat} {spare : Nat → Bool} {fuel : Nat} {t : TypeId} {ms : Array (String × TypeId)} {cs : List Value} {nm : String} {d : DataW H} {p : List MemPlace} (ht : P.underlying t = some (.interface ms)) (h : DataW.trod enc P w base spare false fuel t cs = some (.iface nm d, p)) : ∃ u v, cs = [.iface u v] := by
  cases fuel with
  | zero => simp [DataW.trod] at h
  | succ n =>
    unfold DataW.trod at h
    rw [ht] at h
    split at h <;> simp_all
theorem var_iface {P : Program} {w : World} {n : String} {g : Nat} {cs : Array Value} (hg : P.globalNamed n = some g) (hv : w.var? P n = some cs) {u : TypeId} {v : Value} (h : cs.toList = [.iface u v]) : ∃ ev, worldFM w g 0 = some ev ∧ (ev = .nilIface ∨ ∃ te pe, ev = .iface te pe) := by
  refine ⟨.iface u v, ?_, .inr ⟨u, v, rfl⟩⟩
  show w.cell? ⟨g, 0, none⟩ = _
  rw [World.var?_cell hg hv 0]
  obtain ⟨l⟩ := cs
  simp only at h
  subst h
  rfl
end Pf
