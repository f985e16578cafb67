/- Part 3 of the lemmas that the claim rests on: an abstract machine over the model, what it is sound for, and the contracts of the functions that the law reaches. -/
import Derived.Test.YtkbfckjhgdgdbaaDoorA2
set_option linter.unusedSimpArgs false
set_option linter.unusedVariables false
set_option maxHeartbeats 4000000
/- Whole numbers: the model's own functions. -/
namespace Pf
open Go Go.Proofs

theorem l5Trim_ok (l : List Int) (hl : l.length ≤ 1000000000) : AFunP Tryd.prog 143 [.fi .i64 l] (· = .fi .i64 (trimL l)) := by
  refine afun_of Tryd.func143 Tryd.call143 rfl Tryd.ntmps143 rfl ?_
  have W : Walk Tryd.prog TT 143 _ := Walk.of TT_ok Tryd.func143 Tryd.results143
  refine' cutK (fun K => ?main) ?k
  case main =>
    refine lp W 0 (σ := List Int) (fun m => [(0, .fi .i64 l), (2, .nils), (3, .int .i64 m.length)]) (fun _ => []) (fun m => m.length) (fun m => trimL m = trimL l ∧ ∃ z, l = m ++ z) l [0, 2, 3] rfl rfl rfl ⟨rfl, [], by simp⟩ ?_
    rintro m ⟨h1, z, h2⟩ ih
    have hml : m.length ≤ l.length := by rw [h2]; simp
    refine sp W 0 rfl rfl rfl (fun h3 => ?_) (fun h3 => ?_)
    · have h3 : 0 < m.length := by omega
      have hne : m ≠ [] := by rintro rfl; simp at h3
      obtain ⟨n, d, rfl⟩ : ∃ n d, m = n ++ [d] := ⟨_, _, (List.dropLast_concat_getLast hne).symm⟩
      have e1 : (((n ++ [d]).length : Int) - 1).toNat = n.length := by simp
      have e2 : l.getD n.length 0 = d := by rw [h2]; simp
      refine sp W 0 rfl rfl rfl (fun h4 => ?_) (fun h4 => ?_)
      · rw [e1, e2] at h4
        have e3 : (((n ++ [d]).length : Int) - 1) = n.length := by simp
        have hnl : n.length ≤ 1000000000 := by rw [h2] at hl; simp at hl; omega
        refine bk W 0 [0, 2, 3] rfl rfl (by rw [e3]; exact ih n ⟨by rw [← h1, trimL_snoc, if_pos h4], d :: z, by rw [h2]; simp⟩ (by simp)) (hc := ?_)
        simp only [AllC, e3, true_and, and_true]; omega
      · rw [e1, e2] at h4
        have e3 : trimL l = n ++ [d] := by rw [← h1, trimL_snoc, if_neg h4]
        refine atl W rfl ?_
        refine go_nilT 4 (.ints 0 .i64 []) rfl rfl rfl rfl rfl ?_
        refine lp W 0 (σ := Nat × Nat × List Int) (fun s => [(0, .fi .i64 l), (3, .int .i64 (trimL l).length), (4, .sl 0 s.2.1 0 s.1), (5, .int .i64 s.1)]) (fun s => [.ints s.2.1 .i64 s.2.2]) (fun s => (trimL l).length - s.1)
          (fun s => (∃ z, l = trimL l ++ z) ∧ s.1 ≤ (trimL l).length ∧ s.2.2 = l.take s.1) (0, 0, []) [0, 3, 4, 5] rfl (by rw [e3]; rfl) rfl ⟨⟨z, by rw [e3]; exact h2⟩, Nat.zero_le _, by simp⟩ K.get
    · have hm : m = [] := List.eq_nil_of_length_eq_zero (by omega)
      subst hm
      have e3 : trimL l = [] := by rw [← h1]; rfl
      refine atl W rfl ?_
      refine go_nilT 4 (.ints 0 .i64 []) rfl rfl rfl rfl rfl ?_
      refine lp W 0 (σ := Nat × Nat × List Int) (fun s => [(0, .fi .i64 l), (3, .int .i64 (trimL l).length), (4, .sl 0 s.2.1 0 s.1), (5, .int .i64 s.1)]) (fun s => [.ints s.2.1 .i64 s.2.2]) (fun s => (trimL l).length - s.1)
          (fun s => (∃ z, l = trimL l ++ z) ∧ s.1 ≤ (trimL l).length ∧ s.2.2 = l.take s.1) (0, 0, []) [0, 3, 4, 5] rfl (by rw [e3]; rfl) rfl ⟨⟨l, by rw [e3]; rfl⟩, Nat.zero_le _, by simp⟩ K.get
  case k =>
    rintro ⟨i, g, o⟩ ⟨⟨z, hz⟩, hi, ho⟩ ih
    dsimp only at hi ho ih ⊢
    have hlt : (trimL l).length ≤ l.length := by conv => rhs; rw [hz]
                                                 simp
    have hol : o.length = i := by rw [ho]; simp; omega
    refine sp W 0 rfl rfl rfl (fun h1 => ?_) (fun h1 => ?_)
    · have h1 : i < l.length := by omega
      refine bd W 0 1 [0, 3, 4, 5] rfl rfl rfl rfl rfl (ih (i + 1, g + 1, o ++ [l.getD i 0]) ⟨⟨z, hz⟩, by dsimp only; omega, ?_⟩ (by dsimp only; omega))
      rw [ho, List.take_add_one, List.getD_eq_getElem?_getD, List.getElem?_eq_getElem h1]; rfl
    · have hiL : i = (trimL l).length := by omega
      have e4 : o = trimL l := by
        rw [ho, hiL]
        have := congrArg (List.take (trimL l).length) hz
        rwa [List.take_left] at this
      refine rp W 0 rfl rfl rfl (.fi e4)
end Pf
/- Whole numbers: digits by numbers alone. -/
namespace Pf
open Go Go.Proofs

/-- Digits whose number is as long as they are, are the number's. -/
theorem dig_of_top {l : List Int} (h : Dgs l) (hv : l = [] ∨ 65536 ^ l.length ≤ 65536 * val l) : dig (val l).toNat = l := by
  refine dig_val h fun hne h0 => ?_
  rcases hv with rfl | hv
  · exact hne rfl
  obtain ⟨m, d, rfl⟩ : ∃ m d, l = m ++ [d] := ⟨_, _, (List.dropLast_concat_getLast hne).symm⟩
  simp at h0
  subst h0
  have hm : Dgs m := fun x hx => h x (by simp [hx])
  have h1 := val_lt hm
  rw [val_app, val_single, Int.mul_zero, Int.add_zero, List.length_append, List.length_singleton, Int.pow_succ] at hv
  omega
theorem val_take_any (l : List Int) (k : Nat) : val (l.take (k + 1)) = val (l.take k) + 65536 ^ k * l.getD k 0 := by
  rcases Nat.lt_or_ge k l.length with h | h
  · exact val_take_succ h
  · rw [List.take_of_length_le (by omega), List.take_of_length_le h, getD_over h]; simp
theorem val_snoc (l : List Int) (d : Int) {k : Nat} (h : l.length = k) : val (l ++ [d]) = val l + 65536 ^ k * d := by
  subst h; rw [val_app, val_single]
/-- A digit, by the number. -/
theorem dig_get (a k : Nat) : (dig a).getD k 0 = ((a / 65536 ^ k % 65536 : Nat) : Int) := by
  induction k generalizing a with
  | zero =>
    by_cases h : a = 0
    · subst h; simp [dig_zero]
    · rw [dig_pos h]; simp
  | succ k ih =>
    by_cases h : a = 0
    · subst h; simp [dig_zero]
    · rw [dig_pos h, Nat.pow_succ, Nat.mul_comm, ← Nat.div_div_eq_div_mul]
      simpa using ih (a / 65536)
theorem dig_drop (a k : Nat) : (dig a).drop k = dig (a / 65536 ^ k) := by
  induction k generalizing a with
  | zero => simp
  | succ k ih =>
    by_cases h : a = 0
    · subst h; simp [dig_zero]
    · rw [dig_pos h, List.drop_succ_cons, ih, Nat.pow_succ, Nat.mul_comm, ← Nat.div_div_eq_div_mul]
theorem dig_shl (a : Nat) (h : a ≠ 0) : ∀ k, List.replicate k (0 : Int) ++ dig a = dig (a * 65536 ^ k)
  | 0 => by simp
  | k + 1 => by
    have h1 : a * 65536 ^ (k + 1) ≠ 0 := Nat.mul_ne_zero h (Nat.pos_iff_ne_zero.1 (Nat.pow_pos (by omega)))
    rw [List.replicate_succ, List.cons_append, dig_shl a h k, dig_pos h1, Nat.pow_succ, ← Nat.mul_assoc]
    simp
theorem dig_small {d : Nat} (h : d < 65536) : dig d = if d = 0 then [] else [(d : Int)] := by
  split
  · rename_i h0; subst h0; exact dig_zero
  · rename_i h0
    rw [dig_pos h0, Nat.mod_eq_of_lt h, Nat.div_eq_of_lt h, dig_zero]
theorem dig_lt {a n : Nat} (h : (dig a).length ≤ n) : a < 65536 ^ n := dig_len_le.1 h
theorem dig_len_add {a b n : Nat} (ha : (dig a).length ≤ n) (hb : (dig b).length ≤ n) : (dig (a + b)).length ≤ n + 1 := by
  rw [dig_len_le] at *
  rw [Nat.pow_succ]; omega
/-- The two highest digits. -/
theorem dig_two {r n : Nat} (h : r < 65536 ^ (n + 2)) : (dig r).getD (n + 1) 0 * 65536 + (dig r).getD n 0 = ((r / 65536 ^ n : Nat) : Int) := by
  rw [dig_get, dig_get]
  have h1 : r / 65536 ^ (n + 1) = r / 65536 ^ n / 65536 := by rw [Nat.pow_succ, Nat.div_div_eq_div_mul]
  have h2 : r / 65536 ^ n < 65536 * 65536 := by
    refine Nat.div_lt_of_lt_mul ?_
    rw [show 65536 ^ n * (65536 * 65536) = 65536 ^ (n + 2) by rw [Nat.pow_succ, Nat.pow_succ, Nat.mul_assoc]]; exact h
  rw [h1]
  generalize r / 65536 ^ n = x at *
  omega
/-- A guess by the highest digits is not below. -/
theorem guess_ge {r y n Q : Nat} (hy : 65536 ^ n ≤ y) (hQ : Q * y ≤ r) : Q ≤ r / 65536 ^ n / (y / 65536 ^ n) := by
  have hp : 0 < 65536 ^ n := Nat.pow_pos (by omega)
  have hv : 0 < y / 65536 ^ n := Nat.div_pos hy hp
  rw [Nat.le_div_iff_mul_le hv, Nat.le_div_iff_mul_le hp, Nat.mul_assoc]
  exact Nat.le_trans (Nat.mul_le_mul_left _ (Nat.div_mul_le_self _ _)) hQ
end Pf
/- Whole numbers: the model's own functions, simple ones. -/
namespace Pf
open Go Go.Proofs
theorem specNatOk_ok (l : List Int) (hl : l.length ≤ 9223372036854775806) : AFunP Tryd.prog 138 [.fi .i64 l] (· = .pr (natOk l)) := by
  refine afun_of Tryd.func138 Tryd.call138 rfl Tryd.ntmps138 rfl ?_
  have W : Walk Tryd.prog TT 138 _ := Walk.of TT_ok Tryd.func138 Tryd.results138
  refine sp W 0 rfl rfl rfl (fun h1 => ?_) (fun h1 => ?_)
  · refine rp W 0 rfl rfl rfl (.no (fun h => by have := h.1; omega))
  refine lp W 0 (σ := Nat) (fun i => [(0, .fi .i64 l), (3, .int .i64 i)]) (fun _ => []) (fun i => l.length - i) (fun i => i ≤ l.length ∧ ∀ j, j < i → 0 ≤ l.getD j 0 ∧ l.getD j 0 < 65536) 0 [0, 3] rfl rfl rfl ⟨Nat.zero_le _, fun j hj => by omega⟩ ?_
  rintro i ⟨hi, he⟩ ih
  have bad : ∀ h : i < l.length, ¬ (0 ≤ l.getD i 0 ∧ l.getD i 0 < 65536) → ¬ natOk l := fun h h2 h3 => h2 (h3.2.2 _ (getD_mem h))
  refine sp W 0 rfl rfl rfl (fun h2 => ?_) (fun h2 => ?_)
  · have h2 : i < l.length := by omega
    refine sp W 0 rfl rfl rfl (fun h3 => ?_) (fun h3 => ?_)
    · rw [Int.toNat_natCast] at h3
      refine rp W 0 rfl rfl rfl (.no (bad h2 (by omega)))
    · refine sp W 0 rfl rfl rfl (fun h4 => ?_) (fun h4 => ?_)
      · rw [Int.toNat_natCast] at h4
        refine rp W 0 rfl rfl rfl (.no (bad h2 (by omega)))
      · rw [Int.toNat_natCast] at h3 h4
        refine bk W 0 [0, 3] rfl rfl (ih (i + 1) ⟨by omega, fun j hj => ?_⟩ (by omega))
        by_cases hji : j = i
        · subst hji; omega
        · exact he j (by omega)
  · have hil : i = l.length := by omega
    subst hil
    have hd : Dgs l := dgs_of_getD he
    refine sp W 0 rfl rfl rfl (fun h3 => ?_) (fun h3 => ?_)
    · refine rp W 0 rfl rfl rfl (.yes ⟨by omega, .inl (by omega), hd⟩)
    · have e : ((l.length : Int) - 1).toNat = l.length - 1 := by omega
      refine rp W 0 rfl rfl rfl (.pr (by rw [e]; exact ⟨fun h => ⟨by omega, .inr h, hd⟩, fun h => h.2.1.resolve_left (by omega)⟩))
theorem specNatOf_ok (n : Nat) (h1 : n ≤ 18446744073709551615) : AFunP Tryd.prog 131 [.int .u64 n] (· = .fi .i64 (dig n)) := by
  refine afun_of Tryd.func131 Tryd.call131 rfl Tryd.ntmps131 rfl ?_
  have W : Walk Tryd.prog TT 131 _ := Walk.of TT_ok Tryd.func131 Tryd.results131
  refine atl W rfl ?_
  refine go_nilT 3 (.ints 0 .i64 []) rfl rfl rfl rfl rfl ?_
  refine lp W 0 (σ := Nat × Nat × List Int) (fun s => [(0, .int .u64 s.1), (3, .sl 0 s.2.1 0 s.2.2.length)]) (fun s => [.ints s.2.1 .i64 s.2.2]) (fun s => s.1) (fun s => s.1 ≤ 18446744073709551615 ∧ s.2.2 ++ dig s.1 = dig n) (n, 0, []) [0, 3] rfl rfl rfl ⟨h1, rfl⟩ ?_
  rintro ⟨m, g, l⟩ ⟨hm, he⟩ ih
  dsimp only at hm he ih ⊢
  have hl : l.length ≤ 4 := by
    have h2 := congrArg List.length he
    rw [List.length_append] at h2
    have h3 : (dig n).length ≤ 4 := dig_len_le.2 (by omega)
    omega
  refine sp W 0 rfl rfl rfl (fun h2 => ?_) (fun h2 => ?_)
  · have hm0 : m ≠ 0 := by omega
    have e1 : ((m : Int) % 65536) = ((m % 65536 : Nat) : Int) := by omega
    have e2 : ((m : Int) / 65536) = ((m / 65536 : Nat) : Int) := by omega
    rw [dig_pos hm0] at he
    have nx := ih (m / 65536, g + 1, l ++ [((m % 65536 : Nat) : Int)]) ⟨by dsimp only; omega, by simpa using he⟩ (by dsimp only; omega)
    dsimp only at nx
    rw [List.length_append, ← e1, ← e2] at nx
    refine bd W 0 1 [0, 3] rfl rfl rfl rfl rfl (nx)
  · have hm0 : m = 0 := by omega
    subst hm0
    rw [dig_zero, List.append_nil] at he
    refine rp W 0 rfl rfl rfl (.fi he)
theorem l5Cmp_ok (a b : Nat) (ha : (dig a).length ≤ 1000000000) (hb : (dig b).length ≤ 1000000000) : AFunP Tryd.prog 141 [.fi .i64 (dig a), .fi .i64 (dig b)] (· = .int .i64 (sgn ((a : Int) - b))) := by
  refine afun_of Tryd.func141 Tryd.call141 rfl Tryd.ntmps141 rfl ?_
  have W : Walk Tryd.prog TT 141 _ := Walk.of TT_ok Tryd.func141 Tryd.results141
  have da := dig_dgs a
  have db := dig_dgs b
  have len : ∀ {x y : Nat}, (dig x).length < (dig y).length → x < y := by
    intro x y h
    have h1 := dig_len_lt.1 h
    have h2 := (dig_len_le (n := x) (k := (dig x).length)).1 (Nat.le_refl _)
    omega
  refine sp W 0 rfl rfl rfl (fun h1 => ?_) (fun h1 => ?_)
  · have := len (x := a) (y := b) (by omega)
    refine rp W 0 rfl rfl rfl (.int (by rw [sgn_neg (by omega)]))
  refine sp W 0 rfl rfl rfl (fun h2 => ?_) (fun h2 => ?_)
  · have := len (x := b) (y := a) (by omega)
    refine rp W 0 rfl rfl rfl (.int (by rw [sgn_pos (by omega)]))
  have hab : (dig a).length = (dig b).length := by omega
  refine lp W 0 (σ := Nat) (fun k => [(0, .fi .i64 (dig a)), (1, .fi .i64 (dig b)), (5, .int .i64 ((k : Int) - 1))]) (fun _ => []) (fun k => k) (fun k => k ≤ (dig a).length ∧ ∀ j, k ≤ j → (dig a).getD j 0 = (dig b).getD j 0)
    (dig a).length [0, 1, 5] rfl rfl rfl ⟨Nat.le_refl _, fun j hj => by rw [getD_over hj, getD_over (by omega)]⟩ ?_
  rintro k ⟨hk, he⟩ ih
  refine sp W 0 rfl rfl rfl (fun h3 => ?_) (fun h3 => ?_)
  · obtain ⟨i, rfl⟩ : ∃ i, k = i + 1 := ⟨k - 1, by omega⟩
    have ei : ((i + 1 : Nat) : Int) - 1 = (i : Int) := by omega
    rw [ei]
    refine dre W 0 8 [] [] rfl rfl rfl trivial rfl ?_
    rw [Int.toNat_natCast]
    refine sp W 0 rfl rfl rfl (fun h4 => ?_) (fun h4 => ?_)
    · refine rp W 0 rfl rfl rfl (.int (by have := val_first da db hab (k := i) (by omega) (fun j hj => he j (by omega)) h4; rw [val_dig, val_dig] at this; rw [sgn_neg (by omega)]))
    · refine dre W 0 8 [] [] rfl rfl rfl trivial rfl ?_
      refine sp W 0 rfl rfl rfl (fun h5 => ?_) (fun h5 => ?_)
      · refine rp W 0 rfl rfl rfl (.int (by have := val_first db da hab.symm (k := i) (by omega) (fun j hj => (he j (by omega)).symm) h5; rw [val_dig, val_dig] at this; rw [sgn_pos (by omega)]))
      · have nx := ih i ⟨by omega, fun j hj => ?_⟩ (by omega)
        · refine bk W 0 [0, 1, 5] rfl rfl (nx)
        · by_cases hji : j = i
          · subst hji; rw [Int.toNat_natCast] at h5; omega
          · exact he j (by omega)
  · have hk0 : k = 0 := by omega
    subst hk0
    have := val_cmp da db hab 0 (Nat.zero_le _) he
    rw [val_dig, val_dig] at this
    simp [val] at this
    refine rp W 0 rfl rfl rfl (.int (by rw [show (a : Int) - b = 0 by omega, sgn_zero]))
theorem l5Bits_ok (a : Nat) (ha : (dig a).length ≤ 100000000) : AFunP Tryd.prog 164 [.fi .i64 (dig a)] (· = .int .i64 (bitL a)) := by
  refine afun_of Tryd.func164 Tryd.call164 rfl Tryd.ntmps164 rfl ?_
  have W : Walk Tryd.prog TT 164 _ := Walk.of TT_ok Tryd.func164 Tryd.results164
  refine sp W 0 rfl rfl rfl (fun h => ?_) (fun h => ?_)
  · have : a = 0 := dig_nil.1 (List.eq_nil_of_length_eq_zero (by omega))
    subst this
    refine rp W 0 rfl rfl rfl (.int (by simp [bitL_zero]))
  have h0 : a ≠ 0 := by rintro rfl; simp [dig_zero] at h
  have g := (dig_dgs a).get ((dig a).length - 1)
  have e1 : (((dig a).length : Int) - 1).toNat = (dig a).length - 1 := by omega
  have hd := bitL_dig a h0
  have hbb : bitL a ≤ 16 * (dig a).length + 64 := by
    have := bitLen_rng (n := (dig a).getD ((dig a).length - 1) 0) (by omega)
    unfold bitLen at this
    omega
  obtain ⟨d, hdd⟩ : ∃ d : Nat, (dig a).getD ((dig a).length - 1) 0 = d := ⟨_, (Int.toNat_of_nonneg g.1).symm⟩
  rw [hdd, Int.toNat_natCast] at hd
  refine lp W 0 (σ := Nat × Nat) (fun s => [(3, .int .i64 s.1), (4, .int .i64 s.2)]) (fun _ => []) (fun s => s.2) (fun s => s.1 + bitL s.2 = bitL a ∧ s.2 < 65536) (16 * ((dig a).length - 1), d) [3, 4] rfl (by rw [e1, hdd]; simp [keepM, getM]; omega) rfl ⟨by dsimp only; omega, by dsimp only; omega⟩ ?_
  rintro ⟨n, d⟩ ⟨h1, h3⟩ ih
  dsimp only at h1 h3 ih ⊢
  refine sp W 0 rfl rfl rfl (fun h4 => ?_) (fun h4 => ?_)
  · have e2 : ((d : Int) / 2) = ((d / 2 : Nat) : Int) := by omega
    have := bitL_pos (n := d) (by omega)
    have nx := ih (n + 1, d / 2) ⟨by dsimp only; omega, by dsimp only; omega⟩ (by dsimp only; omega)
    dsimp only at nx
    rw [← e2] at nx
    refine bk W 0 [3, 4] rfl rfl (nx)
  · have hd0 : d = 0 := by omega
    subst hd0
    rw [bitL_zero] at h1
    refine rp W 0 rfl rfl rfl (.int (by omega))
theorem l5At_ok (l : List Int) (i : Nat) (ha : l.length ≤ 100000000) : AFunP Tryd.prog 160 [.fi .i64 l, .int .i64 i] (· = .int .i64 (l.getD i 0)) := by
  refine afun_of Tryd.func160 Tryd.call160 rfl Tryd.ntmps160 rfl ?_
  have W : Walk Tryd.prog TT 160 _ := Walk.of TT_ok Tryd.func160 Tryd.results160
  refine sp W 0 rfl rfl rfl (fun h => ?_) (fun h => ?_)
  · refine rp W 0 rfl rfl rfl (.int (by simp))
  · refine rp W 0 rfl rfl rfl (.int (by rw [getD_over (by omega)]))
theorem l5Add_ok (a b : Nat) (ha : (dig a).length ≤ 10000000) (hb : (dig b).length ≤ 10000000) : AFunP Tryd.prog 140 [.fi .i64 (dig a), .fi .i64 (dig b)] (· = .fi .i64 (dig (a + b))) := by
  refine afun_of Tryd.func140 Tryd.call140 rfl Tryd.ntmps140 rfl ?_
  have W : Walk Tryd.prog TT 140 _ := Walk.of TT_ok Tryd.func140 Tryd.results140
  refine' cutK (fun K => ?main) ?k
  case main =>
    refine sp W 0 rfl rfl rfl (fun h => ?_) (fun h => ?_)
    · refine atl W rfl ?_
      refine go_nilT 6 (.ints 0 .i64 []) rfl rfl rfl rfl rfl ?_
      refine lp W 0 (σ := Nat × Nat × Int × List Int) (fun s => [(0, .fi .i64 (dig a)), (1, .fi .i64 (dig b)), (5, .int .i64 (max (dig a).length (dig b).length : Nat)), (6, .sl 0 s.2.1 0 s.1), (7, .int .i64 s.2.2.1), (8, .int .i64 s.1)]) (fun s => [.ints s.2.1 .i64 s.2.2.2]) (fun s => max (dig a).length (dig b).length - s.1)
        (fun s => s.1 ≤ max (dig a).length (dig b).length ∧ s.2.2.2.length = s.1 ∧ Dgs s.2.2.2 ∧ (0 ≤ s.2.2.1 ∧ s.2.2.1 ≤ 1) ∧ val s.2.2.2 + 65536 ^ s.1 * s.2.2.1 = val ((dig a).take s.1) + val ((dig b).take s.1)) (0, 0, 0, []) [0, 1, 5, 6, 7, 8] rfl (by rw [show max (dig a).length (dig b).length = (dig b).length by omega]; rfl) rfl ⟨Nat.zero_le _, rfl, Dgs.nil, by simp, by simp [val]⟩ K.get
    · refine atl W rfl ?_
      refine go_nilT 6 (.ints 0 .i64 []) rfl rfl rfl rfl rfl ?_
      refine lp W 0 (σ := Nat × Nat × Int × List Int) (fun s => [(0, .fi .i64 (dig a)), (1, .fi .i64 (dig b)), (5, .int .i64 (max (dig a).length (dig b).length : Nat)), (6, .sl 0 s.2.1 0 s.1), (7, .int .i64 s.2.2.1), (8, .int .i64 s.1)]) (fun s => [.ints s.2.1 .i64 s.2.2.2]) (fun s => max (dig a).length (dig b).length - s.1)
        (fun s => s.1 ≤ max (dig a).length (dig b).length ∧ s.2.2.2.length = s.1 ∧ Dgs s.2.2.2 ∧ (0 ≤ s.2.2.1 ∧ s.2.2.1 ≤ 1) ∧ val s.2.2.2 + 65536 ^ s.1 * s.2.2.1 = val ((dig a).take s.1) + val ((dig b).take s.1)) (0, 0, 0, []) [0, 1, 5, 6, 7, 8] rfl (by rw [show max (dig a).length (dig b).length = (dig a).length by omega]; rfl) rfl ⟨Nat.zero_le _, rfl, Dgs.nil, by simp, by simp [val]⟩ K.get
  case k =>
    rintro ⟨i, g, c, o⟩ ⟨hi, ho, hd, ⟨c0, c1⟩, hv⟩ ih
    dsimp only at hi ho hd c0 c1 hv ih ⊢
    have da := dig_dgs a
    have db := dig_dgs b
    refine sp W 0 rfl rfl rfl (fun h1 => ?_) (fun h1 => ?_)
    · have ga := da.get i
      have gb := db.get i
      refine ce W 0 rfl rfl (l5At_ok (dig a) i (by omega)) rfl ?_
      refine ce W 0 rfl rfl (l5At_ok (dig b) i (by omega)) rfl ?_
      obtain ⟨x, hx⟩ : ∃ x, (dig a).getD i 0 + (dig b).getD i 0 + c = x := ⟨_, rfl⟩
      have x0 : 0 ≤ x ∧ x ≤ 131071 := by omega
      have nx := ih (i + 1, g + 1, x / 65536, o ++ [x % 65536]) ⟨by dsimp only; omega, by simp; omega, hd.app (Dgs.nil.cons (by omega) (by omega)), by dsimp only; omega, ?_⟩ (by dsimp only; omega)
      · rw [← hx] at nx
        refine bd W 0 1 [0, 1, 5, 6, 7, 8] rfl rfl rfl rfl rfl (nx) (hc := by simp only [AllC, addN, Int.toNat_natCast, true_and, and_true, eq_self, List.length_set, List.length_cons, List.length_nil, List.length_append, List.length_replicate, wrapU, pw1, pw7, pw8, pw16, pw23, pw32, pw52] <;> first | omega | ((repeat' apply And.intro) <;> first | omega | (intros; rfl)))
      · dsimp only
        rw [val_snoc _ _ ho, val_take_any, val_take_any, Int.pow_succ]
        have e4 : 65536 ^ i * (x % 65536) + 65536 ^ i * 65536 * (x / 65536) = 65536 ^ i * x := by
          rw [Int.mul_assoc, ← Int.mul_add]; congr 1; omega
        rw [← hx, Int.mul_add, Int.mul_add] at e4
        rw [← hx]
        omega
    · have him : i = max (dig a).length (dig b).length := by omega
      rw [List.take_of_length_le (by omega), List.take_of_length_le (by omega), val_dig, val_dig] at hv
      refine sp W 0 rfl rfl rfl (fun h2 => ?_) (fun h2 => ?_)
      · have hc1 : c = 1 := by omega
        subst hc1
        have h3 := dig_of_top (l := o ++ [1]) (hd.app (Dgs.nil.cons (by omega) (by omega))) (.inr (by
          rw [val_snoc _ _ ho, List.length_append, ho, List.length_singleton, Int.pow_succ]
          have := val_nonneg hd; omega))
        rw [val_snoc _ _ ho, hv] at h3
        refine rp W 0 rfl rfl rfl (.fi (by rw [← h3]; congr 1))
      · have hc1 : c = 0 := by omega
        subst hc1
        rw [Int.mul_zero, Int.add_zero] at hv
        have h3 := dig_of_top (l := o) hd (by
          by_cases h0 : i = 0
          · left; exact List.eq_nil_of_length_eq_zero (by omega)
          · right
            obtain ⟨k, rfl⟩ : ∃ k, i = k + 1 := ⟨i - 1, by omega⟩
            rw [ho, hv, Int.pow_succ]
            have h4 : 65536 ^ k ≤ a + b := by
              rcases (by omega : k < (dig a).length ∨ k < (dig b).length) with h | h
              · have := dig_len_lt.1 h; omega
              · have := dig_len_lt.1 h; omega
            have h5 : ((65536 ^ k : Nat) : Int) ≤ ((a + b : Nat) : Int) := Int.ofNat_le.2 h4
            rw [Int.natCast_pow, Int.natCast_add] at h5
            simp only [Int.cast_ofNat_Int] at h5
            omega)
        rw [hv] at h3
        refine rp W 0 rfl rfl rfl (.fi (by rw [← h3]; congr 1))
end Pf
/- Whole numbers: the model's own functions, sums, products, shifts. -/
namespace Pf
open Go Go.Proofs
theorem l5Sub_ok (a b : Nat) (hab : b ≤ a) (ha : (dig a).length ≤ 10000000) : AFunP Tryd.prog 142 [.fi .i64 (dig a), .fi .i64 (dig b)] (· = .fi .i64 (dig (a - b))) := by
  refine afun_of Tryd.func142 Tryd.call142 rfl Tryd.ntmps142 rfl ?_
  have W : Walk Tryd.prog TT 142 _ := Walk.of TT_ok Tryd.func142 Tryd.results142
  have da := dig_dgs a
  have db := dig_dgs b
  have hlen := dig_len_mono hab
  refine atl W rfl ?_
  refine go_nilT 5 (.ints 0 .i64 []) rfl rfl rfl rfl rfl ?_
  refine lp W 0 (σ := Nat × Nat × Int × List Int) (fun s => [(0, .fi .i64 (dig a)), (1, .fi .i64 (dig b)), (5, .sl 0 s.2.1 0 s.1), (6, .int .i64 s.2.2.1), (7, .int .i64 s.1)]) (fun s => [.ints s.2.1 .i64 s.2.2.2]) (fun s => (dig a).length - s.1)
    (fun s => s.1 ≤ (dig a).length ∧ s.2.2.2.length = s.1 ∧ Dgs s.2.2.2 ∧ (0 ≤ s.2.2.1 ∧ s.2.2.1 ≤ 1) ∧ val s.2.2.2 - 65536 ^ s.1 * s.2.2.1 = val ((dig a).take s.1) - val ((dig b).take s.1)) (0, 0, 0, []) [0, 1, 5, 6, 7] rfl rfl rfl ⟨Nat.zero_le _, rfl, Dgs.nil, by simp, by simp [val]⟩ ?_
  rintro ⟨i, g, c, o⟩ ⟨hi, ho, hd, ⟨c0, c1⟩, hv⟩ ih
  dsimp only at hi ho hd c0 c1 hv ih ⊢
  refine sp W 0 rfl rfl rfl (fun h1 => ?_) (fun h1 => ?_)
  · have ga := da.get i
    have gb := db.get i
    obtain ⟨x, hx⟩ : ∃ x, (dig a).getD i 0 - (dig b).getD i 0 - c = x := ⟨_, rfl⟩
    refine dre W 0 9 [] [.int .i64 ((dig b).getD i 0)] rfl rfl rfl ⟨(l5At_ok (dig b) i (by omega)).at rfl _, trivial⟩ rfl ?_
    refine sp W 0 rfl rfl rfl (fun h2 => ?_) (fun h2 => ?_)
    · rw [Int.toNat_natCast, hx] at h2
      have nx := ih (i + 1, g + 1, 1, o ++ [x + 65536]) ⟨by dsimp only; omega, by simp; omega, hd.app (Dgs.nil.cons (by omega) (by omega)), by simp, ?_⟩ (by dsimp only; omega)
      · rw [← hx] at nx
        refine bd W 0 1 [0, 1, 5, 6, 7] rfl rfl rfl rfl rfl (nx) (hc := by simp only [AllC, addN, Int.toNat_natCast, true_and, and_true, eq_self, List.length_set, List.length_cons, List.length_nil, List.length_append, List.length_replicate, wrapU, pw1, pw7, pw8, pw16, pw23, pw32, pw52] <;> first | omega | ((repeat' apply And.intro) <;> first | omega | (intros; rfl)))
      · dsimp only
        rw [val_snoc _ _ ho, val_take_any, val_take_any, Int.pow_succ, ← hx]
        simp only [Int.mul_add, Int.mul_sub]
        omega
    · rw [Int.toNat_natCast, hx] at h2
      have nx := ih (i + 1, g + 1, 0, o ++ [x]) ⟨by dsimp only; omega, by simp; omega, hd.app (Dgs.nil.cons (by omega) (by omega)), by simp, ?_⟩ (by dsimp only; omega)
      · rw [← hx] at nx
        refine bd W 0 1 [0, 1, 5, 6, 7] rfl rfl rfl rfl rfl (nx) (hc := by simp only [AllC, addN, Int.toNat_natCast, true_and, and_true, eq_self, List.length_set, List.length_cons, List.length_nil, List.length_append, List.length_replicate, wrapU, pw1, pw7, pw8, pw16, pw23, pw32, pw52] <;> first | omega | ((repeat' apply And.intro) <;> first | omega | (intros; rfl)))
      · dsimp only
        rw [val_snoc _ _ ho, val_take_any, val_take_any, Int.pow_succ, ← hx]
        simp only [Int.mul_add, Int.mul_sub]
        omega
  · have him : i = (dig a).length := by omega
    rw [List.take_of_length_le (by omega), List.take_of_length_le (by omega), val_dig, val_dig] at hv
    have h2 := val_lt hd
    have h3 := val_nonneg hd
    rw [ho] at h2
    have hc : c = 0 := by
      rcases (by omega : c = 0 ∨ c = 1) with h | h
      · exact h
      · subst h; omega
    subst hc
    refine cf W 0 [0] [] rfl rfl rfl rfl rfl rfl (l5Trim_ok o (by omega)) rfl ?_
    refine rp W 0 rfl rfl rfl (.fi (by rw [trimL_dig hd]; congr 1; omega))
theorem l5Mul_ok (a b : Nat) (ha : (dig a).length ≤ 10000000) (hb : (dig b).length ≤ 10000000) : AFunP Tryd.prog 111 [.fi .i64 (dig a), .fi .i64 (dig b)] (· = .fi .i64 (dig (a * b))) := by
  refine afun_of Tryd.func111 Tryd.call111 rfl Tryd.ntmps111 rfl ?_
  have W : Walk Tryd.prog TT 111 _ := Walk.of TT_ok Tryd.func111 Tryd.results111
  have da := dig_dgs a
  have db := dig_dgs b
  have eL : (((dig a).length : Int) + (dig b).length) = (((dig a).length + (dig b).length : Nat) : Int) := by omega
  refine lp W 0 (σ := Nat × List Int) (fun s => [(0, .fi .i64 (dig a)), (1, .fi .i64 (dig b)), (5, .sl 0 0 0 ((dig a).length + (dig b).length)), (6, .int .i64 s.1)]) (fun s => [.ints 0 .i64 s.2]) (fun s => (dig a).length - s.1)
    (fun s => s.1 ≤ (dig a).length ∧ s.2.length = (dig a).length + (dig b).length ∧ val s.2 = val ((dig a).take s.1) * b ∧ ∀ j, 0 ≤ s.2.getD j 0 ∧ s.2.getD j 0 < 65536 ∧ (s.1 + (dig b).length ≤ j → s.2.getD j 0 = 0))
    (0, List.replicate ((dig a).length + (dig b).length) 0) [0, 1, 5, 6] rfl (by rw [eL]; rfl) (by rw [eL]; rfl) ⟨Nat.zero_le _, by simp, by simp [val_replicate, val], fun j => ?_⟩ ?_ (hc := ?_)
  · have : (List.replicate ((dig a).length + (dig b).length) (0 : Int)).getD j 0 = 0 := by
      rw [List.getD_eq_getElem?_getD, List.getElem?_replicate]; split <;> rfl
    dsimp only; omega
  · rintro ⟨i, l⟩ ⟨hi, hl, hv, hd⟩ ih
    dsimp only at hi hl hv hd ih ⊢
    generalize hA : (dig a).length = A at *
    refine sp W 0 rfl rfl rfl (fun h1 => ?_) (fun h1 => ?_)
    · have h1 : i < A := by omega
      have gx := da.get i
      have gl : ∀ j, i + (dig b).length ≤ j → l.getD j 0 = 0 := fun j hj => (hd j).2.2 hj
      generalize hx : (dig a).getD i 0 = x at *
      refine lp W 0 (σ := Nat × Int × List Int) (fun s => [(0, .fi .i64 (dig a)), (1, .fi .i64 (dig b)), (5, .sl 0 0 0 (A + (dig b).length)), (6, .int .i64 i), (7, .int .i64 s.2.1), (8, .int .i64 s.1)]) (fun s => [.ints 0 .i64 s.2.2]) (fun s => (dig b).length - s.1)
        (fun s => s.1 ≤ (dig b).length ∧ s.2.2.length = A + (dig b).length ∧ val s.2.2 + s.2.1 * 65536 ^ (i + s.1) = val l + x * val ((dig b).take s.1) * 65536 ^ i ∧ 0 ≤ s.2.1 ∧ s.2.1 < 65536 ∧ (∀ j, 0 ≤ s.2.2.getD j 0 ∧ s.2.2.getD j 0 < 65536) ∧ ∀ j, i + s.1 ≤ j → s.2.2.getD j 0 = l.getD j 0)
        (0, 0, l) [0, 1, 5, 6, 7, 8] rfl rfl rfl ⟨Nat.zero_le _, hl, by simp [val], by simp, by simp, fun j => by have := hd j; dsimp only; omega, fun j _ => rfl⟩ ?_
      rintro ⟨k, c, m⟩ ⟨hk, hm, hw, c0, c1, he, hs⟩ ih2
      dsimp only at hk hm hw c0 c1 he hs ih2 ⊢
      refine sp W 0 rfl rfl rfl (fun h2 => ?_) (fun h2 => ?_)
      · have h2 : k < (dig b).length := by omega
        have gy := db.get k
        have gm := he (i + k)
        generalize hy : (dig b).getD k 0 = y at *
        have p0 : 0 ≤ x * y := Int.mul_nonneg gx.1 gy.1
        have p1 : x * y ≤ 65535 * 65535 := Int.mul_le_mul (by omega) (by omega) gy.1 (by omega)
        have eI : ((i : Int) + (k : Int)).toNat = i + k := by omega
        refine dre W 0 17 [] [] rfl rfl rfl trivial rfl ?_ (hp := ?_)
        · obtain ⟨z, hz⟩ : ∃ z, m.getD (i + k) 0 + x * y + c = z := ⟨_, rfl⟩
          have nx := ih2 (k + 1, z / 65536, m.set (i + k) (z % 65536)) ⟨by omega, by simpa using hm, ?_, ?_, ?_, fun j => ?_, fun j hj => ?_⟩ (by dsimp only; omega)
          · rw [← hz, ← hy, ← hx, ← eI] at nx
            refine bk W 0 [0, 1, 5, 6, 7, 8] rfl rfl nx (hc := ?_)
            simp only [AllC, eI, hx, hy, hz, addN, Int.toNat_natCast, true_and, List.length_set]; omega
          · dsimp only
            rw [val_set _ _ _ (by omega), val_take_succ h2, hy]
            have hq : z = 65536 * (z / 65536) + z % 65536 := by omega
            rw [show i + (k + 1) = i + k + 1 by omega, Int.pow_succ, Int.mul_add, Int.add_mul, ← Int.mul_assoc x, Int.mul_comm (x * 65536 ^ k) y]
            have e2 : y * (x * 65536 ^ k) * 65536 ^ i = x * y * 65536 ^ (i + k) := by
              rw [Int.pow_add]
              simp only [Int.mul_assoc, Int.mul_comm, Int.mul_left_comm]
            rw [e2]
            have e3 : z / 65536 * (65536 ^ (i + k) * 65536) = 65536 ^ (i + k) * (65536 * (z / 65536)) := by simp only [Int.mul_assoc, Int.mul_comm, Int.mul_left_comm]
            have e4 : 65536 ^ (i + k) * (z % 65536 - m.getD (i + k) 0) + 65536 ^ (i + k) * (65536 * (z / 65536)) = 65536 ^ (i + k) * (x * y + c) := by
              rw [← Int.mul_add]; congr 1; omega
            rw [Int.mul_add, Int.mul_comm _ (x * y), Int.mul_comm _ c] at e4
            omega
          · dsimp only; omega
          · dsimp only; omega
          · dsimp only
            rw [getD_set _ _ _ _ (by omega)]
            have := he j
            split <;> omega
          · dsimp only at hj ⊢
            rw [getD_set _ _ _ _ (by omega), if_neg (by omega)]
            exact hs j (by omega)
        · simp only [AllP, eI, hx, hy, addN, Int.toNat_natCast, true_and, and_true, List.length_set, Option.getD]
          omega
      · have hkB : k = (dig b).length := by omega
        subst hkB
        rw [List.take_length, val_dig] at hw
        have g0 : m.getD (i + (dig b).length) 0 = 0 := by rw [hs _ (Nat.le_refl _)]; exact gl _ (Nat.le_refl _)
        have eI : ((i : Int) + ((dig b).length : Int)).toNat = i + (dig b).length := by omega
        have nx := ih (i + 1, m.set (i + (dig b).length) c) ⟨by dsimp only; omega, by simpa using hm, ?_, fun j => ?_⟩ (by dsimp only; omega)
        · rw [← eI] at nx
          have nz := addN0 ((i : Int) + ((dig b).length : Int)).toNat
          rw [← nz] at nx
          refine bk W 0 [0, 1, 5, 6] rfl rfl nx (hc := ?_)
          simp only [AllC, eI, addN, Int.toNat_natCast, true_and, List.length_set, g0]; omega
        · dsimp only
          rw [val_set _ _ _ (by omega), g0, val_take_succ (show i < (dig a).length by omega), hx, show c - 0 = c by omega, Int.mul_comm _ c, hw, hv, Int.add_mul, Int.mul_comm (65536 ^ i) x, Int.mul_assoc x, Int.mul_assoc x, Int.mul_comm (b : Int)]
        · dsimp only
          rw [getD_set _ _ _ _ (by omega)]
          have h1 := he j
          have h2 := hs j
          have h3 := gl j
          split
          · omega
          · refine ⟨h1.1, h1.2, fun hj => ?_⟩
            rw [h2 (by omega)]; exact h3 (by omega)
    · have hiA : i = (dig a).length := by omega
      subst hA
      subst hiA
      rw [List.take_length, val_dig] at hv
      have dm : Dgs l := dgs_of_getD fun j hj => by have := hd j; omega
      refine cf W 0 [0] [] rfl rfl rfl rfl rfl rfl (l5Trim_ok l (by omega)) rfl ?_
      refine rp W 0 rfl rfl rfl (.fi (by rw [trimL_dig dm, hv]; congr 1))
  · simp only [AllC, true_and]
    omega
theorem l5DivSmall_ok (a d : Nat) (hd0 : 0 < d) (hd : d < 65536) (ha : (dig a).length ≤ 10000000) : AFunP Tryd.prog 158 [.fi .i64 (dig a), .int .i64 d] (· = .tup [.fi .i64 (dig (a / d)), .int .i64 ((a % d : Nat) : Int)]) := by
  refine afun_of Tryd.func158 Tryd.call158 rfl Tryd.ntmps158 rfl ?_
  have W : Walk Tryd.prog TT 158 _ := Walk.of TT_ok Tryd.func158 Tryd.results158
  have da := dig_dgs a
  refine lp W 0 (σ := Nat × Int × List Int) (fun s => [(0, .fi .i64 (dig a)), (1, .int .i64 d), (6, .sl 0 0 0 (dig a).length), (7, .int .i64 s.2.1), (8, .int .i64 ((s.1 : Int) - 1))]) (fun s => [.ints 0 .i64 s.2.2]) (fun s => s.1)
      (fun s => s.1 ≤ (dig a).length ∧ s.2.2.length = (dig a).length ∧ 0 ≤ s.2.1 ∧ s.2.1 < d ∧ val s.2.2 * d + s.2.1 * 65536 ^ s.1 + val ((dig a).take s.1) = a ∧ ∀ j, 0 ≤ s.2.2.getD j 0 ∧ s.2.2.getD j 0 < 65536 ∧ (j < s.1 → s.2.2.getD j 0 = 0))
      ((dig a).length, 0, List.replicate (dig a).length 0) [0, 1, 6, 7, 8] rfl rfl rfl ⟨Nat.le_refl _, by simp, by simp, by dsimp only; omega, by simp [val_replicate, val, List.take_length, val_dig], fun j => ?_⟩ ?_
  · have : (List.replicate (dig a).length (0 : Int)).getD j 0 = 0 := by
      rw [List.getD_eq_getElem?_getD, List.getElem?_replicate]; split <;> rfl
    dsimp only; omega
  rintro ⟨t, r, l⟩ ⟨ht, hl, r0, r1, hv, hdd⟩ ih
  dsimp only at ht hl r0 r1 hv hdd ih ⊢
  refine sp W 0 rfl rfl rfl (fun h3 => ?_) (fun h3 => ?_)
  · obtain ⟨t, rfl⟩ : ∃ m, t = m + 1 := ⟨t - 1, by omega⟩
    have et : (((t + 1 : Nat) : Int) - 1) = (t : Int) := by omega
    have ga := da.get t
    obtain ⟨N, hN⟩ : ∃ N, r * 65536 + (dig a).getD t 0 = N := ⟨_, rfl⟩
    have n0 : 0 ≤ N := by omega
    have q0 : 0 ≤ N / d := Int.ediv_nonneg n0 (by omega)
    have q1 : N / d < 65536 := Int.ediv_lt_of_lt_mul (by omega) (by omega)
    have m0 := Int.emod_nonneg N (b := d) (by omega)
    have m1 := Int.emod_lt_of_pos N (b := d) (by omega)
    have gl := (hdd t).2.2 (by omega)
    have nx := ih (t, N % d, l.set t (N / d)) ⟨by dsimp only; omega, by simpa using hl, m0, m1, ?_, fun j => ?_⟩ (by dsimp only; omega)
    · rw [et]
      rw [← hN] at nx
      refine bk W 0 [0, 1, 6, 7, 8] rfl rfl (nx) (hc := by simp only [AllC, addN, Int.toNat_natCast, true_and, and_true, eq_self, List.length_set, List.length_cons, List.length_nil, List.length_append, List.length_replicate, wrapU, pw1, pw7, pw8, pw16, pw23, pw32, pw52] <;> first | omega | ((repeat' apply And.intro) <;> first | omega | (intros; rfl)))
    · dsimp only
      rw [val_take_succ (show t < (dig a).length by omega), Int.pow_succ] at hv
      rw [val_set _ _ _ (by omega), gl, Int.sub_zero, Int.add_mul, Int.mul_assoc (65536 ^ t), Int.mul_comm (N % d)]
      have e1 : N / d * d + N % d = r * 65536 + (dig a).getD t 0 := by rw [Int.mul_comm]; rw [hN]; exact Int.mul_ediv_add_emod N d
      have e2 : 65536 ^ t * (N / d * d) + 65536 ^ t * (N % d) = r * (65536 ^ t * 65536) + 65536 ^ t * (dig a).getD t 0 := by
        rw [← Int.mul_add, e1, Int.mul_add]; congr 1; simp only [Int.mul_assoc, Int.mul_comm, Int.mul_left_comm]
      omega
    · dsimp only
      rw [getD_set _ _ _ _ (by omega)]
      have := hdd j
      split <;> omega
  · obtain rfl : t = 0 := by omega
    have dl : Dgs l := dgs_of_getD fun j hj => by have := hdd j; omega
    simp only [List.take_zero, val, Int.pow_zero, Int.mul_one, Int.add_zero] at hv
    have v0 := val_nonneg dl
    obtain ⟨u1, u2⟩ := divmod hv r0 r1
    refine cf W 0 [0] [7] rfl rfl rfl rfl rfl rfl (l5Trim_ok l (by omega)) rfl ?_
    refine rp W 0 rfl rfl rfl (.tup ⟨.fi (by rw [trimL_dig dl, u1, Int.toNat_natCast]), .int u2, trivial⟩)
theorem l5Shl_ok (a k : Nat) (hk : k ≤ 10000000) (ha : (dig a).length ≤ 10000000) : AFunP Tryd.prog 157 [.fi .i64 (dig a), .int .i64 k] (· = .fi .i64 (dig (a * 65536 ^ k))) := by
  refine afun_of Tryd.func157 Tryd.call157 rfl Tryd.ntmps157 rfl ?_
  have W : Walk Tryd.prog TT 157 _ := Walk.of TT_ok Tryd.func157 Tryd.results157
  refine sp W 0 rfl rfl rfl (fun h => ?_) (fun h => ?_)
  · have h0 : a = 0 := dig_nil.1 (List.eq_nil_of_length_eq_zero (by omega))
    subst h0
    refine rp W 0 rfl rfl rfl (.trans .nils_fi (.fi (by rw [Nat.zero_mul, dig_zero])))
  · have h0 : a ≠ 0 := fun h0 => h (by rw [h0, dig_zero]; rfl)
    refine lp W 0 (σ := Nat × Nat × List Int) (fun s => [(0, .fi .i64 (dig a)), (5, .sl 0 s.2.1 0 (k + s.1)), (6, .int .i64 s.1)]) (fun s => [.ints s.2.1 .i64 s.2.2]) (fun s => (dig a).length - s.1)
      (fun s => s.1 ≤ (dig a).length ∧ s.2.2 = List.replicate k 0 ++ (dig a).take s.1) (0, 0, List.replicate k 0) [0, 5, 6] rfl rfl rfl ⟨Nat.zero_le _, by simp⟩ ?_
    rintro ⟨i, g, o⟩ ⟨hi, ho⟩ ih
    dsimp only at hi ho ih ⊢
    have ho2 : o.length = k + i := by rw [ho]; simp; omega
    refine sp W 0 rfl rfl rfl (fun h1 => ?_) (fun h1 => ?_)
    · have h1 : i < (dig a).length := by omega
      have e : o ++ [(dig a).getD i 0] = List.replicate k 0 ++ (dig a).take (i + 1) := by
        rw [ho, List.append_assoc, List.take_add_one, List.getD_eq_getElem?_getD, List.getElem?_eq_getElem h1]; rfl
      have nx := ih (i + 1, g + 1, o ++ [(dig a).getD i 0]) ⟨by dsimp only; omega, e⟩ (by dsimp only; omega)
      refine bd W 0 1 [0, 5, 6] rfl rfl rfl rfl rfl (nx) (hc := by simp only [AllC, addN, Int.toNat_natCast, true_and, and_true, eq_self, List.length_set, List.length_cons, List.length_nil, List.length_append, List.length_replicate, wrapU, pw1, pw7, pw8, pw16, pw23, pw32, pw52] <;> first | omega | ((repeat' apply And.intro) <;> first | omega | (intros; rfl)))
    · have him : i = (dig a).length := by omega
      subst him
      rw [List.take_length, dig_shl a h0] at ho
      refine rp W 0 rfl rfl rfl (.fi ho)
theorem l5Top_ok (a k : Nat) (hk : k ≤ 10000000) (ha : (dig a).length ≤ 10000000) : AFunP Tryd.prog 159 [.fi .i64 (dig a), .int .i64 k] (· = .fi .i64 (dig (a / 65536 ^ k))) := by
  refine afun_of Tryd.func159 Tryd.call159 rfl Tryd.ntmps159 rfl ?_
  have W : Walk Tryd.prog TT 159 _ := Walk.of TT_ok Tryd.func159 Tryd.results159
  refine atl W rfl ?_
  refine go_nilT 5 (.ints 0 .i64 []) rfl rfl rfl rfl rfl ?_
  refine lp W 0 (σ := Nat × Nat × List Int) (fun s => [(0, .fi .i64 (dig a)), (5, .sl 0 s.2.1 0 s.1), (6, .int .i64 ((k : Int) + s.1))]) (fun s => [.ints s.2.1 .i64 s.2.2]) (fun s => (dig a).length - s.1)
      (fun s => s.1 ≤ (dig a).length - k ∧ s.2.2 = ((dig a).drop k).take s.1) (0, 0, []) [0, 5, 6] rfl (by simp [keepM, getM]; rfl) rfl ⟨Nat.zero_le _, by simp⟩ ?_
  rintro ⟨i, g, o⟩ ⟨hi, ho⟩ ih
  dsimp only at hi ho ih ⊢
  have ho2 : o.length = i := by rw [ho]; simp; omega
  refine sp W 0 rfl rfl rfl (fun h1 => ?_) (fun h1 => ?_)
  · have h1 : k + i < (dig a).length := by omega
    have e2 : ((k : Int) + i).toNat = k + i := by omega
    have e : o ++ [(dig a).getD (k + i) 0] = ((dig a).drop k).take (i + 1) := by
      rw [ho, List.take_add_one, List.getElem?_drop, List.getD_eq_getElem?_getD, List.getElem?_eq_getElem h1]; rfl
    have nx := ih (i + 1, g + 1, o ++ [(dig a).getD (k + i) 0]) ⟨by dsimp only; omega, e⟩ (by dsimp only; omega)
    have e3 : ((k : Int) + (i + 1 : Nat)) = (k : Int) + i + 1 := by omega
    dsimp only at nx
    rw [← e2, e3] at nx
    refine bd W 0 1 [0, 5, 6] rfl rfl rfl rfl rfl (nx) (hc := by simp only [AllC, addN, Int.toNat_natCast, true_and, and_true, eq_self, List.length_set, List.length_cons, List.length_nil, List.length_append, List.length_replicate, wrapU, pw1, pw7, pw8, pw16, pw23, pw32, pw52] <;> first | omega | ((repeat' apply And.intro) <;> first | omega | (intros; rfl)))
  · have e : o = (dig a).drop k := by rw [ho, List.take_of_length_le (by simp; omega)]
    refine rp W 0 rfl rfl rfl (.fi (by rw [e, dig_drop]))
theorem l5Times_ok (a d : Nat) (hd : d < 65536) (ha : (dig a).length ≤ 1000000) : AFunP Tryd.prog 94 [.fi .i64 (dig a), .int .i64 d] (· = .fi .i64 (dig (a * d))) := by
  refine afun_of Tryd.func94 Tryd.call94 rfl Tryd.ntmps94 rfl ?_
  have W : Walk Tryd.prog TT 94 _ := Walk.of TT_ok Tryd.func94 Tryd.results94
  refine sp W 0 rfl rfl rfl (fun h => ?_) (fun h => ?_)
  · have h0 : d = 0 := by omega
    subst h0
    refine rp W 0 rfl rfl rfl (.trans .nils_fi (.fi (by rw [Nat.mul_zero, dig_zero])))
  · have h0 : [(d : Int)] = dig d := by rw [dig_small hd, if_neg (by omega)]
    have k1 := l5Mul_ok a d (by omega) (by rw [← h0]; simp)
    rw [← h0] at k1
    refine cf W 0 [0] [] rfl rfl rfl rfl rfl rfl (k1) rfl ?_
    refine rp W 0 rfl rfl rfl (.refl)
theorem l5Pow2_ok (k : Nat) (hk : k ≤ 10000000) : AFunP Tryd.prog 132 [.int .i64 k] (· = .fi .i64 (dig (2 ^ k))) := by
  refine afun_of Tryd.func132 Tryd.call132 rfl Tryd.ntmps132 rfl ?_
  have W : Walk Tryd.prog TT 132 _ := Walk.of TT_ok Tryd.func132 Tryd.results132
  have h0 : [((1 : Int) * 2 ^ ((k : Int) % 16).toNat)] = dig (2 ^ (k % 16)) := by
    have : 2 ^ (k % 16) < 65536 := Nat.pow_lt_pow_right (a := 2) (n := 16) (by omega) (by omega)
    rw [dig_small this, if_neg (Nat.pos_iff_ne_zero.1 (Nat.pow_pos (by omega))), Int.one_mul, show ((k : Int) % 16).toNat = k % 16 by omega]; simp
  have k1 := l5Shl_ok (2 ^ (k % 16)) (k / 16) (by omega) (by rw [← h0]; simp)
  rw [← h0] at k1
  have hbits : (IntKind.i64.bits : Int) = 64 := rfl
  have k2 := k1
  have e := (by decide : ∀ r, r < 16 → (1 : Int) ≤ 2 ^ r ∧ (2 : Int) ^ r ≤ 32768) ((k : Int) % 16).toNat (by omega)
  refine cf W 2 [0] [] rfl rfl rfl rfl rfl rfl k2 rfl ?_ (hc := by simp only [AllC, true_and, and_true]; omega)
  refine rp W 0 rfl rfl rfl (.fi (by congr 1; rw [show (65536 : Nat) = 2 ^ 16 from rfl, ← Nat.pow_mul, ← Nat.pow_add]; congr 1; omega))
end Pf
/- Whole numbers: the model's own quotient -/
namespace Pf
open Go Go.Proofs
theorem l5Div_ok (a b : Nat) (hb : b ≠ 0) (ha : (dig a).length ≤ 900000) (hbl : (dig b).length ≤ 900000) : AFunP Tryd.prog 134 [.fi .i64 (dig a), .fi .i64 (dig b)] (· = .tup [.fi .i64 (dig (a / b)), .fi .i64 (dig (a % b))]) := by
  refine afun_of Tryd.func134 Tryd.call134 rfl Tryd.ntmps134 rfl ?_
  have W : Walk Tryd.prog TT 134 _ := Walk.of TT_ok Tryd.func134 Tryd.results134
  have da := dig_dgs a
  have db := dig_dgs b
  refine ce W 0 rfl rfl (l5Cmp_ok a b (by omega) (by omega)) rfl ?_
  refine sp W 0 rfl rfl rfl (fun h1 => ?_) (fun h1 => ?_)
  · have : a < b := by unfold sgn at h1; omega
    have k1 := l5Trim_ok (dig a) (by omega)
    rw [trimL_dig da, val_dig, Int.toNat_natCast] at k1
    refine ce W 0 rfl rfl (k1) rfl ?_
    refine rp W 0 rfl rfl rfl (.tup ⟨.trans .nils_fi (.fi (by rw [Nat.div_eq_of_lt this, dig_zero])), .fi (by rw [Nat.mod_eq_of_lt this]), trivial⟩)
  have hab : b ≤ a := by unfold sgn at h1; omega
  have hlen := dig_len_mono hab
  have hlb : 0 < (dig b).length := by
    cases hd : dig b with
    | nil => exact absurd (dig_nil.1 hd) hb
    | cons x l => simp
  refine sp W 0 rfl rfl rfl (fun h2 => ?_) (fun h2 => ?_)
  · have hb1 : b < 65536 := by simpa using dig_lt (a := b) (n := 1) (by omega)
    have eb : (dig b).getD 0 0 = (b : Int) := by rw [dig_get]; simp; omega
    have k1 := l5DivSmall_ok a b (by omega) hb1 (by omega)
    rw [← eb] at k1
    refine ce W 0 rfl rfl (k1) rfl ?_
    have hm := Nat.mod_lt a (show 0 < b by omega)
    refine ce W 0 rfl rfl (specNatOf_ok (a % b) (by omega)) rfl ?_
    refine rp W 0 rfl rfl rfl (.refl)
  obtain ⟨n, hn⟩ : ∃ n, (dig b).length = n + 2 := ⟨(dig b).length - 2, by omega⟩
  have hb2 : 65536 ^ (n + 1) ≤ b := dig_len_lt.1 (by omega)
  have hb3 : b < 65536 ^ (n + 2) := dig_lt (by omega)
  have hp : 0 < 65536 ^ (n + 1) := Nat.pow_pos (by omega)
  have hps : 65536 ^ (n + 2) = 65536 ^ (n + 1) * 65536 := Nat.pow_succ 65536 (n + 1)
  obtain ⟨v, hv⟩ : ∃ v, b / 65536 ^ (n + 1) = v := ⟨_, rfl⟩
  have hv1 : 0 < v := by rw [← hv]; exact Nat.div_pos hb2 hp
  have hv2 : v < 65536 := by rw [← hv]; exact Nat.div_lt_of_lt_mul (by omega)
  have hv3 : b < (v + 1) * 65536 ^ (n + 1) := by rw [← hv]; exact (Nat.div_lt_iff_lt_mul hp).1 (Nat.lt_succ_self _)
  have ev : (dig b).getD (((dig b).length : Int) - 1).toNat 0 = v := by
    rw [show (((dig b).length : Int) - 1).toNat = n + 1 by omega, dig_get, hv, Nat.mod_eq_of_lt hv2]
  obtain ⟨u, hu⟩ : ∃ u, 65536 / (v + 1) = u := ⟨_, rfl⟩
  have hu1 : 0 < u := by rw [← hu]; exact Nat.div_pos (by omega) (by omega)
  have hu2 : u * (v + 1) ≤ 65536 := by rw [← hu]; exact Nat.div_mul_le_self _ _
  have hu3 : u < 65536 := by
    have := Nat.mul_le_mul_left u (show 2 ≤ v + 1 by omega)
    omega
  have eu : (65536 : Int) / ((dig b).getD (((dig b).length : Int) - 1).toNat 0 + 1) = u := by rw [ev, ← hu]; simp
  have k1 := l5Times_ok a u hu3 (by omega)
  have k2 := l5Times_ok b u hu3 (by omega)
  rw [← eu] at k1 k2
  refine ce W 0 rfl rfl k1 rfl ?_ (hc := by simp only [AllC, ev, true_and, and_true]; omega)
  refine ce W 0 rfl rfl (k2) rfl ?_
  rw [eu]
  have hx0 : a * u < 65536 ^ ((dig a).length + 1) := by
    rw [Nat.pow_succ]
    exact Nat.mul_lt_mul_of_lt_of_le (dig_lt (Nat.le_refl _)) (by omega) (by omega)
  have hxl : (dig (a * u)).length ≤ (dig a).length + 1 := dig_len_le.2 hx0
  have hy1 : 65536 ^ (n + 1) ≤ b * u := Nat.le_trans hb2 (Nat.le_mul_of_pos_right _ hu1)
  have hy2 : b * u < 65536 ^ (n + 2) := by
    rw [hps]
    calc b * u < (v + 1) * 65536 ^ (n + 1) * u := Nat.mul_lt_mul_of_pos_right hv3 hu1
      _ = 65536 ^ (n + 1) * (u * (v + 1)) := by rw [Nat.mul_comm (v + 1), Nat.mul_assoc, Nat.mul_comm (v + 1)]
      _ ≤ _ := Nat.mul_le_mul_left _ hu2
  have hyl : (dig (b * u)).length = n + 2 := by
    have := (dig_len_lt (n := b * u) (k := n + 1)).2 hy1
    have := (dig_len_le (n := b * u) (k := n + 2)).2 hy2
    omega
  have hxy : b * u ≤ a * u := Nat.mul_le_mul_right _ hab
  have hlen2 := dig_len_mono hxy
  have hdiv : a * u / (b * u) = a / b := Nat.mul_div_mul_right _ _ hu1
  have hmod : a * u % (b * u) = a % b * u := Nat.mul_mod_mul_right _ _ _
  generalize hX : a * u = x at *
  generalize hY : b * u = y at *
  clear k1 k2
  have dx := dig_dgs x
  have dy := dig_dgs y
  obtain ⟨M, hM⟩ : ∃ M, (dig x).length + 1 = M + (n + 2) := ⟨(dig x).length + 1 - (n + 2), by omega⟩
  have eM : ((dig x).length : Int) - (dig y).length + 1 = M := by omega
  have k3 := l5Top_ok x M (by omega) (by omega)
  rw [← eM] at k3
  refine ce W 0 rfl rfl k3 rfl ?_ (hc := by simp only [AllC, true_and, and_true]; omega)
  rw [eM]
  have e14 : ((dig x).length : Int) - (dig y).length = (M : Int) - 1 := by omega
  have hx1 := dig_lt (a := x) (Nat.le_refl _)
  have hx2 : x / 65536 ^ M < y := by
    refine Nat.lt_of_lt_of_le (Nat.div_lt_of_lt_mul ?_) hy1
    rw [← Nat.pow_add, show M + (n + 1) = (dig x).length by omega]; exact hx1
  refine lp W 0 (σ := Nat × List Int) (fun s => [(8, .int .i64 u), (9, .fi .i64 (dig x)), (10, .fi .i64 (dig y)), (11, .int .i64 (dig y).length), (12, .sl 0 0 0 M), (13, .fi .i64 (dig (x / 65536 ^ s.1 % y))), (14, .int .i64 ((s.1 : Int) - 1))]) (fun s => [.ints 0 .i64 s.2]) (fun s => s.1)
    (fun s => s.1 ≤ M ∧ s.2.length = M ∧ val s.2 = ((65536 ^ s.1 * (x / 65536 ^ s.1 / y) : Nat) : Int) ∧ ∀ j, 0 ≤ s.2.getD j 0 ∧ s.2.getD j 0 < 65536 ∧ (j < s.1 → s.2.getD j 0 = 0))
    (M, List.replicate M 0) [8, 9, 10, 11, 12, 13, 14] rfl (by simp only [Nat.mod_eq_of_lt hx2, ← e14]; rfl) rfl ⟨Nat.le_refl _, by simp, by simp [val_replicate, Nat.div_eq_of_lt hx2], fun j => ?_⟩ ?_
  · have : (List.replicate M (0 : Int)).getD j 0 = 0 := by
      rw [List.getD_eq_getElem?_getD, List.getElem?_replicate]; split <;> rfl
    dsimp only; omega
  rintro ⟨t, q⟩ ⟨ht, hq, hvq, hd⟩ ih
  dsimp only at ht hq hvq hd ih ⊢
  refine sp W 0 rfl rfl rfl (fun h3 => ?_) (fun h3 => ?_)
  · obtain ⟨t, rfl⟩ : ∃ m, t = m + 1 := ⟨t - 1, by omega⟩
    have et : (((t + 1 : Nat) : Int) - 1) = (t : Int) := by omega
    rw [et]
    have hy0 : 0 < y := by have : 0 < 65536 ^ (n + 1) := Nat.pow_pos (by omega)
                           omega
    have hr := Nat.mod_lt (x / 65536 ^ (t + 1)) hy0
    have hA := Nat.div_add_mod (x / 65536 ^ (t + 1)) y
    obtain ⟨xt, hxt⟩ : ∃ d, x / 65536 ^ t % 65536 = d := ⟨_, rfl⟩
    have hxt2 : xt < 65536 := by rw [← hxt]; exact Nat.mod_lt _ (by omega)
    have hB : x / 65536 ^ t = 65536 * (x / 65536 ^ (t + 1)) + xt := by
      rw [Nat.pow_succ, ← Nat.div_div_eq_div_mul, ← hxt]; omega
    have gx : (dig x).getD t 0 = (xt : Int) := by rw [dig_get, hxt]
    obtain ⟨r, hr1⟩ : ∃ r, x / 65536 ^ (t + 1) % y = r := ⟨_, rfl⟩
    obtain ⟨Q0, hQ0⟩ : ∃ r, x / 65536 ^ (t + 1) / y = r := ⟨_, rfl⟩
    rw [hr1] at hr hA ⊢
    rw [hQ0] at hA hvq
    have lr : (dig r).length ≤ n + 2 := by rw [← hyl]; exact dig_len_mono (Nat.le_of_lt hr)
    have k4 := l5Shl_ok r 1 (by omega) (by omega)
    obtain ⟨R, hR⟩ : ∃ R, r * 65536 ^ 1 = R := ⟨_, rfl⟩
    rw [hR] at k4
    rw [Nat.pow_one] at hR
    have k5 := specNatOf_ok xt (by omega)
    rw [← gx] at k5
    have l1 : (dig R).length ≤ n + 3 := by
      rw [dig_len_le]
      rw [dig_len_le] at lr
      rw [← hR, show 65536 ^ (n + 3) = 65536 ^ (n + 2) * 65536 from Nat.pow_succ 65536 (n + 2)]; omega
    have l2 : (dig xt).length ≤ n + 3 := Nat.le_trans (dig_len_le.2 (show xt < 65536 ^ 1 from hxt2)) (by omega)
    have k6 := l5Add_ok R xt (by omega) (by omega)
    have l3 := dig_len_add l1 l2
    have k7 := l5Trim_ok (dig (R + xt)) (by omega)
    rw [trimL_dig (dig_dgs _), val_dig, Int.toNat_natCast] at k7
    refine dre W 0 10 [] [.fi .i64 (dig R), .fi .i64 (dig xt), .fi .i64 (dig (R + xt)), .fi .i64 (dig (R + xt))] rfl rfl rfl ⟨k4.at rfl _, k5.at rfl _, k6.at rfl _, k7.at rfl _, trivial⟩ rfl ?_ (hp := by simp only [AllP, gx, addN, Int.toNat_natCast, true_and, and_true, Option.getD]; omega)
    clear k4 k5 k6 k7 l1 l2 l3
    obtain ⟨r', hr'⟩ : ∃ r', R + xt = r' := ⟨_, rfl⟩
    rw [hr']
    rw [← hR] at hr'
    have hr2 : r' < 65536 * y := by
      have : r * 65536 + 65536 ≤ y * 65536 := by rw [← Nat.succ_mul]; exact Nat.mul_le_mul_right _ hr
      omega
    have hr3 : r' < 65536 ^ (n + 1 + 2) := by
      rw [show 65536 ^ (n + 1 + 2) = 65536 ^ (n + 2) * 65536 from Nat.pow_succ 65536 (n + 2)]
      exact Nat.lt_of_lt_of_le hr2 (by rw [Nat.mul_comm]; exact Nat.mul_le_mul_right _ (Nat.le_of_lt hy2))
    have lr' : (dig r').length ≤ n + 1 + 2 := dig_len_le.2 hr3
    have en : ((dig y).length : Int) - 1 = ((n + 1 : Nat) : Int) := by omega
    have k8 := l5At_ok (dig r') (dig y).length (by omega)
    have k9 := l5At_ok (dig r') (n + 1) (by omega)
    rw [← en] at k9
    obtain ⟨w, hw⟩ : ∃ w, y / 65536 ^ (n + 1) = w := ⟨_, rfl⟩
    have hw1 : 0 < w := by rw [← hw]; exact Nat.div_pos hy1 hp
    have hw2 : w < 65536 := by rw [← hw]; exact Nat.div_lt_of_lt_mul (by omega)
    have ew : (dig y).getD (((dig y).length : Int) - 1).toNat 0 = (w : Int) := by
      rw [en, Int.toNat_natCast, dig_get, hw, Nat.mod_eq_of_lt hw2]
    have gT := dig_two hr3
    rw [show n + 1 + 1 = (dig y).length by omega] at gT
    obtain ⟨T, hT⟩ : ∃ T, r' / 65536 ^ (n + 1) = T := ⟨_, rfl⟩
    have hT2 : T < 65536 * 65536 := by
      rw [← hT]
      refine Nat.div_lt_of_lt_mul ?_
      rw [show 65536 ^ (n + 1) * (65536 * 65536) = 65536 ^ (n + 1 + 2) from (Nat.pow_add 65536 (n + 1) 2).symm]; exact hr3
    rw [hT] at gT
    obtain ⟨Q, hQ⟩ : ∃ Q, r' / y = Q := ⟨_, rfl⟩
    have hQ1 : Q < 65536 := by rw [← hQ]; exact Nat.div_lt_of_lt_mul (by omega)
    have hQ2 : Q * y ≤ r' := by rw [← hQ]; exact Nat.div_mul_le_self _ _
    have hQ3 : r' < (Q + 1) * y := by rw [← hQ]; exact (Nat.div_lt_iff_lt_mul hy0).1 (Nat.lt_succ_self _)
    have hG := guess_ge hy1 hQ2
    rw [hT, hw] at hG
    have gd1 := (dig_dgs r').get (dig y).length
    have gd2 := (dig_dgs r').get (n + 1)
    refine dre W 0 14 [] [.int .i64 ((dig r').getD (dig y).length 0), .int .i64 ((dig r').getD (n + 1) 0)] rfl rfl rfl ⟨k8.at rfl _, k9.at rfl _, trivial⟩ rfl ?_ (hp := by simp only [AllP, ew, addN, Int.toNat_natCast, true_and, and_true, Option.getD]; omega)
    rw [gT, ew]
    have hTw : T / w ≤ T := Nat.div_le_self _ _
    have hp65 : T / w < 65536 ∨ 65536 ≤ T / w := by omega
    have pl : ∀ s, s < 65536 → (dig (y * s)).length ≤ n + 3 := fun s hs => by
      rw [dig_len_le, show 65536 ^ (n + 3) = 65536 ^ (n + 2) * 65536 from Nat.pow_succ 65536 (n + 2)]
      exact Nat.mul_lt_mul'' hy2 hs
    refine' cutK (fun K => ?main) ?rest
    case main =>
      refine sp W 0 rfl rfl rfl (fun h4 => ?_) (fun h4 => ?_)
      · refine ce W 0 rfl rfl (l5Times_ok y 65535 (by omega) (by omega)) rfl ?_
        refine lp W 0 (σ := Nat) (fun s => [(8, .int .i64 u), (9, .fi .i64 (dig x)), (10, .fi .i64 (dig y)), (11, .int .i64 (dig y).length), (12, .sl 0 0 0 M), (13, .fi .i64 (dig r')), (14, .int .i64 t), (15, .int .i64 s), (16, .fi .i64 (dig (y * s)))]) (fun s => [.ints 0 .i64 q]) (fun s => s)
          (fun s => Q ≤ s ∧ s < 65536) 65535 [8, 9, 10, 11, 12, 13, 14, 15, 16] rfl rfl rfl ⟨by omega, by omega⟩ K.get
      · have eG : (T : Int) / w = ((T / w : Nat) : Int) := by simp
        have hlt : T / w < 65536 := by omega
        have k10 := l5Times_ok y (T / w) hlt (by omega)
        rw [← eG] at k10
        refine ce W 0 rfl rfl (k10) rfl ?_
        refine lp W 0 (σ := Nat) (fun s => [(8, .int .i64 u), (9, .fi .i64 (dig x)), (10, .fi .i64 (dig y)), (11, .int .i64 (dig y).length), (12, .sl 0 0 0 M), (13, .fi .i64 (dig r')), (14, .int .i64 t), (15, .int .i64 s), (16, .fi .i64 (dig (y * s)))]) (fun s => [.ints 0 .i64 q]) (fun s => s)
          (fun s => Q ≤ s ∧ s < 65536) (T / w) [8, 9, 10, 11, 12, 13, 14, 15, 16] rfl (by rw [← eG]; rfl) rfl ⟨hG, hlt⟩ K.get
    case rest =>
      rintro s ⟨hs1, hs2⟩ ih2
      have l4 := pl s hs2
      refine ce W 0 rfl rfl (l5Cmp_ok (y * s) r' (by omega) (by omega)) rfl ?_
      refine sp W 0 rfl rfl rfl (fun h4 => ?_) (fun h4 => ?_)
      · have h5 : r' < y * s := by unfold sgn at h4; omega
        have h6 : Q < s := by
          rcases Nat.lt_or_ge Q s with h | h
          · exact h
          · obtain rfl : s = Q := by omega
            rw [Nat.mul_comm] at h5; omega
        obtain ⟨s, rfl⟩ : ∃ m, s = m + 1 := ⟨s - 1, by omega⟩
        have k11 := l5Sub_ok (y * (s + 1)) y (by rw [Nat.mul_succ]; omega) (by omega)
        rw [Nat.mul_succ, Nat.add_sub_cancel, ← Nat.mul_succ] at k11
        refine ce W 0 rfl rfl (k11) rfl ?_
        have es : (((s + 1 : Nat) : Int) - 1) = (s : Int) := by omega
        have nx := ih2 s ⟨by omega, by omega⟩ (by omega)
        rw [← es] at nx
        refine bk W 0 [8, 9, 10, 11, 12, 13, 14, 15, 16] rfl rfl (nx)
      · have h5 : y * s ≤ r' := by unfold sgn at h4; omega
        obtain rfl : s = Q := by
          have h6 : s * y < (Q + 1) * y := by rw [Nat.mul_comm s]; omega
          have := Nat.lt_of_mul_lt_mul_right h6
          omega
        have k12 := l5Sub_ok r' (y * s) h5 (by omega)
        refine ce W 0 rfl rfl k12 rfl ?_ (hc := by simp only [AllC, hq, addN, Int.toNat_natCast, true_and, and_true]; omega)
        have eB : x / 65536 ^ t = y * (65536 * Q0 + s) + (r' - y * s) := by
          rw [hB, ← hA, Nat.mul_add, Nat.mul_add, Nat.mul_left_comm 65536 y Q0]
          omega
        have hlt2 : r' - y * s < y := by rw [Nat.succ_mul, Nat.mul_comm s] at hQ3; omega
        have eB1 : x / 65536 ^ t / y = 65536 * Q0 + s := by
          rw [eB, Nat.mul_add_div hy0, Nat.div_eq_of_lt hlt2, Nat.add_zero]
        have eB2 : x / 65536 ^ t % y = r' - y * s := by
          rw [eB, Nat.mul_add_mod, Nat.mod_eq_of_lt hlt2]
        have nx := ih (t, q.set t s) ⟨by dsimp only; omega, by simpa using hq, ?_, fun j => ?_⟩ (by dsimp only; omega)
        · dsimp only at nx
          rw [eB2] at nx
          refine bk W 0 [8, 9, 10, 11, 12, 13, 14] rfl rfl nx (hc := by simp only [AllC, hq, addN, Int.toNat_natCast, true_and, and_true, List.length_set]; omega)
        · dsimp only
          have hqt := (hd t).2.2 (by omega)
          rw [val_set _ _ _ (by omega), hqt, hvq, eB1, Nat.pow_succ, Nat.mul_add, Int.sub_zero, Nat.mul_assoc]
          simp
        · dsimp only
          rw [getD_set _ _ _ _ (by omega)]
          have := hd j
          split <;> omega
  · obtain rfl : t = 0 := by omega
    have dl : Dgs q := dgs_of_getD fun j hj => by have := hd j; omega
    simp only [Nat.pow_zero, Nat.div_one, Nat.one_mul] at hvq ⊢
    have hm := Nat.mod_lt a (show 0 < b by omega)
    have k8 := l5DivSmall_ok (x % y) u hu1 hu3 (by have := dig_len_mono (Nat.mod_le x y); omega)
    rw [hmod, Nat.mul_div_cancel _ hu1] at k8
    rw [hmod]
    refine ce W 0 rfl rfl (k8) rfl ?_
    refine cf W 0 [0] [17] rfl rfl rfl rfl rfl rfl (l5Trim_ok q (by omega)) rfl ?_
    rw [trimL_dig dl, hvq, Int.toNat_natCast, hdiv]
    refine rp W 0 rfl rfl rfl (.refl)
end Pf
/- A temporary's value said otherwise. -/
namespace Pf
open Go
variable {P : Program} {TT : TypeId → Option TI} {f N n0 : Nat} {k : List Item} {T : Env} {H : AHeap} {R : AV → AHeap → Prop}
/-- The temporary 'd' is said to hold u, which is so wherever it holds v. -/
theorem go_sub (d : Nat) (u : AV) {v : AV} {T1 : Env} (e : getM T d = some v) (hs : Sub v u) (e1 : putM d u T = some T1) (h : AGo P f N n0 k T1 H R) : AGo P f N n0 k T H R :=
  fun FM β b cs a w a1 a2 a3 a4 hT hH hl => h FM β b cs a w a1 a2 a3 a4 (hT.refine e1 (hs _ _ _ (hT _ _ e))) hH hl
end Pf
/- Fractions: the model's own parts -/
namespace Pf
open Go Go.Proofs
theorem l5Gcd_ok (a b : Nat) (ha : (dig a).length ≤ 800000) (hb : (dig b).length ≤ 800000) : AFunP Tryd.prog 133 [.fi .i64 (dig a), .fi .i64 (dig b)] (· = .fi .i64 (dig (Nat.gcd a b))) := by
  refine afun_of Tryd.func133 Tryd.call133 rfl Tryd.ntmps133 rfl ?_
  have W : Walk Tryd.prog TT 133 _ := Walk.of TT_ok Tryd.func133 Tryd.results133
  have k1 := l5Trim_ok (dig a) (by omega)
  have k2 := l5Trim_ok (dig b) (by omega)
  rw [trimL_dig (dig_dgs _), val_dig, Int.toNat_natCast] at k1 k2
  refine ce W 0 rfl rfl (k1) rfl ?_
  refine ce W 0 rfl rfl (k2) rfl ?_
  refine lp W 0 (σ := Nat × Nat) (fun s => [(5, .fi .i64 (dig s.1)), (6, .fi .i64 (dig s.2))]) (fun _ => []) (fun s => s.2)
    (fun s => Nat.gcd s.1 s.2 = Nat.gcd a b ∧ (dig s.1).length ≤ 800000 ∧ (dig s.2).length ≤ 800000) (a, b) [5, 6] rfl rfl rfl ⟨rfl, ha, hb⟩ ?_
  rintro ⟨x, y⟩ ⟨h1, h2, h3⟩ ih
  dsimp only at h1 h2 h3 ih ⊢
  refine sp W 0 rfl rfl rfl (fun h4 => ?_) (fun h4 => ?_)
  · have hy : y ≠ 0 := by rintro rfl; simp [dig_zero] at h4
    refine ce W 0 rfl rfl (l5Div_ok x y hy (by omega) (by omega)) rfl ?_
    have hm := Nat.mod_lt x (show 0 < y by omega)
    refine bk W 0 [5, 6] rfl rfl (ih (y, x % y) ⟨by dsimp only; rw [← h1, Nat.gcd_comm, ← Nat.gcd_rec, Nat.gcd_comm], h3, Nat.le_trans (dig_len_mono (Nat.le_of_lt hm)) h3⟩ hm)
  · have hy : y = 0 := dig_nil.1 (List.eq_nil_of_length_eq_zero (by omega))
    subst hy
    rw [Nat.gcd_zero_right] at h1
    refine rp W 0 rfl rfl rfl (.fi (by rw [h1]))
theorem bitL_len {a : Nat} : bitL a ≤ 16 * (dig a).length := by
  rw [bitL_lt, show (2 : Nat) ^ (16 * (dig a).length) = (2 ^ 16) ^ (dig a).length from Nat.pow_mul 2 16 _]
  exact dig_lt (Nat.le_refl _)
theorem l6One_ok (l : List Int) (h : l.length ≤ 1000000000) : AFunP Tryd.prog 139 [.fi .i64 l] (· = .pr (l = [1])) := by
  refine afun_of Tryd.func139 Tryd.call139 rfl Tryd.ntmps139 rfl ?_
  have W : Walk Tryd.prog TT 139 _ := Walk.of TT_ok Tryd.func139 Tryd.results139
  refine sp W 0 rfl rfl rfl (fun h1 => ?_) (fun h1 => ?_)
  · obtain ⟨d, rfl⟩ : ∃ d, l = [d] := List.length_eq_one_iff.1 (by omega)
    refine rp W 0 rfl rfl rfl (.pr (by simp))
  · refine rp W 0 rfl rfl rfl (.no (by rintro rfl; simp at h1))
theorem specFracOk_ok (p : Prop) (t u : List Int) (ht : t.length ≤ 9223372036854775806) (hu : u.length ≤ 9223372036854775806) : AFunP Tryd.prog 87 [frF p t u] (· = .pr (frOk p t u)) := by
  refine afun_of Tryd.func87 Tryd.call87 rfl Tryd.ntmps87 rfl ?_
  have W : Walk Tryd.prog TT 87 _ := Walk.of TT_ok Tryd.func87 Tryd.results87
  refine ce W 0 rfl rfl (specNatOk_ok t ht) rfl ?_
  refine sp W 0 rfl rfl rfl (fun h1 => ?_) (fun h1 => ?_)
  · refine rp W 0 rfl rfl rfl (.no (fun h => h1 h.1))
  · have h1 := Classical.not_not.1 h1
    refine ce W 0 rfl rfl (specNatOk_ok u hu) rfl ?_
    refine sp W 0 rfl rfl rfl (fun h2 => ?_) (fun h2 => ?_)
    · refine rp W 0 rfl rfl rfl (.no (fun h => h2 h.2.1))
    · have h2 := Classical.not_not.1 h2
      have l1 := h1.1
      have l2 := h2.1
      obtain ⟨a, rfl, ha⟩ := natOk_dig h1
      obtain ⟨b, rfl, hb⟩ := natOk_dig h2
      have va : (val (dig a)).toNat = a := by rw [val_dig]; simp
      have vb : (val (dig b)).toNat = b := by rw [val_dig]; simp
      unfold frOk
      rw [va, vb]
      have hb0 : ¬ ((dig b).length : Int) = 0 → 0 < b := fun h => by
        rcases Nat.eq_zero_or_pos b with h0 | h0
        · subst h0; simp [dig_zero] at h
        · exact h0
      have g1 : dig (Nat.gcd a b) = [1] → Nat.gcd a b = 1 := fun h => dig_inj (h.trans dig_one.symm)
      refine sp W 0 rfl rfl rfl (fun h3 => ?_) (fun h3 => ?_)
      · refine rp W 0 rfl rfl rfl (.no (fun h => h.2.2.1 (List.eq_nil_of_length_eq_zero (by omega))))
      · refine sp W 0 rfl rfl rfl (fun h4 => ?_) (fun h4 => ?_)
        · refine sp W 0 rfl rfl rfl (fun h5 => ?_) (fun h5 => ?_)
          · refine rp W 0 rfl rfl rfl (.no (fun h => h.2.2.2.1 (List.eq_nil_of_length_eq_zero (by omega)) h5))
          · refine ce W 0 rfl rfl (l5Gcd_ok a b (by omega) (by omega)) rfl ?_
            refine ce W 0 rfl rfl (l6One_ok (dig (Nat.gcd a b)) (Nat.le_trans (dig_len_mono (Nat.gcd_le_right a (hb0 h3))) (by omega))) rfl ?_
            refine rp W 0 rfl rfl rfl (.pr ⟨fun h => ⟨h1, h2, fun h => h3 (by rw [h]; rfl), fun _ => h5, g1 h⟩, fun h => by rw [h.2.2.2.2, dig_one]⟩)
        · refine ce W 0 rfl rfl (l5Gcd_ok a b (by omega) (by omega)) rfl ?_
          refine ce W 0 rfl rfl (l6One_ok (dig (Nat.gcd a b)) (Nat.le_trans (dig_len_mono (Nat.gcd_le_right a (hb0 h3))) (by omega))) rfl ?_
          refine rp W 0 rfl rfl rfl (.pr ⟨fun h => ⟨h1, h2, fun h => h3 (by rw [h]; rfl), fun h => absurd (by rw [h]; rfl) h4, g1 h⟩, fun h => by rw [h.2.2.2.2, dig_one]⟩)
open Classical in
/-- A fraction of a and b, in lowest terms, if it has not too many digits. -/
noncomputable def made (p : Prop) (a b : Nat) : AV := if (dig (a / Nat.gcd a b)).length ≤ 256 ∧ (dig (b / Nat.gcd a b)).length ≤ 256 then .tup [frF (p ∧ a ≠ 0) (dig (a / Nat.gcd a b)) (dig (b / Nat.gcd a b)), .pr True] else .tup [frF False [] [], .pr False]
theorem l6Make_ok (p : Prop) (a b : Nat) (hb : b ≠ 0) (ha : (dig a).length ≤ 100000) (hbl : (dig b).length ≤ 100000) : AFunP Tryd.prog 79 [.pr p, .fi .i64 (dig a), .fi .i64 (dig b)] (· = made p a b) := by
  refine afun_of Tryd.func79 Tryd.call79 rfl Tryd.ntmps79 rfl ?_
  have W : Walk Tryd.prog TT 79 _ := Walk.of TT_ok Tryd.func79 Tryd.results79
  have hb1 : 0 < b := by omega
  refine sp W 0 rfl rfl rfl (fun h1 => ?_) (fun h1 => ?_)
  · have h0 : a = 0 := dig_nil.1 (List.eq_nil_of_length_eq_zero (by omega))
    subst h0
    have e : made p 0 b = .tup [frF (p ∧ 0 ≠ 0) (dig 0) (dig 1), .pr True] := by
      unfold made
      rw [Nat.gcd_zero_left, Nat.zero_div, Nat.div_self hb1, if_pos ⟨by simp [dig_zero], by simp [dig_one]⟩]
    rw [e, dig_zero, dig_one]
    refine rp W 0 rfl rfl rfl (.tup ⟨.agg ⟨.no (by simp), .nils_fi, .refl, trivial⟩, .yes trivial, trivial⟩)
  · have h0 : a ≠ 0 := fun h => h1 (by rw [h, dig_zero]; rfl)
    have hg := dig_len_mono (Nat.gcd_le_right a hb1)
    have hg0 : Nat.gcd a b ≠ 0 := by have := Nat.gcd_pos_of_pos_right a hb1; omega
    have hla := dig_len_mono (Nat.div_le_self a (Nat.gcd a b))
    have hlb := dig_len_mono (Nat.div_le_self b (Nat.gcd a b))
    refine ce W 0 rfl rfl (l5Gcd_ok a b (by omega) (by omega)) rfl ?_
    refine ce W 0 rfl rfl (l5Div_ok a (Nat.gcd a b) hg0 (by omega) (by omega)) rfl ?_
    refine ce W 0 rfl rfl (l5Div_ok b (Nat.gcd a b) hg0 (by omega) (by omega)) rfl ?_
    have no : ¬ ((dig (a / Nat.gcd a b)).length ≤ 256 ∧ (dig (b / Nat.gcd a b)).length ≤ 256) → made p a b = .tup [frF False [] [], .pr False] := fun h => if_neg h
    refine sp W 0 rfl rfl rfl (fun h2 => ?_) (fun h2 => ?_)
    · rw [no (by omega)]
      refine rp W 0 rfl rfl rfl (.tup ⟨.agg ⟨.no id, .nils_fi, .nils_fi, trivial⟩, .no id, trivial⟩)
    · refine sp W 0 rfl rfl rfl (fun h3 => ?_) (fun h3 => ?_)
      · rw [no (by omega)]
        refine rp W 0 rfl rfl rfl (.tup ⟨.agg ⟨.no id, .nils_fi, .nils_fi, trivial⟩, .no id, trivial⟩)
      · have e : made p a b = _ := if_pos ⟨by omega, by omega⟩
        rw [e]
        refine rp W 0 rfl rfl rfl (.tup ⟨.agg ⟨.pr (by simp [h0]), .refl, .refl, trivial⟩, .yes trivial, trivial⟩)
theorem l6Neg_ok (p : Prop) (t u : List Int) (ht : natOk t) (hu : natOk u) : AFunP Tryd.prog 89 [frF p t u] (· = frF (¬ p ∧ t ≠ []) t u) := by
  refine afun_of Tryd.func89 Tryd.call89 rfl Tryd.ntmps89 rfl ?_
  have W : Walk Tryd.prog TT 89 _ := Walk.of TT_ok Tryd.func89 Tryd.results89
  have l1 := ht.1
  have l2 := hu.1
  have k1 := l5Trim_ok t (by omega)
  have k2 := l5Trim_ok u (by omega)
  obtain ⟨a, rfl, ha⟩ := natOk_dig ht
  obtain ⟨b, rfl, hb⟩ := natOk_dig hu
  rw [trimL_dig (dig_dgs _), val_dig, Int.toNat_natCast] at k1 k2
  by_cases hp : p
  · refine dre W 0 15 [(6, false)] [.fi .i64 (dig a), .fi .i64 (dig b)] rfl rfl rfl ⟨k1.at rfl _, k2.at rfl _, trivial⟩ rfl ?_
    refine rp W 0 rfl rfl rfl (.agg ⟨.no (fun h => h.1 hp), .refl, .refl, trivial⟩)
  · refine dre W 0 15 [(6, true)] [.fi .i64 (dig a), .fi .i64 (dig b)] rfl rfl rfl ⟨k1.at rfl _, k2.at rfl _, trivial⟩ rfl ?_
    refine rp W 0 rfl rfl rfl (.agg ⟨.pr (by rw [len_nil]; exact ⟨fun h => ⟨hp, h⟩, fun h => h.2⟩), .refl, .refl, trivial⟩)
theorem l6Sum_ok (p q : Prop) (a b c d : Nat) (ha : (dig a).length ≤ 1000) (hbl : (dig b).length ≤ 1000) (hc : (dig c).length ≤ 1000) (hdl : (dig d).length ≤ 1000) :
    AFunP Tryd.prog 88 [frF p (dig a) (dig b), frF q (dig c) (dig d)] (· = .tup [.pr (sumP p q (a * d) (c * b)), .fi .i64 (dig (sumT p q (a * d) (c * b))), .fi .i64 (dig (b * d))]) := by
  refine afun_of Tryd.func88 Tryd.call88 rfl Tryd.ntmps88 rfl ?_
  have W : Walk Tryd.prog TT 88 _ := Walk.of TT_ok Tryd.func88 Tryd.results88
  have l1 : (dig (a * d)).length ≤ 1000 + 1000 := dig_len_mul ha hdl
  have l2 : (dig (c * b)).length ≤ 1000 + 1000 := dig_len_mul hc hbl
  have l3 : (dig (b * d)).length ≤ 1000 + 1000 := dig_len_mul hbl hdl
  refine ce W 0 rfl rfl (l5Mul_ok a d (by omega) (by omega)) rfl ?_
  refine ce W 0 rfl rfl (l5Mul_ok c b (by omega) (by omega)) rfl ?_
  refine ce W 0 rfl rfl (l5Mul_ok b d (by omega) (by omega)) rfl ?_
  have l4 := dig_len_add l1 l2
  refine sp W 0 rfl rfl rfl (fun h1 => ?_) (fun h1 => ?_)
  · have e : sumT p q (a * d) (c * b) = a * d + c * b := by simp [sumT, h1]
    have e2 : p ↔ sumP p q (a * d) (c * b) := by unfold sumP; split <;> simp [h1]
    refine phg W 0 8 [] rfl rfl (fun PW => ?_)
    refine phe PW 0 [] [.fi .i64 (dig (a * d + c * b))] rfl ⟨(l5Add_ok (a * d) (c * b) (by omega) (by omega)).at rfl _, trivial⟩ rfl ?_
    refine rp W 0 rfl rfl rfl (.tup ⟨.pr e2, .fi (by rw [e]), .refl, trivial⟩)
  · refine ce W 0 rfl rfl (l5Cmp_ok (a * d) (c * b) (by omega) (by omega)) rfl ?_
    refine sp W 0 rfl rfl rfl (fun h2 => ?_) (fun h2 => ?_)
    · have h3 : c * b ≤ a * d := by unfold sgn at h2; omega
      have e : sumT p q (a * d) (c * b) = a * d - c * b := by simp [sumT, h1, h3]
      have e2 : p ↔ sumP p q (a * d) (c * b) := by simp [sumP, h3]
      refine phg W 0 8 [] rfl rfl (fun PW => ?_)
      refine phe PW 0 [] [.fi .i64 (dig (a * d - c * b))] rfl ⟨(l5Sub_ok (a * d) (c * b) h3 (by omega)).at rfl _, trivial⟩ rfl ?_
      refine rp W 0 rfl rfl rfl (.tup ⟨.pr e2, .fi (by rw [e]), .refl, trivial⟩)
    · have h3 : ¬ c * b ≤ a * d := by unfold sgn at h2; omega
      have e : sumT p q (a * d) (c * b) = c * b - a * d := by simp [sumT, h1, h3]
      have e2 : q ↔ sumP p q (a * d) (c * b) := by simp [sumP, h3]
      refine phg W 0 8 [] rfl rfl (fun PW => ?_)
      refine phe PW 0 [] [.fi .i64 (dig (c * b - a * d))] rfl ⟨(l5Sub_ok (c * b) (a * d) (by omega) (by omega)).at rfl _, trivial⟩ rfl ?_
      refine rp W 0 rfl rfl rfl (.tup ⟨.pr e2, .fi (by rw [e]), .refl, trivial⟩)
end Pf
/- Fractions: the model's sums and products -/
namespace Pf
open Go Go.Proofs
open Classical in
/-- A fraction and true; nothing and false. -/
noncomputable def resF (ok p : Prop) (t u : List Int) : AV := if ok then .tup [frF p t u, .pr True] else .tup [frF False [] [], .pr False]
theorem resF_no {ok p : Prop} {t u : List Int} (h : ¬ ok) : resF ok p t u = .tup [frF False [] [], .pr False] := if_neg h
theorem resF_yes {ok p : Prop} {t u : List Int} (h : ok) : resF ok p t u = .tup [frF p t u, .pr True] := if_pos h
theorem sub_noF : Sub (.tup [.agg [.bool false, .nils, .nils], .bool false]) (.tup [frF False [] [], .pr False]) := .tup ⟨.agg ⟨.no id, .nils_fi, .nils_fi, trivial⟩, .no id, trivial⟩
/-- The number of digits. -/
def nm (l : List Int) : Nat := (val l).toNat
theorem nm_dig (a : Nat) : nm (dig a) = a := by unfold nm; rw [val_dig]; simp
/-- In lowest terms. -/
def lT (a b : Nat) : List Int := dig (a / Nat.gcd a b)
def lB (a b : Nat) : List Int := dig (b / Nat.gcd a b)
def fits (a b : Nat) : Prop := (lT a b).length ≤ 256 ∧ (lB a b).length ≤ 256
theorem made_eq (p : Prop) (a b : Nat) : made p a b = resF (fits a b) (p ∧ a ≠ 0) (lT a b) (lB a b) := by
  unfold made
  by_cases h : fits a b
  · rw [resF_yes h]; exact if_pos h
  · rw [resF_no h]; exact if_neg h
theorem frOk_dig {p : Prop} {t u : List Int} (h : frOk p t u) : ∃ a b : Nat, t = dig a ∧ u = dig b ∧ (dig a).length ≤ 256 ∧ (dig b).length ≤ 256 ∧ b ≠ 0 ∧ (a = 0 → ¬ p) ∧ Nat.gcd a b = 1 := by
  obtain ⟨a, rfl, ha⟩ := natOk_dig h.1
  obtain ⟨b, rfl, hb⟩ := natOk_dig h.2.1
  refine ⟨a, b, rfl, rfl, ha, hb, fun h0 => h.2.2.1 (by rw [h0, dig_zero]), fun h0 => h.2.2.2.1 (by rw [h0, dig_zero]), ?_⟩
  have := h.2.2.2.2
  rw [val_dig, val_dig] at this
  simpa using this
noncomputable def negR (p : Prop) (t u : List Int) : AV := resF (frOk p t u) (¬ p ∧ t ≠ []) t u
noncomputable def mulR (p : Prop) (t u : List Int) (q : Prop) (x y : List Int) : AV :=
  resF ((frOk p t u ∧ frOk q x y) ∧ fits (nm t * nm x) (nm u * nm y)) (¬ (p ↔ q) ∧ nm t * nm x ≠ 0) (lT (nm t * nm x) (nm u * nm y)) (lB (nm t * nm x) (nm u * nm y))
noncomputable def divR (p : Prop) (t u : List Int) (q : Prop) (x y : List Int) : AV :=
  resF ((frOk p t u ∧ frOk q x y ∧ x ≠ []) ∧ fits (nm t * nm y) (nm u * nm x)) (¬ (p ↔ q) ∧ nm t * nm y ≠ 0) (lT (nm t * nm y) (nm u * nm x)) (lB (nm t * nm y) (nm u * nm x))
noncomputable def sT (p : Prop) (t u : List Int) (q : Prop) (x y : List Int) : Nat := sumT p q (nm t * nm y) (nm x * nm u)
noncomputable def sP (p : Prop) (t u : List Int) (q : Prop) (x y : List Int) : Prop := sumP p q (nm t * nm y) (nm x * nm u)
noncomputable def addR (p : Prop) (t u : List Int) (q : Prop) (x y : List Int) : AV :=
  resF ((frOk p t u ∧ frOk q x y) ∧ fits (sT p t u q x y) (nm u * nm y)) (sP p t u q x y ∧ sT p t u q x y ≠ 0) (lT (sT p t u q x y) (nm u * nm y)) (lB (sT p t u q x y) (nm u * nm y))
theorem sT_len {p q : Prop} {a b c d : Nat} (ha : (dig a).length ≤ 1000) (hbl : (dig b).length ≤ 1000) (hc : (dig c).length ≤ 1000) (hdl : (dig d).length ≤ 1000) : (dig (sumT p q (a * d) (c * b))).length ≤ 2001 := by
  have l1 : (dig (a * d)).length ≤ 1000 + 1000 := dig_len_mul ha hdl
  have l2 : (dig (c * b)).length ≤ 1000 + 1000 := dig_len_mul hc hbl
  have l4 := dig_len_add l1 l2
  have : sumT p q (a * d) (c * b) ≤ a * d + c * b := by unfold sumT; split <;> (try split) <;> omega
  exact Nat.le_trans (dig_len_mono this) l4
theorem specFracMul_ok (p q : Prop) (t u x y : List Int) (ht : t.length ≤ 1048576) (hu : u.length ≤ 1048576) (hx : x.length ≤ 1048576) (hy : y.length ≤ 1048576) : AFunP Tryd.prog 107 [frF p t u, frF q x y] (· = mulR p t u q x y) := by
  refine afun_of Tryd.func107 Tryd.call107 rfl Tryd.ntmps107 rfl ?_
  have W : Walk Tryd.prog TT 107 _ := Walk.of TT_ok Tryd.func107 Tryd.results107
  refine ce W 0 rfl rfl (specFracOk_ok p t u (by omega) (by omega)) rfl ?_
  refine sp W 0 rfl rfl rfl (fun h1 => ?_) (fun h1 => ?_)
  · unfold mulR; rw [resF_no (fun h => h1 h.1.1)]
    refine rp W 0 rfl rfl rfl (sub_noF)
  · refine ce W 0 rfl rfl (specFracOk_ok q x y (by omega) (by omega)) rfl ?_
    have h1 := Classical.not_not.1 h1
    refine sp W 0 rfl rfl rfl (fun h2 => ?_) (fun h2 => ?_)
    · unfold mulR; rw [resF_no (fun h => h2 h.1.2)]
      refine rp W 0 rfl rfl rfl (sub_noF)
    · have h2 := Classical.not_not.1 h2
      have e : mulR p t u q x y = made (¬ (p ↔ q)) (nm t * nm x) (nm u * nm y) := by
        unfold mulR; rw [made_eq]; congr 1
        exact propext ⟨fun h => h.2, fun h => ⟨⟨h1, h2⟩, h⟩⟩
      obtain ⟨a, b, rfl, rfl, ha, hb, hb0, hap, hab⟩ := frOk_dig h1
      obtain ⟨c, d, rfl, rfl, hc, hd, hd0, hcq, hcd⟩ := frOk_dig h2
      rw [e, nm_dig, nm_dig, nm_dig, nm_dig]
      have l1 : (dig (a * c)).length ≤ 1000 + 1000 := dig_len_mul (by omega) (by omega)
      have l2 : (dig (b * d)).length ≤ 1000 + 1000 := dig_len_mul (by omega) (by omega)
      have k := l6Make_ok (¬ (p ↔ q)) (a * c) (b * d) (Nat.mul_ne_zero hb0 hd0) (by omega) (by omega)
      rw [made_eq] at k ⊢
      generalize lT (a * c) (b * d) = T at *
      generalize lB (a * c) (b * d) = U at *
      by_cases hf : fits (a * c) (b * d)
      · rw [resF_yes hf] at k ⊢
        refine dre W 0 18 [] [.fi .i64 (dig (a * c)), .fi .i64 (dig (b * d)), .tup [frF (¬ (p ↔ q) ∧ a * c ≠ 0) T U, .pr True]] rfl rfl rfl ⟨(l5Mul_ok a c (by omega) (by omega)).at rfl _, (l5Mul_ok b d (by omega) (by omega)).at rfl _, k.at rfl _, trivial⟩ rfl ?_
        refine rp W 0 rfl rfl rfl (.refl)
      · rw [resF_no hf] at k ⊢
        refine dre W 0 18 [] [.fi .i64 (dig (a * c)), .fi .i64 (dig (b * d)), .tup [frF False [] [], .pr False]] rfl rfl rfl ⟨(l5Mul_ok a c (by omega) (by omega)).at rfl _, (l5Mul_ok b d (by omega) (by omega)).at rfl _, k.at rfl _, trivial⟩ rfl ?_
        refine rp W 0 rfl rfl rfl (.refl)
theorem specFracAdd_ok (p q : Prop) (t u x y : List Int) (ht : t.length ≤ 1048576) (hu : u.length ≤ 1048576) (hx : x.length ≤ 1048576) (hy : y.length ≤ 1048576) : AFunP Tryd.prog 106 [frF p t u, frF q x y] (· = addR p t u q x y) := by
  refine afun_of Tryd.func106 Tryd.call106 rfl Tryd.ntmps106 rfl ?_
  have W : Walk Tryd.prog TT 106 _ := Walk.of TT_ok Tryd.func106 Tryd.results106
  refine ce W 0 rfl rfl (specFracOk_ok p t u (by omega) (by omega)) rfl ?_
  refine sp W 0 rfl rfl rfl (fun h1 => ?_) (fun h1 => ?_)
  · unfold addR; rw [resF_no (fun h => h1 h.1.1)]
    refine rp W 0 rfl rfl rfl (sub_noF)
  · refine ce W 0 rfl rfl (specFracOk_ok q x y (by omega) (by omega)) rfl ?_
    have h1 := Classical.not_not.1 h1
    refine sp W 0 rfl rfl rfl (fun h2 => ?_) (fun h2 => ?_)
    · unfold addR; rw [resF_no (fun h => h2 h.1.2)]
      refine rp W 0 rfl rfl rfl (sub_noF)
    · have h2 := Classical.not_not.1 h2
      have e : addR p t u q x y = made (sP p t u q x y) (sT p t u q x y) (nm u * nm y) := by
        unfold addR; rw [made_eq]; congr 1
        exact propext ⟨fun h => h.2, fun h => ⟨⟨h1, h2⟩, h⟩⟩
      obtain ⟨a, b, rfl, rfl, ha, hb, hb0, hap, hab⟩ := frOk_dig h1
      obtain ⟨c, d, rfl, rfl, hc, hd, hd0, hcq, hcd⟩ := frOk_dig h2
      rw [e]
      unfold sT sP
      rw [nm_dig, nm_dig, nm_dig, nm_dig]
      have l1 := sT_len (p := p) (q := q) (a := a) (b := b) (c := c) (d := d) (by omega) (by omega) (by omega) (by omega)
      have l2 : (dig (b * d)).length ≤ 1000 + 1000 := dig_len_mul (by omega) (by omega)
      have k := l6Make_ok (sumP p q (a * d) (c * b)) (sumT p q (a * d) (c * b)) (b * d) (Nat.mul_ne_zero hb0 hd0) (by omega) (by omega)
      refine ce W 0 rfl rfl (l6Sum_ok p q a b c d (by omega) (by omega) (by omega) (by omega)) rfl ?_
      rw [made_eq] at k ⊢
      by_cases hf : fits (sumT p q (a * d) (c * b)) (b * d)
      · rw [resF_yes hf] at k ⊢
        refine ce W 0 rfl rfl (k) rfl ?_
        refine rp W 0 rfl rfl rfl (.refl)
      · rw [resF_no hf] at k ⊢
        refine ce W 0 rfl rfl (k) rfl ?_
        refine rp W 0 rfl rfl rfl (.refl)
theorem frOk_neg {q : Prop} {x y : List Int} (h : frOk q x y) : frOk (¬ q ∧ x ≠ []) x y := ⟨h.1, h.2.1, h.2.2.1, fun h0 h1 => h1.2 h0, h.2.2.2.2⟩
noncomputable def subR (p : Prop) (t u : List Int) (q : Prop) (x y : List Int) : AV :=
  resF ((frOk p t u ∧ frOk q x y) ∧ fits (sT p t u (¬ q ∧ x ≠ []) x y) (nm u * nm y)) (sP p t u (¬ q ∧ x ≠ []) x y ∧ sT p t u (¬ q ∧ x ≠ []) x y ≠ 0) (lT (sT p t u (¬ q ∧ x ≠ []) x y) (nm u * nm y)) (lB (sT p t u (¬ q ∧ x ≠ []) x y) (nm u * nm y))
theorem subR_eq {p q : Prop} {t u x y : List Int} (h : frOk q x y) : subR p t u q x y = addR p t u (¬ q ∧ x ≠ []) x y := by
  unfold subR addR; congr 1
  exact propext ⟨fun k => ⟨⟨k.1.1, frOk_neg h⟩, k.2⟩, fun k => ⟨⟨k.1.1, h⟩, k.2⟩⟩
theorem specFracSub_ok (p q : Prop) (t u x y : List Int) (ht : t.length ≤ 1048576) (hu : u.length ≤ 1048576) (hx : x.length ≤ 1048576) (hy : y.length ≤ 1048576) : AFunP Tryd.prog 51 [frF p t u, frF q x y] (· = subR p t u q x y) := by
  refine afun_of Tryd.func51 Tryd.call51 rfl Tryd.ntmps51 rfl ?_
  have W : Walk Tryd.prog TT 51 _ := Walk.of TT_ok Tryd.func51 Tryd.results51
  refine ce W 0 rfl rfl (specFracOk_ok p t u (by omega) (by omega)) rfl ?_
  refine sp W 0 rfl rfl rfl (fun h1 => ?_) (fun h1 => ?_)
  · unfold subR; rw [resF_no (fun h => h1 h.1.1)]
    refine rp W 0 rfl rfl rfl (sub_noF)
  · refine ce W 0 rfl rfl (specFracOk_ok q x y (by omega) (by omega)) rfl ?_
    have h1 := Classical.not_not.1 h1
    refine sp W 0 rfl rfl rfl (fun h2 => ?_) (fun h2 => ?_)
    · unfold subR; rw [resF_no (fun h => h2 h.1.2)]
      refine rp W 0 rfl rfl rfl (sub_noF)
    · have h2 := Classical.not_not.1 h2
      rw [subR_eq h2]
      have k0 := l6Neg_ok q x y h2.1 h2.2.1
      have k := specFracAdd_ok p (¬ q ∧ x ≠ []) t u x y ht hu hx hy
      unfold addR at k ⊢
      revert k
      generalize ((frOk p t u ∧ frOk (¬ q ∧ x ≠ []) x y) ∧ fits _ _) = ok
      generalize lT _ _ = T
      generalize lB _ _ = U
      generalize (sP p t u _ x y ∧ _) = p'
      intro k
      by_cases hf : ok
      · rw [resF_yes hf] at k ⊢
        refine dre W 0 6 [] [frF (¬ q ∧ x ≠ []) x y, .tup [frF p' T U, .pr True]] rfl rfl rfl ⟨k0.at rfl _, k.at rfl _, trivial⟩ rfl ?_
        refine rp W 0 rfl rfl rfl (.refl)
      · rw [resF_no hf] at k ⊢
        refine dre W 0 6 [] [frF (¬ q ∧ x ≠ []) x y, .tup [frF False [] [], .pr False]] rfl rfl rfl ⟨k0.at rfl _, k.at rfl _, trivial⟩ rfl ?_
        refine rp W 0 rfl rfl rfl (.refl)
end Pf
/- Fractions: impl's exported sums and products -/
namespace Pf
open Go Go.Proofs
/-- What a function over fractions answers: whether there is a fraction, and which. -/
structure FRes where
  ok : Prop
  p : Prop
  t : List Int
  u : List Int
noncomputable def FRes.av (r : FRes) : AV := resF r.ok r.p r.t r.u
noncomputable def negS (p : Prop) (t u : List Int) : FRes := ⟨frOk p t u, ¬ p ∧ t ≠ [], t, u⟩
noncomputable def mulS (p : Prop) (t u : List Int) (q : Prop) (x y : List Int) : FRes :=
  ⟨(frOk p t u ∧ frOk q x y) ∧ fits (nm t * nm x) (nm u * nm y), ¬ (p ↔ q) ∧ nm t * nm x ≠ 0, lT (nm t * nm x) (nm u * nm y), lB (nm t * nm x) (nm u * nm y)⟩
noncomputable def divS (p : Prop) (t u : List Int) (q : Prop) (x y : List Int) : FRes :=
  ⟨(frOk p t u ∧ frOk q x y ∧ x ≠ []) ∧ fits (nm t * nm y) (nm u * nm x), ¬ (p ↔ q) ∧ nm t * nm y ≠ 0, lT (nm t * nm y) (nm u * nm x), lB (nm t * nm y) (nm u * nm x)⟩
noncomputable def addS (p : Prop) (t u : List Int) (q : Prop) (x y : List Int) : FRes :=
  ⟨(frOk p t u ∧ frOk q x y) ∧ fits (sT p t u q x y) (nm u * nm y), sP p t u q x y ∧ sT p t u q x y ≠ 0, lT (sT p t u q x y) (nm u * nm y), lB (sT p t u q x y) (nm u * nm y)⟩
noncomputable def subS (p : Prop) (t u : List Int) (q : Prop) (x y : List Int) : FRes :=
  ⟨(frOk p t u ∧ frOk q x y) ∧ fits (sT p t u (¬ q ∧ x ≠ []) x y) (nm u * nm y), sP p t u (¬ q ∧ x ≠ []) x y ∧ sT p t u (¬ q ∧ x ≠ []) x y ≠ 0, lT (sT p t u (¬ q ∧ x ≠ []) x y) (nm u * nm y), lB (sT p t u (¬ q ∧ x ≠ []) x y) (nm u * nm y)⟩
/-- A function answers so, in new memory. -/
structure ImplF (g : FuncId) (args : List AV) (r : FRes) : Prop where
  no : ¬ r.ok → AFunP Tryd.prog g args (· = nilF)
  yes : r.ok → AFunN Tryd.prog g args (NewFT r.p r.t r.u)
  lt : r.ok → r.t.length ≤ 256
  lu : r.ok → r.u.length ≤ 256
theorem ImplF.fz {g : FuncId} {args : List AV} {r : FRes} (h : ImplF g args r) {ss : List Prop} (e : mapF (frz (fun _ => true) [] 9) args = some (ss, args)) (hs : AllC ss) (hc : cloL args = true) : AFunP Tryd.prog g args (· = r.av) := by
  by_cases ho : r.ok
  · refine (h.yes ho).toP e hs hc fun u H2 ⟨h1, h2⟩ => ?_
    subst h1; subst h2
    exact ⟨_, _, .tup [frF r.p r.t r.u, .pr True], rfl, ⟨⟨trivial, rfl, rfl⟩, rfl, rfl⟩, .refl, rfl, (resF_yes ho).symm⟩
  · have e : r.av = _ := resF_no ho
    rw [e]; exact (h.no ho).subv sub_noF rfl
theorem given_no (p : Prop) (t u : List Int) (h : ¬ (t.length ≤ 256 ∧ u.length ≤ 256)) (ht : t.length ≤ 1048576) (hu : u.length ≤ 1048576) : AFunP Tryd.prog 75 [frF p t u] (· = nilF) := by
  refine afun_of Tryd.func75 Tryd.call75 rfl Tryd.ntmps75 rfl ?_
  have W : Walk Tryd.prog TT 75 _ := Walk.of TT_ok Tryd.func75 Tryd.results75
  refine sp W 0 rfl rfl rfl (fun h1 => ?_) (fun h1 => ?_)
  · refine rp W 0 rfl rfl rfl (.refl)
  · refine sp W 0 rfl rfl rfl (fun h2 => ?_) (fun h2 => ?_)
    · refine rp W 0 rfl rfl rfl (.refl)
    · exact absurd ⟨by omega, by omega⟩ h
end Pf
/- Fractions as rational numbers -/
namespace Pf
open Go Go.Proofs
/-- Fractions as rational numbers. -/
def dt (r : Rat) : List Int := dig r.num.natAbs
def db (r : Rat) : List Int := dig r.den
def frR (r : Rat) : AV := frF (r < 0) (dt r) (db r)
def small (r : Rat) : Prop := (dt r).length ≤ 256 ∧ (db r).length ≤ 256
open Classical in
/-- A number with a sign. -/
noncomputable def sg (p : Prop) (a : Nat) : Int := if p then -(a : Int) else a
theorem sg_yes {p : Prop} {a : Nat} (h : p) : sg p a = -(a : Int) := if_pos h
theorem sg_no {p : Prop} {a : Nat} (h : ¬ p) : sg p a = a := if_neg h
theorem sg_abs (p : Prop) (a : Nat) : (sg p a).natAbs = a := by unfold sg; split <;> simp
theorem num_neg {r : Rat} : r < 0 ↔ r.num < 0 := by
  rw [← Rat.not_le, ← Rat.num_nonneg]; omega
theorem sg_num (r : Rat) : sg (r < 0) r.num.natAbs = r.num := by
  by_cases h : r < 0
  · rw [sg_yes h]; have := num_neg.1 h; omega
  · have : ¬ r.num < 0 := fun k => h (num_neg.2 k)
    rw [sg_no h]; omega
theorem mkRat_parts (p : Prop) (a b : Nat) (hb : b ≠ 0) : lT a b = dt (mkRat (sg p a) b) ∧ lB a b = db (mkRat (sg p a) b) ∧ ((p ∧ a ≠ 0) ↔ mkRat (sg p a) b < 0) := by
  have hb0 : 0 < b := by omega
  have hg : (b.gcd (sg p a).natAbs : Nat) = a.gcd b := by rw [sg_abs, Nat.gcd_comm]
  have hgp : 0 < a.gcd b := Nat.gcd_pos_of_pos_right a hb0
  have hq : (a : Int) / ((a.gcd b : Nat) : Int) = ((a / a.gcd b : Nat) : Int) := by simp
  refine ⟨?_, ?_, ?_⟩
  · unfold lT dt
    rw [Rat.num_mkRat, if_neg hb, hg]
    congr 1
    unfold sg
    split
    · rw [Int.neg_ediv_of_dvd (Int.natCast_dvd_natCast.2 (Nat.gcd_dvd_left a b)), Int.natAbs_neg, hq, Int.natAbs_natCast]
    · rw [hq, Int.natAbs_natCast]
  · unfold lB db
    rw [Rat.den_mkRat, if_neg hb, hg]
  · rw [num_neg, Rat.num_mkRat, if_neg hb, hg]
    have hd : ((a.gcd b : Nat) : Int) ∣ (a : Int) := Int.natCast_dvd_natCast.2 (Nat.gcd_dvd_left a b)
    unfold sg
    split
    · rename_i hp
      rw [Int.neg_ediv_of_dvd hd]
      constructor
      · rintro ⟨_, h0⟩
        have h1 : 0 < a / a.gcd b := Nat.div_pos (Nat.gcd_le_left b (by omega)) hgp
        rw [hq]; have := Int.natCast_pos.2 h1; omega
      · intro h
        refine ⟨hp, fun h0 => ?_⟩
        subst h0; simp at h
    · rename_i hp
      constructor
      · exact fun h => absurd h.1 hp
      · intro h
        rw [hq] at h; exact absurd h (Int.not_lt.2 (Int.natCast_nonneg _))
/-- A fraction's number. -/
noncomputable def rat (p : Prop) (t u : List Int) : Rat := mkRat (sg p (nm t)) (nm u)
theorem frOk_rat {p : Prop} {t u : List Int} (h : frOk p t u) : t = dt (rat p t u) ∧ u = db (rat p t u) ∧ (p ↔ rat p t u < 0) := by
  obtain ⟨a, b, rfl, rfl, ha, hb, hb0, hap, hab⟩ := frOk_dig h
  obtain ⟨h1, h2, h3⟩ := mkRat_parts p a b hb0
  unfold rat
  rw [nm_dig, nm_dig, ← h1, ← h2, ← h3]
  unfold lT lB
  rw [hab, Nat.div_one, Nat.div_one]
  exact ⟨rfl, rfl, fun hp => ⟨hp, fun h0 => hap h0 hp⟩, fun h => h.1⟩
theorem frR_eq {p : Prop} {t u : List Int} (h : frOk p t u) : frF p t u = frR (rat p t u) := by
  obtain ⟨h1, h2, h3⟩ := frOk_rat h
  unfold frR
  rw [← h1, ← h2, ← propext h3]
theorem rat_frR (r : Rat) : rat (r < 0) (dt r) (db r) = r := by
  unfold rat dt db
  rw [nm_dig, nm_dig, sg_num, Rat.mkRat_self]
theorem dt_nil {r : Rat} : dt r = [] ↔ r = 0 := by
  unfold dt; rw [dig_nil, Int.natAbs_eq_zero, Rat.num_eq_zero]
theorem frOk_iff {r : Rat} : frOk (r < 0) (dt r) (db r) ↔ small r := by
  constructor
  · intro h; exact ⟨h.1.1, h.2.1.1⟩
  · intro h
    refine ⟨natOk_of h.1, natOk_of h.2, fun h0 => r.den_nz (dig_nil.1 h0), fun h0 h1 => ?_, ?_⟩
    · rw [dt_nil] at h0; subst h0; exact Rat.lt_irrefl h1
    · unfold dt db
      rw [val_dig, val_dig]
      simpa using r.reduced
theorem fits_iff (p : Prop) (a b : Nat) (hb : b ≠ 0) : fits a b ↔ small (mkRat (sg p a) b) := by
  obtain ⟨h1, h2, _⟩ := mkRat_parts p a b hb
  unfold fits small; rw [h1, h2]
/-- What is answered, by a number. -/
noncomputable def FRes.ofRat (ok : Prop) (r : Rat) : FRes := ⟨ok ∧ small r, r < 0, dt r, db r⟩
theorem res_eq {ok p : Prop} {a b : Nat} {r : Rat} (hb : b ≠ 0) (h : mkRat (sg p a) b = r) : (⟨ok ∧ fits a b, p ∧ a ≠ 0, lT a b, lB a b⟩ : FRes) = .ofRat ok r := by
  obtain ⟨h1, h2, h3⟩ := mkRat_parts p a b hb
  unfold FRes.ofRat
  rw [fits_iff p a b hb, h] 
  rw [h] at h1 h2 h3
  rw [h1, h2, propext h3]
theorem sg_mul (p q : Prop) (a b : Nat) : sg (¬ (p ↔ q)) (a * b) = sg p a * sg q b := by
  by_cases hp : p <;> by_cases hq : q <;> simp [sg, hp, hq, Int.neg_mul, Int.mul_neg]
theorem sg_sum (p q : Prop) (x y : Nat) : sg (sumP p q x y) (sumT p q x y) = sg p x + sg q y := by
  by_cases hp : p <;> by_cases hq : q <;> by_cases hy : y ≤ x <;> simp [sg, sumP, sumT, hp, hq, hy] <;> omega
theorem sg_mul_nat (p : Prop) (a b : Nat) : sg p (a * b) = sg p a * b := by
  unfold sg; split <;> simp [Int.neg_mul]
theorem nz_of {p : Prop} {t u : List Int} (h : frOk p t u) : nm u ≠ 0 := by
  obtain ⟨a, b, rfl, rfl, ha, hb, hb0, hap, hab⟩ := frOk_dig h
  rwa [nm_dig]
theorem ofRat_false {ok : Prop} (h : ¬ ok) (p : Prop) (t u : List Int) (r : Rat) (x : Prop) : ((⟨ok ∧ x, p, t, u⟩ : FRes).av = (FRes.ofRat ok r).av) := by
  unfold FRes.ofRat FRes.av
  rw [resF_no (fun k => h k.1), resF_no (fun k => h k.1)]
theorem mulS_rat {p q : Prop} {t u x y : List Int} (h1 : frOk p t u) (h2 : frOk q x y) : mulS p t u q x y = .ofRat (frOk p t u ∧ frOk q x y) (rat p t u * rat q x y) := by
  unfold mulS
  refine res_eq (Nat.mul_ne_zero (nz_of h1) (nz_of h2)) ?_
  unfold rat
  rw [Rat.mkRat_mul_mkRat, sg_mul]
theorem addS_rat {p q : Prop} {t u x y : List Int} (h1 : frOk p t u) (h2 : frOk q x y) : addS p t u q x y = .ofRat (frOk p t u ∧ frOk q x y) (rat p t u + rat q x y) := by
  unfold addS sT sP
  refine res_eq (Nat.mul_ne_zero (nz_of h1) (nz_of h2)) ?_
  unfold rat
  rw [Rat.mkRat_add_mkRat _ _ (nz_of h1) (nz_of h2), sg_sum, sg_mul_nat, sg_mul_nat]
theorem rat_neg {q : Prop} {x y : List Int} (h : frOk q x y) : rat (¬ q ∧ x ≠ []) x y = - rat q x y := by
  obtain ⟨a, b, rfl, rfl, ha, hb, hb0, hap, hab⟩ := frOk_dig h
  unfold rat
  rw [nm_dig, nm_dig, Rat.neg_mkRat]
  congr 1
  by_cases h0 : a = 0
  · subst h0; simp [sg]
  · have : dig a ≠ [] := fun h => h0 (dig_nil.1 h)
    by_cases hq : q <;> simp [sg, hq, this]
theorem subS_rat {p q : Prop} {t u x y : List Int} (h1 : frOk p t u) (h2 : frOk q x y) : subS p t u q x y = .ofRat (frOk p t u ∧ frOk q x y) (rat p t u - rat q x y) := by
  have e : rat p t u - rat q x y = rat p t u + rat (¬ q ∧ x ≠ []) x y := by rw [rat_neg h2, Rat.sub_eq_add_neg]
  rw [e]
  unfold subS sT sP
  refine res_eq (Nat.mul_ne_zero (nz_of h1) (nz_of h2)) ?_
  unfold rat
  rw [Rat.mkRat_add_mkRat _ _ (nz_of h1) (nz_of h2), sg_sum, sg_mul_nat, sg_mul_nat]
theorem divS_rat {p q : Prop} {t u x y : List Int} (h1 : frOk p t u) (h2 : frOk q x y) (h3 : x ≠ []) : divS p t u q x y = .ofRat (frOk p t u ∧ frOk q x y ∧ x ≠ []) (rat p t u / rat q x y) := by
  have hx : nm x ≠ 0 := by
    obtain ⟨a, b, rfl, rfl, ha, hb, hb0, hap, hab⟩ := frOk_dig h2
    rw [nm_dig]; exact fun h => h3 (dig_nil.2 h)
  have hu := nz_of h1
  have hy := nz_of h2
  unfold divS
  refine res_eq (Nat.mul_ne_zero hu hx) ?_
  unfold rat
  rw [Rat.div_def, ← Rat.divInt_ofNat, ← Rat.divInt_ofNat, ← Rat.divInt_ofNat, Rat.inv_divInt, Rat.divInt_mul_divInt]
  by_cases hq : q
  · have e1 : sg q (nm x) = -((nm x : Nat) : Int) := sg_yes hq
    have e2 : sg (¬ (p ↔ q)) (nm t * nm y) = -(sg p (nm t) * (nm y : Int)) := by by_cases hp : p <;> simp [sg, hp, hq, Int.neg_mul]
    rw [e1, e2, Int.mul_neg, ← Rat.neg_divInt_neg, Int.neg_neg]
    simp
  · have e1 : sg q (nm x) = ((nm x : Nat) : Int) := sg_no hq
    have e2 : sg (¬ (p ↔ q)) (nm t * nm y) = sg p (nm t) * (nm y : Int) := by by_cases hp : p <;> simp [sg, hp, hq, Int.neg_mul]
    rw [e1, e2]
    simp
end Pf
/- Floats: values and roundings, numbers alone -/
namespace Pf
open Go Go.Proofs
/-- The value of a float from 0 on, in the least float's units; F: the bits of a fraction. -/
def fv (F n : Nat) : Nat := if n < 2 ^ F then n else (2 ^ F + n % 2 ^ F) * 2 ^ (n / 2 ^ F - 1)
theorem fv_at (F e q : Nat) (h : q < 2 ^ (F + 1)) (h2 : e = 0 ∨ 2 ^ F ≤ q) : fv F (e * 2 ^ F + q) = q * 2 ^ e := by
  have hp : 0 < 2 ^ F := Nat.pow_pos (by omega)
  rw [Nat.pow_succ] at h
  unfold fv
  by_cases hq : q < 2 ^ F
  · have : e = 0 := h2.resolve_right (by omega)
    subst this
    rw [if_pos (by omega)]; simp
  · have h3 : e * 2 ^ F + q = (q - 2 ^ F) + 2 ^ F * (e + 1) := by rw [Nat.mul_add, Nat.mul_comm e]; omega
    have h4 : q - 2 ^ F < 2 ^ F := by omega
    rw [if_neg (by omega), h3, Nat.add_mul_mod_self_left, Nat.mod_eq_of_lt h4, Nat.add_mul_div_left _ _ hp, Nat.div_eq_of_lt h4]
    congr 1
    · omega
    · congr 1; omega
theorem fv_next (F e q : Nat) (h : q < 2 ^ (F + 1)) (h2 : e = 0 ∨ 2 ^ F ≤ q) : fv F (e * 2 ^ F + q + 1) = (q + 1) * 2 ^ e := by
  by_cases hq : q + 1 < 2 ^ (F + 1)
  · exact fv_at F e (q + 1) hq (h2.imp id (by omega))
  · have e1 : q + 1 = 2 ^ F * 2 := by rw [Nat.pow_succ] at h hq; omega
    have e2 : e * 2 ^ F + q + 1 = (e + 1) * 2 ^ F + 2 ^ F := by rw [Nat.add_mul]; omega
    have hp : 0 < 2 ^ F := Nat.pow_pos (by omega)
    rw [e2, fv_at F (e + 1) (2 ^ F) (by rw [Nat.pow_succ]; omega) (.inr (Nat.le_refl _)), e1, Nat.pow_succ 2 e, Nat.mul_assoc, Nat.mul_comm 2]
theorem fv_parts (F n : Nat) : ∃ e q, n = e * 2 ^ F + q ∧ q < 2 ^ (F + 1) ∧ (e = 0 ∨ 2 ^ F ≤ q) := by
  have hp : 0 < 2 ^ F := Nat.pow_pos (by omega)
  by_cases h : n < 2 ^ F
  · exact ⟨0, n, by omega, by rw [Nat.pow_succ]; omega, .inl rfl⟩
  · have h1 : 0 < n / 2 ^ F := Nat.div_pos (by omega) hp
    have h2 := Nat.div_add_mod n (2 ^ F)
    have h3 := Nat.mod_lt n hp
    refine ⟨n / 2 ^ F - 1, 2 ^ F + n % 2 ^ F, ?_, by rw [Nat.pow_succ]; omega, .inr (by omega)⟩
    rw [Nat.sub_mul, Nat.mul_comm (n / 2 ^ F), Nat.one_mul]
    have : 2 ^ F ≤ 2 ^ F * (n / 2 ^ F) := Nat.le_mul_of_pos_right _ h1
    omega
theorem fv_step (F n : Nat) : fv F n < fv F (n + 1) := by
  obtain ⟨e, q, h1, h2, h3⟩ := fv_parts F n
  rw [h1, fv_at F e q h2 h3, fv_next F e q h2 h3]
  exact Nat.mul_lt_mul_of_pos_right (by omega) (Nat.pow_pos (by omega))
theorem fv_lt {F m n : Nat} (h : m < n) : fv F m < fv F n := by
  induction n with
  | zero => omega
  | succ n ih =>
    have := fv_step F n
    rcases (by omega : m = n ∨ m < n) with rfl | h1
    · exact this
    · have := ih h1; omega
theorem fv_le {F m n : Nat} (h : m ≤ n) : fv F m ≤ fv F n := by
  rcases (by omega : m = n ∨ m < n) with rfl | h1
  · exact Nat.le_refl _
  · exact Nat.le_of_lt (fv_lt h1)
theorem fv_zero (F : Nat) : fv F 0 = 0 := by
  unfold fv; rw [if_pos (Nat.pow_pos (by omega))]
/-- The greatest float below T whose value is not above X. -/
theorem tr_ex (F T X : Nat) : ∃ n, n ≤ T - 1 ∧ fv F n ≤ X ∧ (n = T - 1 ∨ X < fv F (n + 1)) := by
  generalize T - 1 = M
  induction M with
  | zero => exact ⟨0, by omega, by rw [fv_zero]; omega, .inl rfl⟩
  | succ M ih =>
    obtain ⟨n, h1, h2, h3⟩ := ih
    rcases h3 with rfl | h3
    · by_cases h : fv F (n + 1) ≤ X
      · exact ⟨n + 1, by omega, h, .inl rfl⟩
      · exact ⟨n, by omega, h2, .inr (by omega)⟩
    · exact ⟨n, by omega, h2, .inr h3⟩
noncomputable def trn (F T X : Nat) : Nat := Classical.choose (tr_ex F T X)
theorem trn_le (F T X : Nat) : trn F T X ≤ T - 1 := (Classical.choose_spec (tr_ex F T X)).1
theorem trn_fv (F T X : Nat) : fv F (trn F T X) ≤ X := (Classical.choose_spec (tr_ex F T X)).2.1
theorem trn_next (F T X : Nat) : trn F T X = T - 1 ∨ X < fv F (trn F T X + 1) := (Classical.choose_spec (tr_ex F T X)).2.2
theorem trn_eq {F T X n : Nat} (h1 : n ≤ T - 1) (h2 : fv F n ≤ X) (h3 : n = T - 1 ∨ X < fv F (n + 1)) : trn F T X = n := by
  have g1 := trn_le F T X
  have g2 := trn_fv F T X
  have g3 := trn_next F T X
  generalize trn F T X = m at *
  rcases Nat.lt_trichotomy m n with h | h | h
  · rcases g3 with g3 | g3
    · omega
    · have := fv_le (F := F) (show m + 1 ≤ n by omega); omega
  · exact h
  · rcases h3 with h3 | h3
    · omega
    · have := fv_le (F := F) (show n + 1 ≤ m by omega); omega
/-- What is reckoned by bits: A / b in the least float's units. -/
theorem round_core {F T A b e q : Nat} (hT : 0 < T) (hb : 0 < b) (hq : q = A / (b * 2 ^ e)) (h : q < 2 ^ (F + 1)) (h2 : e = 0 ∨ 2 ^ F ≤ q) :
    trn F T (A / b) = (if e * 2 ^ F + q < T then e * 2 ^ F + q else T - 1) ∧ (fv F (trn F T (A / b)) * b = A ↔ e * 2 ^ F + q < T ∧ A % (b * 2 ^ e) = 0) := by
  have hp : 0 < 2 ^ e := Nat.pow_pos (by omega)
  have hbe : 0 < b * 2 ^ e := Nat.mul_pos hb hp
  have f1 := fv_at F e q h h2
  have f2 := fv_next F e q h h2
  have hqX : q = A / b / 2 ^ e := by rw [hq, Nat.div_div_eq_div_mul]
  have x1 : q * 2 ^ e ≤ A / b := by rw [hqX]; exact Nat.div_mul_le_self _ _
  have x2 : A / b < (q + 1) * 2 ^ e := by rw [hqX]; exact (Nat.div_lt_iff_lt_mul hp).1 (Nat.lt_succ_self _)
  have hAb := Nat.div_mul_le_self A b
  by_cases hn : e * 2 ^ F + q < T
  · have e1 : trn F T (A / b) = e * 2 ^ F + q := trn_eq (by omega) (by omega) (.inr (by omega))
    rw [if_pos hn]
    refine ⟨e1, ?_⟩
    rw [e1, f1]
    have h3 := Nat.div_add_mod A (b * 2 ^ e)
    rw [← hq] at h3
    have h4 : q * 2 ^ e * b = b * 2 ^ e * q := by simp only [Nat.mul_comm, Nat.mul_left_comm]
    rw [h4]
    constructor
    · intro h5; exact ⟨hn, by omega⟩
    · intro h5; omega
  · have l1 : fv F (T - 1) < fv F (e * 2 ^ F + q) := fv_lt (by omega)
    have e1 : trn F T (A / b) = T - 1 := trn_eq (Nat.le_refl _) (by omega) (.inl rfl)
    rw [if_neg hn]
    refine ⟨e1, ?_⟩
    rw [e1]
    constructor
    · intro h5
      have : fv F (T - 1) * b < A / b * b := Nat.mul_lt_mul_of_pos_right (by omega) hb
      omega
    · intro h5; exact absurd h5.1 hn
end Pf
/- Floats: roundings of rationals -/
namespace Pf
open Go Go.Proofs
/-- The bits of a fraction, the power of the least float (without sign), the greatest exponent, the infinite float. -/
def fF (w : Int) : Nat := if w = 32 then 23 else 52
def fK (w : Int) : Nat := if w = 32 then 149 else 1074
def fG (w : Int) : Nat := if w = 32 then 127 else 1023
def fT (w : Int) : Nat := (2 * fG w + 1) * 2 ^ fF w
theorem top_fT {w : Int} (hw : w = 32 ∨ w = 64) : top w = fT w := by rcases hw with rfl | rfl <;> rfl
theorem fT_pos (w : Int) : 0 < fT w := Nat.mul_pos (by omega) (Nat.pow_pos (by omega))
theorem fT_rng (w : Int) : 2 ≤ fT w ∧ fT w ≤ 9218868437227405312 := by
  unfold fT fG fF; split <;> decide
theorem fKG (w : Int) : fK w + 1 = fG w + fF w := by unfold fK fG fF; split <;> rfl
/-- The greatest float that is not above a / b, and whether it is it. -/
noncomputable def tvN (w : Int) (a b : Nat) : Nat := trn (fF w) (fT w) (a * 2 ^ fK w / b)
def teN (w : Int) (a b : Nat) : Prop := fv (fF w) (tvN w a b) * b = a * 2 ^ fK w
theorem tvN_scale (w : Int) (a b c : Nat) (hc : 0 < c) : tvN w (a * c) (b * c) = tvN w a b := by
  unfold tvN
  rw [Nat.mul_right_comm, Nat.mul_div_mul_right _ _ hc]
theorem teN_scale (w : Int) (a b c : Nat) (hc : 0 < c) : teN w (a * c) (b * c) ↔ teN w a b := by
  unfold teN
  rw [tvN_scale w a b c hc, Nat.mul_right_comm a, ← Nat.mul_assoc]
  exact Nat.mul_left_inj (by omega)
theorem mkRat_scale {p : Prop} {a b : Nat} {r : Rat} (hb : b ≠ 0) (h : mkRat (sg p a) b = r) : ∃ c, 0 < c ∧ a = r.num.natAbs * c ∧ b = r.den * c := by
  obtain ⟨h1, h2, _⟩ := mkRat_parts p a b hb
  rw [h] at h1 h2
  have h1 := dig_inj h1
  have h2 := dig_inj h2
  refine ⟨a.gcd b, Nat.gcd_pos_of_pos_right a (by omega), ?_, ?_⟩
  · rw [← h1, Nat.div_mul_cancel (Nat.gcd_dvd_left a b)]
  · rw [← h2, Nat.div_mul_cancel (Nat.gcd_dvd_right a b)]
noncomputable def tv (w : Int) (r : Rat) : Nat := tvN w r.num.natAbs r.den
def te (w : Int) (r : Rat) : Prop := teN w r.num.natAbs r.den
theorem tv_of {w : Int} {p : Prop} {a b : Nat} {r : Rat} (hb : b ≠ 0) (h : mkRat (sg p a) b = r) : tvN w a b = tv w r ∧ (teN w a b ↔ te w r) := by
  obtain ⟨c, hc, rfl, rfl⟩ := mkRat_scale hb h
  exact ⟨tvN_scale _ _ _ _ hc, teN_scale _ _ _ _ hc⟩
open Classical in
/-- The next float behind the greatest that is not above. -/
noncomputable def nx (w : Int) (r : Rat) : Nat := if te w r then tv w r else tv w r + 1
open Classical in
/-- The greatest float that is not above a number; the least that is not below. -/
noncomputable def dn (w : Int) (r : Rat) : Int := if r < 0 then -(nx w r : Int) else tv w r
open Classical in
noncomputable def up (w : Int) (r : Rat) : Int := if r < 0 then -(tv w r : Int) else nx w r
theorem tv_le (w : Int) (r : Rat) : tv w r + 1 ≤ fT w := by
  have := trn_le (fF w) (fT w) (r.num.natAbs * 2 ^ fK w / r.den)
  have h := fT_pos w
  unfold tv tvN; omega
theorem nx_le (w : Int) (r : Rat) : tv w r ≤ nx w r ∧ nx w r ≤ tv w r + 1 := by unfold nx; split <;> omega
theorem te_zero (w : Int) : tv w 0 = 0 ∧ te w 0 := by
  have h : tv w 0 = 0 := by
    have := fT_pos w
    unfold tv tvN
    refine trn_eq (Nat.zero_le _) (by rw [fv_zero]; exact Nat.zero_le _) (.inr ?_)
    have := fv_step (fF w) 0
    have e : (Rat.num 0).natAbs * 2 ^ fK w / Rat.den 0 = 0 := by simp
    rw [e]; omega
  refine ⟨h, ?_⟩
  unfold te teN
  unfold tv at h
  rw [h, fv_zero]; simp
theorem dn_zero (w : Int) : dn w 0 = 0 ∧ up w 0 = 0 := by
  obtain ⟨h1, h2⟩ := te_zero w
  unfold dn up nx
  rw [if_neg Rat.lt_irrefl, if_neg Rat.lt_irrefl, if_pos h2, h1]
  exact ⟨rfl, rfl⟩
theorem tv_neg (w : Int) (r : Rat) : tv w (-r) = tv w r ∧ (te w (-r) ↔ te w r) := by
  unfold tv te
  rw [Rat.neg_num, Int.natAbs_neg, Rat.neg_den]
  exact ⟨rfl, Iff.rfl⟩
theorem nx_neg (w : Int) (r : Rat) : nx w (-r) = nx w r := by
  unfold nx
  rw [(tv_neg w r).1, propext (tv_neg w r).2]
theorem up_neg (w : Int) (r : Rat) : up w (-r) = - dn w r := by
  by_cases h0 : r = 0
  · subst h0
    rw [Rat.neg_zero, (dn_zero w).1, (dn_zero w).2]; rfl
  · unfold up dn
    rw [nx_neg, (tv_neg w r).1]
    rcases Rat.le_total (a := r) (b := 0) with h | h
    · have h1 : r < 0 := Rat.lt_of_le_of_ne h h0
      have h2 : ¬ -r < 0 := by
        rw [Rat.neg_lt_iff, Rat.neg_zero, Rat.not_lt]; exact h
      rw [if_pos h1, if_neg h2, Int.neg_neg]
    · have h1 : 0 < r := Rat.lt_of_le_of_ne h (Ne.symm h0)
      have h2 : -r < 0 := by rw [Rat.neg_lt_iff, Rat.neg_zero]; exact h1
      rw [if_neg (Rat.not_lt.2 h), if_pos h2]
theorem dn_neg (w : Int) (r : Rat) : dn w (-r) = - up w r := by
  have := up_neg w (-r)
  rw [Rat.neg_neg] at this
  omega
theorem dn_rng (w : Int) (r : Rat) : -(fT w : Int) ≤ dn w r ∧ dn w r < fT w := by
  have h1 := tv_le w r
  have h2 := nx_le w r
  unfold dn; split <;> omega
theorem up_rng (w : Int) (r : Rat) : -(fT w : Int) < up w r ∧ up w r ≤ fT w := by
  have h1 := tv_le w r
  have h2 := nx_le w r
  unfold up; split <;> omega
theorem trn_mono {F T X Y : Nat} (h : X ≤ Y) : trn F T X ≤ trn F T Y := by
  have g1 := trn_le F T X
  have g2 := trn_fv F T X
  have k1 := trn_le F T Y
  have k3 := trn_next F T Y
  rcases Nat.lt_or_ge (trn F T Y) (trn F T X) with h1 | h1
  · rcases k3 with k3 | k3
    · omega
    · have := fv_le (F := F) (show trn F T Y + 1 ≤ trn F T X by omega); omega
  · exact h1
theorem div_mono {a b c d k : Nat} (hb : 0 < b) (hd : 0 < d) (h : a * d ≤ c * b) : a * k / b ≤ c * k / d := by
  rw [Nat.le_div_iff_mul_le hd]
  have h1 : a * k / b * d * b ≤ c * k * b := by
    calc a * k / b * d * b = a * k / b * b * d := Nat.mul_right_comm _ _ _
      _ ≤ a * k * d := Nat.mul_le_mul_right _ (Nat.div_mul_le_self _ _)
      _ = a * d * k := Nat.mul_right_comm _ _ _
      _ ≤ c * b * k := Nat.mul_le_mul_right _ h
      _ = c * k * b := Nat.mul_right_comm _ _ _
  exact Nat.le_of_mul_le_mul_right h1 hb
theorem tv_mono {w : Int} {r s : Rat} (h0 : 0 ≤ r) (h : r ≤ s) : tv w r ≤ tv w s := by
  unfold tv tvN
  refine trn_mono (div_mono (by have := r.den_nz; omega) (by have := s.den_nz; omega) ?_)
  have h1 := (Rat.le_iff r s).1 h
  have h2 := Rat.num_nonneg.2 h0
  have h3 := Rat.num_nonneg.2 (Rat.le_trans h0 h)
  have e1 : (r.num.natAbs : Int) = r.num := by omega
  have e2 : (s.num.natAbs : Int) = s.num := by omega
  rw [← e1, ← e2] at h1
  exact_mod_cast h1
theorem dn_le_up {w : Int} {r s : Rat} (h : r ≤ s) : dn w r ≤ up w s := by
  unfold dn up
  have n1 := nx_le w r
  have n2 := nx_le w s
  by_cases hr : r < 0
  · rw [if_pos hr]
    by_cases hs : s < 0
    · rw [if_pos hs]
      have h1 : tv w (-s) ≤ tv w (-r) := tv_mono (by rw [Rat.le_neg_iff, Rat.neg_zero]; exact Rat.le_of_lt hs) (Rat.neg_le_neg h)
      rw [(tv_neg w s).1, (tv_neg w r).1] at h1
      omega
    · rw [if_neg hs]; omega
  · rw [if_neg hr]
    have h0 := Rat.not_lt.1 hr
    rw [if_neg (Rat.not_lt.2 (Rat.le_trans h0 h))]
    have h1 := tv_mono (w := w) h0 h
    omega
end Pf
/- The known variable's cells are read. -/
namespace Pf
open Go
variable {P : Program} {TT : TypeId → Option TI} {f N n0 : Nat} {k : List Item} {T : Env} {H : AHeap} {R : AV → AHeap → Prop}
/-- The address of a cell of the known variable. -/
theorem go_gk (hT : TTok P TT) (ops : Array Oper) {i d t n : Nat} {ty aty e : TypeId} {kd : IntKind} {m : Int} {is : List Nat} {pos : String} {af : Array Edge} {j : TI} {T1 : Env}
    (ho : ops[i]? = some { dst := some d, op := .indexAddr aty (.global 0) (.tmp t), type := ty, pos := pos, after := af, guard := none })
    (hu : P.underlying aty = some (.array n e)) (he : TT e = some j) (hs : j.size = 1) (hn : n = gtab.length) (h2 : 1 < n) (hm : getM T t = some (.int kd m)) (h0 : 0 ≤ m) (h1 : m < n)
    (hd : dstM N (some d) (.fptr [.int .u8 (gtab.getD m.toNat 0)] 0) T = some T1)
    (h : AGo P f N n0 (.inRegion ops is :: k) T1 H R) : AGo P f N n0 (.inRegion ops (i :: is) :: k) T H R := by
  refine AGo.op ops ho hd (fun FM β a _ _ => rfl) (fun FM β a w hr hh => ?_) h
  rw [exec_indexAddr]
  refine SimV.yields ?_
  obtain ⟨info, d', z, ok⟩ := TI.fits_iff (hT _ _ he)
  have hv : VR FM β (.int kd m) (a.eval (.tmp t)) := hr t _ hm
  have e1 : a.eval (.tmp t) = .int kd m := by
    generalize a.eval (.tmp t) = c at hv ⊢
    cases hv; rfl
  have e2 : a.eval (.global 0) = .pointer (some ⟨0, 0, none⟩) := rfl
  rw [e1, e2]
  refine SimV.same (cv := .pointer (some ⟨0, m.toNat, none⟩)) ?_ ?_ hh
  · have : ¬ n ≤ 1 := by omega
    simp [Instr.indexAt, asIntOf, Instr.sureAddr, run_underlying hu, ok.run_size w, hs, h0, h1, addr_add, this]
  · have := VR.fptr (FM := FM) (β := β) (row := [.int .u8 (gtab.getD m.toNat 0)]) (c := 0) (cb := 0) (o := m.toNat) (fun _ => .int .u8 (gtab.getD m.toNat 0)) (fun i hi => by
        have : i = 0 := by simpa using hi
        subst this
        exact hh.gk m.toNat (by omega)) (fun i hi => by
        have : i = 0 := by simpa using hi
        subst this
        exact .int)
    simpa using this
end Pf
/- Noughts that a number ends in -/
namespace Pf
open Go Go.Proofs
/-- How many noughts a number ends in. -/
def tzN (n : Nat) : Nat := if h : n = 0 then 0 else if n % 2 = 0 then tzN (n / 2) + 1 else 0
termination_by n
decreasing_by omega
theorem tzN_ok : ∀ n : Nat, n ≠ 0 → ∃ q, n = q * 2 ^ tzN n ∧ q % 2 = 1 := by
  intro n
  induction n using Nat.strongRecOn with
  | ind n ih =>
    intro h
    by_cases h2 : n % 2 = 0
    · obtain ⟨q, h3, h4⟩ := ih (n / 2) (by omega) (by omega)
      have e : tzN n = tzN (n / 2) + 1 := by rw [tzN]; simp [h, h2]
      refine ⟨q, ?_, h4⟩
      rw [e, Nat.pow_succ, ← Nat.mul_assoc, ← h3]; omega
    · have e : tzN n = 0 := by rw [tzN]; simp [h2]
      exact ⟨n, by rw [e]; simp, by omega⟩
theorem low_bit {x z q : Nat} (hx : x = q * 2 ^ z) (hq : q % 2 = 1) (hz : z < 64) (h : x < 2 ^ 64) : x &&& (2 ^ 64 - x) = 2 ^ z := by
  obtain ⟨k, rfl⟩ : ∃ k, q = 2 * k + 1 := ⟨q / 2, by omega⟩
  have hp : 0 < 2 ^ z := Nat.pow_pos (by omega)
  have hx0 : 0 < x := by rw [hx]; exact Nat.mul_pos (by omega) hp
  have e1 : x = 2 ^ z * (2 * k + 1) + 0 := by rw [hx, Nat.mul_comm]; rfl
  have e2 : x - 1 = 2 ^ z * (2 * k) + (2 ^ z - 1) := by rw [hx, Nat.mul_comm, Nat.mul_add, Nat.mul_one]; omega
  refine Nat.eq_of_testBit_eq fun i => ?_
  rw [Nat.testBit_and, show 2 ^ 64 - x = 2 ^ 64 - ((x - 1) + 1) by omega, Nat.testBit_two_pow_sub_succ (by omega), e2, Nat.testBit_two_pow_mul_add _ (by omega)]
  conv => lhs; rw [e1, Nat.testBit_two_pow_mul_add _ hp]
  rw [Nat.testBit_two_pow]
  by_cases hi : i < z
  · have : ¬ z = i := by omega
    simp [hi, this]
  · rw [if_neg hi, if_neg hi]
    by_cases hiz : i = z
    · subst hiz
      have h0 : (2 * k).testBit 0 = false := by simp
      simp [hz, h0]
    · obtain ⟨j, hj⟩ : ∃ j, i - z = j + 1 := ⟨i - z - 1, by omega⟩
      have n1 : ¬ z = i := by omega
      have t1 : (2 * k + 1).testBit (j + 1) = k.testBit j := by rw [Nat.testBit_succ]; congr 1; omega
      have t2 : (2 * k).testBit (j + 1) = k.testBit j := by rw [Nat.testBit_succ]; congr 1; omega
      rw [hj, t1, t2]
      cases k.testBit j <;> simp [n1]
theorem band_neg {n : Nat} (h0 : n ≠ 0) (h1 : n < 2 ^ 64) (hz : tzN n < 64) : band .u64 n (IntKind.u64.wrap (-(n : Int))) = ((2 ^ tzN n : Nat) : Int) := by
  obtain ⟨q, h3, h4⟩ := tzN_ok n h0
  have hb := low_bit h3 h4 hz h1
  have e0 : IntKind.u64.wrap (-(n : Int)) = ((2 ^ 64 - n : Nat) : Int) := by rw [wrapU]; omega
  rw [e0]
  have a1 : (BitVec.ofInt 64 (n : Int)).toNat = n := by rw [BitVec.toNat_ofInt]; omega
  have a2 : (BitVec.ofInt 64 ((2 ^ 64 - n : Nat) : Int)).toNat = 2 ^ 64 - n := by rw [BitVec.toNat_ofInt]; omega
  have e : band .u64 (n : Int) ((2 ^ 64 - n : Nat) : Int) = IntKind.u64.wrap (((BitVec.ofInt 64 (n : Int) &&& BitVec.ofInt 64 ((2 ^ 64 - n : Nat) : Int)).toNat : Nat) : Int) := rfl
  rw [e, BitVec.toNat_and, a1, a2, hb, wrapU]
  have : 2 ^ tzN n < 2 ^ 64 := Nat.pow_lt_pow_right (by omega) hz
  have h5 : (18446744073709551616 : Int) = ((2 ^ 64 : Nat) : Int) := by decide
  rw [h5]
  exact Int.emod_eq_of_lt (Int.natCast_nonneg _) (Int.ofNat_lt.2 this)
theorem tzN_lt {n : Nat} (h0 : n ≠ 0) (h1 : n < 2 ^ 64) : tzN n < 64 := by
  obtain ⟨q, h3, h4⟩ := tzN_ok n h0
  rcases Nat.lt_or_ge (tzN n) 64 with h | h
  · exact h
  · have h5 : 2 ^ 64 ≤ 2 ^ tzN n := Nat.pow_le_pow_right (by omega) h
    have h6 : 1 * 2 ^ tzN n ≤ q * 2 ^ tzN n := Nat.mul_le_mul_right _ (by omega)
    omega
theorem gtab_ok : ∀ z : Nat, z < 64 → (0 : Int) ≤ IntKind.u64.wrap ((2 ^ z : Nat) * 285870213051353865) / 2 ^ 58 ∧ IntKind.u64.wrap ((2 ^ z : Nat) * 285870213051353865) / 2 ^ 58 < 64 ∧ gtab.getD (IntKind.u64.wrap ((2 ^ z : Nat) * 285870213051353865) / 2 ^ 58).toNat 0 = (z : Int) := by decide +kernel
theorem tz_ok (n : Nat) (h0 : n ≠ 0) (h1 : n < 2 ^ 64) : AFunP Tryd.prog 172 [.int .u64 n] (· = .int .i64 (tzN n)) := by
  refine afun_of Tryd.func172 Tryd.call172 rfl Tryd.ntmps172 rfl ?_
  have W : Walk Tryd.prog TT 172 _ := Walk.of TT_ok Tryd.func172 Tryd.results172
  have hz := tzN_lt h0 h1
  have hb := band_neg h0 h1 hz
  obtain ⟨g0, g1, g2⟩ := gtab_ok _ hz
  rw [← hb] at g0 g1 g2
  refine sp W 0 rfl rfl rfl (fun h => ?_) (fun h => ?_)
  · exfalso; omega
  · refine go_stop W 1 300 (cs := []) rfl trivial ?_
    refine go_gk TT_ok _ (d := 11) (t := 10) (n := 64) (j := ⟨1, 1, [(.int .u8 0)], (.int .u8)⟩) rfl Tryd.underlying147 rfl rfl rfl (by omega) rfl g0 g1 rfl ?_
    rw [g2]
    refine rp W 0 rfl rfl rfl (.refl)
end Pf
/- The parts of a float -/
namespace Pf
open Go Go.Proofs
theorem size_ok (n : Int) (h0 : -9223372036854775807 ≤ n) (h1 : n ≤ 9223372036854775807) : AFunP Tryd.prog 125 [.int .i64 n] (· = .int .i64 n.natAbs) := by
  refine afun_of Tryd.func125 Tryd.call125 rfl Tryd.ntmps125 rfl ?_
  have W : Walk Tryd.prog TT 125 _ := Walk.of TT_ok Tryd.func125 Tryd.results125
  refine rp W 0 rfl rfl rfl (.int (by omega))
theorem band_lowU {n : Int} (h0 : 0 ≤ n) (h1 : n ≤ 18446744073709551615) : band .u64 n 65535 = n % 65536 := by
  obtain ⟨m, rfl⟩ : ∃ m : Nat, n = m := ⟨n.toNat, by omega⟩
  have e1 : (BitVec.ofInt 64 (m : Int) &&& BitVec.ofInt 64 65535).toNat = m % 65536 := by
    rw [BitVec.toNat_and]
    have a1 : (BitVec.ofInt 64 (m : Int)).toNat = m := by rw [BitVec.toNat_ofInt]; omega
    have a2 : (BitVec.ofInt 64 65535).toNat = 65535 := by decide
    rw [a1, a2]
    exact Nat.and_two_pow_sub_one_eq_mod m 16
  have e2 : band .u64 (m : Int) 65535 = IntKind.u64.wrap (((BitVec.ofInt 64 (m : Int) &&& BitVec.ofInt 64 65535).toNat : Nat) : Int) := rfl
  rw [e2, e1, wrapU]
  omega
theorem natOf_ok (n : Nat) (h1 : n ≤ 18446744073709551615) : AFunP Tryd.prog 127 [.int .u64 n] (· = .fi .i64 (dig n)) := by
  refine afun_of Tryd.func127 Tryd.call127 rfl Tryd.ntmps127 rfl ?_
  have W : Walk Tryd.prog TT 127 _ := Walk.of TT_ok Tryd.func127 Tryd.results127
  refine atl W rfl ?_
  refine go_nilT 3 (.ints 0 .i64 []) rfl rfl rfl rfl rfl ?_
  refine lp W 0 (σ := Nat × Nat × List Int) (fun s => [(0, .int .u64 s.1), (3, .sl 0 s.2.1 0 s.2.2.length)]) (fun s => [.ints s.2.1 .i64 s.2.2]) (fun s => s.1) (fun s => s.1 ≤ 18446744073709551615 ∧ s.2.2 ++ dig s.1 = dig n) (n, 0, []) [0, 3] rfl rfl rfl ⟨h1, rfl⟩ ?_
  rintro ⟨m, g, l⟩ ⟨hm, he⟩ ih
  dsimp only at hm he ih ⊢
  have hl : l.length ≤ 4 := by
    have h2 := congrArg List.length he
    rw [List.length_append] at h2
    have h3 : (dig n).length ≤ 4 := dig_len_le.2 (by omega)
    omega
  refine sp W 0 rfl rfl rfl (fun h2 => ?_) (fun h2 => ?_)
  · have hm0 : m ≠ 0 := by omega
    have e1 : band .u64 (m : Int) 65535 = ((m % 65536 : Nat) : Int) := by rw [band_lowU (by omega) (by omega)]; omega
    have e2 : ((m : Int) / 2 ^ 16) = ((m / 65536 : Nat) : Int) := by rw [pw16]; omega
    rw [dig_pos hm0] at he
    have nx := ih (m / 65536, g + 1, l ++ [((m % 65536 : Nat) : Int)]) ⟨by dsimp only; omega, by simpa using he⟩ (by dsimp only; omega)
    dsimp only at nx
    rw [List.length_append, ← e1, ← e2] at nx
    refine bd W 0 1 [0, 3] rfl rfl rfl rfl rfl nx (hc := by simp only [AllC, e1, true_and, and_true, eq_self, List.length_cons, List.length_nil]; omega)
  · have hm0 : m = 0 := by omega
    subst hm0
    rw [dig_zero, List.append_nil] at he
    refine rp W 0 rfl rfl rfl (.fi he)
theorem whole_ok (p : Prop) (a : Nat) (h : (dig a).length ≤ 100000) : AFunP Tryd.prog 114 [.pr p, .fi .i64 (dig a)] (· = frF (p ∧ a ≠ 0) (dig a) [1]) := by
  refine afun_of Tryd.func114 Tryd.call114 rfl Tryd.ntmps114 rfl ?_
  have W : Walk Tryd.prog TT 114 _ := Walk.of TT_ok Tryd.func114 Tryd.results114
  have e : (0 : Int) < (dig a).length ↔ a ≠ 0 := by rw [len_nil, ne_eq, dig_nil]
  refine sp W 0 rfl rfl rfl (fun h1 => ?_) (fun h1 => ?_)
  · refine rp W 0 rfl rfl rfl (.agg ⟨.pr (by rw [e]; exact ⟨fun h => ⟨h1, h⟩, fun h => h.2⟩), .refl, .refl, trivial⟩)
  · refine rp W 0 rfl rfl rfl (.agg ⟨.no (fun h => h1 h.1), .refl, .refl, trivial⟩)
theorem band_mask {k : Nat} {n : Int} (hk : k ≤ 62) (h0 : 0 ≤ n) (h1 : n ≤ 9223372036854775807) : band .i64 n (2 ^ k - 1) = n % 2 ^ k := by
  obtain ⟨m, rfl⟩ : ∃ m : Nat, n = m := ⟨n.toNat, by omega⟩
  have hp : 2 ^ k ≤ 2 ^ 62 := Nat.pow_le_pow_right (by omega) hk
  have hp0 : 0 < 2 ^ k := Nat.pow_pos (by omega)
  have e0 : ((2 : Int) ^ k - 1) = ((2 ^ k - 1 : Nat) : Int) := by
    have : ((2 ^ k : Nat) : Int) = 2 ^ k := by simp
    omega
  have e3 : (m : Int) % 2 ^ k = ((m % 2 ^ k : Nat) : Int) := by simp
  rw [e0, e3]
  have a1 : (BitVec.ofInt 64 (m : Int)).toNat = m := by rw [BitVec.toNat_ofInt]; omega
  have a2 : (BitVec.ofInt 64 ((2 ^ k - 1 : Nat) : Int)).toNat = 2 ^ k - 1 := by rw [BitVec.toNat_ofInt]; omega
  have e1 : (BitVec.ofInt 64 (m : Int) &&& BitVec.ofInt 64 ((2 ^ k - 1 : Nat) : Int)).toNat = m % 2 ^ k := by
    rw [BitVec.toNat_and, a1, a2]
    exact Nat.and_two_pow_sub_one_eq_mod m k
  have e2 : band .i64 (m : Int) ((2 ^ k - 1 : Nat) : Int) = IntKind.i64.wrap (((BitVec.ofInt 64 (m : Int) &&& BitVec.ofInt 64 ((2 ^ k - 1 : Nat) : Int)).toNat : Nat) : Int) := rfl
  have hm : m % 2 ^ k ≤ m := Nat.mod_le _ _
  rw [e2, e1, wrap_id (k := .i64) (C := -9223372036854775808 ≤ ((m % 2 ^ k : Nat) : Int) ∧ ((m % 2 ^ k : Nat) : Int) ≤ 9223372036854775807) rfl (by omega)]
/-- The parts of a float from 0 on: the number, the power in the least float's units. -/
def fsz (F n : Nat) : Nat := if n < 2 ^ F then n else 2 ^ F + n % 2 ^ F
def fpw (F n : Nat) : Nat := n / 2 ^ F - 1
theorem fv_eq (F n : Nat) : fv F n = fsz F n * 2 ^ fpw F n := by
  unfold fv fsz fpw
  by_cases h : n < 2 ^ F
  · rw [if_pos h, if_pos h, Nat.div_eq_of_lt h]; simp
  · rw [if_neg h, if_neg h]
theorem fsz_lt (F n : Nat) : fsz F n < 2 ^ (F + 1) := by
  have := Nat.mod_lt n (Nat.pow_pos (n := F) (show 0 < 2 by omega))
  unfold fsz; rw [Nat.pow_succ]; split <;> omega
theorem formatOf_32 : AFunP Tryd.prog 86 [.int .i64 32] (· = .tup [.agg [.int .i64 23, .int .i64 (-149), .int .i64 127, .int .i64 2139095040], .pr True]) :=
  (formatOf_ok 32).subv (.tup ⟨.eq rfl, .pr (by simp), trivial⟩) rfl
theorem bitPart_32 (n : Int) (h : n.natAbs < fT 32) : AFunP Tryd.prog 74 [.int .i64 32, .int .i64 n] (· = .tup [.agg [.pr (n < 0), .int .u64 (fsz 23 n.natAbs), .int .i64 ((fpw 23 n.natAbs : Int) - 149)], .pr True]) := by
  refine afun_of Tryd.func74 Tryd.call74 rfl Tryd.ntmps74 rfl ?_
  have W : Walk Tryd.prog TT 74 _ := Walk.of TT_ok Tryd.func74 Tryd.results74
  have hT : fT 32 = 2139095040 := by decide
  have hb : bitOk 32 n := ⟨by simp, by rw [top_fT (by simp)]; omega, by rw [top_fT (by simp)]; omega⟩
  refine ce W 0 rfl rfl (formatOf_32) rfl ?_
  refine dre W 0 11 [(19, false)] [.pr (bitOk 32 n), .int .i64 n.natAbs] rfl rfl rfl ⟨(implBitOk_ok 32 n).at rfl _, (size_ok n (by omega) (by omega)).at rfl _, trivial⟩ rfl ?_ (hp := by simp [AllP, hb])
  refine sp W 0 rfl rfl rfl (fun h3 => ?_) (fun h3 => ?_)
  · exfalso; omega
  have ks := size_ok n (by omega) (by omega)
  obtain ⟨m, hm⟩ : ∃ m, n.natAbs = m := ⟨_, rfl⟩
  rw [hm] at h ks
  have hbits : (IntKind.i64.bits : Int) = 64 := rfl
  refine dre W 2 7 [] [.int .i64 (m : Int)] rfl rfl rfl ⟨ks.at rfl _, trivial⟩ rfl ?_ (hp := by simp [AllP, hbits])
  refine dre W 2 5 [] [.int .i64 (m : Int)] rfl rfl rfl ⟨ks.at rfl _, trivial⟩ rfl ?_ (hp := by simp [AllP, hbits])
  have eb : band .i64 (m : Int) (1 * 2 ^ Int.toNat 23 - 1) = ((m % 8388608 : Nat) : Int) := by
    have := band_mask (k := 23) (n := m) (by omega) (by omega) (by omega)
    rw [show (1 : Int) * 2 ^ Int.toNat 23 - 1 = 2 ^ 23 - 1 from rfl, this]; rfl
  have ed : (m : Int) / 2 ^ Int.toNat 23 = ((m / 8388608 : Nat) : Int) := rfl
  rw [eb, ed]
  have hml : m % 8388608 < 8388608 := Nat.mod_lt _ (by omega)
  refine sp W 0 rfl rfl rfl (fun h4 => ?_) (fun h4 => ?_)
  · have h5 : m < 2 ^ 23 := by
      have : m / 8388608 = 0 := by omega
      omega
    have e1 : fsz 23 m = m % 8388608 := by unfold fsz; rw [if_pos h5]; omega
    have e2 : fpw 23 m = 0 := by unfold fpw; rw [Nat.div_eq_of_lt h5]
    rw [hm, e1, e2]
    refine rp W 0 rfl rfl rfl (.tup ⟨.agg ⟨.refl, .refl, .int (by omega), trivial⟩, .yes trivial, trivial⟩)
  · have h5 : ¬ m < 2 ^ 23 := fun h5 => h4 (by rw [Nat.div_eq_of_lt h5]; rfl)
    have e1 : fsz 23 m = 8388608 + m % 8388608 := by unfold fsz; rw [if_neg h5]
    have e2 : fpw 23 m = m / 8388608 - 1 := rfl
    rw [hm, e1, e2]
    have eo : bor .i64 ((m % 8388608 : Nat) : Int) (1 * 2 ^ Int.toNat 23) = ((8388608 + m % 8388608 : Nat) : Int) := by
      have := (bor_add (r := 23) (a := ((m % 8388608 : Nat) : Int)) (c := 1) (by omega) (by omega) (by omega) (by omega) (by omega)).1
      rw [show (1 : Int) * 2 ^ Int.toNat 23 = 2 ^ 23 * 1 from rfl, this]; omega
    have ep : (2 : Int) ^ Int.toNat 23 = 8388608 := rfl
    refine dre W 2 14 [] [] rfl rfl rfl trivial rfl ?_ (hp := by simp only [AllP, eo, hbits, true_and, and_true, Option.getD]; omega)
    rw [eo]
    refine rp W 0 rfl rfl rfl (.tup ⟨.agg ⟨.refl, .refl, .int (by omega), trivial⟩, .yes trivial, trivial⟩)
theorem formatOf_64 : AFunP Tryd.prog 86 [.int .i64 64] (· = .tup [.agg [.int .i64 52, .int .i64 (-1074), .int .i64 1023, .int .i64 9218868437227405312], .pr True]) :=
  (formatOf_ok 64).subv (.tup ⟨.eq rfl, .pr (by simp), trivial⟩) rfl
theorem bitPart_64 (n : Int) (h : n.natAbs < fT 64) : AFunP Tryd.prog 74 [.int .i64 64, .int .i64 n] (· = .tup [.agg [.pr (n < 0), .int .u64 (fsz 52 n.natAbs), .int .i64 ((fpw 52 n.natAbs : Int) - 1074)], .pr True]) := by
  refine afun_of Tryd.func74 Tryd.call74 rfl Tryd.ntmps74 rfl ?_
  have W : Walk Tryd.prog TT 74 _ := Walk.of TT_ok Tryd.func74 Tryd.results74
  have hT : fT 64 = 9218868437227405312 := by decide
  have hb : bitOk 64 n := ⟨by simp, by rw [top_fT (by simp)]; omega, by rw [top_fT (by simp)]; omega⟩
  refine ce W 0 rfl rfl (formatOf_64) rfl ?_
  refine dre W 0 11 [(19, false)] [.pr (bitOk 64 n), .int .i64 n.natAbs] rfl rfl rfl ⟨(implBitOk_ok 64 n).at rfl _, (size_ok n (by omega) (by omega)).at rfl _, trivial⟩ rfl ?_ (hp := by simp [AllP, hb])
  refine sp W 0 rfl rfl rfl (fun h3 => ?_) (fun h3 => ?_)
  · exfalso; omega
  have ks := size_ok n (by omega) (by omega)
  obtain ⟨m, hm⟩ : ∃ m, n.natAbs = m := ⟨_, rfl⟩
  rw [hm] at h ks
  have hbits : (IntKind.i64.bits : Int) = 64 := rfl
  refine dre W 2 7 [] [.int .i64 (m : Int)] rfl rfl rfl ⟨ks.at rfl _, trivial⟩ rfl ?_ (hp := by simp [AllP, hbits])
  refine dre W 2 5 [] [.int .i64 (m : Int)] rfl rfl rfl ⟨ks.at rfl _, trivial⟩ rfl ?_ (hp := by simp [AllP, hbits])
  have eb : band .i64 (m : Int) (1 * 2 ^ Int.toNat 52 - 1) = ((m % 4503599627370496 : Nat) : Int) := by
    have := band_mask (k := 52) (n := m) (by omega) (by omega) (by omega)
    rw [show (1 : Int) * 2 ^ Int.toNat 52 - 1 = 2 ^ 52 - 1 from rfl, this]; rfl
  have ed : (m : Int) / 2 ^ Int.toNat 52 = ((m / 4503599627370496 : Nat) : Int) := rfl
  rw [eb, ed]
  have hml : m % 4503599627370496 < 4503599627370496 := Nat.mod_lt _ (by omega)
  refine sp W 0 rfl rfl rfl (fun h4 => ?_) (fun h4 => ?_)
  · have h5 : m < 2 ^ 52 := by
      have : m / 4503599627370496 = 0 := by omega
      omega
    have e1 : fsz 52 m = m % 4503599627370496 := by unfold fsz; rw [if_pos h5]; omega
    have e2 : fpw 52 m = 0 := by unfold fpw; rw [Nat.div_eq_of_lt h5]
    rw [hm, e1, e2]
    refine rp W 0 rfl rfl rfl (.tup ⟨.agg ⟨.refl, .refl, .int (by omega), trivial⟩, .yes trivial, trivial⟩)
  · have h5 : ¬ m < 2 ^ 52 := fun h5 => h4 (by rw [Nat.div_eq_of_lt h5]; rfl)
    have e1 : fsz 52 m = 4503599627370496 + m % 4503599627370496 := by unfold fsz; rw [if_neg h5]
    have e2 : fpw 52 m = m / 4503599627370496 - 1 := rfl
    rw [hm, e1, e2]
    have eo : bor .i64 ((m % 4503599627370496 : Nat) : Int) (1 * 2 ^ Int.toNat 52) = ((4503599627370496 + m % 4503599627370496 : Nat) : Int) := by
      have := (bor_add (r := 52) (a := ((m % 4503599627370496 : Nat) : Int)) (c := 1) (by omega) (by omega) (by omega) (by omega) (by omega)).1
      rw [show (1 : Int) * 2 ^ Int.toNat 52 = 2 ^ 52 * 1 from rfl, this]; omega
    have ep : (2 : Int) ^ Int.toNat 52 = 4503599627370496 := rfl
    refine dre W 2 14 [] [] rfl rfl rfl trivial rfl ?_ (hp := by simp only [AllP, eo, hbits, true_and, and_true, Option.getD]; omega)
    rw [eo]
    refine rp W 0 rfl rfl rfl (.tup ⟨.agg ⟨.refl, .refl, .int (by omega), trivial⟩, .yes trivial, trivial⟩)
end Pf
/- The float of parts -/
namespace Pf
open Go Go.Proofs
theorem bor_add2 {r : Nat} {a c : Int} (hr : r ≤ 62) (h0 : 0 ≤ a) (h1 : a < 2 ^ r) (h2 : 0 ≤ c) (h3 : a + 2 ^ r * c ≤ 9223372036854775807) : bor .i64 (2 ^ r * c) a = a + 2 ^ r * c := by
  obtain ⟨m, rfl⟩ : ∃ m : Nat, a = m := ⟨a.toNat, by omega⟩
  obtain ⟨n, rfl⟩ : ∃ n : Nat, c = n := ⟨c.toNat, by omega⟩
  have e2 : (2 : Int) ^ r * n = ((2 ^ r * n : Nat) : Int) := by simp
  have h1' : m < 2 ^ r := by
    have : ((m : Nat) : Int) < ((2 ^ r : Nat) : Int) := by simpa using h1
    omega
  rw [e2] at h3 ⊢
  have key2 : 2 ^ r * n ||| m = 2 ^ r * n + m := (Nat.two_pow_add_eq_or_of_lt h1' n).symm
  have a1 : (BitVec.ofInt 64 (m : Int)).toNat = m := by rw [BitVec.toNat_ofInt]; omega
  have a2 : (BitVec.ofInt 64 ((2 ^ r * n : Nat) : Int)).toNat = 2 ^ r * n := by rw [BitVec.toNat_ofInt]; omega
  have e' : bor .i64 ((2 ^ r * n : Nat) : Int) (m : Int) = IntKind.i64.wrap (((BitVec.ofInt 64 ((2 ^ r * n : Nat) : Int) ||| BitVec.ofInt 64 (m : Int)).toNat : Nat) : Int) := rfl
  rw [e', BitVec.toNat_or, a1, a2, key2, wrap_id (k := .i64) (C := -9223372036854775808 ≤ ((2 ^ r * n + m : Nat) : Int) ∧ ((2 ^ r * n + m : Nat) : Int) ≤ 9223372036854775807) rfl (by omega)]
  omega
theorem mod_sum {S e n : Nat} (h0 : S ≤ n) (h1 : n < 2 * S) : ((n % S : Nat) : Int) + S * ((e : Int) + 1) = ((e * S + n : Nat) : Int) := by
  have h2 : n % S = n - S := by rw [Nat.mod_eq_sub_mod h0, Nat.mod_eq_of_lt (by omega)]
  rw [h2, Int.mul_add, Int.mul_one, Int.natCast_add, Int.natCast_mul, Int.mul_comm]
  omega
theorem bitMake_32 (n e : Nat) (h : n < 16777216) (h2 : e = 0 ∨ 8388608 ≤ n) (he : e ≤ 100000) : AFunP Tryd.prog 163 [.int .i64 32, .agg [.pr False, .int .u64 n, .int .i64 ((e : Int) - 149)]]
    (· = if e * 8388608 + n < 2139095040 then .tup [.int .i64 ((e * 8388608 + n : Nat) : Int), .pr True] else .tup [.int .i64 0, .pr False]) := by
  refine afun_of Tryd.func163 Tryd.call163 rfl Tryd.ntmps163 rfl ?_
  have W : Walk Tryd.prog TT 163 _ := Walk.of TT_ok Tryd.func163 Tryd.results163
  have hT : 2139095040 = (2 * 127 + 1) * 8388608 := rfl
  refine ce W 0 rfl rfl (formatOf_32) rfl ?_
  refine sp W 0 rfl rfl rfl (fun h3 => ?_) (fun h3 => ?_)
  · simp at h3
  refine ce W 0 rfl rfl (in_ok ((e : Int) - 149) (-2000) 2000) rfl ?_
  refine sp W 0 rfl rfl rfl (fun h4 => ?_) (fun h4 => ?_)
  · rw [if_neg (by omega)]
    refine rp W 0 rfl rfl rfl (.tup ⟨.refl, .no id, trivial⟩)
  have h4 := Classical.not_not.1 h4
  refine sp W 0 rfl rfl rfl (fun h5 => ?_) (fun h5 => ?_)
  · have e0 : e = 0 := by omega
    have n0 : n = 0 := by omega
    subst e0; subst n0
    rw [if_pos (by decide)]
    refine rp W 0 rfl rfl rfl (.tup ⟨.refl, .yes trivial, trivial⟩)
  have hn0 : n ≠ 0 := by omega
  obtain ⟨q, hq1, hq2⟩ := tzN_ok n hn0
  have hz := tzN_lt hn0 (by omega)
  have hbits : (IntKind.i64.bits : Int) = 64 := rfl
  have hbits2 : (IntKind.u64.bits : Int) = 64 := rfl
  refine ce W 0 rfl rfl (tz_ok n hn0 (by omega)) rfl ?_
  generalize tzN n = z at *
  have hzp : 0 < 2 ^ z := Nat.pow_pos (by omega)
  have hqn : n / 2 ^ z = q := by rw [hq1, Nat.mul_div_cancel _ hzp]
  have eq1 : (n : Int) / 2 ^ ((z : Int)).toNat = (q : Int) := by rw [Int.toNat_natCast, ← hqn]; simp
  have hq0 : q ≠ 0 := by omega
  have hql : q ≤ n := by rw [hq1]; exact Nat.le_mul_of_pos_right _ hzp
  have hbl : bitL n = bitL q + z := by rw [hq1]; exact bitL_mul z q hq0
  have hbn : bitL n ≤ 24 := (bitL_lt 24 n).2 h
  have hbq : 0 < bitL q := by rw [bitL_pos hq0]; omega
  refine dre W 2 10 [] [] rfl rfl rfl trivial rfl ?_ (hp := by simp only [AllP, hbits, hbits2, true_and, and_true, Option.getD]; omega)
  rw [eq1]
  refine ce W 0 rfl rfl (len64_ok q (by omega) (by omega)) rfl ?_
  have hbl2 : bitLen (q : Int) = (bitL q : Int) := rfl
  rw [hbl2]
  generalize hB : bitL q = B at *
  have hnB : n < 2 ^ (B + z) := by rw [← hbl]; exact (bitL_lt _ n).1 (Nat.le_refl _)
  have hBz : 8388608 ≤ n → B + z = 24 := fun h0 => by
    rcases Nat.lt_or_ge (B + z) 24 with h1 | h1
    · have : 2 ^ (B + z) ≤ 2 ^ 23 := Nat.pow_le_pow_right (by omega) (by omega)
      omega
    · omega
  have hBz2 : n < 8388608 → B + z ≤ 23 := fun h0 => by rw [← hbl]; exact (bitL_lt 23 n).2 h0
  refine sp W 0 rfl rfl rfl (fun h6 => ?_) (fun h6 => ?_)
  · exfalso; omega
  refine sp W 0 rfl rfl rfl (fun h7 => ?_) (fun h7 => ?_)
  · exfalso; omega
  refine sp W 0 rfl rfl rfl (fun h8 => ?_) (fun h8 => ?_)
  · rw [if_neg (by omega)]
    refine rp W 0 rfl rfl rfl (.tup ⟨.refl, .no id, trivial⟩)
  rw [if_pos (by omega)]
  refine sp W 0 rfl rfl rfl (fun h9 => ?_) (fun h9 => ?_)
  · have hn1 : 8388608 ≤ n := by omega
    have hBe := hBz hn1
    have eS : (q : Int) * 2 ^ ((23 : Int) + 1 - B).toNat = (n : Int) := by
      rw [show ((23 : Int) + 1 - B).toNat = z by omega, hq1]; simp
    have eM : band .i64 (n : Int) (1 * 2 ^ Int.toNat 23 - 1) = ((n % 8388608 : Nat) : Int) := by
      have := band_mask (k := 23) (n := n) (by omega) (by omega) (by omega)
      rw [show (1 : Int) * 2 ^ Int.toNat 23 - 1 = 2 ^ 23 - 1 from rfl, this]; rfl
    have ep : (2 : Int) ^ Int.toNat 23 = 8388608 := rfl
    have eX : ((e : Int) - 149 + z + B - 1 + 127) * 2 ^ Int.toNat 23 = 8388608 * ((e : Int) + 1) := by
      rw [ep, show (e : Int) - 149 + z + B - 1 + 127 = (e : Int) + 1 by omega, Int.mul_comm]
    have eO : bor .i64 (((e : Int) - 149 + z + B - 1 + 127) * 2 ^ Int.toNat 23) ((n % 8388608 : Nat) : Int) = ((e * 8388608 + n : Nat) : Int) := by
      have := bor_add2 (r := 23) (a := ((n % 8388608 : Nat) : Int)) (c := (e : Int) + 1) (by omega) (by omega) (by rw [pw23]; omega) (by omega) (by rw [pw23]; omega)
      rw [pw23] at this
      rw [eX, this]
      exact mod_sum (S := 8388608) hn1 h
    refine dre W 2 18 [] [] rfl rfl rfl trivial rfl ?_ (hp := by simp only [AllP, eS, eM, eO, hbits, hbits2, true_and, and_true, Option.getD]; omega)
    rw [eS, eM, eO]
    refine sp W 0 rfl rfl rfl (fun hA => ?_) (fun hA => ?_)
    · exact absurd hA (fun h => h)
    refine rp W 0 rfl rfl rfl (.tup ⟨.refl, .yes trivial, trivial⟩)
  · have hn1 : n < 8388608 := by omega
    have e0 : e = 0 := by omega
    subst e0
    have eS : (q : Int) * 2 ^ (((0 : Nat) : Int) - 149 + z - (-149)).toNat = (n : Int) := by
      rw [show (((0 : Nat) : Int) - 149 + z - (-149)).toNat = z by omega, hq1]; simp
    refine sp W 2 rfl rfl rfl (fun hA => ?_) (fun hA => ?_) (hc := by simp only [AllC, eS, hbits, hbits2, true_and, and_true]; omega)
    · exact absurd hA (fun h => h)
    rw [eS]
    refine rp W 0 rfl rfl rfl (.tup ⟨.int (by omega), .yes trivial, trivial⟩)
theorem bitMake_64 (n e : Nat) (h : n < 9007199254740992) (h2 : e = 0 ∨ 4503599627370496 ≤ n) (he : e ≤ 100000) : AFunP Tryd.prog 163 [.int .i64 64, .agg [.pr False, .int .u64 n, .int .i64 ((e : Int) - 1074)]]
    (· = if e * 4503599627370496 + n < 9218868437227405312 then .tup [.int .i64 ((e * 4503599627370496 + n : Nat) : Int), .pr True] else .tup [.int .i64 0, .pr False]) := by
  refine afun_of Tryd.func163 Tryd.call163 rfl Tryd.ntmps163 rfl ?_
  have W : Walk Tryd.prog TT 163 _ := Walk.of TT_ok Tryd.func163 Tryd.results163
  have hT : 9218868437227405312 = (2 * 1023 + 1) * 4503599627370496 := rfl
  refine ce W 0 rfl rfl (formatOf_64) rfl ?_
  refine sp W 0 rfl rfl rfl (fun h3 => ?_) (fun h3 => ?_)
  · simp at h3
  refine ce W 0 rfl rfl (in_ok ((e : Int) - 1074) (-2000) 2000) rfl ?_
  refine sp W 0 rfl rfl rfl (fun h4 => ?_) (fun h4 => ?_)
  · rw [if_neg (by omega)]
    refine rp W 0 rfl rfl rfl (.tup ⟨.refl, .no id, trivial⟩)
  have h4 := Classical.not_not.1 h4
  refine sp W 0 rfl rfl rfl (fun h5 => ?_) (fun h5 => ?_)
  · have e0 : e = 0 := by omega
    have n0 : n = 0 := by omega
    subst e0; subst n0
    rw [if_pos (by decide)]
    refine rp W 0 rfl rfl rfl (.tup ⟨.refl, .yes trivial, trivial⟩)
  have hn0 : n ≠ 0 := by omega
  obtain ⟨q, hq1, hq2⟩ := tzN_ok n hn0
  have hz := tzN_lt hn0 (by omega)
  have hbits : (IntKind.i64.bits : Int) = 64 := rfl
  have hbits2 : (IntKind.u64.bits : Int) = 64 := rfl
  refine ce W 0 rfl rfl (tz_ok n hn0 (by omega)) rfl ?_
  generalize tzN n = z at *
  have hzp : 0 < 2 ^ z := Nat.pow_pos (by omega)
  have hqn : n / 2 ^ z = q := by rw [hq1, Nat.mul_div_cancel _ hzp]
  have eq1 : (n : Int) / 2 ^ ((z : Int)).toNat = (q : Int) := by rw [Int.toNat_natCast, ← hqn]; simp
  have hq0 : q ≠ 0 := by omega
  have hql : q ≤ n := by rw [hq1]; exact Nat.le_mul_of_pos_right _ hzp
  have hbl : bitL n = bitL q + z := by rw [hq1]; exact bitL_mul z q hq0
  have hbn : bitL n ≤ 53 := (bitL_lt 53 n).2 h
  have hbq : 0 < bitL q := by rw [bitL_pos hq0]; omega
  refine dre W 2 10 [] [] rfl rfl rfl trivial rfl ?_ (hp := by simp only [AllP, hbits, hbits2, true_and, and_true, Option.getD]; omega)
  rw [eq1]
  refine ce W 0 rfl rfl (len64_ok q (by omega) (by omega)) rfl ?_
  have hbl2 : bitLen (q : Int) = (bitL q : Int) := rfl
  rw [hbl2]
  generalize hB : bitL q = B at *
  have hnB : n < 2 ^ (B + z) := by rw [← hbl]; exact (bitL_lt _ n).1 (Nat.le_refl _)
  have hBz : 4503599627370496 ≤ n → B + z = 53 := fun h0 => by
    rcases Nat.lt_or_ge (B + z) 53 with h1 | h1
    · have : 2 ^ (B + z) ≤ 2 ^ 52 := Nat.pow_le_pow_right (by omega) (by omega)
      omega
    · omega
  have hBz2 : n < 4503599627370496 → B + z ≤ 52 := fun h0 => by rw [← hbl]; exact (bitL_lt 52 n).2 h0
  refine sp W 0 rfl rfl rfl (fun h6 => ?_) (fun h6 => ?_)
  · exfalso; omega
  refine sp W 0 rfl rfl rfl (fun h7 => ?_) (fun h7 => ?_)
  · exfalso; omega
  refine sp W 0 rfl rfl rfl (fun h8 => ?_) (fun h8 => ?_)
  · rw [if_neg (by omega)]
    refine rp W 0 rfl rfl rfl (.tup ⟨.refl, .no id, trivial⟩)
  rw [if_pos (by omega)]
  refine sp W 0 rfl rfl rfl (fun h9 => ?_) (fun h9 => ?_)
  · have hn1 : 4503599627370496 ≤ n := by omega
    have hBe := hBz hn1
    have eS : (q : Int) * 2 ^ ((52 : Int) + 1 - B).toNat = (n : Int) := by
      rw [show ((52 : Int) + 1 - B).toNat = z by omega, hq1]; simp
    have eM : band .i64 (n : Int) (1 * 2 ^ Int.toNat 52 - 1) = ((n % 4503599627370496 : Nat) : Int) := by
      have := band_mask (k := 52) (n := n) (by omega) (by omega) (by omega)
      rw [show (1 : Int) * 2 ^ Int.toNat 52 - 1 = 2 ^ 52 - 1 from rfl, this]; rfl
    have ep : (2 : Int) ^ Int.toNat 52 = 4503599627370496 := rfl
    have eX : ((e : Int) - 1074 + z + B - 1 + 1023) * 2 ^ Int.toNat 52 = 4503599627370496 * ((e : Int) + 1) := by
      rw [ep, show (e : Int) - 1074 + z + B - 1 + 1023 = (e : Int) + 1 by omega, Int.mul_comm]
    have eO : bor .i64 (((e : Int) - 1074 + z + B - 1 + 1023) * 2 ^ Int.toNat 52) ((n % 4503599627370496 : Nat) : Int) = ((e * 4503599627370496 + n : Nat) : Int) := by
      have := bor_add2 (r := 52) (a := ((n % 4503599627370496 : Nat) : Int)) (c := (e : Int) + 1) (by omega) (by omega) (by rw [pw52]; omega) (by omega) (by rw [pw52]; omega)
      rw [pw52] at this
      rw [eX, this]
      exact mod_sum (S := 4503599627370496) hn1 h
    refine dre W 2 18 [] [] rfl rfl rfl trivial rfl ?_ (hp := by simp only [AllP, eS, eM, eO, hbits, hbits2, true_and, and_true, Option.getD]; omega)
    rw [eS, eM, eO]
    refine sp W 0 rfl rfl rfl (fun hA => ?_) (fun hA => ?_)
    · exact absurd hA (fun h => h)
    refine rp W 0 rfl rfl rfl (.tup ⟨.refl, .yes trivial, trivial⟩)
  · have hn1 : n < 4503599627370496 := by omega
    have e0 : e = 0 := by omega
    subst e0
    have eS : (q : Int) * 2 ^ (((0 : Nat) : Int) - 1074 + z - (-1074)).toNat = (n : Int) := by
      rw [show (((0 : Nat) : Int) - 1074 + z - (-1074)).toNat = z by omega, hq1]; simp
    refine sp W 2 rfl rfl rfl (fun hA => ?_) (fun hA => ?_) (hc := by simp only [AllC, eS, hbits, hbits2, true_and, and_true]; omega)
    · exact absurd hA (fun h => h)
    rw [eS]
    refine rp W 0 rfl rfl rfl (.tup ⟨.int (by omega), .yes trivial, trivial⟩)
end Pf
/- The value of a float -/
namespace Pf
open Go Go.Proofs
/-- The value of a float. -/
noncomputable def vl (w n : Int) : Rat := mkRat (sg (n < 0) (fv (fF w) n.natAbs)) (2 ^ fK w)
theorem two_nz (k : Nat) : 2 ^ k ≠ 0 := Nat.pos_iff_ne_zero.1 (Nat.pow_pos (by omega))
theorem sg_zero (p : Prop) : sg p 0 = 0 := by unfold sg; split <;> rfl
theorem frF_low {p : Prop} {a b : Nat} {r : Rat} (hb : b ≠ 0) (h : mkRat (sg p a) b = r) : frF (p ∧ a ≠ 0) (lT a b) (lB a b) = frR r := by
  obtain ⟨h1, h2, h3⟩ := mkRat_parts p a b hb
  rw [h] at h1 h2 h3
  unfold frR
  rw [h1, h2, propext h3]
theorem vl_parts {w n : Int} {s e : Nat} (hs : fv (fF w) n.natAbs = s * 2 ^ e) (h : fK w ≤ e) : mkRat (sg (n < 0) (s * 2 ^ (e - fK w))) 1 = vl w n := by
  unfold vl
  rw [hs, show 2 ^ e = 2 ^ (e - fK w) * 2 ^ fK w by rw [← Nat.pow_add]; congr 1; omega, ← Nat.mul_assoc, sg_mul_nat _ (s * 2 ^ (e - fK w))]
  have := Rat.mkRat_mul_right (n := sg (n < 0) (s * 2 ^ (e - fK w))) (d := 1) (two_nz (fK w))
  rw [Nat.one_mul] at this
  exact this.symm
theorem vl_parts2 {w n : Int} {s e : Nat} (hs : fv (fF w) n.natAbs = s * 2 ^ e) (h : e ≤ fK w) : mkRat (sg (n < 0) s) (2 ^ (fK w - e)) = vl w n := by
  unfold vl
  rw [hs, sg_mul_nat]
  conv => rhs; rw [show 2 ^ fK w = 2 ^ (fK w - e) * 2 ^ e by rw [← Nat.pow_add]; congr 1; omega]
  exact (Rat.mkRat_mul_right (two_nz _)).symm
theorem fpw_le {F G n : Nat} (h : n < (2 * G + 1) * 2 ^ F) : fpw F n ≤ 2 * G := by
  unfold fpw
  have : n / 2 ^ F < 2 * G + 1 := (Nat.div_lt_iff_lt_mul (Nat.pow_pos (by omega))).2 h
  omega
theorem dig_pow_len (k n : Nat) (h : k < 16 * n) : (dig (2 ^ k)).length ≤ n := by
  rw [dig_len_le, show (65536 : Nat) ^ n = (2 ^ 16) ^ n from rfl, ← Nat.pow_mul]
  exact Nat.pow_lt_pow_right (by omega) h
theorem lT_one (a : Nat) : lT a 1 = dig a ∧ lB a 1 = [1] := by
  unfold lT lB
  rw [Nat.gcd_one_right, Nat.div_one, Nat.div_one, dig_one]
  exact ⟨rfl, rfl⟩
/-- 1, in memory that is not frozen, times a power of two. -/
theorem natShift1_m (k : Nat) (hk : k ≤ 1000000) : AFunM Tryd.prog 128 [.sl 0 0 0 1, .int .i64 k] [.ints 0 .i64 [1]] (fun u blks => u = .fi .i64 (dig (2 ^ k)) ∧ blks = [.ints 0 .i64 [1]]) := by
  refine afun_of Tryd.func128 Tryd.call128 rfl Tryd.ntmps128 rfl ?_
  have W : Walk Tryd.prog TT 128 _ := Walk.of TT_ok Tryd.func128 Tryd.results128
  refine sp W 0 rfl rfl rfl (fun h => ?_) (fun h => ?_)
  · exfalso; omega
  have eL : ((k : Int) / 16 + ((1 : Nat) : Int) + 1) = ((k / 16 + 2 : Nat) : Int) := by omega
  refine lp W 0 (σ := Nat × List Int) (fun s => [(1, .int .i64 k), (9, .sl 1 0 0 (k / 16 + 2)), (75, .sl 0 0 0 1), (76, .int .i64 ((1 : Nat) : Int)), (77, .int .i64 s.1)]) (fun s => [.ints 0 .i64 [1], .ints 0 .i64 s.2]) (fun s => 1 - s.1)
    (fun s => (s.1 = 0 ∧ s.2 = List.replicate (k / 16 + 2) 0) ∨ (s.1 = 1 ∧ s.2.length = k / 16 + 2 ∧ Dgs s.2 ∧ val s.2 = ((2 ^ k : Nat) : Int)))
    (0, List.replicate (k / 16 + 2) 0) [1, 9, 75, 76, 77] rfl (by rw [eL]; rfl) (by rw [eL]; rfl) (.inl ⟨rfl, rfl⟩) ?_ (hc := by simp only [AllC, true_and]; omega)
  rintro ⟨i, l⟩ hs ih
  dsimp only at hs ih ⊢
  refine sp W 0 rfl rfl rfl (fun h1 => ?_) (fun h1 => ?_)
  · rcases hs with ⟨rfl, rfl⟩ | ⟨rfl, _⟩
    · have hr : k % 16 < 16 := Nat.mod_lt _ (by omega)
      have hbits : (IntKind.i64.bits : Int) = 64 := rfl
      obtain ⟨r1, r2⟩ := (by decide : ∀ r, r < 16 → (1 : Int) ≤ 2 ^ r ∧ (2 : Int) ^ r ≤ 32768) (k % 16) hr
      have eq1 : ((k : Int) / 16 + ((0 : Nat) : Int)).toNat = k / 16 := by omega
      have eq2 : ((k : Int) / 16 + ((0 : Nat) : Int) + 1).toNat = k / 16 + 1 := by omega
      have eq3 : ((k : Int) % 16).toNat = k % 16 := by omega
      have eb : band .i64 (1 * 2 ^ (k % 16)) 65535 = 2 ^ (k % 16) := by
        rw [Int.one_mul, band_low (by omega) (by omega)]; omega
      have g0 : ∀ j, (List.replicate (k / 16 + 2) (0 : Int)).getD j 0 = 0 := fun j => by
        rw [List.getD_eq_getElem?_getD, List.getElem?_replicate]; split <;> rfl
      have eo : bor .i64 0 (2 ^ (k % 16)) = 2 ^ (k % 16) := by
        have := (bor_add (r := 0) (a := 0) (c := 2 ^ (k % 16)) (by omega) (by omega) (by simp) (by omega) (by simp only [Int.pow_zero]; omega)).1
        simpa using this
      have ed : (1 : Int) * 2 ^ (k % 16) / 2 ^ 16 = 0 := by
        rw [Int.one_mul, pw16]; exact Int.ediv_eq_zero_of_lt (by omega) (by omega)
      have nx := ih (1, ((List.replicate (k / 16 + 2) (0 : Int)).set (k / 16) (bor .i64 ((List.replicate (k / 16 + 2) (0 : Int)).getD (k / 16) 0) (band .i64 (1 * 2 ^ (k % 16)) 65535))).set (k / 16 + 1) (1 * 2 ^ (k % 16) / 2 ^ 16)) (.inr ⟨rfl, by simp, ?_, ?_⟩) (by dsimp only; omega)
      · refine bk W 2 [1, 9, 75, 76, 77] rfl rfl nx (hc := ?_)
        simp only [AllC, eq1, eq2, eq3, addN, Int.toNat_natCast, true_and, List.length_set, List.length_replicate]
        simp
        omega
      · dsimp only
        rw [g0, eb, eo, ed]
        have hz : Dgs (List.replicate (k / 16 + 2) (0 : Int)) := fun d hd => by have := List.eq_of_mem_replicate hd; omega
        have hz2 : Dgs ((List.replicate (k / 16 + 2) (0 : Int)).set (k / 16) (2 ^ (k % 16))) := hz.set (by omega) (by omega)
        exact hz2.set (by omega) (by omega)
      · dsimp only
        rw [g0, eb, eo, ed, val_set _ _ _ (by simp), val_set _ _ _ (by simp), val_replicate, getD_set _ _ _ _ (by simp), if_neg (by omega), g0, g0, Int.sub_zero, Int.sub_zero, Int.mul_zero, Int.add_zero, Int.zero_add]
        rw [show (65536 : Int) = 2 ^ 16 from rfl, ← Int.pow_mul, ← Int.pow_add, show 16 * (k / 16) + k % 16 = k by omega]
        simp
    · exfalso; omega
  · rcases hs with ⟨rfl, _⟩ | ⟨rfl, hl, hd, hv⟩
    · exfalso; omega
    · refine cf W 0 [1] [] rfl rfl rfl rfl rfl rfl (trim_ok l (by omega)) rfl ?_
      rw [trimL_dig hd, hv, Int.toNat_natCast]
      refine rm W 0 [.ints 0 .i64 [1]] rfl rfl rfl ⟨rfl, trivial⟩ rfl rfl (.fi .i64 (dig (2 ^ k))) rfl (.refl) (⟨rfl, rfl⟩)
theorem value_32 (n : Int) (h : n.natAbs < fT 32) : AFunP Tryd.prog 76 [.int .i64 32, .int .i64 n] (· = frR (vl 32 n)) := by
  refine afun_of Tryd.func76 Tryd.call76 rfl Tryd.ntmps76 rfl ?_
  have W : Walk Tryd.prog TT 76 _ := Walk.of TT_ok Tryd.func76 Tryd.results76
  have hs := fv_eq 23 n.natAbs
  have h1 := fsz_lt 23 n.natAbs
  have h2 : fpw 23 n.natAbs ≤ 2 * 127 := fpw_le h
  have hF : fF 32 = 23 := rfl
  have hK : fK 32 = 149 := rfl
  refine ce W 0 rfl rfl (bitPart_32 n h) rfl ?_
  generalize fsz 23 n.natAbs = s at *
  generalize fpw 23 n.natAbs = e at *
  have hsl : (dig s).length ≤ 4 := dig_len_le.2 (by omega)
  refine ce W 0 rfl rfl (natOf_ok s (by omega)) rfl ?_
  refine sp W 0 rfl rfl rfl (fun h3 => ?_) (fun h3 => ?_)
  · have hp := vl_parts (w := 32) hs (by omega)
    have es : (e : Int) - 149 = ((e - 149 : Nat) : Int) := by omega
    have k1 := natShiftUp_ok s (e - 149) (by omega) (by omega)
    rw [← es] at k1
    have hl : (dig (s * 2 ^ (e - 149))).length ≤ 4 + 1000 := dig_len_mul hsl (dig_pow_len _ _ (by omega))
    obtain ⟨o1, o2⟩ := lT_one (s * 2 ^ (e - 149))
    have k2 := whole_ok (n < 0) (s * 2 ^ (e - 149)) (by omega)
    have hfr := frF_low (by omega) hp
    rw [hK, o1, o2] at hfr
    rw [hfr] at k2
    refine dre W 0 7 [] [.fi .i64 (dig (s * 2 ^ (e - 149))), frR (vl 32 n)] rfl rfl rfl ⟨k1.at rfl _, k2.at rfl _, trivial⟩ rfl ?_
    refine rp W 0 rfl rfl rfl (.refl)
  · have hp := vl_parts2 (w := 32) hs (by omega)
    have es : -((e : Int) - 149) = ((149 - e : Nat) : Int) := by omega
    have k1 := natShift1_m (149 - e) (by omega)
    rw [← es] at k1
    have k2 := lowest_ok (n < 0) s (2 ^ (149 - e)) (two_nz _) (by omega) (Nat.le_trans (dig_pow_len (149 - e) 1000 (by omega)) (by omega))
    have hfr := frF_low (two_nz _) hp
    rw [show lT s (2 ^ (fK 32 - e)) = dig (s / Nat.gcd s (2 ^ (149 - e))) from rfl, show lB s (2 ^ (fK 32 - e)) = dig (2 ^ (149 - e) / Nat.gcd s (2 ^ (149 - e))) from rfl] at hfr
    rw [hfr] at k2
    refine phg W 0 9 [3, 7] rfl rfl (fun PW => ?_)
    refine pho PW 0 3 [] [] rfl rfl trivial rfl rfl ?_
    refine phm PW 0 7 [(2, 0)] [] [] rfl rfl trivial rfl k1 ⟨rfl, trivial⟩ rfl rfl rfl ?_
    rintro _ _ ⟨rfl, rfl⟩
    refine ⟨_, _, rfl, rfl, ?_⟩
    refine phe PW 0 [] [frR (vl 32 n)] rfl ⟨k2.at rfl _, trivial⟩ rfl ?_
    refine rp W 0 rfl rfl rfl (.refl)
theorem value_64 (n : Int) (h : n.natAbs < fT 64) : AFunP Tryd.prog 76 [.int .i64 64, .int .i64 n] (· = frR (vl 64 n)) := by
  refine afun_of Tryd.func76 Tryd.call76 rfl Tryd.ntmps76 rfl ?_
  have W : Walk Tryd.prog TT 76 _ := Walk.of TT_ok Tryd.func76 Tryd.results76
  have hs := fv_eq 52 n.natAbs
  have h1 := fsz_lt 52 n.natAbs
  have h2 : fpw 52 n.natAbs ≤ 2 * 1023 := fpw_le h
  have hF : fF 64 = 52 := rfl
  have hK : fK 64 = 1074 := rfl
  refine ce W 0 rfl rfl (bitPart_64 n h) rfl ?_
  generalize fsz 52 n.natAbs = s at *
  generalize fpw 52 n.natAbs = e at *
  have hsl : (dig s).length ≤ 4 := dig_len_le.2 (by omega)
  refine ce W 0 rfl rfl (natOf_ok s (by omega)) rfl ?_
  refine sp W 0 rfl rfl rfl (fun h3 => ?_) (fun h3 => ?_)
  · have hp := vl_parts (w := 64) hs (by omega)
    have es : (e : Int) - 1074 = ((e - 1074 : Nat) : Int) := by omega
    have k1 := natShiftUp_ok s (e - 1074) (by omega) (by omega)
    rw [← es] at k1
    have hl : (dig (s * 2 ^ (e - 1074))).length ≤ 4 + 1000 := dig_len_mul hsl (dig_pow_len _ _ (by omega))
    obtain ⟨o1, o2⟩ := lT_one (s * 2 ^ (e - 1074))
    have k2 := whole_ok (n < 0) (s * 2 ^ (e - 1074)) (by omega)
    have hfr := frF_low (by omega) hp
    rw [hK, o1, o2] at hfr
    rw [hfr] at k2
    refine dre W 0 7 [] [.fi .i64 (dig (s * 2 ^ (e - 1074))), frR (vl 64 n)] rfl rfl rfl ⟨k1.at rfl _, k2.at rfl _, trivial⟩ rfl ?_
    refine rp W 0 rfl rfl rfl (.refl)
  · have hp := vl_parts2 (w := 64) hs (by omega)
    have es : -((e : Int) - 1074) = ((1074 - e : Nat) : Int) := by omega
    have k1 := natShift1_m (1074 - e) (by omega)
    rw [← es] at k1
    have k2 := lowest_ok (n < 0) s (2 ^ (1074 - e)) (two_nz _) (by omega) (Nat.le_trans (dig_pow_len (1074 - e) 1000 (by omega)) (by omega))
    have hfr := frF_low (two_nz _) hp
    rw [show lT s (2 ^ (fK 64 - e)) = dig (s / Nat.gcd s (2 ^ (1074 - e))) from rfl, show lB s (2 ^ (fK 64 - e)) = dig (2 ^ (1074 - e) / Nat.gcd s (2 ^ (1074 - e))) from rfl] at hfr
    rw [hfr] at k2
    refine phg W 0 9 [3, 7] rfl rfl (fun PW => ?_)
    refine pho PW 0 3 [] [] rfl rfl trivial rfl rfl ?_
    refine phm PW 0 7 [(2, 0)] [] [] rfl rfl trivial rfl k1 ⟨rfl, trivial⟩ rfl rfl rfl ?_
    rintro _ _ ⟨rfl, rfl⟩
    refine ⟨_, _, rfl, rfl, ?_⟩
    refine phe PW 0 [] [frR (vl 64 n)] rfl ⟨k2.at rfl _, trivial⟩ rfl ?_
    refine rp W 0 rfl rfl rfl (.refl)
end Pf
/- Floats: a fraction's greatest float below -/
namespace Pf
open Go Go.Proofs
theorem bitL_ge {n : Nat} (h : n ≠ 0) : 2 ^ (bitL n - 1) ≤ n := by
  rcases Nat.lt_or_ge n (2 ^ (bitL n - 1)) with h1 | h1
  · have := (bitL_lt (bitL n - 1) n).2 h1
    have : 0 < bitL n := by rw [bitL_pos h]; omega
    omega
  · exact h1
theorem bitL_up (n : Nat) : n < 2 ^ bitL n := (bitL_lt (bitL n) n).1 (Nat.le_refl _)
/-- The first power: the quotient has as many bits as a fraction and one, or one more. -/
theorem first_q {F K a b e : Nat} (ha : a ≠ 0) (hb : b ≠ 0) (he : (e : Int) = max 0 ((bitL a : Int) - bitL b - (F + 1) + K)) :
    a * 2 ^ K / (b * 2 ^ e) < 2 ^ (F + 2) ∧ (e = 0 ∨ 2 ^ F ≤ a * 2 ^ K / (b * 2 ^ e)) := by
  have a1 := bitL_ge ha
  have a2 := bitL_up a
  have b1 := bitL_ge hb
  have b2 := bitL_up b
  have ha0 : 0 < bitL a := by rw [bitL_pos ha]; omega
  have hb0 : 0 < bitL b := by rw [bitL_pos hb]; omega
  have hp : 0 < b * 2 ^ e := Nat.mul_pos (by omega) (Nat.pow_pos (by omega))
  constructor
  · refine Nat.div_lt_of_lt_mul ?_
    calc a * 2 ^ K < 2 ^ bitL a * 2 ^ K := Nat.mul_lt_mul_of_pos_right a2 (Nat.pow_pos (by omega))
      _ = 2 ^ (bitL a + K) := (Nat.pow_add ..).symm
      _ ≤ 2 ^ (bitL b - 1 + e + (F + 2)) := Nat.pow_le_pow_right (by omega) (by omega)
      _ = 2 ^ (bitL b - 1) * 2 ^ e * 2 ^ (F + 2) := by rw [Nat.pow_add, Nat.pow_add]
      _ ≤ b * 2 ^ e * 2 ^ (F + 2) := Nat.mul_le_mul_right _ (Nat.mul_le_mul_right _ b1)
  · by_cases h0 : e = 0
    · exact .inl h0
    · right
      rw [Nat.le_div_iff_mul_le hp]
      calc 2 ^ F * (b * 2 ^ e) ≤ 2 ^ F * (2 ^ bitL b * 2 ^ e) := Nat.mul_le_mul_left _ (Nat.mul_le_mul_right _ (Nat.le_of_lt b2))
        _ = 2 ^ (F + bitL b + e) := by rw [Nat.pow_add, Nat.pow_add, Nat.mul_assoc]
        _ ≤ 2 ^ (bitL a - 1 + K) := Nat.pow_le_pow_right (by omega) (by omega)
        _ = 2 ^ (bitL a - 1) * 2 ^ K := Nat.pow_add ..
        _ ≤ a * 2 ^ K := Nat.mul_le_mul_right _ a1
/-- One bit less. -/
theorem half_q {A b e : Nat} (hb : 0 < b) : A / (b * 2 ^ (e + 1)) = A / (b * 2 ^ e) / 2 ∧ (A % (b * 2 ^ (e + 1)) = 0 ↔ A % (b * 2 ^ e) = 0 ∧ A / (b * 2 ^ e) % 2 = 0) := by
  have hp : 0 < b * 2 ^ e := Nat.mul_pos hb (Nat.pow_pos (by omega))
  have e1 : b * 2 ^ (e + 1) = b * 2 ^ e * 2 := by rw [Nat.pow_succ, Nat.mul_assoc]
  rw [e1]
  generalize b * 2 ^ e = m at *
  refine ⟨(Nat.div_div_eq_div_mul A m 2).symm, ?_⟩
  rw [Nat.mod_mul]
  constructor
  · intro h
    have h1 : A % m = 0 := by omega
    have h2 : m * (A / m % 2) = 0 := by omega
    rcases Nat.mul_eq_zero.1 h2 with h3 | h3
    · omega
    · exact ⟨h1, h3⟩
  · rintro ⟨h1, h2⟩
    rw [h1, h2, Nat.mul_zero]
theorem shl_down {a b K e : Nat} (h : e ≤ K) : a * 2 ^ (K - e) / b = a * 2 ^ K / (b * 2 ^ e) ∧ (a * 2 ^ (K - e) % b = 0 ↔ a * 2 ^ K % (b * 2 ^ e) = 0) := by
  have e1 : a * 2 ^ K = a * 2 ^ (K - e) * 2 ^ e := by rw [Nat.mul_assoc, ← Nat.pow_add]; congr 2; omega
  have hp : 0 < 2 ^ e := Nat.pow_pos (by omega)
  rw [e1]
  refine ⟨(Nat.mul_div_mul_right _ _ hp).symm, ?_⟩
  rw [Nat.mul_mod_mul_right]
  constructor
  · intro h; rw [h, Nat.zero_mul]
  · intro h; rcases Nat.mul_eq_zero.1 h with h | h
    · exact h
    · omega
theorem shl_up {a b K e : Nat} (h : K ≤ e) : a / (b * 2 ^ (e - K)) = a * 2 ^ K / (b * 2 ^ e) ∧ (a % (b * 2 ^ (e - K)) = 0 ↔ a * 2 ^ K % (b * 2 ^ e) = 0) := by
  have e1 : b * 2 ^ e = b * 2 ^ (e - K) * 2 ^ K := by rw [Nat.mul_assoc, ← Nat.pow_add]; congr 2; omega
  have hp : 0 < 2 ^ K := Nat.pow_pos (by omega)
  rw [e1]
  refine ⟨(Nat.mul_div_mul_right _ _ hp).symm, ?_⟩
  rw [Nat.mul_mod_mul_right]
  constructor
  · intro h; rw [h, Nat.zero_mul]
  · intro h; rcases Nat.mul_eq_zero.1 h with h | h
    · exact h
    · omega
theorem tvN_zero (w : Int) (b : Nat) : tvN w 0 b = 0 ∧ teN w 0 b := by
  have h : tvN w 0 b = 0 := by
    have hs := fv_step (fF w) 0
    unfold tvN
    rw [Nat.zero_mul, Nat.zero_div]
    exact trn_eq (Nat.zero_le _) (by rw [fv_zero]; exact Nat.le_refl _) (.inr (by omega))
  refine ⟨h, ?_⟩
  unfold teN
  rw [h, fv_zero, Nat.zero_mul, Nat.zero_mul]
theorem bor_addU {r : Nat} {a c : Int} (hr : r ≤ 62) (h0 : 0 ≤ a) (h1 : a < 2 ^ r) (h2 : 0 ≤ c) (h3 : a + c * 2 ^ r ≤ 9223372036854775807) : bor .u64 a (c * 2 ^ r) = a + c * 2 ^ r := by
  obtain ⟨m, rfl⟩ : ∃ m : Nat, a = m := ⟨a.toNat, by omega⟩
  obtain ⟨n, rfl⟩ : ∃ n : Nat, c = n := ⟨c.toNat, by omega⟩
  have e2 : (n : Int) * 2 ^ r = ((2 ^ r * n : Nat) : Int) := by rw [Int.mul_comm]; simp
  have h1' : m < 2 ^ r := by
    have : ((m : Nat) : Int) < ((2 ^ r : Nat) : Int) := by simpa using h1
    omega
  rw [e2] at h3 ⊢
  have key : m ||| 2 ^ r * n = 2 ^ r * n + m := by rw [Nat.or_comm]; exact (Nat.two_pow_add_eq_or_of_lt h1' n).symm
  have a1 : (BitVec.ofInt 64 (m : Int)).toNat = m := by rw [BitVec.toNat_ofInt]; omega
  have a2 : (BitVec.ofInt 64 ((2 ^ r * n : Nat) : Int)).toNat = 2 ^ r * n := by rw [BitVec.toNat_ofInt]; omega
  have e : bor .u64 (m : Int) ((2 ^ r * n : Nat) : Int) = IntKind.u64.wrap (((BitVec.ofInt 64 (m : Int) ||| BitVec.ofInt 64 ((2 ^ r * n : Nat) : Int)).toNat : Nat) : Int) := rfl
  rw [e, BitVec.toNat_or, a1, a2, key, wrapU]
  omega
theorem take_le {Q i : Nat} : val ((dig Q).take i) ≤ Q := by
  have h1 := val_split (dig Q) (min i (dig Q).length) (Nat.min_le_right _ _)
  rw [val_dig, List.take_eq_take_min.symm] at h1
  have h2 := val_nonneg ((dig_dgs Q).drop (min i (dig Q).length))
  have h3 := Int.mul_nonneg (show (0 : Int) ≤ 65536 ^ (min i (dig Q).length) from Int.pow_nonneg (by omega)) h2
  omega
theorem low_dig (q : Nat) : band .i64 ((dig q).getD (Int.toNat 0) 0) 1 = ((q % 2 : Nat) : Int) := by
  have g0 : (dig q).getD 0 0 = ((q % 65536 : Nat) : Int) := by rw [dig_get]; simp
  have g1 := (dig_dgs q).get 0
  have := band_mask (k := 1) (n := (dig q).getD 0 0) (by omega) (by omega) (by omega)
  rw [show (1 : Int) = 2 ^ 1 - 1 from rfl, show Int.toNat 0 = 0 from rfl, this, g0, pw1]; omega
theorem tvN_as {w : Int} {a b A F K T : Nat} (hF : fF w = F) (hK : fK w = K) (hT : fT w = T) (hA : a * 2 ^ K = A) : tvN w a b = trn F T (A / b) ∧ (teN w a b ↔ fv F (trn F T (A / b)) * b = A) := by
  subst hF; subst hK; subst hT; subst hA
  exact ⟨rfl, Iff.rfl⟩
theorem truncated_32 (p : Prop) (a b : Nat) (hb : b ≠ 0) (ha : (dig a).length ≤ 1000) (hbl : (dig b).length ≤ 1000) : AFunP Tryd.prog 136 [.int .i64 32, frF p (dig a) (dig b)] (· = .tup [.int .i64 (tvN 32 a b), .pr (teN 32 a b)]) := by
  refine afun_of Tryd.func136 Tryd.call136 rfl Tryd.ntmps136 rfl ?_
  have W : Walk Tryd.prog TT 136 _ := Walk.of TT_ok Tryd.func136 Tryd.results136
  refine ce W 0 rfl rfl (formatOf_32) rfl ?_
  refine sp W 0 rfl rfl rfl (fun h0 => ?_) (fun h0 => ?_)
  · have a0 : a = 0 := dig_nil.1 (List.eq_nil_of_length_eq_zero (by omega))
    subst a0
    obtain ⟨z1, z2⟩ := tvN_zero 32 b
    refine rp W 0 rfl rfl rfl (.tup ⟨.int (by rw [z1]; rfl), .yes z2, trivial⟩)
  have a0 : a ≠ 0 := by rintro rfl; simp [dig_zero] at h0
  have ba := bitL_len (a := a)
  have bb := bitL_len (a := b)
  obtain ⟨e, he⟩ : ∃ e : Nat, (e : Int) = max 0 ((bitL a : Int) - bitL b - (23 + 1) + 149) := ⟨(max 0 ((bitL a : Int) - bitL b - (23 + 1) + 149)).toNat, by omega⟩
  obtain ⟨q1, q2⟩ := first_q (F := 23) (K := 149) a0 hb he
  have ep : max (-149) ((bitL a : Int) - bitL b - (23 + 1)) = (e : Int) - 149 := by omega
  refine dre W 0 12 [] [.int .i64 (bitL a), .int .i64 (bitL b)] rfl rfl rfl ⟨(natBits_ok a (by omega)).at rfl _, (natBits_ok b (by omega)).at rfl _, trivial⟩ rfl ?_
  rw [ep]
  refine phg W 0 5 [] rfl rfl (fun PW => ?_)
  refine phe PW 0 [] [] rfl trivial rfl ?_
  refine sp W 0 rfl rfl rfl (fun h1 => ?_) (fun h1 => ?_)
  · have h1 : e < 149 := by omega
    obtain ⟨d1, d2⟩ := shl_down (a := a) (b := b) (K := 149) (e := e) (by omega)
    have es : -((e : Int) - 149) = ((149 - e : Nat) : Int) := by omega
    have k1 := natShiftUp_ok a (149 - e) (by omega) (by omega)
    rw [← es] at k1
    have hl : (dig (a * 2 ^ (149 - e))).length ≤ 1000 + 1000 := dig_len_mul ha (dig_pow_len _ _ (by omega))
    refine ce W 0 rfl rfl (k1) rfl ?_
    refine ce W 0 rfl rfl (natDiv_ok (a * 2 ^ (149 - e)) b hb (by omega) (by omega)) rfl ?_
    rw [d1]
    clear d1
    generalize hA : a * 2 ^ 149 = A at *
    generalize a * 2 ^ (149 - e) % b = R at *
    have hAl : A / (b * 2 ^ e) < 2 ^ 25 := q1
    have hql : (dig (A / (b * 2 ^ e))).length ≤ 4 := dig_len_le.2 (Nat.lt_of_lt_of_le hAl (by decide))
    have hbp : 0 < b := by omega
    obtain ⟨f1, f2⟩ := half_q (A := A) (b := b) (e := e) hbp
    have hR : ((dig R).length : Int) = 0 ↔ R = 0 := ⟨fun h => dig_nil.1 (List.eq_nil_of_length_eq_zero (by omega)), fun h => by rw [h, dig_zero]; rfl⟩
    have ebits := bitL_lt 24 (A / (b * 2 ^ e))
    refine ce W 0 rfl rfl (natBits_ok (A / (b * 2 ^ e)) (by omega)) rfl ?_
    refine' cutK (fun K => ?main1) ?rest1
    case main1 =>
      have k3 : AFunP Tryd.prog 128 [.fi .i64 (dig (A / (b * 2 ^ e))), .int .i64 (-1)] (· = .fi .i64 (dig (A / (b * 2 ^ (e + 1))))) := by
        have := natShiftDown_ok (A / (b * 2 ^ e)) 1 (by omega) (by omega) (by omega)
        rw [f1]
        simpa using this
      have eP : (e : Int) - 149 + 1 = ((e + 1 : Nat) : Int) - 149 := by omega
      have eb := low_dig (A / (b * 2 ^ e))
      refine sp W 0 rfl rfl rfl (fun h5 => ?_) (fun h5 => ?_)
      · have h6 : 2 ^ 24 ≤ A / (b * 2 ^ e) := by
          rcases Nat.lt_or_ge (A / (b * 2 ^ e)) (2 ^ 24) with h7 | h7
          · have := ebits.2 h7; omega
          · exact h7
        have h7 : A / (b * 2 ^ (e + 1)) < 2 ^ 24 ∧ 2 ^ 23 ≤ A / (b * 2 ^ (e + 1)) := by rw [f1]; omega
        have hlen : 0 < (dig (A / (b * 2 ^ e))).length := dig_len_lt.2 (by rw [Nat.pow_zero]; omega)
        refine sp W 0 rfl rfl rfl (fun h8 => ?_) (fun h8 => ?_)
        · refine ce W 0 rfl rfl k3 rfl ?_ (hc := by simp only [AllC, true_and]; omega)
          rw [eb]
          refine lp W 0 (σ := Nat × Int × Nat × Prop) (fun s => [(0, .int .i64 32), (6, .ptr 1 0 0 0), (9, .int .i64 ((s.2.2.1 : Int) - 149)), (14, .pr s.2.2.2), (15, .int .u64 s.2.1), (82, .fi .i64 (dig (A / (b * 2 ^ s.2.2.1)))), (83, .int .i64 (dig (A / (b * 2 ^ s.2.2.1))).length), (84, .int .i64 s.1)])
            (fun _ => [.lst 0 [[.pr p, .fi .i64 (dig a), .fi .i64 (dig b)]], .lst 0 [[.int .i64 23, .int .i64 (-149), .int .i64 127, .int .i64 2139095040]]])
            (fun s => (dig (A / (b * 2 ^ s.2.2.1))).length - s.1)
            (fun s => s.1 ≤ (dig (A / (b * 2 ^ s.2.2.1))).length ∧ s.2.1 = val ((dig (A / (b * 2 ^ s.2.2.1))).take s.1) ∧ s.2.2.1 ≤ e + 1 ∧ A / (b * 2 ^ s.2.2.1) < 2 ^ 24 ∧ (s.2.2.1 = 0 ∨ 2 ^ 23 ≤ A / (b * 2 ^ s.2.2.1)) ∧ (s.2.2.2 ↔ A % (b * 2 ^ s.2.2.1) = 0))
            (0, 0, e + 1, ((A / (b * 2 ^ e) % 2 : Nat) : Int) = 0) [0, 6, 9, 14, 15, 82, 83, 84] rfl (by rw [← eP]; rfl) rfl ⟨Nat.zero_le _, by simp [val], Nat.le_refl _, h7.1, .inr h7.2, by rw [f2, ← d2, ← hR]; omega⟩ K.get
        · refine ce W 0 rfl rfl k3 rfl ?_ (hc := by simp only [AllC, true_and])
          refine atl W rfl ?_
          refine go_sub 14 (.pr False) rfl (.no id) rfl ?_
          refine lp W 0 (σ := Nat × Int × Nat × Prop) (fun s => [(0, .int .i64 32), (6, .ptr 1 0 0 0), (9, .int .i64 ((s.2.2.1 : Int) - 149)), (14, .pr s.2.2.2), (15, .int .u64 s.2.1), (82, .fi .i64 (dig (A / (b * 2 ^ s.2.2.1)))), (83, .int .i64 (dig (A / (b * 2 ^ s.2.2.1))).length), (84, .int .i64 s.1)])
            (fun _ => [.lst 0 [[.pr p, .fi .i64 (dig a), .fi .i64 (dig b)]], .lst 0 [[.int .i64 23, .int .i64 (-149), .int .i64 127, .int .i64 2139095040]]])
            (fun s => (dig (A / (b * 2 ^ s.2.2.1))).length - s.1)
            (fun s => s.1 ≤ (dig (A / (b * 2 ^ s.2.2.1))).length ∧ s.2.1 = val ((dig (A / (b * 2 ^ s.2.2.1))).take s.1) ∧ s.2.2.1 ≤ e + 1 ∧ A / (b * 2 ^ s.2.2.1) < 2 ^ 24 ∧ (s.2.2.1 = 0 ∨ 2 ^ 23 ≤ A / (b * 2 ^ s.2.2.1)) ∧ (s.2.2.2 ↔ A % (b * 2 ^ s.2.2.1) = 0))
            (0, 0, e + 1, False) [0, 6, 9, 14, 15, 82, 83, 84] rfl (by rw [← eP]; rfl) rfl ⟨Nat.zero_le _, by simp [val], Nat.le_refl _, h7.1, .inr h7.2, by rw [f2, ← d2, ← hR]; exact ⟨fun h => h.elim, fun h => h8 h.1⟩⟩ K.get
      · refine lp W 0 (σ := Nat × Int × Nat × Prop) (fun s => [(0, .int .i64 32), (6, .ptr 1 0 0 0), (9, .int .i64 ((s.2.2.1 : Int) - 149)), (14, .pr s.2.2.2), (15, .int .u64 s.2.1), (82, .fi .i64 (dig (A / (b * 2 ^ s.2.2.1)))), (83, .int .i64 (dig (A / (b * 2 ^ s.2.2.1))).length), (84, .int .i64 s.1)])
          (fun _ => [.lst 0 [[.pr p, .fi .i64 (dig a), .fi .i64 (dig b)]], .lst 0 [[.int .i64 23, .int .i64 (-149), .int .i64 127, .int .i64 2139095040]]])
          (fun s => (dig (A / (b * 2 ^ s.2.2.1))).length - s.1)
          (fun s => s.1 ≤ (dig (A / (b * 2 ^ s.2.2.1))).length ∧ s.2.1 = val ((dig (A / (b * 2 ^ s.2.2.1))).take s.1) ∧ s.2.2.1 ≤ e + 1 ∧ A / (b * 2 ^ s.2.2.1) < 2 ^ 24 ∧ (s.2.2.1 = 0 ∨ 2 ^ 23 ≤ A / (b * 2 ^ s.2.2.1)) ∧ (s.2.2.2 ↔ A % (b * 2 ^ s.2.2.1) = 0))
          (0, 0, e, ((dig R).length : Int) = 0) [0, 6, 9, 14, 15, 82, 83, 84] rfl rfl rfl ⟨Nat.zero_le _, by simp [val], by simp, ebits.1 (by omega), q2, hR.trans d2⟩ K.get
    case rest1 =>
      rintro ⟨i, n, e', X⟩ ⟨hi, hn, he', hb1, hb2, hX⟩ ih
      dsimp only at hi hn he' hb1 hb2 hX ih ⊢
      obtain ⟨Q, hQ⟩ : ∃ Q, A / (b * 2 ^ e') = Q := ⟨_, rfl⟩
      rw [hQ] at hi hn hb1 hb2 ih ⊢
      have hQl : (dig Q).length ≤ 4 := dig_len_le.2 (Nat.lt_of_lt_of_le hb1 (by decide))
      have dQ := dig_dgs Q
      refine sp W 0 rfl rfl rfl (fun h9 => ?_) (fun h9 => ?_)
      · have h9 : i < (dig Q).length := by omega
        have gd := dQ.get i
        have hbits2 : (IntKind.u64.bits : Int) = 64 := rfl
        have t1 := val_take_succ h9
        have t2 := take_le (Q := Q) (i := i + 1)
        have t3 := val_nonneg (dQ.take i)
        have t4 := val_lt (dQ.take i)
        rw [show ((dig Q).take i).length = i by simp; omega] at t4
        have eq1 : ((16 : Int) * i).toNat = 16 * i := by omega
        have e16 : (2 : Int) ^ (16 * i) = 65536 ^ i := by rw [Int.pow_mul]; rfl
        have ec : (dig Q).getD i 0 * 2 ^ (16 * i) = 65536 ^ i * (dig Q).getD i 0 := by rw [e16, Int.mul_comm]
        have eo := bor_addU (r := 16 * i) (a := n) (c := (dig Q).getD i 0) (by omega) (by omega) (by rw [e16]; omega) (by omega) (by rw [ec]; omega)
        have e0 : 0 ≤ (dig Q).getD i 0 * 2 ^ (16 * i) := Int.mul_nonneg (by omega) (Int.pow_nonneg (by omega))
        have nx := ih (i + 1, bor .u64 n ((dig Q).getD i 0 * 2 ^ (16 * i)), e', X) ⟨by dsimp only; rw [hQ]; omega, by dsimp only; rw [hQ, eo, ec, t1, hn], he', by rw [hQ]; exact hb1, by rw [hQ]; exact hb2, hX⟩ (by dsimp only; rw [hQ]; omega)
        dsimp only at nx
        rw [hQ, ← eq1] at nx
        refine bk W 2 [0, 6, 9, 14, 15, 82, 83, 84] rfl rfl nx (hc := ?_)
        simp only [AllC, eq1, hbits2, Int.toNat_natCast, true_and, and_true]
        omega
      · have hiL : i = (dig Q).length := by omega
        subst hiL
        rw [List.take_length, val_dig] at hn
        subst hn
        have k5 : AFunP Tryd.prog 163 [.int .i64 32, .agg [.bool false, .int .u64 Q, .int .i64 ((e' : Int) - 149)]] _ := AFun.sub (bitMake_32 Q e' hb1 hb2 (by omega)) ⟨.refl, .agg ⟨.no id, .refl, .refl, trivial⟩, trivial⟩
        obtain ⟨r1, r2⟩ := round_core (F := 23) (T := 2139095040) (A := A) (b := b) (e := e') (q := Q) (by omega) hbp hQ.symm hb1 hb2
        obtain ⟨er, et⟩ := tvN_as (w := 32) (a := a) (b := b) (F := 23) (K := 149) (T := 2139095040) rfl rfl (by decide) hA
        rw [er, propext et, propext r2, r1]
        by_cases hlt : e' * 8388608 + Q < 2139095040
        · have hlt2 : e' * 2 ^ 23 + Q < 2139095040 := hlt
          rw [if_pos hlt] at k5
          rw [if_pos hlt2]
          refine ce W 0 rfl rfl (k5) rfl ?_
          refine sp W 0 rfl rfl rfl (fun hA => ?_) (fun hA => ?_)
          · exact absurd trivial hA
          refine rp W 0 rfl rfl rfl (.tup ⟨.refl, .pr ⟨fun h => ⟨hlt2, hX.1 h⟩, fun h => hX.2 h.2⟩, trivial⟩)
        · have hlt2 : ¬ e' * 2 ^ 23 + Q < 2139095040 := hlt
          rw [if_neg hlt] at k5
          rw [if_neg hlt2]
          refine ce W 0 rfl rfl (k5) rfl ?_
          refine sp W 0 rfl rfl rfl (fun hA => ?_) (fun hA => ?_)
          · refine rp W 0 rfl rfl rfl (.tup ⟨.int (by decide), .no (fun h => hlt2 h.1), trivial⟩)
          · exact absurd (fun h => h) hA
  · have h1 : 149 ≤ e := by omega
    obtain ⟨d1, d2⟩ := shl_up (a := a) (b := b) (K := 149) (e := e) (by omega)
    have es : ((e : Int) - 149) = ((e - 149 : Nat) : Int) := by omega
    have k1 := natShiftUp_ok b (e - 149) (by omega) (by omega)
    rw [← es] at k1
    have hl : (dig (b * 2 ^ (e - 149))).length ≤ 1000 + 2000 := dig_len_mul hbl (dig_pow_len _ _ (by omega))
    refine ce W 0 rfl rfl (k1) rfl ?_
    refine ce W 0 rfl rfl (natDiv_ok a (b * 2 ^ (e - 149)) (Nat.mul_ne_zero hb (two_nz _)) (by omega) (by omega)) rfl ?_
    rw [d1]
    clear d1
    generalize hA : a * 2 ^ 149 = A at *
    generalize a % (b * 2 ^ (e - 149)) = R at *
    have hAl : A / (b * 2 ^ e) < 2 ^ 25 := q1
    have hql : (dig (A / (b * 2 ^ e))).length ≤ 4 := dig_len_le.2 (Nat.lt_of_lt_of_le hAl (by decide))
    have hbp : 0 < b := by omega
    obtain ⟨f1, f2⟩ := half_q (A := A) (b := b) (e := e) hbp
    have hR : ((dig R).length : Int) = 0 ↔ R = 0 := ⟨fun h => dig_nil.1 (List.eq_nil_of_length_eq_zero (by omega)), fun h => by rw [h, dig_zero]; rfl⟩
    have ebits := bitL_lt 24 (A / (b * 2 ^ e))
    refine ce W 0 rfl rfl (natBits_ok (A / (b * 2 ^ e)) (by omega)) rfl ?_
    refine' cutK (fun K => ?main2) ?rest2
    case main2 =>
      have k3 : AFunP Tryd.prog 128 [.fi .i64 (dig (A / (b * 2 ^ e))), .int .i64 (-1)] (· = .fi .i64 (dig (A / (b * 2 ^ (e + 1))))) := by
        have := natShiftDown_ok (A / (b * 2 ^ e)) 1 (by omega) (by omega) (by omega)
        rw [f1]
        simpa using this
      have eP : (e : Int) - 149 + 1 = ((e + 1 : Nat) : Int) - 149 := by omega
      have eb := low_dig (A / (b * 2 ^ e))
      refine sp W 0 rfl rfl rfl (fun h5 => ?_) (fun h5 => ?_)
      · have h6 : 2 ^ 24 ≤ A / (b * 2 ^ e) := by
          rcases Nat.lt_or_ge (A / (b * 2 ^ e)) (2 ^ 24) with h7 | h7
          · have := ebits.2 h7; omega
          · exact h7
        have h7 : A / (b * 2 ^ (e + 1)) < 2 ^ 24 ∧ 2 ^ 23 ≤ A / (b * 2 ^ (e + 1)) := by rw [f1]; omega
        have hlen : 0 < (dig (A / (b * 2 ^ e))).length := dig_len_lt.2 (by rw [Nat.pow_zero]; omega)
        refine sp W 0 rfl rfl rfl (fun h8 => ?_) (fun h8 => ?_)
        · refine ce W 0 rfl rfl k3 rfl ?_ (hc := by simp only [AllC, true_and]; omega)
          rw [eb]
          refine lp W 0 (σ := Nat × Int × Nat × Prop) (fun s => [(0, .int .i64 32), (6, .ptr 1 0 0 0), (9, .int .i64 ((s.2.2.1 : Int) - 149)), (14, .pr s.2.2.2), (15, .int .u64 s.2.1), (82, .fi .i64 (dig (A / (b * 2 ^ s.2.2.1)))), (83, .int .i64 (dig (A / (b * 2 ^ s.2.2.1))).length), (84, .int .i64 s.1)])
            (fun _ => [.lst 0 [[.pr p, .fi .i64 (dig a), .fi .i64 (dig b)]], .lst 0 [[.int .i64 23, .int .i64 (-149), .int .i64 127, .int .i64 2139095040]]])
            (fun s => (dig (A / (b * 2 ^ s.2.2.1))).length - s.1)
            (fun s => s.1 ≤ (dig (A / (b * 2 ^ s.2.2.1))).length ∧ s.2.1 = val ((dig (A / (b * 2 ^ s.2.2.1))).take s.1) ∧ s.2.2.1 ≤ e + 1 ∧ A / (b * 2 ^ s.2.2.1) < 2 ^ 24 ∧ (s.2.2.1 = 0 ∨ 2 ^ 23 ≤ A / (b * 2 ^ s.2.2.1)) ∧ (s.2.2.2 ↔ A % (b * 2 ^ s.2.2.1) = 0))
            (0, 0, e + 1, ((A / (b * 2 ^ e) % 2 : Nat) : Int) = 0) [0, 6, 9, 14, 15, 82, 83, 84] rfl (by rw [← eP]; rfl) rfl ⟨Nat.zero_le _, by simp [val], Nat.le_refl _, h7.1, .inr h7.2, by rw [f2, ← d2, ← hR]; omega⟩ K.get
        · refine ce W 0 rfl rfl k3 rfl ?_ (hc := by simp only [AllC, true_and])
          refine atl W rfl ?_
          refine go_sub 14 (.pr False) rfl (.no id) rfl ?_
          refine lp W 0 (σ := Nat × Int × Nat × Prop) (fun s => [(0, .int .i64 32), (6, .ptr 1 0 0 0), (9, .int .i64 ((s.2.2.1 : Int) - 149)), (14, .pr s.2.2.2), (15, .int .u64 s.2.1), (82, .fi .i64 (dig (A / (b * 2 ^ s.2.2.1)))), (83, .int .i64 (dig (A / (b * 2 ^ s.2.2.1))).length), (84, .int .i64 s.1)])
            (fun _ => [.lst 0 [[.pr p, .fi .i64 (dig a), .fi .i64 (dig b)]], .lst 0 [[.int .i64 23, .int .i64 (-149), .int .i64 127, .int .i64 2139095040]]])
            (fun s => (dig (A / (b * 2 ^ s.2.2.1))).length - s.1)
            (fun s => s.1 ≤ (dig (A / (b * 2 ^ s.2.2.1))).length ∧ s.2.1 = val ((dig (A / (b * 2 ^ s.2.2.1))).take s.1) ∧ s.2.2.1 ≤ e + 1 ∧ A / (b * 2 ^ s.2.2.1) < 2 ^ 24 ∧ (s.2.2.1 = 0 ∨ 2 ^ 23 ≤ A / (b * 2 ^ s.2.2.1)) ∧ (s.2.2.2 ↔ A % (b * 2 ^ s.2.2.1) = 0))
            (0, 0, e + 1, False) [0, 6, 9, 14, 15, 82, 83, 84] rfl (by rw [← eP]; rfl) rfl ⟨Nat.zero_le _, by simp [val], Nat.le_refl _, h7.1, .inr h7.2, by rw [f2, ← d2, ← hR]; exact ⟨fun h => h.elim, fun h => h8 h.1⟩⟩ K.get
      · refine lp W 0 (σ := Nat × Int × Nat × Prop) (fun s => [(0, .int .i64 32), (6, .ptr 1 0 0 0), (9, .int .i64 ((s.2.2.1 : Int) - 149)), (14, .pr s.2.2.2), (15, .int .u64 s.2.1), (82, .fi .i64 (dig (A / (b * 2 ^ s.2.2.1)))), (83, .int .i64 (dig (A / (b * 2 ^ s.2.2.1))).length), (84, .int .i64 s.1)])
          (fun _ => [.lst 0 [[.pr p, .fi .i64 (dig a), .fi .i64 (dig b)]], .lst 0 [[.int .i64 23, .int .i64 (-149), .int .i64 127, .int .i64 2139095040]]])
          (fun s => (dig (A / (b * 2 ^ s.2.2.1))).length - s.1)
          (fun s => s.1 ≤ (dig (A / (b * 2 ^ s.2.2.1))).length ∧ s.2.1 = val ((dig (A / (b * 2 ^ s.2.2.1))).take s.1) ∧ s.2.2.1 ≤ e + 1 ∧ A / (b * 2 ^ s.2.2.1) < 2 ^ 24 ∧ (s.2.2.1 = 0 ∨ 2 ^ 23 ≤ A / (b * 2 ^ s.2.2.1)) ∧ (s.2.2.2 ↔ A % (b * 2 ^ s.2.2.1) = 0))
          (0, 0, e, ((dig R).length : Int) = 0) [0, 6, 9, 14, 15, 82, 83, 84] rfl rfl rfl ⟨Nat.zero_le _, by simp [val], by simp, ebits.1 (by omega), q2, hR.trans d2⟩ K.get
    case rest2 =>
      rintro ⟨i, n, e', X⟩ ⟨hi, hn, he', hb1, hb2, hX⟩ ih
      dsimp only at hi hn he' hb1 hb2 hX ih ⊢
      obtain ⟨Q, hQ⟩ : ∃ Q, A / (b * 2 ^ e') = Q := ⟨_, rfl⟩
      rw [hQ] at hi hn hb1 hb2 ih ⊢
      have hQl : (dig Q).length ≤ 4 := dig_len_le.2 (Nat.lt_of_lt_of_le hb1 (by decide))
      have dQ := dig_dgs Q
      refine sp W 0 rfl rfl rfl (fun h9 => ?_) (fun h9 => ?_)
      · have h9 : i < (dig Q).length := by omega
        have gd := dQ.get i
        have hbits2 : (IntKind.u64.bits : Int) = 64 := rfl
        have t1 := val_take_succ h9
        have t2 := take_le (Q := Q) (i := i + 1)
        have t3 := val_nonneg (dQ.take i)
        have t4 := val_lt (dQ.take i)
        rw [show ((dig Q).take i).length = i by simp; omega] at t4
        have eq1 : ((16 : Int) * i).toNat = 16 * i := by omega
        have e16 : (2 : Int) ^ (16 * i) = 65536 ^ i := by rw [Int.pow_mul]; rfl
        have ec : (dig Q).getD i 0 * 2 ^ (16 * i) = 65536 ^ i * (dig Q).getD i 0 := by rw [e16, Int.mul_comm]
        have eo := bor_addU (r := 16 * i) (a := n) (c := (dig Q).getD i 0) (by omega) (by omega) (by rw [e16]; omega) (by omega) (by rw [ec]; omega)
        have e0 : 0 ≤ (dig Q).getD i 0 * 2 ^ (16 * i) := Int.mul_nonneg (by omega) (Int.pow_nonneg (by omega))
        have nx := ih (i + 1, bor .u64 n ((dig Q).getD i 0 * 2 ^ (16 * i)), e', X) ⟨by dsimp only; rw [hQ]; omega, by dsimp only; rw [hQ, eo, ec, t1, hn], he', by rw [hQ]; exact hb1, by rw [hQ]; exact hb2, hX⟩ (by dsimp only; rw [hQ]; omega)
        dsimp only at nx
        rw [hQ, ← eq1] at nx
        refine bk W 2 [0, 6, 9, 14, 15, 82, 83, 84] rfl rfl nx (hc := ?_)
        simp only [AllC, eq1, hbits2, Int.toNat_natCast, true_and, and_true]
        omega
      · have hiL : i = (dig Q).length := by omega
        subst hiL
        rw [List.take_length, val_dig] at hn
        subst hn
        have k5 : AFunP Tryd.prog 163 [.int .i64 32, .agg [.bool false, .int .u64 Q, .int .i64 ((e' : Int) - 149)]] _ := AFun.sub (bitMake_32 Q e' hb1 hb2 (by omega)) ⟨.refl, .agg ⟨.no id, .refl, .refl, trivial⟩, trivial⟩
        obtain ⟨r1, r2⟩ := round_core (F := 23) (T := 2139095040) (A := A) (b := b) (e := e') (q := Q) (by omega) hbp hQ.symm hb1 hb2
        obtain ⟨er, et⟩ := tvN_as (w := 32) (a := a) (b := b) (F := 23) (K := 149) (T := 2139095040) rfl rfl (by decide) hA
        rw [er, propext et, propext r2, r1]
        by_cases hlt : e' * 8388608 + Q < 2139095040
        · have hlt2 : e' * 2 ^ 23 + Q < 2139095040 := hlt
          rw [if_pos hlt] at k5
          rw [if_pos hlt2]
          refine ce W 0 rfl rfl (k5) rfl ?_
          refine sp W 0 rfl rfl rfl (fun hA => ?_) (fun hA => ?_)
          · exact absurd trivial hA
          refine rp W 0 rfl rfl rfl (.tup ⟨.refl, .pr ⟨fun h => ⟨hlt2, hX.1 h⟩, fun h => hX.2 h.2⟩, trivial⟩)
        · have hlt2 : ¬ e' * 2 ^ 23 + Q < 2139095040 := hlt
          rw [if_neg hlt] at k5
          rw [if_neg hlt2]
          refine ce W 0 rfl rfl (k5) rfl ?_
          refine sp W 0 rfl rfl rfl (fun hA => ?_) (fun hA => ?_)
          · refine rp W 0 rfl rfl rfl (.tup ⟨.int (by decide), .no (fun h => hlt2 h.1), trivial⟩)
          · exact absurd (fun h => h) hA
theorem truncated_64 (p : Prop) (a b : Nat) (hb : b ≠ 0) (ha : (dig a).length ≤ 1000) (hbl : (dig b).length ≤ 1000) : AFunP Tryd.prog 136 [.int .i64 64, frF p (dig a) (dig b)] (· = .tup [.int .i64 (tvN 64 a b), .pr (teN 64 a b)]) := by
  refine afun_of Tryd.func136 Tryd.call136 rfl Tryd.ntmps136 rfl ?_
  have W : Walk Tryd.prog TT 136 _ := Walk.of TT_ok Tryd.func136 Tryd.results136
  refine ce W 0 rfl rfl (formatOf_64) rfl ?_
  refine sp W 0 rfl rfl rfl (fun h0 => ?_) (fun h0 => ?_)
  · have a0 : a = 0 := dig_nil.1 (List.eq_nil_of_length_eq_zero (by omega))
    subst a0
    obtain ⟨z1, z2⟩ := tvN_zero 64 b
    refine rp W 0 rfl rfl rfl (.tup ⟨.int (by rw [z1]; rfl), .yes z2, trivial⟩)
  have a0 : a ≠ 0 := by rintro rfl; simp [dig_zero] at h0
  have ba := bitL_len (a := a)
  have bb := bitL_len (a := b)
  obtain ⟨e, he⟩ : ∃ e : Nat, (e : Int) = max 0 ((bitL a : Int) - bitL b - (52 + 1) + 1074) := ⟨(max 0 ((bitL a : Int) - bitL b - (52 + 1) + 1074)).toNat, by omega⟩
  obtain ⟨q1, q2⟩ := first_q (F := 52) (K := 1074) a0 hb he
  have ep : max (-1074) ((bitL a : Int) - bitL b - (52 + 1)) = (e : Int) - 1074 := by omega
  refine dre W 0 12 [] [.int .i64 (bitL a), .int .i64 (bitL b)] rfl rfl rfl ⟨(natBits_ok a (by omega)).at rfl _, (natBits_ok b (by omega)).at rfl _, trivial⟩ rfl ?_
  rw [ep]
  refine phg W 0 5 [] rfl rfl (fun PW => ?_)
  refine phe PW 0 [] [] rfl trivial rfl ?_
  refine sp W 0 rfl rfl rfl (fun h1 => ?_) (fun h1 => ?_)
  · have h1 : e < 1074 := by omega
    obtain ⟨d1, d2⟩ := shl_down (a := a) (b := b) (K := 1074) (e := e) (by omega)
    have es : -((e : Int) - 1074) = ((1074 - e : Nat) : Int) := by omega
    have k1 := natShiftUp_ok a (1074 - e) (by omega) (by omega)
    rw [← es] at k1
    have hl : (dig (a * 2 ^ (1074 - e))).length ≤ 1000 + 1000 := dig_len_mul ha (dig_pow_len _ _ (by omega))
    refine ce W 0 rfl rfl (k1) rfl ?_
    refine ce W 0 rfl rfl (natDiv_ok (a * 2 ^ (1074 - e)) b hb (by omega) (by omega)) rfl ?_
    rw [d1]
    clear d1
    generalize hA : a * 2 ^ 1074 = A at *
    generalize a * 2 ^ (1074 - e) % b = R at *
    have hAl : A / (b * 2 ^ e) < 2 ^ 54 := q1
    have hql : (dig (A / (b * 2 ^ e))).length ≤ 4 := dig_len_le.2 (Nat.lt_of_lt_of_le hAl (by decide))
    have hbp : 0 < b := by omega
    obtain ⟨f1, f2⟩ := half_q (A := A) (b := b) (e := e) hbp
    have hR : ((dig R).length : Int) = 0 ↔ R = 0 := ⟨fun h => dig_nil.1 (List.eq_nil_of_length_eq_zero (by omega)), fun h => by rw [h, dig_zero]; rfl⟩
    have ebits := bitL_lt 53 (A / (b * 2 ^ e))
    refine ce W 0 rfl rfl (natBits_ok (A / (b * 2 ^ e)) (by omega)) rfl ?_
    refine' cutK (fun K => ?main1) ?rest1
    case main1 =>
      have k3 : AFunP Tryd.prog 128 [.fi .i64 (dig (A / (b * 2 ^ e))), .int .i64 (-1)] (· = .fi .i64 (dig (A / (b * 2 ^ (e + 1))))) := by
        have := natShiftDown_ok (A / (b * 2 ^ e)) 1 (by omega) (by omega) (by omega)
        rw [f1]
        simpa using this
      have eP : (e : Int) - 1074 + 1 = ((e + 1 : Nat) : Int) - 1074 := by omega
      have eb := low_dig (A / (b * 2 ^ e))
      refine sp W 0 rfl rfl rfl (fun h5 => ?_) (fun h5 => ?_)
      · have h6 : 2 ^ 53 ≤ A / (b * 2 ^ e) := by
          rcases Nat.lt_or_ge (A / (b * 2 ^ e)) (2 ^ 53) with h7 | h7
          · have := ebits.2 h7; omega
          · exact h7
        have h7 : A / (b * 2 ^ (e + 1)) < 2 ^ 53 ∧ 2 ^ 52 ≤ A / (b * 2 ^ (e + 1)) := by rw [f1]; omega
        have hlen : 0 < (dig (A / (b * 2 ^ e))).length := dig_len_lt.2 (by rw [Nat.pow_zero]; omega)
        refine sp W 0 rfl rfl rfl (fun h8 => ?_) (fun h8 => ?_)
        · refine ce W 0 rfl rfl k3 rfl ?_ (hc := by simp only [AllC, true_and]; omega)
          rw [eb]
          refine lp W 0 (σ := Nat × Int × Nat × Prop) (fun s => [(0, .int .i64 64), (6, .ptr 1 0 0 0), (9, .int .i64 ((s.2.2.1 : Int) - 1074)), (14, .pr s.2.2.2), (15, .int .u64 s.2.1), (82, .fi .i64 (dig (A / (b * 2 ^ s.2.2.1)))), (83, .int .i64 (dig (A / (b * 2 ^ s.2.2.1))).length), (84, .int .i64 s.1)])
            (fun _ => [.lst 0 [[.pr p, .fi .i64 (dig a), .fi .i64 (dig b)]], .lst 0 [[.int .i64 52, .int .i64 (-1074), .int .i64 1023, .int .i64 9218868437227405312]]])
            (fun s => (dig (A / (b * 2 ^ s.2.2.1))).length - s.1)
            (fun s => s.1 ≤ (dig (A / (b * 2 ^ s.2.2.1))).length ∧ s.2.1 = val ((dig (A / (b * 2 ^ s.2.2.1))).take s.1) ∧ s.2.2.1 ≤ e + 1 ∧ A / (b * 2 ^ s.2.2.1) < 2 ^ 53 ∧ (s.2.2.1 = 0 ∨ 2 ^ 52 ≤ A / (b * 2 ^ s.2.2.1)) ∧ (s.2.2.2 ↔ A % (b * 2 ^ s.2.2.1) = 0))
            (0, 0, e + 1, ((A / (b * 2 ^ e) % 2 : Nat) : Int) = 0) [0, 6, 9, 14, 15, 82, 83, 84] rfl (by rw [← eP]; rfl) rfl ⟨Nat.zero_le _, by simp [val], Nat.le_refl _, h7.1, .inr h7.2, by rw [f2, ← d2, ← hR]; omega⟩ K.get
        · refine ce W 0 rfl rfl k3 rfl ?_ (hc := by simp only [AllC, true_and])
          refine atl W rfl ?_
          refine go_sub 14 (.pr False) rfl (.no id) rfl ?_
          refine lp W 0 (σ := Nat × Int × Nat × Prop) (fun s => [(0, .int .i64 64), (6, .ptr 1 0 0 0), (9, .int .i64 ((s.2.2.1 : Int) - 1074)), (14, .pr s.2.2.2), (15, .int .u64 s.2.1), (82, .fi .i64 (dig (A / (b * 2 ^ s.2.2.1)))), (83, .int .i64 (dig (A / (b * 2 ^ s.2.2.1))).length), (84, .int .i64 s.1)])
            (fun _ => [.lst 0 [[.pr p, .fi .i64 (dig a), .fi .i64 (dig b)]], .lst 0 [[.int .i64 52, .int .i64 (-1074), .int .i64 1023, .int .i64 9218868437227405312]]])
            (fun s => (dig (A / (b * 2 ^ s.2.2.1))).length - s.1)
            (fun s => s.1 ≤ (dig (A / (b * 2 ^ s.2.2.1))).length ∧ s.2.1 = val ((dig (A / (b * 2 ^ s.2.2.1))).take s.1) ∧ s.2.2.1 ≤ e + 1 ∧ A / (b * 2 ^ s.2.2.1) < 2 ^ 53 ∧ (s.2.2.1 = 0 ∨ 2 ^ 52 ≤ A / (b * 2 ^ s.2.2.1)) ∧ (s.2.2.2 ↔ A % (b * 2 ^ s.2.2.1) = 0))
            (0, 0, e + 1, False) [0, 6, 9, 14, 15, 82, 83, 84] rfl (by rw [← eP]; rfl) rfl ⟨Nat.zero_le _, by simp [val], Nat.le_refl _, h7.1, .inr h7.2, by rw [f2, ← d2, ← hR]; exact ⟨fun h => h.elim, fun h => h8 h.1⟩⟩ K.get
      · refine lp W 0 (σ := Nat × Int × Nat × Prop) (fun s => [(0, .int .i64 64), (6, .ptr 1 0 0 0), (9, .int .i64 ((s.2.2.1 : Int) - 1074)), (14, .pr s.2.2.2), (15, .int .u64 s.2.1), (82, .fi .i64 (dig (A / (b * 2 ^ s.2.2.1)))), (83, .int .i64 (dig (A / (b * 2 ^ s.2.2.1))).length), (84, .int .i64 s.1)])
          (fun _ => [.lst 0 [[.pr p, .fi .i64 (dig a), .fi .i64 (dig b)]], .lst 0 [[.int .i64 52, .int .i64 (-1074), .int .i64 1023, .int .i64 9218868437227405312]]])
          (fun s => (dig (A / (b * 2 ^ s.2.2.1))).length - s.1)
          (fun s => s.1 ≤ (dig (A / (b * 2 ^ s.2.2.1))).length ∧ s.2.1 = val ((dig (A / (b * 2 ^ s.2.2.1))).take s.1) ∧ s.2.2.1 ≤ e + 1 ∧ A / (b * 2 ^ s.2.2.1) < 2 ^ 53 ∧ (s.2.2.1 = 0 ∨ 2 ^ 52 ≤ A / (b * 2 ^ s.2.2.1)) ∧ (s.2.2.2 ↔ A % (b * 2 ^ s.2.2.1) = 0))
          (0, 0, e, ((dig R).length : Int) = 0) [0, 6, 9, 14, 15, 82, 83, 84] rfl rfl rfl ⟨Nat.zero_le _, by simp [val], by simp, ebits.1 (by omega), q2, hR.trans d2⟩ K.get
    case rest1 =>
      rintro ⟨i, n, e', X⟩ ⟨hi, hn, he', hb1, hb2, hX⟩ ih
      dsimp only at hi hn he' hb1 hb2 hX ih ⊢
      obtain ⟨Q, hQ⟩ : ∃ Q, A / (b * 2 ^ e') = Q := ⟨_, rfl⟩
      rw [hQ] at hi hn hb1 hb2 ih ⊢
      have hQl : (dig Q).length ≤ 4 := dig_len_le.2 (Nat.lt_of_lt_of_le hb1 (by decide))
      have dQ := dig_dgs Q
      refine sp W 0 rfl rfl rfl (fun h9 => ?_) (fun h9 => ?_)
      · have h9 : i < (dig Q).length := by omega
        have gd := dQ.get i
        have hbits2 : (IntKind.u64.bits : Int) = 64 := rfl
        have t1 := val_take_succ h9
        have t2 := take_le (Q := Q) (i := i + 1)
        have t3 := val_nonneg (dQ.take i)
        have t4 := val_lt (dQ.take i)
        rw [show ((dig Q).take i).length = i by simp; omega] at t4
        have eq1 : ((16 : Int) * i).toNat = 16 * i := by omega
        have e16 : (2 : Int) ^ (16 * i) = 65536 ^ i := by rw [Int.pow_mul]; rfl
        have ec : (dig Q).getD i 0 * 2 ^ (16 * i) = 65536 ^ i * (dig Q).getD i 0 := by rw [e16, Int.mul_comm]
        have eo := bor_addU (r := 16 * i) (a := n) (c := (dig Q).getD i 0) (by omega) (by omega) (by rw [e16]; omega) (by omega) (by rw [ec]; omega)
        have e0 : 0 ≤ (dig Q).getD i 0 * 2 ^ (16 * i) := Int.mul_nonneg (by omega) (Int.pow_nonneg (by omega))
        have nx := ih (i + 1, bor .u64 n ((dig Q).getD i 0 * 2 ^ (16 * i)), e', X) ⟨by dsimp only; rw [hQ]; omega, by dsimp only; rw [hQ, eo, ec, t1, hn], he', by rw [hQ]; exact hb1, by rw [hQ]; exact hb2, hX⟩ (by dsimp only; rw [hQ]; omega)
        dsimp only at nx
        rw [hQ, ← eq1] at nx
        refine bk W 2 [0, 6, 9, 14, 15, 82, 83, 84] rfl rfl nx (hc := ?_)
        simp only [AllC, eq1, hbits2, Int.toNat_natCast, true_and, and_true]
        omega
      · have hiL : i = (dig Q).length := by omega
        subst hiL
        rw [List.take_length, val_dig] at hn
        subst hn
        have k5 : AFunP Tryd.prog 163 [.int .i64 64, .agg [.bool false, .int .u64 Q, .int .i64 ((e' : Int) - 1074)]] _ := AFun.sub (bitMake_64 Q e' hb1 hb2 (by omega)) ⟨.refl, .agg ⟨.no id, .refl, .refl, trivial⟩, trivial⟩
        obtain ⟨r1, r2⟩ := round_core (F := 52) (T := 9218868437227405312) (A := A) (b := b) (e := e') (q := Q) (by omega) hbp hQ.symm hb1 hb2
        obtain ⟨er, et⟩ := tvN_as (w := 64) (a := a) (b := b) (F := 52) (K := 1074) (T := 9218868437227405312) rfl rfl (by decide) hA
        rw [er, propext et, propext r2, r1]
        by_cases hlt : e' * 4503599627370496 + Q < 9218868437227405312
        · have hlt2 : e' * 2 ^ 52 + Q < 9218868437227405312 := hlt
          rw [if_pos hlt] at k5
          rw [if_pos hlt2]
          refine ce W 0 rfl rfl (k5) rfl ?_
          refine sp W 0 rfl rfl rfl (fun hA => ?_) (fun hA => ?_)
          · exact absurd trivial hA
          refine rp W 0 rfl rfl rfl (.tup ⟨.refl, .pr ⟨fun h => ⟨hlt2, hX.1 h⟩, fun h => hX.2 h.2⟩, trivial⟩)
        · have hlt2 : ¬ e' * 2 ^ 52 + Q < 9218868437227405312 := hlt
          rw [if_neg hlt] at k5
          rw [if_neg hlt2]
          refine ce W 0 rfl rfl (k5) rfl ?_
          refine sp W 0 rfl rfl rfl (fun hA => ?_) (fun hA => ?_)
          · refine rp W 0 rfl rfl rfl (.tup ⟨.int (by decide), .no (fun h => hlt2 h.1), trivial⟩)
          · exact absurd (fun h => h) hA
  · have h1 : 1074 ≤ e := by omega
    obtain ⟨d1, d2⟩ := shl_up (a := a) (b := b) (K := 1074) (e := e) (by omega)
    have es : ((e : Int) - 1074) = ((e - 1074 : Nat) : Int) := by omega
    have k1 := natShiftUp_ok b (e - 1074) (by omega) (by omega)
    rw [← es] at k1
    have hl : (dig (b * 2 ^ (e - 1074))).length ≤ 1000 + 2000 := dig_len_mul hbl (dig_pow_len _ _ (by omega))
    refine ce W 0 rfl rfl (k1) rfl ?_
    refine ce W 0 rfl rfl (natDiv_ok a (b * 2 ^ (e - 1074)) (Nat.mul_ne_zero hb (two_nz _)) (by omega) (by omega)) rfl ?_
    rw [d1]
    clear d1
    generalize hA : a * 2 ^ 1074 = A at *
    generalize a % (b * 2 ^ (e - 1074)) = R at *
    have hAl : A / (b * 2 ^ e) < 2 ^ 54 := q1
    have hql : (dig (A / (b * 2 ^ e))).length ≤ 4 := dig_len_le.2 (Nat.lt_of_lt_of_le hAl (by decide))
    have hbp : 0 < b := by omega
    obtain ⟨f1, f2⟩ := half_q (A := A) (b := b) (e := e) hbp
    have hR : ((dig R).length : Int) = 0 ↔ R = 0 := ⟨fun h => dig_nil.1 (List.eq_nil_of_length_eq_zero (by omega)), fun h => by rw [h, dig_zero]; rfl⟩
    have ebits := bitL_lt 53 (A / (b * 2 ^ e))
    refine ce W 0 rfl rfl (natBits_ok (A / (b * 2 ^ e)) (by omega)) rfl ?_
    refine' cutK (fun K => ?main2) ?rest2
    case main2 =>
      have k3 : AFunP Tryd.prog 128 [.fi .i64 (dig (A / (b * 2 ^ e))), .int .i64 (-1)] (· = .fi .i64 (dig (A / (b * 2 ^ (e + 1))))) := by
        have := natShiftDown_ok (A / (b * 2 ^ e)) 1 (by omega) (by omega) (by omega)
        rw [f1]
        simpa using this
      have eP : (e : Int) - 1074 + 1 = ((e + 1 : Nat) : Int) - 1074 := by omega
      have eb := low_dig (A / (b * 2 ^ e))
      refine sp W 0 rfl rfl rfl (fun h5 => ?_) (fun h5 => ?_)
      · have h6 : 2 ^ 53 ≤ A / (b * 2 ^ e) := by
          rcases Nat.lt_or_ge (A / (b * 2 ^ e)) (2 ^ 53) with h7 | h7
          · have := ebits.2 h7; omega
          · exact h7
        have h7 : A / (b * 2 ^ (e + 1)) < 2 ^ 53 ∧ 2 ^ 52 ≤ A / (b * 2 ^ (e + 1)) := by rw [f1]; omega
        have hlen : 0 < (dig (A / (b * 2 ^ e))).length := dig_len_lt.2 (by rw [Nat.pow_zero]; omega)
        refine sp W 0 rfl rfl rfl (fun h8 => ?_) (fun h8 => ?_)
        · refine ce W 0 rfl rfl k3 rfl ?_ (hc := by simp only [AllC, true_and]; omega)
          rw [eb]
          refine lp W 0 (σ := Nat × Int × Nat × Prop) (fun s => [(0, .int .i64 64), (6, .ptr 1 0 0 0), (9, .int .i64 ((s.2.2.1 : Int) - 1074)), (14, .pr s.2.2.2), (15, .int .u64 s.2.1), (82, .fi .i64 (dig (A / (b * 2 ^ s.2.2.1)))), (83, .int .i64 (dig (A / (b * 2 ^ s.2.2.1))).length), (84, .int .i64 s.1)])
            (fun _ => [.lst 0 [[.pr p, .fi .i64 (dig a), .fi .i64 (dig b)]], .lst 0 [[.int .i64 52, .int .i64 (-1074), .int .i64 1023, .int .i64 9218868437227405312]]])
            (fun s => (dig (A / (b * 2 ^ s.2.2.1))).length - s.1)
            (fun s => s.1 ≤ (dig (A / (b * 2 ^ s.2.2.1))).length ∧ s.2.1 = val ((dig (A / (b * 2 ^ s.2.2.1))).take s.1) ∧ s.2.2.1 ≤ e + 1 ∧ A / (b * 2 ^ s.2.2.1) < 2 ^ 53 ∧ (s.2.2.1 = 0 ∨ 2 ^ 52 ≤ A / (b * 2 ^ s.2.2.1)) ∧ (s.2.2.2 ↔ A % (b * 2 ^ s.2.2.1) = 0))
            (0, 0, e + 1, ((A / (b * 2 ^ e) % 2 : Nat) : Int) = 0) [0, 6, 9, 14, 15, 82, 83, 84] rfl (by rw [← eP]; rfl) rfl ⟨Nat.zero_le _, by simp [val], Nat.le_refl _, h7.1, .inr h7.2, by rw [f2, ← d2, ← hR]; omega⟩ K.get
        · refine ce W 0 rfl rfl k3 rfl ?_ (hc := by simp only [AllC, true_and])
          refine atl W rfl ?_
          refine go_sub 14 (.pr False) rfl (.no id) rfl ?_
          refine lp W 0 (σ := Nat × Int × Nat × Prop) (fun s => [(0, .int .i64 64), (6, .ptr 1 0 0 0), (9, .int .i64 ((s.2.2.1 : Int) - 1074)), (14, .pr s.2.2.2), (15, .int .u64 s.2.1), (82, .fi .i64 (dig (A / (b * 2 ^ s.2.2.1)))), (83, .int .i64 (dig (A / (b * 2 ^ s.2.2.1))).length), (84, .int .i64 s.1)])
            (fun _ => [.lst 0 [[.pr p, .fi .i64 (dig a), .fi .i64 (dig b)]], .lst 0 [[.int .i64 52, .int .i64 (-1074), .int .i64 1023, .int .i64 9218868437227405312]]])
            (fun s => (dig (A / (b * 2 ^ s.2.2.1))).length - s.1)
            (fun s => s.1 ≤ (dig (A / (b * 2 ^ s.2.2.1))).length ∧ s.2.1 = val ((dig (A / (b * 2 ^ s.2.2.1))).take s.1) ∧ s.2.2.1 ≤ e + 1 ∧ A / (b * 2 ^ s.2.2.1) < 2 ^ 53 ∧ (s.2.2.1 = 0 ∨ 2 ^ 52 ≤ A / (b * 2 ^ s.2.2.1)) ∧ (s.2.2.2 ↔ A % (b * 2 ^ s.2.2.1) = 0))
            (0, 0, e + 1, False) [0, 6, 9, 14, 15, 82, 83, 84] rfl (by rw [← eP]; rfl) rfl ⟨Nat.zero_le _, by simp [val], Nat.le_refl _, h7.1, .inr h7.2, by rw [f2, ← d2, ← hR]; exact ⟨fun h => h.elim, fun h => h8 h.1⟩⟩ K.get
      · refine lp W 0 (σ := Nat × Int × Nat × Prop) (fun s => [(0, .int .i64 64), (6, .ptr 1 0 0 0), (9, .int .i64 ((s.2.2.1 : Int) - 1074)), (14, .pr s.2.2.2), (15, .int .u64 s.2.1), (82, .fi .i64 (dig (A / (b * 2 ^ s.2.2.1)))), (83, .int .i64 (dig (A / (b * 2 ^ s.2.2.1))).length), (84, .int .i64 s.1)])
          (fun _ => [.lst 0 [[.pr p, .fi .i64 (dig a), .fi .i64 (dig b)]], .lst 0 [[.int .i64 52, .int .i64 (-1074), .int .i64 1023, .int .i64 9218868437227405312]]])
          (fun s => (dig (A / (b * 2 ^ s.2.2.1))).length - s.1)
          (fun s => s.1 ≤ (dig (A / (b * 2 ^ s.2.2.1))).length ∧ s.2.1 = val ((dig (A / (b * 2 ^ s.2.2.1))).take s.1) ∧ s.2.2.1 ≤ e + 1 ∧ A / (b * 2 ^ s.2.2.1) < 2 ^ 53 ∧ (s.2.2.1 = 0 ∨ 2 ^ 52 ≤ A / (b * 2 ^ s.2.2.1)) ∧ (s.2.2.2 ↔ A % (b * 2 ^ s.2.2.1) = 0))
          (0, 0, e, ((dig R).length : Int) = 0) [0, 6, 9, 14, 15, 82, 83, 84] rfl rfl rfl ⟨Nat.zero_le _, by simp [val], by simp, ebits.1 (by omega), q2, hR.trans d2⟩ K.get
    case rest2 =>
      rintro ⟨i, n, e', X⟩ ⟨hi, hn, he', hb1, hb2, hX⟩ ih
      dsimp only at hi hn he' hb1 hb2 hX ih ⊢
      obtain ⟨Q, hQ⟩ : ∃ Q, A / (b * 2 ^ e') = Q := ⟨_, rfl⟩
      rw [hQ] at hi hn hb1 hb2 ih ⊢
      have hQl : (dig Q).length ≤ 4 := dig_len_le.2 (Nat.lt_of_lt_of_le hb1 (by decide))
      have dQ := dig_dgs Q
      refine sp W 0 rfl rfl rfl (fun h9 => ?_) (fun h9 => ?_)
      · have h9 : i < (dig Q).length := by omega
        have gd := dQ.get i
        have hbits2 : (IntKind.u64.bits : Int) = 64 := rfl
        have t1 := val_take_succ h9
        have t2 := take_le (Q := Q) (i := i + 1)
        have t3 := val_nonneg (dQ.take i)
        have t4 := val_lt (dQ.take i)
        rw [show ((dig Q).take i).length = i by simp; omega] at t4
        have eq1 : ((16 : Int) * i).toNat = 16 * i := by omega
        have e16 : (2 : Int) ^ (16 * i) = 65536 ^ i := by rw [Int.pow_mul]; rfl
        have ec : (dig Q).getD i 0 * 2 ^ (16 * i) = 65536 ^ i * (dig Q).getD i 0 := by rw [e16, Int.mul_comm]
        have eo := bor_addU (r := 16 * i) (a := n) (c := (dig Q).getD i 0) (by omega) (by omega) (by rw [e16]; omega) (by omega) (by rw [ec]; omega)
        have e0 : 0 ≤ (dig Q).getD i 0 * 2 ^ (16 * i) := Int.mul_nonneg (by omega) (Int.pow_nonneg (by omega))
        have nx := ih (i + 1, bor .u64 n ((dig Q).getD i 0 * 2 ^ (16 * i)), e', X) ⟨by dsimp only; rw [hQ]; omega, by dsimp only; rw [hQ, eo, ec, t1, hn], he', by rw [hQ]; exact hb1, by rw [hQ]; exact hb2, hX⟩ (by dsimp only; rw [hQ]; omega)
        dsimp only at nx
        rw [hQ, ← eq1] at nx
        refine bk W 2 [0, 6, 9, 14, 15, 82, 83, 84] rfl rfl nx (hc := ?_)
        simp only [AllC, eq1, hbits2, Int.toNat_natCast, true_and, and_true]
        omega
      · have hiL : i = (dig Q).length := by omega
        subst hiL
        rw [List.take_length, val_dig] at hn
        subst hn
        have k5 : AFunP Tryd.prog 163 [.int .i64 64, .agg [.bool false, .int .u64 Q, .int .i64 ((e' : Int) - 1074)]] _ := AFun.sub (bitMake_64 Q e' hb1 hb2 (by omega)) ⟨.refl, .agg ⟨.no id, .refl, .refl, trivial⟩, trivial⟩
        obtain ⟨r1, r2⟩ := round_core (F := 52) (T := 9218868437227405312) (A := A) (b := b) (e := e') (q := Q) (by omega) hbp hQ.symm hb1 hb2
        obtain ⟨er, et⟩ := tvN_as (w := 64) (a := a) (b := b) (F := 52) (K := 1074) (T := 9218868437227405312) rfl rfl (by decide) hA
        rw [er, propext et, propext r2, r1]
        by_cases hlt : e' * 4503599627370496 + Q < 9218868437227405312
        · have hlt2 : e' * 2 ^ 52 + Q < 9218868437227405312 := hlt
          rw [if_pos hlt] at k5
          rw [if_pos hlt2]
          refine ce W 0 rfl rfl (k5) rfl ?_
          refine sp W 0 rfl rfl rfl (fun hA => ?_) (fun hA => ?_)
          · exact absurd trivial hA
          refine rp W 0 rfl rfl rfl (.tup ⟨.refl, .pr ⟨fun h => ⟨hlt2, hX.1 h⟩, fun h => hX.2 h.2⟩, trivial⟩)
        · have hlt2 : ¬ e' * 2 ^ 52 + Q < 9218868437227405312 := hlt
          rw [if_neg hlt] at k5
          rw [if_neg hlt2]
          refine ce W 0 rfl rfl (k5) rfl ?_
          refine sp W 0 rfl rfl rfl (fun hA => ?_) (fun hA => ?_)
          · refine rp W 0 rfl rfl rfl (.tup ⟨.int (by decide), .no (fun h => hlt2 h.1), trivial⟩)
          · exact absurd (fun h => h) hA
end Pf
/- Floats: around a fraction -/
namespace Pf
open Go Go.Proofs
theorem dn_yes {w : Int} {r : Rat} (h : r < 0) : dn w r = -(nx w r : Int) ∧ up w r = -(tv w r : Int) := ⟨if_pos h, if_pos h⟩
theorem dn_no {w : Int} {r : Rat} (h : ¬ r < 0) : dn w r = tv w r ∧ up w r = nx w r := ⟨if_neg h, if_neg h⟩
theorem nx_yes {w : Int} {r : Rat} (h : te w r) : nx w r = tv w r := if_pos h
theorem nx_no {w : Int} {r : Rat} (h : ¬ te w r) : nx w r = tv w r + 1 := if_neg h
/-- Not too many digits. -/
def mid (r : Rat) : Prop := (dt r).length ≤ 1000 ∧ (db r).length ≤ 1000
theorem around_32 (r : Rat) (hr : mid r) : AFunP Tryd.prog 81 [.int .i64 32, frR r] (· = .tup [.int .i64 (dn 32 r), .int .i64 (up 32 r)]) := by
  refine afun_of Tryd.func81 Tryd.call81 rfl Tryd.ntmps81 rfl ?_
  have W : Walk Tryd.prog TT 81 _ := Walk.of TT_ok Tryd.func81 Tryd.results81
  have k := truncated_32 (r < 0) r.num.natAbs r.den r.den_nz hr.1 hr.2
  rw [show tvN 32 r.num.natAbs r.den = tv 32 r from rfl, show teN 32 r.num.natAbs r.den = te 32 r from rfl] at k
  have h1 := tv_le 32 r
  have h2 := fT_rng 32
  refine ce W 0 rfl rfl (k) rfl ?_
  refine sp W 0 rfl rfl rfl (fun h3 => ?_) (fun h3 => ?_)
  · have e1 := nx_no h3
    refine sp W 0 rfl rfl rfl (fun h4 => ?_) (fun h4 => ?_)
    · obtain ⟨e2, e3⟩ := dn_yes (w := 32) h4
      rw [e2, e3, e1]
      refine rp W 0 rfl rfl rfl (.tup ⟨.int (by omega), .int (by omega), trivial⟩)
    · obtain ⟨e2, e3⟩ := dn_no (w := 32) h4
      rw [e2, e3, e1]
      refine rp W 0 rfl rfl rfl (.tup ⟨.int (by omega), .int (by omega), trivial⟩)
  · have e1 := nx_yes (Classical.not_not.1 h3)
    refine sp W 0 rfl rfl rfl (fun h4 => ?_) (fun h4 => ?_)
    · obtain ⟨e2, e3⟩ := dn_yes (w := 32) h4
      rw [e2, e3, e1]
      refine rp W 0 rfl rfl rfl (.tup ⟨.int (by omega), .int (by omega), trivial⟩)
    · obtain ⟨e2, e3⟩ := dn_no (w := 32) h4
      rw [e2, e3, e1]
      refine rp W 0 rfl rfl rfl (.tup ⟨.int (by omega), .int (by omega), trivial⟩)
theorem around_64 (r : Rat) (hr : mid r) : AFunP Tryd.prog 81 [.int .i64 64, frR r] (· = .tup [.int .i64 (dn 64 r), .int .i64 (up 64 r)]) := by
  refine afun_of Tryd.func81 Tryd.call81 rfl Tryd.ntmps81 rfl ?_
  have W : Walk Tryd.prog TT 81 _ := Walk.of TT_ok Tryd.func81 Tryd.results81
  have k := truncated_64 (r < 0) r.num.natAbs r.den r.den_nz hr.1 hr.2
  rw [show tvN 64 r.num.natAbs r.den = tv 64 r from rfl, show teN 64 r.num.natAbs r.den = te 64 r from rfl] at k
  have h1 := tv_le 64 r
  have h2 := fT_rng 64
  refine ce W 0 rfl rfl (k) rfl ?_
  refine sp W 0 rfl rfl rfl (fun h3 => ?_) (fun h3 => ?_)
  · have e1 := nx_no h3
    refine sp W 0 rfl rfl rfl (fun h4 => ?_) (fun h4 => ?_)
    · obtain ⟨e2, e3⟩ := dn_yes (w := 64) h4
      rw [e2, e3, e1]
      refine rp W 0 rfl rfl rfl (.tup ⟨.int (by omega), .int (by omega), trivial⟩)
    · obtain ⟨e2, e3⟩ := dn_no (w := 64) h4
      rw [e2, e3, e1]
      refine rp W 0 rfl rfl rfl (.tup ⟨.int (by omega), .int (by omega), trivial⟩)
  · have e1 := nx_yes (Classical.not_not.1 h3)
    refine sp W 0 rfl rfl rfl (fun h4 => ?_) (fun h4 => ?_)
    · obtain ⟨e2, e3⟩ := dn_yes (w := 64) h4
      rw [e2, e3, e1]
      refine rp W 0 rfl rfl rfl (.tup ⟨.int (by omega), .int (by omega), trivial⟩)
    · obtain ⟨e2, e3⟩ := dn_no (w := 64) h4
      rw [e2, e3, e1]
      refine rp W 0 rfl rfl rfl (.tup ⟨.int (by omega), .int (by omega), trivial⟩)
end Pf
/- Floats: the model's parts and quotients -/
namespace Pf
open Go Go.Proofs
theorem l1Frac_32 : AFunP Tryd.prog 130 [.int .i64 32] (· = .int .i64 23) := by
  refine afun_of Tryd.func130 Tryd.call130 rfl Tryd.ntmps130 rfl ?_
  have W : Walk Tryd.prog TT 130 _ := Walk.of TT_ok Tryd.func130 Tryd.results130
  refine sp W 0 rfl rfl rfl (fun h => ?_) (fun h => ?_)
  · refine rp W 0 rfl rfl rfl (.int (by omega))
  · refine rp W 0 rfl rfl rfl (.int (by omega))
theorem l1Least_32 : AFunP Tryd.prog 129 [.int .i64 32] (· = .int .i64 (-149)) := by
  refine afun_of Tryd.func129 Tryd.call129 rfl Tryd.ntmps129 rfl ?_
  have W : Walk Tryd.prog TT 129 _ := Walk.of TT_ok Tryd.func129 Tryd.results129
  refine sp W 0 rfl rfl rfl (fun h => ?_) (fun h => ?_)
  · refine rp W 0 rfl rfl rfl (.int (by omega))
  · refine rp W 0 rfl rfl rfl (.int (by omega))
theorem specTop_32 : AFunP Tryd.prog 85 [.int .i64 32] (· = .int .i64 2139095040) := (specBitTop_ok 32).subv (.int rfl) rfl
theorem specPart_32 (n : Int) (h : n.natAbs < fT 32) : AFunP Tryd.prog 77 [.int .i64 32, .int .i64 n] (· = .tup [.agg [.pr (n < 0), .int .u64 (fsz 23 n.natAbs), .int .i64 ((fpw 23 n.natAbs : Int) - 149)], .pr True]) := by
  refine afun_of Tryd.func77 Tryd.call77 rfl Tryd.ntmps77 rfl ?_
  have W : Walk Tryd.prog TT 77 _ := Walk.of TT_ok Tryd.func77 Tryd.results77
  have hT : fT 32 = 2139095040 := by decide
  have hb : bitOk 32 n := ⟨by simp, by rw [top_fT (by simp)]; omega, by rw [top_fT (by simp)]; omega⟩
  refine ce W 0 rfl rfl (specBitOk_ok 32 n) rfl ?_
  refine sp W 0 rfl rfl rfl (fun h1 => ?_) (fun h1 => ?_)
  · exact absurd hb h1
  refine ce W 0 rfl rfl (specTop_32) rfl ?_
  refine sp W 0 rfl rfl rfl (fun h2 => ?_) (fun h2 => ?_)
  · exfalso; omega
  refine ce W 0 rfl rfl (specTop_32) rfl ?_
  refine sp W 0 rfl rfl rfl (fun h3 => ?_) (fun h3 => ?_)
  · exfalso; omega
  refine ce W 0 rfl rfl (l1Least_32) rfl ?_
  obtain ⟨m, hm⟩ : ∃ m, n.natAbs = m := ⟨_, rfl⟩
  rw [hm] at h
  refine sp W 0 rfl rfl rfl (fun h4 => ?_) (fun h4 => ?_)
  · have en : -n = (m : Int) := by omega
    refine ce W 0 rfl rfl (l1Frac_32) rfl ?_
    rw [en]
    refine sp W 0 rfl rfl rfl (fun h5 => ?_) (fun h5 => ?_)
    · simp only [Int.one_mul, pw23] at h5
      have h6 : ¬ m < 2 ^ 23 := fun h6 => by
        have : m / 8388608 = 0 := Nat.div_eq_of_lt h6
        omega
      have e1 : fsz 23 n.natAbs = 8388608 + m % 8388608 := by unfold fsz; rw [hm, if_neg h6]
      have e2 : fpw 23 n.natAbs = m / 8388608 - 1 := by unfold fpw; rw [hm]
      refine rp W 0 rfl rfl rfl (.tup ⟨.agg ⟨.refl, .int (by rw [e1]; simp only [Int.one_mul, pw23]; omega), .int (by rw [e2]; (try simp only [Int.one_mul, pw23]); omega), trivial⟩, .yes trivial, trivial⟩)
    · simp only [Int.one_mul, pw23] at h5
      have h6 : m < 2 ^ 23 := by
        rcases Nat.lt_or_ge m (2 ^ 23) with h7 | h7
        · exact h7
        · exfalso; omega
      have e1 : fsz 23 n.natAbs = m := by unfold fsz; rw [hm, if_pos h6]
      have e2 : fpw 23 n.natAbs = 0 := by unfold fpw; rw [hm, Nat.div_eq_of_lt h6]
      refine rp W 0 rfl rfl rfl (.tup ⟨.agg ⟨.refl, .int (by rw [e1]; simp only [Int.one_mul, pw23]; omega), .int (by rw [e2]; (try simp only [Int.one_mul, pw23]); omega), trivial⟩, .yes trivial, trivial⟩)
  · have en : n = (m : Int) := by omega
    refine ce W 0 rfl rfl (l1Frac_32) rfl ?_
    refine sp W 0 rfl rfl rfl (fun h5 => ?_) (fun h5 => ?_)
    · simp only [Int.one_mul, pw23] at h5
      have h6 : ¬ m < 2 ^ 23 := fun h6 => by
        have : m / 8388608 = 0 := Nat.div_eq_of_lt h6
        omega
      have e1 : fsz 23 n.natAbs = 8388608 + m % 8388608 := by unfold fsz; rw [hm, if_neg h6]
      have e2 : fpw 23 n.natAbs = m / 8388608 - 1 := by unfold fpw; rw [hm]
      refine rp W 0 rfl rfl rfl (.tup ⟨.agg ⟨.refl, .int (by rw [e1]; simp only [Int.one_mul, pw23]; omega), .int (by rw [e2]; (try simp only [Int.one_mul, pw23]); omega), trivial⟩, .yes trivial, trivial⟩)
    · simp only [Int.one_mul, pw23] at h5
      have h6 : m < 2 ^ 23 := by
        rcases Nat.lt_or_ge m (2 ^ 23) with h7 | h7
        · exact h7
        · exfalso; omega
      have e1 : fsz 23 n.natAbs = m := by unfold fsz; rw [hm, if_pos h6]
      have e2 : fpw 23 n.natAbs = 0 := by unfold fpw; rw [hm, Nat.div_eq_of_lt h6]
      refine rp W 0 rfl rfl rfl (.tup ⟨.agg ⟨.refl, .int (by rw [e1]; simp only [Int.one_mul, pw23]; omega), .int (by rw [e2]; (try simp only [Int.one_mul, pw23]); omega), trivial⟩, .yes trivial, trivial⟩)
theorem l8Scaled_32 (p : Prop) (a b e : Nat) (hb : b ≠ 0) (ha : (dig a).length ≤ 1000) (hbl : (dig b).length ≤ 1000) (he : e ≤ 40000) : AFunP Tryd.prog 165 [.agg [.pr p, .fi .i64 (dig a), .fi .i64 (dig b)], .int .i64 (149 - (e : Int))] (· = .tup [.fi .i64 (dig (a * 2 ^ 149 / (b * 2 ^ e))), .pr (a * 2 ^ 149 % (b * 2 ^ e) ≠ 0)]) := by
  refine afun_of Tryd.func165 Tryd.call165 rfl Tryd.ntmps165 rfl ?_
  have W : Walk Tryd.prog TT 165 _ := Walk.of TT_ok Tryd.func165 Tryd.results165
  have hl2 : (dig (2 ^ (149 - e))).length ≤ 1000 := dig_pow_len _ _ (by omega)
  have hl3 : (dig (2 ^ (e - 149))).length ≤ 3000 := dig_pow_len _ _ (by omega)
  refine sp W 0 rfl rfl rfl (fun h1 => ?_) (fun h1 => ?_)
  · have h1 : e ≤ 149 := by omega
    obtain ⟨d1, d2⟩ := shl_down (a := a) (b := b) (K := 149) (e := e) h1
    have es : ((149 : Int) - e) = ((149 - e : Nat) : Int) := by omega
    have k1 := l5Pow2_ok (149 - e) (by omega)
    rw [← es] at k1
    have hl : (dig (a * 2 ^ (149 - e))).length ≤ 1000 + 1000 := dig_len_mul ha hl2
    have k2 := l5Mul_ok a (2 ^ (149 - e)) (by omega) (by omega)
    have k3 := l5Div_ok (a * 2 ^ (149 - e)) b hb (by omega) (by omega)
    rw [d1] at k3
    refine ce W 0 rfl rfl (k1) rfl ?_
    refine ce W 0 rfl rfl (k2) rfl ?_
    refine ce W 0 rfl rfl (k3) rfl ?_
    refine rp W 0 rfl rfl rfl (.tup ⟨.refl, .pr (by rw [len_nil, ne_eq, dig_nil, d2]), trivial⟩)
  · have h1 : 149 ≤ e := by omega
    obtain ⟨d1, d2⟩ := shl_up (a := a) (b := b) (K := 149) (e := e) h1
    have es : -((149 : Int) - e) = ((e - 149 : Nat) : Int) := by omega
    have k1 := l5Pow2_ok (e - 149) (by omega)
    rw [← es] at k1
    have hl : (dig (b * 2 ^ (e - 149))).length ≤ 1000 + 3000 := dig_len_mul hbl hl3
    have k2 := l5Mul_ok b (2 ^ (e - 149)) (by omega) (by omega)
    have k3 := l5Div_ok a (b * 2 ^ (e - 149)) (Nat.mul_ne_zero hb (two_nz _)) (by omega) (by omega)
    rw [d1] at k3
    refine ce W 0 rfl rfl (k1) rfl ?_
    refine ce W 0 rfl rfl (k2) rfl ?_
    refine ce W 0 rfl rfl (k3) rfl ?_
    refine rp W 0 rfl rfl rfl (.tup ⟨.refl, .pr (by rw [len_nil, ne_eq, dig_nil, d2]), trivial⟩)
theorem l1Frac_64 : AFunP Tryd.prog 130 [.int .i64 64] (· = .int .i64 52) := by
  refine afun_of Tryd.func130 Tryd.call130 rfl Tryd.ntmps130 rfl ?_
  have W : Walk Tryd.prog TT 130 _ := Walk.of TT_ok Tryd.func130 Tryd.results130
  refine sp W 0 rfl rfl rfl (fun h => ?_) (fun h => ?_)
  · refine rp W 0 rfl rfl rfl (.int (by omega))
  · refine rp W 0 rfl rfl rfl (.int (by omega))
theorem l1Least_64 : AFunP Tryd.prog 129 [.int .i64 64] (· = .int .i64 (-1074)) := by
  refine afun_of Tryd.func129 Tryd.call129 rfl Tryd.ntmps129 rfl ?_
  have W : Walk Tryd.prog TT 129 _ := Walk.of TT_ok Tryd.func129 Tryd.results129
  refine sp W 0 rfl rfl rfl (fun h => ?_) (fun h => ?_)
  · refine rp W 0 rfl rfl rfl (.int (by omega))
  · refine rp W 0 rfl rfl rfl (.int (by omega))
theorem specTop_64 : AFunP Tryd.prog 85 [.int .i64 64] (· = .int .i64 9218868437227405312) := (specBitTop_ok 64).subv (.int rfl) rfl
theorem specPart_64 (n : Int) (h : n.natAbs < fT 64) : AFunP Tryd.prog 77 [.int .i64 64, .int .i64 n] (· = .tup [.agg [.pr (n < 0), .int .u64 (fsz 52 n.natAbs), .int .i64 ((fpw 52 n.natAbs : Int) - 1074)], .pr True]) := by
  refine afun_of Tryd.func77 Tryd.call77 rfl Tryd.ntmps77 rfl ?_
  have W : Walk Tryd.prog TT 77 _ := Walk.of TT_ok Tryd.func77 Tryd.results77
  have hT : fT 64 = 9218868437227405312 := by decide
  have hb : bitOk 64 n := ⟨by simp, by rw [top_fT (by simp)]; omega, by rw [top_fT (by simp)]; omega⟩
  refine ce W 0 rfl rfl (specBitOk_ok 64 n) rfl ?_
  refine sp W 0 rfl rfl rfl (fun h1 => ?_) (fun h1 => ?_)
  · exact absurd hb h1
  refine ce W 0 rfl rfl (specTop_64) rfl ?_
  refine sp W 0 rfl rfl rfl (fun h2 => ?_) (fun h2 => ?_)
  · exfalso; omega
  refine ce W 0 rfl rfl (specTop_64) rfl ?_
  refine sp W 0 rfl rfl rfl (fun h3 => ?_) (fun h3 => ?_)
  · exfalso; omega
  refine ce W 0 rfl rfl (l1Least_64) rfl ?_
  obtain ⟨m, hm⟩ : ∃ m, n.natAbs = m := ⟨_, rfl⟩
  rw [hm] at h
  refine sp W 0 rfl rfl rfl (fun h4 => ?_) (fun h4 => ?_)
  · have en : -n = (m : Int) := by omega
    refine ce W 0 rfl rfl (l1Frac_64) rfl ?_
    rw [en]
    refine sp W 0 rfl rfl rfl (fun h5 => ?_) (fun h5 => ?_)
    · simp only [Int.one_mul, pw52] at h5
      have h6 : ¬ m < 2 ^ 52 := fun h6 => by
        have : m / 4503599627370496 = 0 := Nat.div_eq_of_lt h6
        omega
      have e1 : fsz 52 n.natAbs = 4503599627370496 + m % 4503599627370496 := by unfold fsz; rw [hm, if_neg h6]
      have e2 : fpw 52 n.natAbs = m / 4503599627370496 - 1 := by unfold fpw; rw [hm]
      refine rp W 0 rfl rfl rfl (.tup ⟨.agg ⟨.refl, .int (by rw [e1]; simp only [Int.one_mul, pw52]; omega), .int (by rw [e2]; (try simp only [Int.one_mul, pw52]); omega), trivial⟩, .yes trivial, trivial⟩)
    · simp only [Int.one_mul, pw52] at h5
      have h6 : m < 2 ^ 52 := by
        rcases Nat.lt_or_ge m (2 ^ 52) with h7 | h7
        · exact h7
        · exfalso; omega
      have e1 : fsz 52 n.natAbs = m := by unfold fsz; rw [hm, if_pos h6]
      have e2 : fpw 52 n.natAbs = 0 := by unfold fpw; rw [hm, Nat.div_eq_of_lt h6]
      refine rp W 0 rfl rfl rfl (.tup ⟨.agg ⟨.refl, .int (by rw [e1]; simp only [Int.one_mul, pw52]; omega), .int (by rw [e2]; (try simp only [Int.one_mul, pw52]); omega), trivial⟩, .yes trivial, trivial⟩)
  · have en : n = (m : Int) := by omega
    refine ce W 0 rfl rfl (l1Frac_64) rfl ?_
    refine sp W 0 rfl rfl rfl (fun h5 => ?_) (fun h5 => ?_)
    · simp only [Int.one_mul, pw52] at h5
      have h6 : ¬ m < 2 ^ 52 := fun h6 => by
        have : m / 4503599627370496 = 0 := Nat.div_eq_of_lt h6
        omega
      have e1 : fsz 52 n.natAbs = 4503599627370496 + m % 4503599627370496 := by unfold fsz; rw [hm, if_neg h6]
      have e2 : fpw 52 n.natAbs = m / 4503599627370496 - 1 := by unfold fpw; rw [hm]
      refine rp W 0 rfl rfl rfl (.tup ⟨.agg ⟨.refl, .int (by rw [e1]; simp only [Int.one_mul, pw52]; omega), .int (by rw [e2]; (try simp only [Int.one_mul, pw52]); omega), trivial⟩, .yes trivial, trivial⟩)
    · simp only [Int.one_mul, pw52] at h5
      have h6 : m < 2 ^ 52 := by
        rcases Nat.lt_or_ge m (2 ^ 52) with h7 | h7
        · exact h7
        · exfalso; omega
      have e1 : fsz 52 n.natAbs = m := by unfold fsz; rw [hm, if_pos h6]
      have e2 : fpw 52 n.natAbs = 0 := by unfold fpw; rw [hm, Nat.div_eq_of_lt h6]
      refine rp W 0 rfl rfl rfl (.tup ⟨.agg ⟨.refl, .int (by rw [e1]; simp only [Int.one_mul, pw52]; omega), .int (by rw [e2]; (try simp only [Int.one_mul, pw52]); omega), trivial⟩, .yes trivial, trivial⟩)
theorem l8Scaled_64 (p : Prop) (a b e : Nat) (hb : b ≠ 0) (ha : (dig a).length ≤ 1000) (hbl : (dig b).length ≤ 1000) (he : e ≤ 40000) : AFunP Tryd.prog 165 [.agg [.pr p, .fi .i64 (dig a), .fi .i64 (dig b)], .int .i64 (1074 - (e : Int))] (· = .tup [.fi .i64 (dig (a * 2 ^ 1074 / (b * 2 ^ e))), .pr (a * 2 ^ 1074 % (b * 2 ^ e) ≠ 0)]) := by
  refine afun_of Tryd.func165 Tryd.call165 rfl Tryd.ntmps165 rfl ?_
  have W : Walk Tryd.prog TT 165 _ := Walk.of TT_ok Tryd.func165 Tryd.results165
  have hl2 : (dig (2 ^ (1074 - e))).length ≤ 1000 := dig_pow_len _ _ (by omega)
  have hl3 : (dig (2 ^ (e - 1074))).length ≤ 3000 := dig_pow_len _ _ (by omega)
  refine sp W 0 rfl rfl rfl (fun h1 => ?_) (fun h1 => ?_)
  · have h1 : e ≤ 1074 := by omega
    obtain ⟨d1, d2⟩ := shl_down (a := a) (b := b) (K := 1074) (e := e) h1
    have es : ((1074 : Int) - e) = ((1074 - e : Nat) : Int) := by omega
    have k1 := l5Pow2_ok (1074 - e) (by omega)
    rw [← es] at k1
    have hl : (dig (a * 2 ^ (1074 - e))).length ≤ 1000 + 1000 := dig_len_mul ha hl2
    have k2 := l5Mul_ok a (2 ^ (1074 - e)) (by omega) (by omega)
    have k3 := l5Div_ok (a * 2 ^ (1074 - e)) b hb (by omega) (by omega)
    rw [d1] at k3
    refine ce W 0 rfl rfl (k1) rfl ?_
    refine ce W 0 rfl rfl (k2) rfl ?_
    refine ce W 0 rfl rfl (k3) rfl ?_
    refine rp W 0 rfl rfl rfl (.tup ⟨.refl, .pr (by rw [len_nil, ne_eq, dig_nil, d2]), trivial⟩)
  · have h1 : 1074 ≤ e := by omega
    obtain ⟨d1, d2⟩ := shl_up (a := a) (b := b) (K := 1074) (e := e) h1
    have es : -((1074 : Int) - e) = ((e - 1074 : Nat) : Int) := by omega
    have k1 := l5Pow2_ok (e - 1074) (by omega)
    rw [← es] at k1
    have hl : (dig (b * 2 ^ (e - 1074))).length ≤ 1000 + 3000 := dig_len_mul hbl hl3
    have k2 := l5Mul_ok b (2 ^ (e - 1074)) (by omega) (by omega)
    have k3 := l5Div_ok a (b * 2 ^ (e - 1074)) (Nat.mul_ne_zero hb (two_nz _)) (by omega) (by omega)
    rw [d1] at k3
    refine ce W 0 rfl rfl (k1) rfl ?_
    refine ce W 0 rfl rfl (k2) rfl ?_
    refine ce W 0 rfl rfl (k3) rfl ?_
    refine rp W 0 rfl rfl rfl (.tup ⟨.refl, .pr (by rw [len_nil, ne_eq, dig_nil, d2]), trivial⟩)
end Pf
/- Floats: the model's values -/
namespace Pf
open Go Go.Proofs
theorem natSmall_ok (q : Nat) (h : q < 65536 ^ 4) : AFunP Tryd.prog 166 [.fi .i64 (dig q)] (· = .tup [.int .u64 q, .pr True]) := by
  refine afun_of Tryd.func166 Tryd.call166 rfl Tryd.ntmps166 rfl ?_
  have W : Walk Tryd.prog TT 166 _ := Walk.of TT_ok Tryd.func166 Tryd.results166
  have hl : (dig q).length ≤ 4 := dig_len_le.2 h
  refine ce W 0 rfl rfl (specNatOk_ok (dig q) (by omega)) rfl ?_
  refine sp W 0 rfl rfl rfl (fun h1 => ?_) (fun h1 => ?_)
  · exact absurd (natOk_of (by omega)) h1
  refine sp W 0 rfl rfl rfl (fun h2 => ?_) (fun h2 => ?_)
  · exfalso; omega
  have hi : ∀ i, ((q / 65536 ^ i : Nat) : Int) = ((q / 65536 ^ (i + 1) : Nat) : Int) * 65536 + (dig q).getD i 0 := fun i => by
    rw [dig_get, Nat.pow_succ, ← Nat.div_div_eq_div_mul]; omega
  refine lp W 0 (σ := Nat) (fun i => [(0, .fi .i64 (dig q)), (4, .int .u64 ((q / 65536 ^ i : Nat) : Int)), (5, .int .i64 ((i : Int) - 1))]) (fun _ => []) (fun i => i) (fun i => i ≤ (dig q).length) (dig q).length [0, 4, 5] rfl
    (by rw [Nat.div_eq_of_lt (dig_lt (Nat.le_refl _))]; rfl) rfl (Nat.le_refl _) ?_
  intro i hil ih
  refine sp W 0 rfl rfl rfl (fun h3 => ?_) (fun h3 => ?_)
  · obtain ⟨i, rfl⟩ : ∃ m, i = m + 1 := ⟨i - 1, by omega⟩
    have et : (((i + 1 : Nat) : Int) - 1) = (i : Int) := by omega
    have e1 := hi i
    have g := (dig_dgs q).get i
    have nx := ih i (by omega) (by omega)
    have hb := Nat.div_le_self q (65536 ^ i)
    have hb2 : (0 : Int) ≤ ((q / 65536 ^ (i + 1) : Nat) : Int) := Int.natCast_nonneg _
    have hb3 : (((q / 65536 ^ i : Nat) : Int)) ≤ q := Int.ofNat_le.2 hb
    rw [et]
    rw [e1] at nx
    refine bk W 0 [0, 4, 5] rfl rfl nx (hc := ?_)
    simp only [AllC, Int.toNat_natCast, true_and, and_true]
    omega
  · obtain rfl : i = 0 := by omega
    refine rp W 0 rfl rfl rfl (.tup ⟨.int (by simp), .yes trivial, trivial⟩)
theorem l8Of_32 (n : Int) (h : n.natAbs < fT 32) : AFunP Tryd.prog 78 [.int .i64 32, .int .i64 n] (fun v => ∃ A B : Nat, v = .agg [.pr (n < 0), .fi .i64 (dig A), .fi .i64 (dig B)] ∧ B ≠ 0 ∧ mkRat (sg (n < 0) A) B = vl 32 n ∧ (dig A).length ≤ 100 ∧ (dig B).length ≤ 100) := by
  refine afun_of Tryd.func78 Tryd.call78 rfl Tryd.ntmps78 rfl ?_
  have W : Walk Tryd.prog TT 78 _ := Walk.of TT_ok Tryd.func78 Tryd.results78
  have hs := fv_eq 23 n.natAbs
  have h1 := fsz_lt 23 n.natAbs
  have h2 : fpw 23 n.natAbs ≤ 2 * 127 := fpw_le h
  have hF : fF 32 = 23 := rfl
  have hK : fK 32 = 149 := rfl
  refine ce W 0 rfl rfl (specPart_32 n h) rfl ?_
  generalize fsz 23 n.natAbs = s at *
  generalize fpw 23 n.natAbs = e at *
  have hsl : (dig s).length ≤ 4 := dig_len_le.2 (by omega)
  have k0 := specNatOf_ok s (by omega)
  refine phg W 0 8 [5, 7] rfl rfl (fun PW => ?_)
  refine phf PW 0 5 7 [] [.fi .i64 (dig s)] rfl rfl ⟨k0.at rfl _, trivial⟩ rfl rfl rfl rfl ?_ ?_
  · refine pho PW 0 7 [] [.fi .i64 (dig s)] rfl rfl ⟨k0.at rfl _, trivial⟩ rfl rfl ?_
    refine phe PW 0 [] [.fi .i64 (dig s)] rfl ⟨k0.at rfl _, trivial⟩ rfl ?_
    refine sp W 0 rfl rfl rfl (fun h3 => ?_) (fun h3 => ?_)
    · have hp := vl_parts (w := 32) hs (by omega)
      have es : (e : Int) - 149 = ((e - 149 : Nat) : Int) := by omega
      have k1 := l5Pow2_ok (e - 149) (by omega)
      rw [← es] at k1
      have hl : (dig (s * 2 ^ (e - 149))).length ≤ 4 + 90 := dig_len_mul hsl (dig_pow_len _ _ (by omega))
      have k2 := l5Mul_ok s (2 ^ (e - 149)) (by omega) (Nat.le_trans (dig_pow_len (e - 149) 90 (by omega)) (by omega))
      refine dre W 0 6 [] [.fi .i64 (dig (2 ^ (e - 149))), .fi .i64 (dig (s * 2 ^ (e - 149)))] rfl rfl rfl ⟨k1.at rfl _, k2.at rfl _, trivial⟩ rfl ?_
      refine rq W 0 rfl rfl (.agg [.pr (n < 0), .fi .i64 (dig (s * 2 ^ (e - 149))), .fi .i64 (dig 1)]) ⟨s * 2 ^ (e - 149), 1, rfl, by omega, hp, by omega, by rw [dig_one]; simp⟩ rfl (.agg ⟨.refl, .refl, .fi dig_one.symm, trivial⟩)
    · have hp := vl_parts2 (w := 32) hs (by omega)
      have es : -((e : Int) - 149) = ((149 - e : Nat) : Int) := by omega
      have k1 := l5Pow2_ok (149 - e) (by omega)
      rw [← es] at k1
      refine ce W 0 rfl rfl (k1) rfl ?_
      refine rq W 0 rfl rfl (.agg [.pr (n < 0), .fi .i64 (dig s), .fi .i64 (dig (2 ^ (149 - e)))]) ⟨s, 2 ^ (149 - e), rfl, two_nz _, hp, by omega, dig_pow_len _ _ (by omega)⟩ rfl .refl
  · refine pho PW 0 5 [] [.fi .i64 (dig s)] rfl rfl ⟨k0.at rfl _, trivial⟩ rfl rfl ?_
    refine phe PW 0 [] [.fi .i64 (dig s)] rfl ⟨k0.at rfl _, trivial⟩ rfl ?_
    refine sp W 0 rfl rfl rfl (fun h3 => ?_) (fun h3 => ?_)
    · have hp := vl_parts (w := 32) hs (by omega)
      have es : (e : Int) - 149 = ((e - 149 : Nat) : Int) := by omega
      have k1 := l5Pow2_ok (e - 149) (by omega)
      rw [← es] at k1
      have hl : (dig (s * 2 ^ (e - 149))).length ≤ 4 + 90 := dig_len_mul hsl (dig_pow_len _ _ (by omega))
      have k2 := l5Mul_ok s (2 ^ (e - 149)) (by omega) (Nat.le_trans (dig_pow_len (e - 149) 90 (by omega)) (by omega))
      refine dre W 0 6 [] [.fi .i64 (dig (2 ^ (e - 149))), .fi .i64 (dig (s * 2 ^ (e - 149)))] rfl rfl rfl ⟨k1.at rfl _, k2.at rfl _, trivial⟩ rfl ?_
      refine rq W 0 rfl rfl (.agg [.pr (n < 0), .fi .i64 (dig (s * 2 ^ (e - 149))), .fi .i64 (dig 1)]) ⟨s * 2 ^ (e - 149), 1, rfl, by omega, hp, by omega, by rw [dig_one]; simp⟩ rfl (.agg ⟨.refl, .refl, .fi dig_one.symm, trivial⟩)
    · have hp := vl_parts2 (w := 32) hs (by omega)
      have es : -((e : Int) - 149) = ((149 - e : Nat) : Int) := by omega
      have k1 := l5Pow2_ok (149 - e) (by omega)
      rw [← es] at k1
      refine ce W 0 rfl rfl (k1) rfl ?_
      refine rq W 0 rfl rfl (.agg [.pr (n < 0), .fi .i64 (dig s), .fi .i64 (dig (2 ^ (149 - e)))]) ⟨s, 2 ^ (149 - e), rfl, two_nz _, hp, by omega, dig_pow_len _ _ (by omega)⟩ rfl .refl
theorem l8Of_64 (n : Int) (h : n.natAbs < fT 64) : AFunP Tryd.prog 78 [.int .i64 64, .int .i64 n] (fun v => ∃ A B : Nat, v = .agg [.pr (n < 0), .fi .i64 (dig A), .fi .i64 (dig B)] ∧ B ≠ 0 ∧ mkRat (sg (n < 0) A) B = vl 64 n ∧ (dig A).length ≤ 100 ∧ (dig B).length ≤ 100) := by
  refine afun_of Tryd.func78 Tryd.call78 rfl Tryd.ntmps78 rfl ?_
  have W : Walk Tryd.prog TT 78 _ := Walk.of TT_ok Tryd.func78 Tryd.results78
  have hs := fv_eq 52 n.natAbs
  have h1 := fsz_lt 52 n.natAbs
  have h2 : fpw 52 n.natAbs ≤ 2 * 1023 := fpw_le h
  have hF : fF 64 = 52 := rfl
  have hK : fK 64 = 1074 := rfl
  refine ce W 0 rfl rfl (specPart_64 n h) rfl ?_
  generalize fsz 52 n.natAbs = s at *
  generalize fpw 52 n.natAbs = e at *
  have hsl : (dig s).length ≤ 4 := dig_len_le.2 (by omega)
  have k0 := specNatOf_ok s (by omega)
  refine phg W 0 8 [5, 7] rfl rfl (fun PW => ?_)
  refine phf PW 0 5 7 [] [.fi .i64 (dig s)] rfl rfl ⟨k0.at rfl _, trivial⟩ rfl rfl rfl rfl ?_ ?_
  · refine pho PW 0 7 [] [.fi .i64 (dig s)] rfl rfl ⟨k0.at rfl _, trivial⟩ rfl rfl ?_
    refine phe PW 0 [] [.fi .i64 (dig s)] rfl ⟨k0.at rfl _, trivial⟩ rfl ?_
    refine sp W 0 rfl rfl rfl (fun h3 => ?_) (fun h3 => ?_)
    · have hp := vl_parts (w := 64) hs (by omega)
      have es : (e : Int) - 1074 = ((e - 1074 : Nat) : Int) := by omega
      have k1 := l5Pow2_ok (e - 1074) (by omega)
      rw [← es] at k1
      have hl : (dig (s * 2 ^ (e - 1074))).length ≤ 4 + 90 := dig_len_mul hsl (dig_pow_len _ _ (by omega))
      have k2 := l5Mul_ok s (2 ^ (e - 1074)) (by omega) (Nat.le_trans (dig_pow_len (e - 1074) 90 (by omega)) (by omega))
      refine dre W 0 6 [] [.fi .i64 (dig (2 ^ (e - 1074))), .fi .i64 (dig (s * 2 ^ (e - 1074)))] rfl rfl rfl ⟨k1.at rfl _, k2.at rfl _, trivial⟩ rfl ?_
      refine rq W 0 rfl rfl (.agg [.pr (n < 0), .fi .i64 (dig (s * 2 ^ (e - 1074))), .fi .i64 (dig 1)]) ⟨s * 2 ^ (e - 1074), 1, rfl, by omega, hp, by omega, by rw [dig_one]; simp⟩ rfl (.agg ⟨.refl, .refl, .fi dig_one.symm, trivial⟩)
    · have hp := vl_parts2 (w := 64) hs (by omega)
      have es : -((e : Int) - 1074) = ((1074 - e : Nat) : Int) := by omega
      have k1 := l5Pow2_ok (1074 - e) (by omega)
      rw [← es] at k1
      refine ce W 0 rfl rfl (k1) rfl ?_
      refine rq W 0 rfl rfl (.agg [.pr (n < 0), .fi .i64 (dig s), .fi .i64 (dig (2 ^ (1074 - e)))]) ⟨s, 2 ^ (1074 - e), rfl, two_nz _, hp, by omega, dig_pow_len _ _ (by omega)⟩ rfl .refl
  · refine pho PW 0 5 [] [.fi .i64 (dig s)] rfl rfl ⟨k0.at rfl _, trivial⟩ rfl rfl ?_
    refine phe PW 0 [] [.fi .i64 (dig s)] rfl ⟨k0.at rfl _, trivial⟩ rfl ?_
    refine sp W 0 rfl rfl rfl (fun h3 => ?_) (fun h3 => ?_)
    · have hp := vl_parts (w := 64) hs (by omega)
      have es : (e : Int) - 1074 = ((e - 1074 : Nat) : Int) := by omega
      have k1 := l5Pow2_ok (e - 1074) (by omega)
      rw [← es] at k1
      have hl : (dig (s * 2 ^ (e - 1074))).length ≤ 4 + 90 := dig_len_mul hsl (dig_pow_len _ _ (by omega))
      have k2 := l5Mul_ok s (2 ^ (e - 1074)) (by omega) (Nat.le_trans (dig_pow_len (e - 1074) 90 (by omega)) (by omega))
      refine dre W 0 6 [] [.fi .i64 (dig (2 ^ (e - 1074))), .fi .i64 (dig (s * 2 ^ (e - 1074)))] rfl rfl rfl ⟨k1.at rfl _, k2.at rfl _, trivial⟩ rfl ?_
      refine rq W 0 rfl rfl (.agg [.pr (n < 0), .fi .i64 (dig (s * 2 ^ (e - 1074))), .fi .i64 (dig 1)]) ⟨s * 2 ^ (e - 1074), 1, rfl, by omega, hp, by omega, by rw [dig_one]; simp⟩ rfl (.agg ⟨.refl, .refl, .fi dig_one.symm, trivial⟩)
    · have hp := vl_parts2 (w := 64) hs (by omega)
      have es : -((e : Int) - 1074) = ((1074 - e : Nat) : Int) := by omega
      have k1 := l5Pow2_ok (1074 - e) (by omega)
      rw [← es] at k1
      refine ce W 0 rfl rfl (k1) rfl ?_
      refine rq W 0 rfl rfl (.agg [.pr (n < 0), .fi .i64 (dig s), .fi .i64 (dig (2 ^ (1074 - e)))]) ⟨s, 2 ^ (1074 - e), rfl, two_nz _, hp, by omega, dig_pow_len _ _ (by omega)⟩ rfl .refl
end Pf
/- Floats: the model's roundings -/
namespace Pf
open Go Go.Proofs
theorem rat_lt {p : Prop} {a b : Nat} {r : Rat} (hb : b ≠ 0) (h : mkRat (sg p a) b = r) : (p ∧ a ≠ 0) ↔ r < 0 := by
  have := (mkRat_parts p a b hb).2.2
  rwa [h] at this
theorem rat_zero {p : Prop} {a b : Nat} {r : Rat} (hb : b ≠ 0) (h : mkRat (sg p a) b = r) (h0 : a = 0) : r = 0 := by
  subst h0; rw [← h, sg_zero]; exact Rat.zero_mkRat b
theorem round_p {w : Int} {p : Prop} {a b : Nat} {r : Rat} (hb : b ≠ 0) (h : mkRat (sg p a) b = r) : (p → dn w r = -(nx w r : Int) ∧ up w r = -(tv w r : Int)) ∧ (¬ p → dn w r = tv w r ∧ up w r = nx w r) := by
  have hlt := rat_lt hb h
  refine ⟨fun hp => ?_, fun hp => dn_no (fun k => hp (hlt.2 k).1)⟩
  by_cases h0 : a = 0
  · have hr := rat_zero hb h h0
    subst hr
    obtain ⟨z1, z2⟩ := te_zero w
    obtain ⟨d1, d2⟩ := dn_zero w
    rw [d1, d2, nx_yes z2, z1]
    exact ⟨rfl, rfl⟩
  · exact dn_yes (hlt.1 ⟨hp, h0⟩)
theorem l8Size_32 (p : Prop) (a b : Nat) (hb : b ≠ 0) (ha : (dig a).length ≤ 1000) (hbl : (dig b).length ≤ 1000) : AFunP Tryd.prog 144 [.int .i64 32, .agg [.pr p, .fi .i64 (dig a), .fi .i64 (dig b)]] (· = .tup [.int .i64 (tvN 32 a b), .pr (¬ teN 32 a b)]) := by
  refine afun_of Tryd.func144 Tryd.call144 rfl Tryd.ntmps144 rfl ?_
  have W : Walk Tryd.prog TT 144 _ := Walk.of TT_ok Tryd.func144 Tryd.results144
  refine sp W 0 rfl rfl rfl (fun h0 => ?_) (fun h0 => ?_)
  · have a0 : a = 0 := dig_nil.1 (List.eq_nil_of_length_eq_zero (by omega))
    subst a0
    obtain ⟨z1, z2⟩ := tvN_zero 32 b
    refine rp W 0 rfl rfl rfl (.tup ⟨.int (by rw [z1]; rfl), .no (fun h => h z2), trivial⟩)
  have a0 : a ≠ 0 := by rintro rfl; simp [dig_zero] at h0
  have ba := bitL_len (a := a)
  have bb := bitL_len (a := b)
  obtain ⟨e, he⟩ : ∃ e : Nat, (e : Int) = max 0 ((bitL a : Int) - bitL b - (23 + 1) + 149) := ⟨(max 0 ((bitL a : Int) - bitL b - (23 + 1) + 149)).toNat, by omega⟩
  obtain ⟨q1, q2⟩ := first_q (F := 23) (K := 149) a0 hb he
  have hsc := fun e he => l8Scaled_32 p a b e hb ha hbl he
  obtain ⟨er, et⟩ := tvN_as (w := 32) (a := a) (b := b) (F := 23) (K := 149) (T := 2139095040) (A := a * 2 ^ 149) rfl rfl (by decide) rfl
  rw [er, propext et]
  clear er et
  generalize a * 2 ^ 149 = A at *
  refine ce W 0 rfl rfl (l1Frac_32) rfl ?_
  refine dre W 0 10 [] [.int .i64 (bitL a), .int .i64 (bitL b)] rfl rfl rfl ⟨(l5Bits_ok a (by omega)).at rfl _, (l5Bits_ok b (by omega)).at rfl _, trivial⟩ rfl ?_
  refine ce W 0 rfl rfl (l1Least_32) rfl ?_
  have h40 : e ≤ 40000 := by omega
  refine sp W 0 rfl rfl rfl (fun h1 => ?_) (fun h1 => ?_)
  · have e0 : e = 0 := by omega
    subst e0
    refine ce W 0 rfl rfl (l1Least_32) rfl ?_
    have k1 := hsc 0 h40
    rw [show ((149 : Int) - ((0 : Nat) : Int)) = - -149 by omega] at k1
    refine ce W 0 rfl rfl (k1) rfl ?_
    refine lp W 0 (σ := Nat) (fun s => [(0, .int .i64 32), (1, .agg [.pr p, .fi .i64 (dig a), .fi .i64 (dig b)]), (3, .ptr 0 0 0 0), (6, .int .i64 23), (7, .int .i64 (149 - (s : Int))), (8, .fi .i64 (dig (A / (b * 2 ^ s)))), (9, .pr (A % (b * 2 ^ s) ≠ 0))])
      (fun _ => [.lst 0 [[.pr p, .fi .i64 (dig a), .fi .i64 (dig b)]]]) (fun s => 0 + 1 - s)
      (fun s => (s = 0 ∨ (s = 0 + 1 ∧ A / (b * 2 ^ s) < 2 ^ 24)) ∧ A / (b * 2 ^ s) < 2 ^ 25 ∧ (s = 0 ∨ 2 ^ 23 ≤ A / (b * 2 ^ s)))
      0 [0, 1, 3, 6, 7, 8, 9] rfl (by rw [show ((149 : Int) - ((0 : Nat) : Int)) = - -149 by omega]; rfl) rfl ⟨.inl rfl, q1, q2⟩ ?_
    rintro s ⟨s1, s2, s3⟩ ih
    have hql : (dig (A / (b * 2 ^ s))).length ≤ 4 := dig_len_le.2 (Nat.lt_of_lt_of_le s2 (by decide))
    have ebits := bitL_lt 24 (A / (b * 2 ^ s))
    have ebits2 := bitL_lt 23 (A / (b * 2 ^ s))
    obtain ⟨f1, f2⟩ := half_q (A := A) (b := b) (e := s) (show 0 < b by omega)
    refine ce W 0 rfl rfl (l5Bits_ok (A / (b * 2 ^ s)) (by omega)) rfl ?_
    refine sp W 0 rfl rfl rfl (fun h2 => ?_) (fun h2 => ?_)
    · have h3 : 2 ^ 24 ≤ A / (b * 2 ^ s) := by
        rcases Nat.lt_or_ge (A / (b * 2 ^ s)) (2 ^ 24) with h7 | h7
        · have := ebits.2 h7; omega
        · exact h7
      have se : s = 0 := s1.resolve_right (fun h => by omega)
      have k1 := hsc (s + 1) (by omega)
      have es : ((149 : Int) - ((s + 1 : Nat) : Int)) = 149 - (s : Int) - 1 := by omega
      rw [es] at k1
      refine ce W 0 rfl rfl (k1) rfl ?_
      have nx := ih (s + 1) ⟨.inr ⟨by omega, by rw [f1]; omega⟩, by rw [f1]; omega, .inr (by rw [f1]; omega)⟩ (by omega)
      rw [es] at nx
      refine bk W 0 [0, 1, 3, 6, 7, 8, 9] rfl rfl (nx)
    · have h3 : A / (b * 2 ^ s) < 2 ^ 24 := ebits.1 (by omega)
      obtain ⟨r1, r2⟩ := round_core (F := 23) (T := 2139095040) (A := A) (b := b) (e := s) (q := A / (b * 2 ^ s)) (by omega) (show 0 < b by omega) rfl h3 s3
      rw [propext r2, r1]
      generalize A / (b * 2 ^ s) = Q at *
      refine ce W 0 rfl rfl (natSmall_ok Q (by omega)) rfl ?_
      refine ce W 0 rfl rfl (l5Bits_ok Q (by omega)) rfl ?_
      have hs0 : Q < 2 ^ 23 → s = 0 := fun h => s3.resolve_right (by omega)
      refine sp W 0 rfl rfl rfl (fun h4 => ?_) (fun h4 => ?_)
      · have h5 : Q < 2 ^ 23 := ebits2.1 (by omega)
        obtain rfl : s = 0 := hs0 h5
        have h6 : 0 * 2 ^ 23 + Q < 2139095040 := by omega
        rw [if_pos h6]
        refine rp W 0 rfl rfl rfl (.tup ⟨.int (by omega), .pr ⟨fun h k => h k.2, fun h k => h ⟨h6, k⟩⟩, trivial⟩)
      · have h5 : 2 ^ 23 ≤ Q := by
          rcases Nat.lt_or_ge Q (2 ^ 23) with h7 | h7
          · have := ebits2.2 h7; omega
          · exact h7
        refine ce W 0 rfl rfl (l1Least_32) rfl ?_
        refine ce W 0 rfl rfl (specTop_32) rfl ?_
        refine sp W 0 rfl rfl rfl (fun h6 => ?_) (fun h6 => ?_)
        · simp only [pw23] at h6
          have hlt : ¬ (s * 2 ^ 23 + Q < 2139095040) := by omega
          rw [if_neg hlt]
          refine ce W 0 rfl rfl (specTop_32) rfl ?_
          refine rp W 0 rfl rfl rfl (.tup ⟨.int (by omega), .yes (fun k => hlt k.1), trivial⟩)
        · simp only [pw23] at h6
          have hlt : s * 2 ^ 23 + Q < 2139095040 := by omega
          rw [if_pos hlt]
          refine rp W 0 rfl rfl rfl (.tup ⟨.int (by simp only [Int.one_mul, pw23]; omega), .pr ⟨fun h k => h k.2, fun h k => h ⟨hlt, k⟩⟩, trivial⟩)
  · have es0 : (23 : Int) + 1 - bitL a + bitL b = 149 - (e : Int) := by omega
    have k1 := hsc e h40
    rw [← es0] at k1
    refine ce W 0 rfl rfl (k1) rfl ?_
    refine lp W 0 (σ := Nat) (fun s => [(0, .int .i64 32), (1, .agg [.pr p, .fi .i64 (dig a), .fi .i64 (dig b)]), (3, .ptr 0 0 0 0), (6, .int .i64 23), (7, .int .i64 (149 - (s : Int))), (8, .fi .i64 (dig (A / (b * 2 ^ s)))), (9, .pr (A % (b * 2 ^ s) ≠ 0))])
      (fun _ => [.lst 0 [[.pr p, .fi .i64 (dig a), .fi .i64 (dig b)]]]) (fun s => e + 1 - s)
      (fun s => (s = e ∨ (s = e + 1 ∧ A / (b * 2 ^ s) < 2 ^ 24)) ∧ A / (b * 2 ^ s) < 2 ^ 25 ∧ (s = 0 ∨ 2 ^ 23 ≤ A / (b * 2 ^ s)))
      e [0, 1, 3, 6, 7, 8, 9] rfl (by rw [← es0]; rfl) rfl ⟨.inl rfl, q1, q2⟩ ?_
    rintro s ⟨s1, s2, s3⟩ ih
    have hql : (dig (A / (b * 2 ^ s))).length ≤ 4 := dig_len_le.2 (Nat.lt_of_lt_of_le s2 (by decide))
    have ebits := bitL_lt 24 (A / (b * 2 ^ s))
    have ebits2 := bitL_lt 23 (A / (b * 2 ^ s))
    obtain ⟨f1, f2⟩ := half_q (A := A) (b := b) (e := s) (show 0 < b by omega)
    refine ce W 0 rfl rfl (l5Bits_ok (A / (b * 2 ^ s)) (by omega)) rfl ?_
    refine sp W 0 rfl rfl rfl (fun h2 => ?_) (fun h2 => ?_)
    · have h3 : 2 ^ 24 ≤ A / (b * 2 ^ s) := by
        rcases Nat.lt_or_ge (A / (b * 2 ^ s)) (2 ^ 24) with h7 | h7
        · have := ebits.2 h7; omega
        · exact h7
      have se : s = e := s1.resolve_right (fun h => by omega)
      have k1 := hsc (s + 1) (by omega)
      have es : ((149 : Int) - ((s + 1 : Nat) : Int)) = 149 - (s : Int) - 1 := by omega
      rw [es] at k1
      refine ce W 0 rfl rfl (k1) rfl ?_
      have nx := ih (s + 1) ⟨.inr ⟨by omega, by rw [f1]; omega⟩, by rw [f1]; omega, .inr (by rw [f1]; omega)⟩ (by omega)
      rw [es] at nx
      refine bk W 0 [0, 1, 3, 6, 7, 8, 9] rfl rfl (nx)
    · have h3 : A / (b * 2 ^ s) < 2 ^ 24 := ebits.1 (by omega)
      obtain ⟨r1, r2⟩ := round_core (F := 23) (T := 2139095040) (A := A) (b := b) (e := s) (q := A / (b * 2 ^ s)) (by omega) (show 0 < b by omega) rfl h3 s3
      rw [propext r2, r1]
      generalize A / (b * 2 ^ s) = Q at *
      refine ce W 0 rfl rfl (natSmall_ok Q (by omega)) rfl ?_
      refine ce W 0 rfl rfl (l5Bits_ok Q (by omega)) rfl ?_
      have hs0 : Q < 2 ^ 23 → s = 0 := fun h => s3.resolve_right (by omega)
      refine sp W 0 rfl rfl rfl (fun h4 => ?_) (fun h4 => ?_)
      · have h5 : Q < 2 ^ 23 := ebits2.1 (by omega)
        obtain rfl : s = 0 := hs0 h5
        have h6 : 0 * 2 ^ 23 + Q < 2139095040 := by omega
        rw [if_pos h6]
        refine rp W 0 rfl rfl rfl (.tup ⟨.int (by omega), .pr ⟨fun h k => h k.2, fun h k => h ⟨h6, k⟩⟩, trivial⟩)
      · have h5 : 2 ^ 23 ≤ Q := by
          rcases Nat.lt_or_ge Q (2 ^ 23) with h7 | h7
          · have := ebits2.2 h7; omega
          · exact h7
        refine ce W 0 rfl rfl (l1Least_32) rfl ?_
        refine ce W 0 rfl rfl (specTop_32) rfl ?_
        refine sp W 0 rfl rfl rfl (fun h6 => ?_) (fun h6 => ?_)
        · simp only [pw23] at h6
          have hlt : ¬ (s * 2 ^ 23 + Q < 2139095040) := by omega
          rw [if_neg hlt]
          refine ce W 0 rfl rfl (specTop_32) rfl ?_
          refine rp W 0 rfl rfl rfl (.tup ⟨.int (by omega), .yes (fun k => hlt k.1), trivial⟩)
        · simp only [pw23] at h6
          have hlt : s * 2 ^ 23 + Q < 2139095040 := by omega
          rw [if_pos hlt]
          refine rp W 0 rfl rfl rfl (.tup ⟨.int (by simp only [Int.one_mul, pw23]; omega), .pr ⟨fun h k => h k.2, fun h k => h ⟨hlt, k⟩⟩, trivial⟩)
theorem l8Round_32 (p : Prop) (a b : Nat) (r : Rat) (hb : b ≠ 0) (hr : mkRat (sg p a) b = r) (ha : (dig a).length ≤ 1000) (hbl : (dig b).length ≤ 1000) :
    AFunP Tryd.prog 91 [.int .i64 32, .agg [.pr p, .fi .i64 (dig a), .fi .i64 (dig b)], .bool false] (· = .int .i64 (dn 32 r)) ∧
    AFunP Tryd.prog 91 [.int .i64 32, .agg [.pr p, .fi .i64 (dig a), .fi .i64 (dig b)], .bool true] (· = .int .i64 (up 32 r)) := by
  have k := l8Size_32 p a b hb ha hbl
  obtain ⟨t1, t2⟩ := tv_of (w := 32) hb hr
  rw [t1, propext t2] at k
  have h1 := tv_le 32 r
  have h2 := fT_rng 32
  obtain ⟨u1, u2⟩ := round_p (w := 32) hb hr
  refine ⟨?down, ?up⟩
  case down =>
    refine afun_of Tryd.func91 Tryd.call91 rfl Tryd.ntmps91 rfl ?_
    have W : Walk Tryd.prog TT 91 _ := Walk.of TT_ok Tryd.func91 Tryd.results91
    refine ce W 0 rfl rfl (k) rfl ?_
    refine sp W 0 rfl rfl rfl (fun h3 => ?_) (fun h3 => ?_)
    · refine sp W 0 rfl rfl rfl (fun h4 => ?_) (fun h4 => ?_)
      · refine rp W 0 rfl rfl rfl (.int (by rw [(u1 h3).1, nx_no h4]; omega))
      · refine rp W 0 rfl rfl rfl (.int (by rw [(u1 h3).1, nx_yes (Classical.not_not.1 h4)]))
    · refine sp W 0 rfl rfl rfl (fun h4 => ?_) (fun h4 => ?_)
      · refine rp W 0 rfl rfl rfl (.int (by rw [(u2 h3).1]))
      · refine rp W 0 rfl rfl rfl (.int (by rw [(u2 h3).1]))
  case up =>
    refine afun_of Tryd.func91 Tryd.call91 rfl Tryd.ntmps91 rfl ?_
    have W : Walk Tryd.prog TT 91 _ := Walk.of TT_ok Tryd.func91 Tryd.results91
    refine ce W 0 rfl rfl (k) rfl ?_
    refine sp W 0 rfl rfl rfl (fun h3 => ?_) (fun h3 => ?_)
    · refine sp W 0 rfl rfl rfl (fun h4 => ?_) (fun h4 => ?_)
      · refine rp W 0 rfl rfl rfl (.int (by rw [(u1 h3).2]))
      · refine rp W 0 rfl rfl rfl (.int (by rw [(u1 h3).2]))
    · refine sp W 0 rfl rfl rfl (fun h4 => ?_) (fun h4 => ?_)
      · refine rp W 0 rfl rfl rfl (.int (by rw [(u2 h3).2, nx_no h4]; omega))
      · refine rp W 0 rfl rfl rfl (.int (by rw [(u2 h3).2, nx_yes (Classical.not_not.1 h4)]))
theorem l8Size_64 (p : Prop) (a b : Nat) (hb : b ≠ 0) (ha : (dig a).length ≤ 1000) (hbl : (dig b).length ≤ 1000) : AFunP Tryd.prog 144 [.int .i64 64, .agg [.pr p, .fi .i64 (dig a), .fi .i64 (dig b)]] (· = .tup [.int .i64 (tvN 64 a b), .pr (¬ teN 64 a b)]) := by
  refine afun_of Tryd.func144 Tryd.call144 rfl Tryd.ntmps144 rfl ?_
  have W : Walk Tryd.prog TT 144 _ := Walk.of TT_ok Tryd.func144 Tryd.results144
  refine sp W 0 rfl rfl rfl (fun h0 => ?_) (fun h0 => ?_)
  · have a0 : a = 0 := dig_nil.1 (List.eq_nil_of_length_eq_zero (by omega))
    subst a0
    obtain ⟨z1, z2⟩ := tvN_zero 64 b
    refine rp W 0 rfl rfl rfl (.tup ⟨.int (by rw [z1]; rfl), .no (fun h => h z2), trivial⟩)
  have a0 : a ≠ 0 := by rintro rfl; simp [dig_zero] at h0
  have ba := bitL_len (a := a)
  have bb := bitL_len (a := b)
  obtain ⟨e, he⟩ : ∃ e : Nat, (e : Int) = max 0 ((bitL a : Int) - bitL b - (52 + 1) + 1074) := ⟨(max 0 ((bitL a : Int) - bitL b - (52 + 1) + 1074)).toNat, by omega⟩
  obtain ⟨q1, q2⟩ := first_q (F := 52) (K := 1074) a0 hb he
  have hsc := fun e he => l8Scaled_64 p a b e hb ha hbl he
  obtain ⟨er, et⟩ := tvN_as (w := 64) (a := a) (b := b) (F := 52) (K := 1074) (T := 9218868437227405312) (A := a * 2 ^ 1074) rfl rfl (by decide) rfl
  rw [er, propext et]
  clear er et
  generalize a * 2 ^ 1074 = A at *
  refine ce W 0 rfl rfl (l1Frac_64) rfl ?_
  refine dre W 0 10 [] [.int .i64 (bitL a), .int .i64 (bitL b)] rfl rfl rfl ⟨(l5Bits_ok a (by omega)).at rfl _, (l5Bits_ok b (by omega)).at rfl _, trivial⟩ rfl ?_
  refine ce W 0 rfl rfl (l1Least_64) rfl ?_
  have h40 : e ≤ 40000 := by omega
  refine sp W 0 rfl rfl rfl (fun h1 => ?_) (fun h1 => ?_)
  · have e0 : e = 0 := by omega
    subst e0
    refine ce W 0 rfl rfl (l1Least_64) rfl ?_
    have k1 := hsc 0 h40
    rw [show ((1074 : Int) - ((0 : Nat) : Int)) = - -1074 by omega] at k1
    refine ce W 0 rfl rfl (k1) rfl ?_
    refine lp W 0 (σ := Nat) (fun s => [(0, .int .i64 64), (1, .agg [.pr p, .fi .i64 (dig a), .fi .i64 (dig b)]), (3, .ptr 0 0 0 0), (6, .int .i64 52), (7, .int .i64 (1074 - (s : Int))), (8, .fi .i64 (dig (A / (b * 2 ^ s)))), (9, .pr (A % (b * 2 ^ s) ≠ 0))])
      (fun _ => [.lst 0 [[.pr p, .fi .i64 (dig a), .fi .i64 (dig b)]]]) (fun s => 0 + 1 - s)
      (fun s => (s = 0 ∨ (s = 0 + 1 ∧ A / (b * 2 ^ s) < 2 ^ 53)) ∧ A / (b * 2 ^ s) < 2 ^ 54 ∧ (s = 0 ∨ 2 ^ 52 ≤ A / (b * 2 ^ s)))
      0 [0, 1, 3, 6, 7, 8, 9] rfl (by rw [show ((1074 : Int) - ((0 : Nat) : Int)) = - -1074 by omega]; rfl) rfl ⟨.inl rfl, q1, q2⟩ ?_
    rintro s ⟨s1, s2, s3⟩ ih
    have hql : (dig (A / (b * 2 ^ s))).length ≤ 4 := dig_len_le.2 (Nat.lt_of_lt_of_le s2 (by decide))
    have ebits := bitL_lt 53 (A / (b * 2 ^ s))
    have ebits2 := bitL_lt 52 (A / (b * 2 ^ s))
    obtain ⟨f1, f2⟩ := half_q (A := A) (b := b) (e := s) (show 0 < b by omega)
    refine ce W 0 rfl rfl (l5Bits_ok (A / (b * 2 ^ s)) (by omega)) rfl ?_
    refine sp W 0 rfl rfl rfl (fun h2 => ?_) (fun h2 => ?_)
    · have h3 : 2 ^ 53 ≤ A / (b * 2 ^ s) := by
        rcases Nat.lt_or_ge (A / (b * 2 ^ s)) (2 ^ 53) with h7 | h7
        · have := ebits.2 h7; omega
        · exact h7
      have se : s = 0 := s1.resolve_right (fun h => by omega)
      have k1 := hsc (s + 1) (by omega)
      have es : ((1074 : Int) - ((s + 1 : Nat) : Int)) = 1074 - (s : Int) - 1 := by omega
      rw [es] at k1
      refine ce W 0 rfl rfl (k1) rfl ?_
      have nx := ih (s + 1) ⟨.inr ⟨by omega, by rw [f1]; omega⟩, by rw [f1]; omega, .inr (by rw [f1]; omega)⟩ (by omega)
      rw [es] at nx
      refine bk W 0 [0, 1, 3, 6, 7, 8, 9] rfl rfl (nx)
    · have h3 : A / (b * 2 ^ s) < 2 ^ 53 := ebits.1 (by omega)
      obtain ⟨r1, r2⟩ := round_core (F := 52) (T := 9218868437227405312) (A := A) (b := b) (e := s) (q := A / (b * 2 ^ s)) (by omega) (show 0 < b by omega) rfl h3 s3
      rw [propext r2, r1]
      generalize A / (b * 2 ^ s) = Q at *
      refine ce W 0 rfl rfl (natSmall_ok Q (by omega)) rfl ?_
      refine ce W 0 rfl rfl (l5Bits_ok Q (by omega)) rfl ?_
      have hs0 : Q < 2 ^ 52 → s = 0 := fun h => s3.resolve_right (by omega)
      refine sp W 0 rfl rfl rfl (fun h4 => ?_) (fun h4 => ?_)
      · have h5 : Q < 2 ^ 52 := ebits2.1 (by omega)
        obtain rfl : s = 0 := hs0 h5
        have h6 : 0 * 2 ^ 52 + Q < 9218868437227405312 := by omega
        rw [if_pos h6]
        refine rp W 0 rfl rfl rfl (.tup ⟨.int (by omega), .pr ⟨fun h k => h k.2, fun h k => h ⟨h6, k⟩⟩, trivial⟩)
      · have h5 : 2 ^ 52 ≤ Q := by
          rcases Nat.lt_or_ge Q (2 ^ 52) with h7 | h7
          · have := ebits2.2 h7; omega
          · exact h7
        refine ce W 0 rfl rfl (l1Least_64) rfl ?_
        refine ce W 0 rfl rfl (specTop_64) rfl ?_
        refine sp W 0 rfl rfl rfl (fun h6 => ?_) (fun h6 => ?_)
        · simp only [pw52] at h6
          have hlt : ¬ (s * 2 ^ 52 + Q < 9218868437227405312) := by omega
          rw [if_neg hlt]
          refine ce W 0 rfl rfl (specTop_64) rfl ?_
          refine rp W 0 rfl rfl rfl (.tup ⟨.int (by omega), .yes (fun k => hlt k.1), trivial⟩)
        · simp only [pw52] at h6
          have hlt : s * 2 ^ 52 + Q < 9218868437227405312 := by omega
          rw [if_pos hlt]
          refine rp W 0 rfl rfl rfl (.tup ⟨.int (by simp only [Int.one_mul, pw52]; omega), .pr ⟨fun h k => h k.2, fun h k => h ⟨hlt, k⟩⟩, trivial⟩)
  · have es0 : (52 : Int) + 1 - bitL a + bitL b = 1074 - (e : Int) := by omega
    have k1 := hsc e h40
    rw [← es0] at k1
    refine ce W 0 rfl rfl (k1) rfl ?_
    refine lp W 0 (σ := Nat) (fun s => [(0, .int .i64 64), (1, .agg [.pr p, .fi .i64 (dig a), .fi .i64 (dig b)]), (3, .ptr 0 0 0 0), (6, .int .i64 52), (7, .int .i64 (1074 - (s : Int))), (8, .fi .i64 (dig (A / (b * 2 ^ s)))), (9, .pr (A % (b * 2 ^ s) ≠ 0))])
      (fun _ => [.lst 0 [[.pr p, .fi .i64 (dig a), .fi .i64 (dig b)]]]) (fun s => e + 1 - s)
      (fun s => (s = e ∨ (s = e + 1 ∧ A / (b * 2 ^ s) < 2 ^ 53)) ∧ A / (b * 2 ^ s) < 2 ^ 54 ∧ (s = 0 ∨ 2 ^ 52 ≤ A / (b * 2 ^ s)))
      e [0, 1, 3, 6, 7, 8, 9] rfl (by rw [← es0]; rfl) rfl ⟨.inl rfl, q1, q2⟩ ?_
    rintro s ⟨s1, s2, s3⟩ ih
    have hql : (dig (A / (b * 2 ^ s))).length ≤ 4 := dig_len_le.2 (Nat.lt_of_lt_of_le s2 (by decide))
    have ebits := bitL_lt 53 (A / (b * 2 ^ s))
    have ebits2 := bitL_lt 52 (A / (b * 2 ^ s))
    obtain ⟨f1, f2⟩ := half_q (A := A) (b := b) (e := s) (show 0 < b by omega)
    refine ce W 0 rfl rfl (l5Bits_ok (A / (b * 2 ^ s)) (by omega)) rfl ?_
    refine sp W 0 rfl rfl rfl (fun h2 => ?_) (fun h2 => ?_)
    · have h3 : 2 ^ 53 ≤ A / (b * 2 ^ s) := by
        rcases Nat.lt_or_ge (A / (b * 2 ^ s)) (2 ^ 53) with h7 | h7
        · have := ebits.2 h7; omega
        · exact h7
      have se : s = e := s1.resolve_right (fun h => by omega)
      have k1 := hsc (s + 1) (by omega)
      have es : ((1074 : Int) - ((s + 1 : Nat) : Int)) = 1074 - (s : Int) - 1 := by omega
      rw [es] at k1
      refine ce W 0 rfl rfl (k1) rfl ?_
      have nx := ih (s + 1) ⟨.inr ⟨by omega, by rw [f1]; omega⟩, by rw [f1]; omega, .inr (by rw [f1]; omega)⟩ (by omega)
      rw [es] at nx
      refine bk W 0 [0, 1, 3, 6, 7, 8, 9] rfl rfl (nx)
    · have h3 : A / (b * 2 ^ s) < 2 ^ 53 := ebits.1 (by omega)
      obtain ⟨r1, r2⟩ := round_core (F := 52) (T := 9218868437227405312) (A := A) (b := b) (e := s) (q := A / (b * 2 ^ s)) (by omega) (show 0 < b by omega) rfl h3 s3
      rw [propext r2, r1]
      generalize A / (b * 2 ^ s) = Q at *
      refine ce W 0 rfl rfl (natSmall_ok Q (by omega)) rfl ?_
      refine ce W 0 rfl rfl (l5Bits_ok Q (by omega)) rfl ?_
      have hs0 : Q < 2 ^ 52 → s = 0 := fun h => s3.resolve_right (by omega)
      refine sp W 0 rfl rfl rfl (fun h4 => ?_) (fun h4 => ?_)
      · have h5 : Q < 2 ^ 52 := ebits2.1 (by omega)
        obtain rfl : s = 0 := hs0 h5
        have h6 : 0 * 2 ^ 52 + Q < 9218868437227405312 := by omega
        rw [if_pos h6]
        refine rp W 0 rfl rfl rfl (.tup ⟨.int (by omega), .pr ⟨fun h k => h k.2, fun h k => h ⟨h6, k⟩⟩, trivial⟩)
      · have h5 : 2 ^ 52 ≤ Q := by
          rcases Nat.lt_or_ge Q (2 ^ 52) with h7 | h7
          · have := ebits2.2 h7; omega
          · exact h7
        refine ce W 0 rfl rfl (l1Least_64) rfl ?_
        refine ce W 0 rfl rfl (specTop_64) rfl ?_
        refine sp W 0 rfl rfl rfl (fun h6 => ?_) (fun h6 => ?_)
        · simp only [pw52] at h6
          have hlt : ¬ (s * 2 ^ 52 + Q < 9218868437227405312) := by omega
          rw [if_neg hlt]
          refine ce W 0 rfl rfl (specTop_64) rfl ?_
          refine rp W 0 rfl rfl rfl (.tup ⟨.int (by omega), .yes (fun k => hlt k.1), trivial⟩)
        · simp only [pw52] at h6
          have hlt : s * 2 ^ 52 + Q < 9218868437227405312 := by omega
          rw [if_pos hlt]
          refine rp W 0 rfl rfl rfl (.tup ⟨.int (by simp only [Int.one_mul, pw52]; omega), .pr ⟨fun h k => h k.2, fun h k => h ⟨hlt, k⟩⟩, trivial⟩)
theorem l8Round_64 (p : Prop) (a b : Nat) (r : Rat) (hb : b ≠ 0) (hr : mkRat (sg p a) b = r) (ha : (dig a).length ≤ 1000) (hbl : (dig b).length ≤ 1000) :
    AFunP Tryd.prog 91 [.int .i64 64, .agg [.pr p, .fi .i64 (dig a), .fi .i64 (dig b)], .bool false] (· = .int .i64 (dn 64 r)) ∧
    AFunP Tryd.prog 91 [.int .i64 64, .agg [.pr p, .fi .i64 (dig a), .fi .i64 (dig b)], .bool true] (· = .int .i64 (up 64 r)) := by
  have k := l8Size_64 p a b hb ha hbl
  obtain ⟨t1, t2⟩ := tv_of (w := 64) hb hr
  rw [t1, propext t2] at k
  have h1 := tv_le 64 r
  have h2 := fT_rng 64
  obtain ⟨u1, u2⟩ := round_p (w := 64) hb hr
  refine ⟨?down, ?up⟩
  case down =>
    refine afun_of Tryd.func91 Tryd.call91 rfl Tryd.ntmps91 rfl ?_
    have W : Walk Tryd.prog TT 91 _ := Walk.of TT_ok Tryd.func91 Tryd.results91
    refine ce W 0 rfl rfl (k) rfl ?_
    refine sp W 0 rfl rfl rfl (fun h3 => ?_) (fun h3 => ?_)
    · refine sp W 0 rfl rfl rfl (fun h4 => ?_) (fun h4 => ?_)
      · refine rp W 0 rfl rfl rfl (.int (by rw [(u1 h3).1, nx_no h4]; omega))
      · refine rp W 0 rfl rfl rfl (.int (by rw [(u1 h3).1, nx_yes (Classical.not_not.1 h4)]))
    · refine sp W 0 rfl rfl rfl (fun h4 => ?_) (fun h4 => ?_)
      · refine rp W 0 rfl rfl rfl (.int (by rw [(u2 h3).1]))
      · refine rp W 0 rfl rfl rfl (.int (by rw [(u2 h3).1]))
  case up =>
    refine afun_of Tryd.func91 Tryd.call91 rfl Tryd.ntmps91 rfl ?_
    have W : Walk Tryd.prog TT 91 _ := Walk.of TT_ok Tryd.func91 Tryd.results91
    refine ce W 0 rfl rfl (k) rfl ?_
    refine sp W 0 rfl rfl rfl (fun h3 => ?_) (fun h3 => ?_)
    · refine sp W 0 rfl rfl rfl (fun h4 => ?_) (fun h4 => ?_)
      · refine rp W 0 rfl rfl rfl (.int (by rw [(u1 h3).2]))
      · refine rp W 0 rfl rfl rfl (.int (by rw [(u1 h3).2]))
    · refine sp W 0 rfl rfl rfl (fun h4 => ?_) (fun h4 => ?_)
      · refine rp W 0 rfl rfl rfl (.int (by rw [(u2 h3).2, nx_no h4]; omega))
      · refine rp W 0 rfl rfl rfl (.int (by rw [(u2 h3).2, nx_yes (Classical.not_not.1 h4)]))
end Pf
/- Equality of spans -/
namespace Pf
open Go Go.Proofs
theorem part_bool (cs : Array Value) (o : Nat) (v : Value) (h : cs[o]? = some v) (w : World) : (part 4 cs o).run Tryd.prog w = .ok v w := by
  simp [part, isAgg, run_underlying Tryd.underlying4, h]
theorem part_int (cs : Array Value) (o : Nat) (v : Value) (h : cs[o]? = some v) (w : World) : (part 3 cs o).run Tryd.prog w = .ok v w := by
  simp [part, isAgg, run_underlying Tryd.underlying3, h]
theorem eqS_in (d : Nat) (b : Bool) (l h : Int) (w : World) : (Op.equalIn (d + 1 + 1) 24 (.agg #[.bool b, .int .i64 l, .int .i64 h]) (.agg #[.bool false, .int .i64 0, .int .i64 0])).run Tryd.prog w = .ok (b == false && l == 0 && h == 0) w := by
  have hs : Tryd.prog.stoodInHeld 24 = false := by kernel_rfl
  have p1 := fun w => part_bool #[.bool b, .int .i64 l, .int .i64 h] 0 (.bool b) rfl w
  have p2 := fun w => part_int #[.bool b, .int .i64 l, .int .i64 h] 1 (.int .i64 l) rfl w
  have p3 := fun w => part_int #[.bool b, .int .i64 l, .int .i64 h] 2 (.int .i64 h) rfl w
  have q1 := fun w => part_bool #[.bool false, .int .i64 0, .int .i64 0] 0 (.bool false) rfl w
  have q2 := fun w => part_int #[.bool false, .int .i64 0, .int .i64 0] 1 (.int .i64 0) rfl w
  have q3 := fun w => part_int #[.bool false, .int .i64 0, .int .i64 0] 2 (.int .i64 0) rfl w
  cases b <;> by_cases h1 : l = 0 <;> by_cases h2 : h = 0 <;> simp [Op.equalIn, run_underlying Tryd.underlying24, run_underlying Tryd.underlying4, run_underlying Tryd.underlying3, hs, p1, p2, p3, q1, q2, q3, h1, h2] <;> simp_all
end Pf
/- A span compared with the empty one -/
namespace Pf
open Go Go.Proofs
/-- Spans: whether there is one, its bounds. -/
def spV (s : Prop) (lo hi : Int) : AV := .agg [.pr s, .int .i64 lo, .int .i64 hi]
def spanOk (w : Int) (s : Prop) (lo hi : Int) : Prop := (w = 32 ∨ w = 64) ∧ ((s ∧ pairOk w lo hi) ∨ (¬ s ∧ lo = 0 ∧ hi = 0))
theorem eqS_run (b : Bool) (l h : Int) (w : World) : (Op.equal 24 (.agg #[.bool b, .int .i64 l, .int .i64 h]) (.agg #[.bool false, .int .i64 0, .int .i64 0])).run Tryd.prog w = .ok (b == false && l == 0 && h == 0) w := by
  have e : ∀ x y, Op.equal 24 x y = Op.equalIn (9998 + 1 + 1) 24 x y := fun _ _ => rfl
  rw [e]
  generalize 9998 = n
  exact eqS_in n b l h w
theorem eqS_guard (x y : Operand) (a b : Array Value) (w : World) : (eqGuard .eql 24 x y (.agg a) (.agg b)).run Tryd.prog w = .ok () w := by
  have h : Tryd.prog.eqGuardType Tryd.prog.depth 24 = false := by kernel_rfl
  simp [eqGuard, h]
theorem vr_agg3 {FM : FMem} {β : BMap} {u v w : AV} {c : Value} (h : VR FM β (.agg [u, v, w]) c) : ∃ a b d, c = .agg #[a, b, d] ∧ VR FM β u a ∧ VR FM β v b ∧ VR FM β w d := by
  cases h with
  | agg h1 hv =>
    rename_i xs
    have hs : xs.size = 3 := by simpa using h1.symm
    refine ⟨xs.getD 0 undef, xs.getD 1 undef, xs.getD 2 undef, ?_, hv 0 (by simp), hv 1 (by simp), hv 2 (by simp)⟩
    congr 1
    refine Array.ext (by simp [hs]) fun i h1 h2 => ?_
    rcases (by omega : i = 0 ∨ i = 1 ∨ i = 2) with rfl | rfl | rfl <;> simp [Array.getD, hs]
/-- A span compared with the empty one. -/
theorem go_eqS {f N n0 : Nat} {k : List Item} {T : Env} {H : AHeap} {R : AV → AHeap → Prop} (ops : Array Oper) {i d x y : Nat} {ty uy : TypeId} {is : List Nat} {pos : String} {af : Array Edge} {gd : Option (Nat × Bool)} {s : Prop} {l h : Int} {T1 : Env}
    (ho : ops[i]? = some { dst := some d, op := .binOp .eql 24 (.tmp x) (.tmp y) uy, type := ty, pos := pos, after := af, guard := gd })
    (hg : guardM ops.toList T gd = some none) (hx : getM T x = some (spV s l h)) (hy : getM T y = some (.agg [.bool false, .int .i64 0, .int .i64 0]))
    (hd : dstM N (some d) (.pr (¬ s ∧ l = 0 ∧ h = 0)) T = some T1) (hn : AGo Tryd.prog f N n0 (.inRegion ops is :: k) T1 H R) : AGo Tryd.prog f N n0 (.inRegion ops (i :: is) :: k) T H R := by
  refine AGo.op ops ho hd (fun FM β a _ hr => guardM_yes (o := { dst := some d, op := .binOp .eql 24 (.tmp x) (.tmp y) uy, type := ty, pos := pos, after := af, guard := gd }) hg hr) (fun FM β a w hr hh => ?_) hn
  rw [exec_binOp]
  refine SimV.yields ?_
  have vx : VR FM β (spV s l h) (a.eval (.tmp x)) := hr x _ hx
  have vy : VR FM β (.agg [.bool false, .int .i64 0, .int .i64 0]) (a.eval (.tmp y)) := hr y _ hy
  obtain ⟨b, hb, e1⟩ : ∃ b : Bool, (b = true ↔ s) ∧ a.eval (.tmp x) = .agg #[.bool b, .int .i64 l, .int .i64 h] := by
    obtain ⟨c1, c2, c3, e, g1, g2, g3⟩ := vr_agg3 vx
    cases g1 with
    | pr hb =>
      cases g2; cases g3
      exact ⟨_, hb, e⟩
  have e2 : a.eval (.tmp y) = .agg #[.bool false, .int .i64 0, .int .i64 0] := by
    obtain ⟨c1, c2, c3, e, g1, g2, g3⟩ := vr_agg3 vy
    cases g1; cases g2; cases g3
    exact e
  rw [e1, e2]
  refine SimV.same (cv := .bool (b == false && l == 0 && h == 0)) ?_ (.pr ?_) hh
  · simp [eqS_guard, binOp, eqS_run]
  · rw [← hb]; cases b <;> simp
end Pf
/- Spans: which are ok -/
namespace Pf
open Go Go.Proofs
theorem pairOk_w {w lo hi : Int} (h : pairOk w lo hi) : w = 32 ∨ w = 64 := h.1.1
theorem implSpanOk_ok (w : Int) (s : Prop) (lo hi : Int) : AFunP Tryd.prog 112 [.int .i64 w, spV s lo hi] (· = .pr (spanOk w s lo hi)) := by
  refine afun_of Tryd.func112 Tryd.call112 rfl Tryd.ntmps112 rfl ?_
  have W : Walk Tryd.prog TT 112 _ := Walk.of TT_ok Tryd.func112 Tryd.results112
  refine ce W 0 rfl rfl (formatOf_ok w) rfl ?_
  refine sp W 0 rfl rfl rfl (fun h1 => ?_) (fun h1 => ?_)
  · refine sp W 0 rfl rfl rfl (fun h2 => ?_) (fun h2 => ?_)
    · refine ce W 0 rfl rfl (implPairOk_ok w lo hi) rfl ?_
      refine sp W 0 rfl rfl rfl (fun h3 => ?_) (fun h3 => ?_)
      · refine rp W 0 rfl rfl rfl (.yes ⟨h1, .inl ⟨h2, h3⟩⟩)
      · refine go_stop W 0 300 (cs := []) rfl trivial ?_
        refine go_eqS _ (d := 28) (x := 26) (y := 27) (s := s) (l := lo) (h := hi) rfl rfl rfl rfl rfl ?_
        refine rp W 0 rfl rfl rfl (.pr ⟨fun h => absurd h2 h.1, fun h => absurd (h.2.resolve_right (fun k => k.1 h2)).2 h3⟩)
    · refine go_stop W 0 300 (cs := []) rfl trivial ?_
      refine go_eqS _ (d := 28) (x := 26) (y := 27) (s := s) (l := lo) (h := hi) rfl rfl rfl rfl rfl ?_
      refine rp W 0 rfl rfl rfl (.pr ⟨fun h => ⟨h1, .inr h⟩, fun h => h.2.resolve_left (fun k => h2 k.1)⟩)
  · refine rp W 0 rfl rfl rfl (.no (fun h => h1 h.1))
theorem l9Pair_ok (s : Prop) (lo hi : Int) : AFunP Tryd.prog 122 [spV s lo hi] (· = .agg [.int .i64 lo, .int .i64 hi]) := by
  refine afun_of Tryd.func122 Tryd.call122 rfl Tryd.ntmps122 rfl ?_
  have W : Walk Tryd.prog TT 122 _ := Walk.of TT_ok Tryd.func122 Tryd.results122
  refine rp W 0 rfl rfl rfl (.refl)
theorem specSpanOk_ok (w : Int) (s : Prop) (lo hi : Int) : AFunP Tryd.prog 109 [.int .i64 w, spV s lo hi] (· = .pr (spanOk w s lo hi)) := by
  refine afun_of Tryd.func109 Tryd.call109 rfl Tryd.ntmps109 rfl ?_
  have W : Walk Tryd.prog TT 109 _ := Walk.of TT_ok Tryd.func109 Tryd.results109
  refine sp W 0 rfl rfl rfl (fun h1 => ?_) (fun h1 => ?_)
  · refine ce W 0 rfl rfl (l1Width_ok w) rfl ?_
    refine sp W 0 rfl rfl rfl (fun h2 => ?_) (fun h2 => ?_)
    · refine sp W 0 rfl rfl rfl (fun h3 => ?_) (fun h3 => ?_)
      · refine rp W 0 rfl rfl rfl (.pr ⟨fun h => ⟨h2, .inr ⟨h1, h3, h⟩⟩, fun h => (h.2.resolve_left (fun k => h1 k.1)).2.2⟩)
      · refine rp W 0 rfl rfl rfl (.no (fun h => h3 (h.2.resolve_left (fun k => h1 k.1)).2.1))
    · refine rp W 0 rfl rfl rfl (.no (fun h => h2 h.1))
  · refine ce W 0 rfl rfl (l9Pair_ok s lo hi) rfl ?_
    refine ce W 0 rfl rfl (specPairOk_ok w lo hi) rfl ?_
    refine rp W 0 rfl rfl rfl (.pr ⟨fun h => ⟨h.1.1, .inl ⟨Classical.not_not.1 h1, h⟩⟩, fun h => (h.2.resolve_right (fun k => k.1 (Classical.not_not.1 h1))).2⟩)
theorem l9Both_ok (w : Int) (s : Prop) (a b : Int) (t : Prop) (c d : Int) : AFunP Tryd.prog 52 [.int .i64 w, spV s a b, spV t c d] (· = .pr ((s ∧ t) ∧ pairOk w a b ∧ pairOk w c d)) := by
  refine afun_of Tryd.func52 Tryd.call52 rfl Tryd.ntmps52 rfl ?_
  have W : Walk Tryd.prog TT 52 _ := Walk.of TT_ok Tryd.func52 Tryd.results52
  refine ce W 0 rfl rfl (specSpanOk_ok w s a b) rfl ?_
  refine sp W 0 rfl rfl rfl (fun h1 => ?_) (fun h1 => ?_)
  · refine ce W 0 rfl rfl (specSpanOk_ok w t c d) rfl ?_
    refine sp W 0 rfl rfl rfl (fun h2 => ?_) (fun h2 => ?_)
    · refine sp W 0 rfl rfl rfl (fun h3 => ?_) (fun h3 => ?_)
      · refine rp W 0 rfl rfl rfl (.pr ⟨fun h => ⟨⟨h3, h⟩, (h1.2.resolve_right (fun k => k.1 h3)).2, (h2.2.resolve_right (fun k => k.1 h)).2⟩, fun h => h.1.2⟩)
      · refine rp W 0 rfl rfl rfl (.no (fun h => h3 h.1.1))
    · refine rp W 0 rfl rfl rfl (.no (fun h => h2 ⟨h.2.2.1.1, .inl ⟨h.1.2, h.2.2⟩⟩))
  · refine rp W 0 rfl rfl rfl (.no (fun h => h1 ⟨h.2.1.1.1, .inl ⟨h.1.1, h.2.1⟩⟩))
theorem toSpan_ok (s : Prop) (lo hi : Int) : AFunP Tryd.prog 16 [spV s lo hi] (· = spV s lo hi) := by
  refine afun_of Tryd.func16 Tryd.call16 rfl Tryd.ntmps16 rfl ?_
  have W : Walk Tryd.prog TT 16 _ := Walk.of TT_ok Tryd.func16 Tryd.results16
  refine rp W 0 rfl rfl rfl (.refl)
theorem eqSpan_ok (s : Prop) (a b : Int) (t : Prop) (c d : Int) : AFunP Tryd.prog 18 [spV s a b, spV t c d] (· = .pr ((s ↔ t) ∧ a = c ∧ b = d)) := by
  refine afun_of Tryd.func18 Tryd.call18 rfl Tryd.ntmps18 rfl ?_
  have W : Walk Tryd.prog TT 18 _ := Walk.of TT_ok Tryd.func18 Tryd.results18
  refine sp W 0 rfl rfl rfl (fun h1 => ?_) (fun h1 => ?_)
  · refine rp W 0 rfl rfl rfl (.no (fun h => h1 h.1))
  refine sp W 0 rfl rfl rfl (fun h2 => ?_) (fun h2 => ?_)
  · refine rp W 0 rfl rfl rfl (.no (fun h => h2 h.2.1))
  refine sp W 0 rfl rfl rfl (fun h3 => ?_) (fun h3 => ?_)
  · refine rp W 0 rfl rfl rfl (.no (fun h => h3 h.2.2))
  refine rp W 0 rfl rfl rfl (.yes ⟨Classical.not_not.1 h1, Classical.not_not.1 h2, Classical.not_not.1 h3⟩)
end Pf
/- Spans: full ones, the other sign -/
namespace Pf
open Go Go.Proofs
/-- A span that is ok and not empty. -/
def fullS (w : Int) (a : Prop × Int × Int) : Prop := a.1 ∧ pairOk w a.2.1 a.2.2
theorem fullS_iff {w : Int} {a : Prop × Int × Int} : fullS w a ↔ a.1 ∧ spanOk w a.1 a.2.1 a.2.2 :=
  ⟨fun h => ⟨h.1, pairOk_w h.2, .inl h⟩, fun h => ⟨h.1, (h.2.2.resolve_right (fun k => k.1 h.1)).2⟩⟩
theorem full_ok (w : Int) (l : List (Prop × Int × Int)) (hl : l.length ≤ 1000) : AFunP Tryd.prog 57 [.int .i64 w, .fz l.length fun i => [.pr (l.getD i (False, 0, 0)).1, .int .i64 (l.getD i (False, 0, 0)).2.1, .int .i64 (l.getD i (False, 0, 0)).2.2]] (· = .pr (∀ a ∈ l, fullS w a)) := by
  refine afun_of Tryd.func57 Tryd.call57 rfl Tryd.ntmps57 rfl ?_
  have W : Walk Tryd.prog TT 57 _ := Walk.of TT_ok Tryd.func57 Tryd.results57
  refine lp W 0 (σ := Nat) (fun i => [(0, .int .i64 w), (7, .fz l.length fun i => [.pr (l.getD i (False, 0, 0)).1, .int .i64 (l.getD i (False, 0, 0)).2.1, .int .i64 (l.getD i (False, 0, 0)).2.2]), (8, .int .i64 l.length), (9, .int .i64 i)]) (fun _ => []) (fun i => l.length - i)
    (fun i => i ≤ l.length ∧ ∀ j, j < i → fullS w (l.getD j (False, 0, 0))) 0 [0, 7, 8, 9] rfl rfl rfl ⟨Nat.zero_le _, fun j hj => by omega⟩ ?_
  rintro i ⟨hi, he⟩ ih
  refine sp W 0 rfl rfl rfl (fun h1 => ?_) (fun h1 => ?_)
  · have h1 : i < l.length := by omega
    have hm := getD_mem (d := (False, 0, 0)) h1
    have key : ∀ h2 : fullS w (l.getD i (False, 0, 0)), ∀ j, j < i + 1 → fullS w (l.getD j (False, 0, 0)) := fun h2 j hj => by
      by_cases hji : j = i
      · subst hji; exact h2
      · exact he j (by omega)
    refine sp W 0 rfl rfl rfl (fun h2 => ?_) (fun h2 => ?_)
    · refine rp W 0 rfl rfl rfl (.no (fun h => h2 (h _ hm).1))
    · refine ce W 0 rfl rfl (implSpanOk_ok w _ (l.getD i (False, 0, 0)).2.1 (l.getD i (False, 0, 0)).2.2) rfl ?_
      refine sp W 0 rfl rfl rfl (fun h3 => ?_) (fun h3 => ?_)
      · refine rp W 0 rfl rfl rfl (.no (fun h => h3 (fullS_iff.1 (h _ hm)).2))
      · refine bd W 0 0 [0, 7, 8, 9] rfl rfl rfl rfl rfl (ih (i + 1) ⟨by omega, key (fullS_iff.2 ⟨Classical.not_not.1 h2, Classical.not_not.1 h3⟩)⟩ (by omega))
  · have hil : i = l.length := by omega
    refine rp W 0 rfl rfl rfl (.yes (fun a ha => by obtain ⟨j, hj, rfl⟩ := mem_getD (False, 0, 0) ha; exact he j (by omega)))
abbrev spA (x : Prop × Int × Int) : AV := spV x.1 x.2.1 x.2.2
abbrev noS : Prop × Int × Int := (False, 0, 0)
open Classical in
noncomputable def negS' (w : Int) (x : Prop × Int × Int) : Prop × Int × Int := if fullS w x then (True, -x.2.2, -x.2.1) else noS
theorem sub_noS : Sub (.agg [.bool false, .int .i64 0, .int .i64 0]) (spA noS) := .agg ⟨.no id, .refl, .refl, trivial⟩
theorem l9Of_ok (a b : Int) : AFunP Tryd.prog 56 [.int .i64 a, .int .i64 b] (· = spA (True, a, b)) := by
  refine afun_of Tryd.func56 Tryd.call56 rfl Tryd.ntmps56 rfl ?_
  have W : Walk Tryd.prog TT 56 _ := Walk.of TT_ok Tryd.func56 Tryd.results56
  refine rp W 0 rfl rfl rfl (.agg ⟨.yes trivial, .refl, .refl, trivial⟩)
theorem some_ok (a b : Int) : AFunP Tryd.prog 61 [.int .i64 a, .int .i64 b] (· = spA (True, a, b)) := by
  refine afun_of Tryd.func61 Tryd.call61 rfl Tryd.ntmps61 rfl ?_
  have W : Walk Tryd.prog TT 61 _ := Walk.of TT_ok Tryd.func61 Tryd.results61
  refine rp W 0 rfl rfl rfl (.agg ⟨.yes trivial, .refl, .refl, trivial⟩)
theorem specNeg_ok (w : Int) (s : Prop) (a b : Int) : AFunP Tryd.prog 65 [.int .i64 w, spV s a b] (· = spA (negS' w (s, a, b))) := by
  refine afun_of Tryd.func65 Tryd.call65 rfl Tryd.ntmps65 rfl ?_
  have W : Walk Tryd.prog TT 65 _ := Walk.of TT_ok Tryd.func65 Tryd.results65
  have hf := fullS_iff (w := w) (a := (s, a, b))
  refine ce W 0 rfl rfl (specSpanOk_ok w s a b) rfl ?_
  refine sp W 0 rfl rfl rfl (fun h1 => ?_) (fun h1 => ?_)
  · unfold negS'
    rw [if_neg (fun k => h1 (hf.1 k).2)]
    refine rp W 0 rfl rfl rfl (sub_noS)
  · refine sp W 0 rfl rfl rfl (fun h2 => ?_) (fun h2 => ?_)
    · unfold negS'
      rw [if_neg (fun k => h2 (hf.1 k).1)]
      refine rp W 0 rfl rfl rfl (sub_noS)
    · have hk := hf.2 ⟨Classical.not_not.1 h2, Classical.not_not.1 h1⟩
      have hr := pairOk_rng hk.2
      dsimp only at hr
      unfold negS'
      rw [if_pos hk]
      refine ce W 0 rfl rfl (l9Of_ok (-b) (-a)) rfl ?_
      refine rp W 0 rfl rfl rfl (.refl)
end Pf
/- Spans: impl's hulls and meets -/
namespace Pf
open Go Go.Proofs
def spR (x : Prop × Int × Int) : List AV := [.pr x.1, .int .i64 x.2.1, .int .i64 x.2.2]
theorem full1_ok (w : Int) (x : Prop × Int × Int) : AFunP Tryd.prog 57 [.int .i64 w, .fz 1 fun i => [spR x].getD i []] (· = .pr (fullS w x)) := by
  have h := full_ok w [x] (by simp)
  have h2 : AFunP Tryd.prog 57 [.int .i64 w, .fz 1 fun i => [spR x].getD i []] _ := AFun.sub h ⟨.refl, .fzn rfl fun i hi => by
    obtain rfl : i = 0 := by omega
    rfl, trivial⟩
  refine h2.mono fun v hv => ?_
  rw [hv]; simp
theorem full2_ok (w : Int) (x y : Prop × Int × Int) : AFunP Tryd.prog 57 [.int .i64 w, .fz 2 fun i => [spR x, spR y].getD i []] (· = .pr (fullS w x ∧ fullS w y)) := by
  have h := full_ok w [x, y] (by simp)
  have h2 : AFunP Tryd.prog 57 [.int .i64 w, .fz 2 fun i => [spR x, spR y].getD i []] _ := AFun.sub h ⟨.refl, .fzn rfl fun i hi => by
    rcases (by omega : i = 0 ∨ i = 1) with rfl | rfl <;> rfl, trivial⟩
  refine h2.mono fun v hv => ?_
  rw [hv]; simp
theorem full3_ok (w : Int) (x y z : Prop × Int × Int) : AFunP Tryd.prog 57 [.int .i64 w, .fz 3 fun i => [spR x, spR y, spR z].getD i []] (· = .pr (fullS w x ∧ fullS w y ∧ fullS w z)) := by
  have h := full_ok w [x, y, z] (by simp)
  have h2 : AFunP Tryd.prog 57 [.int .i64 w, .fz 3 fun i => [spR x, spR y, spR z].getD i []] _ := AFun.sub h ⟨.refl, .fzn rfl fun i hi => by
    rcases (by omega : i = 0 ∨ i = 1 ∨ i = 2) with rfl | rfl | rfl <;> rfl, trivial⟩
  refine h2.mono fun v hv => ?_
  rw [hv]; simp
theorem implNeg_ok (w : Int) (x : Prop × Int × Int) : AFunP Tryd.prog 66 [.int .i64 w, spA x] (· = spA (negS' w x)) := by
  refine afun_of Tryd.func66 Tryd.call66 rfl Tryd.ntmps66 rfl ?_
  have W : Walk Tryd.prog TT 66 _ := Walk.of TT_ok Tryd.func66 Tryd.results66
  refine cf W 0 [2] [0, 1, 3, 4] rfl rfl rfl rfl rfl rfl (full1_ok w x) rfl ?_
  refine sp W 0 rfl rfl rfl (fun h1 => ?_) (fun h1 => ?_)
  · unfold negS'
    rw [if_neg h1]
    refine rp W 0 rfl rfl rfl (sub_noS)
  · have h1 := Classical.not_not.1 h1
    have hr := pairOk_rng h1.2
    unfold negS'
    rw [if_pos h1]
    refine ce W 0 rfl rfl (some_ok (-x.2.2) (-x.2.1)) rfl ?_
    refine rp W 0 rfl rfl rfl (.refl)
open Classical in
/-- The least span around both. -/
noncomputable def hullS (w : Int) (x y : Prop × Int × Int) : Prop × Int × Int :=
  if spanOk w x.1 x.2.1 x.2.2 ∧ spanOk w y.1 y.2.1 y.2.2 then (if x.1 then (if y.1 then (True, min x.2.1 y.2.1, max x.2.2 y.2.2) else x) else y) else noS
theorem implHull_ok (w : Int) (x y : Prop × Int × Int) : AFunP Tryd.prog 100 [.int .i64 w, spA x, spA y] (· = spA (hullS w x y)) := by
  refine afun_of Tryd.func100 Tryd.call100 rfl Tryd.ntmps100 rfl ?_
  have W : Walk Tryd.prog TT 100 _ := Walk.of TT_ok Tryd.func100 Tryd.results100
  unfold hullS
  refine ce W 0 rfl rfl (implSpanOk_ok w x.1 x.2.1 x.2.2) rfl ?_
  refine sp W 0 rfl rfl rfl (fun h1 => ?_) (fun h1 => ?_)
  · rw [if_neg (fun k => h1 k.1)]
    refine rp W 0 rfl rfl rfl (sub_noS)
  · have h1 := Classical.not_not.1 h1
    refine ce W 0 rfl rfl (implSpanOk_ok w y.1 y.2.1 y.2.2) rfl ?_
    refine sp W 0 rfl rfl rfl (fun h2 => ?_) (fun h2 => ?_)
    · rw [if_neg (fun k => h2 k.2)]
      refine rp W 0 rfl rfl rfl (sub_noS)
    · rw [if_pos ⟨h1, Classical.not_not.1 h2⟩]
      refine sp W 0 rfl rfl rfl (fun h3 => ?_) (fun h3 => ?_)
      · rw [if_neg h3]
        refine rp W 0 rfl rfl rfl (.refl)
      · rw [if_pos (Classical.not_not.1 h3)]
        refine sp W 0 rfl rfl rfl (fun h4 => ?_) (fun h4 => ?_)
        · rw [if_neg h4]
          refine rp W 0 rfl rfl rfl (.refl)
        · rw [if_pos (Classical.not_not.1 h4)]
          refine ce W 0 rfl rfl (some_ok (min x.2.1 y.2.1) (max x.2.2 y.2.2)) rfl ?_
          refine rp W 0 rfl rfl rfl (.refl)
open Classical in
/-- What both spans have. -/
noncomputable def meetS (w : Int) (x y : Prop × Int × Int) : Prop × Int × Int :=
  if fullS w x ∧ fullS w y ∧ pairOk w (max x.2.1 y.2.1) (min x.2.2 y.2.2) then (True, max x.2.1 y.2.1, min x.2.2 y.2.2) else noS
theorem implMeet_ok (w : Int) (x y : Prop × Int × Int) : AFunP Tryd.prog 70 [.int .i64 w, spA x, spA y] (· = spA (meetS w x y)) := by
  refine afun_of Tryd.func70 Tryd.call70 rfl Tryd.ntmps70 rfl ?_
  have W : Walk Tryd.prog TT 70 _ := Walk.of TT_ok Tryd.func70 Tryd.results70
  unfold meetS
  refine cf W 0 [3] [0, 1, 2, 4, 5, 6] rfl rfl rfl rfl rfl rfl (full2_ok w x y) rfl ?_
  refine sp W 0 rfl rfl rfl (fun h1 => ?_) (fun h1 => ?_)
  · rw [if_neg (fun k => h1 ⟨k.1, k.2.1⟩)]
    refine rp W 0 rfl rfl rfl (sub_noS)
  · have h1 := Classical.not_not.1 h1
    refine ce W 0 rfl rfl (some_ok (max x.2.1 y.2.1) (min x.2.2 y.2.2)) rfl ?_
    refine ce W 0 rfl rfl (implSpanOk_ok w True (max x.2.1 y.2.1) (min x.2.2 y.2.2)) rfl ?_
    refine sp W 0 rfl rfl rfl (fun h2 => ?_) (fun h2 => ?_)
    · rw [if_neg (fun k => h2 ⟨pairOk_w k.2.2, .inl ⟨trivial, k.2.2⟩⟩)]
      refine rp W 0 rfl rfl rfl (sub_noS)
    · have h2 := Classical.not_not.1 h2
      rw [if_pos ⟨h1.1, h1.2, (h2.2.resolve_right (fun k => k.1 trivial)).2⟩]
      refine rp W 0 rfl rfl rfl (.refl)
end Pf
/- Bounds: limitOf -/
namespace Pf
open Go Go.Proofs
/-- A bound: none (of a sign), or a number. -/
noncomputable def limV (l : Int × Rat) : AV := if l.1 = 0 then .agg [.int .i64 0, .pr (l.2 < 0), .fi .i64 (dt l.2), .fi .i64 (db l.2)] else .agg [.int .i64 l.1, .pr False, .fi .i64 [], .fi .i64 []]
noncomputable def limW (w n : Int) : Int × Rat := if n = top w then (1, 0) else if n = -top w then (-1, 0) else (0, vl w n)
theorem value_w (w n : Int) (hw : w = 32 ∨ w = 64) (h : n.natAbs < fT w) : AFunP Tryd.prog 76 [.int .i64 w, .int .i64 n] (· = frR (vl w n)) := by
  rcases hw with rfl | rfl
  · exact value_32 n h
  · exact value_64 n h
theorem around_w (w : Int) (hw : w = 32 ∨ w = 64) (r : Rat) (hr : mid r) : AFunP Tryd.prog 81 [.int .i64 w, frR r] (· = .tup [.int .i64 (dn w r), .int .i64 (up w r)]) := by
  rcases hw with rfl | rfl
  · exact around_32 r hr
  · exact around_64 r hr
theorem limitOf_ok (w n : Int) (hb : bitOk w n) : AFunP Tryd.prog 58 [.int .i64 w, .int .i64 n] (· = limV (limW w n)) := by
  obtain ⟨hw, hb1, hb2⟩ := hb
  have ht := top_fT hw
  have hr := top_rng w
  have hp : 0 < fT w := by rcases hw with rfl | rfl <;> decide
  refine afun_of Tryd.func58 Tryd.call58 rfl Tryd.ntmps58 rfl ?_
  have W : Walk Tryd.prog TT 58 _ := Walk.of TT_ok Tryd.func58 Tryd.results58
  refine ce W 0 rfl rfl (implBitTop_ok w) rfl ?_
  refine sp W 0 rfl rfl rfl (fun h1 => ?_) (fun h1 => ?_)
  · rw [show limV (limW w n) = .agg [.int .i64 1, .pr False, .fi .i64 [], .fi .i64 []] by rw [limW, if_pos h1]; rfl]
    refine rp W 0 rfl rfl rfl (.agg ⟨.refl, .no id, .nils_fi, .nils_fi, trivial⟩)
  · refine sp W 0 rfl rfl rfl (fun h2 => ?_) (fun h2 => ?_)
    · rw [show limV (limW w n) = .agg [.int .i64 (-1), .pr False, .fi .i64 [], .fi .i64 []] by rw [limW, if_neg h1, if_pos h2]; rfl]
      refine rp W 0 rfl rfl rfl (.agg ⟨.refl, .no id, .nils_fi, .nils_fi, trivial⟩)
    · rw [show limV (limW w n) = .agg [.int .i64 0, .pr (vl w n < 0), .fi .i64 (dt (vl w n)), .fi .i64 (db (vl w n))] by rw [limW, if_neg h1, if_neg h2]; rfl]
      refine ce W 0 rfl rfl (value_w w n hw (by omega)) rfl ?_
      refine rp W 0 rfl rfl rfl (.refl)
end Pf
/- impl's arithmetic of fractions as Rat -/
namespace Pf
open Go Go.Proofs
theorem mk_R (r : Rat) : mkRat (sg (r < 0) r.num.natAbs) r.den = r := by rw [sg_num]; exact Rat.mkRat_self r
theorem mulR_ok (r s : Rat) (hr : mid r) (hs : mid s) : AFunP Tryd.prog 115 [frR r, frR s] (· = frR (r * s)) := by
  have k := mul_ok (r < 0) (s < 0) r.num.natAbs r.den s.num.natAbs s.den r.den_nz s.den_nz hr.1 hr.2 hs.1 hs.2
  have e := frF_low (p := ¬ (r < 0 ↔ s < 0)) (a := r.num.natAbs * s.num.natAbs) (b := r.den * s.den) (r := r * s) (Nat.mul_ne_zero r.den_nz s.den_nz) (by
    rw [sg_mul, ← Rat.mkRat_mul_mkRat, mk_R, mk_R])
  rw [lT, lB] at e
  rw [e] at k
  exact k
theorem addR_ok (r s : Rat) (hr : mid r) (hs : mid s) : AFunP Tryd.prog 64 [frR r, frR s] (· = frR (r + s)) := by
  have k := add_ok (r < 0) (s < 0) r.num.natAbs r.den s.num.natAbs s.den r.den_nz s.den_nz hr.1 hr.2 hs.1 hs.2
  have e := frF_low (p := sumP (r < 0) (s < 0) (r.num.natAbs * s.den) (s.num.natAbs * r.den)) (a := sumT (r < 0) (s < 0) (r.num.natAbs * s.den) (s.num.natAbs * r.den)) (b := r.den * s.den) (r := r + s) (Nat.mul_ne_zero r.den_nz s.den_nz) (by
    rw [sg_sum, sg_mul_nat, sg_mul_nat, ← Rat.mkRat_add_mkRat _ _ r.den_nz s.den_nz, mk_R, mk_R])
  rw [lT, lB] at e
  rw [e] at k
  exact k
theorem signR_ok (r : Rat) (hr : mid r) : AFunP Tryd.prog 137 [frR r] (· = .int .i64 (fsgn (r < 0) (dt r))) := sign_ok (r < 0) (dt r) (db r) (by have := hr.1; omega)
theorem divR_ok (r s : Rat) (hr : mid r) (hs : mid s) (h0 : s ≠ 0) : AFunP Tryd.prog 167 [frR r, frR s] (· = frR (r / s)) := by
  have hn : s.num.natAbs ≠ 0 := fun h => h0 (Rat.num_eq_zero.1 (by omega))
  have k := div_ok (r < 0) (s < 0) r.num.natAbs r.den s.num.natAbs s.den r.den_nz hn hr.1 hr.2 hs.1 hs.2
  have e := frF_low (p := ¬ (r < 0 ↔ s < 0)) (a := r.num.natAbs * s.den) (b := r.den * s.num.natAbs) (r := r / s) (Nat.mul_ne_zero r.den_nz hn) (by
    rw [show r / s = mkRat (sg (r < 0) r.num.natAbs) r.den / mkRat (sg (s < 0) s.num.natAbs) s.den by rw [mk_R, mk_R]]
    rw [Rat.div_def, ← Rat.divInt_ofNat, ← Rat.divInt_ofNat, ← Rat.divInt_ofNat, Rat.inv_divInt, Rat.divInt_mul_divInt]
    by_cases hq : s < 0
    · have e1 : sg (s < 0) s.num.natAbs = -((s.num.natAbs : Nat) : Int) := sg_yes hq
      have e2 : sg (¬ (r < 0 ↔ s < 0)) (r.num.natAbs * s.den) = -(sg (r < 0) r.num.natAbs * (s.den : Int)) := by by_cases hp : r < 0 <;> simp [sg, hp, hq, Int.neg_mul]
      rw [e1, e2, Int.mul_neg, ← Rat.neg_divInt_neg, Int.neg_neg]
      simp only [Int.natCast_mul, Int.neg_neg]
    · have e1 : sg (s < 0) s.num.natAbs = ((s.num.natAbs : Nat) : Int) := sg_no hq
      have e2 : sg (¬ (r < 0 ↔ s < 0)) (r.num.natAbs * s.den) = sg (r < 0) r.num.natAbs * (s.den : Int) := by by_cases hp : r < 0 <;> simp [sg, hp, hq, Int.neg_mul]
      rw [e1, e2]
      simp only [Int.natCast_mul])
  rw [lT, lB] at e
  rw [e] at k
  exact k
end Pf
/- Bounds: sign, floats -/
namespace Pf
open Go Go.Proofs
theorem limV_fin (r : Rat) : limV (0, r) = .agg [.int .i64 0, .pr (r < 0), .fi .i64 (dt r), .fi .i64 (db r)] := rfl
theorem limV_inf {i : Int} (h : i ≠ 0) (r : Rat) : limV (i, r) = .agg [.int .i64 i, .pr False, .fi .i64 [], .fi .i64 []] := if_neg h
theorem limV_eq (l : Int × Rat) : limV l = .agg [.int .i64 l.1, .pr (l.1 = 0 ∧ l.2 < 0), .fi .i64 (if l.1 = 0 then dt l.2 else []), .fi .i64 (if l.1 = 0 then db l.2 else [])] := by
  unfold limV
  by_cases h : l.1 = 0 <;> simp [h]
noncomputable def lsgn (l : Int × Rat) : Int := if l.1 = 0 then fsgn (l.2 < 0) (dt l.2) else l.1
theorem lsign_ok (l : Int × Rat) (h : l.1 = 0 → mid l.2) : AFunP Tryd.prog 113 [limV l] (· = .int .i64 (lsgn l)) := by
  obtain ⟨i, r⟩ := l
  by_cases hi : i = 0
  · subst hi
    rw [limV_fin, show lsgn (0, r) = fsgn (r < 0) (dt r) from if_pos rfl]
    refine afun_of Tryd.func113 Tryd.call113 rfl Tryd.ntmps113 rfl ?_
    have W : Walk Tryd.prog TT 113 _ := Walk.of TT_ok Tryd.func113 Tryd.results113
    refine sp W 0 rfl rfl rfl (fun h1 => ?_) (fun h1 => ?_)
    · exact absurd rfl h1
    · refine ce W 0 rfl rfl (signR_ok r (h rfl)) rfl ?_
      refine rp W 0 rfl rfl rfl (.refl)
  · rw [limV_inf hi, show lsgn (i, r) = i from if_neg hi]
    refine afun_of Tryd.func113 Tryd.call113 rfl Tryd.ntmps113 rfl ?_
    have W : Walk Tryd.prog TT 113 _ := Walk.of TT_ok Tryd.func113 Tryd.results113
    refine sp W 0 rfl rfl rfl (fun h1 => ?_) (fun h1 => ?_)
    · refine rp W 0 rfl rfl rfl (.refl)
    · exact absurd h1 (by simpa using hi)
noncomputable def lflo (w : Int) (l : Int × Rat) : Int × Int := if l.1 = 0 then (dn w l.2, up w l.2) else (l.1 * top w, l.1 * top w)
theorem lfloats_ok (w : Int) (hw : w = 32 ∨ w = 64) (l : Int × Rat) (h : l.1 = 0 → mid l.2) (h2 : -1 ≤ l.1 ∧ l.1 ≤ 1) : AFunP Tryd.prog 60 [limV l, .int .i64 w] (· = .tup [.int .i64 (lflo w l).1, .int .i64 (lflo w l).2]) := by
  obtain ⟨i, r⟩ := l
  dsimp only at h h2
  by_cases hi : i = 0
  · subst hi
    rw [limV_fin, show lflo w (0, r) = (dn w r, up w r) from if_pos rfl]
    refine afun_of Tryd.func60 Tryd.call60 rfl Tryd.ntmps60 rfl ?_
    have W : Walk Tryd.prog TT 60 _ := Walk.of TT_ok Tryd.func60 Tryd.results60
    refine sp W 0 rfl rfl rfl (fun h1 => ?_) (fun h1 => ?_)
    · exact absurd rfl h1
    · refine ce W 0 rfl rfl (around_w w hw r (h rfl)) rfl ?_
      refine rp W 0 rfl rfl rfl (.refl)
  · rw [limV_inf hi, show lflo w (i, r) = (i * top w, i * top w) from if_neg hi]
    have ht := top_rng w
    refine afun_of Tryd.func60 Tryd.call60 rfl Tryd.ntmps60 rfl ?_
    have W : Walk Tryd.prog TT 60 _ := Walk.of TT_ok Tryd.func60 Tryd.results60
    refine sp W 0 rfl rfl rfl (fun h1 => ?_) (fun h1 => ?_)
    · have e : i = 1 ∨ i = -1 := by omega
      rcases e with rfl | rfl
      · refine dre W 0 11 [] [.int .i64 (top w), .int .i64 (top w)] rfl rfl rfl ⟨(implBitTop_ok w).at rfl _, (implBitTop_ok w).at rfl _, trivial⟩ rfl ?_
        refine rp W 0 rfl rfl rfl (.refl)
      · refine dre W 0 11 [] [.int .i64 (top w), .int .i64 (top w)] rfl rfl rfl ⟨(implBitTop_ok w).at rfl _, (implBitTop_ok w).at rfl _, trivial⟩ rfl ?_
        refine rp W 0 rfl rfl rfl (.refl)
    · exact absurd h1 (by simpa using hi)
end Pf
/- Bounds: times -/
namespace Pf
open Go Go.Proofs
theorem lsgn_cases (l : Int × Rat) (h2 : -1 ≤ l.1 ∧ l.1 ≤ 1) : lsgn l = -1 ∨ lsgn l = 0 ∨ lsgn l = 1 := by
  unfold lsgn fsgn
  split <;> (try split) <;> (try split) <;> omega
theorem lsgn_mul (l m : Int × Rat) (h2 : -1 ≤ l.1 ∧ l.1 ≤ 1) (h3 : -1 ≤ m.1 ∧ m.1 ≤ 1) : -1 ≤ lsgn l * lsgn m ∧ lsgn l * lsgn m ≤ 1 := by
  rcases lsgn_cases l h2 with h | h | h <;> rcases lsgn_cases m h3 with k | k | k <;> rw [h, k] <;> decide
theorem zeroR : frR 0 = frF False [] [1] := by
  have h := frF_low (p := False) (a := 0) (b := 1) (r := 0) (by decide) (by rw [sg_zero]; exact Rat.zero_mkRat 1)
  rw [← h]
  have e : lT 0 1 = [] := by rw [(lT_one 0).1]; exact dig_nil.2 rfl
  rw [e, (lT_one 0).2]
  congr 1
  simp
theorem whole0_ok : AFunP Tryd.prog 114 [.bool false, .nils] (· = frF False [] [1]) := by
  refine afun_of Tryd.func114 Tryd.call114 rfl Tryd.ntmps114 rfl ?_
  have W : Walk Tryd.prog TT 114 _ := Walk.of TT_ok Tryd.func114 Tryd.results114
  refine rp W 0 rfl rfl rfl (.agg ⟨.no id, .nils_fi, .refl, trivial⟩)
theorem limV_zero : limV (0, 0) = .agg [.int .i64 0, .pr False, .fi .i64 [], .fi .i64 [1]] := by
  rw [limV_fin]
  have h := zeroR
  unfold frR frF at h
  injection h with h
  injection h with h1 h2
  injection h2 with h2 h3
  injection h3 with h3 h4
  rw [h1, h2, h3]
noncomputable def ltimes (l m : Int × Rat) : Int × Rat := if l.1 = 0 ∧ m.1 = 0 then (0, l.2 * m.2) else (lsgn l * lsgn m, 0)
theorem ltimes_ok (l m : Int × Rat) (hl : l.1 = 0 → mid l.2) (hm : m.1 = 0 → mid m.2) (h2 : -1 ≤ l.1 ∧ l.1 ≤ 1) (h3 : -1 ≤ m.1 ∧ m.1 ≤ 1) : AFunP Tryd.prog 59 [limV l, limV m] (· = limV (ltimes l m)) := by
  have sl := lsign_ok l hl
  have sm := lsign_ok m hm
  rw [limV_eq] at sl sm
  rw [limV_eq l, limV_eq m]
  refine afun_of Tryd.func59 Tryd.call59 rfl Tryd.ntmps59 rfl ?_
  have W : Walk Tryd.prog TT 59 _ := Walk.of TT_ok Tryd.func59 Tryd.results59
  have hb := lsgn_mul l m h2 h3
  have key : ¬ (l.1 = 0 ∧ m.1 = 0) → limV (ltimes l m) = limV (lsgn l * lsgn m, 0) := fun h => by rw [ltimes, if_neg h]
  refine sp W 0 rfl rfl rfl (fun h1 => ?_) (fun h1 => ?_)
  · rw [key (fun k => h1 k.1)]
    refine dre W 0 3 [] [.int .i64 (lsgn l)] rfl rfl rfl ⟨sl.at rfl _, trivial⟩ rfl ?_
    refine ce W 0 rfl rfl (sm) rfl ?_
    refine sp W 0 rfl rfl rfl (fun h4 => ?_) (fun h4 => ?_)
    · rw [limV_inf h4]
      refine rp W 0 rfl rfl rfl (.agg ⟨.refl, .no id, .nils_fi, .nils_fi, trivial⟩)
    · rw [Classical.not_not.1 h4, limV_zero]
      refine ce W 0 rfl rfl (whole0_ok) rfl ?_
      refine rp W 0 rfl rfl rfl (.refl)
  · have h1 := Classical.not_not.1 h1
    refine sp W 0 rfl rfl rfl (fun h5 => ?_) (fun h5 => ?_)
    · rw [key (fun k => h5 k.2)]
      refine dre W 0 3 [] [.int .i64 (lsgn l)] rfl rfl rfl ⟨sl.at rfl _, trivial⟩ rfl ?_
      refine ce W 0 rfl rfl (sm) rfl ?_
      refine sp W 0 rfl rfl rfl (fun h4 => ?_) (fun h4 => ?_)
      · rw [limV_inf h4]
        refine rp W 0 rfl rfl rfl (.agg ⟨.refl, .no id, .nils_fi, .nils_fi, trivial⟩)
      · rw [Classical.not_not.1 h4, limV_zero]
        refine ce W 0 rfl rfl (whole0_ok) rfl ?_
        refine rp W 0 rfl rfl rfl (.refl)
    · have h5 := Classical.not_not.1 h5
      have e : ltimes l m = (0, l.2 * m.2) := if_pos ⟨h1, h5⟩
      rw [e, limV_fin]
      rw [if_pos h1, if_pos h1, if_pos h5, if_pos h5, show (l.1 = 0 ∧ l.2 < 0) = (l.2 < 0) by simp [h1], show (m.1 = 0 ∧ m.2 < 0) = (m.2 < 0) by simp [h5]]
      refine ce W 0 rfl rfl (mulR_ok l.2 m.2 (hl h1) (hm h5)) rfl ?_
      refine rp W 0 rfl rfl rfl (.agg ⟨.refl, .refl, .refl, .refl, trivial⟩)
end Pf
/- Bounds: by -/
namespace Pf
open Go Go.Proofs
noncomputable def lby (l m : Int × Rat) : Int × Rat := if m.1 ≠ 0 then (0, 0) else if l.1 ≠ 0 then (l.1, 0) else (0, l.2 / m.2)
theorem lby_ok (l m : Int × Rat) (hl : l.1 = 0 → mid l.2) (hm : m.1 = 0 → mid m.2 ∧ m.2 ≠ 0) : AFunP Tryd.prog 147 [limV l, limV m] (· = limV (lby l m)) := by
  rw [limV_eq l, limV_eq m]
  refine afun_of Tryd.func147 Tryd.call147 rfl Tryd.ntmps147 rfl ?_
  have W : Walk Tryd.prog TT 147 _ := Walk.of TT_ok Tryd.func147 Tryd.results147
  refine sp W 0 rfl rfl rfl (fun h1 => ?_) (fun h1 => ?_)
  · rw [show lby l m = (0, 0) from if_pos h1, limV_zero]
    refine ce W 0 rfl rfl (whole0_ok) rfl ?_
    refine rp W 0 rfl rfl rfl (.refl)
  · have h1' := Classical.not_not.1 h1
    refine sp W 0 rfl rfl rfl (fun h2 => ?_) (fun h2 => ?_)
    · rw [show lby l m = (l.1, 0) by rw [lby, if_neg h1, if_pos h2], limV_inf h2]
      rw [if_neg h2, if_neg h2, show (l.1 = 0 ∧ l.2 < 0) = False from eq_false (fun k => h2 k.1)]
      refine rp W 0 rfl rfl rfl (.refl)
    · have h2' := Classical.not_not.1 h2
      have e : lby l m = (0, l.2 / m.2) := by rw [lby, if_neg h1, if_neg h2]
      rw [e, limV_fin]
      rw [if_pos h2', if_pos h2', if_pos h1', if_pos h1', show (l.1 = 0 ∧ l.2 < 0) = (l.2 < 0) by simp [h2'], show (m.1 = 0 ∧ m.2 < 0) = (m.2 < 0) by simp [h1']]
      refine ce W 0 rfl rfl (divR_ok l.2 m.2 (hl h2') (hm h1').1 (hm h1').2) rfl ?_
      refine rp W 0 rfl rfl rfl (.agg ⟨.refl, .refl, .refl, .refl, trivial⟩)
end Pf
