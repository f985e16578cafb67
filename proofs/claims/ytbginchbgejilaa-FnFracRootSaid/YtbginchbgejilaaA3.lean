/- Part 3 of the lemmas that the claim rests on: an abstract machine over the model, what it is sound for, and the contracts of the functions that the law reaches. -/
import Derived.Test.YtbginchbgejilaaA2
set_option linter.unusedSimpArgs false
set_option linter.unusedVariables false
set_option maxHeartbeats 4000000
/- Whole numbers: the model's own functions, simple ones. -/
namespace Pf
open Go Go.Proofs
theorem specNatOk_ok (l : List Int) (hl : l.length ≤ 9223372036854775806) : AFunP Try.prog 34 [.fi .i64 l] (· = .pr (natOk l)) := by
  refine afun_of Try.func34 Try.call34 rfl Try.ntmps34 rfl ?_
  have W : Walk Try.prog TT 34 _ := Walk.of TT_ok Try.func34 Try.results34
  refine sp W 0 rfl rfl rfl (fun h1 => ?_) (fun h1 => ?_)
  · refine rp W 0 rfl rfl rfl (.no (fun h => by have := h.1; omega))
  refine lp W 0 (σ := Nat) (fun i => [(0, .fi .i64 l), (3, .int .i64 i)]) (fun _ => []) (fun i => l.length - i) (fun i => i ≤ l.length ∧ ∀ j, j < i → 0 ≤ l.getD j 0 ∧ l.getD j 0 < 65536) 0 [0, 3] rfl rfl rfl ⟨Nat.zero_le _, fun j hj => by omega⟩ ?_
  rintro i ⟨hi, he⟩ ih
  have bad : ∀ h : i < l.length, ¬ (0 ≤ l.getD i 0 ∧ l.getD i 0 < 65536) → ¬ natOk l := fun h h2 h3 => h2 (h3.2.2 _ (getD_mem h))
  refine sp W 0 rfl rfl rfl (fun h2 => ?_) (fun h2 => ?_)
  · have h2 : i < l.length := by omega
    refine sp W 0 rfl rfl rfl (fun h3 => ?_) (fun h3 => ?_)
    · rw [Int.toNat_natCast] at h3
      refine rp W 0 rfl rfl rfl (.no (bad h2 (by omega)))
    · refine sp W 0 rfl rfl rfl (fun h4 => ?_) (fun h4 => ?_)
      · rw [Int.toNat_natCast] at h4
        refine rp W 0 rfl rfl rfl (.no (bad h2 (by omega)))
      · rw [Int.toNat_natCast] at h3 h4
        refine bk W 0 [0, 3] rfl rfl (ih (i + 1) ⟨by omega, fun j hj => ?_⟩ (by omega))
        by_cases hji : j = i
        · subst hji; omega
        · exact he j (by omega)
  · have hil : i = l.length := by omega
    subst hil
    have hd : Dgs l := dgs_of_getD he
    refine sp W 0 rfl rfl rfl (fun h3 => ?_) (fun h3 => ?_)
    · refine rp W 0 rfl rfl rfl (.yes ⟨by omega, .inl (by omega), hd⟩)
    · have e : ((l.length : Int) - 1).toNat = l.length - 1 := by omega
      refine rp W 0 rfl rfl rfl (.pr (by rw [e]; exact ⟨fun h => ⟨by omega, .inr h, hd⟩, fun h => h.2.1.resolve_left (by omega)⟩))
theorem specNatOf_ok (n : Nat) (h1 : n ≤ 18446744073709551615) : AFunP Try.prog 80 [.int .u64 n] (· = .fi .i64 (dig n)) := by
  refine afun_of Try.func80 Try.call80 rfl Try.ntmps80 rfl ?_
  have W : Walk Try.prog TT 80 _ := Walk.of TT_ok Try.func80 Try.results80
  refine atl W rfl ?_
  refine go_nilT 3 (.ints 0 .i64 []) rfl rfl rfl rfl rfl ?_
  refine lp W 0 (σ := Nat × Nat × List Int) (fun s => [(0, .int .u64 s.1), (3, .sl 0 s.2.1 0 s.2.2.length)]) (fun s => [.ints s.2.1 .i64 s.2.2]) (fun s => s.1) (fun s => s.1 ≤ 18446744073709551615 ∧ s.2.2 ++ dig s.1 = dig n) (n, 0, []) [0, 3] rfl rfl rfl ⟨h1, rfl⟩ ?_
  rintro ⟨m, g, l⟩ ⟨hm, he⟩ ih
  dsimp only at hm he ih ⊢
  have hl : l.length ≤ 4 := by
    have h2 := congrArg List.length he
    rw [List.length_append] at h2
    have h3 : (dig n).length ≤ 4 := dig_len_le.2 (by omega)
    omega
  refine sp W 0 rfl rfl rfl (fun h2 => ?_) (fun h2 => ?_)
  · have hm0 : m ≠ 0 := by omega
    have e1 : ((m : Int) % 65536) = ((m % 65536 : Nat) : Int) := by omega
    have e2 : ((m : Int) / 65536) = ((m / 65536 : Nat) : Int) := by omega
    rw [dig_pos hm0] at he
    have nx := ih (m / 65536, g + 1, l ++ [((m % 65536 : Nat) : Int)]) ⟨by dsimp only; omega, by simpa using he⟩ (by dsimp only; omega)
    dsimp only at nx
    rw [List.length_append, ← e1, ← e2] at nx
    refine bd W 0 1 [0, 3] rfl rfl rfl rfl rfl (nx)
  · have hm0 : m = 0 := by omega
    subst hm0
    rw [dig_zero, List.append_nil] at he
    refine rp W 0 rfl rfl rfl (.fi he)
theorem l5Cmp_ok (a b : Nat) (ha : (dig a).length ≤ 1000000000) (hb : (dig b).length ≤ 1000000000) : AFunP Try.prog 64 [.fi .i64 (dig a), .fi .i64 (dig b)] (· = .int .i64 (sgn ((a : Int) - b))) := by
  refine afun_of Try.func64 Try.call64 rfl Try.ntmps64 rfl ?_
  have W : Walk Try.prog TT 64 _ := Walk.of TT_ok Try.func64 Try.results64
  have da := dig_dgs a
  have db := dig_dgs b
  have len : ∀ {x y : Nat}, (dig x).length < (dig y).length → x < y := by
    intro x y h
    have h1 := dig_len_lt.1 h
    have h2 := (dig_len_le (n := x) (k := (dig x).length)).1 (Nat.le_refl _)
    omega
  refine sp W 0 rfl rfl rfl (fun h1 => ?_) (fun h1 => ?_)
  · have := len (x := a) (y := b) (by omega)
    refine rp W 0 rfl rfl rfl (.int (by rw [sgn_neg (by omega)]))
  refine sp W 0 rfl rfl rfl (fun h2 => ?_) (fun h2 => ?_)
  · have := len (x := b) (y := a) (by omega)
    refine rp W 0 rfl rfl rfl (.int (by rw [sgn_pos (by omega)]))
  have hab : (dig a).length = (dig b).length := by omega
  refine lp W 0 (σ := Nat) (fun k => [(0, .fi .i64 (dig a)), (1, .fi .i64 (dig b)), (5, .int .i64 ((k : Int) - 1))]) (fun _ => []) (fun k => k) (fun k => k ≤ (dig a).length ∧ ∀ j, k ≤ j → (dig a).getD j 0 = (dig b).getD j 0)
    (dig a).length [0, 1, 5] rfl rfl rfl ⟨Nat.le_refl _, fun j hj => by rw [getD_over hj, getD_over (by omega)]⟩ ?_
  rintro k ⟨hk, he⟩ ih
  refine sp W 0 rfl rfl rfl (fun h3 => ?_) (fun h3 => ?_)
  · obtain ⟨i, rfl⟩ : ∃ i, k = i + 1 := ⟨k - 1, by omega⟩
    have ei : ((i + 1 : Nat) : Int) - 1 = (i : Int) := by omega
    rw [ei]
    refine dre W 0 8 [] [] rfl rfl rfl trivial rfl ?_
    rw [Int.toNat_natCast]
    refine sp W 0 rfl rfl rfl (fun h4 => ?_) (fun h4 => ?_)
    · refine rp W 0 rfl rfl rfl (.int (by have := val_first da db hab (k := i) (by omega) (fun j hj => he j (by omega)) h4; rw [val_dig, val_dig] at this; rw [sgn_neg (by omega)]))
    · refine dre W 0 8 [] [] rfl rfl rfl trivial rfl ?_
      refine sp W 0 rfl rfl rfl (fun h5 => ?_) (fun h5 => ?_)
      · refine rp W 0 rfl rfl rfl (.int (by have := val_first db da hab.symm (k := i) (by omega) (fun j hj => (he j (by omega)).symm) h5; rw [val_dig, val_dig] at this; rw [sgn_pos (by omega)]))
      · have nx := ih i ⟨by omega, fun j hj => ?_⟩ (by omega)
        · refine bk W 0 [0, 1, 5] rfl rfl (nx)
        · by_cases hji : j = i
          · subst hji; rw [Int.toNat_natCast] at h5; omega
          · exact he j (by omega)
  · have hk0 : k = 0 := by omega
    subst hk0
    have := val_cmp da db hab 0 (Nat.zero_le _) he
    rw [val_dig, val_dig] at this
    simp [val] at this
    refine rp W 0 rfl rfl rfl (.int (by rw [show (a : Int) - b = 0 by omega, sgn_zero]))
theorem l5Bits_ok (a : Nat) (ha : (dig a).length ≤ 100000000) : AFunP Try.prog 90 [.fi .i64 (dig a)] (· = .int .i64 (bitL a)) := by
  refine afun_of Try.func90 Try.call90 rfl Try.ntmps90 rfl ?_
  have W : Walk Try.prog TT 90 _ := Walk.of TT_ok Try.func90 Try.results90
  refine sp W 0 rfl rfl rfl (fun h => ?_) (fun h => ?_)
  · have : a = 0 := dig_nil.1 (List.eq_nil_of_length_eq_zero (by omega))
    subst this
    refine rp W 0 rfl rfl rfl (.int (by simp [bitL_zero]))
  have h0 : a ≠ 0 := by rintro rfl; simp [dig_zero] at h
  have g := (dig_dgs a).get ((dig a).length - 1)
  have e1 : (((dig a).length : Int) - 1).toNat = (dig a).length - 1 := by omega
  have hd := bitL_dig a h0
  have hbb : bitL a ≤ 16 * (dig a).length + 64 := by
    have := bitLen_rng (n := (dig a).getD ((dig a).length - 1) 0) (by omega)
    unfold bitLen at this
    omega
  obtain ⟨d, hdd⟩ : ∃ d : Nat, (dig a).getD ((dig a).length - 1) 0 = d := ⟨_, (Int.toNat_of_nonneg g.1).symm⟩
  rw [hdd, Int.toNat_natCast] at hd
  refine lp W 0 (σ := Nat × Nat) (fun s => [(3, .int .i64 s.1), (4, .int .i64 s.2)]) (fun _ => []) (fun s => s.2) (fun s => s.1 + bitL s.2 = bitL a ∧ s.2 < 65536) (16 * ((dig a).length - 1), d) [3, 4] rfl (by rw [e1, hdd]; simp [keepM, getM]; omega) rfl ⟨by dsimp only; omega, by dsimp only; omega⟩ ?_
  rintro ⟨n, d⟩ ⟨h1, h3⟩ ih
  dsimp only at h1 h3 ih ⊢
  refine sp W 0 rfl rfl rfl (fun h4 => ?_) (fun h4 => ?_)
  · have e2 : ((d : Int) / 2) = ((d / 2 : Nat) : Int) := by omega
    have := bitL_pos (n := d) (by omega)
    have nx := ih (n + 1, d / 2) ⟨by dsimp only; omega, by dsimp only; omega⟩ (by dsimp only; omega)
    dsimp only at nx
    rw [← e2] at nx
    refine bk W 0 [3, 4] rfl rfl (nx)
  · have hd0 : d = 0 := by omega
    subst hd0
    rw [bitL_zero] at h1
    refine rp W 0 rfl rfl rfl (.int (by omega))
theorem l5At_ok (l : List Int) (i : Nat) (ha : l.length ≤ 100000000) : AFunP Try.prog 81 [.fi .i64 l, .int .i64 i] (· = .int .i64 (l.getD i 0)) := by
  refine afun_of Try.func81 Try.call81 rfl Try.ntmps81 rfl ?_
  have W : Walk Try.prog TT 81 _ := Walk.of TT_ok Try.func81 Try.results81
  refine sp W 0 rfl rfl rfl (fun h => ?_) (fun h => ?_)
  · refine rp W 0 rfl rfl rfl (.int (by simp))
  · refine rp W 0 rfl rfl rfl (.int (by rw [getD_over (by omega)]))
theorem l5Add_ok (a b : Nat) (ha : (dig a).length ≤ 10000000) (hb : (dig b).length ≤ 10000000) : AFunP Try.prog 63 [.fi .i64 (dig a), .fi .i64 (dig b)] (· = .fi .i64 (dig (a + b))) := by
  refine afun_of Try.func63 Try.call63 rfl Try.ntmps63 rfl ?_
  have W : Walk Try.prog TT 63 _ := Walk.of TT_ok Try.func63 Try.results63
  refine' cutK (fun K => ?main) ?k
  case main =>
    refine sp W 0 rfl rfl rfl (fun h => ?_) (fun h => ?_)
    · refine atl W rfl ?_
      refine go_nilT 6 (.ints 0 .i64 []) rfl rfl rfl rfl rfl ?_
      refine lp W 0 (σ := Nat × Nat × Int × List Int) (fun s => [(0, .fi .i64 (dig a)), (1, .fi .i64 (dig b)), (5, .int .i64 (max (dig a).length (dig b).length : Nat)), (6, .sl 0 s.2.1 0 s.1), (7, .int .i64 s.2.2.1), (8, .int .i64 s.1)]) (fun s => [.ints s.2.1 .i64 s.2.2.2]) (fun s => max (dig a).length (dig b).length - s.1)
        (fun s => s.1 ≤ max (dig a).length (dig b).length ∧ s.2.2.2.length = s.1 ∧ Dgs s.2.2.2 ∧ (0 ≤ s.2.2.1 ∧ s.2.2.1 ≤ 1) ∧ val s.2.2.2 + 65536 ^ s.1 * s.2.2.1 = val ((dig a).take s.1) + val ((dig b).take s.1)) (0, 0, 0, []) [0, 1, 5, 6, 7, 8] rfl (by rw [show max (dig a).length (dig b).length = (dig b).length by omega]; rfl) rfl ⟨Nat.zero_le _, rfl, Dgs.nil, by simp, by simp [val]⟩ K.get
    · refine atl W rfl ?_
      refine go_nilT 6 (.ints 0 .i64 []) rfl rfl rfl rfl rfl ?_
      refine lp W 0 (σ := Nat × Nat × Int × List Int) (fun s => [(0, .fi .i64 (dig a)), (1, .fi .i64 (dig b)), (5, .int .i64 (max (dig a).length (dig b).length : Nat)), (6, .sl 0 s.2.1 0 s.1), (7, .int .i64 s.2.2.1), (8, .int .i64 s.1)]) (fun s => [.ints s.2.1 .i64 s.2.2.2]) (fun s => max (dig a).length (dig b).length - s.1)
        (fun s => s.1 ≤ max (dig a).length (dig b).length ∧ s.2.2.2.length = s.1 ∧ Dgs s.2.2.2 ∧ (0 ≤ s.2.2.1 ∧ s.2.2.1 ≤ 1) ∧ val s.2.2.2 + 65536 ^ s.1 * s.2.2.1 = val ((dig a).take s.1) + val ((dig b).take s.1)) (0, 0, 0, []) [0, 1, 5, 6, 7, 8] rfl (by rw [show max (dig a).length (dig b).length = (dig a).length by omega]; rfl) rfl ⟨Nat.zero_le _, rfl, Dgs.nil, by simp, by simp [val]⟩ K.get
  case k =>
    rintro ⟨i, g, c, o⟩ ⟨hi, ho, hd, ⟨c0, c1⟩, hv⟩ ih
    dsimp only at hi ho hd c0 c1 hv ih ⊢
    have da := dig_dgs a
    have db := dig_dgs b
    refine sp W 0 rfl rfl rfl (fun h1 => ?_) (fun h1 => ?_)
    · have ga := da.get i
      have gb := db.get i
      refine ce W 0 rfl rfl (l5At_ok (dig a) i (by omega)) rfl ?_
      refine ce W 0 rfl rfl (l5At_ok (dig b) i (by omega)) rfl ?_
      obtain ⟨x, hx⟩ : ∃ x, (dig a).getD i 0 + (dig b).getD i 0 + c = x := ⟨_, rfl⟩
      have x0 : 0 ≤ x ∧ x ≤ 131071 := by omega
      have nx := ih (i + 1, g + 1, x / 65536, o ++ [x % 65536]) ⟨by dsimp only; omega, by simp; omega, hd.app (Dgs.nil.cons (by omega) (by omega)), by dsimp only; omega, ?_⟩ (by dsimp only; omega)
      · rw [← hx] at nx
        refine bd W 0 1 [0, 1, 5, 6, 7, 8] rfl rfl rfl rfl rfl (nx) (hc := by simp only [AllC, addN, Int.toNat_natCast, true_and, and_true, eq_self, List.length_set, List.length_cons, List.length_nil, List.length_append, List.length_replicate, wrapU, pw1, pw7, pw8, pw16, pw23, pw32, pw52] <;> first | omega | ((repeat' apply And.intro) <;> first | omega | (intros; rfl)))
      · dsimp only
        rw [val_snoc _ _ ho, val_take_any, val_take_any, Int.pow_succ]
        have e4 : 65536 ^ i * (x % 65536) + 65536 ^ i * 65536 * (x / 65536) = 65536 ^ i * x := by
          rw [Int.mul_assoc, ← Int.mul_add]; congr 1; omega
        rw [← hx, Int.mul_add, Int.mul_add] at e4
        rw [← hx]
        omega
    · have him : i = max (dig a).length (dig b).length := by omega
      rw [List.take_of_length_le (by omega), List.take_of_length_le (by omega), val_dig, val_dig] at hv
      refine sp W 0 rfl rfl rfl (fun h2 => ?_) (fun h2 => ?_)
      · have hc1 : c = 1 := by omega
        subst hc1
        have h3 := dig_of_top (l := o ++ [1]) (hd.app (Dgs.nil.cons (by omega) (by omega))) (.inr (by
          rw [val_snoc _ _ ho, List.length_append, ho, List.length_singleton, Int.pow_succ]
          have := val_nonneg hd; omega))
        rw [val_snoc _ _ ho, hv] at h3
        refine rp W 0 rfl rfl rfl (.fi (by rw [← h3]; congr 1))
      · have hc1 : c = 0 := by omega
        subst hc1
        rw [Int.mul_zero, Int.add_zero] at hv
        have h3 := dig_of_top (l := o) hd (by
          by_cases h0 : i = 0
          · left; exact List.eq_nil_of_length_eq_zero (by omega)
          · right
            obtain ⟨k, rfl⟩ : ∃ k, i = k + 1 := ⟨i - 1, by omega⟩
            rw [ho, hv, Int.pow_succ]
            have h4 : 65536 ^ k ≤ a + b := by
              rcases (by omega : k < (dig a).length ∨ k < (dig b).length) with h | h
              · have := dig_len_lt.1 h; omega
              · have := dig_len_lt.1 h; omega
            have h5 : ((65536 ^ k : Nat) : Int) ≤ ((a + b : Nat) : Int) := Int.ofNat_le.2 h4
            rw [Int.natCast_pow, Int.natCast_add] at h5
            simp only [Int.cast_ofNat_Int] at h5
            omega)
        rw [hv] at h3
        refine rp W 0 rfl rfl rfl (.fi (by rw [← h3]; congr 1))
end Pf
/- Whole numbers: the model's own functions, sums, products, shifts. -/
namespace Pf
open Go Go.Proofs
theorem l5Sub_ok (a b : Nat) (hab : b ≤ a) (ha : (dig a).length ≤ 10000000) : AFunP Try.prog 65 [.fi .i64 (dig a), .fi .i64 (dig b)] (· = .fi .i64 (dig (a - b))) := by
  refine afun_of Try.func65 Try.call65 rfl Try.ntmps65 rfl ?_
  have W : Walk Try.prog TT 65 _ := Walk.of TT_ok Try.func65 Try.results65
  have da := dig_dgs a
  have db := dig_dgs b
  have hlen := dig_len_mono hab
  refine atl W rfl ?_
  refine go_nilT 5 (.ints 0 .i64 []) rfl rfl rfl rfl rfl ?_
  refine lp W 0 (σ := Nat × Nat × Int × List Int) (fun s => [(0, .fi .i64 (dig a)), (1, .fi .i64 (dig b)), (5, .sl 0 s.2.1 0 s.1), (6, .int .i64 s.2.2.1), (7, .int .i64 s.1)]) (fun s => [.ints s.2.1 .i64 s.2.2.2]) (fun s => (dig a).length - s.1)
    (fun s => s.1 ≤ (dig a).length ∧ s.2.2.2.length = s.1 ∧ Dgs s.2.2.2 ∧ (0 ≤ s.2.2.1 ∧ s.2.2.1 ≤ 1) ∧ val s.2.2.2 - 65536 ^ s.1 * s.2.2.1 = val ((dig a).take s.1) - val ((dig b).take s.1)) (0, 0, 0, []) [0, 1, 5, 6, 7] rfl rfl rfl ⟨Nat.zero_le _, rfl, Dgs.nil, by simp, by simp [val]⟩ ?_
  rintro ⟨i, g, c, o⟩ ⟨hi, ho, hd, ⟨c0, c1⟩, hv⟩ ih
  dsimp only at hi ho hd c0 c1 hv ih ⊢
  refine sp W 0 rfl rfl rfl (fun h1 => ?_) (fun h1 => ?_)
  · have ga := da.get i
    have gb := db.get i
    obtain ⟨x, hx⟩ : ∃ x, (dig a).getD i 0 - (dig b).getD i 0 - c = x := ⟨_, rfl⟩
    refine dre W 0 9 [] [.int .i64 ((dig b).getD i 0)] rfl rfl rfl ⟨(l5At_ok (dig b) i (by omega)).at rfl _, trivial⟩ rfl ?_
    refine sp W 0 rfl rfl rfl (fun h2 => ?_) (fun h2 => ?_)
    · rw [Int.toNat_natCast, hx] at h2
      have nx := ih (i + 1, g + 1, 1, o ++ [x + 65536]) ⟨by dsimp only; omega, by simp; omega, hd.app (Dgs.nil.cons (by omega) (by omega)), by simp, ?_⟩ (by dsimp only; omega)
      · rw [← hx] at nx
        refine bd W 0 1 [0, 1, 5, 6, 7] rfl rfl rfl rfl rfl (nx) (hc := by simp only [AllC, addN, Int.toNat_natCast, true_and, and_true, eq_self, List.length_set, List.length_cons, List.length_nil, List.length_append, List.length_replicate, wrapU, pw1, pw7, pw8, pw16, pw23, pw32, pw52] <;> first | omega | ((repeat' apply And.intro) <;> first | omega | (intros; rfl)))
      · dsimp only
        rw [val_snoc _ _ ho, val_take_any, val_take_any, Int.pow_succ, ← hx]
        simp only [Int.mul_add, Int.mul_sub]
        omega
    · rw [Int.toNat_natCast, hx] at h2
      have nx := ih (i + 1, g + 1, 0, o ++ [x]) ⟨by dsimp only; omega, by simp; omega, hd.app (Dgs.nil.cons (by omega) (by omega)), by simp, ?_⟩ (by dsimp only; omega)
      · rw [← hx] at nx
        refine bd W 0 1 [0, 1, 5, 6, 7] rfl rfl rfl rfl rfl (nx) (hc := by simp only [AllC, addN, Int.toNat_natCast, true_and, and_true, eq_self, List.length_set, List.length_cons, List.length_nil, List.length_append, List.length_replicate, wrapU, pw1, pw7, pw8, pw16, pw23, pw32, pw52] <;> first | omega | ((repeat' apply And.intro) <;> first | omega | (intros; rfl)))
      · dsimp only
        rw [val_snoc _ _ ho, val_take_any, val_take_any, Int.pow_succ, ← hx]
        simp only [Int.mul_add, Int.mul_sub]
        omega
  · have him : i = (dig a).length := by omega
    rw [List.take_of_length_le (by omega), List.take_of_length_le (by omega), val_dig, val_dig] at hv
    have h2 := val_lt hd
    have h3 := val_nonneg hd
    rw [ho] at h2
    have hc : c = 0 := by
      rcases (by omega : c = 0 ∨ c = 1) with h | h
      · exact h
      · subst h; omega
    subst hc
    refine cf W 0 [0] [] rfl rfl rfl rfl rfl rfl (l5Trim_ok o (by omega)) rfl ?_
    refine rp W 0 rfl rfl rfl (.fi (by rw [trimL_dig hd]; congr 1; omega))
theorem l5Mul_ok (a b : Nat) (ha : (dig a).length ≤ 10000000) (hb : (dig b).length ≤ 10000000) : AFunP Try.prog 44 [.fi .i64 (dig a), .fi .i64 (dig b)] (· = .fi .i64 (dig (a * b))) := by
  refine afun_of Try.func44 Try.call44 rfl Try.ntmps44 rfl ?_
  have W : Walk Try.prog TT 44 _ := Walk.of TT_ok Try.func44 Try.results44
  have da := dig_dgs a
  have db := dig_dgs b
  have eL : (((dig a).length : Int) + (dig b).length) = (((dig a).length + (dig b).length : Nat) : Int) := by omega
  refine lp W 0 (σ := Nat × List Int) (fun s => [(0, .fi .i64 (dig a)), (1, .fi .i64 (dig b)), (5, .sl 0 0 0 ((dig a).length + (dig b).length)), (6, .int .i64 s.1)]) (fun s => [.ints 0 .i64 s.2]) (fun s => (dig a).length - s.1)
    (fun s => s.1 ≤ (dig a).length ∧ s.2.length = (dig a).length + (dig b).length ∧ val s.2 = val ((dig a).take s.1) * b ∧ ∀ j, 0 ≤ s.2.getD j 0 ∧ s.2.getD j 0 < 65536 ∧ (s.1 + (dig b).length ≤ j → s.2.getD j 0 = 0))
    (0, List.replicate ((dig a).length + (dig b).length) 0) [0, 1, 5, 6] rfl (by rw [eL]; rfl) (by rw [eL]; rfl) ⟨Nat.zero_le _, by simp, by simp [val_replicate, val], fun j => ?_⟩ ?_ (hc := ?_)
  · have : (List.replicate ((dig a).length + (dig b).length) (0 : Int)).getD j 0 = 0 := by
      rw [List.getD_eq_getElem?_getD, List.getElem?_replicate]; split <;> rfl
    dsimp only; omega
  · rintro ⟨i, l⟩ ⟨hi, hl, hv, hd⟩ ih
    dsimp only at hi hl hv hd ih ⊢
    generalize hA : (dig a).length = A at *
    refine sp W 0 rfl rfl rfl (fun h1 => ?_) (fun h1 => ?_)
    · have h1 : i < A := by omega
      have gx := da.get i
      have gl : ∀ j, i + (dig b).length ≤ j → l.getD j 0 = 0 := fun j hj => (hd j).2.2 hj
      generalize hx : (dig a).getD i 0 = x at *
      refine lp W 0 (σ := Nat × Int × List Int) (fun s => [(0, .fi .i64 (dig a)), (1, .fi .i64 (dig b)), (5, .sl 0 0 0 (A + (dig b).length)), (6, .int .i64 i), (7, .int .i64 s.2.1), (8, .int .i64 s.1)]) (fun s => [.ints 0 .i64 s.2.2]) (fun s => (dig b).length - s.1)
        (fun s => s.1 ≤ (dig b).length ∧ s.2.2.length = A + (dig b).length ∧ val s.2.2 + s.2.1 * 65536 ^ (i + s.1) = val l + x * val ((dig b).take s.1) * 65536 ^ i ∧ 0 ≤ s.2.1 ∧ s.2.1 < 65536 ∧ (∀ j, 0 ≤ s.2.2.getD j 0 ∧ s.2.2.getD j 0 < 65536) ∧ ∀ j, i + s.1 ≤ j → s.2.2.getD j 0 = l.getD j 0)
        (0, 0, l) [0, 1, 5, 6, 7, 8] rfl rfl rfl ⟨Nat.zero_le _, hl, by simp [val], by simp, by simp, fun j => by have := hd j; dsimp only; omega, fun j _ => rfl⟩ ?_
      rintro ⟨k, c, m⟩ ⟨hk, hm, hw, c0, c1, he, hs⟩ ih2
      dsimp only at hk hm hw c0 c1 he hs ih2 ⊢
      refine sp W 0 rfl rfl rfl (fun h2 => ?_) (fun h2 => ?_)
      · have h2 : k < (dig b).length := by omega
        have gy := db.get k
        have gm := he (i + k)
        generalize hy : (dig b).getD k 0 = y at *
        have p0 : 0 ≤ x * y := Int.mul_nonneg gx.1 gy.1
        have p1 : x * y ≤ 65535 * 65535 := Int.mul_le_mul (by omega) (by omega) gy.1 (by omega)
        have eI : ((i : Int) + (k : Int)).toNat = i + k := by omega
        refine dre W 0 17 [] [] rfl rfl rfl trivial rfl ?_ (hp := ?_)
        · obtain ⟨z, hz⟩ : ∃ z, m.getD (i + k) 0 + x * y + c = z := ⟨_, rfl⟩
          have nx := ih2 (k + 1, z / 65536, m.set (i + k) (z % 65536)) ⟨by omega, by simpa using hm, ?_, ?_, ?_, fun j => ?_, fun j hj => ?_⟩ (by dsimp only; omega)
          · rw [← hz, ← hy, ← hx, ← eI] at nx
            refine bk W 0 [0, 1, 5, 6, 7, 8] rfl rfl nx (hc := ?_)
            simp only [AllC, eI, hx, hy, hz, addN, Int.toNat_natCast, true_and, List.length_set]; omega
          · dsimp only
            rw [val_set _ _ _ (by omega), val_take_succ h2, hy]
            have hq : z = 65536 * (z / 65536) + z % 65536 := by omega
            rw [show i + (k + 1) = i + k + 1 by omega, Int.pow_succ, Int.mul_add, Int.add_mul, ← Int.mul_assoc x, Int.mul_comm (x * 65536 ^ k) y]
            have e2 : y * (x * 65536 ^ k) * 65536 ^ i = x * y * 65536 ^ (i + k) := by
              rw [Int.pow_add]
              simp only [Int.mul_assoc, Int.mul_comm, Int.mul_left_comm]
            rw [e2]
            have e3 : z / 65536 * (65536 ^ (i + k) * 65536) = 65536 ^ (i + k) * (65536 * (z / 65536)) := by simp only [Int.mul_assoc, Int.mul_comm, Int.mul_left_comm]
            have e4 : 65536 ^ (i + k) * (z % 65536 - m.getD (i + k) 0) + 65536 ^ (i + k) * (65536 * (z / 65536)) = 65536 ^ (i + k) * (x * y + c) := by
              rw [← Int.mul_add]; congr 1; omega
            rw [Int.mul_add, Int.mul_comm _ (x * y), Int.mul_comm _ c] at e4
            omega
          · dsimp only; omega
          · dsimp only; omega
          · dsimp only
            rw [getD_set _ _ _ _ (by omega)]
            have := he j
            split <;> omega
          · dsimp only at hj ⊢
            rw [getD_set _ _ _ _ (by omega), if_neg (by omega)]
            exact hs j (by omega)
        · simp only [AllP, eI, hx, hy, addN, Int.toNat_natCast, true_and, and_true, List.length_set, Option.getD]
          omega
      · have hkB : k = (dig b).length := by omega
        subst hkB
        rw [List.take_length, val_dig] at hw
        have g0 : m.getD (i + (dig b).length) 0 = 0 := by rw [hs _ (Nat.le_refl _)]; exact gl _ (Nat.le_refl _)
        have eI : ((i : Int) + ((dig b).length : Int)).toNat = i + (dig b).length := by omega
        have nx := ih (i + 1, m.set (i + (dig b).length) c) ⟨by dsimp only; omega, by simpa using hm, ?_, fun j => ?_⟩ (by dsimp only; omega)
        · rw [← eI] at nx
          have nz := addN0 ((i : Int) + ((dig b).length : Int)).toNat
          rw [← nz] at nx
          refine bk W 0 [0, 1, 5, 6] rfl rfl nx (hc := ?_)
          simp only [AllC, eI, addN, Int.toNat_natCast, true_and, List.length_set, g0]; omega
        · dsimp only
          rw [val_set _ _ _ (by omega), g0, val_take_succ (show i < (dig a).length by omega), hx, show c - 0 = c by omega, Int.mul_comm _ c, hw, hv, Int.add_mul, Int.mul_comm (65536 ^ i) x, Int.mul_assoc x, Int.mul_assoc x, Int.mul_comm (b : Int)]
        · dsimp only
          rw [getD_set _ _ _ _ (by omega)]
          have h1 := he j
          have h2 := hs j
          have h3 := gl j
          split
          · omega
          · refine ⟨h1.1, h1.2, fun hj => ?_⟩
            rw [h2 (by omega)]; exact h3 (by omega)
    · have hiA : i = (dig a).length := by omega
      subst hA
      subst hiA
      rw [List.take_length, val_dig] at hv
      have dm : Dgs l := dgs_of_getD fun j hj => by have := hd j; omega
      refine cf W 0 [0] [] rfl rfl rfl rfl rfl rfl (l5Trim_ok l (by omega)) rfl ?_
      refine rp W 0 rfl rfl rfl (.fi (by rw [trimL_dig dm, hv]; congr 1))
  · simp only [AllC, true_and]
    omega
theorem l5DivSmall_ok (a d : Nat) (hd0 : 0 < d) (hd : d < 65536) (ha : (dig a).length ≤ 10000000) : AFunP Try.prog 82 [.fi .i64 (dig a), .int .i64 d] (· = .tup [.fi .i64 (dig (a / d)), .int .i64 ((a % d : Nat) : Int)]) := by
  refine afun_of Try.func82 Try.call82 rfl Try.ntmps82 rfl ?_
  have W : Walk Try.prog TT 82 _ := Walk.of TT_ok Try.func82 Try.results82
  have da := dig_dgs a
  refine lp W 0 (σ := Nat × Int × List Int) (fun s => [(0, .fi .i64 (dig a)), (1, .int .i64 d), (6, .sl 0 0 0 (dig a).length), (7, .int .i64 s.2.1), (8, .int .i64 ((s.1 : Int) - 1))]) (fun s => [.ints 0 .i64 s.2.2]) (fun s => s.1)
      (fun s => s.1 ≤ (dig a).length ∧ s.2.2.length = (dig a).length ∧ 0 ≤ s.2.1 ∧ s.2.1 < d ∧ val s.2.2 * d + s.2.1 * 65536 ^ s.1 + val ((dig a).take s.1) = a ∧ ∀ j, 0 ≤ s.2.2.getD j 0 ∧ s.2.2.getD j 0 < 65536 ∧ (j < s.1 → s.2.2.getD j 0 = 0))
      ((dig a).length, 0, List.replicate (dig a).length 0) [0, 1, 6, 7, 8] rfl rfl rfl ⟨Nat.le_refl _, by simp, by simp, by dsimp only; omega, by simp [val_replicate, val, List.take_length, val_dig], fun j => ?_⟩ ?_
  · have : (List.replicate (dig a).length (0 : Int)).getD j 0 = 0 := by
      rw [List.getD_eq_getElem?_getD, List.getElem?_replicate]; split <;> rfl
    dsimp only; omega
  rintro ⟨t, r, l⟩ ⟨ht, hl, r0, r1, hv, hdd⟩ ih
  dsimp only at ht hl r0 r1 hv hdd ih ⊢
  refine sp W 0 rfl rfl rfl (fun h3 => ?_) (fun h3 => ?_)
  · obtain ⟨t, rfl⟩ : ∃ m, t = m + 1 := ⟨t - 1, by omega⟩
    have et : (((t + 1 : Nat) : Int) - 1) = (t : Int) := by omega
    have ga := da.get t
    obtain ⟨N, hN⟩ : ∃ N, r * 65536 + (dig a).getD t 0 = N := ⟨_, rfl⟩
    have n0 : 0 ≤ N := by omega
    have q0 : 0 ≤ N / d := Int.ediv_nonneg n0 (by omega)
    have q1 : N / d < 65536 := Int.ediv_lt_of_lt_mul (by omega) (by omega)
    have m0 := Int.emod_nonneg N (b := d) (by omega)
    have m1 := Int.emod_lt_of_pos N (b := d) (by omega)
    have gl := (hdd t).2.2 (by omega)
    have nx := ih (t, N % d, l.set t (N / d)) ⟨by dsimp only; omega, by simpa using hl, m0, m1, ?_, fun j => ?_⟩ (by dsimp only; omega)
    · rw [et]
      rw [← hN] at nx
      refine bk W 0 [0, 1, 6, 7, 8] rfl rfl (nx) (hc := by simp only [AllC, addN, Int.toNat_natCast, true_and, and_true, eq_self, List.length_set, List.length_cons, List.length_nil, List.length_append, List.length_replicate, wrapU, pw1, pw7, pw8, pw16, pw23, pw32, pw52] <;> first | omega | ((repeat' apply And.intro) <;> first | omega | (intros; rfl)))
    · dsimp only
      rw [val_take_succ (show t < (dig a).length by omega), Int.pow_succ] at hv
      rw [val_set _ _ _ (by omega), gl, Int.sub_zero, Int.add_mul, Int.mul_assoc (65536 ^ t), Int.mul_comm (N % d)]
      have e1 : N / d * d + N % d = r * 65536 + (dig a).getD t 0 := by rw [Int.mul_comm]; rw [hN]; exact Int.mul_ediv_add_emod N d
      have e2 : 65536 ^ t * (N / d * d) + 65536 ^ t * (N % d) = r * (65536 ^ t * 65536) + 65536 ^ t * (dig a).getD t 0 := by
        rw [← Int.mul_add, e1, Int.mul_add]; congr 1; simp only [Int.mul_assoc, Int.mul_comm, Int.mul_left_comm]
      omega
    · dsimp only
      rw [getD_set _ _ _ _ (by omega)]
      have := hdd j
      split <;> omega
  · obtain rfl : t = 0 := by omega
    have dl : Dgs l := dgs_of_getD fun j hj => by have := hdd j; omega
    simp only [List.take_zero, val, Int.pow_zero, Int.mul_one, Int.add_zero] at hv
    have v0 := val_nonneg dl
    obtain ⟨u1, u2⟩ := divmod hv r0 r1
    refine cf W 0 [0] [7] rfl rfl rfl rfl rfl rfl (l5Trim_ok l (by omega)) rfl ?_
    refine rp W 0 rfl rfl rfl (.tup ⟨.fi (by rw [trimL_dig dl, u1, Int.toNat_natCast]), .int u2, trivial⟩)
theorem l5Shl_ok (a k : Nat) (hk : k ≤ 10000000) (ha : (dig a).length ≤ 10000000) : AFunP Try.prog 85 [.fi .i64 (dig a), .int .i64 k] (· = .fi .i64 (dig (a * 65536 ^ k))) := by
  refine afun_of Try.func85 Try.call85 rfl Try.ntmps85 rfl ?_
  have W : Walk Try.prog TT 85 _ := Walk.of TT_ok Try.func85 Try.results85
  refine sp W 0 rfl rfl rfl (fun h => ?_) (fun h => ?_)
  · have h0 : a = 0 := dig_nil.1 (List.eq_nil_of_length_eq_zero (by omega))
    subst h0
    refine rp W 0 rfl rfl rfl (.trans .nils_fi (.fi (by rw [Nat.zero_mul, dig_zero])))
  · have h0 : a ≠ 0 := fun h0 => h (by rw [h0, dig_zero]; rfl)
    refine lp W 0 (σ := Nat × Nat × List Int) (fun s => [(0, .fi .i64 (dig a)), (5, .sl 0 s.2.1 0 (k + s.1)), (6, .int .i64 s.1)]) (fun s => [.ints s.2.1 .i64 s.2.2]) (fun s => (dig a).length - s.1)
      (fun s => s.1 ≤ (dig a).length ∧ s.2.2 = List.replicate k 0 ++ (dig a).take s.1) (0, 0, List.replicate k 0) [0, 5, 6] rfl rfl rfl ⟨Nat.zero_le _, by simp⟩ ?_
    rintro ⟨i, g, o⟩ ⟨hi, ho⟩ ih
    dsimp only at hi ho ih ⊢
    have ho2 : o.length = k + i := by rw [ho]; simp; omega
    refine sp W 0 rfl rfl rfl (fun h1 => ?_) (fun h1 => ?_)
    · have h1 : i < (dig a).length := by omega
      have e : o ++ [(dig a).getD i 0] = List.replicate k 0 ++ (dig a).take (i + 1) := by
        rw [ho, List.append_assoc, List.take_add_one, List.getD_eq_getElem?_getD, List.getElem?_eq_getElem h1]; rfl
      have nx := ih (i + 1, g + 1, o ++ [(dig a).getD i 0]) ⟨by dsimp only; omega, e⟩ (by dsimp only; omega)
      refine bd W 0 1 [0, 5, 6] rfl rfl rfl rfl rfl (nx) (hc := by simp only [AllC, addN, Int.toNat_natCast, true_and, and_true, eq_self, List.length_set, List.length_cons, List.length_nil, List.length_append, List.length_replicate, wrapU, pw1, pw7, pw8, pw16, pw23, pw32, pw52] <;> first | omega | ((repeat' apply And.intro) <;> first | omega | (intros; rfl)))
    · have him : i = (dig a).length := by omega
      subst him
      rw [List.take_length, dig_shl a h0] at ho
      refine rp W 0 rfl rfl rfl (.fi ho)
theorem l5Top_ok (a k : Nat) (hk : k ≤ 10000000) (ha : (dig a).length ≤ 10000000) : AFunP Try.prog 84 [.fi .i64 (dig a), .int .i64 k] (· = .fi .i64 (dig (a / 65536 ^ k))) := by
  refine afun_of Try.func84 Try.call84 rfl Try.ntmps84 rfl ?_
  have W : Walk Try.prog TT 84 _ := Walk.of TT_ok Try.func84 Try.results84
  refine atl W rfl ?_
  refine go_nilT 5 (.ints 0 .i64 []) rfl rfl rfl rfl rfl ?_
  refine lp W 0 (σ := Nat × Nat × List Int) (fun s => [(0, .fi .i64 (dig a)), (5, .sl 0 s.2.1 0 s.1), (6, .int .i64 ((k : Int) + s.1))]) (fun s => [.ints s.2.1 .i64 s.2.2]) (fun s => (dig a).length - s.1)
      (fun s => s.1 ≤ (dig a).length - k ∧ s.2.2 = ((dig a).drop k).take s.1) (0, 0, []) [0, 5, 6] rfl (by simp [keepM, getM]; rfl) rfl ⟨Nat.zero_le _, by simp⟩ ?_
  rintro ⟨i, g, o⟩ ⟨hi, ho⟩ ih
  dsimp only at hi ho ih ⊢
  have ho2 : o.length = i := by rw [ho]; simp; omega
  refine sp W 0 rfl rfl rfl (fun h1 => ?_) (fun h1 => ?_)
  · have h1 : k + i < (dig a).length := by omega
    have e2 : ((k : Int) + i).toNat = k + i := by omega
    have e : o ++ [(dig a).getD (k + i) 0] = ((dig a).drop k).take (i + 1) := by
      rw [ho, List.take_add_one, List.getElem?_drop, List.getD_eq_getElem?_getD, List.getElem?_eq_getElem h1]; rfl
    have nx := ih (i + 1, g + 1, o ++ [(dig a).getD (k + i) 0]) ⟨by dsimp only; omega, e⟩ (by dsimp only; omega)
    have e3 : ((k : Int) + (i + 1 : Nat)) = (k : Int) + i + 1 := by omega
    dsimp only at nx
    rw [← e2, e3] at nx
    refine bd W 0 1 [0, 5, 6] rfl rfl rfl rfl rfl (nx) (hc := by simp only [AllC, addN, Int.toNat_natCast, true_and, and_true, eq_self, List.length_set, List.length_cons, List.length_nil, List.length_append, List.length_replicate, wrapU, pw1, pw7, pw8, pw16, pw23, pw32, pw52] <;> first | omega | ((repeat' apply And.intro) <;> first | omega | (intros; rfl)))
  · have e : o = (dig a).drop k := by rw [ho, List.take_of_length_le (by simp; omega)]
    refine rp W 0 rfl rfl rfl (.fi (by rw [e, dig_drop]))
theorem l5Times_ok (a d : Nat) (hd : d < 65536) (ha : (dig a).length ≤ 1000000) : AFunP Try.prog 83 [.fi .i64 (dig a), .int .i64 d] (· = .fi .i64 (dig (a * d))) := by
  refine afun_of Try.func83 Try.call83 rfl Try.ntmps83 rfl ?_
  have W : Walk Try.prog TT 83 _ := Walk.of TT_ok Try.func83 Try.results83
  refine sp W 0 rfl rfl rfl (fun h => ?_) (fun h => ?_)
  · have h0 : d = 0 := by omega
    subst h0
    refine rp W 0 rfl rfl rfl (.trans .nils_fi (.fi (by rw [Nat.mul_zero, dig_zero])))
  · have h0 : [(d : Int)] = dig d := by rw [dig_small hd, if_neg (by omega)]
    have k1 := l5Mul_ok a d (by omega) (by rw [← h0]; simp)
    rw [← h0] at k1
    refine cf W 0 [0] [] rfl rfl rfl rfl rfl rfl (k1) rfl ?_
    refine rp W 0 rfl rfl rfl (.refl)
theorem l5Pow2_ok (k : Nat) (hk : k ≤ 10000000) : AFunP Try.prog 91 [.int .i64 k] (· = .fi .i64 (dig (2 ^ k))) := by
  refine afun_of Try.func91 Try.call91 rfl Try.ntmps91 rfl ?_
  have W : Walk Try.prog TT 91 _ := Walk.of TT_ok Try.func91 Try.results91
  have h0 : [((1 : Int) * 2 ^ ((k : Int) % 16).toNat)] = dig (2 ^ (k % 16)) := by
    have : 2 ^ (k % 16) < 65536 := Nat.pow_lt_pow_right (a := 2) (n := 16) (by omega) (by omega)
    rw [dig_small this, if_neg (Nat.pos_iff_ne_zero.1 (Nat.pow_pos (by omega))), Int.one_mul, show ((k : Int) % 16).toNat = k % 16 by omega]; simp
  have k1 := l5Shl_ok (2 ^ (k % 16)) (k / 16) (by omega) (by rw [← h0]; simp)
  rw [← h0] at k1
  have hbits : (IntKind.i64.bits : Int) = 64 := rfl
  have k2 := k1
  have e := (by decide : ∀ r, r < 16 → (1 : Int) ≤ 2 ^ r ∧ (2 : Int) ^ r ≤ 32768) ((k : Int) % 16).toNat (by omega)
  refine cf W 2 [0] [] rfl rfl rfl rfl rfl rfl k2 rfl ?_ (hc := by simp only [AllC, true_and, and_true]; omega)
  refine rp W 0 rfl rfl rfl (.fi (by congr 1; rw [show (65536 : Nat) = 2 ^ 16 from rfl, ← Nat.pow_mul, ← Nat.pow_add]; congr 1; omega))
end Pf
/- Whole numbers: the model's own quotient -/
namespace Pf
open Go Go.Proofs
theorem l5Div_ok (a b : Nat) (hb : b ≠ 0) (ha : (dig a).length ≤ 900000) (hbl : (dig b).length ≤ 900000) : AFunP Try.prog 67 [.fi .i64 (dig a), .fi .i64 (dig b)] (· = .tup [.fi .i64 (dig (a / b)), .fi .i64 (dig (a % b))]) := by
  refine afun_of Try.func67 Try.call67 rfl Try.ntmps67 rfl ?_
  have W : Walk Try.prog TT 67 _ := Walk.of TT_ok Try.func67 Try.results67
  have da := dig_dgs a
  have db := dig_dgs b
  refine ce W 0 rfl rfl (l5Cmp_ok a b (by omega) (by omega)) rfl ?_
  refine sp W 0 rfl rfl rfl (fun h1 => ?_) (fun h1 => ?_)
  · have : a < b := by unfold sgn at h1; omega
    have k1 := l5Trim_ok (dig a) (by omega)
    rw [trimL_dig da, val_dig, Int.toNat_natCast] at k1
    refine ce W 0 rfl rfl (k1) rfl ?_
    refine rp W 0 rfl rfl rfl (.tup ⟨.trans .nils_fi (.fi (by rw [Nat.div_eq_of_lt this, dig_zero])), .fi (by rw [Nat.mod_eq_of_lt this]), trivial⟩)
  have hab : b ≤ a := by unfold sgn at h1; omega
  have hlen := dig_len_mono hab
  have hlb : 0 < (dig b).length := by
    cases hd : dig b with
    | nil => exact absurd (dig_nil.1 hd) hb
    | cons x l => simp
  refine sp W 0 rfl rfl rfl (fun h2 => ?_) (fun h2 => ?_)
  · have hb1 : b < 65536 := by simpa using dig_lt (a := b) (n := 1) (by omega)
    have eb : (dig b).getD 0 0 = (b : Int) := by rw [dig_get]; simp; omega
    have k1 := l5DivSmall_ok a b (by omega) hb1 (by omega)
    rw [← eb] at k1
    refine ce W 0 rfl rfl (k1) rfl ?_
    have hm := Nat.mod_lt a (show 0 < b by omega)
    refine ce W 0 rfl rfl (specNatOf_ok (a % b) (by omega)) rfl ?_
    refine rp W 0 rfl rfl rfl (.refl)
  obtain ⟨n, hn⟩ : ∃ n, (dig b).length = n + 2 := ⟨(dig b).length - 2, by omega⟩
  have hb2 : 65536 ^ (n + 1) ≤ b := dig_len_lt.1 (by omega)
  have hb3 : b < 65536 ^ (n + 2) := dig_lt (by omega)
  have hp : 0 < 65536 ^ (n + 1) := Nat.pow_pos (by omega)
  have hps : 65536 ^ (n + 2) = 65536 ^ (n + 1) * 65536 := Nat.pow_succ 65536 (n + 1)
  obtain ⟨v, hv⟩ : ∃ v, b / 65536 ^ (n + 1) = v := ⟨_, rfl⟩
  have hv1 : 0 < v := by rw [← hv]; exact Nat.div_pos hb2 hp
  have hv2 : v < 65536 := by rw [← hv]; exact Nat.div_lt_of_lt_mul (by omega)
  have hv3 : b < (v + 1) * 65536 ^ (n + 1) := by rw [← hv]; exact (Nat.div_lt_iff_lt_mul hp).1 (Nat.lt_succ_self _)
  have ev : (dig b).getD (((dig b).length : Int) - 1).toNat 0 = v := by
    rw [show (((dig b).length : Int) - 1).toNat = n + 1 by omega, dig_get, hv, Nat.mod_eq_of_lt hv2]
  obtain ⟨u, hu⟩ : ∃ u, 65536 / (v + 1) = u := ⟨_, rfl⟩
  have hu1 : 0 < u := by rw [← hu]; exact Nat.div_pos (by omega) (by omega)
  have hu2 : u * (v + 1) ≤ 65536 := by rw [← hu]; exact Nat.div_mul_le_self _ _
  have hu3 : u < 65536 := by
    have := Nat.mul_le_mul_left u (show 2 ≤ v + 1 by omega)
    omega
  have eu : (65536 : Int) / ((dig b).getD (((dig b).length : Int) - 1).toNat 0 + 1) = u := by rw [ev, ← hu]; simp
  have k1 := l5Times_ok a u hu3 (by omega)
  have k2 := l5Times_ok b u hu3 (by omega)
  rw [← eu] at k1 k2
  refine ce W 0 rfl rfl k1 rfl ?_ (hc := by simp only [AllC, ev, true_and, and_true]; omega)
  refine ce W 0 rfl rfl (k2) rfl ?_
  rw [eu]
  have hx0 : a * u < 65536 ^ ((dig a).length + 1) := by
    rw [Nat.pow_succ]
    exact Nat.mul_lt_mul_of_lt_of_le (dig_lt (Nat.le_refl _)) (by omega) (by omega)
  have hxl : (dig (a * u)).length ≤ (dig a).length + 1 := dig_len_le.2 hx0
  have hy1 : 65536 ^ (n + 1) ≤ b * u := Nat.le_trans hb2 (Nat.le_mul_of_pos_right _ hu1)
  have hy2 : b * u < 65536 ^ (n + 2) := by
    rw [hps]
    calc b * u < (v + 1) * 65536 ^ (n + 1) * u := Nat.mul_lt_mul_of_pos_right hv3 hu1
      _ = 65536 ^ (n + 1) * (u * (v + 1)) := by rw [Nat.mul_comm (v + 1), Nat.mul_assoc, Nat.mul_comm (v + 1)]
      _ ≤ _ := Nat.mul_le_mul_left _ hu2
  have hyl : (dig (b * u)).length = n + 2 := by
    have := (dig_len_lt (n := b * u) (k := n + 1)).2 hy1
    have := (dig_len_le (n := b * u) (k := n + 2)).2 hy2
    omega
  have hxy : b * u ≤ a * u := Nat.mul_le_mul_right _ hab
  have hlen2 := dig_len_mono hxy
  have hdiv : a * u / (b * u) = a / b := Nat.mul_div_mul_right _ _ hu1
  have hmod : a * u % (b * u) = a % b * u := Nat.mul_mod_mul_right _ _ _
  generalize hX : a * u = x at *
  generalize hY : b * u = y at *
  clear k1 k2
  have dx := dig_dgs x
  have dy := dig_dgs y
  obtain ⟨M, hM⟩ : ∃ M, (dig x).length + 1 = M + (n + 2) := ⟨(dig x).length + 1 - (n + 2), by omega⟩
  have eM : ((dig x).length : Int) - (dig y).length + 1 = M := by omega
  have k3 := l5Top_ok x M (by omega) (by omega)
  rw [← eM] at k3
  refine ce W 0 rfl rfl k3 rfl ?_ (hc := by simp only [AllC, true_and, and_true]; omega)
  rw [eM]
  have e14 : ((dig x).length : Int) - (dig y).length = (M : Int) - 1 := by omega
  have hx1 := dig_lt (a := x) (Nat.le_refl _)
  have hx2 : x / 65536 ^ M < y := by
    refine Nat.lt_of_lt_of_le (Nat.div_lt_of_lt_mul ?_) hy1
    rw [← Nat.pow_add, show M + (n + 1) = (dig x).length by omega]; exact hx1
  refine lp W 0 (σ := Nat × List Int) (fun s => [(8, .int .i64 u), (9, .fi .i64 (dig x)), (10, .fi .i64 (dig y)), (11, .int .i64 (dig y).length), (12, .sl 0 0 0 M), (13, .fi .i64 (dig (x / 65536 ^ s.1 % y))), (14, .int .i64 ((s.1 : Int) - 1))]) (fun s => [.ints 0 .i64 s.2]) (fun s => s.1)
    (fun s => s.1 ≤ M ∧ s.2.length = M ∧ val s.2 = ((65536 ^ s.1 * (x / 65536 ^ s.1 / y) : Nat) : Int) ∧ ∀ j, 0 ≤ s.2.getD j 0 ∧ s.2.getD j 0 < 65536 ∧ (j < s.1 → s.2.getD j 0 = 0))
    (M, List.replicate M 0) [8, 9, 10, 11, 12, 13, 14] rfl (by simp only [Nat.mod_eq_of_lt hx2, ← e14]; rfl) rfl ⟨Nat.le_refl _, by simp, by simp [val_replicate, Nat.div_eq_of_lt hx2], fun j => ?_⟩ ?_
  · have : (List.replicate M (0 : Int)).getD j 0 = 0 := by
      rw [List.getD_eq_getElem?_getD, List.getElem?_replicate]; split <;> rfl
    dsimp only; omega
  rintro ⟨t, q⟩ ⟨ht, hq, hvq, hd⟩ ih
  dsimp only at ht hq hvq hd ih ⊢
  refine sp W 0 rfl rfl rfl (fun h3 => ?_) (fun h3 => ?_)
  · obtain ⟨t, rfl⟩ : ∃ m, t = m + 1 := ⟨t - 1, by omega⟩
    have et : (((t + 1 : Nat) : Int) - 1) = (t : Int) := by omega
    rw [et]
    have hy0 : 0 < y := by have : 0 < 65536 ^ (n + 1) := Nat.pow_pos (by omega)
                           omega
    have hr := Nat.mod_lt (x / 65536 ^ (t + 1)) hy0
    have hA := Nat.div_add_mod (x / 65536 ^ (t + 1)) y
    obtain ⟨xt, hxt⟩ : ∃ d, x / 65536 ^ t % 65536 = d := ⟨_, rfl⟩
    have hxt2 : xt < 65536 := by rw [← hxt]; exact Nat.mod_lt _ (by omega)
    have hB : x / 65536 ^ t = 65536 * (x / 65536 ^ (t + 1)) + xt := by
      rw [Nat.pow_succ, ← Nat.div_div_eq_div_mul, ← hxt]; omega
    have gx : (dig x).getD t 0 = (xt : Int) := by rw [dig_get, hxt]
    obtain ⟨r, hr1⟩ : ∃ r, x / 65536 ^ (t + 1) % y = r := ⟨_, rfl⟩
    obtain ⟨Q0, hQ0⟩ : ∃ r, x / 65536 ^ (t + 1) / y = r := ⟨_, rfl⟩
    rw [hr1] at hr hA ⊢
    rw [hQ0] at hA hvq
    have lr : (dig r).length ≤ n + 2 := by rw [← hyl]; exact dig_len_mono (Nat.le_of_lt hr)
    have k4 := l5Shl_ok r 1 (by omega) (by omega)
    obtain ⟨R, hR⟩ : ∃ R, r * 65536 ^ 1 = R := ⟨_, rfl⟩
    rw [hR] at k4
    rw [Nat.pow_one] at hR
    have k5 := specNatOf_ok xt (by omega)
    rw [← gx] at k5
    have l1 : (dig R).length ≤ n + 3 := by
      rw [dig_len_le]
      rw [dig_len_le] at lr
      rw [← hR, show 65536 ^ (n + 3) = 65536 ^ (n + 2) * 65536 from Nat.pow_succ 65536 (n + 2)]; omega
    have l2 : (dig xt).length ≤ n + 3 := Nat.le_trans (dig_len_le.2 (show xt < 65536 ^ 1 from hxt2)) (by omega)
    have k6 := l5Add_ok R xt (by omega) (by omega)
    have l3 := dig_len_add l1 l2
    have k7 := l5Trim_ok (dig (R + xt)) (by omega)
    rw [trimL_dig (dig_dgs _), val_dig, Int.toNat_natCast] at k7
    refine dre W 0 10 [] [.fi .i64 (dig R), .fi .i64 (dig xt), .fi .i64 (dig (R + xt)), .fi .i64 (dig (R + xt))] rfl rfl rfl ⟨k4.at rfl _, k5.at rfl _, k6.at rfl _, k7.at rfl _, trivial⟩ rfl ?_ (hp := by simp only [AllP, gx, addN, Int.toNat_natCast, true_and, and_true, Option.getD]; omega)
    clear k4 k5 k6 k7 l1 l2 l3
    obtain ⟨r', hr'⟩ : ∃ r', R + xt = r' := ⟨_, rfl⟩
    rw [hr']
    rw [← hR] at hr'
    have hr2 : r' < 65536 * y := by
      have : r * 65536 + 65536 ≤ y * 65536 := by rw [← Nat.succ_mul]; exact Nat.mul_le_mul_right _ hr
      omega
    have hr3 : r' < 65536 ^ (n + 1 + 2) := by
      rw [show 65536 ^ (n + 1 + 2) = 65536 ^ (n + 2) * 65536 from Nat.pow_succ 65536 (n + 2)]
      exact Nat.lt_of_lt_of_le hr2 (by rw [Nat.mul_comm]; exact Nat.mul_le_mul_right _ (Nat.le_of_lt hy2))
    have lr' : (dig r').length ≤ n + 1 + 2 := dig_len_le.2 hr3
    have en : ((dig y).length : Int) - 1 = ((n + 1 : Nat) : Int) := by omega
    have k8 := l5At_ok (dig r') (dig y).length (by omega)
    have k9 := l5At_ok (dig r') (n + 1) (by omega)
    rw [← en] at k9
    obtain ⟨w, hw⟩ : ∃ w, y / 65536 ^ (n + 1) = w := ⟨_, rfl⟩
    have hw1 : 0 < w := by rw [← hw]; exact Nat.div_pos hy1 hp
    have hw2 : w < 65536 := by rw [← hw]; exact Nat.div_lt_of_lt_mul (by omega)
    have ew : (dig y).getD (((dig y).length : Int) - 1).toNat 0 = (w : Int) := by
      rw [en, Int.toNat_natCast, dig_get, hw, Nat.mod_eq_of_lt hw2]
    have gT := dig_two hr3
    rw [show n + 1 + 1 = (dig y).length by omega] at gT
    obtain ⟨T, hT⟩ : ∃ T, r' / 65536 ^ (n + 1) = T := ⟨_, rfl⟩
    have hT2 : T < 65536 * 65536 := by
      rw [← hT]
      refine Nat.div_lt_of_lt_mul ?_
      rw [show 65536 ^ (n + 1) * (65536 * 65536) = 65536 ^ (n + 1 + 2) from (Nat.pow_add 65536 (n + 1) 2).symm]; exact hr3
    rw [hT] at gT
    obtain ⟨Q, hQ⟩ : ∃ Q, r' / y = Q := ⟨_, rfl⟩
    have hQ1 : Q < 65536 := by rw [← hQ]; exact Nat.div_lt_of_lt_mul (by omega)
    have hQ2 : Q * y ≤ r' := by rw [← hQ]; exact Nat.div_mul_le_self _ _
    have hQ3 : r' < (Q + 1) * y := by rw [← hQ]; exact (Nat.div_lt_iff_lt_mul hy0).1 (Nat.lt_succ_self _)
    have hG := guess_ge hy1 hQ2
    rw [hT, hw] at hG
    have gd1 := (dig_dgs r').get (dig y).length
    have gd2 := (dig_dgs r').get (n + 1)
    refine dre W 0 14 [] [.int .i64 ((dig r').getD (dig y).length 0), .int .i64 ((dig r').getD (n + 1) 0)] rfl rfl rfl ⟨k8.at rfl _, k9.at rfl _, trivial⟩ rfl ?_ (hp := by simp only [AllP, ew, addN, Int.toNat_natCast, true_and, and_true, Option.getD]; omega)
    rw [gT, ew]
    have hTw : T / w ≤ T := Nat.div_le_self _ _
    have hp65 : T / w < 65536 ∨ 65536 ≤ T / w := by omega
    have pl : ∀ s, s < 65536 → (dig (y * s)).length ≤ n + 3 := fun s hs => by
      rw [dig_len_le, show 65536 ^ (n + 3) = 65536 ^ (n + 2) * 65536 from Nat.pow_succ 65536 (n + 2)]
      exact Nat.mul_lt_mul'' hy2 hs
    refine' cutK (fun K => ?main) ?rest
    case main =>
      refine sp W 0 rfl rfl rfl (fun h4 => ?_) (fun h4 => ?_)
      · refine ce W 0 rfl rfl (l5Times_ok y 65535 (by omega) (by omega)) rfl ?_
        refine lp W 0 (σ := Nat) (fun s => [(8, .int .i64 u), (9, .fi .i64 (dig x)), (10, .fi .i64 (dig y)), (11, .int .i64 (dig y).length), (12, .sl 0 0 0 M), (13, .fi .i64 (dig r')), (14, .int .i64 t), (15, .int .i64 s), (16, .fi .i64 (dig (y * s)))]) (fun s => [.ints 0 .i64 q]) (fun s => s)
          (fun s => Q ≤ s ∧ s < 65536) 65535 [8, 9, 10, 11, 12, 13, 14, 15, 16] rfl rfl rfl ⟨by omega, by omega⟩ K.get
      · have eG : (T : Int) / w = ((T / w : Nat) : Int) := by simp
        have hlt : T / w < 65536 := by omega
        have k10 := l5Times_ok y (T / w) hlt (by omega)
        rw [← eG] at k10
        refine ce W 0 rfl rfl (k10) rfl ?_
        refine lp W 0 (σ := Nat) (fun s => [(8, .int .i64 u), (9, .fi .i64 (dig x)), (10, .fi .i64 (dig y)), (11, .int .i64 (dig y).length), (12, .sl 0 0 0 M), (13, .fi .i64 (dig r')), (14, .int .i64 t), (15, .int .i64 s), (16, .fi .i64 (dig (y * s)))]) (fun s => [.ints 0 .i64 q]) (fun s => s)
          (fun s => Q ≤ s ∧ s < 65536) (T / w) [8, 9, 10, 11, 12, 13, 14, 15, 16] rfl (by rw [← eG]; rfl) rfl ⟨hG, hlt⟩ K.get
    case rest =>
      rintro s ⟨hs1, hs2⟩ ih2
      have l4 := pl s hs2
      refine ce W 0 rfl rfl (l5Cmp_ok (y * s) r' (by omega) (by omega)) rfl ?_
      refine sp W 0 rfl rfl rfl (fun h4 => ?_) (fun h4 => ?_)
      · have h5 : r' < y * s := by unfold sgn at h4; omega
        have h6 : Q < s := by
          rcases Nat.lt_or_ge Q s with h | h
          · exact h
          · obtain rfl : s = Q := by omega
            rw [Nat.mul_comm] at h5; omega
        obtain ⟨s, rfl⟩ : ∃ m, s = m + 1 := ⟨s - 1, by omega⟩
        have k11 := l5Sub_ok (y * (s + 1)) y (by rw [Nat.mul_succ]; omega) (by omega)
        rw [Nat.mul_succ, Nat.add_sub_cancel, ← Nat.mul_succ] at k11
        refine ce W 0 rfl rfl (k11) rfl ?_
        have es : (((s + 1 : Nat) : Int) - 1) = (s : Int) := by omega
        have nx := ih2 s ⟨by omega, by omega⟩ (by omega)
        rw [← es] at nx
        refine bk W 0 [8, 9, 10, 11, 12, 13, 14, 15, 16] rfl rfl (nx)
      · have h5 : y * s ≤ r' := by unfold sgn at h4; omega
        obtain rfl : s = Q := by
          have h6 : s * y < (Q + 1) * y := by rw [Nat.mul_comm s]; omega
          have := Nat.lt_of_mul_lt_mul_right h6
          omega
        have k12 := l5Sub_ok r' (y * s) h5 (by omega)
        refine ce W 0 rfl rfl k12 rfl ?_ (hc := by simp only [AllC, hq, addN, Int.toNat_natCast, true_and, and_true]; omega)
        have eB : x / 65536 ^ t = y * (65536 * Q0 + s) + (r' - y * s) := by
          rw [hB, ← hA, Nat.mul_add, Nat.mul_add, Nat.mul_left_comm 65536 y Q0]
          omega
        have hlt2 : r' - y * s < y := by rw [Nat.succ_mul, Nat.mul_comm s] at hQ3; omega
        have eB1 : x / 65536 ^ t / y = 65536 * Q0 + s := by
          rw [eB, Nat.mul_add_div hy0, Nat.div_eq_of_lt hlt2, Nat.add_zero]
        have eB2 : x / 65536 ^ t % y = r' - y * s := by
          rw [eB, Nat.mul_add_mod, Nat.mod_eq_of_lt hlt2]
        have nx := ih (t, q.set t s) ⟨by dsimp only; omega, by simpa using hq, ?_, fun j => ?_⟩ (by dsimp only; omega)
        · dsimp only at nx
          rw [eB2] at nx
          refine bk W 0 [8, 9, 10, 11, 12, 13, 14] rfl rfl nx (hc := by simp only [AllC, hq, addN, Int.toNat_natCast, true_and, and_true, List.length_set]; omega)
        · dsimp only
          have hqt := (hd t).2.2 (by omega)
          rw [val_set _ _ _ (by omega), hqt, hvq, eB1, Nat.pow_succ, Nat.mul_add, Int.sub_zero, Nat.mul_assoc]
          simp
        · dsimp only
          rw [getD_set _ _ _ _ (by omega)]
          have := hd j
          split <;> omega
  · obtain rfl : t = 0 := by omega
    have dl : Dgs q := dgs_of_getD fun j hj => by have := hd j; omega
    simp only [Nat.pow_zero, Nat.div_one, Nat.one_mul] at hvq ⊢
    have hm := Nat.mod_lt a (show 0 < b by omega)
    have k8 := l5DivSmall_ok (x % y) u hu1 hu3 (by have := dig_len_mono (Nat.mod_le x y); omega)
    rw [hmod, Nat.mul_div_cancel _ hu1] at k8
    rw [hmod]
    refine ce W 0 rfl rfl (k8) rfl ?_
    refine cf W 0 [0] [17] rfl rfl rfl rfl rfl rfl (l5Trim_ok q (by omega)) rfl ?_
    rw [trimL_dig dl, hvq, Int.toNat_natCast, hdiv]
    refine rp W 0 rfl rfl rfl (.refl)
end Pf
/- A temporary's value said otherwise. -/
namespace Pf
open Go
variable {P : Program} {TT : TypeId → Option TI} {f N n0 : Nat} {k : List Item} {T : Env} {H : AHeap} {R : AV → AHeap → Prop}
/-- The temporary 'd' is said to hold u, which is so wherever it holds v. -/
theorem go_sub (d : Nat) (u : AV) {v : AV} {T1 : Env} (e : getM T d = some v) (hs : Sub v u) (e1 : putM d u T = some T1) (h : AGo P f N n0 k T1 H R) : AGo P f N n0 k T H R :=
  fun FM β b cs a w a1 a2 a3 a4 hT hH hl => h FM β b cs a w a1 a2 a3 a4 (hT.refine e1 (hs _ _ _ (hT _ _ e))) hH hl
end Pf
/- Fractions: the model's own parts -/
namespace Pf
open Go Go.Proofs
theorem l5Gcd_ok (a b : Nat) (ha : (dig a).length ≤ 800000) (hb : (dig b).length ≤ 800000) : AFunP Try.prog 36 [.fi .i64 (dig a), .fi .i64 (dig b)] (· = .fi .i64 (dig (Nat.gcd a b))) := by
  refine afun_of Try.func36 Try.call36 rfl Try.ntmps36 rfl ?_
  have W : Walk Try.prog TT 36 _ := Walk.of TT_ok Try.func36 Try.results36
  have k1 := l5Trim_ok (dig a) (by omega)
  have k2 := l5Trim_ok (dig b) (by omega)
  rw [trimL_dig (dig_dgs _), val_dig, Int.toNat_natCast] at k1 k2
  refine ce W 0 rfl rfl (k1) rfl ?_
  refine ce W 0 rfl rfl (k2) rfl ?_
  refine lp W 0 (σ := Nat × Nat) (fun s => [(5, .fi .i64 (dig s.1)), (6, .fi .i64 (dig s.2))]) (fun _ => []) (fun s => s.2)
    (fun s => Nat.gcd s.1 s.2 = Nat.gcd a b ∧ (dig s.1).length ≤ 800000 ∧ (dig s.2).length ≤ 800000) (a, b) [5, 6] rfl rfl rfl ⟨rfl, ha, hb⟩ ?_
  rintro ⟨x, y⟩ ⟨h1, h2, h3⟩ ih
  dsimp only at h1 h2 h3 ih ⊢
  refine sp W 0 rfl rfl rfl (fun h4 => ?_) (fun h4 => ?_)
  · have hy : y ≠ 0 := by rintro rfl; simp [dig_zero] at h4
    refine ce W 0 rfl rfl (l5Div_ok x y hy (by omega) (by omega)) rfl ?_
    have hm := Nat.mod_lt x (show 0 < y by omega)
    refine bk W 0 [5, 6] rfl rfl (ih (y, x % y) ⟨by dsimp only; rw [← h1, Nat.gcd_comm, ← Nat.gcd_rec, Nat.gcd_comm], h3, Nat.le_trans (dig_len_mono (Nat.le_of_lt hm)) h3⟩ hm)
  · have hy : y = 0 := dig_nil.1 (List.eq_nil_of_length_eq_zero (by omega))
    subst hy
    rw [Nat.gcd_zero_right] at h1
    refine rp W 0 rfl rfl rfl (.fi (by rw [h1]))
theorem bitL_len {a : Nat} : bitL a ≤ 16 * (dig a).length := by
  rw [bitL_lt, show (2 : Nat) ^ (16 * (dig a).length) = (2 ^ 16) ^ (dig a).length from Nat.pow_mul 2 16 _]
  exact dig_lt (Nat.le_refl _)
theorem l5Root_ok (a : Nat) (ha : (dig a).length ≤ 10000) : AFunP Try.prog 76 [.fi .i64 (dig a)] (· = .fi .i64 (dig (isq a))) := by
  refine afun_of Try.func76 Try.call76 rfl Try.ntmps76 rfl ?_
  have W : Walk Try.prog TT 76 _ := Walk.of TT_ok Try.func76 Try.results76
  refine ce W 0 rfl rfl (l5Bits_ok a (by omega)) rfl ?_
  have hbl := bitL_len (a := a)
  have hlt := (bitL_lt (bitL a) a).1 (Nat.le_refl _)
  generalize hB : bitL a = B at *
  refine atl W rfl ?_
  refine go_sub 3 (.fi .i64 (dig 0)) rfl (by rw [dig_zero]; exact .nils_fi) rfl ?_
  refine lp W 0 (σ := Nat × Nat) (fun s => [(0, .fi .i64 (dig a)), (3, .fi .i64 (dig s.2)), (4, .int .i64 ((s.1 : Int) - 1))]) (fun _ => []) (fun s => s.1)
    (fun s => s.1 ≤ (B + 1) / 2 + 1 ∧ s.2 * s.2 ≤ a ∧ a < (s.2 + 2 ^ s.1) * (s.2 + 2 ^ s.1)) ((B + 1) / 2 + 1, 0) [0, 3, 4] rfl ?_ rfl ⟨Nat.le_refl _, by simp, ?_⟩ ?_
  · have e : ((((B + 1) / 2 + 1 : Nat) : Int) - 1) = ((B : Int) + 1) / 2 := by omega
    dsimp only
    rw [e]; rfl
  · dsimp only
    rw [Nat.zero_add, ← Nat.pow_add]
    exact Nat.lt_of_lt_of_le hlt (Nat.pow_le_pow_right (by omega) (by omega))
  rintro ⟨k, r⟩ ⟨h1, h2, h3⟩ ih
  dsimp only at h1 h2 h3 ih ⊢
  refine sp W 0 rfl rfl rfl (fun h4 => ?_) (fun h4 => ?_)
  · obtain ⟨k, rfl⟩ : ∃ m, k = m + 1 := ⟨k - 1, by omega⟩
    have et : (((k + 1 : Nat) : Int) - 1) = (k : Int) := by omega
    rw [et]
    have hr1 : r ≤ a := Nat.le_trans (Nat.le_mul_self r) h2
    have hrl := dig_len_mono hr1
    have hpl : (dig (2 ^ k)).length ≤ 10000 := by
      obtain ⟨n, hn⟩ : ∃ n, n = 10000 := ⟨_, rfl⟩
      rw [← hn, dig_len_le, show (65536 : Nat) ^ n = (2 ^ 16) ^ n from rfl, ← Nat.pow_mul]
      exact Nat.pow_lt_pow_right (by omega) (by omega)
    have hsl : (dig (r + 2 ^ k)).length ≤ 10001 := dig_len_add (by omega) hpl
    have hml : (dig ((r + 2 ^ k) * (r + 2 ^ k))).length ≤ 10001 + 10001 := dig_len_mul hsl hsl
    refine ce W 0 rfl rfl (l5Pow2_ok k (by omega)) rfl ?_
    refine ce W 0 rfl rfl (l5Add_ok r (2 ^ k) (by omega) (by omega)) rfl ?_
    refine ce W 0 rfl rfl (l5Mul_ok (r + 2 ^ k) (r + 2 ^ k) (by omega) (by omega)) rfl ?_
    refine ce W 0 rfl rfl (l5Cmp_ok ((r + 2 ^ k) * (r + 2 ^ k)) a (by omega) (by omega)) rfl ?_
    have e2 : r + 2 ^ (k + 1) = r + 2 ^ k + 2 ^ k := by rw [Nat.pow_succ]; omega
    refine sp W 0 rfl rfl rfl (fun h5 => ?_) (fun h5 => ?_)
    · have h6 : (r + 2 ^ k) * (r + 2 ^ k) ≤ a := by unfold sgn at h5; omega
      refine bk W 0 [0, 3, 4] rfl rfl (ih (k, r + 2 ^ k) ⟨by dsimp only; omega, h6, by dsimp only; rw [← e2]; exact h3⟩ (by dsimp only; omega))
    · have h6 : a < (r + 2 ^ k) * (r + 2 ^ k) := by unfold sgn at h5; omega
      refine bk W 0 [0, 3, 4] rfl rfl (ih (k, r) ⟨by dsimp only; omega, h2, h6⟩ (by dsimp only; omega))
  · obtain rfl : k = 0 := by omega
    have := isq_eq h2 (by simpa using h3)
    refine rp W 0 rfl rfl rfl (.fi (by rw [this]))
theorem l6One_ok (l : List Int) (h : l.length ≤ 1000000000) : AFunP Try.prog 35 [.fi .i64 l] (· = .pr (l = [1])) := by
  refine afun_of Try.func35 Try.call35 rfl Try.ntmps35 rfl ?_
  have W : Walk Try.prog TT 35 _ := Walk.of TT_ok Try.func35 Try.results35
  refine sp W 0 rfl rfl rfl (fun h1 => ?_) (fun h1 => ?_)
  · obtain ⟨d, rfl⟩ : ∃ d, l = [d] := List.length_eq_one_iff.1 (by omega)
    refine rp W 0 rfl rfl rfl (.pr (by simp))
  · refine rp W 0 rfl rfl rfl (.no (by rintro rfl; simp at h1))
theorem specFracOk_ok (p : Prop) (t u : List Int) (ht : t.length ≤ 9223372036854775806) (hu : u.length ≤ 9223372036854775806) : AFunP Try.prog 10 [frF p t u] (· = .pr (frOk p t u)) := by
  refine afun_of Try.func10 Try.call10 rfl Try.ntmps10 rfl ?_
  have W : Walk Try.prog TT 10 _ := Walk.of TT_ok Try.func10 Try.results10
  refine ce W 0 rfl rfl (specNatOk_ok t ht) rfl ?_
  refine sp W 0 rfl rfl rfl (fun h1 => ?_) (fun h1 => ?_)
  · refine rp W 0 rfl rfl rfl (.no (fun h => h1 h.1))
  · have h1 := Classical.not_not.1 h1
    refine ce W 0 rfl rfl (specNatOk_ok u hu) rfl ?_
    refine sp W 0 rfl rfl rfl (fun h2 => ?_) (fun h2 => ?_)
    · refine rp W 0 rfl rfl rfl (.no (fun h => h2 h.2.1))
    · have h2 := Classical.not_not.1 h2
      have l1 := h1.1
      have l2 := h2.1
      obtain ⟨a, rfl, ha⟩ := natOk_dig h1
      obtain ⟨b, rfl, hb⟩ := natOk_dig h2
      have va : (val (dig a)).toNat = a := by rw [val_dig]; simp
      have vb : (val (dig b)).toNat = b := by rw [val_dig]; simp
      unfold frOk
      rw [va, vb]
      have hb0 : ¬ ((dig b).length : Int) = 0 → 0 < b := fun h => by
        rcases Nat.eq_zero_or_pos b with h0 | h0
        · subst h0; simp [dig_zero] at h
        · exact h0
      have g1 : dig (Nat.gcd a b) = [1] → Nat.gcd a b = 1 := fun h => dig_inj (h.trans dig_one.symm)
      refine sp W 0 rfl rfl rfl (fun h3 => ?_) (fun h3 => ?_)
      · refine rp W 0 rfl rfl rfl (.no (fun h => h.2.2.1 (List.eq_nil_of_length_eq_zero (by omega))))
      · refine sp W 0 rfl rfl rfl (fun h4 => ?_) (fun h4 => ?_)
        · refine sp W 0 rfl rfl rfl (fun h5 => ?_) (fun h5 => ?_)
          · refine rp W 0 rfl rfl rfl (.no (fun h => h.2.2.2.1 (List.eq_nil_of_length_eq_zero (by omega)) h5))
          · refine ce W 0 rfl rfl (l5Gcd_ok a b (by omega) (by omega)) rfl ?_
            refine ce W 0 rfl rfl (l6One_ok (dig (Nat.gcd a b)) (Nat.le_trans (dig_len_mono (Nat.gcd_le_right a (hb0 h3))) (by omega))) rfl ?_
            refine rp W 0 rfl rfl rfl (.pr ⟨fun h => ⟨h1, h2, fun h => h3 (by rw [h]; rfl), fun _ => h5, g1 h⟩, fun h => by rw [h.2.2.2.2, dig_one]⟩)
        · refine ce W 0 rfl rfl (l5Gcd_ok a b (by omega) (by omega)) rfl ?_
          refine ce W 0 rfl rfl (l6One_ok (dig (Nat.gcd a b)) (Nat.le_trans (dig_len_mono (Nat.gcd_le_right a (hb0 h3))) (by omega))) rfl ?_
          refine rp W 0 rfl rfl rfl (.pr ⟨fun h => ⟨h1, h2, fun h => h3 (by rw [h]; rfl), fun h => absurd (by rw [h]; rfl) h4, g1 h⟩, fun h => by rw [h.2.2.2.2, dig_one]⟩)
open Classical in
/-- A fraction of a and b, in lowest terms, if it has not too many digits. -/
noncomputable def made (p : Prop) (a b : Nat) : AV := if (dig (a / Nat.gcd a b)).length ≤ 256 ∧ (dig (b / Nat.gcd a b)).length ≤ 256 then .tup [frF (p ∧ a ≠ 0) (dig (a / Nat.gcd a b)) (dig (b / Nat.gcd a b)), .pr True] else .tup [frF False [] [], .pr False]
theorem l6Make_ok (p : Prop) (a b : Nat) (hb : b ≠ 0) (ha : (dig a).length ≤ 100000) (hbl : (dig b).length ≤ 100000) : AFunP Try.prog 42 [.pr p, .fi .i64 (dig a), .fi .i64 (dig b)] (· = made p a b) := by
  refine afun_of Try.func42 Try.call42 rfl Try.ntmps42 rfl ?_
  have W : Walk Try.prog TT 42 _ := Walk.of TT_ok Try.func42 Try.results42
  have hb1 : 0 < b := by omega
  refine sp W 0 rfl rfl rfl (fun h1 => ?_) (fun h1 => ?_)
  · have h0 : a = 0 := dig_nil.1 (List.eq_nil_of_length_eq_zero (by omega))
    subst h0
    have e : made p 0 b = .tup [frF (p ∧ 0 ≠ 0) (dig 0) (dig 1), .pr True] := by
      unfold made
      rw [Nat.gcd_zero_left, Nat.zero_div, Nat.div_self hb1, if_pos ⟨by simp [dig_zero], by simp [dig_one]⟩]
    rw [e, dig_zero, dig_one]
    refine rp W 0 rfl rfl rfl (.tup ⟨.agg ⟨.no (by simp), .nils_fi, .refl, trivial⟩, .yes trivial, trivial⟩)
  · have h0 : a ≠ 0 := fun h => h1 (by rw [h, dig_zero]; rfl)
    have hg := dig_len_mono (Nat.gcd_le_right a hb1)
    have hg0 : Nat.gcd a b ≠ 0 := by have := Nat.gcd_pos_of_pos_right a hb1; omega
    have hla := dig_len_mono (Nat.div_le_self a (Nat.gcd a b))
    have hlb := dig_len_mono (Nat.div_le_self b (Nat.gcd a b))
    refine ce W 0 rfl rfl (l5Gcd_ok a b (by omega) (by omega)) rfl ?_
    refine ce W 0 rfl rfl (l5Div_ok a (Nat.gcd a b) hg0 (by omega) (by omega)) rfl ?_
    refine ce W 0 rfl rfl (l5Div_ok b (Nat.gcd a b) hg0 (by omega) (by omega)) rfl ?_
    have no : ¬ ((dig (a / Nat.gcd a b)).length ≤ 256 ∧ (dig (b / Nat.gcd a b)).length ≤ 256) → made p a b = .tup [frF False [] [], .pr False] := fun h => if_neg h
    refine sp W 0 rfl rfl rfl (fun h2 => ?_) (fun h2 => ?_)
    · rw [no (by omega)]
      refine rp W 0 rfl rfl rfl (.tup ⟨.agg ⟨.no id, .nils_fi, .nils_fi, trivial⟩, .no id, trivial⟩)
    · refine sp W 0 rfl rfl rfl (fun h3 => ?_) (fun h3 => ?_)
      · rw [no (by omega)]
        refine rp W 0 rfl rfl rfl (.tup ⟨.agg ⟨.no id, .nils_fi, .nils_fi, trivial⟩, .no id, trivial⟩)
      · have e : made p a b = _ := if_pos ⟨by omega, by omega⟩
        rw [e]
        refine rp W 0 rfl rfl rfl (.tup ⟨.agg ⟨.pr (by simp [h0]), .refl, .refl, trivial⟩, .yes trivial, trivial⟩)
theorem l6Neg_ok (p : Prop) (t u : List Int) (ht : natOk t) (hu : natOk u) : AFunP Try.prog 33 [frF p t u] (· = frF (¬ p ∧ t ≠ []) t u) := by
  refine afun_of Try.func33 Try.call33 rfl Try.ntmps33 rfl ?_
  have W : Walk Try.prog TT 33 _ := Walk.of TT_ok Try.func33 Try.results33
  have l1 := ht.1
  have l2 := hu.1
  have k1 := l5Trim_ok t (by omega)
  have k2 := l5Trim_ok u (by omega)
  obtain ⟨a, rfl, ha⟩ := natOk_dig ht
  obtain ⟨b, rfl, hb⟩ := natOk_dig hu
  rw [trimL_dig (dig_dgs _), val_dig, Int.toNat_natCast] at k1 k2
  by_cases hp : p
  · refine dre W 0 15 [(6, false)] [.fi .i64 (dig a), .fi .i64 (dig b)] rfl rfl rfl ⟨k1.at rfl _, k2.at rfl _, trivial⟩ rfl ?_
    refine rp W 0 rfl rfl rfl (.agg ⟨.no (fun h => h.1 hp), .refl, .refl, trivial⟩)
  · refine dre W 0 15 [(6, true)] [.fi .i64 (dig a), .fi .i64 (dig b)] rfl rfl rfl ⟨k1.at rfl _, k2.at rfl _, trivial⟩ rfl ?_
    refine rp W 0 rfl rfl rfl (.agg ⟨.pr (by rw [len_nil]; exact ⟨fun h => ⟨hp, h⟩, fun h => h.2⟩), .refl, .refl, trivial⟩)
theorem l6Sum_ok (p q : Prop) (a b c d : Nat) (ha : (dig a).length ≤ 1000) (hbl : (dig b).length ≤ 1000) (hc : (dig c).length ≤ 1000) (hdl : (dig d).length ≤ 1000) :
    AFunP Try.prog 32 [frF p (dig a) (dig b), frF q (dig c) (dig d)] (· = .tup [.pr (sumP p q (a * d) (c * b)), .fi .i64 (dig (sumT p q (a * d) (c * b))), .fi .i64 (dig (b * d))]) := by
  refine afun_of Try.func32 Try.call32 rfl Try.ntmps32 rfl ?_
  have W : Walk Try.prog TT 32 _ := Walk.of TT_ok Try.func32 Try.results32
  have l1 : (dig (a * d)).length ≤ 1000 + 1000 := dig_len_mul ha hdl
  have l2 : (dig (c * b)).length ≤ 1000 + 1000 := dig_len_mul hc hbl
  have l3 : (dig (b * d)).length ≤ 1000 + 1000 := dig_len_mul hbl hdl
  refine ce W 0 rfl rfl (l5Mul_ok a d (by omega) (by omega)) rfl ?_
  refine ce W 0 rfl rfl (l5Mul_ok c b (by omega) (by omega)) rfl ?_
  refine ce W 0 rfl rfl (l5Mul_ok b d (by omega) (by omega)) rfl ?_
  have l4 := dig_len_add l1 l2
  refine sp W 0 rfl rfl rfl (fun h1 => ?_) (fun h1 => ?_)
  · have e : sumT p q (a * d) (c * b) = a * d + c * b := by simp [sumT, h1]
    have e2 : p ↔ sumP p q (a * d) (c * b) := by unfold sumP; split <;> simp [h1]
    refine phg W 0 8 [] rfl rfl (fun PW => ?_)
    refine phe PW 0 [] [.fi .i64 (dig (a * d + c * b))] rfl ⟨(l5Add_ok (a * d) (c * b) (by omega) (by omega)).at rfl _, trivial⟩ rfl ?_
    refine rp W 0 rfl rfl rfl (.tup ⟨.pr e2, .fi (by rw [e]), .refl, trivial⟩)
  · refine ce W 0 rfl rfl (l5Cmp_ok (a * d) (c * b) (by omega) (by omega)) rfl ?_
    refine sp W 0 rfl rfl rfl (fun h2 => ?_) (fun h2 => ?_)
    · have h3 : c * b ≤ a * d := by unfold sgn at h2; omega
      have e : sumT p q (a * d) (c * b) = a * d - c * b := by simp [sumT, h1, h3]
      have e2 : p ↔ sumP p q (a * d) (c * b) := by simp [sumP, h3]
      refine phg W 0 8 [] rfl rfl (fun PW => ?_)
      refine phe PW 0 [] [.fi .i64 (dig (a * d - c * b))] rfl ⟨(l5Sub_ok (a * d) (c * b) h3 (by omega)).at rfl _, trivial⟩ rfl ?_
      refine rp W 0 rfl rfl rfl (.tup ⟨.pr e2, .fi (by rw [e]), .refl, trivial⟩)
    · have h3 : ¬ c * b ≤ a * d := by unfold sgn at h2; omega
      have e : sumT p q (a * d) (c * b) = c * b - a * d := by simp [sumT, h1, h3]
      have e2 : q ↔ sumP p q (a * d) (c * b) := by simp [sumP, h3]
      refine phg W 0 8 [] rfl rfl (fun PW => ?_)
      refine phe PW 0 [] [.fi .i64 (dig (c * b - a * d))] rfl ⟨(l5Sub_ok (c * b) (a * d) (by omega) (by omega)).at rfl _, trivial⟩ rfl ?_
      refine rp W 0 rfl rfl rfl (.tup ⟨.pr e2, .fi (by rw [e]), .refl, trivial⟩)
end Pf
/- Fractions: the model's sums and products -/
namespace Pf
open Go Go.Proofs
open Classical in
/-- A fraction and true; nothing and false. -/
noncomputable def resF (ok p : Prop) (t u : List Int) : AV := if ok then .tup [frF p t u, .pr True] else .tup [frF False [] [], .pr False]
theorem resF_no {ok p : Prop} {t u : List Int} (h : ¬ ok) : resF ok p t u = .tup [frF False [] [], .pr False] := if_neg h
theorem resF_yes {ok p : Prop} {t u : List Int} (h : ok) : resF ok p t u = .tup [frF p t u, .pr True] := if_pos h
theorem sub_noF : Sub (.tup [.agg [.bool false, .nils, .nils], .bool false]) (.tup [frF False [] [], .pr False]) := .tup ⟨.agg ⟨.no id, .nils_fi, .nils_fi, trivial⟩, .no id, trivial⟩
/-- The number of digits. -/
def nm (l : List Int) : Nat := (val l).toNat
theorem nm_dig (a : Nat) : nm (dig a) = a := by unfold nm; rw [val_dig]; simp
/-- In lowest terms. -/
def lT (a b : Nat) : List Int := dig (a / Nat.gcd a b)
def lB (a b : Nat) : List Int := dig (b / Nat.gcd a b)
def fits (a b : Nat) : Prop := (lT a b).length ≤ 256 ∧ (lB a b).length ≤ 256
theorem made_eq (p : Prop) (a b : Nat) : made p a b = resF (fits a b) (p ∧ a ≠ 0) (lT a b) (lB a b) := by
  unfold made
  by_cases h : fits a b
  · rw [resF_yes h]; exact if_pos h
  · rw [resF_no h]; exact if_neg h
theorem frOk_dig {p : Prop} {t u : List Int} (h : frOk p t u) : ∃ a b : Nat, t = dig a ∧ u = dig b ∧ (dig a).length ≤ 256 ∧ (dig b).length ≤ 256 ∧ b ≠ 0 ∧ (a = 0 → ¬ p) ∧ Nat.gcd a b = 1 := by
  obtain ⟨a, rfl, ha⟩ := natOk_dig h.1
  obtain ⟨b, rfl, hb⟩ := natOk_dig h.2.1
  refine ⟨a, b, rfl, rfl, ha, hb, fun h0 => h.2.2.1 (by rw [h0, dig_zero]), fun h0 => h.2.2.2.1 (by rw [h0, dig_zero]), ?_⟩
  have := h.2.2.2.2
  rw [val_dig, val_dig] at this
  simpa using this
noncomputable def negR (p : Prop) (t u : List Int) : AV := resF (frOk p t u) (¬ p ∧ t ≠ []) t u
theorem specFracNeg_ok (p : Prop) (t u : List Int) (ht : t.length ≤ 1048576) (hu : u.length ≤ 1048576) : AFunP Try.prog 57 [frF p t u] (· = negR p t u) := by
  refine afun_of Try.func57 Try.call57 rfl Try.ntmps57 rfl ?_
  have W : Walk Try.prog TT 57 _ := Walk.of TT_ok Try.func57 Try.results57
  refine ce W 0 rfl rfl (specFracOk_ok p t u (by omega) (by omega)) rfl ?_
  refine sp W 0 rfl rfl rfl (fun h1 => ?_) (fun h1 => ?_)
  · unfold negR; rw [resF_no h1]
    refine rp W 0 rfl rfl rfl (sub_noF)
  · have h1 := Classical.not_not.1 h1
    refine ce W 0 rfl rfl (l6Neg_ok p t u h1.1 h1.2.1) rfl ?_
    unfold negR; rw [resF_yes h1]
    refine rp W 0 rfl rfl rfl (.tup ⟨.refl, .yes trivial, trivial⟩)
noncomputable def mulR (p : Prop) (t u : List Int) (q : Prop) (x y : List Int) : AV :=
  resF ((frOk p t u ∧ frOk q x y) ∧ fits (nm t * nm x) (nm u * nm y)) (¬ (p ↔ q) ∧ nm t * nm x ≠ 0) (lT (nm t * nm x) (nm u * nm y)) (lB (nm t * nm x) (nm u * nm y))
noncomputable def divR (p : Prop) (t u : List Int) (q : Prop) (x y : List Int) : AV :=
  resF ((frOk p t u ∧ frOk q x y ∧ x ≠ []) ∧ fits (nm t * nm y) (nm u * nm x)) (¬ (p ↔ q) ∧ nm t * nm y ≠ 0) (lT (nm t * nm y) (nm u * nm x)) (lB (nm t * nm y) (nm u * nm x))
noncomputable def sT (p : Prop) (t u : List Int) (q : Prop) (x y : List Int) : Nat := sumT p q (nm t * nm y) (nm x * nm u)
noncomputable def sP (p : Prop) (t u : List Int) (q : Prop) (x y : List Int) : Prop := sumP p q (nm t * nm y) (nm x * nm u)
noncomputable def addR (p : Prop) (t u : List Int) (q : Prop) (x y : List Int) : AV :=
  resF ((frOk p t u ∧ frOk q x y) ∧ fits (sT p t u q x y) (nm u * nm y)) (sP p t u q x y ∧ sT p t u q x y ≠ 0) (lT (sT p t u q x y) (nm u * nm y)) (lB (sT p t u q x y) (nm u * nm y))
theorem sT_len {p q : Prop} {a b c d : Nat} (ha : (dig a).length ≤ 1000) (hbl : (dig b).length ≤ 1000) (hc : (dig c).length ≤ 1000) (hdl : (dig d).length ≤ 1000) : (dig (sumT p q (a * d) (c * b))).length ≤ 2001 := by
  have l1 : (dig (a * d)).length ≤ 1000 + 1000 := dig_len_mul ha hdl
  have l2 : (dig (c * b)).length ≤ 1000 + 1000 := dig_len_mul hc hbl
  have l4 := dig_len_add l1 l2
  have : sumT p q (a * d) (c * b) ≤ a * d + c * b := by unfold sumT; split <;> (try split) <;> omega
  exact Nat.le_trans (dig_len_mono this) l4
theorem specFracMul_ok (p q : Prop) (t u x y : List Int) (ht : t.length ≤ 1048576) (hu : u.length ≤ 1048576) (hx : x.length ≤ 1048576) (hy : y.length ≤ 1048576) : AFunP Try.prog 18 [frF p t u, frF q x y] (· = mulR p t u q x y) := by
  refine afun_of Try.func18 Try.call18 rfl Try.ntmps18 rfl ?_
  have W : Walk Try.prog TT 18 _ := Walk.of TT_ok Try.func18 Try.results18
  refine ce W 0 rfl rfl (specFracOk_ok p t u (by omega) (by omega)) rfl ?_
  refine sp W 0 rfl rfl rfl (fun h1 => ?_) (fun h1 => ?_)
  · unfold mulR; rw [resF_no (fun h => h1 h.1.1)]
    refine rp W 0 rfl rfl rfl (sub_noF)
  · refine ce W 0 rfl rfl (specFracOk_ok q x y (by omega) (by omega)) rfl ?_
    have h1 := Classical.not_not.1 h1
    refine sp W 0 rfl rfl rfl (fun h2 => ?_) (fun h2 => ?_)
    · unfold mulR; rw [resF_no (fun h => h2 h.1.2)]
      refine rp W 0 rfl rfl rfl (sub_noF)
    · have h2 := Classical.not_not.1 h2
      have e : mulR p t u q x y = made (¬ (p ↔ q)) (nm t * nm x) (nm u * nm y) := by
        unfold mulR; rw [made_eq]; congr 1
        exact propext ⟨fun h => h.2, fun h => ⟨⟨h1, h2⟩, h⟩⟩
      obtain ⟨a, b, rfl, rfl, ha, hb, hb0, hap, hab⟩ := frOk_dig h1
      obtain ⟨c, d, rfl, rfl, hc, hd, hd0, hcq, hcd⟩ := frOk_dig h2
      rw [e, nm_dig, nm_dig, nm_dig, nm_dig]
      have l1 : (dig (a * c)).length ≤ 1000 + 1000 := dig_len_mul (by omega) (by omega)
      have l2 : (dig (b * d)).length ≤ 1000 + 1000 := dig_len_mul (by omega) (by omega)
      have k := l6Make_ok (¬ (p ↔ q)) (a * c) (b * d) (Nat.mul_ne_zero hb0 hd0) (by omega) (by omega)
      rw [made_eq] at k ⊢
      generalize lT (a * c) (b * d) = T at *
      generalize lB (a * c) (b * d) = U at *
      by_cases hf : fits (a * c) (b * d)
      · rw [resF_yes hf] at k ⊢
        refine dre W 0 18 [] [.fi .i64 (dig (a * c)), .fi .i64 (dig (b * d)), .tup [frF (¬ (p ↔ q) ∧ a * c ≠ 0) T U, .pr True]] rfl rfl rfl ⟨(l5Mul_ok a c (by omega) (by omega)).at rfl _, (l5Mul_ok b d (by omega) (by omega)).at rfl _, k.at rfl _, trivial⟩ rfl ?_
        refine rp W 0 rfl rfl rfl (.refl)
      · rw [resF_no hf] at k ⊢
        refine dre W 0 18 [] [.fi .i64 (dig (a * c)), .fi .i64 (dig (b * d)), .tup [frF False [] [], .pr False]] rfl rfl rfl ⟨(l5Mul_ok a c (by omega) (by omega)).at rfl _, (l5Mul_ok b d (by omega) (by omega)).at rfl _, k.at rfl _, trivial⟩ rfl ?_
        refine rp W 0 rfl rfl rfl (.refl)
theorem specFracAdd_ok (p q : Prop) (t u x y : List Int) (ht : t.length ≤ 1048576) (hu : u.length ≤ 1048576) (hx : x.length ≤ 1048576) (hy : y.length ≤ 1048576) : AFunP Try.prog 16 [frF p t u, frF q x y] (· = addR p t u q x y) := by
  refine afun_of Try.func16 Try.call16 rfl Try.ntmps16 rfl ?_
  have W : Walk Try.prog TT 16 _ := Walk.of TT_ok Try.func16 Try.results16
  refine ce W 0 rfl rfl (specFracOk_ok p t u (by omega) (by omega)) rfl ?_
  refine sp W 0 rfl rfl rfl (fun h1 => ?_) (fun h1 => ?_)
  · unfold addR; rw [resF_no (fun h => h1 h.1.1)]
    refine rp W 0 rfl rfl rfl (sub_noF)
  · refine ce W 0 rfl rfl (specFracOk_ok q x y (by omega) (by omega)) rfl ?_
    have h1 := Classical.not_not.1 h1
    refine sp W 0 rfl rfl rfl (fun h2 => ?_) (fun h2 => ?_)
    · unfold addR; rw [resF_no (fun h => h2 h.1.2)]
      refine rp W 0 rfl rfl rfl (sub_noF)
    · have h2 := Classical.not_not.1 h2
      have e : addR p t u q x y = made (sP p t u q x y) (sT p t u q x y) (nm u * nm y) := by
        unfold addR; rw [made_eq]; congr 1
        exact propext ⟨fun h => h.2, fun h => ⟨⟨h1, h2⟩, h⟩⟩
      obtain ⟨a, b, rfl, rfl, ha, hb, hb0, hap, hab⟩ := frOk_dig h1
      obtain ⟨c, d, rfl, rfl, hc, hd, hd0, hcq, hcd⟩ := frOk_dig h2
      rw [e]
      unfold sT sP
      rw [nm_dig, nm_dig, nm_dig, nm_dig]
      have l1 := sT_len (p := p) (q := q) (a := a) (b := b) (c := c) (d := d) (by omega) (by omega) (by omega) (by omega)
      have l2 : (dig (b * d)).length ≤ 1000 + 1000 := dig_len_mul (by omega) (by omega)
      have k := l6Make_ok (sumP p q (a * d) (c * b)) (sumT p q (a * d) (c * b)) (b * d) (Nat.mul_ne_zero hb0 hd0) (by omega) (by omega)
      refine ce W 0 rfl rfl (l6Sum_ok p q a b c d (by omega) (by omega) (by omega) (by omega)) rfl ?_
      rw [made_eq] at k ⊢
      by_cases hf : fits (sumT p q (a * d) (c * b)) (b * d)
      · rw [resF_yes hf] at k ⊢
        refine ce W 0 rfl rfl (k) rfl ?_
        refine rp W 0 rfl rfl rfl (.refl)
      · rw [resF_no hf] at k ⊢
        refine ce W 0 rfl rfl (k) rfl ?_
        refine rp W 0 rfl rfl rfl (.refl)
theorem frOk_neg {q : Prop} {x y : List Int} (h : frOk q x y) : frOk (¬ q ∧ x ≠ []) x y := ⟨h.1, h.2.1, h.2.2.1, fun h0 h1 => h1.2 h0, h.2.2.2.2⟩
noncomputable def subR (p : Prop) (t u : List Int) (q : Prop) (x y : List Int) : AV :=
  resF ((frOk p t u ∧ frOk q x y) ∧ fits (sT p t u (¬ q ∧ x ≠ []) x y) (nm u * nm y)) (sP p t u (¬ q ∧ x ≠ []) x y ∧ sT p t u (¬ q ∧ x ≠ []) x y ≠ 0) (lT (sT p t u (¬ q ∧ x ≠ []) x y) (nm u * nm y)) (lB (sT p t u (¬ q ∧ x ≠ []) x y) (nm u * nm y))
theorem subR_eq {p q : Prop} {t u x y : List Int} (h : frOk q x y) : subR p t u q x y = addR p t u (¬ q ∧ x ≠ []) x y := by
  unfold subR addR; congr 1
  exact propext ⟨fun k => ⟨⟨k.1.1, frOk_neg h⟩, k.2⟩, fun k => ⟨⟨k.1.1, h⟩, k.2⟩⟩
end Pf
/- Fractions: impl's exported sums and products -/
namespace Pf
open Go Go.Proofs
/-- What a function over fractions answers: whether there is a fraction, and which. -/
structure FRes where
  ok : Prop
  p : Prop
  t : List Int
  u : List Int
noncomputable def FRes.av (r : FRes) : AV := resF r.ok r.p r.t r.u
noncomputable def negS (p : Prop) (t u : List Int) : FRes := ⟨frOk p t u, ¬ p ∧ t ≠ [], t, u⟩
noncomputable def mulS (p : Prop) (t u : List Int) (q : Prop) (x y : List Int) : FRes :=
  ⟨(frOk p t u ∧ frOk q x y) ∧ fits (nm t * nm x) (nm u * nm y), ¬ (p ↔ q) ∧ nm t * nm x ≠ 0, lT (nm t * nm x) (nm u * nm y), lB (nm t * nm x) (nm u * nm y)⟩
noncomputable def divS (p : Prop) (t u : List Int) (q : Prop) (x y : List Int) : FRes :=
  ⟨(frOk p t u ∧ frOk q x y ∧ x ≠ []) ∧ fits (nm t * nm y) (nm u * nm x), ¬ (p ↔ q) ∧ nm t * nm y ≠ 0, lT (nm t * nm y) (nm u * nm x), lB (nm t * nm y) (nm u * nm x)⟩
noncomputable def addS (p : Prop) (t u : List Int) (q : Prop) (x y : List Int) : FRes :=
  ⟨(frOk p t u ∧ frOk q x y) ∧ fits (sT p t u q x y) (nm u * nm y), sP p t u q x y ∧ sT p t u q x y ≠ 0, lT (sT p t u q x y) (nm u * nm y), lB (sT p t u q x y) (nm u * nm y)⟩
noncomputable def subS (p : Prop) (t u : List Int) (q : Prop) (x y : List Int) : FRes :=
  ⟨(frOk p t u ∧ frOk q x y) ∧ fits (sT p t u (¬ q ∧ x ≠ []) x y) (nm u * nm y), sP p t u (¬ q ∧ x ≠ []) x y ∧ sT p t u (¬ q ∧ x ≠ []) x y ≠ 0, lT (sT p t u (¬ q ∧ x ≠ []) x y) (nm u * nm y), lB (sT p t u (¬ q ∧ x ≠ []) x y) (nm u * nm y)⟩
/-- A function answers so, in new memory. -/
structure ImplF (g : FuncId) (args : List AV) (r : FRes) : Prop where
  no : ¬ r.ok → AFunP Try.prog g args (· = nilF)
  yes : r.ok → AFunN Try.prog g args (NewFT r.p r.t r.u)
  lt : r.ok → r.t.length ≤ 256
  lu : r.ok → r.u.length ≤ 256
theorem ImplF.fz {g : FuncId} {args : List AV} {r : FRes} (h : ImplF g args r) {ss : List Prop} (e : mapF (frz (fun _ => true) [] 9) args = some (ss, args)) (hs : AllC ss) (hc : cloL args = true) : AFunP Try.prog g args (· = r.av) := by
  by_cases ho : r.ok
  · refine (h.yes ho).toP e hs hc fun u H2 ⟨h1, h2⟩ => ?_
    subst h1; subst h2
    exact ⟨_, _, .tup [frF r.p r.t r.u, .pr True], rfl, ⟨⟨trivial, rfl, rfl⟩, rfl, rfl⟩, .refl, rfl, (resF_yes ho).symm⟩
  · have e : r.av = _ := resF_no ho
    rw [e]; exact (h.no ho).subv sub_noF rfl
theorem fracs_ok (l : List (Prop × List Int × List Int)) (hl : l.length ≤ 1000000) (hs : ∀ a ∈ l, a.2.1.length ≤ 1048576 ∧ a.2.2.length ≤ 1048576) : AFunP Try.prog 30 [.fz l.length fun i => [.pr (l.getD i (False, [], [])).1, .fi .i64 (l.getD i (False, [], [])).2.1, .fi .i64 (l.getD i (False, [], [])).2.2]] (· = .pr (∀ a ∈ l, frOk a.1 a.2.1 a.2.2)) := by
  refine afun_of Try.func30 Try.call30 rfl Try.ntmps30 rfl ?_
  have W : Walk Try.prog TT 30 _ := Walk.of TT_ok Try.func30 Try.results30
  refine lp W 0 (σ := Nat) (fun i => [(5, .fz l.length fun i => [.pr (l.getD i (False, [], [])).1, .fi .i64 (l.getD i (False, [], [])).2.1, .fi .i64 (l.getD i (False, [], [])).2.2]), (6, .int .i64 l.length), (7, .int .i64 i)]) (fun _ => []) (fun i => l.length - i)
    (fun i => i ≤ l.length ∧ ∀ j, j < i → frOk (l.getD j (False, [], [])).1 (l.getD j (False, [], [])).2.1 (l.getD j (False, [], [])).2.2) 0 [5, 6, 7] rfl rfl rfl ⟨Nat.zero_le _, fun j hj => by omega⟩ ?_
  rintro i ⟨hi, he⟩ ih
  refine sp W 0 rfl rfl rfl (fun h1 => ?_) (fun h1 => ?_)
  · have h1 : i < l.length := by omega
    have hm := getD_mem (d := (False, [], [])) h1
    obtain ⟨s1, s2⟩ := hs _ hm
    refine ce W 0 rfl rfl (implFracOk_ok _ (l.getD i (False, [], [])).2.1 (l.getD i (False, [], [])).2.2 (by omega) (by omega)) rfl ?_
    refine sp W 0 rfl rfl rfl (fun h2 => ?_) (fun h2 => ?_)
    · refine rp W 0 rfl rfl rfl (.no (fun h => h2 (h _ hm)))
    · refine bd W 0 0 [5, 6, 7] rfl rfl rfl rfl rfl (ih (i + 1) ⟨by omega, fun j hj => ?_⟩ (by omega))
      by_cases hji : j = i
      · subst hji; exact Classical.not_not.1 h2
      · exact he j (by omega)
  · have hil : i = l.length := by omega
    refine rp W 0 rfl rfl rfl (.yes (fun a ha => by obtain ⟨j, hj, rfl⟩ := mem_getD (False, [], []) ha; exact he j (by omega)))
theorem fracs2_ok (p q : Prop) (t u x y : List Int) (ht : t.length ≤ 1048576) (hu : u.length ≤ 1048576) (hx : x.length ≤ 1048576) (hy : y.length ≤ 1048576) : AFunP Try.prog 30 [.fz 2 fun i => [[AV.pr p, AV.fi .i64 t, AV.fi .i64 u], [AV.pr q, AV.fi .i64 x, AV.fi .i64 y]].getD i []] (· = .pr (frOk p t u ∧ frOk q x y)) := by
  have h := fracs_ok [(p, t, u), (q, x, y)] (by simp) (by simp; omega)
  have h2 : AFunP Try.prog 30 [.fz 2 fun i => [[AV.pr p, AV.fi .i64 t, AV.fi .i64 u], [AV.pr q, AV.fi .i64 x, AV.fi .i64 y]].getD i []] _ := AFun.sub h ⟨.fzn rfl fun i hi => by
    rcases (by omega : i = 0 ∨ i = 1) with rfl | rfl <;> rfl, trivial⟩
  refine h2.mono fun v hv => ?_
  rw [hv]; simp
theorem given_no (p : Prop) (t u : List Int) (h : ¬ (t.length ≤ 256 ∧ u.length ≤ 256)) (ht : t.length ≤ 1048576) (hu : u.length ≤ 1048576) : AFunP Try.prog 37 [frF p t u] (· = nilF) := by
  refine afun_of Try.func37 Try.call37 rfl Try.ntmps37 rfl ?_
  have W : Walk Try.prog TT 37 _ := Walk.of TT_ok Try.func37 Try.results37
  refine sp W 0 rfl rfl rfl (fun h1 => ?_) (fun h1 => ?_)
  · refine rp W 0 rfl rfl rfl (.refl)
  · refine sp W 0 rfl rfl rfl (fun h2 => ?_) (fun h2 => ?_)
    · refine rp W 0 rfl rfl rfl (.refl)
    · exact absurd ⟨by omega, by omega⟩ h
theorem implFracMul_f (p q : Prop) (t u x y : List Int) (ht : t.length ≤ 1048576) (hu : u.length ≤ 1048576) (hx : x.length ≤ 1048576) (hy : y.length ≤ 1048576) : ImplF 17 [frF p t u, frF q x y] (mulS p t u q x y) := by
  have key : frOk p t u ∧ frOk q x y → AFunP Try.prog 43 [frF p t u, frF q x y] (· = frF (mulS p t u q x y).p (mulS p t u q x y).t (mulS p t u q x y).u) ∧ (mulS p t u q x y).t.length ≤ 1048576 ∧ (mulS p t u q x y).u.length ≤ 1048576 := by
    rintro ⟨h1, h2⟩
    obtain ⟨a, b, rfl, rfl, ha, hb, hb0, hap, hab⟩ := frOk_dig h1
    obtain ⟨c, d, rfl, rfl, hc, hd, hd0, hcq, hcd⟩ := frOk_dig h2
    have l1 : (dig (a * c)).length ≤ 1000 + 1000 := dig_len_mul (by omega) (by omega)
    have l2 : (dig (b * d)).length ≤ 1000 + 1000 := dig_len_mul (by omega) (by omega)
    have k := mul_ok p q a b c d hb0 hd0 (by omega) (by omega) (by omega) (by omega)
    unfold mulS
    simp only [nm_dig]
    exact ⟨k, Nat.le_trans (dig_len_mono (Nat.div_le_self _ _)) (by omega), Nat.le_trans (dig_len_mono (Nat.div_le_self _ _)) (by omega)⟩
  have hok : (mulS p t u q x y).ok ↔ (frOk p t u ∧ frOk q x y) ∧ ((mulS p t u q x y).t.length ≤ 256 ∧ (mulS p t u q x y).u.length ≤ 256) := Iff.rfl
  generalize mulS p t u q x y = r at *
  refine ⟨fun h => ?no, fun h => ?yes, fun h => (hok.1 h).2.1, fun h => (hok.1 h).2.2⟩
  case no =>
    refine afun_of Try.func17 Try.call17 rfl Try.ntmps17 rfl ?_
    have W : Walk Try.prog TT 17 _ := Walk.of TT_ok Try.func17 Try.results17
    refine cf W 0 [3] [2, 3, 4, 5] rfl rfl rfl rfl rfl rfl (fracs2_ok p q t u x y ht hu hx hy) rfl ?_
    refine sp W 0 rfl rfl rfl (fun h1 => ?_) (fun h1 => ?_)
    · refine rp W 0 rfl rfl rfl (.refl)
    · have h1 := Classical.not_not.1 h1
      obtain ⟨k1, k2, k3⟩ := key h1
      refine ce W 0 rfl rfl (k1) rfl ?_
      refine ce W 0 rfl rfl (given_no r.p r.t r.u (fun h2 => h (hok.2 ⟨h1, h2⟩)) k2 k3) rfl ?_
      refine rp W 0 rfl rfl rfl (.refl)
  case yes =>
    refine afun_of Try.func17 Try.call17 rfl Try.ntmps17 rfl ?_
    have W : Walk Try.prog TT 17 _ := Walk.of TT_ok Try.func17 Try.results17
    have h1 := (hok.1 h).1
    have h2 := (hok.1 h).2
    refine cf W 0 [3] [2, 3, 4, 5] rfl rfl rfl rfl rfl rfl (fracs2_ok p q t u x y ht hu hx hy) rfl ?_
    refine sp W 0 rfl rfl rfl (fun h3 => ?_) (fun h3 => ?_)
    · exact absurd h1 h3
    · obtain ⟨k1, k2, k3⟩ := key h1
      refine ce W 0 rfl rfl (k1) rfl ?_
      refine cn W 0 rfl rfl rfl (given_new r.p r.t r.u h2.1 h2.2) ?_
      rintro _ _ ⟨rfl, rfl⟩
      refine ⟨_, _, rfl, rfl, ?_⟩
      refine rn W 0 rfl rfl rfl (.tup [.agg [.pr r.p, .sl 0 0 0 r.t.length, .sl 1 0 0 r.u.length], .pr True]) rfl .refl ⟨rfl, by simp [blksM]⟩
theorem implFracDiv_f (p q : Prop) (t u x y : List Int) (ht : t.length ≤ 1048576) (hu : u.length ≤ 1048576) (hx : x.length ≤ 1048576) (hy : y.length ≤ 1048576) : ImplF 19 [frF p t u, frF q x y] (divS p t u q x y) := by
  have key : frOk p t u ∧ frOk q x y ∧ x ≠ [] → AFunP Try.prog 45 [frF p t u, frF q x y] (· = frF (divS p t u q x y).p (divS p t u q x y).t (divS p t u q x y).u) ∧ (divS p t u q x y).t.length ≤ 1048576 ∧ (divS p t u q x y).u.length ≤ 1048576 := by
    rintro ⟨h1, h2, h3⟩
    obtain ⟨a, b, rfl, rfl, ha, hb, hb0, hap, hab⟩ := frOk_dig h1
    obtain ⟨c, d, rfl, rfl, hc, hd, hd0, hcq, hcd⟩ := frOk_dig h2
    have hc0 : c ≠ 0 := fun h => h3 (dig_nil.2 h)
    have l1 : (dig (a * d)).length ≤ 1000 + 1000 := dig_len_mul (by omega) (by omega)
    have l2 : (dig (b * c)).length ≤ 1000 + 1000 := dig_len_mul (by omega) (by omega)
    have k := div_ok p q a b c d hb0 hc0 (by omega) (by omega) (by omega) (by omega)
    unfold divS
    simp only [nm_dig]
    exact ⟨k, Nat.le_trans (dig_len_mono (Nat.div_le_self _ _)) (by omega), Nat.le_trans (dig_len_mono (Nat.div_le_self _ _)) (by omega)⟩
  have hok : (divS p t u q x y).ok ↔ (frOk p t u ∧ frOk q x y ∧ x ≠ []) ∧ ((divS p t u q x y).t.length ≤ 256 ∧ (divS p t u q x y).u.length ≤ 256) := Iff.rfl
  generalize divS p t u q x y = r at *
  refine ⟨fun h => ?no, fun h => ?yes, fun h => (hok.1 h).2.1, fun h => (hok.1 h).2.2⟩
  case no =>
    refine afun_of Try.func19 Try.call19 rfl Try.ntmps19 rfl ?_
    have W : Walk Try.prog TT 19 _ := Walk.of TT_ok Try.func19 Try.results19
    refine cf W 0 [3] [2, 3, 4, 5] rfl rfl rfl rfl rfl rfl (fracs2_ok p q t u x y ht hu hx hy) rfl ?_
    refine sp W 0 rfl rfl rfl (fun h1 => ?_) (fun h1 => ?_)
    · refine rp W 0 rfl rfl rfl (.refl)
    · have h1 := Classical.not_not.1 h1
      refine sp W 0 rfl rfl rfl (fun h5 => ?_) (fun h5 => ?_)
      · refine rp W 0 rfl rfl rfl (.refl)
      · have h5 : x ≠ [] := by rintro rfl; simp at h5
        obtain ⟨k1, k2, k3⟩ := key ⟨h1.1, h1.2, h5⟩
        refine ce W 0 rfl rfl (k1) rfl ?_
        refine ce W 0 rfl rfl (given_no r.p r.t r.u (fun h2 => h (hok.2 ⟨⟨h1.1, h1.2, h5⟩, h2⟩)) k2 k3) rfl ?_
        refine rp W 0 rfl rfl rfl (.refl)
  case yes =>
    refine afun_of Try.func19 Try.call19 rfl Try.ntmps19 rfl ?_
    have W : Walk Try.prog TT 19 _ := Walk.of TT_ok Try.func19 Try.results19
    have h1 := (hok.1 h).1
    have h2 := (hok.1 h).2
    refine cf W 0 [3] [2, 3, 4, 5] rfl rfl rfl rfl rfl rfl (fracs2_ok p q t u x y ht hu hx hy) rfl ?_
    refine sp W 0 rfl rfl rfl (fun h3 => ?_) (fun h3 => ?_)
    · exact absurd ⟨h1.1, h1.2.1⟩ h3
    · obtain ⟨k1, k2, k3⟩ := key h1
      refine sp W 0 rfl rfl rfl (fun h5 => ?_) (fun h5 => ?_)
      · exact absurd (List.eq_nil_of_length_eq_zero (by omega)) h1.2.2
      · refine ce W 0 rfl rfl (k1) rfl ?_
        refine cn W 0 rfl rfl rfl (given_new r.p r.t r.u h2.1 h2.2) ?_
        rintro _ _ ⟨rfl, rfl⟩
        refine ⟨_, _, rfl, rfl, ?_⟩
        refine rn W 0 rfl rfl rfl (.tup [.agg [.pr r.p, .sl 0 0 0 r.t.length, .sl 1 0 0 r.u.length], .pr True]) rfl .refl ⟨rfl, by simp [blksM]⟩
theorem implFracAdd_f (p q : Prop) (t u x y : List Int) (ht : t.length ≤ 1048576) (hu : u.length ≤ 1048576) (hx : x.length ≤ 1048576) (hy : y.length ≤ 1048576) : ImplF 15 [frF p t u, frF q x y] (addS p t u q x y) := by
  have key : frOk p t u ∧ frOk q x y → AFunP Try.prog 38 [frF p t u, frF q x y] (· = frF (addS p t u q x y).p (addS p t u q x y).t (addS p t u q x y).u) ∧ (addS p t u q x y).t.length ≤ 1048576 ∧ (addS p t u q x y).u.length ≤ 1048576 := by
    rintro ⟨h1, h2⟩
    obtain ⟨a, b, rfl, rfl, ha, hb, hb0, hap, hab⟩ := frOk_dig h1
    obtain ⟨c, d, rfl, rfl, hc, hd, hd0, hcq, hcd⟩ := frOk_dig h2
    have l1 := sT_len (p := p) (q := q) (a := a) (b := b) (c := c) (d := d) (by omega) (by omega) (by omega) (by omega)
    have l2 : (dig (b * d)).length ≤ 1000 + 1000 := dig_len_mul (by omega) (by omega)
    have k := add_ok p q a b c d hb0 hd0 (by omega) (by omega) (by omega) (by omega)
    unfold addS sT sP
    simp only [nm_dig]
    exact ⟨k, Nat.le_trans (dig_len_mono (Nat.div_le_self _ _)) (by omega), Nat.le_trans (dig_len_mono (Nat.div_le_self _ _)) (by omega)⟩
  have hok : (addS p t u q x y).ok ↔ (frOk p t u ∧ frOk q x y) ∧ ((addS p t u q x y).t.length ≤ 256 ∧ (addS p t u q x y).u.length ≤ 256) := Iff.rfl
  generalize addS p t u q x y = r at *
  refine ⟨fun h => ?no, fun h => ?yes, fun h => (hok.1 h).2.1, fun h => (hok.1 h).2.2⟩
  case no =>
    refine afun_of Try.func15 Try.call15 rfl Try.ntmps15 rfl ?_
    have W : Walk Try.prog TT 15 _ := Walk.of TT_ok Try.func15 Try.results15
    refine cf W 0 [3] [2, 3, 4, 5] rfl rfl rfl rfl rfl rfl (fracs2_ok p q t u x y ht hu hx hy) rfl ?_
    refine sp W 0 rfl rfl rfl (fun h1 => ?_) (fun h1 => ?_)
    · refine rp W 0 rfl rfl rfl (.refl)
    · have h1 := Classical.not_not.1 h1
      obtain ⟨k1, k2, k3⟩ := key h1
      refine ce W 0 rfl rfl (k1) rfl ?_
      refine ce W 0 rfl rfl (given_no r.p r.t r.u (fun h2 => h (hok.2 ⟨h1, h2⟩)) k2 k3) rfl ?_
      refine rp W 0 rfl rfl rfl (.refl)
  case yes =>
    refine afun_of Try.func15 Try.call15 rfl Try.ntmps15 rfl ?_
    have W : Walk Try.prog TT 15 _ := Walk.of TT_ok Try.func15 Try.results15
    have h1 := (hok.1 h).1
    have h2 := (hok.1 h).2
    refine cf W 0 [3] [2, 3, 4, 5] rfl rfl rfl rfl rfl rfl (fracs2_ok p q t u x y ht hu hx hy) rfl ?_
    refine sp W 0 rfl rfl rfl (fun h3 => ?_) (fun h3 => ?_)
    · exact absurd h1 h3
    · obtain ⟨k1, k2, k3⟩ := key h1
      refine ce W 0 rfl rfl (k1) rfl ?_
      refine cn W 0 rfl rfl rfl (given_new r.p r.t r.u h2.1 h2.2) ?_
      rintro _ _ ⟨rfl, rfl⟩
      refine ⟨_, _, rfl, rfl, ?_⟩
      refine rn W 0 rfl rfl rfl (.tup [.agg [.pr r.p, .sl 0 0 0 r.t.length, .sl 1 0 0 r.u.length], .pr True]) rfl .refl ⟨rfl, by simp [blksM]⟩
theorem implFracSub_f (p q : Prop) (t u x y : List Int) (ht : t.length ≤ 1048576) (hu : u.length ≤ 1048576) (hx : x.length ≤ 1048576) (hy : y.length ≤ 1048576) : ImplF 11 [frF p t u, frF q x y] (subS p t u q x y) := by
  have key : frOk p t u ∧ frOk q x y → AFunP Try.prog 38 [frF p t u, frF (¬ q ∧ x ≠ []) x y] (· = frF (subS p t u q x y).p (subS p t u q x y).t (subS p t u q x y).u) ∧ (subS p t u q x y).t.length ≤ 1048576 ∧ (subS p t u q x y).u.length ≤ 1048576 := by
    rintro ⟨h1, h2⟩
    obtain ⟨a, b, rfl, rfl, ha, hb, hb0, hap, hab⟩ := frOk_dig h1
    obtain ⟨c, d, rfl, rfl, hc, hd, hd0, hcq, hcd⟩ := frOk_dig h2
    have l1 := sT_len (p := p) (q := (¬ q ∧ dig c ≠ [])) (a := a) (b := b) (c := c) (d := d) (by omega) (by omega) (by omega) (by omega)
    have l2 : (dig (b * d)).length ≤ 1000 + 1000 := dig_len_mul (by omega) (by omega)
    have k := add_ok p (¬ q ∧ dig c ≠ []) a b c d hb0 hd0 (by omega) (by omega) (by omega) (by omega)
    unfold subS sT sP
    simp only [nm_dig]
    exact ⟨k, Nat.le_trans (dig_len_mono (Nat.div_le_self _ _)) (by omega), Nat.le_trans (dig_len_mono (Nat.div_le_self _ _)) (by omega)⟩
  have hok : (subS p t u q x y).ok ↔ (frOk p t u ∧ frOk q x y) ∧ ((subS p t u q x y).t.length ≤ 256 ∧ (subS p t u q x y).u.length ≤ 256) := Iff.rfl
  generalize subS p t u q x y = r at *
  refine ⟨fun h => ?no, fun h => ?yes, fun h => (hok.1 h).2.1, fun h => (hok.1 h).2.2⟩
  case no =>
    refine afun_of Try.func11 Try.call11 rfl Try.ntmps11 rfl ?_
    have W : Walk Try.prog TT 11 _ := Walk.of TT_ok Try.func11 Try.results11
    refine cf W 0 [3] [2, 3, 4, 5] rfl rfl rfl rfl rfl rfl (fracs2_ok p q t u x y ht hu hx hy) rfl ?_
    refine sp W 0 rfl rfl rfl (fun h1 => ?_) (fun h1 => ?_)
    · refine rp W 0 rfl rfl rfl (.refl)
    · have h1 := Classical.not_not.1 h1
      obtain ⟨k1, k2, k3⟩ := key h1
      refine dre W 0 7 [] [frF (¬ q ∧ x ≠ []) x y, frF r.p r.t r.u, nilF] rfl rfl rfl ⟨(fneg_ok q x y (by omega)).at rfl _, k1.at rfl _, (given_no r.p r.t r.u (fun h2 => h (hok.2 ⟨h1, h2⟩)) k2 k3).at rfl _, trivial⟩ rfl ?_
      refine rp W 0 rfl rfl rfl (.refl)
  case yes =>
    refine afun_of Try.func11 Try.call11 rfl Try.ntmps11 rfl ?_
    have W : Walk Try.prog TT 11 _ := Walk.of TT_ok Try.func11 Try.results11
    have h1 := (hok.1 h).1
    have h2 := (hok.1 h).2
    refine cf W 0 [3] [2, 3, 4, 5] rfl rfl rfl rfl rfl rfl (fracs2_ok p q t u x y ht hu hx hy) rfl ?_
    refine sp W 0 rfl rfl rfl (fun h3 => ?_) (fun h3 => ?_)
    · exact absurd h1 h3
    · obtain ⟨k1, k2, k3⟩ := key h1
      refine phg W 0 7 [4] rfl rfl (fun PW => ?_)
      refine phn PW 0 4 [] [frF (¬ q ∧ x ≠ []) x y, frF r.p r.t r.u] rfl rfl ⟨(fneg_ok q x y (by omega)).at rfl _, k1.at rfl _, trivial⟩ rfl rfl rfl (given_new r.p r.t r.u h2.1 h2.2) ?_
      rintro _ _ ⟨rfl, rfl⟩
      refine ⟨_, _, rfl, rfl, ?_⟩
      refine phe PW 0 [] [] rfl trivial rfl ?_
      refine rn W 0 rfl rfl rfl (.tup [.agg [.pr r.p, .sl 0 0 0 r.t.length, .sl 1 0 0 r.u.length], .pr True]) rfl .refl ⟨rfl, by simp [blksM]⟩
end Pf
/- Fractions as rational numbers -/
namespace Pf
open Go Go.Proofs
/-- Fractions as rational numbers. -/
def dt (r : Rat) : List Int := dig r.num.natAbs
def db (r : Rat) : List Int := dig r.den
def frR (r : Rat) : AV := frF (r < 0) (dt r) (db r)
def small (r : Rat) : Prop := (dt r).length ≤ 256 ∧ (db r).length ≤ 256
open Classical in
/-- A number with a sign. -/
noncomputable def sg (p : Prop) (a : Nat) : Int := if p then -(a : Int) else a
theorem sg_yes {p : Prop} {a : Nat} (h : p) : sg p a = -(a : Int) := if_pos h
theorem sg_no {p : Prop} {a : Nat} (h : ¬ p) : sg p a = a := if_neg h
theorem sg_abs (p : Prop) (a : Nat) : (sg p a).natAbs = a := by unfold sg; split <;> simp
theorem num_neg {r : Rat} : r < 0 ↔ r.num < 0 := by
  rw [← Rat.not_le, ← Rat.num_nonneg]; omega
theorem sg_num (r : Rat) : sg (r < 0) r.num.natAbs = r.num := by
  by_cases h : r < 0
  · rw [sg_yes h]; have := num_neg.1 h; omega
  · have : ¬ r.num < 0 := fun k => h (num_neg.2 k)
    rw [sg_no h]; omega
theorem mkRat_parts (p : Prop) (a b : Nat) (hb : b ≠ 0) : lT a b = dt (mkRat (sg p a) b) ∧ lB a b = db (mkRat (sg p a) b) ∧ ((p ∧ a ≠ 0) ↔ mkRat (sg p a) b < 0) := by
  have hb0 : 0 < b := by omega
  have hg : (b.gcd (sg p a).natAbs : Nat) = a.gcd b := by rw [sg_abs, Nat.gcd_comm]
  have hgp : 0 < a.gcd b := Nat.gcd_pos_of_pos_right a hb0
  have hq : (a : Int) / ((a.gcd b : Nat) : Int) = ((a / a.gcd b : Nat) : Int) := by simp
  refine ⟨?_, ?_, ?_⟩
  · unfold lT dt
    rw [Rat.num_mkRat, if_neg hb, hg]
    congr 1
    unfold sg
    split
    · rw [Int.neg_ediv_of_dvd (Int.natCast_dvd_natCast.2 (Nat.gcd_dvd_left a b)), Int.natAbs_neg, hq, Int.natAbs_natCast]
    · rw [hq, Int.natAbs_natCast]
  · unfold lB db
    rw [Rat.den_mkRat, if_neg hb, hg]
  · rw [num_neg, Rat.num_mkRat, if_neg hb, hg]
    have hd : ((a.gcd b : Nat) : Int) ∣ (a : Int) := Int.natCast_dvd_natCast.2 (Nat.gcd_dvd_left a b)
    unfold sg
    split
    · rename_i hp
      rw [Int.neg_ediv_of_dvd hd]
      constructor
      · rintro ⟨_, h0⟩
        have h1 : 0 < a / a.gcd b := Nat.div_pos (Nat.gcd_le_left b (by omega)) hgp
        rw [hq]; have := Int.natCast_pos.2 h1; omega
      · intro h
        refine ⟨hp, fun h0 => ?_⟩
        subst h0; simp at h
    · rename_i hp
      constructor
      · exact fun h => absurd h.1 hp
      · intro h
        rw [hq] at h; exact absurd h (Int.not_lt.2 (Int.natCast_nonneg _))
/-- A fraction's number. -/
noncomputable def rat (p : Prop) (t u : List Int) : Rat := mkRat (sg p (nm t)) (nm u)
theorem frOk_rat {p : Prop} {t u : List Int} (h : frOk p t u) : t = dt (rat p t u) ∧ u = db (rat p t u) ∧ (p ↔ rat p t u < 0) := by
  obtain ⟨a, b, rfl, rfl, ha, hb, hb0, hap, hab⟩ := frOk_dig h
  obtain ⟨h1, h2, h3⟩ := mkRat_parts p a b hb0
  unfold rat
  rw [nm_dig, nm_dig, ← h1, ← h2, ← h3]
  unfold lT lB
  rw [hab, Nat.div_one, Nat.div_one]
  exact ⟨rfl, rfl, fun hp => ⟨hp, fun h0 => hap h0 hp⟩, fun h => h.1⟩
theorem frR_eq {p : Prop} {t u : List Int} (h : frOk p t u) : frF p t u = frR (rat p t u) := by
  obtain ⟨h1, h2, h3⟩ := frOk_rat h
  unfold frR
  rw [← h1, ← h2, ← propext h3]
theorem rat_frR (r : Rat) : rat (r < 0) (dt r) (db r) = r := by
  unfold rat dt db
  rw [nm_dig, nm_dig, sg_num, Rat.mkRat_self]
theorem dt_nil {r : Rat} : dt r = [] ↔ r = 0 := by
  unfold dt; rw [dig_nil, Int.natAbs_eq_zero, Rat.num_eq_zero]
theorem frOk_iff {r : Rat} : frOk (r < 0) (dt r) (db r) ↔ small r := by
  constructor
  · intro h; exact ⟨h.1.1, h.2.1.1⟩
  · intro h
    refine ⟨natOk_of h.1, natOk_of h.2, fun h0 => r.den_nz (dig_nil.1 h0), fun h0 h1 => ?_, ?_⟩
    · rw [dt_nil] at h0; subst h0; exact Rat.lt_irrefl h1
    · unfold dt db
      rw [val_dig, val_dig]
      simpa using r.reduced
theorem fits_iff (p : Prop) (a b : Nat) (hb : b ≠ 0) : fits a b ↔ small (mkRat (sg p a) b) := by
  obtain ⟨h1, h2, _⟩ := mkRat_parts p a b hb
  unfold fits small; rw [h1, h2]
/-- What is answered, by a number. -/
noncomputable def FRes.ofRat (ok : Prop) (r : Rat) : FRes := ⟨ok ∧ small r, r < 0, dt r, db r⟩
theorem res_eq {ok p : Prop} {a b : Nat} {r : Rat} (hb : b ≠ 0) (h : mkRat (sg p a) b = r) : (⟨ok ∧ fits a b, p ∧ a ≠ 0, lT a b, lB a b⟩ : FRes) = .ofRat ok r := by
  obtain ⟨h1, h2, h3⟩ := mkRat_parts p a b hb
  unfold FRes.ofRat
  rw [fits_iff p a b hb, h] 
  rw [h] at h1 h2 h3
  rw [h1, h2, propext h3]
theorem sg_mul (p q : Prop) (a b : Nat) : sg (¬ (p ↔ q)) (a * b) = sg p a * sg q b := by
  by_cases hp : p <;> by_cases hq : q <;> simp [sg, hp, hq, Int.neg_mul, Int.mul_neg]
theorem sg_sum (p q : Prop) (x y : Nat) : sg (sumP p q x y) (sumT p q x y) = sg p x + sg q y := by
  by_cases hp : p <;> by_cases hq : q <;> by_cases hy : y ≤ x <;> simp [sg, sumP, sumT, hp, hq, hy] <;> omega
theorem sg_mul_nat (p : Prop) (a b : Nat) : sg p (a * b) = sg p a * b := by
  unfold sg; split <;> simp [Int.neg_mul]
theorem nz_of {p : Prop} {t u : List Int} (h : frOk p t u) : nm u ≠ 0 := by
  obtain ⟨a, b, rfl, rfl, ha, hb, hb0, hap, hab⟩ := frOk_dig h
  rwa [nm_dig]
theorem ofRat_false {ok : Prop} (h : ¬ ok) (p : Prop) (t u : List Int) (r : Rat) (x : Prop) : ((⟨ok ∧ x, p, t, u⟩ : FRes).av = (FRes.ofRat ok r).av) := by
  unfold FRes.ofRat FRes.av
  rw [resF_no (fun k => h k.1), resF_no (fun k => h k.1)]
theorem mulS_rat {p q : Prop} {t u x y : List Int} (h1 : frOk p t u) (h2 : frOk q x y) : mulS p t u q x y = .ofRat (frOk p t u ∧ frOk q x y) (rat p t u * rat q x y) := by
  unfold mulS
  refine res_eq (Nat.mul_ne_zero (nz_of h1) (nz_of h2)) ?_
  unfold rat
  rw [Rat.mkRat_mul_mkRat, sg_mul]
theorem addS_rat {p q : Prop} {t u x y : List Int} (h1 : frOk p t u) (h2 : frOk q x y) : addS p t u q x y = .ofRat (frOk p t u ∧ frOk q x y) (rat p t u + rat q x y) := by
  unfold addS sT sP
  refine res_eq (Nat.mul_ne_zero (nz_of h1) (nz_of h2)) ?_
  unfold rat
  rw [Rat.mkRat_add_mkRat _ _ (nz_of h1) (nz_of h2), sg_sum, sg_mul_nat, sg_mul_nat]
theorem rat_neg {q : Prop} {x y : List Int} (h : frOk q x y) : rat (¬ q ∧ x ≠ []) x y = - rat q x y := by
  obtain ⟨a, b, rfl, rfl, ha, hb, hb0, hap, hab⟩ := frOk_dig h
  unfold rat
  rw [nm_dig, nm_dig, Rat.neg_mkRat]
  congr 1
  by_cases h0 : a = 0
  · subst h0; simp [sg]
  · have : dig a ≠ [] := fun h => h0 (dig_nil.1 h)
    by_cases hq : q <;> simp [sg, hq, this]
theorem subS_rat {p q : Prop} {t u x y : List Int} (h1 : frOk p t u) (h2 : frOk q x y) : subS p t u q x y = .ofRat (frOk p t u ∧ frOk q x y) (rat p t u - rat q x y) := by
  have e : rat p t u - rat q x y = rat p t u + rat (¬ q ∧ x ≠ []) x y := by rw [rat_neg h2, Rat.sub_eq_add_neg]
  rw [e]
  unfold subS sT sP
  refine res_eq (Nat.mul_ne_zero (nz_of h1) (nz_of h2)) ?_
  unfold rat
  rw [Rat.mkRat_add_mkRat _ _ (nz_of h1) (nz_of h2), sg_sum, sg_mul_nat, sg_mul_nat]
theorem divS_rat {p q : Prop} {t u x y : List Int} (h1 : frOk p t u) (h2 : frOk q x y) (h3 : x ≠ []) : divS p t u q x y = .ofRat (frOk p t u ∧ frOk q x y ∧ x ≠ []) (rat p t u / rat q x y) := by
  have hx : nm x ≠ 0 := by
    obtain ⟨a, b, rfl, rfl, ha, hb, hb0, hap, hab⟩ := frOk_dig h2
    rw [nm_dig]; exact fun h => h3 (dig_nil.2 h)
  have hu := nz_of h1
  have hy := nz_of h2
  unfold divS
  refine res_eq (Nat.mul_ne_zero hu hx) ?_
  unfold rat
  rw [Rat.div_def, ← Rat.divInt_ofNat, ← Rat.divInt_ofNat, ← Rat.divInt_ofNat, Rat.inv_divInt, Rat.divInt_mul_divInt]
  by_cases hq : q
  · have e1 : sg q (nm x) = -((nm x : Nat) : Int) := sg_yes hq
    have e2 : sg (¬ (p ↔ q)) (nm t * nm y) = -(sg p (nm t) * (nm y : Int)) := by by_cases hp : p <;> simp [sg, hp, hq, Int.neg_mul]
    rw [e1, e2, Int.mul_neg, ← Rat.neg_divInt_neg, Int.neg_neg]
    simp
  · have e1 : sg q (nm x) = ((nm x : Nat) : Int) := sg_no hq
    have e2 : sg (¬ (p ↔ q)) (nm t * nm y) = sg p (nm t) * (nm y : Int) := by by_cases hp : p <;> simp [sg, hp, hq, Int.neg_mul]
    rw [e1, e2]
    simp
end Pf
/- Floats: values and roundings, numbers alone -/
namespace Pf
open Go Go.Proofs
/-- The value of a float from 0 on, in the least float's units; F: the bits of a fraction. -/
def fv (F n : Nat) : Nat := if n < 2 ^ F then n else (2 ^ F + n % 2 ^ F) * 2 ^ (n / 2 ^ F - 1)
theorem fv_at (F e q : Nat) (h : q < 2 ^ (F + 1)) (h2 : e = 0 ∨ 2 ^ F ≤ q) : fv F (e * 2 ^ F + q) = q * 2 ^ e := by
  have hp : 0 < 2 ^ F := Nat.pow_pos (by omega)
  rw [Nat.pow_succ] at h
  unfold fv
  by_cases hq : q < 2 ^ F
  · have : e = 0 := h2.resolve_right (by omega)
    subst this
    rw [if_pos (by omega)]; simp
  · have h3 : e * 2 ^ F + q = (q - 2 ^ F) + 2 ^ F * (e + 1) := by rw [Nat.mul_add, Nat.mul_comm e]; omega
    have h4 : q - 2 ^ F < 2 ^ F := by omega
    rw [if_neg (by omega), h3, Nat.add_mul_mod_self_left, Nat.mod_eq_of_lt h4, Nat.add_mul_div_left _ _ hp, Nat.div_eq_of_lt h4]
    congr 1
    · omega
    · congr 1; omega
theorem fv_next (F e q : Nat) (h : q < 2 ^ (F + 1)) (h2 : e = 0 ∨ 2 ^ F ≤ q) : fv F (e * 2 ^ F + q + 1) = (q + 1) * 2 ^ e := by
  by_cases hq : q + 1 < 2 ^ (F + 1)
  · exact fv_at F e (q + 1) hq (h2.imp id (by omega))
  · have e1 : q + 1 = 2 ^ F * 2 := by rw [Nat.pow_succ] at h hq; omega
    have e2 : e * 2 ^ F + q + 1 = (e + 1) * 2 ^ F + 2 ^ F := by rw [Nat.add_mul]; omega
    have hp : 0 < 2 ^ F := Nat.pow_pos (by omega)
    rw [e2, fv_at F (e + 1) (2 ^ F) (by rw [Nat.pow_succ]; omega) (.inr (Nat.le_refl _)), e1, Nat.pow_succ 2 e, Nat.mul_assoc, Nat.mul_comm 2]
theorem fv_parts (F n : Nat) : ∃ e q, n = e * 2 ^ F + q ∧ q < 2 ^ (F + 1) ∧ (e = 0 ∨ 2 ^ F ≤ q) := by
  have hp : 0 < 2 ^ F := Nat.pow_pos (by omega)
  by_cases h : n < 2 ^ F
  · exact ⟨0, n, by omega, by rw [Nat.pow_succ]; omega, .inl rfl⟩
  · have h1 : 0 < n / 2 ^ F := Nat.div_pos (by omega) hp
    have h2 := Nat.div_add_mod n (2 ^ F)
    have h3 := Nat.mod_lt n hp
    refine ⟨n / 2 ^ F - 1, 2 ^ F + n % 2 ^ F, ?_, by rw [Nat.pow_succ]; omega, .inr (by omega)⟩
    rw [Nat.sub_mul, Nat.mul_comm (n / 2 ^ F), Nat.one_mul]
    have : 2 ^ F ≤ 2 ^ F * (n / 2 ^ F) := Nat.le_mul_of_pos_right _ h1
    omega
theorem fv_step (F n : Nat) : fv F n < fv F (n + 1) := by
  obtain ⟨e, q, h1, h2, h3⟩ := fv_parts F n
  rw [h1, fv_at F e q h2 h3, fv_next F e q h2 h3]
  exact Nat.mul_lt_mul_of_pos_right (by omega) (Nat.pow_pos (by omega))
theorem fv_lt {F m n : Nat} (h : m < n) : fv F m < fv F n := by
  induction n with
  | zero => omega
  | succ n ih =>
    have := fv_step F n
    rcases (by omega : m = n ∨ m < n) with rfl | h1
    · exact this
    · have := ih h1; omega
theorem fv_le {F m n : Nat} (h : m ≤ n) : fv F m ≤ fv F n := by
  rcases (by omega : m = n ∨ m < n) with rfl | h1
  · exact Nat.le_refl _
  · exact Nat.le_of_lt (fv_lt h1)
theorem fv_zero (F : Nat) : fv F 0 = 0 := by
  unfold fv; rw [if_pos (Nat.pow_pos (by omega))]
/-- The greatest float below T whose value is not above X. -/
theorem tr_ex (F T X : Nat) : ∃ n, n ≤ T - 1 ∧ fv F n ≤ X ∧ (n = T - 1 ∨ X < fv F (n + 1)) := by
  generalize T - 1 = M
  induction M with
  | zero => exact ⟨0, by omega, by rw [fv_zero]; omega, .inl rfl⟩
  | succ M ih =>
    obtain ⟨n, h1, h2, h3⟩ := ih
    rcases h3 with rfl | h3
    · by_cases h : fv F (n + 1) ≤ X
      · exact ⟨n + 1, by omega, h, .inl rfl⟩
      · exact ⟨n, by omega, h2, .inr (by omega)⟩
    · exact ⟨n, by omega, h2, .inr h3⟩
noncomputable def trn (F T X : Nat) : Nat := Classical.choose (tr_ex F T X)
theorem trn_le (F T X : Nat) : trn F T X ≤ T - 1 := (Classical.choose_spec (tr_ex F T X)).1
theorem trn_fv (F T X : Nat) : fv F (trn F T X) ≤ X := (Classical.choose_spec (tr_ex F T X)).2.1
theorem trn_next (F T X : Nat) : trn F T X = T - 1 ∨ X < fv F (trn F T X + 1) := (Classical.choose_spec (tr_ex F T X)).2.2
theorem trn_eq {F T X n : Nat} (h1 : n ≤ T - 1) (h2 : fv F n ≤ X) (h3 : n = T - 1 ∨ X < fv F (n + 1)) : trn F T X = n := by
  have g1 := trn_le F T X
  have g2 := trn_fv F T X
  have g3 := trn_next F T X
  generalize trn F T X = m at *
  rcases Nat.lt_trichotomy m n with h | h | h
  · rcases g3 with g3 | g3
    · omega
    · have := fv_le (F := F) (show m + 1 ≤ n by omega); omega
  · exact h
  · rcases h3 with h3 | h3
    · omega
    · have := fv_le (F := F) (show n + 1 ≤ m by omega); omega
/-- What is reckoned by bits: A / b in the least float's units. -/
theorem round_core {F T A b e q : Nat} (hT : 0 < T) (hb : 0 < b) (hq : q = A / (b * 2 ^ e)) (h : q < 2 ^ (F + 1)) (h2 : e = 0 ∨ 2 ^ F ≤ q) :
    trn F T (A / b) = (if e * 2 ^ F + q < T then e * 2 ^ F + q else T - 1) ∧ (fv F (trn F T (A / b)) * b = A ↔ e * 2 ^ F + q < T ∧ A % (b * 2 ^ e) = 0) := by
  have hp : 0 < 2 ^ e := Nat.pow_pos (by omega)
  have hbe : 0 < b * 2 ^ e := Nat.mul_pos hb hp
  have f1 := fv_at F e q h h2
  have f2 := fv_next F e q h h2
  have hqX : q = A / b / 2 ^ e := by rw [hq, Nat.div_div_eq_div_mul]
  have x1 : q * 2 ^ e ≤ A / b := by rw [hqX]; exact Nat.div_mul_le_self _ _
  have x2 : A / b < (q + 1) * 2 ^ e := by rw [hqX]; exact (Nat.div_lt_iff_lt_mul hp).1 (Nat.lt_succ_self _)
  have hAb := Nat.div_mul_le_self A b
  by_cases hn : e * 2 ^ F + q < T
  · have e1 : trn F T (A / b) = e * 2 ^ F + q := trn_eq (by omega) (by omega) (.inr (by omega))
    rw [if_pos hn]
    refine ⟨e1, ?_⟩
    rw [e1, f1]
    have h3 := Nat.div_add_mod A (b * 2 ^ e)
    rw [← hq] at h3
    have h4 : q * 2 ^ e * b = b * 2 ^ e * q := by simp only [Nat.mul_comm, Nat.mul_left_comm]
    rw [h4]
    constructor
    · intro h5; exact ⟨hn, by omega⟩
    · intro h5; omega
  · have l1 : fv F (T - 1) < fv F (e * 2 ^ F + q) := fv_lt (by omega)
    have e1 : trn F T (A / b) = T - 1 := trn_eq (Nat.le_refl _) (by omega) (.inl rfl)
    rw [if_neg hn]
    refine ⟨e1, ?_⟩
    rw [e1]
    constructor
    · intro h5
      have : fv F (T - 1) * b < A / b * b := Nat.mul_lt_mul_of_pos_right (by omega) hb
      omega
    · intro h5; exact absurd h5.1 hn
end Pf
/- Floats: roundings of rationals -/
namespace Pf
open Go Go.Proofs
/-- The bits of a fraction, the power of the least float (without sign), the greatest exponent, the infinite float. -/
def fF (w : Int) : Nat := if w = 32 then 23 else 52
def fK (w : Int) : Nat := if w = 32 then 149 else 1074
def fG (w : Int) : Nat := if w = 32 then 127 else 1023
def fT (w : Int) : Nat := (2 * fG w + 1) * 2 ^ fF w
theorem top_fT {w : Int} (hw : w = 32 ∨ w = 64) : top w = fT w := by rcases hw with rfl | rfl <;> rfl
theorem fT_pos (w : Int) : 0 < fT w := Nat.mul_pos (by omega) (Nat.pow_pos (by omega))
theorem fT_rng (w : Int) : 2 ≤ fT w ∧ fT w ≤ 9218868437227405312 := by
  unfold fT fG fF; split <;> decide
theorem fKG (w : Int) : fK w + 1 = fG w + fF w := by unfold fK fG fF; split <;> rfl
/-- The greatest float that is not above a / b, and whether it is it. -/
noncomputable def tvN (w : Int) (a b : Nat) : Nat := trn (fF w) (fT w) (a * 2 ^ fK w / b)
def teN (w : Int) (a b : Nat) : Prop := fv (fF w) (tvN w a b) * b = a * 2 ^ fK w
theorem tvN_scale (w : Int) (a b c : Nat) (hc : 0 < c) : tvN w (a * c) (b * c) = tvN w a b := by
  unfold tvN
  rw [Nat.mul_right_comm, Nat.mul_div_mul_right _ _ hc]
theorem teN_scale (w : Int) (a b c : Nat) (hc : 0 < c) : teN w (a * c) (b * c) ↔ teN w a b := by
  unfold teN
  rw [tvN_scale w a b c hc, Nat.mul_right_comm a, ← Nat.mul_assoc]
  exact Nat.mul_left_inj (by omega)
theorem mkRat_scale {p : Prop} {a b : Nat} {r : Rat} (hb : b ≠ 0) (h : mkRat (sg p a) b = r) : ∃ c, 0 < c ∧ a = r.num.natAbs * c ∧ b = r.den * c := by
  obtain ⟨h1, h2, _⟩ := mkRat_parts p a b hb
  rw [h] at h1 h2
  have h1 := dig_inj h1
  have h2 := dig_inj h2
  refine ⟨a.gcd b, Nat.gcd_pos_of_pos_right a (by omega), ?_, ?_⟩
  · rw [← h1, Nat.div_mul_cancel (Nat.gcd_dvd_left a b)]
  · rw [← h2, Nat.div_mul_cancel (Nat.gcd_dvd_right a b)]
noncomputable def tv (w : Int) (r : Rat) : Nat := tvN w r.num.natAbs r.den
def te (w : Int) (r : Rat) : Prop := teN w r.num.natAbs r.den
theorem tv_of {w : Int} {p : Prop} {a b : Nat} {r : Rat} (hb : b ≠ 0) (h : mkRat (sg p a) b = r) : tvN w a b = tv w r ∧ (teN w a b ↔ te w r) := by
  obtain ⟨c, hc, rfl, rfl⟩ := mkRat_scale hb h
  exact ⟨tvN_scale _ _ _ _ hc, teN_scale _ _ _ _ hc⟩
open Classical in
/-- The next float behind the greatest that is not above. -/
noncomputable def nx (w : Int) (r : Rat) : Nat := if te w r then tv w r else tv w r + 1
open Classical in
/-- The greatest float that is not above a number; the least that is not below. -/
noncomputable def dn (w : Int) (r : Rat) : Int := if r < 0 then -(nx w r : Int) else tv w r
open Classical in
noncomputable def up (w : Int) (r : Rat) : Int := if r < 0 then -(tv w r : Int) else nx w r
theorem tv_le (w : Int) (r : Rat) : tv w r + 1 ≤ fT w := by
  have := trn_le (fF w) (fT w) (r.num.natAbs * 2 ^ fK w / r.den)
  have h := fT_pos w
  unfold tv tvN; omega
theorem nx_le (w : Int) (r : Rat) : tv w r ≤ nx w r ∧ nx w r ≤ tv w r + 1 := by unfold nx; split <;> omega
theorem te_zero (w : Int) : tv w 0 = 0 ∧ te w 0 := by
  have h : tv w 0 = 0 := by
    have := fT_pos w
    unfold tv tvN
    refine trn_eq (Nat.zero_le _) (by rw [fv_zero]; exact Nat.zero_le _) (.inr ?_)
    have := fv_step (fF w) 0
    have e : (Rat.num 0).natAbs * 2 ^ fK w / Rat.den 0 = 0 := by simp
    rw [e]; omega
  refine ⟨h, ?_⟩
  unfold te teN
  unfold tv at h
  rw [h, fv_zero]; simp
theorem dn_zero (w : Int) : dn w 0 = 0 ∧ up w 0 = 0 := by
  obtain ⟨h1, h2⟩ := te_zero w
  unfold dn up nx
  rw [if_neg Rat.lt_irrefl, if_neg Rat.lt_irrefl, if_pos h2, h1]
  exact ⟨rfl, rfl⟩
theorem tv_neg (w : Int) (r : Rat) : tv w (-r) = tv w r ∧ (te w (-r) ↔ te w r) := by
  unfold tv te
  rw [Rat.neg_num, Int.natAbs_neg, Rat.neg_den]
  exact ⟨rfl, Iff.rfl⟩
theorem nx_neg (w : Int) (r : Rat) : nx w (-r) = nx w r := by
  unfold nx
  rw [(tv_neg w r).1, propext (tv_neg w r).2]
theorem up_neg (w : Int) (r : Rat) : up w (-r) = - dn w r := by
  by_cases h0 : r = 0
  · subst h0
    rw [Rat.neg_zero, (dn_zero w).1, (dn_zero w).2]; rfl
  · unfold up dn
    rw [nx_neg, (tv_neg w r).1]
    rcases Rat.le_total (a := r) (b := 0) with h | h
    · have h1 : r < 0 := Rat.lt_of_le_of_ne h h0
      have h2 : ¬ -r < 0 := by
        rw [Rat.neg_lt_iff, Rat.neg_zero, Rat.not_lt]; exact h
      rw [if_pos h1, if_neg h2, Int.neg_neg]
    · have h1 : 0 < r := Rat.lt_of_le_of_ne h (Ne.symm h0)
      have h2 : -r < 0 := by rw [Rat.neg_lt_iff, Rat.neg_zero]; exact h1
      rw [if_neg (Rat.not_lt.2 h), if_pos h2]
theorem dn_neg (w : Int) (r : Rat) : dn w (-r) = - up w r := by
  have := up_neg w (-r)
  rw [Rat.neg_neg] at this
  omega
theorem dn_rng (w : Int) (r : Rat) : -(fT w : Int) ≤ dn w r ∧ dn w r < fT w := by
  have h1 := tv_le w r
  have h2 := nx_le w r
  unfold dn; split <;> omega
theorem up_rng (w : Int) (r : Rat) : -(fT w : Int) < up w r ∧ up w r ≤ fT w := by
  have h1 := tv_le w r
  have h2 := nx_le w r
  unfold up; split <;> omega
theorem trn_mono {F T X Y : Nat} (h : X ≤ Y) : trn F T X ≤ trn F T Y := by
  have g1 := trn_le F T X
  have g2 := trn_fv F T X
  have k1 := trn_le F T Y
  have k3 := trn_next F T Y
  rcases Nat.lt_or_ge (trn F T Y) (trn F T X) with h1 | h1
  · rcases k3 with k3 | k3
    · omega
    · have := fv_le (F := F) (show trn F T Y + 1 ≤ trn F T X by omega); omega
  · exact h1
theorem div_mono {a b c d k : Nat} (hb : 0 < b) (hd : 0 < d) (h : a * d ≤ c * b) : a * k / b ≤ c * k / d := by
  rw [Nat.le_div_iff_mul_le hd]
  have h1 : a * k / b * d * b ≤ c * k * b := by
    calc a * k / b * d * b = a * k / b * b * d := Nat.mul_right_comm _ _ _
      _ ≤ a * k * d := Nat.mul_le_mul_right _ (Nat.div_mul_le_self _ _)
      _ = a * d * k := Nat.mul_right_comm _ _ _
      _ ≤ c * b * k := Nat.mul_le_mul_right _ h
      _ = c * k * b := Nat.mul_right_comm _ _ _
  exact Nat.le_of_mul_le_mul_right h1 hb
theorem tv_mono {w : Int} {r s : Rat} (h0 : 0 ≤ r) (h : r ≤ s) : tv w r ≤ tv w s := by
  unfold tv tvN
  refine trn_mono (div_mono (by have := r.den_nz; omega) (by have := s.den_nz; omega) ?_)
  have h1 := (Rat.le_iff r s).1 h
  have h2 := Rat.num_nonneg.2 h0
  have h3 := Rat.num_nonneg.2 (Rat.le_trans h0 h)
  have e1 : (r.num.natAbs : Int) = r.num := by omega
  have e2 : (s.num.natAbs : Int) = s.num := by omega
  rw [← e1, ← e2] at h1
  exact_mod_cast h1
theorem dn_le_up {w : Int} {r s : Rat} (h : r ≤ s) : dn w r ≤ up w s := by
  unfold dn up
  have n1 := nx_le w r
  have n2 := nx_le w s
  by_cases hr : r < 0
  · rw [if_pos hr]
    by_cases hs : s < 0
    · rw [if_pos hs]
      have h1 : tv w (-s) ≤ tv w (-r) := tv_mono (by rw [Rat.le_neg_iff, Rat.neg_zero]; exact Rat.le_of_lt hs) (Rat.neg_le_neg h)
      rw [(tv_neg w s).1, (tv_neg w r).1] at h1
      omega
    · rw [if_neg hs]; omega
  · rw [if_neg hr]
    have h0 := Rat.not_lt.1 hr
    rw [if_neg (Rat.not_lt.2 (Rat.le_trans h0 h))]
    have h1 := tv_mono (w := w) h0 h
    omega
end Pf
/- The known variable's cells are read. -/
namespace Pf
open Go
variable {P : Program} {TT : TypeId → Option TI} {f N n0 : Nat} {k : List Item} {T : Env} {H : AHeap} {R : AV → AHeap → Prop}
/-- The address of a cell of the known variable. -/
theorem go_gk (hT : TTok P TT) (ops : Array Oper) {i d t n : Nat} {ty aty e : TypeId} {kd : IntKind} {m : Int} {is : List Nat} {pos : String} {af : Array Edge} {j : TI} {T1 : Env}
    (ho : ops[i]? = some { dst := some d, op := .indexAddr aty (.global 0) (.tmp t), type := ty, pos := pos, after := af, guard := none })
    (hu : P.underlying aty = some (.array n e)) (he : TT e = some j) (hs : j.size = 1) (hn : n = gtab.length) (h2 : 1 < n) (hm : getM T t = some (.int kd m)) (h0 : 0 ≤ m) (h1 : m < n)
    (hd : dstM N (some d) (.fptr [.int .u8 (gtab.getD m.toNat 0)] 0) T = some T1)
    (h : AGo P f N n0 (.inRegion ops is :: k) T1 H R) : AGo P f N n0 (.inRegion ops (i :: is) :: k) T H R := by
  refine AGo.op ops ho hd (fun FM β a _ _ => rfl) (fun FM β a w hr hh => ?_) h
  rw [exec_indexAddr]
  refine SimV.yields ?_
  obtain ⟨info, d', z, ok⟩ := TI.fits_iff (hT _ _ he)
  have hv : VR FM β (.int kd m) (a.eval (.tmp t)) := hr t _ hm
  have e1 : a.eval (.tmp t) = .int kd m := by
    generalize a.eval (.tmp t) = c at hv ⊢
    cases hv; rfl
  have e2 : a.eval (.global 0) = .pointer (some ⟨0, 0, none⟩) := rfl
  rw [e1, e2]
  refine SimV.same (cv := .pointer (some ⟨0, m.toNat, none⟩)) ?_ ?_ hh
  · have : ¬ n ≤ 1 := by omega
    simp [Instr.indexAt, asIntOf, Instr.sureAddr, run_underlying hu, ok.run_size w, hs, h0, h1, addr_add, this]
  · have := VR.fptr (FM := FM) (β := β) (row := [.int .u8 (gtab.getD m.toNat 0)]) (c := 0) (cb := 0) (o := m.toNat) (fun _ => .int .u8 (gtab.getD m.toNat 0)) (fun i hi => by
        have : i = 0 := by simpa using hi
        subst this
        exact hh.gk m.toNat (by omega)) (fun i hi => by
        have : i = 0 := by simpa using hi
        subst this
        exact .int)
    simpa using this
end Pf
/- Noughts that a number ends in -/
namespace Pf
open Go Go.Proofs
/-- How many noughts a number ends in. -/
def tzN (n : Nat) : Nat := if h : n = 0 then 0 else if n % 2 = 0 then tzN (n / 2) + 1 else 0
termination_by n
decreasing_by omega
theorem tzN_ok : ∀ n : Nat, n ≠ 0 → ∃ q, n = q * 2 ^ tzN n ∧ q % 2 = 1 := by
  intro n
  induction n using Nat.strongRecOn with
  | ind n ih =>
    intro h
    by_cases h2 : n % 2 = 0
    · obtain ⟨q, h3, h4⟩ := ih (n / 2) (by omega) (by omega)
      have e : tzN n = tzN (n / 2) + 1 := by rw [tzN]; simp [h, h2]
      refine ⟨q, ?_, h4⟩
      rw [e, Nat.pow_succ, ← Nat.mul_assoc, ← h3]; omega
    · have e : tzN n = 0 := by rw [tzN]; simp [h2]
      exact ⟨n, by rw [e]; simp, by omega⟩
theorem low_bit {x z q : Nat} (hx : x = q * 2 ^ z) (hq : q % 2 = 1) (hz : z < 64) (h : x < 2 ^ 64) : x &&& (2 ^ 64 - x) = 2 ^ z := by
  obtain ⟨k, rfl⟩ : ∃ k, q = 2 * k + 1 := ⟨q / 2, by omega⟩
  have hp : 0 < 2 ^ z := Nat.pow_pos (by omega)
  have hx0 : 0 < x := by rw [hx]; exact Nat.mul_pos (by omega) hp
  have e1 : x = 2 ^ z * (2 * k + 1) + 0 := by rw [hx, Nat.mul_comm]; rfl
  have e2 : x - 1 = 2 ^ z * (2 * k) + (2 ^ z - 1) := by rw [hx, Nat.mul_comm, Nat.mul_add, Nat.mul_one]; omega
  refine Nat.eq_of_testBit_eq fun i => ?_
  rw [Nat.testBit_and, show 2 ^ 64 - x = 2 ^ 64 - ((x - 1) + 1) by omega, Nat.testBit_two_pow_sub_succ (by omega), e2, Nat.testBit_two_pow_mul_add _ (by omega)]
  conv => lhs; rw [e1, Nat.testBit_two_pow_mul_add _ hp]
  rw [Nat.testBit_two_pow]
  by_cases hi : i < z
  · have : ¬ z = i := by omega
    simp [hi, this]
  · rw [if_neg hi, if_neg hi]
    by_cases hiz : i = z
    · subst hiz
      have h0 : (2 * k).testBit 0 = false := by simp
      simp [hz, h0]
    · obtain ⟨j, hj⟩ : ∃ j, i - z = j + 1 := ⟨i - z - 1, by omega⟩
      have n1 : ¬ z = i := by omega
      have t1 : (2 * k + 1).testBit (j + 1) = k.testBit j := by rw [Nat.testBit_succ]; congr 1; omega
      have t2 : (2 * k).testBit (j + 1) = k.testBit j := by rw [Nat.testBit_succ]; congr 1; omega
      rw [hj, t1, t2]
      cases k.testBit j <;> simp [n1]
theorem band_neg {n : Nat} (h0 : n ≠ 0) (h1 : n < 2 ^ 64) (hz : tzN n < 64) : band .u64 n (IntKind.u64.wrap (-(n : Int))) = ((2 ^ tzN n : Nat) : Int) := by
  obtain ⟨q, h3, h4⟩ := tzN_ok n h0
  have hb := low_bit h3 h4 hz h1
  have e0 : IntKind.u64.wrap (-(n : Int)) = ((2 ^ 64 - n : Nat) : Int) := by rw [wrapU]; omega
  rw [e0]
  have a1 : (BitVec.ofInt 64 (n : Int)).toNat = n := by rw [BitVec.toNat_ofInt]; omega
  have a2 : (BitVec.ofInt 64 ((2 ^ 64 - n : Nat) : Int)).toNat = 2 ^ 64 - n := by rw [BitVec.toNat_ofInt]; omega
  have e : band .u64 (n : Int) ((2 ^ 64 - n : Nat) : Int) = IntKind.u64.wrap (((BitVec.ofInt 64 (n : Int) &&& BitVec.ofInt 64 ((2 ^ 64 - n : Nat) : Int)).toNat : Nat) : Int) := rfl
  rw [e, BitVec.toNat_and, a1, a2, hb, wrapU]
  have : 2 ^ tzN n < 2 ^ 64 := Nat.pow_lt_pow_right (by omega) hz
  have h5 : (18446744073709551616 : Int) = ((2 ^ 64 : Nat) : Int) := by decide
  rw [h5]
  exact Int.emod_eq_of_lt (Int.natCast_nonneg _) (Int.ofNat_lt.2 this)
theorem tzN_lt {n : Nat} (h0 : n ≠ 0) (h1 : n < 2 ^ 64) : tzN n < 64 := by
  obtain ⟨q, h3, h4⟩ := tzN_ok n h0
  rcases Nat.lt_or_ge (tzN n) 64 with h | h
  · exact h
  · have h5 : 2 ^ 64 ≤ 2 ^ tzN n := Nat.pow_le_pow_right (by omega) h
    have h6 : 1 * 2 ^ tzN n ≤ q * 2 ^ tzN n := Nat.mul_le_mul_right _ (by omega)
    omega
end Pf
/- The parts of a float -/
namespace Pf
open Go Go.Proofs
theorem band_lowU {n : Int} (h0 : 0 ≤ n) (h1 : n ≤ 18446744073709551615) : band .u64 n 65535 = n % 65536 := by
  obtain ⟨m, rfl⟩ : ∃ m : Nat, n = m := ⟨n.toNat, by omega⟩
  have e1 : (BitVec.ofInt 64 (m : Int) &&& BitVec.ofInt 64 65535).toNat = m % 65536 := by
    rw [BitVec.toNat_and]
    have a1 : (BitVec.ofInt 64 (m : Int)).toNat = m := by rw [BitVec.toNat_ofInt]; omega
    have a2 : (BitVec.ofInt 64 65535).toNat = 65535 := by decide
    rw [a1, a2]
    exact Nat.and_two_pow_sub_one_eq_mod m 16
  have e2 : band .u64 (m : Int) 65535 = IntKind.u64.wrap (((BitVec.ofInt 64 (m : Int) &&& BitVec.ofInt 64 65535).toNat : Nat) : Int) := rfl
  rw [e2, e1, wrapU]
  omega
theorem natOf_ok (n : Nat) (h1 : n ≤ 18446744073709551615) : AFunP Try.prog 56 [.int .u64 n] (· = .fi .i64 (dig n)) := by
  refine afun_of Try.func56 Try.call56 rfl Try.ntmps56 rfl ?_
  have W : Walk Try.prog TT 56 _ := Walk.of TT_ok Try.func56 Try.results56
  refine atl W rfl ?_
  refine go_nilT 3 (.ints 0 .i64 []) rfl rfl rfl rfl rfl ?_
  refine lp W 0 (σ := Nat × Nat × List Int) (fun s => [(0, .int .u64 s.1), (3, .sl 0 s.2.1 0 s.2.2.length)]) (fun s => [.ints s.2.1 .i64 s.2.2]) (fun s => s.1) (fun s => s.1 ≤ 18446744073709551615 ∧ s.2.2 ++ dig s.1 = dig n) (n, 0, []) [0, 3] rfl rfl rfl ⟨h1, rfl⟩ ?_
  rintro ⟨m, g, l⟩ ⟨hm, he⟩ ih
  dsimp only at hm he ih ⊢
  have hl : l.length ≤ 4 := by
    have h2 := congrArg List.length he
    rw [List.length_append] at h2
    have h3 : (dig n).length ≤ 4 := dig_len_le.2 (by omega)
    omega
  refine sp W 0 rfl rfl rfl (fun h2 => ?_) (fun h2 => ?_)
  · have hm0 : m ≠ 0 := by omega
    have e1 : band .u64 (m : Int) 65535 = ((m % 65536 : Nat) : Int) := by rw [band_lowU (by omega) (by omega)]; omega
    have e2 : ((m : Int) / 2 ^ 16) = ((m / 65536 : Nat) : Int) := by rw [pw16]; omega
    rw [dig_pos hm0] at he
    have nx := ih (m / 65536, g + 1, l ++ [((m % 65536 : Nat) : Int)]) ⟨by dsimp only; omega, by simpa using he⟩ (by dsimp only; omega)
    dsimp only at nx
    rw [List.length_append, ← e1, ← e2] at nx
    refine bd W 0 1 [0, 3] rfl rfl rfl rfl rfl nx (hc := by simp only [AllC, e1, true_and, and_true, eq_self, List.length_cons, List.length_nil]; omega)
  · have hm0 : m = 0 := by omega
    subst hm0
    rw [dig_zero, List.append_nil] at he
    refine rp W 0 rfl rfl rfl (.fi he)
theorem whole_ok (p : Prop) (a : Nat) (h : (dig a).length ≤ 100000) : AFunP Try.prog 55 [.pr p, .fi .i64 (dig a)] (· = frF (p ∧ a ≠ 0) (dig a) [1]) := by
  refine afun_of Try.func55 Try.call55 rfl Try.ntmps55 rfl ?_
  have W : Walk Try.prog TT 55 _ := Walk.of TT_ok Try.func55 Try.results55
  have e : (0 : Int) < (dig a).length ↔ a ≠ 0 := by rw [len_nil, ne_eq, dig_nil]
  refine sp W 0 rfl rfl rfl (fun h1 => ?_) (fun h1 => ?_)
  · refine rp W 0 rfl rfl rfl (.agg ⟨.pr (by rw [e]; exact ⟨fun h => ⟨h1, h⟩, fun h => h.2⟩), .refl, .refl, trivial⟩)
  · refine rp W 0 rfl rfl rfl (.agg ⟨.no (fun h => h1 h.1), .refl, .refl, trivial⟩)
theorem band_mask {k : Nat} {n : Int} (hk : k ≤ 62) (h0 : 0 ≤ n) (h1 : n ≤ 9223372036854775807) : band .i64 n (2 ^ k - 1) = n % 2 ^ k := by
  obtain ⟨m, rfl⟩ : ∃ m : Nat, n = m := ⟨n.toNat, by omega⟩
  have hp : 2 ^ k ≤ 2 ^ 62 := Nat.pow_le_pow_right (by omega) hk
  have hp0 : 0 < 2 ^ k := Nat.pow_pos (by omega)
  have e0 : ((2 : Int) ^ k - 1) = ((2 ^ k - 1 : Nat) : Int) := by
    have : ((2 ^ k : Nat) : Int) = 2 ^ k := by simp
    omega
  have e3 : (m : Int) % 2 ^ k = ((m % 2 ^ k : Nat) : Int) := by simp
  rw [e0, e3]
  have a1 : (BitVec.ofInt 64 (m : Int)).toNat = m := by rw [BitVec.toNat_ofInt]; omega
  have a2 : (BitVec.ofInt 64 ((2 ^ k - 1 : Nat) : Int)).toNat = 2 ^ k - 1 := by rw [BitVec.toNat_ofInt]; omega
  have e1 : (BitVec.ofInt 64 (m : Int) &&& BitVec.ofInt 64 ((2 ^ k - 1 : Nat) : Int)).toNat = m % 2 ^ k := by
    rw [BitVec.toNat_and, a1, a2]
    exact Nat.and_two_pow_sub_one_eq_mod m k
  have e2 : band .i64 (m : Int) ((2 ^ k - 1 : Nat) : Int) = IntKind.i64.wrap (((BitVec.ofInt 64 (m : Int) &&& BitVec.ofInt 64 ((2 ^ k - 1 : Nat) : Int)).toNat : Nat) : Int) := rfl
  have hm : m % 2 ^ k ≤ m := Nat.mod_le _ _
  rw [e2, e1, wrap_id (k := .i64) (C := -9223372036854775808 ≤ ((m % 2 ^ k : Nat) : Int) ∧ ((m % 2 ^ k : Nat) : Int) ≤ 9223372036854775807) rfl (by omega)]
/-- The parts of a float from 0 on: the number, the power in the least float's units. -/
def fsz (F n : Nat) : Nat := if n < 2 ^ F then n else 2 ^ F + n % 2 ^ F
def fpw (F n : Nat) : Nat := n / 2 ^ F - 1
theorem fv_eq (F n : Nat) : fv F n = fsz F n * 2 ^ fpw F n := by
  unfold fv fsz fpw
  by_cases h : n < 2 ^ F
  · rw [if_pos h, if_pos h, Nat.div_eq_of_lt h]; simp
  · rw [if_neg h, if_neg h]
theorem fsz_lt (F n : Nat) : fsz F n < 2 ^ (F + 1) := by
  have := Nat.mod_lt n (Nat.pow_pos (n := F) (show 0 < 2 by omega))
  unfold fsz; rw [Nat.pow_succ]; split <;> omega
end Pf
/- The float of parts -/
namespace Pf
open Go Go.Proofs
theorem bor_add2 {r : Nat} {a c : Int} (hr : r ≤ 62) (h0 : 0 ≤ a) (h1 : a < 2 ^ r) (h2 : 0 ≤ c) (h3 : a + 2 ^ r * c ≤ 9223372036854775807) : bor .i64 (2 ^ r * c) a = a + 2 ^ r * c := by
  obtain ⟨m, rfl⟩ : ∃ m : Nat, a = m := ⟨a.toNat, by omega⟩
  obtain ⟨n, rfl⟩ : ∃ n : Nat, c = n := ⟨c.toNat, by omega⟩
  have e2 : (2 : Int) ^ r * n = ((2 ^ r * n : Nat) : Int) := by simp
  have h1' : m < 2 ^ r := by
    have : ((m : Nat) : Int) < ((2 ^ r : Nat) : Int) := by simpa using h1
    omega
  rw [e2] at h3 ⊢
  have key2 : 2 ^ r * n ||| m = 2 ^ r * n + m := (Nat.two_pow_add_eq_or_of_lt h1' n).symm
  have a1 : (BitVec.ofInt 64 (m : Int)).toNat = m := by rw [BitVec.toNat_ofInt]; omega
  have a2 : (BitVec.ofInt 64 ((2 ^ r * n : Nat) : Int)).toNat = 2 ^ r * n := by rw [BitVec.toNat_ofInt]; omega
  have e' : bor .i64 ((2 ^ r * n : Nat) : Int) (m : Int) = IntKind.i64.wrap (((BitVec.ofInt 64 ((2 ^ r * n : Nat) : Int) ||| BitVec.ofInt 64 (m : Int)).toNat : Nat) : Int) := rfl
  rw [e', BitVec.toNat_or, a1, a2, key2, wrap_id (k := .i64) (C := -9223372036854775808 ≤ ((2 ^ r * n + m : Nat) : Int) ∧ ((2 ^ r * n + m : Nat) : Int) ≤ 9223372036854775807) rfl (by omega)]
  omega
theorem mod_sum {S e n : Nat} (h0 : S ≤ n) (h1 : n < 2 * S) : ((n % S : Nat) : Int) + S * ((e : Int) + 1) = ((e * S + n : Nat) : Int) := by
  have h2 : n % S = n - S := by rw [Nat.mod_eq_sub_mod h0, Nat.mod_eq_of_lt (by omega)]
  rw [h2, Int.mul_add, Int.mul_one, Int.natCast_add, Int.natCast_mul, Int.mul_comm]
  omega
end Pf
/- The value of a float -/
namespace Pf
open Go Go.Proofs
/-- The value of a float. -/
noncomputable def vl (w n : Int) : Rat := mkRat (sg (n < 0) (fv (fF w) n.natAbs)) (2 ^ fK w)
theorem two_nz (k : Nat) : 2 ^ k ≠ 0 := Nat.pos_iff_ne_zero.1 (Nat.pow_pos (by omega))
theorem sg_zero (p : Prop) : sg p 0 = 0 := by unfold sg; split <;> rfl
theorem frF_low {p : Prop} {a b : Nat} {r : Rat} (hb : b ≠ 0) (h : mkRat (sg p a) b = r) : frF (p ∧ a ≠ 0) (lT a b) (lB a b) = frR r := by
  obtain ⟨h1, h2, h3⟩ := mkRat_parts p a b hb
  rw [h] at h1 h2 h3
  unfold frR
  rw [h1, h2, propext h3]
theorem vl_parts {w n : Int} {s e : Nat} (hs : fv (fF w) n.natAbs = s * 2 ^ e) (h : fK w ≤ e) : mkRat (sg (n < 0) (s * 2 ^ (e - fK w))) 1 = vl w n := by
  unfold vl
  rw [hs, show 2 ^ e = 2 ^ (e - fK w) * 2 ^ fK w by rw [← Nat.pow_add]; congr 1; omega, ← Nat.mul_assoc, sg_mul_nat _ (s * 2 ^ (e - fK w))]
  have := Rat.mkRat_mul_right (n := sg (n < 0) (s * 2 ^ (e - fK w))) (d := 1) (two_nz (fK w))
  rw [Nat.one_mul] at this
  exact this.symm
theorem vl_parts2 {w n : Int} {s e : Nat} (hs : fv (fF w) n.natAbs = s * 2 ^ e) (h : e ≤ fK w) : mkRat (sg (n < 0) s) (2 ^ (fK w - e)) = vl w n := by
  unfold vl
  rw [hs, sg_mul_nat]
  conv => rhs; rw [show 2 ^ fK w = 2 ^ (fK w - e) * 2 ^ e by rw [← Nat.pow_add]; congr 1; omega]
  exact (Rat.mkRat_mul_right (two_nz _)).symm
theorem fpw_le {F G n : Nat} (h : n < (2 * G + 1) * 2 ^ F) : fpw F n ≤ 2 * G := by
  unfold fpw
  have : n / 2 ^ F < 2 * G + 1 := (Nat.div_lt_iff_lt_mul (Nat.pow_pos (by omega))).2 h
  omega
theorem dig_pow_len (k n : Nat) (h : k < 16 * n) : (dig (2 ^ k)).length ≤ n := by
  rw [dig_len_le, show (65536 : Nat) ^ n = (2 ^ 16) ^ n from rfl, ← Nat.pow_mul]
  exact Nat.pow_lt_pow_right (by omega) h
theorem lT_one (a : Nat) : lT a 1 = dig a ∧ lB a 1 = [1] := by
  unfold lT lB
  rw [Nat.gcd_one_right, Nat.div_one, Nat.div_one, dig_one]
  exact ⟨rfl, rfl⟩
/-- 1, in memory that is not frozen, times a power of two. -/
theorem natShift1_m (k : Nat) (hk : k ≤ 1000000) : AFunM Try.prog 74 [.sl 0 0 0 1, .int .i64 k] [.ints 0 .i64 [1]] (fun u blks => u = .fi .i64 (dig (2 ^ k)) ∧ blks = [.ints 0 .i64 [1]]) := by
  refine afun_of Try.func74 Try.call74 rfl Try.ntmps74 rfl ?_
  have W : Walk Try.prog TT 74 _ := Walk.of TT_ok Try.func74 Try.results74
  refine sp W 0 rfl rfl rfl (fun h => ?_) (fun h => ?_)
  · exfalso; omega
  have eL : ((k : Int) / 16 + ((1 : Nat) : Int) + 1) = ((k / 16 + 2 : Nat) : Int) := by omega
  refine lp W 0 (σ := Nat × List Int) (fun s => [(1, .int .i64 k), (9, .sl 1 0 0 (k / 16 + 2)), (75, .sl 0 0 0 1), (76, .int .i64 ((1 : Nat) : Int)), (77, .int .i64 s.1)]) (fun s => [.ints 0 .i64 [1], .ints 0 .i64 s.2]) (fun s => 1 - s.1)
    (fun s => (s.1 = 0 ∧ s.2 = List.replicate (k / 16 + 2) 0) ∨ (s.1 = 1 ∧ s.2.length = k / 16 + 2 ∧ Dgs s.2 ∧ val s.2 = ((2 ^ k : Nat) : Int)))
    (0, List.replicate (k / 16 + 2) 0) [1, 9, 75, 76, 77] rfl (by rw [eL]; rfl) (by rw [eL]; rfl) (.inl ⟨rfl, rfl⟩) ?_ (hc := by simp only [AllC, true_and]; omega)
  rintro ⟨i, l⟩ hs ih
  dsimp only at hs ih ⊢
  refine sp W 0 rfl rfl rfl (fun h1 => ?_) (fun h1 => ?_)
  · rcases hs with ⟨rfl, rfl⟩ | ⟨rfl, _⟩
    · have hr : k % 16 < 16 := Nat.mod_lt _ (by omega)
      have hbits : (IntKind.i64.bits : Int) = 64 := rfl
      obtain ⟨r1, r2⟩ := (by decide : ∀ r, r < 16 → (1 : Int) ≤ 2 ^ r ∧ (2 : Int) ^ r ≤ 32768) (k % 16) hr
      have eq1 : ((k : Int) / 16 + ((0 : Nat) : Int)).toNat = k / 16 := by omega
      have eq2 : ((k : Int) / 16 + ((0 : Nat) : Int) + 1).toNat = k / 16 + 1 := by omega
      have eq3 : ((k : Int) % 16).toNat = k % 16 := by omega
      have eb : band .i64 (1 * 2 ^ (k % 16)) 65535 = 2 ^ (k % 16) := by
        rw [Int.one_mul, band_low (by omega) (by omega)]; omega
      have g0 : ∀ j, (List.replicate (k / 16 + 2) (0 : Int)).getD j 0 = 0 := fun j => by
        rw [List.getD_eq_getElem?_getD, List.getElem?_replicate]; split <;> rfl
      have eo : bor .i64 0 (2 ^ (k % 16)) = 2 ^ (k % 16) := by
        have := (bor_add (r := 0) (a := 0) (c := 2 ^ (k % 16)) (by omega) (by omega) (by simp) (by omega) (by simp only [Int.pow_zero]; omega)).1
        simpa using this
      have ed : (1 : Int) * 2 ^ (k % 16) / 2 ^ 16 = 0 := by
        rw [Int.one_mul, pw16]; exact Int.ediv_eq_zero_of_lt (by omega) (by omega)
      have nx := ih (1, ((List.replicate (k / 16 + 2) (0 : Int)).set (k / 16) (bor .i64 ((List.replicate (k / 16 + 2) (0 : Int)).getD (k / 16) 0) (band .i64 (1 * 2 ^ (k % 16)) 65535))).set (k / 16 + 1) (1 * 2 ^ (k % 16) / 2 ^ 16)) (.inr ⟨rfl, by simp, ?_, ?_⟩) (by dsimp only; omega)
      · refine bk W 2 [1, 9, 75, 76, 77] rfl rfl nx (hc := ?_)
        simp only [AllC, eq1, eq2, eq3, addN, Int.toNat_natCast, true_and, List.length_set, List.length_replicate]
        simp
        omega
      · dsimp only
        rw [g0, eb, eo, ed]
        have hz : Dgs (List.replicate (k / 16 + 2) (0 : Int)) := fun d hd => by have := List.eq_of_mem_replicate hd; omega
        have hz2 : Dgs ((List.replicate (k / 16 + 2) (0 : Int)).set (k / 16) (2 ^ (k % 16))) := hz.set (by omega) (by omega)
        exact hz2.set (by omega) (by omega)
      · dsimp only
        rw [g0, eb, eo, ed, val_set _ _ _ (by simp), val_set _ _ _ (by simp), val_replicate, getD_set _ _ _ _ (by simp), if_neg (by omega), g0, g0, Int.sub_zero, Int.sub_zero, Int.mul_zero, Int.add_zero, Int.zero_add]
        rw [show (65536 : Int) = 2 ^ 16 from rfl, ← Int.pow_mul, ← Int.pow_add, show 16 * (k / 16) + k % 16 = k by omega]
        simp
    · exfalso; omega
  · rcases hs with ⟨rfl, _⟩ | ⟨rfl, hl, hd, hv⟩
    · exfalso; omega
    · refine cf W 0 [1] [] rfl rfl rfl rfl rfl rfl (trim_ok l (by omega)) rfl ?_
      rw [trimL_dig hd, hv, Int.toNat_natCast]
      refine rm W 0 [.ints 0 .i64 [1]] rfl rfl rfl ⟨rfl, trivial⟩ rfl rfl (.fi .i64 (dig (2 ^ k))) rfl (.refl) (⟨rfl, rfl⟩)
end Pf
/- Floats: a fraction's greatest float below -/
namespace Pf
open Go Go.Proofs
theorem bitL_ge {n : Nat} (h : n ≠ 0) : 2 ^ (bitL n - 1) ≤ n := by
  rcases Nat.lt_or_ge n (2 ^ (bitL n - 1)) with h1 | h1
  · have := (bitL_lt (bitL n - 1) n).2 h1
    have : 0 < bitL n := by rw [bitL_pos h]; omega
    omega
  · exact h1
theorem bitL_up (n : Nat) : n < 2 ^ bitL n := (bitL_lt (bitL n) n).1 (Nat.le_refl _)
/-- The first power: the quotient has as many bits as a fraction and one, or one more. -/
theorem first_q {F K a b e : Nat} (ha : a ≠ 0) (hb : b ≠ 0) (he : (e : Int) = max 0 ((bitL a : Int) - bitL b - (F + 1) + K)) :
    a * 2 ^ K / (b * 2 ^ e) < 2 ^ (F + 2) ∧ (e = 0 ∨ 2 ^ F ≤ a * 2 ^ K / (b * 2 ^ e)) := by
  have a1 := bitL_ge ha
  have a2 := bitL_up a
  have b1 := bitL_ge hb
  have b2 := bitL_up b
  have ha0 : 0 < bitL a := by rw [bitL_pos ha]; omega
  have hb0 : 0 < bitL b := by rw [bitL_pos hb]; omega
  have hp : 0 < b * 2 ^ e := Nat.mul_pos (by omega) (Nat.pow_pos (by omega))
  constructor
  · refine Nat.div_lt_of_lt_mul ?_
    calc a * 2 ^ K < 2 ^ bitL a * 2 ^ K := Nat.mul_lt_mul_of_pos_right a2 (Nat.pow_pos (by omega))
      _ = 2 ^ (bitL a + K) := (Nat.pow_add ..).symm
      _ ≤ 2 ^ (bitL b - 1 + e + (F + 2)) := Nat.pow_le_pow_right (by omega) (by omega)
      _ = 2 ^ (bitL b - 1) * 2 ^ e * 2 ^ (F + 2) := by rw [Nat.pow_add, Nat.pow_add]
      _ ≤ b * 2 ^ e * 2 ^ (F + 2) := Nat.mul_le_mul_right _ (Nat.mul_le_mul_right _ b1)
  · by_cases h0 : e = 0
    · exact .inl h0
    · right
      rw [Nat.le_div_iff_mul_le hp]
      calc 2 ^ F * (b * 2 ^ e) ≤ 2 ^ F * (2 ^ bitL b * 2 ^ e) := Nat.mul_le_mul_left _ (Nat.mul_le_mul_right _ (Nat.le_of_lt b2))
        _ = 2 ^ (F + bitL b + e) := by rw [Nat.pow_add, Nat.pow_add, Nat.mul_assoc]
        _ ≤ 2 ^ (bitL a - 1 + K) := Nat.pow_le_pow_right (by omega) (by omega)
        _ = 2 ^ (bitL a - 1) * 2 ^ K := Nat.pow_add ..
        _ ≤ a * 2 ^ K := Nat.mul_le_mul_right _ a1
/-- One bit less. -/
theorem half_q {A b e : Nat} (hb : 0 < b) : A / (b * 2 ^ (e + 1)) = A / (b * 2 ^ e) / 2 ∧ (A % (b * 2 ^ (e + 1)) = 0 ↔ A % (b * 2 ^ e) = 0 ∧ A / (b * 2 ^ e) % 2 = 0) := by
  have hp : 0 < b * 2 ^ e := Nat.mul_pos hb (Nat.pow_pos (by omega))
  have e1 : b * 2 ^ (e + 1) = b * 2 ^ e * 2 := by rw [Nat.pow_succ, Nat.mul_assoc]
  rw [e1]
  generalize b * 2 ^ e = m at *
  refine ⟨(Nat.div_div_eq_div_mul A m 2).symm, ?_⟩
  rw [Nat.mod_mul]
  constructor
  · intro h
    have h1 : A % m = 0 := by omega
    have h2 : m * (A / m % 2) = 0 := by omega
    rcases Nat.mul_eq_zero.1 h2 with h3 | h3
    · omega
    · exact ⟨h1, h3⟩
  · rintro ⟨h1, h2⟩
    rw [h1, h2, Nat.mul_zero]
theorem shl_down {a b K e : Nat} (h : e ≤ K) : a * 2 ^ (K - e) / b = a * 2 ^ K / (b * 2 ^ e) ∧ (a * 2 ^ (K - e) % b = 0 ↔ a * 2 ^ K % (b * 2 ^ e) = 0) := by
  have e1 : a * 2 ^ K = a * 2 ^ (K - e) * 2 ^ e := by rw [Nat.mul_assoc, ← Nat.pow_add]; congr 2; omega
  have hp : 0 < 2 ^ e := Nat.pow_pos (by omega)
  rw [e1]
  refine ⟨(Nat.mul_div_mul_right _ _ hp).symm, ?_⟩
  rw [Nat.mul_mod_mul_right]
  constructor
  · intro h; rw [h, Nat.zero_mul]
  · intro h; rcases Nat.mul_eq_zero.1 h with h | h
    · exact h
    · omega
theorem shl_up {a b K e : Nat} (h : K ≤ e) : a / (b * 2 ^ (e - K)) = a * 2 ^ K / (b * 2 ^ e) ∧ (a % (b * 2 ^ (e - K)) = 0 ↔ a * 2 ^ K % (b * 2 ^ e) = 0) := by
  have e1 : b * 2 ^ e = b * 2 ^ (e - K) * 2 ^ K := by rw [Nat.mul_assoc, ← Nat.pow_add]; congr 2; omega
  have hp : 0 < 2 ^ K := Nat.pow_pos (by omega)
  rw [e1]
  refine ⟨(Nat.mul_div_mul_right _ _ hp).symm, ?_⟩
  rw [Nat.mul_mod_mul_right]
  constructor
  · intro h; rw [h, Nat.zero_mul]
  · intro h; rcases Nat.mul_eq_zero.1 h with h | h
    · exact h
    · omega
theorem tvN_zero (w : Int) (b : Nat) : tvN w 0 b = 0 ∧ teN w 0 b := by
  have h : tvN w 0 b = 0 := by
    have hs := fv_step (fF w) 0
    unfold tvN
    rw [Nat.zero_mul, Nat.zero_div]
    exact trn_eq (Nat.zero_le _) (by rw [fv_zero]; exact Nat.le_refl _) (.inr (by omega))
  refine ⟨h, ?_⟩
  unfold teN
  rw [h, fv_zero, Nat.zero_mul, Nat.zero_mul]
theorem bor_addU {r : Nat} {a c : Int} (hr : r ≤ 62) (h0 : 0 ≤ a) (h1 : a < 2 ^ r) (h2 : 0 ≤ c) (h3 : a + c * 2 ^ r ≤ 9223372036854775807) : bor .u64 a (c * 2 ^ r) = a + c * 2 ^ r := by
  obtain ⟨m, rfl⟩ : ∃ m : Nat, a = m := ⟨a.toNat, by omega⟩
  obtain ⟨n, rfl⟩ : ∃ n : Nat, c = n := ⟨c.toNat, by omega⟩
  have e2 : (n : Int) * 2 ^ r = ((2 ^ r * n : Nat) : Int) := by rw [Int.mul_comm]; simp
  have h1' : m < 2 ^ r := by
    have : ((m : Nat) : Int) < ((2 ^ r : Nat) : Int) := by simpa using h1
    omega
  rw [e2] at h3 ⊢
  have key : m ||| 2 ^ r * n = 2 ^ r * n + m := by rw [Nat.or_comm]; exact (Nat.two_pow_add_eq_or_of_lt h1' n).symm
  have a1 : (BitVec.ofInt 64 (m : Int)).toNat = m := by rw [BitVec.toNat_ofInt]; omega
  have a2 : (BitVec.ofInt 64 ((2 ^ r * n : Nat) : Int)).toNat = 2 ^ r * n := by rw [BitVec.toNat_ofInt]; omega
  have e : bor .u64 (m : Int) ((2 ^ r * n : Nat) : Int) = IntKind.u64.wrap (((BitVec.ofInt 64 (m : Int) ||| BitVec.ofInt 64 ((2 ^ r * n : Nat) : Int)).toNat : Nat) : Int) := rfl
  rw [e, BitVec.toNat_or, a1, a2, key, wrapU]
  omega
theorem take_le {Q i : Nat} : val ((dig Q).take i) ≤ Q := by
  have h1 := val_split (dig Q) (min i (dig Q).length) (Nat.min_le_right _ _)
  rw [val_dig, List.take_eq_take_min.symm] at h1
  have h2 := val_nonneg ((dig_dgs Q).drop (min i (dig Q).length))
  have h3 := Int.mul_nonneg (show (0 : Int) ≤ 65536 ^ (min i (dig Q).length) from Int.pow_nonneg (by omega)) h2
  omega
theorem low_dig (q : Nat) : band .i64 ((dig q).getD (Int.toNat 0) 0) 1 = ((q % 2 : Nat) : Int) := by
  have g0 : (dig q).getD 0 0 = ((q % 65536 : Nat) : Int) := by rw [dig_get]; simp
  have g1 := (dig_dgs q).get 0
  have := band_mask (k := 1) (n := (dig q).getD 0 0) (by omega) (by omega) (by omega)
  rw [show (1 : Int) = 2 ^ 1 - 1 from rfl, show Int.toNat 0 = 0 from rfl, this, g0, pw1]; omega
theorem tvN_as {w : Int} {a b A F K T : Nat} (hF : fF w = F) (hK : fK w = K) (hT : fT w = T) (hA : a * 2 ^ K = A) : tvN w a b = trn F T (A / b) ∧ (teN w a b ↔ fv F (trn F T (A / b)) * b = A) := by
  subst hF; subst hK; subst hT; subst hA
  exact ⟨rfl, Iff.rfl⟩
end Pf
/- Floats: around a fraction -/
namespace Pf
open Go Go.Proofs
theorem dn_yes {w : Int} {r : Rat} (h : r < 0) : dn w r = -(nx w r : Int) ∧ up w r = -(tv w r : Int) := ⟨if_pos h, if_pos h⟩
theorem dn_no {w : Int} {r : Rat} (h : ¬ r < 0) : dn w r = tv w r ∧ up w r = nx w r := ⟨if_neg h, if_neg h⟩
theorem nx_yes {w : Int} {r : Rat} (h : te w r) : nx w r = tv w r := if_pos h
theorem nx_no {w : Int} {r : Rat} (h : ¬ te w r) : nx w r = tv w r + 1 := if_neg h
/-- Not too many digits. -/
def mid (r : Rat) : Prop := (dt r).length ≤ 1000 ∧ (db r).length ≤ 1000
end Pf
/- Floats: the model's parts and quotients -/
namespace Pf
open Go Go.Proofs
end Pf
/- Floats: the model's values -/
namespace Pf
open Go Go.Proofs
end Pf
/- Floats: the model's roundings -/
namespace Pf
open Go Go.Proofs
theorem rat_lt {p : Prop} {a b : Nat} {r : Rat} (hb : b ≠ 0) (h : mkRat (sg p a) b = r) : (p ∧ a ≠ 0) ↔ r < 0 := by
  have := (mkRat_parts p a b hb).2.2
  rwa [h] at this
theorem rat_zero {p : Prop} {a b : Nat} {r : Rat} (hb : b ≠ 0) (h : mkRat (sg p a) b = r) (h0 : a = 0) : r = 0 := by
  subst h0; rw [← h, sg_zero]; exact Rat.zero_mkRat b
theorem round_p {w : Int} {p : Prop} {a b : Nat} {r : Rat} (hb : b ≠ 0) (h : mkRat (sg p a) b = r) : (p → dn w r = -(nx w r : Int) ∧ up w r = -(tv w r : Int)) ∧ (¬ p → dn w r = tv w r ∧ up w r = nx w r) := by
  have hlt := rat_lt hb h
  refine ⟨fun hp => ?_, fun hp => dn_no (fun k => hp (hlt.2 k).1)⟩
  by_cases h0 : a = 0
  · have hr := rat_zero hb h h0
    subst hr
    obtain ⟨z1, z2⟩ := te_zero w
    obtain ⟨d1, d2⟩ := dn_zero w
    rw [d1, d2, nx_yes z2, z1]
    exact ⟨rfl, rfl⟩
  · exact dn_yes (hlt.1 ⟨hp, h0⟩)
end Pf
/- Equality of spans -/
namespace Pf
open Go Go.Proofs
theorem part_bool (cs : Array Value) (o : Nat) (v : Value) (h : cs[o]? = some v) (w : World) : (part 4 cs o).run Try.prog w = .ok v w := by
  simp [part, isAgg, run_underlying Try.underlying4, h]
theorem part_int (cs : Array Value) (o : Nat) (v : Value) (h : cs[o]? = some v) (w : World) : (part 3 cs o).run Try.prog w = .ok v w := by
  simp [part, isAgg, run_underlying Try.underlying3, h]
end Pf
/- A span compared with the empty one -/
namespace Pf
open Go Go.Proofs
/-- Spans: whether there is one, its bounds. -/
def spV (s : Prop) (lo hi : Int) : AV := .agg [.pr s, .int .i64 lo, .int .i64 hi]
def spanOk (w : Int) (s : Prop) (lo hi : Int) : Prop := (w = 32 ∨ w = 64) ∧ ((s ∧ pairOk w lo hi) ∨ (¬ s ∧ lo = 0 ∧ hi = 0))
theorem vr_agg3 {FM : FMem} {β : BMap} {u v w : AV} {c : Value} (h : VR FM β (.agg [u, v, w]) c) : ∃ a b d, c = .agg #[a, b, d] ∧ VR FM β u a ∧ VR FM β v b ∧ VR FM β w d := by
  cases h with
  | agg h1 hv =>
    rename_i xs
    have hs : xs.size = 3 := by simpa using h1.symm
    refine ⟨xs.getD 0 undef, xs.getD 1 undef, xs.getD 2 undef, ?_, hv 0 (by simp), hv 1 (by simp), hv 2 (by simp)⟩
    congr 1
    refine Array.ext (by simp [hs]) fun i h1 h2 => ?_
    rcases (by omega : i = 0 ∨ i = 1 ∨ i = 2) with rfl | rfl | rfl <;> simp [Array.getD, hs]
end Pf
/- Spans: which are ok -/
namespace Pf
open Go Go.Proofs
theorem pairOk_w {w lo hi : Int} (h : pairOk w lo hi) : w = 32 ∨ w = 64 := h.1.1
end Pf
/- Spans: full ones, the other sign -/
namespace Pf
open Go Go.Proofs
/-- A span that is ok and not empty. -/
def fullS (w : Int) (a : Prop × Int × Int) : Prop := a.1 ∧ pairOk w a.2.1 a.2.2
theorem fullS_iff {w : Int} {a : Prop × Int × Int} : fullS w a ↔ a.1 ∧ spanOk w a.1 a.2.1 a.2.2 :=
  ⟨fun h => ⟨h.1, pairOk_w h.2, .inl h⟩, fun h => ⟨h.1, (h.2.2.resolve_right (fun k => k.1 h.1)).2⟩⟩
abbrev spA (x : Prop × Int × Int) : AV := spV x.1 x.2.1 x.2.2
abbrev noS : Prop × Int × Int := (False, 0, 0)
open Classical in
noncomputable def negS' (w : Int) (x : Prop × Int × Int) : Prop × Int × Int := if fullS w x then (True, -x.2.2, -x.2.1) else noS
theorem sub_noS : Sub (.agg [.bool false, .int .i64 0, .int .i64 0]) (spA noS) := .agg ⟨.no id, .refl, .refl, trivial⟩
end Pf
/- Spans: impl's hulls and meets -/
namespace Pf
open Go Go.Proofs
def spR (x : Prop × Int × Int) : List AV := [.pr x.1, .int .i64 x.2.1, .int .i64 x.2.2]
open Classical in
/-- The least span around both. -/
noncomputable def hullS (w : Int) (x y : Prop × Int × Int) : Prop × Int × Int :=
  if spanOk w x.1 x.2.1 x.2.2 ∧ spanOk w y.1 y.2.1 y.2.2 then (if x.1 then (if y.1 then (True, min x.2.1 y.2.1, max x.2.2 y.2.2) else x) else y) else noS
open Classical in
/-- What both spans have. -/
noncomputable def meetS (w : Int) (x y : Prop × Int × Int) : Prop × Int × Int :=
  if fullS w x ∧ fullS w y ∧ pairOk w (max x.2.1 y.2.1) (min x.2.2 y.2.2) then (True, max x.2.1 y.2.1, min x.2.2 y.2.2) else noS
end Pf
/- Bounds: limitOf -/
namespace Pf
open Go Go.Proofs
/-- A bound: none (of a sign), or a number. -/
noncomputable def limV (l : Int × Rat) : AV := if l.1 = 0 then .agg [.int .i64 0, .pr (l.2 < 0), .fi .i64 (dt l.2), .fi .i64 (db l.2)] else .agg [.int .i64 l.1, .pr False, .fi .i64 [], .fi .i64 []]
noncomputable def limW (w n : Int) : Int × Rat := if n = top w then (1, 0) else if n = -top w then (-1, 0) else (0, vl w n)
end Pf
/- impl's arithmetic of fractions as Rat -/
namespace Pf
open Go Go.Proofs
theorem mk_R (r : Rat) : mkRat (sg (r < 0) r.num.natAbs) r.den = r := by rw [sg_num]; exact Rat.mkRat_self r
theorem mulR_ok (r s : Rat) (hr : mid r) (hs : mid s) : AFunP Try.prog 43 [frR r, frR s] (· = frR (r * s)) := by
  have k := mul_ok (r < 0) (s < 0) r.num.natAbs r.den s.num.natAbs s.den r.den_nz s.den_nz hr.1 hr.2 hs.1 hs.2
  have e := frF_low (p := ¬ (r < 0 ↔ s < 0)) (a := r.num.natAbs * s.num.natAbs) (b := r.den * s.den) (r := r * s) (Nat.mul_ne_zero r.den_nz s.den_nz) (by
    rw [sg_mul, ← Rat.mkRat_mul_mkRat, mk_R, mk_R])
  rw [lT, lB] at e
  rw [e] at k
  exact k
theorem addR_ok (r s : Rat) (hr : mid r) (hs : mid s) : AFunP Try.prog 38 [frR r, frR s] (· = frR (r + s)) := by
  have k := add_ok (r < 0) (s < 0) r.num.natAbs r.den s.num.natAbs s.den r.den_nz s.den_nz hr.1 hr.2 hs.1 hs.2
  have e := frF_low (p := sumP (r < 0) (s < 0) (r.num.natAbs * s.den) (s.num.natAbs * r.den)) (a := sumT (r < 0) (s < 0) (r.num.natAbs * s.den) (s.num.natAbs * r.den)) (b := r.den * s.den) (r := r + s) (Nat.mul_ne_zero r.den_nz s.den_nz) (by
    rw [sg_sum, sg_mul_nat, sg_mul_nat, ← Rat.mkRat_add_mkRat _ _ r.den_nz s.den_nz, mk_R, mk_R])
  rw [lT, lB] at e
  rw [e] at k
  exact k
theorem signR_ok (r : Rat) (hr : mid r) : AFunP Try.prog 41 [frR r] (· = .int .i64 (fsgn (r < 0) (dt r))) := sign_ok (r < 0) (dt r) (db r) (by have := hr.1; omega)
theorem divR_ok (r s : Rat) (hr : mid r) (hs : mid s) (h0 : s ≠ 0) : AFunP Try.prog 45 [frR r, frR s] (· = frR (r / s)) := by
  have hn : s.num.natAbs ≠ 0 := fun h => h0 (Rat.num_eq_zero.1 (by omega))
  have k := div_ok (r < 0) (s < 0) r.num.natAbs r.den s.num.natAbs s.den r.den_nz hn hr.1 hr.2 hs.1 hs.2
  have e := frF_low (p := ¬ (r < 0 ↔ s < 0)) (a := r.num.natAbs * s.den) (b := r.den * s.num.natAbs) (r := r / s) (Nat.mul_ne_zero r.den_nz hn) (by
    rw [show r / s = mkRat (sg (r < 0) r.num.natAbs) r.den / mkRat (sg (s < 0) s.num.natAbs) s.den by rw [mk_R, mk_R]]
    rw [Rat.div_def, ← Rat.divInt_ofNat, ← Rat.divInt_ofNat, ← Rat.divInt_ofNat, Rat.inv_divInt, Rat.divInt_mul_divInt]
    by_cases hq : s < 0
    · have e1 : sg (s < 0) s.num.natAbs = -((s.num.natAbs : Nat) : Int) := sg_yes hq
      have e2 : sg (¬ (r < 0 ↔ s < 0)) (r.num.natAbs * s.den) = -(sg (r < 0) r.num.natAbs * (s.den : Int)) := by by_cases hp : r < 0 <;> simp [sg, hp, hq, Int.neg_mul]
      rw [e1, e2, Int.mul_neg, ← Rat.neg_divInt_neg, Int.neg_neg]
      simp only [Int.natCast_mul, Int.neg_neg]
    · have e1 : sg (s < 0) s.num.natAbs = ((s.num.natAbs : Nat) : Int) := sg_no hq
      have e2 : sg (¬ (r < 0 ↔ s < 0)) (r.num.natAbs * s.den) = sg (r < 0) r.num.natAbs * (s.den : Int) := by by_cases hp : r < 0 <;> simp [sg, hp, hq, Int.neg_mul]
      rw [e1, e2]
      simp only [Int.natCast_mul])
  rw [lT, lB] at e
  rw [e] at k
  exact k
end Pf
/- Bounds: sign, floats -/
namespace Pf
open Go Go.Proofs
theorem limV_fin (r : Rat) : limV (0, r) = .agg [.int .i64 0, .pr (r < 0), .fi .i64 (dt r), .fi .i64 (db r)] := rfl
theorem limV_inf {i : Int} (h : i ≠ 0) (r : Rat) : limV (i, r) = .agg [.int .i64 i, .pr False, .fi .i64 [], .fi .i64 []] := if_neg h
theorem limV_eq (l : Int × Rat) : limV l = .agg [.int .i64 l.1, .pr (l.1 = 0 ∧ l.2 < 0), .fi .i64 (if l.1 = 0 then dt l.2 else []), .fi .i64 (if l.1 = 0 then db l.2 else [])] := by
  unfold limV
  by_cases h : l.1 = 0 <;> simp [h]
noncomputable def lsgn (l : Int × Rat) : Int := if l.1 = 0 then fsgn (l.2 < 0) (dt l.2) else l.1
noncomputable def lflo (w : Int) (l : Int × Rat) : Int × Int := if l.1 = 0 then (dn w l.2, up w l.2) else (l.1 * top w, l.1 * top w)
end Pf
/- Bounds: times -/
namespace Pf
open Go Go.Proofs
theorem lsgn_cases (l : Int × Rat) (h2 : -1 ≤ l.1 ∧ l.1 ≤ 1) : lsgn l = -1 ∨ lsgn l = 0 ∨ lsgn l = 1 := by
  unfold lsgn fsgn
  split <;> (try split) <;> (try split) <;> omega
theorem lsgn_mul (l m : Int × Rat) (h2 : -1 ≤ l.1 ∧ l.1 ≤ 1) (h3 : -1 ≤ m.1 ∧ m.1 ≤ 1) : -1 ≤ lsgn l * lsgn m ∧ lsgn l * lsgn m ≤ 1 := by
  rcases lsgn_cases l h2 with h | h | h <;> rcases lsgn_cases m h3 with k | k | k <;> rw [h, k] <;> decide
theorem zeroR : frR 0 = frF False [] [1] := by
  have h := frF_low (p := False) (a := 0) (b := 1) (r := 0) (by decide) (by rw [sg_zero]; exact Rat.zero_mkRat 1)
  rw [← h]
  have e : lT 0 1 = [] := by rw [(lT_one 0).1]; exact dig_nil.2 rfl
  rw [e, (lT_one 0).2]
  congr 1
  simp
theorem whole0_ok : AFunP Try.prog 55 [.bool false, .nils] (· = frF False [] [1]) := by
  refine afun_of Try.func55 Try.call55 rfl Try.ntmps55 rfl ?_
  have W : Walk Try.prog TT 55 _ := Walk.of TT_ok Try.func55 Try.results55
  refine rp W 0 rfl rfl rfl (.agg ⟨.no id, .nils_fi, .refl, trivial⟩)
theorem limV_zero : limV (0, 0) = .agg [.int .i64 0, .pr False, .fi .i64 [], .fi .i64 [1]] := by
  rw [limV_fin]
  have h := zeroR
  unfold frR frF at h
  injection h with h
  injection h with h1 h2
  injection h2 with h2 h3
  injection h3 with h3 h4
  rw [h1, h2, h3]
noncomputable def ltimes (l m : Int × Rat) : Int × Rat := if l.1 = 0 ∧ m.1 = 0 then (0, l.2 * m.2) else (lsgn l * lsgn m, 0)
end Pf
/- Bounds: by -/
namespace Pf
open Go Go.Proofs
noncomputable def lby (l m : Int × Rat) : Int × Rat := if m.1 ≠ 0 then (0, 0) else if l.1 ≠ 0 then (l.1, 0) else (0, l.2 / m.2)
end Pf
/- Bounds: the closure of SpanAdd -/
namespace Pf
open Go Go.Proofs
noncomputable def ladd (l m : Int × Rat) : Int × Rat := if l.1 ≠ 0 then (l.1, 0) else if m.1 ≠ 0 then (m.1, 0) else (0, l.2 + m.2)
end Pf
/- The number of a float has not too many digits -/
namespace Pf
open Go Go.Proofs
theorem dig_mono {a b n : Nat} (h : a ≤ b) (hb : (dig b).length ≤ n) : (dig a).length ≤ n :=
  dig_len_le.2 (Nat.lt_of_le_of_lt h (dig_len_le.1 hb))
theorem mid_vl {w n : Int} (hw : w = 32 ∨ w = 64) (h : n.natAbs < fT w) : mid (vl w n) := by
  have hs : (dig (fsz (fF w) n.natAbs)).length ≤ 4 := by
    have h1 := fsz_lt (fF w) n.natAbs
    refine dig_len_le.2 (Nat.lt_of_lt_of_le h1 ?_)
    rcases hw with rfl | rfl <;> decide
  have hp : fpw (fF w) n.natAbs < 16 * 200 := by
    have h2 := fpw_le h
    have hG : fG w ≤ 1023 := by rcases hw with rfl | rfl <;> decide
    omega
  have hv : (dig (fv (fF w) n.natAbs)).length ≤ 4 + 200 := by
    rw [fv_eq]
    exact dig_len_mul hs (dig_pow_len _ _ hp)
  have hk : (dig (2 ^ fK w)).length ≤ 200 := dig_pow_len _ _ (by rcases hw with rfl | rfl <;> decide)
  obtain ⟨e1, e2, _⟩ := mkRat_parts (n < 0) (fv (fF w) n.natAbs) (2 ^ fK w) (two_nz _)
  unfold mid vl
  rw [← e1, ← e2]
  have i1 := dig_mono (Nat.div_le_self (fv (fF w) n.natAbs) (Nat.gcd (fv (fF w) n.natAbs) (2 ^ fK w))) hv
  have i2 := dig_mono (Nat.div_le_self (2 ^ fK w) (Nat.gcd (fv (fF w) n.natAbs) (2 ^ fK w))) hk
  exact ⟨Nat.le_trans i1 (by decide), Nat.le_trans i2 (by decide)⟩
theorem limW_mid {w n : Int} (hb : bitOk w n) : (limW w n).1 = 0 → mid (limW w n).2 := by
  have ht := top_fT hb.1
  have h1 := hb.2
  unfold limW
  split
  · intro k; exact absurd k (by decide)
  · split
    · intro k; exact absurd k (by decide)
    · intro _; exact mid_vl hb.1 (by omega)
end Pf
/- Sizes of sums and products -/
namespace Pf
open Go Go.Proofs
/-- Digits at most n. -/
def midN (n : Nat) (r : Rat) : Prop := (dt r).length ≤ n ∧ (db r).length ≤ n
theorem midN_low {p : Prop} {a b n : Nat} {r : Rat} (hb : b ≠ 0) (h : mkRat (sg p a) b = r) (h1 : (dig a).length ≤ n) (h2 : (dig b).length ≤ n) : midN n r := by
  obtain ⟨e1, e2, _⟩ := mkRat_parts p a b hb
  subst h
  unfold midN
  rw [← e1, ← e2]
  exact ⟨dig_mono (Nat.div_le_self _ _) h1, dig_mono (Nat.div_le_self _ _) h2⟩
theorem midN_mul {r s : Rat} {n : Nat} (hr : midN n r) (hs : midN n s) : midN (n + n) (r * s) := by
  refine midN_low (p := ¬ (r < 0 ↔ s < 0)) (Nat.mul_ne_zero r.den_nz s.den_nz) ?_ (dig_len_mul hr.1 hs.1) (dig_len_mul hr.2 hs.2)
  rw [sg_mul, ← Rat.mkRat_mul_mkRat, mk_R, mk_R]
theorem sumT_le (p q : Prop) (x y : Nat) : sumT p q x y ≤ x + y := by
  unfold sumT; split <;> (try split) <;> omega
theorem midN_add {r s : Rat} {n : Nat} (hr : midN n r) (hs : midN n s) : midN (n + n + 1) (r + s) := by
  refine midN_low (p := sumP (r < 0) (s < 0) (r.num.natAbs * s.den) (s.num.natAbs * r.den)) (a := sumT (r < 0) (s < 0) (r.num.natAbs * s.den) (s.num.natAbs * r.den)) (Nat.mul_ne_zero r.den_nz s.den_nz) ?_ ?_ (Nat.le_succ_of_le (dig_len_mul hr.2 hs.2))
  · rw [sg_sum, sg_mul_nat, sg_mul_nat, ← Rat.mkRat_add_mkRat _ _ r.den_nz s.den_nz, mk_R, mk_R]
  · exact dig_mono (sumT_le _ _ _ _) (dig_len_add (dig_len_mul hr.1 hs.2) (dig_len_mul hs.1 hr.2))
theorem vl_midN {w n : Int} (hw : w = 32 ∨ w = 64) (h : n.natAbs < fT w) : midN 204 (vl w n) := by
  have hs : (dig (fsz (fF w) n.natAbs)).length ≤ 4 := by
    have h1 := fsz_lt (fF w) n.natAbs
    refine dig_len_le.2 (Nat.lt_of_lt_of_le h1 ?_)
    rcases hw with rfl | rfl <;> decide
  have hp : fpw (fF w) n.natAbs < 16 * 200 := by
    have h2 := fpw_le h
    have hG : fG w ≤ 1023 := by rcases hw with rfl | rfl <;> decide
    omega
  have hv : (dig (fv (fF w) n.natAbs)).length ≤ 4 + 200 := by
    rw [fv_eq]
    exact dig_len_mul hs (dig_pow_len _ _ hp)
  have hk : (dig (2 ^ fK w)).length ≤ 200 := dig_pow_len _ _ (by rcases hw with rfl | rfl <;> decide)
  obtain ⟨e1, e2, _⟩ := mkRat_parts (n < 0) (fv (fF w) n.natAbs) (2 ^ fK w) (two_nz _)
  unfold midN vl
  rw [← e1, ← e2]
  have i1 := dig_mono (Nat.div_le_self (fv (fF w) n.natAbs) (Nat.gcd (fv (fF w) n.natAbs) (2 ^ fK w))) hv
  have i2 := dig_mono (Nat.div_le_self (2 ^ fK w) (Nat.gcd (fv (fF w) n.natAbs) (2 ^ fK w))) hk
  exact ⟨Nat.le_trans i1 (by decide), Nat.le_trans i2 (by decide)⟩
end Pf
/- Bounds of a sum -/
namespace Pf
open Go Go.Proofs
noncomputable def sumB (w a b : Int) : Int × Int := lflo w (ladd (limW w a) (limW w b))
theorem limW_rng (w n : Int) : -1 ≤ (limW w n).1 ∧ (limW w n).1 ≤ 1 := by
  unfold limW; split <;> (try split) <;> dsimp only <;> omega
theorem ladd_rng {l m : Int × Rat} (h : -1 ≤ l.1 ∧ l.1 ≤ 1) (k : -1 ≤ m.1 ∧ m.1 ≤ 1) : -1 ≤ (ladd l m).1 ∧ (ladd l m).1 ≤ 1 := by
  unfold ladd; split <;> (try split) <;> first | exact h | exact k | (dsimp only; omega)
theorem limW_midN {w n : Int} (hb : bitOk w n) : (limW w n).1 = 0 → midN 204 (limW w n).2 := by
  have ht := top_fT hb.1
  have h1 := hb.2
  unfold limW
  split
  · intro k; exact absurd k (by decide)
  · split
    · intro k; exact absurd k (by decide)
    · intro _; exact vl_midN hb.1 (by omega)
theorem ladd_mid {w a b : Int} (ha : bitOk w a) (hb : bitOk w b) : (ladd (limW w a) (limW w b)).1 = 0 → mid (ladd (limW w a) (limW w b)).2 := by
  have h1 := limW_midN ha
  have h2 := limW_midN hb
  unfold ladd
  split
  · intro k; contradiction
  · split
    · intro k; contradiction
    · rename_i k1 k2
      intro _
      have := midN_add (h1 (Classical.not_not.1 k1)) (h2 (Classical.not_not.1 k2))
      exact ⟨Nat.le_trans this.1 (by decide), Nat.le_trans this.2 (by decide)⟩
end Pf
/- impl's SpanAdd -/
namespace Pf
open Go Go.Proofs
open Classical in
noncomputable def addSp (w : Int) (x y : Prop × Int × Int) : Prop × Int × Int := if fullS w x ∧ fullS w y then (True, (sumB w x.2.1 y.2.1).1, (sumB w x.2.2 y.2.2).2) else noS
end Pf
/- impl's SpanSub -/
namespace Pf
open Go Go.Proofs
end Pf
/- The model's l9Infinite -/
namespace Pf
open Go Go.Proofs
end Pf
/- The model's floats, either width -/
namespace Pf
open Go Go.Proofs
end Pf
/- Bounds of a sum: the three ways -/
namespace Pf
open Go Go.Proofs
theorem sumB_l {w a : Int} (b : Int) (hw : w = 32 ∨ w = 64) (h : a = top w ∨ a = -top w) : sumB w a b = (a, a) := by
  have hp : top w ≠ 0 := by rcases hw with rfl | rfl <;> decide
  unfold sumB limW
  by_cases h1 : a = top w
  · rw [if_pos h1, ladd, if_pos (by decide), lflo, if_neg (by decide)]
    simp [h1]
  · have h2 := h.resolve_left h1
    rw [if_neg h1, if_pos h2, ladd, if_pos (by decide), lflo, if_neg (by decide)]
    simp [h2]
theorem sumB_r {w a b : Int} (hw : w = 32 ∨ w = 64) (h0 : ¬ (a = top w ∨ a = -top w)) (h : b = top w ∨ b = -top w) : sumB w a b = (b, b) := by
  have hl : limW w a = (0, vl w a) := by rw [limW, if_neg (fun k => h0 (.inl k)), if_neg (fun k => h0 (.inr k))]
  unfold sumB
  rw [hl, ladd, if_neg (by simp)]
  unfold limW
  by_cases h1 : b = top w
  · rw [if_pos h1, if_pos (by decide), lflo, if_neg (by decide)]
    simp [h1]
  · have h2 := h.resolve_left h1
    rw [if_neg h1, if_pos h2, if_pos (by decide), lflo, if_neg (by decide)]
    simp [h2]
theorem sumB_f {w a b : Int} (h0 : ¬ (a = top w ∨ a = -top w)) (h : ¬ (b = top w ∨ b = -top w)) : sumB w a b = (dn w (vl w a + vl w b), up w (vl w a + vl w b)) := by
  have hl : limW w a = (0, vl w a) := by rw [limW, if_neg (fun k => h0 (.inl k)), if_neg (fun k => h0 (.inr k))]
  have hm : limW w b = (0, vl w b) := by rw [limW, if_neg (fun k => h (.inl k)), if_neg (fun k => h (.inr k))]
  unfold sumB
  rw [hl, hm, ladd, if_neg (by simp), if_neg (by simp), lflo, if_pos rfl]
end Pf
/- The model's l9Add -/
namespace Pf
open Go Go.Proofs
end Pf
/- The model's SpanAdd, SpanSub -/
namespace Pf
open Go Go.Proofs
end Pf
/- The laws of SpanAdd and SpanSub -/
namespace Pf
open Go Go.Proofs
end Pf
/- Bounds: signs; bounds of a product -/
namespace Pf
open Go Go.Proofs
theorem vl_zero (w : Int) : vl w 0 = 0 := by
  unfold vl
  rw [show (0 : Int).natAbs = 0 from rfl, fv_zero, sg_zero]; exact Rat.zero_mkRat _
theorem fv_pos {F n : Nat} (h : n ≠ 0) : fv F n ≠ 0 := by
  have := fv_lt (F := F) (show 0 < n by omega)
  omega
theorem vl_lt {w n : Int} : vl w n < 0 ↔ n < 0 := by
  unfold vl
  rw [← (mkRat_parts (n < 0) (fv (fF w) n.natAbs) (2 ^ fK w) (two_nz _)).2.2]
  exact ⟨fun h => h.1, fun h => ⟨h, fv_pos (by omega)⟩⟩
theorem vl_pos {w n : Int} : 0 < vl w n ↔ 0 < n := by
  have h := vl_lt (w := w) (n := n)
  by_cases h0 : n = 0
  · subst h0; rw [vl_zero]; exact ⟨fun k => absurd k Rat.lt_irrefl, fun k => absurd k (by omega)⟩
  · by_cases hn : n < 0
    · exact ⟨fun k => absurd (h.2 hn) (Rat.not_lt.2 (Rat.le_of_lt k)), fun k => by omega⟩
    · refine ⟨fun _ => by omega, fun _ => ?_⟩
      have h1 : ¬ vl w n < 0 := fun k => hn (h.1 k)
      refine Rat.lt_of_le_of_ne (Rat.not_lt.1 h1) fun e => ?_
      have e2 : (vl w n).num = 0 := by rw [← e]; rfl
      unfold vl at e2
      rw [Rat.num_mkRat, if_neg (two_nz _)] at e2
      have e3 : dt (vl w n) = [] := dt_nil.2 e.symm
      unfold vl at e3
      rw [← (mkRat_parts (n < 0) (fv (fF w) n.natAbs) (2 ^ fK w) (two_nz _)).1, lT, dig_nil] at e3
      have hp := fv_pos (F := fF w) (n := n.natAbs) (by omega)
      have hg : 0 < (fv (fF w) n.natAbs).gcd (2 ^ fK w) := Nat.gcd_pos_of_pos_left _ (by omega)
      have h5 : 0 < fv (fF w) n.natAbs / (fv (fF w) n.natAbs).gcd (2 ^ fK w) := Nat.div_pos (Nat.gcd_le_left _ (by omega)) hg
      omega
theorem vl_eq0 {w n : Int} : vl w n = 0 ↔ n = 0 := by
  refine ⟨fun h => ?_, fun h => by rw [h, vl_zero]⟩
  have h1 := vl_lt (w := w) (n := n)
  have h2 := vl_pos (w := w) (n := n)
  rw [h] at h1 h2
  have k1 : ¬ n < 0 := fun k => Rat.lt_irrefl (h1.2 k)
  have k2 : ¬ 0 < n := fun k => Rat.lt_irrefl (h2.2 k)
  omega
/-- The sign of a whole number. -/
def sgI (n : Int) : Int := if n < 0 then -1 else if n = 0 then 0 else 1
theorem fsgn_vl (w n : Int) : fsgn (vl w n < 0) (dt (vl w n)) = sgI n := by
  unfold fsgn sgI
  by_cases h : n < 0
  · rw [if_pos (vl_lt.2 h), if_pos h]
  · rw [if_neg (fun k => h (vl_lt.1 k)), if_neg h]
    by_cases h0 : n = 0
    · rw [if_pos (dt_nil.2 (vl_eq0.2 h0)), if_pos h0]
    · rw [if_neg (fun k => h0 (vl_eq0.1 (dt_nil.1 k))), if_neg h0]
theorem top_pos {w : Int} (hw : w = 32 ∨ w = 64) : 0 < top w := by rcases hw with rfl | rfl <;> decide
theorem lsgn_limW {w n : Int} (hw : w = 32 ∨ w = 64) : lsgn (limW w n) = sgI n := by
  have hp := top_pos hw
  unfold lsgn limW
  by_cases h1 : n = top w
  · rw [if_pos h1, if_neg (by decide)]
    unfold sgI; rw [if_neg (by omega), if_neg (by omega)]
  · rw [if_neg h1]
    by_cases h2 : n = -top w
    · rw [if_pos h2, if_neg (by decide)]
      unfold sgI; rw [if_pos (by omega)]
    · rw [if_neg h2, if_pos rfl]
      exact fsgn_vl w n
theorem limW_fin {w n : Int} (h : ¬ (n = top w ∨ n = -top w)) : limW w n = (0, vl w n) := by
  rw [limW, if_neg (fun k => h (.inl k)), if_neg (fun k => h (.inr k))]
theorem limW_inf {w n : Int} (hw : w = 32 ∨ w = 64) (h : n = top w ∨ n = -top w) : limW w n = (sgI n, 0) := by
  have hp := top_pos hw
  unfold limW sgI
  by_cases h1 : n = top w
  · rw [if_pos h1, if_neg (by omega), if_neg (by omega)]
  · rw [if_neg h1, if_pos (h.resolve_left h1), if_pos (by omega)]
noncomputable def mulB (w a b : Int) : Int × Int := lflo w (ltimes (limW w a) (limW w b))
theorem mulB_z {w a b : Int} (hw : w = 32 ∨ w = 64) (h : a = 0 ∨ b = 0) : mulB w a b = (0, 0) := by
  have hp := top_pos hw
  have e : ltimes (limW w a) (limW w b) = (0, 0) := by
    unfold ltimes
    split
    · rename_i k
      have ha : ¬ (a = top w ∨ a = -top w) := fun h1 => by
        have := k.1; rw [limW_inf hw h1] at this
        unfold sgI at this; split at this <;> (try split at this) <;> omega
      have hb : ¬ (b = top w ∨ b = -top w) := fun h1 => by
        have := k.2; rw [limW_inf hw h1] at this
        unfold sgI at this; split at this <;> (try split at this) <;> omega
      rw [limW_fin ha, limW_fin hb]
      rcases h with rfl | rfl
      · rw [vl_zero, Rat.zero_mul]
      · rw [vl_zero, Rat.mul_zero]
    · rw [lsgn_limW hw, lsgn_limW hw]
      rcases h with rfl | rfl
      · rw [show sgI 0 = 0 from rfl, Int.zero_mul]
      · rw [show sgI 0 = 0 from rfl, Int.mul_zero]
  rw [mulB, e, lflo, if_pos rfl, (dn_zero w).1, (dn_zero w).2]
theorem sgI_mul (a b : Int) (ha : a ≠ 0) (hb : b ≠ 0) : sgI a * sgI b = if (a < 0 ↔ b < 0) then 1 else -1 := by
  unfold sgI
  by_cases h1 : a < 0 <;> by_cases h2 : b < 0 <;> simp [h1, h2, ha, hb]
theorem mulB_i {w a b : Int} (hw : w = 32 ∨ w = 64) (ha : a ≠ 0) (hb : b ≠ 0) (h : (a = top w ∨ a = -top w) ∨ (b = top w ∨ b = -top w)) : mulB w a b = if (a < 0 ↔ b < 0) then (top w, top w) else (-top w, -top w) := by
  have e : ltimes (limW w a) (limW w b) = (sgI a * sgI b, 0) := by
    unfold ltimes
    rw [if_neg, lsgn_limW hw, lsgn_limW hw]
    rintro ⟨k1, k2⟩
    rcases h with h | h
    · rw [limW_inf hw h] at k1; unfold sgI at k1; split at k1 <;> (try split at k1) <;> omega
    · rw [limW_inf hw h] at k2; unfold sgI at k2; split at k2 <;> (try split at k2) <;> omega
  rw [mulB, e, lflo, sgI_mul a b ha hb]
  split
  · rw [if_neg (by decide)]; simp
  · rw [if_neg (by decide)]; simp
theorem mulB_f {w a b : Int} (h0 : ¬ (a = top w ∨ a = -top w)) (h : ¬ (b = top w ∨ b = -top w)) : mulB w a b = (dn w (vl w a * vl w b), up w (vl w a * vl w b)) := by
  rw [mulB, limW_fin h0, limW_fin h, ltimes, if_pos ⟨rfl, rfl⟩, lflo, if_pos rfl]
theorem ltimes_mid {w a b : Int} (ha : bitOk w a) (hb : bitOk w b) : (ltimes (limW w a) (limW w b)).1 = 0 → mid (ltimes (limW w a) (limW w b)).2 := by
  have h1 := limW_midN ha
  have h2 := limW_midN hb
  unfold ltimes
  split
  · rename_i k
    intro _
    have := midN_mul (h1 k.1) (h2 k.2)
    exact ⟨Nat.le_trans this.1 (by decide), Nat.le_trans this.2 (by decide)⟩
  · intro _
    dsimp only
    unfold mid dt db
    exact ⟨by rw [show dig (Rat.num 0).natAbs = [] from dig_nil.2 rfl]; decide, by rw [show dig (Rat.den 0) = [1] from dig_one]; decide⟩
theorem ltimes_rng {w a b : Int} : -1 ≤ (ltimes (limW w a) (limW w b)).1 ∧ (ltimes (limW w a) (limW w b)).1 ≤ 1 := by
  unfold ltimes
  split
  · dsimp only; omega
  · exact lsgn_mul _ _ (limW_rng w a) (limW_rng w b)
end Pf
/- Bounds of a quotient; the part above 0 -/
namespace Pf
open Go Go.Proofs
theorem vl_negate (w n : Int) : vl w (-n) = - vl w n := by
  unfold vl
  rw [Rat.neg_mkRat, Int.natAbs_neg]
  congr 1
  by_cases h0 : n = 0
  · subst h0; rw [show (0 : Int).natAbs = 0 from rfl, fv_zero, sg_zero, sg_zero]; rfl
  · by_cases h : n < 0
    · rw [sg_yes h, sg_no (show ¬ -n < 0 by omega), Int.neg_neg]
    · rw [sg_no h, sg_yes (show -n < 0 by omega)]
theorem mkRat_mono {a b : Int} {d : Nat} (hd : d ≠ 0) (h : a ≤ b) : mkRat a d ≤ mkRat b d := by
  rw [Rat.mkRat_eq_div, Rat.mkRat_eq_div, Rat.div_def, Rat.div_def]
  refine Rat.mul_le_mul_of_nonneg_right (Rat.intCast_le_intCast.2 h) (Rat.le_of_lt (Rat.inv_pos.2 ?_))
  rw [Rat.natCast_pos]; omega
theorem vl_mono {w a b : Int} (h : a ≤ b) : vl w a ≤ vl w b := by
  unfold vl
  refine mkRat_mono (two_nz _) ?_
  by_cases ha : a < 0
  · rw [sg_yes ha]
    by_cases hb : b < 0
    · rw [sg_yes hb]
      have := fv_le (F := fF w) (show b.natAbs ≤ a.natAbs by omega)
      omega
    · rw [sg_no hb]; omega
  · rw [sg_no ha, sg_no (show ¬ b < 0 by omega)]
    have := fv_le (F := fF w) (show a.natAbs ≤ b.natAbs by omega)
    omega
noncomputable def quotB (w a c : Int) : Int × Int := lflo w (lby (limW w a) (limW w c))
theorem quotB_z {w a c : Int} (hw : w = 32 ∨ w = 64) (h : a = 0 ∨ (c = top w ∨ c = -top w)) : quotB w a c = (0, 0) := by
  have hp := top_pos hw
  have e : lby (limW w a) (limW w c) = (0, 0) := by
    unfold lby
    by_cases hc : c = top w ∨ c = -top w
    · rw [if_pos]
      rw [limW_inf hw hc]; unfold sgI; dsimp only; split <;> (try split) <;> omega
    · have ha : a = 0 := h.resolve_right hc
      subst ha
      rw [limW_fin hc, limW_fin (w := w) (n := 0) (by omega), if_neg (by simp), if_neg (by simp), vl_zero]
      simp [Rat.div_def, Rat.zero_mul]
  rw [quotB, e, lflo, if_pos rfl, (dn_zero w).1, (dn_zero w).2]
theorem quotB_a {w a c : Int} (hw : w = 32 ∨ w = 64) (h : a = top w ∨ a = -top w) (hc : ¬ (c = top w ∨ c = -top w)) : quotB w a c = (a, a) := by
  have hp := top_pos hw
  have ha := limW_inf hw h
  have hs : sgI a ≠ 0 := by unfold sgI; split <;> (try split) <;> omega
  rw [quotB, limW_fin hc, ha, lby, if_neg (by simp), if_pos hs, lflo, if_neg hs]
  have : sgI a * top w = a := by
    unfold sgI
    rcases h with h | h
    · rw [if_neg (by omega), if_neg (by omega)]; omega
    · rw [if_pos (by omega)]; omega
  dsimp only; rw [this]
theorem quotB_f {w a c : Int} (ha : ¬ (a = top w ∨ a = -top w)) (hc : ¬ (c = top w ∨ c = -top w)) : quotB w a c = (dn w (vl w a / vl w c), up w (vl w a / vl w c)) := by
  rw [quotB, limW_fin hc, limW_fin ha, lby, if_neg (by simp), if_neg (by simp), lflo, if_pos rfl]
theorem quotB_neg {w a c : Int} (hw : w = 32 ∨ w = 64) : quotB w (-a) c = (-(quotB w a c).2, -(quotB w a c).1) := by
  by_cases h1 : a = 0 ∨ (c = top w ∨ c = -top w)
  · rw [quotB_z hw h1, quotB_z hw (h1.imp (by omega) id)]; rfl
  · have h1' := not_or.1 h1
    by_cases h2 : a = top w ∨ a = -top w
    · rw [quotB_a hw h2 h1'.2, quotB_a hw (by omega) h1'.2]
    · rw [quotB_f h2 h1'.2, quotB_f (by omega) h1'.2, vl_negate, Rat.div_def, Rat.neg_mul, ← Rat.div_def, dn_neg, up_neg]
theorem dn_nonneg {w : Int} {r : Rat} (h : 0 ≤ r) : 0 ≤ dn w r ∧ 0 ≤ up w r := by
  unfold dn up
  rw [if_neg (Rat.not_lt.2 h), if_neg (Rat.not_lt.2 h)]
  omega
theorem div_nonneg' {a b : Rat} (ha : 0 ≤ a) (hb : 0 < b) : 0 ≤ a / b := by
  rw [Rat.div_def]; exact Rat.mul_nonneg ha (Rat.le_of_lt (Rat.inv_pos.2 hb))
theorem div_le_div' {a b c d : Rat} (hb : 0 ≤ b) (h : a ≤ b) (hd : 0 < d) (hdc : d ≤ c) : a / c ≤ b / d := by
  have hc : 0 < c := by
    refine Rat.not_le.1 fun k => Rat.not_le.2 hd (Rat.le_trans hdc k)
  refine Rat.not_lt.1 fun k => ?_
  rw [Rat.lt_div_iff hc] at k
  have h1 : b / d * d ≤ b / d * c := Rat.mul_le_mul_of_nonneg_left hdc (div_nonneg' hb hd)
  rw [Rat.div_mul_cancel (Rat.ne_of_gt hd)] at h1
  exact Rat.not_le.2 k (Rat.le_trans h h1)
theorem le0 {w n : Int} (h : 0 ≤ n) : 0 ≤ vl w n := by have := vl_mono (w := w) h; rwa [vl_zero] at this
theorem up_rng' (w : Int) (r : Rat) : -(fT w : Int) < up w r ∧ up w r ≤ fT w := by
  have h := dn_rng w (-r)
  rw [dn_neg] at h
  omega
theorem quotB_rng {w a c : Int} (hb : bitOk w a) : -top w ≤ (quotB w a c).1 ∧ (quotB w a c).2 ≤ top w ∧ (a ≠ top w → (quotB w a c).1 ≠ top w) ∧ (a ≠ -top w → (quotB w a c).2 ≠ -top w) := by
  have hw := hb.1
  have hp := top_pos hw
  have ht := top_fT hw
  have hbr := hb.2
  by_cases h1 : a = 0 ∨ (c = top w ∨ c = -top w)
  · rw [quotB_z hw h1]; dsimp only; omega
  · have h1' := not_or.1 h1
    by_cases h2 : a = top w ∨ a = -top w
    · rw [quotB_a hw h2 h1'.2]; dsimp only; omega
    · rw [quotB_f h2 h1'.2]
      have k1 := dn_rng w (vl w a / vl w c)
      have k2 := up_rng' w (vl w a / vl w c)
      dsimp only
      omega
theorem quotB_nonneg {w a c : Int} (hw : w = 32 ∨ w = 64) (ha : 0 ≤ a) (hc : 0 < c) : 0 ≤ (quotB w a c).1 ∧ 0 ≤ (quotB w a c).2 := by
  by_cases h1 : a = 0 ∨ (c = top w ∨ c = -top w)
  · rw [quotB_z hw h1]; exact ⟨Int.le_refl _, Int.le_refl _⟩
  · have h1' := not_or.1 h1
    by_cases h2 : a = top w ∨ a = -top w
    · rw [quotB_a hw h2 h1'.2]; exact ⟨ha, ha⟩
    · rw [quotB_f h2 h1'.2]
      exact dn_nonneg (div_nonneg' (le0 ha) (vl_pos.2 hc))
theorem quotB_mono {w a b c d : Int} (hb : bitOk w b) (ha : 0 ≤ a) (hab : a ≤ b) (hd : 0 < d) (hdc : d ≤ c) (hc : c ≤ top w) : (quotB w a c).1 ≤ (quotB w b d).2 := by
  have hw := hb.1
  have hp := top_pos hw
  have hbr := hb.2
  have n2 := (quotB_nonneg hw (show 0 ≤ b by omega) hd).2
  by_cases h1 : a = 0 ∨ (c = top w ∨ c = -top w)
  · rw [quotB_z hw h1]; exact n2
  · have h1' := not_or.1 h1
    have hdi : ¬ (d = top w ∨ d = -top w) := by omega
    by_cases h2 : b = top w ∨ b = -top w
    · rw [quotB_a hw h2 hdi]
      have := (quotB_rng (w := w) (a := a) (c := c) ⟨hw, by omega, by omega⟩)
      by_cases h3 : a = top w ∨ a = -top w
      · rw [quotB_a hw h3 h1'.2]; exact hab
      · rw [quotB_f h3 h1'.2]
        have k1 := dn_rng w (vl w a / vl w c)
        have ht := top_fT hw
        dsimp only; omega
    · have h3 : ¬ (a = top w ∨ a = -top w) := by omega
      rw [quotB_f h3 h1'.2, quotB_f h2 hdi]
      exact dn_le_up (div_le_div' (le0 (by omega)) (vl_mono hab) (vl_pos.2 hd) (vl_mono hdc))
open Classical in
/-- All quotients of what the first has by what is above 0 in the second. -/
noncomputable def partS (w : Int) (x y : Prop × Int × Int) : Prop × Int × Int :=
  if y.2.2 ≤ 0 then noS else (True, (if 0 ≤ x.2.1 then (quotB w x.2.1 y.2.2).1 else if 0 < y.2.1 then (quotB w x.2.1 y.2.1).1 else -top w), (if x.2.2 ≤ 0 then (quotB w x.2.2 y.2.2).2 else if 0 < y.2.1 then (quotB w x.2.2 y.2.1).2 else top w))
theorem partS_ok {w : Int} {x y : Prop × Int × Int} (hx : fullS w x) (hy : fullS w y) (h : ¬ y.2.2 ≤ 0) : fullS w (partS w x y) := by
  obtain ⟨sx, a, b⟩ := x
  obtain ⟨sy, c, d⟩ := y
  obtain ⟨-, x1, x2, x3, x4, x5⟩ := hx
  obtain ⟨-, y1, y2, y3, y4, y5⟩ := hy
  have hw := x1.1
  have hp := top_pos hw
  rw [partS, if_neg h]
  dsimp only at *
  have x1r := x1.2
  have x2r := x2.2
  have y1r := y1.2
  have y2r := y2.2
  have r1 := quotB_rng (c := d) x1
  have r2 := quotB_rng (c := c) x1
  have r3 := quotB_rng (c := d) x2
  have r4 := quotB_rng (c := c) x2
  refine ⟨trivial, ?_⟩
  dsimp only
  -- the lower bound is no infinite one above, the upper none below
  have key : ∀ lo hi : Int, lo ≤ hi → -top w ≤ lo → hi ≤ top w → lo ≠ top w → hi ≠ -top w → pairOk w lo hi := fun lo hi k1 k2 k3 k4 k5 => ⟨⟨hw, by omega, by omega⟩, ⟨hw, by omega, by omega⟩, k1, k4, k5⟩
  by_cases ha : 0 ≤ a
  · rw [if_pos ha]
    have n1 := quotB_nonneg (c := d) hw ha (by omega)
    by_cases hb : b ≤ 0
    · have ea : a = 0 := by omega
      have eb : b = 0 := by omega
      rw [if_pos hb, ea, eb, quotB_z hw (.inl rfl)]
      exact key _ _ (by omega) (by omega) (by omega) (by omega) (by omega)
    · rw [if_neg hb]
      by_cases hc : 0 < c
      · rw [if_pos hc]
        have m := quotB_mono x2 ha x3 hc y3 (by omega)
        exact key _ _ m (by omega) (by omega) (by omega) (by omega)
      · rw [if_neg hc]
        refine key _ _ ?_ (by omega) (by omega) (by omega) (by omega)
        have := quotB_mono (w := w) (a := a) (b := top w) (c := d) (d := d) ⟨hw, by omega, by omega⟩ ha (by omega) (by omega) (Int.le_refl _) (by omega)
        have e := (quotB_rng (w := w) (a := top w) (c := d) ⟨hw, by omega, by omega⟩).2.1
        omega
  · rw [if_neg ha]
    by_cases hb : b ≤ 0
    · rw [if_pos hb]
      by_cases hc : 0 < c
      · rw [if_pos hc]
        have m := quotB_mono (w := w) (a := -b) (b := -a) (c := d) (d := c) ⟨hw, by omega, by omega⟩ (by omega) (by omega) hc y3 (by omega)
        rw [quotB_neg hw, quotB_neg hw] at m
        dsimp only at m
        exact key _ _ (by omega) (by omega) (by omega) (by omega) (by omega)
      · rw [if_neg hc]
        have n := quotB_neg (a := b) (c := d) hw
        have n2 := quotB_rng (w := w) (a := -b) (c := d) ⟨hw, by omega, by omega⟩
        rw [n] at n2
        dsimp only at n2
        have m := quotB_mono (w := w) (a := -b) (b := top w) (c := d) (d := d) ⟨hw, by omega, by omega⟩ (by omega) (by omega) (by omega) (Int.le_refl _) (by omega)
        have e := (quotB_rng (w := w) (a := top w) (c := d) ⟨hw, by omega, by omega⟩).2.1
        rw [n] at m
        dsimp only at m
        exact key _ _ (by omega) (by omega) (by omega) (by omega) (by omega)
    · rw [if_neg hb]
      by_cases hc : 0 < c
      · rw [if_pos hc, if_pos hc]
        have n1 := quotB_nonneg (w := w) (a := -a) (c := c) hw (by omega) hc
        rw [quotB_neg hw] at n1
        dsimp only at n1
        have n2 := quotB_nonneg (w := w) (a := b) (c := c) hw (by omega) hc
        exact key _ _ (by omega) (by omega) (by omega) (by omega) (by omega)
      · rw [if_neg hc, if_neg hc]
        exact key _ _ (by omega) (by omega) (by omega) (by omega) (by omega)
theorem partS_neg {w : Int} {x y : Prop × Int × Int} (hx : fullS w x) : partS w (True, -x.2.2, -x.2.1) y = if y.2.2 ≤ 0 then noS else (True, -(partS w x y).2.2, -(partS w x y).2.1) := by
  have hw := hx.2.1.1
  have hp := top_pos hw
  have h3 := hx.2.2.2.1
  by_cases h : y.2.2 ≤ 0
  · rw [if_pos h, partS, if_pos h]
  · rw [if_neg h, partS, if_neg h, partS, if_neg h]
    dsimp only
    rw [quotB_neg hw, quotB_neg hw, quotB_neg hw, quotB_neg hw]
    dsimp only
    refine Prod.ext rfl (Prod.ext ?_ ?_)
    · dsimp only
      by_cases hb : x.2.2 ≤ 0
      · rw [if_pos (show 0 ≤ -x.2.2 by omega), if_pos hb]
      · rw [if_neg (show ¬ 0 ≤ -x.2.2 by omega), if_neg hb]
        split <;> rfl
    · dsimp only
      by_cases ha : 0 ≤ x.2.1
      · rw [if_pos (show -x.2.1 ≤ 0 by omega), if_pos ha]
      · rw [if_neg (show ¬ -x.2.1 ≤ 0 by omega), if_neg ha]
        split <;> omega
end Pf
/- Two parts of a quotient -/
namespace Pf
open Go Go.Proofs
/-- What two parts are together: two spans, or their hull. -/
noncomputable def twoV (w : Int) (p q : Prop × Int × Int) : (Prop × Int × Int) × (Prop × Int × Int) :=
  open Classical in if p.1 ∧ q.1 ∧ p.2.2 < q.2.1 then (p, q) else if p.1 ∧ q.1 ∧ q.2.2 < p.2.1 then (q, p) else (hullS w p q, noS)
def okS (w : Int) (z : Prop × Int × Int) : Prop := z = noS ∨ fullS w z
theorem okS_span {w : Int} (hw : w = 32 ∨ w = 64) {z : Prop × Int × Int} (h : okS w z) : spanOk w z.1 z.2.1 z.2.2 := by
  rcases h with rfl | h
  · exact ⟨hw, .inr ⟨id, rfl, rfl⟩⟩
  · exact (fullS_iff.1 h).2
theorem okS_no {w : Int} {z : Prop × Int × Int} (h : okS w z) (hn : ¬ z.1) : z = noS := h.resolve_right fun k => hn k.1
theorem okS_full {w : Int} {z : Prop × Int × Int} (h : okS w z) (hn : z.1) : fullS w z := by
  rcases h with rfl | h
  · exact hn.elim
  · exact h
theorem two_p {w : Int} (hw : w = 32 ∨ w = 64) {p q : Prop × Int × Int} (hp : okS w p) (hq : okS w q) (h : ¬ p.1) : twoV w p q = (q, noS) := by
  rw [twoV, if_neg (fun k => h k.1), if_neg (fun k => h k.1), hullS, if_pos ⟨okS_span hw hp, okS_span hw hq⟩, if_neg h]
theorem two_q {w : Int} (hw : w = 32 ∨ w = 64) {p q : Prop × Int × Int} (hp : okS w p) (hq : okS w q) (h : p.1) (h2 : ¬ q.1) : twoV w p q = (p, noS) := by
  rw [twoV, if_neg (fun k => h2 k.2.1), if_neg (fun k => h2 k.2.1), hullS, if_pos ⟨okS_span hw hp, okS_span hw hq⟩, if_pos h, if_neg h2]
theorem meet_iff {w : Int} {p q : Prop × Int × Int} (hp : fullS w p) (hq : fullS w q) : (meetS w p q).1 ↔ (p.2.1 ≤ q.2.2 ∧ q.2.1 ≤ p.2.2) := by
  have h1 := hp.2
  have h2 := hq.2
  unfold pairOk bitOk at h1 h2
  unfold meetS
  by_cases h : fullS w p ∧ fullS w q ∧ pairOk w (max p.2.1 q.2.1) (min p.2.2 q.2.2)
  · rw [if_pos h]
    have := h.2.2.2.2.1
    exact ⟨fun _ => by omega, fun _ => trivial⟩
  · rw [if_neg h]
    refine ⟨fun k => k.elim, fun k => (h ⟨hp, hq, ?_⟩).elim⟩
    unfold pairOk bitOk
    refine ⟨⟨h1.1.1, by omega, by omega⟩, ⟨h1.1.1, by omega, by omega⟩, by omega, ?_, ?_⟩
    · intro k; omega
    · intro k; omega
theorem two_m {w : Int} {p q : Prop × Int × Int} (hp : fullS w p) (hq : fullS w q) (h : (meetS w p q).1) : twoV w p q = (hullS w p q, noS) := by
  have := (meet_iff hp hq).1 h
  rw [twoV, if_neg (fun k => by omega), if_neg (fun k => by omega)]
theorem two_l {w : Int} {p q : Prop × Int × Int} (hp : fullS w p) (hq : fullS w q) (h : ¬ (meetS w p q).1) (hl : p.2.1 < q.2.1) : twoV w p q = (p, q) := by
  have h1 := mt (meet_iff hp hq).2 h
  have := hp.2.2.2.1
  have := hq.2.2.2.1
  rw [twoV, if_pos ⟨hp.1, hq.1, by omega⟩]
theorem two_r {w : Int} {p q : Prop × Int × Int} (hp : fullS w p) (hq : fullS w q) (h : ¬ (meetS w p q).1) (hl : ¬ p.2.1 < q.2.1) : twoV w p q = (q, p) := by
  have h1 := mt (meet_iff hp hq).2 h
  have := hp.2.2.2.1
  have := hq.2.2.2.1
  rw [twoV, if_neg (fun k => by omega), if_pos ⟨hp.1, hq.1, by omega⟩]
open Classical in
noncomputable def twoS (w : Int) (x y : Prop × Int × Int) : (Prop × Int × Int) × (Prop × Int × Int) :=
  if fullS w x ∧ fullS w y then twoV w (partS w x y) (negS' w (partS w x (negS' w y))) else (noS, noS)
theorem negS_ok {w : Int} (hw : w = 32 ∨ w = 64) {x : Prop × Int × Int} (h : fullS w x) : fullS w (negS' w x) := by
  have h1 := h.2
  unfold negS'
  rw [if_pos h]
  unfold pairOk bitOk at h1
  refine ⟨trivial, ⟨hw, ?_, ?_⟩, ⟨hw, ?_, ?_⟩, ?_, ?_, ?_⟩ <;> dsimp only <;> omega
theorem negS_no (w : Int) : negS' w noS = noS := if_neg (fun k => k.1)
theorem partS_okS {w : Int} {x y : Prop × Int × Int} (hx : fullS w x) (hy : fullS w y) : okS w (partS w x y) := by
  by_cases h : y.2.2 ≤ 0
  · exact .inl (by rw [partS, if_pos h])
  · exact .inr (partS_ok hx hy h)
theorem negS_okS {w : Int} {x : Prop × Int × Int} (h : okS w x) : okS w (negS' w x) := by
  rcases h with rfl | h
  · exact .inl (negS_no w)
  · exact .inr (negS_ok h.2.1.1 h)
theorem part_below {w : Int} {x y : Prop × Int × Int} (hx : fullS w x) (hy : fullS w y) : partS w (negS' w x) (negS' w y) = negS' w (partS w x (negS' w y)) := by
  have hn := negS_ok hx.2.1.1 hy
  rw [show negS' w x = (True, -x.2.2, -x.2.1) from if_pos hx, partS_neg hx]
  by_cases h : (negS' w y).2.2 ≤ 0
  · rw [if_pos h, show partS w x (negS' w y) = noS by rw [partS, if_pos h], negS_no]
  · rw [if_neg h, show negS' w (partS w x (negS' w y)) = _ from if_pos (partS_ok hx hn h)]
theorem twoS_okS {w : Int} (hw : w = 32 ∨ w = 64) (x y : Prop × Int × Int) : okS w (twoS w x y).1 ∧ okS w (twoS w x y).2 := by
  unfold twoS
  split
  · rename_i h
    have h1 := partS_okS h.1 h.2
    have h2 := negS_okS (partS_okS h.1 (negS_ok hw h.2))
    generalize partS w x y = p at *
    generalize negS' w (partS w x (negS' w y)) = q at *
    unfold twoV
    split
    · exact ⟨h1, h2⟩
    · split
      · exact ⟨h2, h1⟩
      · refine ⟨?_, .inl rfl⟩
        unfold hullS
        rw [if_pos ⟨okS_span hw h1, okS_span hw h2⟩]
        split
        · split
          · rename_i k1 k2
            have f1 := (okS_full h1 k1).2
            have f2 := (okS_full h2 k2).2
            unfold pairOk bitOk at f1 f2
            refine .inr ⟨trivial, ⟨hw, ?_, ?_⟩, ⟨hw, ?_, ?_⟩, ?_, ?_, ?_⟩ <;> dsimp only <;> omega
          · exact h1
        · exact h2
  · exact ⟨.inl rfl, .inl rfl⟩
end Pf
/- The model's l9Mul, SpanMul -/
namespace Pf
open Go Go.Proofs
open Classical in
noncomputable def mulSp (w : Int) (x y : Prop × Int × Int) : Prop × Int × Int :=
  if fullS w x ∧ fullS w y then (True, min (min (mulB w x.2.1 y.2.1).1 (mulB w x.2.1 y.2.2).1) (min (mulB w x.2.2 y.2.1).1 (mulB w x.2.2 y.2.2).1), max (max (mulB w x.2.1 y.2.1).2 (mulB w x.2.1 y.2.2).2) (max (mulB w x.2.2 y.2.1).2 (mulB w x.2.2 y.2.2).2)) else noS
end Pf
/- The model's l9Quot, l9Part -/
namespace Pf
open Go Go.Proofs
theorem mkRat_div {n : Int} {b c d : Nat} (hb : b ≠ 0) (hd : d ≠ 0) (hc : c ≠ 0) : mkRat (n * d) (b * c) = mkRat n b / mkRat (c : Int) d := by
  rw [Rat.div_def, ← Rat.divInt_ofNat, ← Rat.divInt_ofNat, ← Rat.divInt_ofNat, Rat.inv_divInt, Rat.divInt_mul_divInt, Int.natCast_mul]
end Pf
/- impl's divAbove -/
namespace Pf
open Go Go.Proofs
open Classical in
noncomputable def nearL (w c : Int) (l : Int × Rat) : Int × Rat := if 0 < c then lby l (limW w c) else if lsgn l = 0 then l else (lsgn l, 0)
/-- A bound, written out. -/
abbrev limA (l : Int × Rat) : AV := .agg [.int .i64 l.1, .pr (l.1 = 0 ∧ l.2 < 0), .fi .i64 (if l.1 = 0 then dt l.2 else []), .fi .i64 (if l.1 = 0 then db l.2 else [])]
theorem limVA (l : Int × Rat) : limV l = limA l := limV_eq l
theorem midN_div {r s : Rat} {n : Nat} (h0 : 0 < s) (hr : midN n r) (hs : midN n s) : midN (n + n) (r / s) := by
  have hp : ¬ s < 0 := Rat.not_lt.2 (Rat.le_of_lt h0)
  have hn : s.num.natAbs ≠ 0 := fun h => Rat.ne_of_gt h0 (Rat.num_eq_zero.1 (by omega))
  refine midN_low (p := r < 0) (a := r.num.natAbs * s.den) (b := r.den * s.num.natAbs) (Nat.mul_ne_zero r.den_nz hn) ?_ (dig_len_mul hr.1 hs.2) (dig_len_mul hr.2 hs.1)
  rw [sg_mul_nat, mkRat_div r.den_nz s.den_nz hn, mk_R]
  congr 1
  have := mk_R s
  rwa [sg_no hp] at this
theorem mid_zero : mid 0 := by
  unfold mid dt db
  exact ⟨by rw [show dig (Rat.num 0).natAbs = [] from dig_nil.2 rfl]; decide, by rw [show dig (Rat.den 0) = [1] from dig_one]; decide⟩
theorem limW_fin0 {w c : Int} (hw : w = 32 ∨ w = 64) (h : (limW w c).1 = 0) : (limW w c).2 = vl w c := by
  have hi : ¬ (c = top w ∨ c = -top w) := fun hi => by
    have hp := top_pos hw
    rw [limW_inf hw hi] at h; unfold sgI at h; split at h <;> (try split at h) <;> omega
  rw [limW_fin hi]
theorem lby_mid {w a c : Int} (ha : bitOk w a) (hc : bitOk w c) (h0 : 0 < c) : ((lby (limW w a) (limW w c)).1 = 0 → mid (lby (limW w a) (limW w c)).2) ∧ -1 ≤ (lby (limW w a) (limW w c)).1 ∧ (lby (limW w a) (limW w c)).1 ≤ 1 := by
  have h1 := limW_midN ha
  have h2 := limW_midN hc
  have h3 := limW_rng w a
  unfold lby
  split
  · exact ⟨fun _ => mid_zero, by omega, by omega⟩
  · rename_i k1
    have k1 := Classical.not_not.1 k1
    split
    · rename_i k2
      exact ⟨fun k => absurd k k2, h3⟩
    · rename_i k2
      refine ⟨fun _ => ?_, by omega, by omega⟩
      have e := limW_fin0 hc.1 k1
      have := midN_div (by rw [e]; exact vl_pos.2 h0) (h1 (Classical.not_not.1 k2)) (h2 k1)
      exact ⟨Nat.le_trans this.1 (by decide), Nat.le_trans this.2 (by decide)⟩
noncomputable def nearB (w a c : Int) : Int × Int := lflo w (nearL w c (limW w a))
theorem nearB_y {w a c : Int} (h : 0 < c) : nearB w a c = quotB w a c := by rw [nearB, nearL, if_pos h]; rfl
theorem nearB_n {w a c : Int} (hw : w = 32 ∨ w = 64) (h : ¬ 0 < c) : nearB w a c = (sgI a * top w, sgI a * top w) := by
  have hp := top_pos hw
  rw [nearB, nearL, if_neg h, lsgn_limW hw]
  split
  · rename_i h0
    have ha : a = 0 := by unfold sgI at h0; split at h0 <;> (try split at h0) <;> omega
    subst ha
    rw [limW_fin (by omega), lflo, if_pos rfl, vl_zero, (dn_zero w).1, (dn_zero w).2, h0, Int.zero_mul]
  · rename_i h0
    rw [lflo, if_neg h0]
theorem part_lo {w : Int} {x y : Prop × Int × Int} (hw : w = 32 ∨ w = 64) (h : ¬ y.2.2 ≤ 0) : (partS w x y).2.1 = if 0 ≤ sgI x.2.1 then (quotB w x.2.1 y.2.2).1 else (nearB w x.2.1 y.2.1).1 := by
  rw [partS, if_neg h]
  dsimp only
  have e : 0 ≤ sgI x.2.1 ↔ 0 ≤ x.2.1 := by unfold sgI; split <;> (try split) <;> omega
  by_cases h1 : 0 ≤ x.2.1
  · rw [if_pos h1, if_pos (e.2 h1)]
  · rw [if_neg h1, if_neg (fun k => h1 (e.1 k))]
    by_cases h2 : 0 < y.2.1
    · rw [if_pos h2, nearB_y h2]
    · rw [if_neg h2, nearB_n hw h2, show sgI x.2.1 = -1 from if_pos (by omega)]; dsimp only; omega
theorem part_hi {w : Int} {x y : Prop × Int × Int} (hw : w = 32 ∨ w = 64) (h : ¬ y.2.2 ≤ 0) : (partS w x y).2.2 = if sgI x.2.2 < 0 then (quotB w x.2.2 y.2.2).2 else (nearB w x.2.2 y.2.1).2 := by
  rw [partS, if_neg h]
  dsimp only
  by_cases h1 : x.2.2 < 0
  · rw [if_pos (show x.2.2 ≤ 0 by omega), if_pos (show sgI x.2.2 < 0 by rw [sgI, if_pos h1]; decide)]
  · rw [if_neg (show ¬ sgI x.2.2 < 0 by rw [sgI, if_neg h1]; split <;> omega)]
    by_cases h0 : x.2.2 = 0
    · rw [if_pos (show x.2.2 ≤ 0 by omega), h0, quotB_z hw (.inl rfl)]
      by_cases h2 : 0 < y.2.1
      · rw [nearB_y h2, quotB_z hw (.inl rfl)]
      · rw [nearB_n hw h2]; simp [sgI]
    · rw [if_neg (show ¬ x.2.2 ≤ 0 by omega)]
      by_cases h2 : 0 < y.2.1
      · rw [if_pos h2, nearB_y h2]
      · rw [if_neg h2, nearB_n hw h2, show sgI x.2.2 = 1 by rw [sgI, if_neg h1, if_neg h0]]; dsimp only; omega
end Pf
/- Spans: the model's hulls and meets -/
namespace Pf
open Go Go.Proofs
end Pf
/- SpanDivTwo, SpanDiv on both sides -/
namespace Pf
open Go Go.Proofs
noncomputable abbrev spR2 (p : (Prop × Int × Int) × (Prop × Int × Int)) : AV := .tup [spA p.1, spA p.2]
noncomputable def divSp (w : Int) (x y : Prop × Int × Int) : Prop × Int × Int := hullS w (twoS w x y).1 (twoS w x y).2
end Pf
/- impl's SpanMul -/
namespace Pf
open Go Go.Proofs
def mulAcc (B : Nat → Int × Int) : Nat → Int × Int
  | 0 => (0, 0)
  | 1 => B 0
  | n + 2 => (min (mulAcc B (n + 1)).1 (B (n + 1)).1, max (mulAcc B (n + 1)).2 (B (n + 1)).2)
def accR (B : Nat → Int × Int) : Nat → List AV
  | 0 => [.bool false, .int .i64 0, .int .i64 0]
  | n + 1 => [.pr True, .int .i64 (mulAcc B (n + 1)).1, .int .i64 (mulAcc B (n + 1)).2]
noncomputable def mulX (w : Int) (x y : Prop × Int × Int) (n : Nat) : Int × Int := mulB w (if n / 2 = 0 then x.2.1 else x.2.2) (if n % 2 = 0 then y.2.1 else y.2.2)
theorem mulAcc_end (w : Int) (x y : Prop × Int × Int) (h : fullS w x ∧ fullS w y) : spA (mulSp w x y) = .agg [.pr True, .int .i64 (mulAcc (mulX w x y) 4).1, .int .i64 (mulAcc (mulX w x y) 4).2] := by
  rw [mulSp, if_pos h]
  have e0 : mulX w x y 0 = mulB w x.2.1 y.2.1 := rfl
  have e1 : mulX w x y 1 = mulB w x.2.1 y.2.2 := rfl
  have e2 : mulX w x y 2 = mulB w x.2.2 y.2.1 := rfl
  have e3 : mulX w x y 3 = mulB w x.2.2 y.2.2 := rfl
  simp only [mulAcc, e0, e1, e2, e3, spA, spV]
  have m1 : ∀ a b c d : Int, min (min a b) (min c d) = min (min (min a b) c) d := by intros; omega
  have m2 : ∀ a b c d : Int, max (max a b) (max c d) = max (max (max a b) c) d := by intros; omega
  rw [m1, m2]
end Pf
/- BackMul, its gap, BackTop, BackBottom on both sides -/
namespace Pf
open Go Go.Proofs
/-- A span has 0; is just 0. -/
def zeroS (x : Prop × Int × Int) : Prop := x.2.1 ≤ 0 ∧ 0 ≤ x.2.2
open Classical in
noncomputable def backMul (w : Int) (z y x : Prop × Int × Int) : Prop × Int × Int :=
  if fullS w z ∧ fullS w y ∧ fullS w x then (if zeroS z ∧ zeroS y then x else hullS w (meetS w x (twoS w z y).1) (meetS w x (twoS w z y).2)) else noS
open Classical in
/-- The gap: whether there is one, its bounds. -/
noncomputable def gapS (w : Int) (z y x : Prop × Int × Int) : Prop × Int × Int :=
  if fullS w z ∧ fullS w y ∧ fullS w x then (if zeroS z ∧ zeroS y then noS else if (meetS w x (twoS w z y).1).1 ∧ (meetS w x (twoS w z y).2).1 then (True, (meetS w x (twoS w z y).1).2.2, (meetS w x (twoS w z y).2).2.1) else noS) else noS
abbrev gapA (g : Prop × Int × Int) : AV := .tup [.agg [.int .i64 g.2.1, .int .i64 g.2.2], .pr g.1]
theorem sub_gap : Sub (.tup [.agg [.int .i64 0, .int .i64 0], .bool false]) (gapA noS) := .tup ⟨.agg ⟨.refl, .refl, trivial⟩, .no id, trivial⟩
open Classical in
noncomputable def backTop (w : Int) (z y x : Prop × Int × Int) : Prop × Int × Int :=
  if fullS w z ∧ fullS w y ∧ fullS w x then (if y.2.1 = 0 ∧ y.2.2 = 0 then noS else meetS w x (mulSp w z y)) else noS
open Classical in
noncomputable def backBot (w : Int) (z x y : Prop × Int × Int) : Prop × Int × Int :=
  if fullS w z ∧ fullS w x ∧ fullS w y then (if y.2.1 = 0 ∧ y.2.2 = 0 then noS else backMul w x z y) else noS
end Pf
/- The laws of SpanMul, SpanDiv, SpanDivTwo, BackMul, BackMulGap, BackTop, BackBottom -/
namespace Pf
open Go Go.Proofs
end Pf
/- Fractions compared: impl's cmp, the model's l8Cmp -/
namespace Pf
open Go Go.Proofs
open Classical in
/-- How two numbers compare. -/
noncomputable def cmpR (r s : Rat) : Int := if r < s then -1 else if r = s then 0 else 1
theorem sgn_mul_pos {z k : Int} (hk : 0 < k) : sgn (z * k) = sgn z := by
  unfold sgn
  rcases Int.lt_trichotomy z 0 with h | h | h
  · have := Int.mul_neg_of_neg_of_pos h hk; omega
  · subst h; rw [Int.zero_mul]
  · have := Int.mul_pos h hk; omega
theorem cmpR_xy (r s : Rat) : cmpR r s = sgn (r.num * s.den - s.num * r.den) := by
  unfold cmpR sgn
  by_cases h : r < s
  · rw [if_pos h]; have := (Rat.lt_iff r s).1 h; omega
  · rw [if_neg h]
    have h1 := mt (Rat.lt_iff r s).2 h
    by_cases h2 : r = s
    · rw [if_pos h2]; have := Rat.eq_iff_mul_eq_mul.1 h2; omega
    · rw [if_neg h2]; have := mt Rat.eq_iff_mul_eq_mul.2 h2; omega
theorem mkRat_parts2 (n : Int) {b : Nat} (hb : b ≠ 0) : ∃ k : Nat, k ≠ 0 ∧ n = (mkRat n b).num * k ∧ b = (mkRat n b).den * k := by
  obtain ⟨m, h1, h2, h3⟩ := Rat.mkRat_num_den hb (show mkRat n b = ⟨(mkRat n b).num, (mkRat n b).den, (mkRat n b).den_nz, (mkRat n b).reduced⟩ from rfl)
  exact ⟨m, h1, h2, h3⟩
theorem cmpR_mk {n m : Int} {b d : Nat} (hb : b ≠ 0) (hd : d ≠ 0) : cmpR (mkRat n b) (mkRat m d) = sgn (n * d - m * b) := by
  obtain ⟨k, k0, k1, k2⟩ := mkRat_parts2 n hb
  obtain ⟨l, l0, l1, l2⟩ := mkRat_parts2 m hd
  rw [cmpR_xy]
  generalize mkRat n b = r at *
  generalize mkRat m d = s at *
  rw [k1, l1, k2, l2]
  have e : r.num * k * ((s.den * l : Nat) : Int) - s.num * l * ((r.den * k : Nat) : Int) = (r.num * s.den - s.num * r.den) * ((k * l : Nat) : Int) := by
    simp only [Int.natCast_mul, Int.sub_mul]
    congr 1
    · simp only [Int.mul_assoc, Int.mul_left_comm, Int.mul_comm]
    · simp only [Int.mul_assoc, Int.mul_left_comm, Int.mul_comm]
  rw [e, sgn_mul_pos (Int.natCast_pos.2 (Nat.mul_pos (by omega) (by omega)))]
open Classical in
theorem cmpR_sg (p q : Prop) {a b c d : Nat} (hb : b ≠ 0) (hd : d ≠ 0) : cmpR (mkRat (sg p a) b) (mkRat (sg q c) d) =
    (if p ∧ a * d ≠ 0 then (if q ∧ c * b ≠ 0 then sgn ((c * b : Nat) - (a * d : Nat) : Int) else -1) else if q ∧ c * b ≠ 0 then 1 else sgn ((a * d : Nat) - (c * b : Nat) : Int)) := by
  rw [cmpR_mk hb hd, ← sg_mul_nat, ← sg_mul_nat]
  generalize a * d = x
  generalize c * b = y
  unfold sgn
  by_cases hp : p
  · rw [sg_yes hp]
    by_cases hq : q
    · rw [sg_yes hq]; simp only [hp, hq, true_and]
      split <;> (try split) <;> omega
    · rw [sg_no hq]; simp only [hp, hq, true_and, false_and, if_false]
      split <;> omega
  · rw [sg_no hp]
    by_cases hq : q
    · rw [sg_yes hq]; simp only [hp, hq, true_and, false_and, if_false]
      split <;> omega
    · rw [sg_no hq]; simp only [hp, hq, false_and, if_false]
theorem cmpR_f (r s : Rat) : cmpR r s = (if r < 0 then (if s < 0 then sgn ((s.num.natAbs * r.den : Nat) - (r.num.natAbs * s.den : Nat) : Int) else -1) else if s < 0 then 1 else sgn ((r.num.natAbs * s.den : Nat) - (s.num.natAbs * r.den : Nat) : Int)) := by
  have h := cmpR_sg (r < 0) (s < 0) (a := r.num.natAbs) (c := s.num.natAbs) r.den_nz s.den_nz
  rw [mk_R, mk_R] at h
  rw [h]
  have hr : r < 0 → r.num.natAbs * s.den ≠ 0 := fun k => Nat.mul_ne_zero (by have := num_neg.1 k; omega) s.den_nz
  have hs : s < 0 → s.num.natAbs * r.den ≠ 0 := fun k => Nat.mul_ne_zero (by have := num_neg.1 k; omega) r.den_nz
  by_cases h1 : r < 0 <;> by_cases h2 : s < 0 <;> simp [h1, h2, hr, hs]
theorem fsgn_R (r : Rat) : fsgn (r < 0) (dt r) = if r < 0 then -1 else if r.num.natAbs = 0 then 0 else 1 := by
  unfold fsgn dt
  simp only [dig_nil]
theorem cmpR_ne {r s : Rat} (h : fsgn (r < 0) (dt r) ≠ fsgn (s < 0) (dt s)) : max (-1) (min 1 (fsgn (r < 0) (dt r) - fsgn (s < 0) (dt s))) = cmpR r s := by
  rw [cmpR_f]
  have hA : r.num.natAbs = 0 ↔ r.num.natAbs * s.den = 0 := by have := s.den_nz; simp [Nat.mul_eq_zero, this]
  have hB : s.num.natAbs = 0 ↔ s.num.natAbs * r.den = 0 := by have := r.den_nz; simp [Nat.mul_eq_zero, this]
  rw [fsgn_R, fsgn_R] at h ⊢
  generalize r.num.natAbs * s.den = A at *
  generalize s.num.natAbs * r.den = B at *
  generalize r.num.natAbs = R at *
  generalize s.num.natAbs = S at *
  unfold sgn
  by_cases h1 : r < 0 <;> by_cases h2 : s < 0 <;> simp only [h1, h2, if_true, if_false] at h ⊢ <;> (repeat' split) <;> (try split at h) <;> (try split at h) <;> omega
theorem cmpR_eq {r s : Rat} (h : fsgn (r < 0) (dt r) = fsgn (s < 0) (dt s)) : cmpR r s = if r < 0 then -sgn ((r.num.natAbs * s.den : Nat) - (s.num.natAbs * r.den : Nat) : Int) else sgn ((r.num.natAbs * s.den : Nat) - (s.num.natAbs * r.den : Nat) : Int) := by
  rw [cmpR_f]
  rw [fsgn_R, fsgn_R] at h
  generalize r.num.natAbs * s.den = A at *
  generalize s.num.natAbs * r.den = B at *
  unfold sgn
  by_cases h1 : r < 0 <;> by_cases h2 : s < 0 <;> simp only [h1, h2, if_true, if_false] at h ⊢ <;> (try split at h) <;> omega
theorem fcmp_ok (r s : Rat) (hr : mid r) (hs : mid s) : AFunP Try.prog 31 [frR r, frR s] (· = .int .i64 (cmpR r s)) := by
  have s1 := signR_ok r hr
  have s2 := signR_ok s hs
  have b1 : ∀ t : Rat, -1 ≤ fsgn (t < 0) (dt t) ∧ fsgn (t < 0) (dt t) ≤ 1 := fun t => by unfold fsgn; split <;> (try split) <;> omega
  have b1r := b1 r
  have b1s := b1 s
  refine afun_of Try.func31 Try.call31 rfl Try.ntmps31 rfl ?_
  have W : Walk Try.prog TT 31 _ := Walk.of TT_ok Try.func31 Try.results31
  refine dre W 0 3 [] [.int .i64 (fsgn (r < 0) (dt r))] rfl rfl rfl ⟨s1.at rfl _, trivial⟩ rfl ?_
  refine ce W 0 rfl rfl (s2) rfl ?_
  refine sp W 0 rfl rfl rfl (fun h1 => ?_) (fun h1 => ?_)
  · rw [← cmpR_ne h1]
    refine dre W 0 3 [] [.int .i64 (fsgn (r < 0) (dt r))] rfl rfl rfl ⟨s1.at rfl _, trivial⟩ rfl ?_
    refine ce W 0 rfl rfl (s2) rfl ?_
    refine rp W 0 rfl rfl rfl (.refl)
  · rw [cmpR_eq (Classical.not_not.1 h1)]
    have x1 := dig_len_mul hr.1 hs.2
    have x2 := dig_len_mul hs.1 hr.2
    refine dre W 0 9 [] [.fi .i64 (dig (r.num.natAbs * s.den))] rfl rfl rfl ⟨(natMul_ok _ _ (by have := hr.1; unfold dt at this; omega) (by have := hs.2; unfold db at this; omega)).at rfl _, trivial⟩ rfl ?_
    refine ce W 0 rfl rfl (natMul_ok s.num.natAbs r.den (by have := hs.1; unfold dt at this; omega) (by have := hr.2; unfold db at this; omega)) rfl ?_
    refine ce W 0 rfl rfl (natCmp_ok (r.num.natAbs * s.den) (s.num.natAbs * r.den) (by omega) (by omega)) rfl ?_
    have b2 : -1 ≤ sgn ((r.num.natAbs * s.den : Nat) - (s.num.natAbs * r.den : Nat) : Int) ∧ sgn ((r.num.natAbs * s.den : Nat) - (s.num.natAbs * r.den : Nat) : Int) ≤ 1 := by unfold sgn; omega
    generalize sgn ((r.num.natAbs * s.den : Nat) - (s.num.natAbs * r.den : Nat) : Int) = z at *
    refine sp W 0 rfl rfl rfl (fun h2 => ?_) (fun h2 => ?_)
    · rw [if_pos h2]
      refine rp W 0 rfl rfl rfl (.refl)
    · rw [if_neg h2]
      refine rp W 0 rfl rfl rfl (.refl)
end Pf
/- The law of FracNeg -/
namespace Pf
open Go Go.Proofs
theorem szF_le {t d : List Int} (h : ¬ szF 1048576 t d < 0) : t.length ≤ 1048576 ∧ d.length ≤ 1048576 ∧ szF 1048576 t d = 1048576 - t.length - d.length := by
  unfold szF at h ⊢
  split at h
  · omega
  · split at h
    · omega
    · rename_i h1 h2; rw [if_neg h1, if_neg h2]; omega
abbrev nilFr : AV := .agg [.bool false, .nils, .nils]
end Pf
/- FloatNear on both sides, its law -/
namespace Pf
open Go Go.Proofs
theorem frR_neg (r : Rat) : frF (¬ r < 0 ∧ dt r ≠ []) (dt r) (db r) = frR (-r) := by
  unfold frR
  have e1 : dt (-r) = dt r := by unfold dt; rw [Rat.neg_num, Int.natAbs_neg]
  have e2 : db (-r) = db r := by unfold db; rw [Rat.neg_den]
  have e3 : (¬ r < 0 ∧ dt r ≠ []) ↔ -r < 0 := by
    rw [Rat.neg_lt_iff, Rat.neg_zero, ne_eq, dt_nil, Rat.not_lt]
    exact ⟨fun h => Rat.lt_of_le_of_ne h.1 (Ne.symm h.2), fun h => ⟨Rat.le_of_lt h, Rat.ne_of_gt h⟩⟩
  rw [e1, e2, propext e3]
theorem negR_ok (r : Rat) (hr : mid r) : AFunP Try.prog 39 [frR r] (· = frR (-r)) := by
  have := fneg_ok (r < 0) (dt r) (db r) (by have := hr.1; omega)
  rw [frR_neg] at this
  exact this
theorem cmpR_add (a b c : Rat) : cmpR (a + c) (b + c) = cmpR a b := by
  unfold cmpR
  have h1 : (a + c < b + c) = (a < b) := propext Rat.add_lt_add_right
  have h2 : (a + c = b + c) = (a = b) := propext ⟨Rat.add_right_cancel c, fun h => by rw [h]⟩
  simp only [h1, h2]
theorem cmpR_near (r v u : Rat) : cmpR (r + -v) (u + -r) = cmpR (r + r) (v + u) := by
  rw [← cmpR_add (r + -v) (u + -r) (v + r)]
  congr 1
  · rw [Rat.add_assoc, ← Rat.add_assoc (-v), Rat.neg_add_cancel, Rat.zero_add]
  · rw [Rat.add_comm v r, Rat.add_assoc, ← Rat.add_assoc (-r), Rat.neg_add_cancel, Rat.zero_add, Rat.add_comm]
theorem dn_low {w : Int} {r : Rat} (h : dn w r = -(fT w : Int)) : up w r = -(fT w : Int) + 1 := by
  have h1 := tv_le w r
  have h2 := nx_le w r
  have h3 := fT_pos w
  unfold dn at h
  unfold up
  by_cases h0 : r < 0
  · rw [if_pos h0] at h ⊢; omega
  · rw [if_neg h0] at h; omega
theorem up_high {w : Int} {r : Rat} (h : up w r = (fT w : Int)) : dn w r = (fT w : Int) - 1 := by
  have := dn_low (w := w) (r := -r) (by rw [dn_neg, h])
  rw [up_neg] at this
  omega
open Classical in
/-- The finite float that is nearest. -/
noncomputable def nearF (w : Int) (r : Rat) : Int :=
  if dn w r = -top w then -top w + 1 else if up w r = top w then top w - 1 else
    if cmpR (r + r) (vl w (dn w r) + vl w (up w r)) < 0 ∨ (cmpR (r + r) (vl w (dn w r) + vl w (up w r)) = 0 ∧ (dn w r).tmod 2 = 0) then dn w r else up w r
theorem midN_mono {m n : Nat} {r : Rat} (h : midN m r) (hm : m ≤ n) : midN n r := ⟨Nat.le_trans h.1 hm, Nat.le_trans h.2 hm⟩
theorem midN_neg {n : Nat} {r : Rat} (h : midN n r) : midN n (-r) := by
  unfold midN dt db at *
  rw [Rat.neg_num, Int.natAbs_neg, Rat.neg_den]
  exact h
theorem cmpR_rng (r s : Rat) : -1 ≤ cmpR r s ∧ cmpR r s ≤ 1 := by unfold cmpR; split <;> (try split) <;> omega
open Classical in
noncomputable def nearN (w : Int) (p : Prop) (t u : List Int) : Int := if (w = 32 ∨ w = 64) ∧ frOk p t u then nearF w (rat p t u) else 0
end Pf
/- Floats and numbers: roundings of floats, what lies between -/
namespace Pf
open Go Go.Proofs
theorem tv_vl {w n : Int} (h : n.natAbs < fT w) : tv w (vl w n) = n.natAbs ∧ te w (vl w n) := by
  have hb := two_nz (fK w)
  have k := tv_of (w := w) (p := n < 0) (a := fv (fF w) n.natAbs) (b := 2 ^ fK w) (r := vl w n) hb rfl
  have e1 : fv (fF w) n.natAbs * 2 ^ fK w / 2 ^ fK w = fv (fF w) n.natAbs := Nat.mul_div_cancel _ (Nat.pow_pos (by omega))
  have e2 : tvN w (fv (fF w) n.natAbs) (2 ^ fK w) = n.natAbs := by
    unfold tvN
    rw [e1]
    exact trn_eq (by omega) (Nat.le_refl _) (.inr (fv_step _ _))
  refine ⟨by rw [← k.1, e2], k.2.1 ?_⟩
  unfold teN
  rw [e2]
theorem dn_vl {w n : Int} (h : n.natAbs < fT w) : dn w (vl w n) = n ∧ up w (vl w n) = n := by
  obtain ⟨h1, h2⟩ := tv_vl h
  unfold dn up nx
  rw [if_pos h2, h1]
  by_cases hn : n < 0
  · rw [if_pos (vl_lt.2 hn)]; omega
  · rw [if_neg (fun k => hn (vl_lt.1 k))]; omega
theorem fv_sgn (F : Nat) (a b : Nat) : sgn ((fv F a : Int) - fv F b) = sgn ((a : Int) - b) := by
  rcases Nat.lt_trichotomy a b with h | h | h
  · have := fv_lt (F := F) h; unfold sgn; omega
  · subst h; unfold sgn; omega
  · have := fv_lt (F := F) h; unfold sgn; omega
theorem cmp_vl (w a b : Int) : cmpR (vl w a) (vl w b) = sgn (a - b) := by
  unfold vl
  rw [cmpR_mk (two_nz _) (two_nz _), ← Int.sub_mul, sgn_mul_pos (Int.natCast_pos.2 (Nat.pow_pos (by omega)))]
  have k1 := fv_sgn (fF w) a.natAbs b.natAbs
  have p1 : a ≠ 0 → fv (fF w) a.natAbs ≠ 0 := fun h => fv_pos (by omega)
  have p2 : b ≠ 0 → fv (fF w) b.natAbs ≠ 0 := fun h => fv_pos (by omega)
  have z1 : a = 0 → fv (fF w) a.natAbs = 0 := fun h => by subst h; exact fv_zero _
  have z2 : b = 0 → fv (fF w) b.natAbs = 0 := fun h => by subst h; exact fv_zero _
  generalize fv (fF w) a.natAbs = x at *
  generalize fv (fF w) b.natAbs = y at *
  unfold sgn at *
  by_cases ha : a < 0
  · rw [sg_yes ha]
    by_cases hb : b < 0
    · rw [sg_yes hb]; omega
    · rw [sg_no hb]; omega
  · rw [sg_no ha]
    by_cases hb : b < 0
    · rw [sg_yes hb]; omega
    · rw [sg_no hb]; omega
theorem cmpR_neg (r s : Rat) : cmpR (-r) (-s) = - cmpR r s := by
  have := cmpR_xy r s
  rw [this, cmpR_xy, Rat.neg_num, Rat.neg_num, Rat.neg_den, Rat.neg_den, Int.neg_mul, Int.neg_mul]
  unfold sgn; omega
theorem cmpR_swap (r s : Rat) : cmpR s r = - cmpR r s := by
  rw [cmpR_xy, cmpR_xy]; unfold sgn; omega
theorem te_iff {w : Int} {r : Rat} : te w r ↔ dn w r = up w r := by
  unfold dn up nx
  by_cases h : te w r
  · simp [h]
  · simp only [h, if_false, false_iff]
    split <;> omega
open Classical in
theorem cmp_tv {w : Int} {r : Rat} (h0 : ¬ r < 0) : cmpR (vl w (tv w r)) r = (if te w r then 0 else -1) ∧ (tv w r + 1 ≠ fT w → cmpR (vl w ((tv w r : Int) + 1)) r = 1) := by
  have hd : 0 < r.den := Nat.pos_of_ne_zero r.den_nz
  have hr : mkRat (r.num.natAbs : Int) r.den = r := by have := mk_R r; rwa [sg_no h0] at this
  have key : ∀ m : Nat, cmpR (vl w m) r = sgn ((fv (fF w) m * r.den : Nat) - (r.num.natAbs * 2 ^ fK w : Nat) : Int) := fun m => by
    unfold vl
    conv => lhs; rw [← hr]
    rw [cmpR_mk (two_nz _) r.den_nz, sg_no (by omega), Int.natAbs_natCast, ← Int.natCast_mul, ← Int.natCast_mul]
  have hle : fv (fF w) (tv w r) * r.den ≤ r.num.natAbs * 2 ^ fK w := (Nat.le_div_iff_mul_le hd).1 (trn_fv (fF w) (fT w) (r.num.natAbs * 2 ^ fK w / r.den))
  have hnx := trn_next (fF w) (fT w) (r.num.natAbs * 2 ^ fK w / r.den)
  have hte : te w r ↔ fv (fF w) (tv w r) * r.den = r.num.natAbs * 2 ^ fK w := Iff.rfl
  refine ⟨?_, fun hT => ?_⟩
  · rw [key]
    by_cases h : te w r
    · rw [if_pos h, hte.1 h]; unfold sgn; omega
    · rw [if_neg h]
      have := mt hte.2 h
      unfold sgn; omega
  · have e : ((tv w r : Int) + 1) = ((tv w r + 1 : Nat) : Int) := by omega
    rw [e, key]
    have hT' : tv w r ≠ fT w - 1 := by have := fT_pos w; omega
    have h1 : r.num.natAbs * 2 ^ fK w / r.den < fv (fF w) (tv w r + 1) := hnx.resolve_left hT'
    have h2 := (Nat.div_lt_iff_lt_mul hd).1 h1
    unfold sgn; omega
open Classical in
theorem lo_hi0 {w : Int} {r : Rat} (h0 : ¬ r < 0) : (dn w r ≠ -(fT w : Int) → cmpR (vl w (dn w r)) r = if te w r then 0 else -1) ∧ (up w r ≠ (fT w : Int) → cmpR (vl w (up w r)) r = if te w r then 0 else 1) := by
  obtain ⟨k1, k2⟩ := cmp_tv (w := w) h0
  refine ⟨fun _ => ?_, fun h => ?_⟩
  · rw [show dn w r = tv w r from if_neg h0]; exact k1
  · have e : up w r = nx w r := if_neg h0
    rw [e] at h ⊢
    unfold nx at h ⊢
    by_cases ht : te w r
    · rw [if_pos ht, if_pos ht, k1, if_pos ht]
    · rw [if_neg ht] at h ⊢
      rw [if_neg ht]
      exact k2 (by omega)
open Classical in
theorem lo_hi (w : Int) (r : Rat) : (dn w r ≠ -(fT w : Int) → cmpR (vl w (dn w r)) r = if te w r then 0 else -1) ∧ (up w r ≠ (fT w : Int) → cmpR (vl w (up w r)) r = if te w r then 0 else 1) := by
  by_cases h0 : r < 0
  · have h1 : ¬ -r < 0 := by rw [num_neg, Rat.neg_num]; have := num_neg.1 h0; omega
    obtain ⟨k1, k2⟩ := lo_hi0 (w := w) h1
    have et := (tv_neg w r).2
    rw [dn_neg, vl_negate, cmpR_neg] at k1
    rw [up_neg, vl_negate, cmpR_neg] at k2
    by_cases ht : te w r
    · rw [if_pos (et.2 ht)] at k1 k2
      rw [if_pos ht, if_pos ht]
      exact ⟨fun h => by have := k2 (by omega); omega, fun h => by have := k1 (by omega); omega⟩
    · rw [if_neg (fun k => ht (et.1 k))] at k1 k2
      rw [if_neg ht, if_neg ht]
      exact ⟨fun h => by have := k2 (by omega); omega, fun h => by have := k1 (by omega); omega⟩
  · exact lo_hi0 h0
theorem nearF_vl {w n : Int} (hw : w = 32 ∨ w = 64) (h : n.natAbs < fT w) : nearF w (vl w n) = n := by
  have ht := top_fT hw
  obtain ⟨e1, e2⟩ := dn_vl h
  unfold nearF
  rw [e1, e2, if_neg (by omega), if_neg (by omega), ite_self]
theorem tmod2 (n : Int) : n.tmod 2 = 0 ↔ n % 2 = 0 := by
  rw [← Int.dvd_iff_tmod_eq_zero, Int.dvd_iff_emod_eq_zero]
theorem up_dn1 (w : Int) (r : Rat) : dn w r ≤ up w r ∧ up w r ≤ dn w r + 1 := by
  have := nx_le w r
  unfold dn up
  split <;> omega
theorem nearF_rng {w : Int} {r : Rat} (hw : w = 32 ∨ w = 64) : -top w < nearF w r ∧ nearF w r < top w := by
  have ht := top_fT hw
  have h1 := dn_rng w r
  have h2 := up_rng w r
  have h3 := fT_rng w
  have h4 := up_dn1 w r
  unfold nearF
  split
  · omega
  · split
    · omega
    · split <;> omega
/-- The nearest one, of two finite ones. -/
theorem nearF_fin {w : Int} {r : Rat} (h1 : dn w r ≠ -top w) (h2 : up w r ≠ top w) :
    (cmpR (r + -vl w (dn w r)) (vl w (up w r) + -r) = 0 → dn w r ≠ up w r → nearF w r % 2 = 0) ∧
    ((nearF w r = dn w r ∧ cmpR (r + -vl w (dn w r)) (vl w (up w r) + -r) ≤ 0) ∨ (nearF w r = up w r ∧ 0 ≤ cmpR (r + -vl w (dn w r)) (vl w (up w r) + -r))) := by
  have h4 := up_dn1 w r
  unfold nearF
  rw [if_neg h1, if_neg h2, cmpR_near]
  have hc := cmpR_rng (r + r) (vl w (dn w r) + vl w (up w r))
  have t2 := tmod2 (dn w r)
  generalize cmpR (r + r) (vl w (dn w r) + vl w (up w r)) = c at *
  generalize dn w r = lo at *
  generalize up w r = hi at *
  by_cases h : c < 0 ∨ (c = 0 ∧ lo.tmod 2 = 0)
  · rw [if_pos h]
    exact ⟨fun k1 k2 => by omega, .inl ⟨rfl, by omega⟩⟩
  · rw [if_neg h]
    exact ⟨fun k1 k2 => by omega, .inr ⟨rfl, by omega⟩⟩
end Pf
/- FloatFrac, FloatDown, FloatUp, the model's FracCmp -/
namespace Pf
open Go Go.Proofs
theorem bitFin {w n : Int} (h : bitOk w n) (h2 : ¬ n.natAbs < fT w) : n = top w ∨ n = -top w := by
  have := top_fT h.1
  have := h.2
  omega
/-- A finite float. -/
def finF (w n : Int) : Prop := (w = 32 ∨ w = 64) ∧ n.natAbs < fT w
theorem vl_small {w n : Int} (h : finF w n) : small (vl w n) := midN_mono (vl_midN h.1 h.2) (by decide)
theorem vl_frOk {w n : Int} (h : finF w n) : frOk (vl w n < 0) (dt (vl w n)) (db (vl w n)) := frOk_iff.2 (vl_small h)
open Classical in
/-- The floats next to what is a fraction. -/
noncomputable def nextN (w : Int) (p : Prop) (t u : List Int) : Int × Int := if (w = 32 ∨ w = 64) ∧ frOk p t u then (dn w (rat p t u), up w (rat p t u)) else (0, 0)
theorem frOk_small {p : Prop} {t u : List Int} (h : frOk p t u) : small (rat p t u) := frOk_iff.1 (by
  obtain ⟨e1, e2, e3⟩ := frOk_rat h
  rw [← e1, ← e2, ← propext e3]; exact h)
theorem small_mid {r : Rat} (h : small r) : mid r := ⟨Nat.le_trans h.1 (by decide), Nat.le_trans h.2 (by decide)⟩
open Classical in
/-- How two fractions compare; 2, if one is none. -/
noncomputable def fcmpN (p : Prop) (t u : List Int) (q : Prop) (x y : List Int) : Int := if frOk p t u ∧ frOk q x y then cmpR (rat p t u) (rat q x y) else 2
theorem specFracCmp_ok (p : Prop) (t u : List Int) (q : Prop) (x y : List Int) (ht : t.length ≤ 1048576) (hu : u.length ≤ 1048576) (hx : x.length ≤ 1048576) (hy : y.length ≤ 1048576) : AFunP Try.prog 9 [frF p t u, frF q x y] (· = .int .i64 (fcmpN p t u q x y)) := by
  refine afun_of Try.func9 Try.call9 rfl Try.ntmps9 rfl ?_
  have W : Walk Try.prog TT 9 _ := Walk.of TT_ok Try.func9 Try.results9
  refine ce W 0 rfl rfl (specFracOk_ok p t u (by omega) (by omega)) rfl ?_
  refine sp W 0 rfl rfl rfl (fun h1 => ?_) (fun h1 => ?_)
  · rw [fcmpN, if_neg (fun k => h1 k.1)]
    refine rp W 0 rfl rfl rfl (.refl)
  · have h1 := Classical.not_not.1 h1
    refine ce W 0 rfl rfl (specFracOk_ok q x y (by omega) (by omega)) rfl ?_
    refine sp W 0 rfl rfl rfl (fun h2 => ?_) (fun h2 => ?_)
    · rw [fcmpN, if_neg (fun k => h2 k.2)]
      refine rp W 0 rfl rfl rfl (.refl)
    · have h2 := Classical.not_not.1 h2
      rw [fcmpN, if_pos ⟨h1, h2⟩]
      obtain ⟨a, b, rfl, rfl, ha, hb, hb0, hap, hab⟩ := frOk_dig h1
      obtain ⟨c, d, rfl, rfl, hc, hd, hd0, hcq, hcd⟩ := frOk_dig h2
      have kn := l6Neg_ok q (dig c) (dig d) h2.1 h2.2.1
      have ks := l6Sum_ok p (¬ q ∧ dig c ≠ []) a b c d (by omega) (by omega) (by omega) (by omega)
      have e1 : sg (¬ q ∧ dig c ≠ []) (c * b) = - sg q (c * b) := by
        by_cases hq : q
        · rw [sg_yes hq, sg_no (fun k => k.1 hq), Int.neg_neg]
        · rw [sg_no hq]
          by_cases hc0 : c = 0
          · subst hc0; rw [Nat.zero_mul, sg_zero]; rfl
          · rw [sg_yes ⟨hq, fun k => hc0 (dig_nil.1 k)⟩]
      have e2 : cmpR (rat p (dig a) (dig b)) (rat q (dig c) (dig d)) = sgn (sg (sumP p (¬ q ∧ dig c ≠ []) (a * d) (c * b)) (sumT p (¬ q ∧ dig c ≠ []) (a * d) (c * b))) := by
        unfold rat
        rw [nm_dig, nm_dig, nm_dig, nm_dig, cmpR_mk hb0 hd0, sg_sum, e1, sg_mul_nat, sg_mul_nat]
        congr 1
      have lx := dig_mono (sumT_le p (¬ q ∧ dig c ≠ []) (a * d) (c * b)) (dig_len_add (dig_len_mul ha hd) (dig_len_mul hc hb))
      rw [e2]
      generalize sumT p (¬ q ∧ dig c ≠ []) (a * d) (c * b) = T at *
      generalize sumP p (¬ q ∧ dig c ≠ []) (a * d) (c * b) = P at *
      have e0 : (0 : Int) < (dig T).length ↔ T ≠ 0 := by rw [len_nil, ne_eq, dig_nil]
      refine dre W 0 10 [] [frF (¬ q ∧ dig c ≠ []) (dig c) (dig d), .tup [.pr P, .fi .i64 (dig T), .fi .i64 (dig (b * d))]] rfl rfl rfl ⟨kn.at rfl _, ks.at rfl _, trivial⟩ rfl ?_
      refine sp W 0 rfl rfl rfl (fun h3 => ?_) (fun h3 => ?_)
      · have hT : T = 0 := Classical.not_not.1 (mt e0.2 (by omega))
        subst hT
        refine rp W 0 rfl rfl rfl (.int (by rw [sg_zero]; decide))
      · have hT : T ≠ 0 := e0.1 (by omega)
        refine sp W 0 rfl rfl rfl (fun h4 => ?_) (fun h4 => ?_)
        · refine rp W 0 rfl rfl rfl (.int (by rw [sg_yes h4]; unfold sgn; omega))
        · refine rp W 0 rfl rfl rfl (.int (by rw [sg_no h4]; unfold sgn; omega))
end Pf
/- Pairs and boxes: steps, what two have in common. -/
namespace Pf
open Go Go.Proofs

def gap (a b : Int) : Int := if b < a then 0 else b - a
/-- Two boxes. -/
def bmeetOk (w : Int) (a b : List (Int × Int)) : Prop := boxOk w a ∧ boxOk w b ∧ a.length = b.length ∧ ∀ i, i < a.length → meetOk w (a.getD i (0, 0)) (b.getD i (0, 0))
open Classical in
noncomputable def bmeet (w : Int) (a b : List (Int × Int)) : List (Int × Int) := if bmeetOk w a b then (List.range a.length).map fun i => pmeet w (a.getD i (0, 0)) (b.getD i (0, 0)) else []
theorem bx_nil : Sub (.agg [.nils]) (bx []) := .agg ⟨.nils_fz, trivial⟩
end Pf
/- Boxes: one within another, units, paths, fineness. -/
namespace Pf
open Go Go.Proofs

def boxIs (l m : List (Int × Int)) : Prop := l.length = m.length ∧ ∀ i, i < l.length → (m.getD i (0, 0)).1 ≤ (l.getD i (0, 0)).1 ∧ (l.getD i (0, 0)).2 ≤ (m.getD i (0, 0)).2
/-- How many boxes are taken at most. -/
def unitsL : List (Int × Int) → Int → Int
  | [], u => u
  | p :: l, u => unitsL l (if 0 < gap p.1 p.2 then min 1000000000 (u * (4 * min (gap p.1 p.2) 1000000000 - 1)) else u)
open Classical in
noncomputable def units (w : Int) (l : List (Int × Int)) : Int := if boxOk w l then unitsL l 1 else 0
theorem unitsL_take (l : List (Int × Int)) (u : Int) (i : Nat) (h : i < l.length) : unitsL (l.take (i + 1)) u = (if 0 < gap (l.getD i (0, 0)).1 (l.getD i (0, 0)).2 then min 1000000000 (unitsL (l.take i) u * (4 * min (gap (l.getD i (0, 0)).1 (l.getD i (0, 0)).2) 1000000000 - 1)) else unitsL (l.take i) u) := by
  induction l generalizing u i with
  | nil => simp at h
  | cons p l ih =>
    cases i with
    | zero => simp [unitsL]
    | succ i =>
      have := ih (if 0 < gap p.1 p.2 then min 1000000000 (u * (4 * min (gap p.1 p.2) 1000000000 - 1)) else u) i (by simpa using h)
      simpa [unitsL] using this
theorem gap_rng {a b : Int} (h : -9218868437227405312 ≤ a ∧ a ≤ b ∧ b ≤ 9218868437227405312) : gap a b = b - a ∧ 0 ≤ gap a b ∧ gap a b ≤ 18437736874454810624 := by
  unfold gap; rw [if_neg (by omega)]; omega
theorem boxOk_get {w : Int} {l : List (Int × Int)} (h : boxOk w l) {i : Nat} (hi : i < l.length) : pairOk w (l.getD i (0, 0)).1 (l.getD i (0, 0)).2 := h.2.2 _ (getD_mem hi)
end Pf
/- Boxes: paths, fineness; the reference's pairs and boxes. -/
namespace Pf
open Go Go.Proofs

/-- How many boxes wait at most. -/
def pathL : List (Int × Int) → Int → Int
  | [], u => u
  | p :: l, u => pathL l (u + bitLen (gap p.1 p.2))
open Classical in
noncomputable def path (w : Int) (l : List (Int × Int)) : Int := if boxOk w l then pathL l 1 else 0
theorem pathL_take (l : List (Int × Int)) (u : Int) (i : Nat) (h : i < l.length) : pathL (l.take (i + 1)) u = pathL (l.take i) u + bitLen (gap (l.getD i (0, 0)).1 (l.getD i (0, 0)).2) := by
  induction l generalizing u i with
  | nil => simp at h
  | cons p l ih =>
    cases i with
    | zero => simp [pathL]
    | succ i => simpa [pathL] using ih (u + bitLen (gap p.1 p.2)) i (by simpa using h)
def fineN (n : Int) : Int := max 1 (min 1000000 n) + 1
def boxFine (w : Int) (l : List (Int × Int)) (n : Int) : Prop := boxOk w l ∧ ∀ a ∈ l, gap a.1 a.2 ≤ fineN n
end Pf
/- Draws of bits, pairs and boxes. -/
namespace Pf
open Go Go.Proofs

/-- A reader of bytes, at a place. -/
def rdB (b : List Int) (p : Int) : ABlk := .lst 0 [[.fi .u8 b, .int .i64 p]]
def BytesOk (b : List Int) : Prop := b.length ≤ 2000 ∧ ∀ x ∈ b, 0 ≤ x ∧ x ≤ 255
theorem BytesOk.get {b : List Int} (h : BytesOk b) (i : Nat) : 0 ≤ b.getD i 0 ∧ b.getD i 0 ≤ 255 := by
  rw [List.getD_eq_getElem?_getD]
  cases hi : b[i]? with
  | none => simp
  | some x => simpa using h.2 x (List.mem_of_getElem? hi)
/-- What a reading function does: the place goes on, no farther than so. -/
def RdQ (b : List Int) (p K : Int) (Q : AV → Prop) (u : AV) (blks : List ABlk) : Prop := ∃ p', blks = [rdB b p'] ∧ p ≤ p' ∧ p' ≤ p + K ∧ Q u
def PickV (n : Int) (u : AV) : Prop := ∃ x, u = .int .i64 x ∧ 0 ≤ x ∧ (x < n ∨ x = 0)

def OpenQ (u : AV) (H : AHeap) : Prop := u = .ptr 0 0 0 0 ∧ ∃ c, H = [rdB c 0] ∧ BytesOk c
theorem OpenQ.flat (u : AV) (H : AHeap) (h : OpenQ u H) : Pf.flat u = true ∧ flatH H := by
  obtain ⟨rfl, c, rfl, _⟩ := h
  exact ⟨rfl, rfl, trivial⟩
theorem bxor_nonneg {a b : Int} (h0 : 0 ≤ a) (h1 : a ≤ 9223372036854775807) (g0 : 0 ≤ b) (g1 : b ≤ 9223372036854775807) : 0 ≤ bxor .i64 a b ∧ bxor .i64 a b ≤ 9223372036854775807 := by
  obtain ⟨m, rfl⟩ : ∃ m : Nat, a = m := ⟨a.toNat, by omega⟩
  obtain ⟨n, rfl⟩ : ∃ n : Nat, b = n := ⟨b.toNat, by omega⟩
  have a1 : (BitVec.ofInt 64 (m : Int)).toNat = m := by rw [BitVec.toNat_ofInt]; omega
  have a2 : (BitVec.ofInt 64 (n : Int)).toNat = n := by rw [BitVec.toNat_ofInt]; omega
  have e : bxor .i64 (m : Int) (n : Int) = IntKind.i64.wrap (((BitVec.ofInt 64 (m : Int) ^^^ BitVec.ofInt 64 (n : Int)).toNat : Nat) : Int) := rfl
  have h2 : m ^^^ n < 2 ^ 63 := Nat.xor_lt_two_pow (by omega) (by omega)
  rw [e, BitVec.toNat_xor, a1, a2, wrap_id (k := .i64) rfl (by omega)]
  omega
def IntV (u : AV) : Prop := ∃ w, u = .int .i64 w ∧ -9223372036854775808 ≤ w ∧ w ≤ 9223372036854775807
def U64V (u : AV) : Prop := ∃ w, u = .int .u64 w ∧ 0 ≤ w ∧ w ≤ 18446744073709551615
def InB (n : Int) : Prop := -9218868437227410000 ≤ n ∧ n ≤ 9218868437227410000
def OrdV (u : AV) : Prop := ∃ w, u = .int .i64 w ∧ -9218868437227405400 ≤ w ∧ w ≤ 9218868437227405400
end Pf
/- The law of FloatFrac -/
namespace Pf
open Go Go.Proofs
end Pf
/- Effects of a region that come in any order, calls that write among them. -/
namespace Pf
open Go
variable {P : Program} {TT : TypeId → Option TI} {f N n0 : Nat} {k : List Item} {T : Env} {H : AHeap} {R : AV → AHeap → Prop} {nf : Nat} {ops : Array Oper} {past op op' pend' pd : List Nat} {vin ws vs' : List (Option Nat × AV)} {ps : List Prop} {cl : List CallM}

/-- What comes of an effect, it being the next. -/
def Nx (P : Program) (f N n0 nf : Nat) (ops : Array Oper) (k : List Item) (T : Env) (R : AV → AHeap → Prop) (past op' : List Nat) (ws : List (Option Nat × AV)) (H : AHeap) (e : Nat) (pd : List Nat) : Prop :=
  (∃ h : e < ws.length, ∃ o, ops[e]? = some o ∧ o.dst = ws[e].1) → ws.map (·.1) = (dstsM nf ops.toList).map (·.1) → dropD ws T = dropD (dstsM nf ops.toList) T →
    ∃ o Q, ops[e]? = some o ∧ (∃ h : e < ws.length, o.dst = ws[e].1) ∧ EffStep P N ops o (TS (memM (preds ops.toList e)) 0 ws (dropD ws T)) H Q ∧
      ∀ u H1, Q u H1 → Ph P f N n0 ops k T R (e :: past) pd op' (ws.set e (o.dst, u)) H1
theorem nx_op (W : PW P TT N ops nf) (m : Nat) {e : Nat} {d : Option Nat} {C : Prop} {v : AV} {H1 : AHeap}
    (he : effM TT m ops.toList (dropD (dstsM nf ops.toList) T) ws H e = some (d, C, v, H1)) (hset : setM (d, v) ws e = some vs') (next : Ph1 P f N n0 nf ops k T R (e :: past) pd op' vs' H1) (hC : Holds C := by first | exact True.intro | (simp only [AllC, AllP, addN, Int.toNat_natCast, true_and, and_true, Option.getD, List.length_set, wrapU, pw1, pw7, pw8, pw16, pw23, pw32, pw52, Holds] <;> first | omega | ((repeat' apply And.intro) <;> first | omega | (intros; rfl))) | (simp [AllC, AllP, addN, cloL, clo, mrgL, mrg, wrapU, Holds] <;> omega)) : Nx P f N n0 nf ops k T R past op' ws H e pd := by
  rintro ⟨hlt, o', o1, o2⟩ hD hdrop
  unfold effM at he
  split at he
  · rename_i o ho
    have ho' : ops[e]? = some o := by rw [nthM_eq] at ho; simpa using ho
    have : o' = o := by rw [ho'] at o1; exact (Option.some.inj o1).symm
    subst this
    split at he
    · rename_i hg
      split at he
      · have key : ∀ {v1 : AV} {H2 : AHeap}, EffStep P N ops o' (TS (memM (preds ops.toList e)) 0 ws (dropD (dstsM nf ops.toList) T)) H (fun u H1 => u = v1 ∧ H1 = H2) → o'.dst = d → v1 = v → H2 = H1 →
            ∃ o Q, ops[e]? = some o ∧ (∃ h : e < ws.length, o.dst = ws[e].1) ∧ EffStep P N ops o (TS (memM (preds ops.toList e)) 0 ws (dropD ws T)) H Q ∧ ∀ u H1, Q u H1 → Ph P f N n0 ops k T R (e :: past) pd op' (ws.set e (o.dst, u)) H1 := by
          rintro v1 H2 hE rfl rfl rfl
          refine ⟨o', _, ho', ⟨hlt, o2⟩, by rw [hdrop]; exact hE, ?_⟩
          rintro _ _ ⟨rfl, rfl⟩
          obtain ⟨r1, r2⟩ := fst_set hD ⟨hlt, o2⟩ hset
          rw [← r1]
          exact next r2
        split at he
        · rename_i hst
          simp only [Option.some.injEq, Prod.mk.injEq] at he
          obtain ⟨r1, r2, r3, r4⟩ := he
          exact key (.ok W.tt m hg hst) r1 r3 r4
        · rename_i hst
          simp only [Option.some.injEq, Prod.mk.injEq] at he
          obtain ⟨r1, r2, r3, r4⟩ := he
          subst r2
          exact key (.okc W.tt m hg hst hC) r1 r3 r4
        · cases he
      · cases he
    · cases he
  · cases he
theorem nx_call (W : PW P TT N ops nf) {e : Nat} {d : Option Nat} {g : FuncId} {args : List AV} {Q : AV → AHeap → Prop}
    (he : effC ops.toList (dropD (dstsM nf ops.toList) T) ws e = some (d, g, args)) (hq : AFun P g args H Q) (next : ∀ u H1, Q u H1 → ∃ vs', setM (d, u) ws e = some vs' ∧ Ph1 P f N n0 nf ops k T R (e :: past) pd op' vs' H1) : Nx P f N n0 nf ops k T R past op' ws H e pd := by
  rintro ⟨hlt, o', o1, o2⟩ hD hdrop
  unfold effC at he
  split at he
  · rename_i o ho
    have ho' : ops[e]? = some o := by rw [nthM_eq] at ho; simpa using ho
    have : o' = o := by rw [ho'] at o1; exact (Option.some.inj o1).symm
    subst this
    split at he
    · rename_i hg
      split at he
      · rename_i g' args' hk
        simp only [Option.some.injEq, Prod.mk.injEq] at he
        obtain ⟨r1, r2, r3⟩ := he
        subst r1; subst r2; subst r3
        refine ⟨o', Q, ho', ⟨hlt, o2⟩, by rw [hdrop]; exact .call hg hk hq, fun u H1 hQ => ?_⟩
        obtain ⟨vs', hset, nx⟩ := next u H1 hQ
        obtain ⟨r1, r2⟩ := fst_set hD ⟨hlt, o2⟩ hset
        rw [← r1]
        exact nx r2
      · cases he
    · cases he
  · cases he
theorem nx_callM (W : PW P TT N ops nf) (ρ : List (Nat × Nat)) {e : Nat} {d : Option Nat} {g : FuncId} {args args' : List AV} {blks : List ABlk} {Q : AV → List ABlk → Prop}
    (he : effC ops.toList (dropD (dstsM nf ops.toList) T) ws e = some (d, g, args)) (hq : AFunM P g args' blks Q) (hb : getAll ρ blks H) (hρ : distP ρ = true) (er : renL ρ args = some args') (hbc : bcloL blks = true)
    (next : ∀ u blks', Q u blks' → ∃ vs' H1, setM (d, u) ws e = some vs' ∧ setAll ρ blks' H = some H1 ∧ Ph1 P f N n0 nf ops k T R (e :: past) pd op' vs' H1) : Nx P f N n0 nf ops k T R past op' ws H e pd :=
  nx_call W he (hq.at hb hρ er hbc) fun v H1 ⟨blks', r1, r2⟩ => by
    obtain ⟨vs', H1', q1, q2, q3⟩ := next v blks' r1
    rw [r2] at q2
    cases q2
    exact ⟨vs', q1, q3⟩

/-- The others without one. -/
def dropN (e : Nat) : List Nat → List Nat
  | [] => []
  | p :: ps => match Nat.beq p e with | true => dropN e ps | false => p :: dropN e ps
theorem dropN_eq (e : Nat) : ∀ ps : List Nat, dropN e ps = ps.filter (· != e)
  | [] => rfl
  | p :: ps => by
    simp only [dropN]
    split
    · rename_i h; rw [List.filter_cons_of_neg (by simp [Nat.eq_of_beq_eq_true h]), dropN_eq e ps]
    · rename_i h
      have : p ≠ e := fun h2 => by subst h2; simp at h
      rw [List.filter_cons_of_pos (by simpa using this), dropN_eq e ps]
/-- Does each one to come stand among the first ones, or hang on one of these? -/
def hangM (ops : List Oper) (es : List Nat) : List Nat → Bool
  | [] => true
  | p :: ps => match memM es p with
    | true => hangM ops es ps
    | false => match anyN (needs ops p p []) es with | true => hangM ops es ps | false => false
where
  anyN (ns : List Nat) : List Nat → Bool
    | [] => false
    | e :: es => match memM ns e with | true => true | false => anyN ns es
theorem anyN_ok {ns : List Nat} : ∀ {es : List Nat}, hangM.anyN ns es = true → ∃ e ∈ es, e ∈ ns
  | e :: es, h => by
    simp only [hangM.anyN] at h
    split at h
    · rename_i h1; exact ⟨e, by simp, memM_iff.1 h1⟩
    · obtain ⟨e', h1, h2⟩ := anyN_ok h; exact ⟨e', by simp [h1], h2⟩
theorem hangM_ok {ops : List Oper} {es : List Nat} : ∀ {ps : List Nat}, hangM ops es ps = true → ∀ p ∈ ps, p ∈ es ∨ ∃ e ∈ es, e ∈ needs ops p p []
  | q :: ps, h, p, hp => by
    simp only [hangM] at h
    split at h
    · rename_i h1
      rcases List.mem_cons.1 hp with rfl | hp
      · exact .inl (memM_iff.1 h1)
      · exact hangM_ok h p hp
    · split at h
      · rename_i h1
        rcases List.mem_cons.1 hp with rfl | hp
        · exact .inr (anyN_ok h1)
        · exact hangM_ok h p hp
      · cases h
def allP (Q : Nat → Prop) : List Nat → Prop
  | [] => True
  | e :: es => Q e ∧ allP Q es
theorem allP_get {Q : Nat → Prop} : ∀ {es : List Nat}, allP Q es → ∀ e ∈ es, Q e
  | e :: es, h, x, hx => by
    rcases List.mem_cons.1 hx with rfl | hx
    · exact h.1
    · exact allP_get h.2 x hx
def someM : List Nat → Bool
  | [] => false
  | _ :: _ => true
/-- Any of these effects may be the next. -/
theorem phl (W : PW P TT N ops nf) (m : Nat) (es : List Nat) (hs : List (Nat × Bool)) (us : List AV) {pend : List Nat}
    (hd : phM TT m ops.toList (dropD (dstsM nf ops.toList) T) H hs past (needsAll ops.toList past []) pend op vin nf 0 [] us = some (ps, cl, ws))
    (hch : (hangM ops.toList es pend && subM es pend && subM pend op && ltAll nf pend && someM pend) = true) (hcl : AllCalls P H cl)
    (next : allP (fun e => Nx P f N n0 nf ops k T R past pend ws H e (dropN e pend)) es) (hp : AllP ps := by first | exact True.intro | (simp only [AllC, AllP, addN, Int.toNat_natCast, true_and, and_true, Option.getD, List.length_set, wrapU, pw1, pw7, pw8, pw16, pw23, pw32, pw52, Holds] <;> first | omega | ((repeat' apply And.intro) <;> first | omega | (intros; rfl))) | (simp [AllC, AllP, addN, cloL, clo, mrgL, mrg, wrapU, Holds] <;> omega)) : Ph1 P f N n0 nf ops k T R past pend op vin H := by
  intro hv
  obtain ⟨hch, hne⟩ := Bool.and_eq_true_iff.1 hch
  obtain ⟨hch, hlt⟩ := Bool.and_eq_true_iff.1 hch
  obtain ⟨hch, hsub⟩ := Bool.and_eq_true_iff.1 hch
  obtain ⟨hch, hes⟩ := Bool.and_eq_true_iff.1 hch
  obtain ⟨c1, c2, c3, c4, c5, c6, c7, c8, c9, c10⟩ := Ph.base W.tt W.st hd hp hcl hv
  refine Ph.core c1 c2 c3 c4 c5 c6 (fun j hj hj' hx => c9 j hj hj' (hx.imp id fun hx => ⟨hx, touch_sub (subM_ok hsub) hx⟩)) (fun i hi q1 q2 q3 => ?_) (fun p hp => ?_) (fun p hp hn => ?_) (fun h => ?_)
  · obtain ⟨o, o1, o2, o3⟩ := c10 i hi
    exact ⟨o, o1, o2, o3 q1 q2 q3 fun j hj => (needsAll_iff hj).elim (fun h => by simp at h) id⟩
  · have := ltAll_ok hlt p hp; omega
  · rcases hangM_ok hch p hp with h | ⟨e, h1, h2⟩
    · have hnx := allP_get next p h
      rw [dropN_eq] at hnx
      obtain ⟨o, o1, o2, _⟩ := c10 p (by have := ltAll_ok hlt p hp; omega)
      exact hnx ⟨by have := ltAll_ok hlt p hp; omega, o, o1, o2⟩ (c6.symm.trans hv) c8
    · exact absurd (subM_ok hes e h1) (hn e h2)
  · subst h; cases hne
end Pf
/- From a point within a region of unknown order on, nobody writes some blocks. -/
namespace Pf
open Go
variable {P : Program} {TT : TypeId → Option TI} {f N n0 : Nat} {k : List Item} {T : Env} {H : AHeap} {R : AV → AHeap → Prop} {nf : Nat} {ops : Array Oper} {past op pend : List Nat} {vs : List (Option Nat × AV)}

theorem frzT_at {sel : Nat → Bool} {FM FM' : FMem} {β : BMap} {w : World} (hh : RelH FM β H w) (hF : Frozen sel FM β H w FM') {n e : Nat} {cv : Value} : ∀ {T T' : Env} {ps : List Prop}, frzT sel H n T = some (ps, T') → AllC ps →
    (∀ x, getM T e = some x → VR FM β x cv) → ∀ x, getM T' e = some x → VR FM' β x cv := by
  intro T
  induction T with
  | nil =>
    intro T' ps h hq hr x hx
    simp only [frzT, Option.some.injEq, Prod.mk.injEq] at h
    obtain ⟨_, rfl⟩ := h
    simp only [getM, Option.some.injEq] at hx
    subst hx
    exact .top
  | cons p T ih =>
    obtain ⟨d', v'⟩ := p
    intro T' ps h hq hr x hx
    simp only [frzT] at h
    have hT : Nat.beq d' e = false → ∀ x, getM T e = some x → VR FM β x cv := fun hb x hx => hr x (by simp only [getM, hb]; exact hx)
    split at h
    · rename_i ps1 u hf
      split at h
      · rename_i qs1 T1 ht
        split at h
        · rename_i rs happ
          simp only [Option.some.injEq, Prod.mk.injEq] at h
          obtain ⟨rfl, rfl⟩ := h
          have hcc := AllC_app happ hq
          simp only [getM] at hx
          cases hb : Nat.beq d' e with
          | true =>
            simp only [hb, Option.some.injEq] at hx
            subst hx
            exact frz_ok hh hF n hf hcc.2 (hr v' (by simp [getM, hb]))
          | false =>
            simp only [hb] at hx
            exact ih ht hcc.1 (hT hb) x hx
        · cases h
      · cases h
    · split at h
      · rename_i qs1 T1 ht
        simp only [Option.some.injEq, Prod.mk.injEq] at h
        obtain ⟨rfl, rfl⟩ := h
        simp only [getM] at hx
        cases hb : Nat.beq d' e with
        | true =>
          simp only [hb, Option.some.injEq] at hx
          subst hx
          exact (hr v' (by simp [getM, hb])).mono hF.1 (fun _ _ _ h => h)
        | false =>
          simp only [hb] at hx
          exact ih ht hq (hT hb) x hx
      · cases h
/-- Values that lie in these blocks, as such that nobody writes. -/
def frzV (sel : Nat → Bool) (H : AHeap) (n : Nat) : List (Option Nat × AV) → Option (List Prop × List (Option Nat × AV))
  | [] => some ([], [])
  | (d, v) :: vs => match frz sel H n v with
    | some (ps, u) => match frzV sel H n vs with
      | some (qs, us) => match appM ps qs with | some rs => some (rs, (d, u) :: us) | none => none
      | none => none
    | none => match frzV sel H n vs with
      | some (qs, us) => some (qs, (d, v) :: us)
      | none => none
theorem frzV_get {sel : Nat → Bool} {n : Nat} : ∀ {vs us : List (Option Nat × AV)} {ps : List Prop}, frzV sel H n vs = some (ps, us) → AllC ps → us.map (·.1) = vs.map (·.1) ∧
    ∀ j (h : j < vs.length) (h' : j < us.length), us[j].2 = vs[j].2 ∨ ∃ qs, frz sel H n vs[j].2 = some (qs, us[j].2) ∧ AllC qs
  | [], us, ps, h, _ => by
    simp only [frzV, Option.some.injEq, Prod.mk.injEq] at h
    obtain ⟨_, rfl⟩ := h
    exact ⟨rfl, fun j h => by simp at h⟩
  | (d, v) :: vs, us, ps, h, hc => by
    simp only [frzV] at h
    split at h
    · rename_i ps1 u hf
      split at h
      · rename_i qs1 us1 ht
        split at h
        · rename_i rs happ
          simp only [Option.some.injEq, Prod.mk.injEq] at h
          obtain ⟨rfl, rfl⟩ := h
          have hcc := AllC_app happ hc
          obtain ⟨h1, h2⟩ := frzV_get ht hcc.1
          refine ⟨by simp [h1], fun j h3 h4 => ?_⟩
          cases j with
          | zero => exact .inr ⟨_, hf, hcc.2⟩
          | succ j => exact h2 j (by simpa using h3) (by simpa using h4)
        · cases h
      · cases h
    · split at h
      · rename_i qs1 us1 ht
        simp only [Option.some.injEq, Prod.mk.injEq] at h
        obtain ⟨rfl, rfl⟩ := h
        obtain ⟨h1, h2⟩ := frzV_get ht hc
        refine ⟨by simp [h1], fun j h3 h4 => ?_⟩
        cases j with
        | zero => exact .inl rfl
        | succ j => exact h2 j (by simpa using h3) (by simpa using h4)
      · cases h
theorem distD_get {d : Nat} : ∀ {vs : List (Option Nat × AV)}, distD vs = true → ∀ i j (hi : i < vs.length) (hj : j < vs.length), vs[i].1 = some d → vs[j].1 = some d → i = j
  | [], _, i, _, hi, _, _, _ => by simp at hi
  | (x, v) :: vs, h, i, j, hi, hj, h1, h2 => by
    have hd : distD vs = true ∧ ∀ e, x = some e → hasD e vs = false := by
      cases x with
      | none => exact ⟨h, fun e he => by cases he⟩
      | some e =>
        simp only [distD] at h
        split at h
        · cases h
        · rename_i hb
          exact ⟨h, fun e' he => by cases he; exact hb⟩
    have no : ∀ k (hk : k < vs.length), vs[k].1 = some d → x = some d → False := fun k hk q1 q2 => by
      have := hd.2 d q2
      rw [hasD_iff.2 ⟨k, hk, q1⟩] at this; cases this
    cases i with
    | zero =>
      cases j with
      | zero => rfl
      | succ j => exact (no j (by simpa using hj) (by simpa using h2) (by simpa using h1)).elim
    | succ i =>
      cases j with
      | zero => exact (no i (by simpa using hi) (by simpa using h1) (by simpa using h2)).elim
      | succ j => rw [distD_get hd.1 i j (by simpa using hi) (by simpa using hj) (by simpa using h1) (by simpa using h2)]
/-- From here on nobody writes the blocks 'bs'; of the other slots only 'ds' are kept. -/
theorem phz (W : PW P TT N ops nf) (bs ds : List Nat) {T1 T2 : Env} {H2 : AHeap} {vs2 : List (Option Nat × AV)} {ps qs rs : List Prop} (e1 : keepM T ds = some T1) (e2 : frzT (memM bs) H 9 T1 = some (ps, T2)) (e3 : frzH (memM bs) H 9 0 H = some (qs, H2))
    (e4 : frzV (memM bs) H 9 vs = some (rs, vs2)) (h : Ph1 P f N n0 nf ops k T2 R past pend op vs2 H2) (c1 : AllC ps := by first | exact True.intro | (simp only [AllC, AllP, addN, Int.toNat_natCast, true_and, and_true, Option.getD, List.length_set, wrapU, pw1, pw7, pw8, pw16, pw23, pw32, pw52, Holds] <;> first | omega | ((repeat' apply And.intro) <;> first | omega | (intros; rfl))) | (simp [AllC, AllP, addN, cloL, clo, mrgL, mrg, wrapU, Holds] <;> omega)) (c2 : AllC qs := by first | exact True.intro | (simp only [AllC, AllP, addN, Int.toNat_natCast, true_and, and_true, Option.getD, List.length_set, wrapU, pw1, pw7, pw8, pw16, pw23, pw32, pw52, Holds] <;> first | omega | ((repeat' apply And.intro) <;> first | omega | (intros; rfl))) | (simp [AllC, AllP, addN, cloL, clo, mrgL, mrg, wrapU, Holds] <;> omega)) (c3 : AllC rs := by first | exact True.intro | (simp only [AllC, AllP, addN, Int.toNat_natCast, true_and, and_true, Option.getD, List.length_set, wrapU, pw1, pw7, pw8, pw16, pw23, pw32, pw52, Holds] <;> first | omega | ((repeat' apply And.intro) <;> first | omega | (intros; rfl))) | (simp [AllC, AllP, addN, cloL, clo, mrgL, mrg, wrapU, Holds] <;> omega)) : Ph1 P f N n0 nf ops k T R past pend op vs H := by
  intro hv
  obtain ⟨g1, g2⟩ := frzV_get e4 c3
  have hlen : vs2.length = vs.length := by simpa using congrArg List.length g1
  have hd : distD vs = true := by
    rw [distD_fst hv]
    have hst := W.st
    simp only [stM, Bool.and_eq_true] at hst
    exact hst.1.2
  have hd2 : distD vs2 = true := by rw [distD_fst g1]; exact hd
  intro l done p1 p2 p3 p4 p5 p6
  have key := h (g1.trans hv) l done p1 p2 (fun j h1 h2 => p3 j (by omega) h2) p4 p5 (fun j h1 h2 => p6 j (by omega) h2)
  intro FM β b cs a w a1 a2 a3 a4 hT hH hn0
  have hF := frzFM_frozen (sel := memM bs) hH
  refine Ext.go (Ext.freeze hH e3 c2) hn0 (key _ β b cs a w a1 a2 a3 a4 ?_ (hH.freeze e3 c2)) (b := b) (.refl _ _)
  intro d v hg
  rcases TS_get (S := done) (d := d) (T := T2) hd2 with ⟨j, hj, q1, q2, q3⟩ | ⟨q1, q2⟩
  · rw [q3] at hg
    cases hg
    have hj' : j < vs.length := by omega
    have e5 : vs2[j].1 = vs[j].1 := by
      have := congrArg (fun l => l[j]?) g1
      simpa [hj, hj'] using this
    have hold : VR FM β vs[j].2 (a.tmps.getD d undef) := by
      refine hT d _ ?_
      rcases TS_get (S := done) (d := d) (T := T) hd with ⟨j', hj2, r1, r2, r3⟩ | ⟨r1, r2⟩
      · have : j' = j := distD_get hd j' j hj2 hj' r1 (by rw [← e5, q1])
        subst this
        exact r3
      · have := r1 j hj' (by rw [← e5, q1])
        rw [q2] at this; cases this
    rcases g2 j hj' hj with h1 | ⟨qs', h1, h2⟩
    · rw [h1]; exact hold.mono hF.1 (fun _ _ _ h => h)
    · exact frz_ok hH hF 9 h1 h2 hold
  · rw [q2] at hg
    refine frzT_at hH hF e2 c1 (fun x hx => ?_) v hg
    rcases keepM_get e1 d x hx with rfl | hx
    · exact .top
    refine hT d x ?_
    rcases TS_get (S := done) (d := d) (T := T) hd with ⟨j, hj, r1, r2, r3⟩ | ⟨r1, r2⟩
    · have hj' : j < vs2.length := by omega
      have e5 : vs2[j].1 = vs[j].1 := by
        have := congrArg (fun l => l[j]?) g1
        simpa [hj, hj'] using this
      have := q1 j hj' (by rw [e5, r1])
      rw [r2] at this; cases this
    · rw [r2]; exact hx
end Pf
/- Draws of fractions (l31) -/
namespace Pf
open Go Go.Proofs
theorem resF_tup (ok p : Prop) (t u : List Int) (h : ok → t.length ≤ 256 ∧ u.length ≤ 256) : ∃ p' t' d', resF ok p t u = .tup [frF p' t' d', .pr ok] ∧ t'.length ≤ 256 ∧ d'.length ≤ 256 := by
  by_cases ho : ok
  · exact ⟨p, t, u, by rw [resF_yes ho, eq_true ho], h ho⟩
  · exact ⟨False, [], [], by rw [resF_no ho, eq_false ho], by simp, by simp⟩
theorem fracOf_any (p : Prop) (a b : Nat) (hb : b ≠ 0) (ha : (dig a).length ≤ 256) (hbl : (dig b).length ≤ 256) : ∃ ok p' t' d', AFunP Try.prog 59 [.pr p, .fi .i64 (dig a), .fi .i64 (dig b)] (· = .tup [frF p' t' d', .pr ok]) ∧ t'.length ≤ 256 ∧ d'.length ≤ 256 ∧ made p a b = .tup [frF p' t' d', .pr ok] := by
  obtain ⟨p', t', d', e, h⟩ := resF_tup (fits a b) (p ∧ a ≠ 0) (lT a b) (lB a b) (fun h => h)
  have e0 : dig b ≠ [] := fun h => hb (dig_nil.1 h)
  have el : ((dig b).length : Int) ≠ 0 := fun h => e0 (List.length_eq_zero_iff.1 (by omega))
  have k6 := l6Make_ok p a b hb (by omega) (by omega)
  rw [made_eq, e] at k6
  refine ⟨_, _, _, _, ?_, h.1, h.2, by rw [made_eq, e]⟩
  refine afun_of Try.func59 Try.call59 rfl Try.ntmps59 rfl ?_
  have W : Walk Try.prog TT 59 _ := Walk.of TT_ok Try.func59 Try.results59
  refine ce W 0 rfl rfl (specNatOk_ok (dig a) (by omega)) rfl ?_
  refine sp W 0 rfl rfl rfl (fun h1 => ?_) (fun h1 => ?_)
  · exact absurd (natOk_of ha) h1
  refine ce W 0 rfl rfl (specNatOk_ok (dig b) (by omega)) rfl ?_
  refine sp W 0 rfl rfl rfl (fun h2 => ?_) (fun h2 => ?_)
  · exact absurd (natOk_of hbl) h2
  refine sp W 0 rfl rfl rfl (fun h3 => ?_) (fun h3 => ?_)
  · exact absurd h3 el
  refine ce W 0 rfl rfl (k6) rfl ?_
  refine rp W 0 rfl rfl rfl (.refl)
theorem fracAdd_any (p q : Prop) (t u x y : List Int) (ht : t.length ≤ 1048576) (hu : u.length ≤ 1048576) (hx : x.length ≤ 1048576) (hy : y.length ≤ 1048576) : ∃ ok p' t' d', AFunP Try.prog 16 [frF p t u, frF q x y] (· = .tup [frF p' t' d', .pr ok]) ∧ t'.length ≤ 256 ∧ d'.length ≤ 256 := by
  have k : AFunP Try.prog 16 [frF p t u, frF q x y] (· = (addS p t u q x y).av) := specFracAdd_ok p q t u x y ht hu hx hy
  obtain ⟨p', t', d', e, h⟩ := resF_tup (addS p t u q x y).ok (addS p t u q x y).p (addS p t u q x y).t (addS p t u q x y).u (fun h => h.2)
  rw [FRes.av, e] at k
  exact ⟨_, _, _, _, k, h⟩
theorem fracMul_any (p q : Prop) (t u x y : List Int) (ht : t.length ≤ 1048576) (hu : u.length ≤ 1048576) (hx : x.length ≤ 1048576) (hy : y.length ≤ 1048576) : ∃ ok p' t' d', AFunP Try.prog 18 [frF p t u, frF q x y] (· = .tup [frF p' t' d', .pr ok]) ∧ t'.length ≤ 256 ∧ d'.length ≤ 256 := by
  have k : AFunP Try.prog 18 [frF p t u, frF q x y] (· = (mulS p t u q x y).av) := specFracMul_ok p q t u x y ht hu hx hy
  obtain ⟨p', t', d', e, h⟩ := resF_tup (mulS p t u q x y).ok (mulS p t u q x y).p (mulS p t u q x y).t (mulS p t u q x y).u (fun h => h.2)
  rw [FRes.av, e] at k
  exact ⟨_, _, _, _, k, h⟩
def FracV (u : AV) : Prop := ∃ p t d, u = frF p t d ∧ t.length ≤ 256 ∧ d.length ≤ 256
theorem dlen1 {m : Nat} (h : m < 65536) : (dig m).length ≤ 1 := dig_len_le.2 (by simpa using h)
theorem digS {m : Nat} (h : m ≠ 0) (h2 : m < 65536) : [(m : Int)] = dig m := by rw [dig_small h2, if_neg h]
end Pf
/- Draws of numbers (l32) -/
namespace Pf
open Go Go.Proofs
theorem l32Open_ok (b : List Int) (h : ∀ x ∈ b, 0 ≤ x ∧ x ≤ 255) : AFun Try.prog 28 [.fi .u8 b] [] OpenQ := by
  refine afun_of Try.func28 Try.call28 rfl Try.ntmps28 rfl ?_
  have W : Walk Try.prog TT 28 _ := Walk.of TT_ok Try.func28 Try.results28
  refine sp W 0 rfl rfl rfl (fun h1 => ?_) (fun h1 => ?_)
  · refine rg W 0 rfl (⟨rfl, _, rfl, ⟨List.length_take_le _ _, fun x hx => h x (List.mem_of_mem_take hx)⟩⟩)
  · refine rg W 0 rfl (⟨rfl, _, rfl, ⟨by omega, h⟩⟩)
theorem pick32_ok (b : List Int) (p n : Int) (hb : BytesOk b) (h0 : 0 ≤ p) (h1 : p ≤ 1000000000) (hn : InI n) : AFunM Try.prog 47 [.ptr 0 0 0 0, .int .i64 n] [rdB b p] (RdQ b p 1 (PickV n)) := by
  refine afun_of Try.func47 Try.call47 rfl Try.ntmps47 rfl ?_
  have W : Walk Try.prog TT 47 _ := Walk.of TT_ok Try.func47 Try.results47
  have hl := hb.1
  unfold InI at hn
  refine sp W 0 rfl rfl rfl (fun h2 => ?_) (fun h2 => ?_)
  · refine rm W 0 [rdB b (p + 1)] rfl rfl rfl ⟨rfl, trivial⟩ rfl rfl (.int .i64 0) rfl (.refl) (⟨p + 1, rfl, by omega, by omega, 0, rfl, by omega, .inr rfl⟩)
  refine sp W 0 rfl rfl rfl (fun h3 => ?_) (fun h3 => ?_)
  · refine rm W 0 [rdB b (p + 1)] rfl rfl rfl ⟨rfl, trivial⟩ rfl rfl (.int .i64 0) rfl (.refl) (⟨p + 1, rfl, by omega, by omega, 0, rfl, by omega, .inr rfl⟩)
  refine sp W 0 rfl rfl rfl (fun h4 => ?_) (fun h4 => ?_)
  · have := hb.get (p + 1 - 1).toNat
    refine rm W 0 [rdB b (p + 1)] rfl rfl rfl ⟨rfl, trivial⟩ rfl rfl (.int .i64 (b.getD (p + 1 - 1).toNat 0 % n)) rfl (.refl) (⟨p + 1, rfl, by omega, by omega, _, rfl, Int.emod_nonneg _ (by omega), .inl (Int.emod_lt_of_pos _ (by omega))⟩)
  have k1 := Int.emod_nonneg (p + 1 - 1) (b := b.length) (by omega)
  have k2 := Int.emod_lt_of_pos (p + 1 - 1) (b := b.length) (by omega)
  have k3 := Int.emod_nonneg ((p + 1 - 1) * 7 + 3) (b := b.length) (by omega)
  have k4 := Int.emod_lt_of_pos ((p + 1 - 1) * 7 + 3) (b := b.length) (by omega)
  have k5 := hb.get ((p + 1 - 1) % b.length).toNat
  have k6 := hb.get (((p + 1 - 1) * 7 + 3) % b.length).toNat
  have k7 : 0 ≤ (p + 1 - 1) / b.length := Int.ediv_nonneg (by omega) (by omega)
  have k8 : (p + 1 - 1) / b.length ≤ p + 1 - 1 := Int.ediv_le_self _ (by omega)
  refine dre W 0 44 [] [] rfl rfl rfl trivial rfl ?_
  have kx := bxor_nonneg (a := b.getD ((p + 1 - 1) % b.length).toNat 0 * 131 + b.getD (((p + 1 - 1) * 7 + 3) % b.length).toNat 0 * 1117 + (p + 1 - 1) * 29 + (p + 1 - 1) / b.length * 53)
    (b := (b.getD ((p + 1 - 1) % b.length).toNat 0 * 131 + b.getD (((p + 1 - 1) * 7 + 3) % b.length).toNat 0 * 1117 + (p + 1 - 1) * 29 + (p + 1 - 1) / b.length * 53) / 64) (by omega) (by omega) (by omega) (by omega)
  refine rm W 0 [rdB b (p + 1)] rfl rfl rfl ⟨rfl, trivial⟩ rfl rfl (.int .i64 _) rfl (.refl) (⟨p + 1, rfl, by omega, by omega, _, rfl, Int.emod_nonneg _ (by omega), .inl (Int.emod_lt_of_pos _ (by omega))⟩)
theorem specNatOf_new (n : Nat) (h1 : n ≤ 18446744073709551615) : AFunN Try.prog 80 [.int .u64 n] (fun v H => v = .sl 0 0 0 (dig n).length ∧ H = [.ints 0 .i64 (dig n)]) := by
  refine afun_of Try.func80 Try.call80 rfl Try.ntmps80 rfl ?_
  have W : Walk Try.prog TT 80 _ := Walk.of TT_ok Try.func80 Try.results80
  refine atl W rfl ?_
  refine go_nilT 3 (.ints 0 .i64 []) rfl rfl rfl rfl rfl ?_
  refine lp W 0 (σ := Nat × Nat × List Int) (fun s => [(0, .int .u64 s.1), (3, .sl 0 s.2.1 0 s.2.2.length)]) (fun s => [.ints s.2.1 .i64 s.2.2]) (fun s => s.1) (fun s => s.1 ≤ 18446744073709551615 ∧ s.2.2 ++ dig s.1 = dig n) (n, 0, []) [0, 3] rfl rfl rfl ⟨h1, rfl⟩ ?_
  rintro ⟨m, g, l⟩ ⟨hm, he⟩ ih
  dsimp only at hm he ih ⊢
  have hl : l.length ≤ 4 := by
    have h2 := congrArg List.length he
    rw [List.length_append] at h2
    have h3 : (dig n).length ≤ 4 := dig_len_le.2 (by omega)
    omega
  refine sp W 0 rfl rfl rfl (fun h2 => ?_) (fun h2 => ?_)
  · have hm0 : m ≠ 0 := by omega
    have e1 : ((m : Int) % 65536) = ((m % 65536 : Nat) : Int) := by omega
    have e2 : ((m : Int) / 65536) = ((m / 65536 : Nat) : Int) := by omega
    rw [dig_pos hm0] at he
    have nx := ih (m / 65536, g + 1, l ++ [((m % 65536 : Nat) : Int)]) ⟨by dsimp only; omega, by simpa using he⟩ (by dsimp only; omega)
    dsimp only at nx
    rw [List.length_append, ← e1, ← e2] at nx
    refine bd W 0 1 [0, 3] rfl rfl rfl rfl rfl (nx)
  · have hm0 : m = 0 := by omega
    subst hm0
    rw [dig_zero, List.append_nil] at he
    subst he
    refine rn W 0 rfl rfl rfl (.sl 0 0 0 (dig n).length) rfl (.refl) (⟨rfl, by simp [blksM]⟩)
def NatQ (b : List Int) (p : Int) (v : AV) (H : AHeap) : Prop := ∃ (q : Int) (l : List Int), p ≤ q ∧ q ≤ p + 600 ∧ l.length ≤ 256 ∧ ∃ g, v = .sl 1 g 0 l.length ∧ H = [rdB b q, .ints g .i64 l]
theorem nat32_ok (b : List Int) (p : Int) (hb : BytesOk b) (h0 : 0 ≤ p) (h1 : p ≤ 999990000) : AFun Try.prog 58 [.ptr 0 0 0 0] [rdB b p] (NatQ b p) := by
  have hbits : (IntKind.i64.bits : Int) = 64 := rfl
  have hpw : ∀ k : Nat, k < 16 → (1 : Int) ≤ 2 ^ k ∧ (2 : Int) ^ k ≤ 32768 := by decide
  refine afun_of Try.func58 Try.call58 rfl Try.ntmps58 rfl ?_
  have W : Walk Try.prog TT 58 _ := Walk.of TT_ok Try.func58 Try.results58
  refine cm W 0 [(0, 0)] rfl (pick32_ok b p 4 hb (by omega) (by omega) (by unfold InI; omega)) ⟨rfl, trivial⟩ rfl rfl rfl ?_
  rintro _ _ ⟨p1, rfl, p1a, p1b, n, rfl, na, nb⟩
  refine ⟨_, _, rfl, rfl, ?_⟩
  refine cm W 0 [(0, 0)] rfl (pick32_ok b p1 16 hb (by omega) (by omega) (by unfold InI; omega)) ⟨rfl, trivial⟩ rfl rfl rfl ?_
  rintro _ _ ⟨p2, rfl, p2a, p2b, k, rfl, ka, kb⟩
  refine ⟨_, _, rfl, rfl, ?_⟩
  refine sp W 0 rfl rfl rfl (fun c0 => ?_) (fun c0 => ?_)
  · refine cm W 0 [(0, 0)] rfl (pick32_ok b p2 24 hb (by omega) (by omega) (by unfold InI; omega)) ⟨rfl, trivial⟩ rfl rfl rfl ?_
    rintro _ _ ⟨p3, rfl, p3a, p3b, n1, rfl, n1a, n1b⟩
    refine ⟨_, _, rfl, rfl, ?_⟩
    refine cm W 0 [(0, 0)] rfl (pick32_ok b p3 5 hb (by omega) (by omega) (by unfold InI; omega)) ⟨rfl, trivial⟩ rfl rfl rfl ?_
    rintro _ _ ⟨pk, rfl, pka, pkb, kd, rfl, kda, kdb⟩
    refine ⟨_, _, rfl, rfl, ?_⟩
    refine atl W rfl ?_
    refine go_nil 5 (.ints 0 .i64 []) rfl rfl rfl rfl rfl ?_
    refine go_loop W 0 300 (σ := Nat × List Int × Nat × Int) (fun s => [(0, .ptr 0 0 0 0), (3, .int .i64 (n1)), (4, .int .i64 kd), (5, .sl 1 s.2.2.1 0 s.1), (6, .int .i64 s.1)]) (fun s => [rdB b s.2.2.2, .ints s.2.2.1 .i64 s.2.1]) (fun s => 256 - s.1)
      (fun s => s.2.1.length = s.1 ∧ s.1 ≤ 256 ∧ ((s.1 : Int) ≤ n1 ∨ s.1 = 0) ∧ p ≤ s.2.2.2 ∧ s.2.2.2 ≤ p + 10 + 2 * s.1) (0, [], 0, pk) [0, 3, 4, 5, 6] rfl rfl rfl (by first | exact True.intro | (simp only [AllC, AllP, addN, Int.toNat_natCast, true_and, and_true, Option.getD, List.length_set, wrapU, pw1, pw7, pw8, pw16, pw23, pw32, pw52, Holds] <;> first | omega | ((repeat' apply And.intro) <;> first | omega | (intros; rfl))) | (simp [AllC, AllP, addN, cloL, clo, mrgL, mrg, wrapU, Holds] <;> omega)) ⟨by simp, by simp, .inr rfl, by dsimp only; omega, by dsimp only; omega⟩ ?_
    rintro ⟨i, L, g, q⟩ ⟨i0, i1, i2, i3, i4⟩ ih
    dsimp only at i0 i1 i2 i3 i4 ih ⊢
    refine sp W 0 rfl rfl rfl (fun h2 => ?_) (fun h2 => ?_)
    · refine cm W 0 [(0, 0)] rfl (pick32_ok b q 256 hb (by omega) (by omega) (by unfold InI; omega)) ⟨rfl, trivial⟩ rfl rfl rfl ?_
      rintro _ _ ⟨q1, rfl, q1a, q1b, x, rfl, xa, xb⟩
      refine ⟨_, _, rfl, rfl, ?_⟩
      refine cm W 0 [(0, 0)] rfl (pick32_ok b q1 256 hb (by omega) (by omega) (by unfold InI; omega)) ⟨rfl, trivial⟩ rfl rfl rfl ?_
      rintro _ _ ⟨q2, rfl, q2a, q2b, y, rfl, ya, yb⟩
      refine ⟨_, _, rfl, rfl, ?_⟩
      refine sp W 0 rfl rfl rfl (fun e0 => ?_) (fun e0 => ?_)
      · refine sp W 0 rfl rfl rfl (fun e1 => ?_) (fun e1 => ?_)
        · exfalso; omega
        · refine bd W 0 2 [0, 3, 4, 5, 6] rfl rfl rfl rfl rfl (ih (i + 1, L ++ [65535], g + 1, q2) ⟨by simp; omega, by dsimp only; omega, by dsimp only; omega, by dsimp only; omega, by dsimp only; omega⟩ (by dsimp only; omega)) (hc := by simp only [AllC, addN, Int.toNat_natCast, true_and, and_true, eq_self, List.length_set, List.length_cons, List.length_nil, List.length_append, List.length_replicate, wrapU, pw1, pw7, pw8, pw16, pw23, pw32, pw52] <;> first | omega | ((repeat' apply And.intro) <;> first | omega | (intros; rfl)))
      · refine sp W 0 rfl rfl rfl (fun e1 => ?_) (fun e1 => ?_)
        · refine bd W 0 2 [0, 3, 4, 5, 6] rfl rfl rfl rfl rfl (ih (i + 1, L ++ [0], g + 1, q2) ⟨by simp; omega, by dsimp only; omega, by dsimp only; omega, by dsimp only; omega, by dsimp only; omega⟩ (by dsimp only; omega)) (hc := by simp only [AllC, addN, Int.toNat_natCast, true_and, and_true, eq_self, List.length_set, List.length_cons, List.length_nil, List.length_append, List.length_replicate, wrapU, pw1, pw7, pw8, pw16, pw23, pw32, pw52] <;> first | omega | ((repeat' apply And.intro) <;> first | omega | (intros; rfl)))
        · refine bd W 0 2 [0, 3, 4, 5, 6] rfl rfl rfl rfl rfl (ih (i + 1, L ++ [x * 256 + y], g + 1, q2) ⟨by simp; omega, by dsimp only; omega, by dsimp only; omega, by dsimp only; omega, by dsimp only; omega⟩ (by dsimp only; omega)) (hc := by simp only [AllC, addN, Int.toNat_natCast, true_and, and_true, eq_self, List.length_set, List.length_cons, List.length_nil, List.length_append, List.length_replicate, wrapU, pw1, pw7, pw8, pw16, pw23, pw32, pw52] <;> first | omega | ((repeat' apply And.intro) <;> first | omega | (intros; rfl)))
    · refine sp W 0 rfl rfl rfl (fun f1 => ?_) (fun f1 => ?_)
      · refine sp W 0 rfl rfl rfl (fun f2 => ?_) (fun f2 => ?_)
        · refine cm W 0 [(0, 0)] rfl (pick32_ok b q 16 hb (by omega) (by omega) (by unfold InI; omega)) ⟨rfl, trivial⟩ rfl rfl rfl ?_
          rintro _ _ ⟨q1, rfl, q1a, q1b, x, rfl, xa, xb⟩
          refine ⟨_, _, rfl, rfl, ?_⟩
          have hx := hpw x.toNat (by omega)
          refine rg W 2 rfl (⟨q1, L.set (n1 - 1).toNat _, by omega, by omega, by simp; omega, g, by rw [List.length_set, i0], rfl⟩)
        · refine rg W 0 rfl (⟨q, L, by omega, by omega, by omega, g, by rw [i0], rfl⟩)
      · refine rg W 0 rfl (⟨q, L, by omega, by omega, by omega, g, by rw [i0], rfl⟩)
  refine sp W 0 rfl rfl rfl (fun c1 => ?_) (fun c1 => ?_)
  · refine cm W 0 [(0, 0)] rfl (pick32_ok b p2 6 hb (by omega) (by omega) (by unfold InI; omega)) ⟨rfl, trivial⟩ rfl rfl rfl ?_
    rintro _ _ ⟨p3, rfl, p3a, p3b, y, rfl, ya, yb⟩
    refine ⟨_, _, rfl, rfl, ?_⟩
    refine sp W 0 rfl rfl rfl (fun c3 => ?_) (fun c3 => ?_)
    · refine cm W 0 [(0, 0)] rfl (pick32_ok b p3 3 hb (by omega) (by omega) (by unfold InI; omega)) ⟨rfl, trivial⟩ rfl rfl rfl ?_
      rintro _ _ ⟨p4, rfl, p4a, p4b, z, rfl, za, zb⟩
      refine ⟨_, _, rfl, rfl, ?_⟩
      refine cm W 0 [(0, 0)] rfl (pick32_ok b p4 5 hb (by omega) (by omega) (by unfold InI; omega)) ⟨rfl, trivial⟩ rfl rfl rfl ?_
      rintro _ _ ⟨pk, rfl, pka, pkb, kd, rfl, kda, kdb⟩
      refine ⟨_, _, rfl, rfl, ?_⟩
      refine atl W rfl ?_
      refine go_nil 5 (.ints 0 .i64 []) rfl rfl rfl rfl rfl ?_
      refine go_loop W 0 300 (σ := Nat × List Int × Nat × Int) (fun s => [(0, .ptr 0 0 0 0), (3, .int .i64 (256 - z)), (4, .int .i64 kd), (5, .sl 1 s.2.2.1 0 s.1), (6, .int .i64 s.1)]) (fun s => [rdB b s.2.2.2, .ints s.2.2.1 .i64 s.2.1]) (fun s => 256 - s.1)
        (fun s => s.2.1.length = s.1 ∧ s.1 ≤ 256 ∧ ((s.1 : Int) ≤ 256 - z ∨ s.1 = 0) ∧ p ≤ s.2.2.2 ∧ s.2.2.2 ≤ p + 10 + 2 * s.1) (0, [], 0, pk) [0, 3, 4, 5, 6] rfl rfl rfl (by first | exact True.intro | (simp only [AllC, AllP, addN, Int.toNat_natCast, true_and, and_true, Option.getD, List.length_set, wrapU, pw1, pw7, pw8, pw16, pw23, pw32, pw52, Holds] <;> first | omega | ((repeat' apply And.intro) <;> first | omega | (intros; rfl))) | (simp [AllC, AllP, addN, cloL, clo, mrgL, mrg, wrapU, Holds] <;> omega)) ⟨by simp, by simp, .inr rfl, by dsimp only; omega, by dsimp only; omega⟩ ?_
      rintro ⟨i, L, g, q⟩ ⟨i0, i1, i2, i3, i4⟩ ih
      dsimp only at i0 i1 i2 i3 i4 ih ⊢
      refine sp W 0 rfl rfl rfl (fun h2 => ?_) (fun h2 => ?_)
      · refine cm W 0 [(0, 0)] rfl (pick32_ok b q 256 hb (by omega) (by omega) (by unfold InI; omega)) ⟨rfl, trivial⟩ rfl rfl rfl ?_
        rintro _ _ ⟨q1, rfl, q1a, q1b, x, rfl, xa, xb⟩
        refine ⟨_, _, rfl, rfl, ?_⟩
        refine cm W 0 [(0, 0)] rfl (pick32_ok b q1 256 hb (by omega) (by omega) (by unfold InI; omega)) ⟨rfl, trivial⟩ rfl rfl rfl ?_
        rintro _ _ ⟨q2, rfl, q2a, q2b, y, rfl, ya, yb⟩
        refine ⟨_, _, rfl, rfl, ?_⟩
        refine sp W 0 rfl rfl rfl (fun e0 => ?_) (fun e0 => ?_)
        · refine sp W 0 rfl rfl rfl (fun e1 => ?_) (fun e1 => ?_)
          · exfalso; omega
          · refine bd W 0 2 [0, 3, 4, 5, 6] rfl rfl rfl rfl rfl (ih (i + 1, L ++ [65535], g + 1, q2) ⟨by simp; omega, by dsimp only; omega, by dsimp only; omega, by dsimp only; omega, by dsimp only; omega⟩ (by dsimp only; omega)) (hc := by simp only [AllC, addN, Int.toNat_natCast, true_and, and_true, eq_self, List.length_set, List.length_cons, List.length_nil, List.length_append, List.length_replicate, wrapU, pw1, pw7, pw8, pw16, pw23, pw32, pw52] <;> first | omega | ((repeat' apply And.intro) <;> first | omega | (intros; rfl)))
        · refine sp W 0 rfl rfl rfl (fun e1 => ?_) (fun e1 => ?_)
          · refine bd W 0 2 [0, 3, 4, 5, 6] rfl rfl rfl rfl rfl (ih (i + 1, L ++ [0], g + 1, q2) ⟨by simp; omega, by dsimp only; omega, by dsimp only; omega, by dsimp only; omega, by dsimp only; omega⟩ (by dsimp only; omega)) (hc := by simp only [AllC, addN, Int.toNat_natCast, true_and, and_true, eq_self, List.length_set, List.length_cons, List.length_nil, List.length_append, List.length_replicate, wrapU, pw1, pw7, pw8, pw16, pw23, pw32, pw52] <;> first | omega | ((repeat' apply And.intro) <;> first | omega | (intros; rfl)))
          · refine bd W 0 2 [0, 3, 4, 5, 6] rfl rfl rfl rfl rfl (ih (i + 1, L ++ [x * 256 + y], g + 1, q2) ⟨by simp; omega, by dsimp only; omega, by dsimp only; omega, by dsimp only; omega, by dsimp only; omega⟩ (by dsimp only; omega)) (hc := by simp only [AllC, addN, Int.toNat_natCast, true_and, and_true, eq_self, List.length_set, List.length_cons, List.length_nil, List.length_append, List.length_replicate, wrapU, pw1, pw7, pw8, pw16, pw23, pw32, pw52] <;> first | omega | ((repeat' apply And.intro) <;> first | omega | (intros; rfl)))
      · refine sp W 0 rfl rfl rfl (fun f1 => ?_) (fun f1 => ?_)
        · refine sp W 0 rfl rfl rfl (fun f2 => ?_) (fun f2 => ?_)
          · refine cm W 0 [(0, 0)] rfl (pick32_ok b q 16 hb (by omega) (by omega) (by unfold InI; omega)) ⟨rfl, trivial⟩ rfl rfl rfl ?_
            rintro _ _ ⟨q1, rfl, q1a, q1b, x, rfl, xa, xb⟩
            refine ⟨_, _, rfl, rfl, ?_⟩
            have hx := hpw x.toNat (by omega)
            refine rg W 2 rfl (⟨q1, L.set (256 - z - 1).toNat _, by omega, by omega, by simp; omega, g, by rw [List.length_set, i0], rfl⟩)
          · refine rg W 0 rfl (⟨q, L, by omega, by omega, by omega, g, by rw [i0], rfl⟩)
        · refine rg W 0 rfl (⟨q, L, by omega, by omega, by omega, g, by rw [i0], rfl⟩)
    · skip
      refine cm W 0 [(0, 0)] rfl (pick32_ok b p3 5 hb (by omega) (by omega) (by unfold InI; omega)) ⟨rfl, trivial⟩ rfl rfl rfl ?_
      rintro _ _ ⟨pk, rfl, pka, pkb, kd, rfl, kda, kdb⟩
      refine ⟨_, _, rfl, rfl, ?_⟩
      refine atl W rfl ?_
      refine go_nil 5 (.ints 0 .i64 []) rfl rfl rfl rfl rfl ?_
      refine go_loop W 0 300 (σ := Nat × List Int × Nat × Int) (fun s => [(0, .ptr 0 0 0 0), (3, .int .i64 (n)), (4, .int .i64 kd), (5, .sl 1 s.2.2.1 0 s.1), (6, .int .i64 s.1)]) (fun s => [rdB b s.2.2.2, .ints s.2.2.1 .i64 s.2.1]) (fun s => 256 - s.1)
        (fun s => s.2.1.length = s.1 ∧ s.1 ≤ 256 ∧ ((s.1 : Int) ≤ n ∨ s.1 = 0) ∧ p ≤ s.2.2.2 ∧ s.2.2.2 ≤ p + 10 + 2 * s.1) (0, [], 0, pk) [0, 3, 4, 5, 6] rfl rfl rfl (by first | exact True.intro | (simp only [AllC, AllP, addN, Int.toNat_natCast, true_and, and_true, Option.getD, List.length_set, wrapU, pw1, pw7, pw8, pw16, pw23, pw32, pw52, Holds] <;> first | omega | ((repeat' apply And.intro) <;> first | omega | (intros; rfl))) | (simp [AllC, AllP, addN, cloL, clo, mrgL, mrg, wrapU, Holds] <;> omega)) ⟨by simp, by simp, .inr rfl, by dsimp only; omega, by dsimp only; omega⟩ ?_
      rintro ⟨i, L, g, q⟩ ⟨i0, i1, i2, i3, i4⟩ ih
      dsimp only at i0 i1 i2 i3 i4 ih ⊢
      refine sp W 0 rfl rfl rfl (fun h2 => ?_) (fun h2 => ?_)
      · refine cm W 0 [(0, 0)] rfl (pick32_ok b q 256 hb (by omega) (by omega) (by unfold InI; omega)) ⟨rfl, trivial⟩ rfl rfl rfl ?_
        rintro _ _ ⟨q1, rfl, q1a, q1b, x, rfl, xa, xb⟩
        refine ⟨_, _, rfl, rfl, ?_⟩
        refine cm W 0 [(0, 0)] rfl (pick32_ok b q1 256 hb (by omega) (by omega) (by unfold InI; omega)) ⟨rfl, trivial⟩ rfl rfl rfl ?_
        rintro _ _ ⟨q2, rfl, q2a, q2b, y, rfl, ya, yb⟩
        refine ⟨_, _, rfl, rfl, ?_⟩
        refine sp W 0 rfl rfl rfl (fun e0 => ?_) (fun e0 => ?_)
        · refine sp W 0 rfl rfl rfl (fun e1 => ?_) (fun e1 => ?_)
          · exfalso; omega
          · refine bd W 0 2 [0, 3, 4, 5, 6] rfl rfl rfl rfl rfl (ih (i + 1, L ++ [65535], g + 1, q2) ⟨by simp; omega, by dsimp only; omega, by dsimp only; omega, by dsimp only; omega, by dsimp only; omega⟩ (by dsimp only; omega)) (hc := by simp only [AllC, addN, Int.toNat_natCast, true_and, and_true, eq_self, List.length_set, List.length_cons, List.length_nil, List.length_append, List.length_replicate, wrapU, pw1, pw7, pw8, pw16, pw23, pw32, pw52] <;> first | omega | ((repeat' apply And.intro) <;> first | omega | (intros; rfl)))
        · refine sp W 0 rfl rfl rfl (fun e1 => ?_) (fun e1 => ?_)
          · refine bd W 0 2 [0, 3, 4, 5, 6] rfl rfl rfl rfl rfl (ih (i + 1, L ++ [0], g + 1, q2) ⟨by simp; omega, by dsimp only; omega, by dsimp only; omega, by dsimp only; omega, by dsimp only; omega⟩ (by dsimp only; omega)) (hc := by simp only [AllC, addN, Int.toNat_natCast, true_and, and_true, eq_self, List.length_set, List.length_cons, List.length_nil, List.length_append, List.length_replicate, wrapU, pw1, pw7, pw8, pw16, pw23, pw32, pw52] <;> first | omega | ((repeat' apply And.intro) <;> first | omega | (intros; rfl)))
          · refine bd W 0 2 [0, 3, 4, 5, 6] rfl rfl rfl rfl rfl (ih (i + 1, L ++ [x * 256 + y], g + 1, q2) ⟨by simp; omega, by dsimp only; omega, by dsimp only; omega, by dsimp only; omega, by dsimp only; omega⟩ (by dsimp only; omega)) (hc := by simp only [AllC, addN, Int.toNat_natCast, true_and, and_true, eq_self, List.length_set, List.length_cons, List.length_nil, List.length_append, List.length_replicate, wrapU, pw1, pw7, pw8, pw16, pw23, pw32, pw52] <;> first | omega | ((repeat' apply And.intro) <;> first | omega | (intros; rfl)))
      · refine sp W 0 rfl rfl rfl (fun f1 => ?_) (fun f1 => ?_)
        · refine sp W 0 rfl rfl rfl (fun f2 => ?_) (fun f2 => ?_)
          · refine cm W 0 [(0, 0)] rfl (pick32_ok b q 16 hb (by omega) (by omega) (by unfold InI; omega)) ⟨rfl, trivial⟩ rfl rfl rfl ?_
            rintro _ _ ⟨q1, rfl, q1a, q1b, x, rfl, xa, xb⟩
            refine ⟨_, _, rfl, rfl, ?_⟩
            have hx := hpw x.toNat (by omega)
            refine rg W 2 rfl (⟨q1, L.set (n - 1).toNat _, by omega, by omega, by simp; omega, g, by rw [List.length_set, i0], rfl⟩)
          · refine rg W 0 rfl (⟨q, L, by omega, by omega, by omega, g, by rw [i0], rfl⟩)
        · refine rg W 0 rfl (⟨q, L, by omega, by omega, by omega, g, by rw [i0], rfl⟩)
  refine sp W 0 rfl rfl rfl (fun c2 => ?_) (fun c2 => ?_)
  · refine cm W 0 [(0, 0)] rfl (pick32_ok b p2 12 hb (by omega) (by omega) (by unfold InI; omega)) ⟨rfl, trivial⟩ rfl rfl rfl ?_
    rintro _ _ ⟨p3, rfl, p3a, p3b, y, rfl, ya, yb⟩
    refine ⟨_, _, rfl, rfl, ?_⟩
    obtain ⟨y, rfl⟩ : ∃ m : Nat, y = m := ⟨y.toNat, by omega⟩
    have ly := dlen1 (m := y) (by omega)
    refine cn W 0 rfl rfl rfl (specNatOf_new y (by omega)) ?_
    rintro _ _ ⟨rfl, rfl⟩
    refine ⟨_, _, rfl, rfl, ?_⟩
    refine rg W 0 rfl (⟨p3, dig y, by omega, by omega, by omega, 0, rfl, rfl⟩)
  refine cm W 0 [(0, 0)] rfl (pick32_ok b p2 5 hb (by omega) (by omega) (by unfold InI; omega)) ⟨rfl, trivial⟩ rfl rfl rfl ?_
  rintro _ _ ⟨pk, rfl, pka, pkb, kd, rfl, kda, kdb⟩
  refine ⟨_, _, rfl, rfl, ?_⟩
  refine atl W rfl ?_
  refine go_nil 5 (.ints 0 .i64 []) rfl rfl rfl rfl rfl ?_
  refine go_loop W 0 300 (σ := Nat × List Int × Nat × Int) (fun s => [(0, .ptr 0 0 0 0), (3, .int .i64 (n)), (4, .int .i64 kd), (5, .sl 1 s.2.2.1 0 s.1), (6, .int .i64 s.1)]) (fun s => [rdB b s.2.2.2, .ints s.2.2.1 .i64 s.2.1]) (fun s => 256 - s.1)
    (fun s => s.2.1.length = s.1 ∧ s.1 ≤ 256 ∧ ((s.1 : Int) ≤ n ∨ s.1 = 0) ∧ p ≤ s.2.2.2 ∧ s.2.2.2 ≤ p + 10 + 2 * s.1) (0, [], 0, pk) [0, 3, 4, 5, 6] rfl rfl rfl (by first | exact True.intro | (simp only [AllC, AllP, addN, Int.toNat_natCast, true_and, and_true, Option.getD, List.length_set, wrapU, pw1, pw7, pw8, pw16, pw23, pw32, pw52, Holds] <;> first | omega | ((repeat' apply And.intro) <;> first | omega | (intros; rfl))) | (simp [AllC, AllP, addN, cloL, clo, mrgL, mrg, wrapU, Holds] <;> omega)) ⟨by simp, by simp, .inr rfl, by dsimp only; omega, by dsimp only; omega⟩ ?_
  rintro ⟨i, L, g, q⟩ ⟨i0, i1, i2, i3, i4⟩ ih
  dsimp only at i0 i1 i2 i3 i4 ih ⊢
  refine sp W 0 rfl rfl rfl (fun h2 => ?_) (fun h2 => ?_)
  · refine cm W 0 [(0, 0)] rfl (pick32_ok b q 256 hb (by omega) (by omega) (by unfold InI; omega)) ⟨rfl, trivial⟩ rfl rfl rfl ?_
    rintro _ _ ⟨q1, rfl, q1a, q1b, x, rfl, xa, xb⟩
    refine ⟨_, _, rfl, rfl, ?_⟩
    refine cm W 0 [(0, 0)] rfl (pick32_ok b q1 256 hb (by omega) (by omega) (by unfold InI; omega)) ⟨rfl, trivial⟩ rfl rfl rfl ?_
    rintro _ _ ⟨q2, rfl, q2a, q2b, y, rfl, ya, yb⟩
    refine ⟨_, _, rfl, rfl, ?_⟩
    refine sp W 0 rfl rfl rfl (fun e0 => ?_) (fun e0 => ?_)
    · refine sp W 0 rfl rfl rfl (fun e1 => ?_) (fun e1 => ?_)
      · exfalso; omega
      · refine bd W 0 2 [0, 3, 4, 5, 6] rfl rfl rfl rfl rfl (ih (i + 1, L ++ [65535], g + 1, q2) ⟨by simp; omega, by dsimp only; omega, by dsimp only; omega, by dsimp only; omega, by dsimp only; omega⟩ (by dsimp only; omega)) (hc := by simp only [AllC, addN, Int.toNat_natCast, true_and, and_true, eq_self, List.length_set, List.length_cons, List.length_nil, List.length_append, List.length_replicate, wrapU, pw1, pw7, pw8, pw16, pw23, pw32, pw52] <;> first | omega | ((repeat' apply And.intro) <;> first | omega | (intros; rfl)))
    · refine sp W 0 rfl rfl rfl (fun e1 => ?_) (fun e1 => ?_)
      · refine bd W 0 2 [0, 3, 4, 5, 6] rfl rfl rfl rfl rfl (ih (i + 1, L ++ [0], g + 1, q2) ⟨by simp; omega, by dsimp only; omega, by dsimp only; omega, by dsimp only; omega, by dsimp only; omega⟩ (by dsimp only; omega)) (hc := by simp only [AllC, addN, Int.toNat_natCast, true_and, and_true, eq_self, List.length_set, List.length_cons, List.length_nil, List.length_append, List.length_replicate, wrapU, pw1, pw7, pw8, pw16, pw23, pw32, pw52] <;> first | omega | ((repeat' apply And.intro) <;> first | omega | (intros; rfl)))
      · refine bd W 0 2 [0, 3, 4, 5, 6] rfl rfl rfl rfl rfl (ih (i + 1, L ++ [x * 256 + y], g + 1, q2) ⟨by simp; omega, by dsimp only; omega, by dsimp only; omega, by dsimp only; omega, by dsimp only; omega⟩ (by dsimp only; omega)) (hc := by simp only [AllC, addN, Int.toNat_natCast, true_and, and_true, eq_self, List.length_set, List.length_cons, List.length_nil, List.length_append, List.length_replicate, wrapU, pw1, pw7, pw8, pw16, pw23, pw32, pw52] <;> first | omega | ((repeat' apply And.intro) <;> first | omega | (intros; rfl)))
  · refine sp W 0 rfl rfl rfl (fun f1 => ?_) (fun f1 => ?_)
    · refine sp W 0 rfl rfl rfl (fun f2 => ?_) (fun f2 => ?_)
      · refine cm W 0 [(0, 0)] rfl (pick32_ok b q 16 hb (by omega) (by omega) (by unfold InI; omega)) ⟨rfl, trivial⟩ rfl rfl rfl ?_
        rintro _ _ ⟨q1, rfl, q1a, q1b, x, rfl, xa, xb⟩
        refine ⟨_, _, rfl, rfl, ?_⟩
        have hx := hpw x.toNat (by omega)
        refine rg W 2 rfl (⟨q1, L.set (n - 1).toNat _, by omega, by omega, by simp; omega, g, by rw [List.length_set, i0], rfl⟩)
      · refine rg W 0 rfl (⟨q, L, by omega, by omega, by omega, g, by rw [i0], rfl⟩)
    · refine rg W 0 rfl (⟨q, L, by omega, by omega, by omega, g, by rw [i0], rfl⟩)
end Pf
/- impl's fractions as numbers, in new memory; FracCmp, FracSign -/
namespace Pf
open Go Go.Proofs
theorem frOk_ex {p : Prop} {t u : List Int} (h : frOk p t u) : ∃ r : Rat, small r ∧ p = (r < 0) ∧ t = dt r ∧ u = db r := by
  obtain ⟨e1, e2, e3⟩ := frOk_rat h
  exact ⟨rat p t u, frOk_small h, propext e3, e1, e2⟩
theorem small_frOk {r : Rat} (h : small r) : frOk (r < 0) (dt r) (db r) := frOk_iff.2 h
/-- A function of fractions answers so: a number, in new memory; or nothing. -/
structure RI (g : FuncId) (args : List AV) (z : Rat) : Prop where
  no : ¬ small z → AFunP Try.prog g args (· = nilF)
  yes : small z → AFunN Try.prog g args (NewFT (z < 0) (dt z) (db z))
theorem ImplF.ri {g : FuncId} {args : List AV} {ok : Prop} {z : Rat} (ho : ok) (h : ImplF g args (.ofRat ok z)) : RI g args z :=
  ⟨fun hz => h.no (fun k => hz k.2), fun hz => h.yes ⟨ho, hz⟩⟩
theorem mulI {r s : Rat} (hr : small r) (hs : small s) : RI 17 [frR r, frR s] (r * s) := by
  have h := implFracMul_f (r < 0) (s < 0) (dt r) (db r) (dt s) (db s) (by have := hr.1; omega) (by have := hr.2; omega) (by have := hs.1; omega) (by have := hs.2; omega)
  rw [mulS_rat (small_frOk hr) (small_frOk hs), rat_frR, rat_frR] at h
  exact h.ri ⟨small_frOk hr, small_frOk hs⟩
theorem addI {r s : Rat} (hr : small r) (hs : small s) : RI 15 [frR r, frR s] (r + s) := by
  have h := implFracAdd_f (r < 0) (s < 0) (dt r) (db r) (dt s) (db s) (by have := hr.1; omega) (by have := hr.2; omega) (by have := hs.1; omega) (by have := hs.2; omega)
  rw [addS_rat (small_frOk hr) (small_frOk hs), rat_frR, rat_frR] at h
  exact h.ri ⟨small_frOk hr, small_frOk hs⟩
theorem subI {r s : Rat} (hr : small r) (hs : small s) : RI 11 [frR r, frR s] (r - s) := by
  have h := implFracSub_f (r < 0) (s < 0) (dt r) (db r) (dt s) (db s) (by have := hr.1; omega) (by have := hr.2; omega) (by have := hs.1; omega) (by have := hs.2; omega)
  rw [subS_rat (small_frOk hr) (small_frOk hs), rat_frR, rat_frR] at h
  exact h.ri ⟨small_frOk hr, small_frOk hs⟩
theorem divI {r s : Rat} (hr : small r) (hs : small s) (h0 : s ≠ 0) : RI 19 [frR r, frR s] (r / s) := by
  have h := implFracDiv_f (r < 0) (s < 0) (dt r) (db r) (dt s) (db s) (by have := hr.1; omega) (by have := hr.2; omega) (by have := hs.1; omega) (by have := hs.2; omega)
  have hn : dt s ≠ [] := fun k => h0 (dt_nil.1 k)
  rw [divS_rat (small_frOk hr) (small_frOk hs) hn, rat_frR, rat_frR] at h
  exact h.ri ⟨small_frOk hr, small_frOk hs, hn⟩
theorem implFracCmp_ok (p : Prop) (t u : List Int) (q : Prop) (x y : List Int) (ht : t.length ≤ 1048576) (hu : u.length ≤ 1048576) (hx : x.length ≤ 1048576) (hy : y.length ≤ 1048576) : AFunP Try.prog 8 [frF p t u, frF q x y] (· = .int .i64 (fcmpN p t u q x y)) := by
  refine afun_of Try.func8 Try.call8 rfl Try.ntmps8 rfl ?_
  have W : Walk Try.prog TT 8 _ := Walk.of TT_ok Try.func8 Try.results8
  refine cf W 0 [2] [0, 1, 2, 3, 4, 5] rfl rfl rfl rfl rfl rfl (fracs2_ok p q t u x y ht hu hx hy) rfl ?_
  refine sp W 0 rfl rfl rfl (fun h1 => ?_) (fun h1 => ?_)
  · rw [fcmpN, if_neg h1]
    refine rp W 0 rfl rfl rfl (.refl)
  · have h1 := Classical.not_not.1 h1
    rw [fcmpN, if_pos h1]
    have kc := fcmp_ok (rat p t u) (rat q x y) (small_mid (frOk_small h1.1)) (small_mid (frOk_small h1.2))
    rw [← frR_eq h1.1, ← frR_eq h1.2] at kc
    refine ce W 0 rfl rfl (kc) rfl ?_
    refine rp W 0 rfl rfl rfl (.refl)
open Classical in
theorem implFracSign_ok (p : Prop) (t u : List Int) (ht : t.length ≤ 1048576) (hu : u.length ≤ 1048576) : AFunP Try.prog 12 [frF p t u] (· = .int .i64 (if frOk p t u then fsgn p t else 0)) := by
  refine afun_of Try.func12 Try.call12 rfl Try.ntmps12 rfl ?_
  have W : Walk Try.prog TT 12 _ := Walk.of TT_ok Try.func12 Try.results12
  refine ce W 0 rfl rfl (implFracOk_ok p t u (by omega) (by omega)) rfl ?_
  refine sp W 0 rfl rfl rfl (fun h1 => ?_) (fun h1 => ?_)
  · have h1 : ¬ frOk p t u := h1
    rw [if_neg h1]
    refine rp W 0 rfl rfl rfl (.refl)
  · have h1 : frOk p t u := Classical.not_not.1 h1
    rw [if_pos h1]
    refine ce W 0 rfl rfl (sign_ok p t u (by omega)) rfl ?_
    refine rp W 0 rfl rfl rfl (.refl)
theorem pwSame_ok (l m : List Int) (hl : l.length ≤ 9223372036854775806) : AFunP Try.prog 26 [.fi .i64 l, .fi .i64 m] (· = .pr (l = m)) := by
  refine afun_of Try.func26 Try.call26 rfl Try.ntmps26 rfl ?_
  have W : Walk Try.prog TT 26 _ := Walk.of TT_ok Try.func26 Try.results26
  refine sp W 0 rfl rfl rfl (fun h1 => ?_) (fun h1 => ?_)
  · refine rp W 0 rfl rfl rfl (.no (fun h => by subst h; omega))
  · have h1 : l.length = m.length := by omega
    refine lp W 0 (σ := Nat) (fun i => [(0, .fi .i64 l), (1, .fi .i64 m), (5, .int .i64 i)]) (fun _ => []) (fun i => l.length - i) (fun i => i ≤ l.length ∧ ∀ j, j < i → l.getD j 0 = m.getD j 0) 0 [0, 1, 5] rfl rfl rfl ⟨Nat.zero_le _, fun j hj => by omega⟩ ?_
    rintro i ⟨hi, he⟩ ih
    refine sp W 0 rfl rfl rfl (fun h2 => ?_) (fun h2 => ?_)
    · have h2 : i < l.length := by omega
      refine dre W 0 8 [] [] rfl rfl rfl trivial rfl ?_
      refine sp W 0 rfl rfl rfl (fun h3 => ?_) (fun h3 => ?_)
      · refine rp W 0 rfl rfl rfl (.no (fun h => by subst h; exact h3 rfl))
      · refine bd W 0 0 [0, 1, 5] rfl rfl rfl rfl rfl (ih (i + 1) ⟨by omega, fun j hj => ?_⟩ (by omega))
        by_cases hji : j = i
        · subst hji; simpa using h3
        · exact he j (by omega)
    · have hfin : l = m := List.ext_getElem h1 fun j h3 h4 => by
        have := he j (by omega)
        simpa [List.getD_eq_getElem?_getD, h3, h4] using this
      refine rp W 0 rfl rfl rfl (.yes hfin)
theorem pwFrac_ok (p q : Prop) (t u x y : List Int) (ht : t.length ≤ 9223372036854775806) (hu : u.length ≤ 9223372036854775806) : AFunP Try.prog 13 [frF p t u, frF q x y] (· = .pr ((p ↔ q) ∧ t = x ∧ u = y)) := by
  refine afun_of Try.func13 Try.call13 rfl Try.ntmps13 rfl ?_
  have W : Walk Try.prog TT 13 _ := Walk.of TT_ok Try.func13 Try.results13
  refine sp W 0 rfl rfl rfl (fun h1 => ?_) (fun h1 => ?_)
  · refine ce W 0 rfl rfl (pwSame_ok t x ht) rfl ?_
    refine sp W 0 rfl rfl rfl (fun h2 => ?_) (fun h2 => ?_)
    · refine ce W 0 rfl rfl (pwSame_ok u y hu) rfl ?_
      refine rp W 0 rfl rfl rfl (.pr ⟨fun h => ⟨h1, h2, h⟩, fun h => h.2.2⟩)
    · refine rp W 0 rfl rfl rfl (.no (fun h => h2 h.2.1))
  · refine rp W 0 rfl rfl rfl (.no (fun h => h1 h.1))
end Pf
