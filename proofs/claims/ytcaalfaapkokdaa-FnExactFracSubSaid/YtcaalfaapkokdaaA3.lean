/- Part 3 of the lemmas that the claim rests on: an abstract machine over the model, what it is sound for, and the contracts of the functions that the law reaches. -/
import Derived.Test.YtcaalfaapkokdaaA2
set_option linter.unusedSimpArgs false
set_option linter.unusedVariables false
set_option maxHeartbeats 4000000
/- Whole numbers: the model's own functions, simple ones. -/
namespace Pf
open Go Go.Proofs
theorem specNatOk_ok (l : List Int) (hl : l.length ≤ 9223372036854775806) : AFunP Try.prog 100 [.fi .i64 l] (· = .pr (natOk l)) := by
  refine afun_of Try.func100 Try.call100 rfl Try.ntmps100 rfl ?_
  have W : Walk Try.prog TT 100 _ := Walk.of TT_ok Try.func100 Try.results100
  refine sp W 0 rfl rfl rfl (fun h1 => ?_) (fun h1 => ?_)
  · refine rp W 0 rfl rfl rfl (.no (fun h => by have := h.1; omega))
  refine lp W 0 (σ := Nat) (fun i => [(0, .fi .i64 l), (3, .int .i64 i)]) (fun _ => []) (fun i => l.length - i) (fun i => i ≤ l.length ∧ ∀ j, j < i → 0 ≤ l.getD j 0 ∧ l.getD j 0 < 65536) 0 [0, 3] rfl rfl rfl ⟨Nat.zero_le _, fun j hj => by omega⟩ ?_
  rintro i ⟨hi, he⟩ ih
  have bad : ∀ h : i < l.length, ¬ (0 ≤ l.getD i 0 ∧ l.getD i 0 < 65536) → ¬ natOk l := fun h h2 h3 => h2 (h3.2.2 _ (getD_mem h))
  refine sp W 0 rfl rfl rfl (fun h2 => ?_) (fun h2 => ?_)
  · have h2 : i < l.length := by omega
    refine sp W 0 rfl rfl rfl (fun h3 => ?_) (fun h3 => ?_)
    · rw [Int.toNat_natCast] at h3
      refine rp W 0 rfl rfl rfl (.no (bad h2 (by omega)))
    · refine sp W 0 rfl rfl rfl (fun h4 => ?_) (fun h4 => ?_)
      · rw [Int.toNat_natCast] at h4
        refine rp W 0 rfl rfl rfl (.no (bad h2 (by omega)))
      · rw [Int.toNat_natCast] at h3 h4
        refine bk W 0 [0, 3] rfl rfl (ih (i + 1) ⟨by omega, fun j hj => ?_⟩ (by omega))
        by_cases hji : j = i
        · subst hji; omega
        · exact he j (by omega)
  · have hil : i = l.length := by omega
    subst hil
    have hd : Dgs l := dgs_of_getD he
    refine sp W 0 rfl rfl rfl (fun h3 => ?_) (fun h3 => ?_)
    · refine rp W 0 rfl rfl rfl (.yes ⟨by omega, .inl (by omega), hd⟩)
    · have e : ((l.length : Int) - 1).toNat = l.length - 1 := by omega
      refine rp W 0 rfl rfl rfl (.pr (by rw [e]; exact ⟨fun h => ⟨by omega, .inr h, hd⟩, fun h => h.2.1.resolve_left (by omega)⟩))
theorem specNatOf_ok (n : Nat) (h1 : n ≤ 18446744073709551615) : AFunP Try.prog 163 [.int .u64 n] (· = .fi .i64 (dig n)) := by
  refine afun_of Try.func163 Try.call163 rfl Try.ntmps163 rfl ?_
  have W : Walk Try.prog TT 163 _ := Walk.of TT_ok Try.func163 Try.results163
  refine atl W rfl ?_
  refine go_nilT 3 (.ints 0 .i64 []) rfl rfl rfl rfl rfl ?_
  refine lp W 0 (σ := Nat × Nat × List Int) (fun s => [(0, .int .u64 s.1), (3, .sl 0 s.2.1 0 s.2.2.length)]) (fun s => [.ints s.2.1 .i64 s.2.2]) (fun s => s.1) (fun s => s.1 ≤ 18446744073709551615 ∧ s.2.2 ++ dig s.1 = dig n) (n, 0, []) [0, 3] rfl rfl rfl ⟨h1, rfl⟩ ?_
  rintro ⟨m, g, l⟩ ⟨hm, he⟩ ih
  dsimp only at hm he ih ⊢
  have hl : l.length ≤ 4 := by
    have h2 := congrArg List.length he
    rw [List.length_append] at h2
    have h3 : (dig n).length ≤ 4 := dig_len_le.2 (by omega)
    omega
  refine sp W 0 rfl rfl rfl (fun h2 => ?_) (fun h2 => ?_)
  · have hm0 : m ≠ 0 := by omega
    have e1 : ((m : Int) % 65536) = ((m % 65536 : Nat) : Int) := by omega
    have e2 : ((m : Int) / 65536) = ((m / 65536 : Nat) : Int) := by omega
    rw [dig_pos hm0] at he
    have nx := ih (m / 65536, g + 1, l ++ [((m % 65536 : Nat) : Int)]) ⟨by dsimp only; omega, by simpa using he⟩ (by dsimp only; omega)
    dsimp only at nx
    rw [List.length_append, ← e1, ← e2] at nx
    refine bd W 0 1 [0, 3] rfl rfl rfl rfl rfl (nx)
  · have hm0 : m = 0 := by omega
    subst hm0
    rw [dig_zero, List.append_nil] at he
    refine rp W 0 rfl rfl rfl (.fi he)
theorem l5Cmp_ok (a b : Nat) (ha : (dig a).length ≤ 1000000000) (hb : (dig b).length ≤ 1000000000) : AFunP Try.prog 141 [.fi .i64 (dig a), .fi .i64 (dig b)] (· = .int .i64 (sgn ((a : Int) - b))) := by
  refine afun_of Try.func141 Try.call141 rfl Try.ntmps141 rfl ?_
  have W : Walk Try.prog TT 141 _ := Walk.of TT_ok Try.func141 Try.results141
  have da := dig_dgs a
  have db := dig_dgs b
  have len : ∀ {x y : Nat}, (dig x).length < (dig y).length → x < y := by
    intro x y h
    have h1 := dig_len_lt.1 h
    have h2 := (dig_len_le (n := x) (k := (dig x).length)).1 (Nat.le_refl _)
    omega
  refine sp W 0 rfl rfl rfl (fun h1 => ?_) (fun h1 => ?_)
  · have := len (x := a) (y := b) (by omega)
    refine rp W 0 rfl rfl rfl (.int (by rw [sgn_neg (by omega)]))
  refine sp W 0 rfl rfl rfl (fun h2 => ?_) (fun h2 => ?_)
  · have := len (x := b) (y := a) (by omega)
    refine rp W 0 rfl rfl rfl (.int (by rw [sgn_pos (by omega)]))
  have hab : (dig a).length = (dig b).length := by omega
  refine lp W 0 (σ := Nat) (fun k => [(0, .fi .i64 (dig a)), (1, .fi .i64 (dig b)), (5, .int .i64 ((k : Int) - 1))]) (fun _ => []) (fun k => k) (fun k => k ≤ (dig a).length ∧ ∀ j, k ≤ j → (dig a).getD j 0 = (dig b).getD j 0)
    (dig a).length [0, 1, 5] rfl rfl rfl ⟨Nat.le_refl _, fun j hj => by rw [getD_over hj, getD_over (by omega)]⟩ ?_
  rintro k ⟨hk, he⟩ ih
  refine sp W 0 rfl rfl rfl (fun h3 => ?_) (fun h3 => ?_)
  · obtain ⟨i, rfl⟩ : ∃ i, k = i + 1 := ⟨k - 1, by omega⟩
    have ei : ((i + 1 : Nat) : Int) - 1 = (i : Int) := by omega
    rw [ei]
    refine dre W 0 8 [] [] rfl rfl rfl trivial rfl ?_
    rw [Int.toNat_natCast]
    refine sp W 0 rfl rfl rfl (fun h4 => ?_) (fun h4 => ?_)
    · refine rp W 0 rfl rfl rfl (.int (by have := val_first da db hab (k := i) (by omega) (fun j hj => he j (by omega)) h4; rw [val_dig, val_dig] at this; rw [sgn_neg (by omega)]))
    · refine dre W 0 8 [] [] rfl rfl rfl trivial rfl ?_
      refine sp W 0 rfl rfl rfl (fun h5 => ?_) (fun h5 => ?_)
      · refine rp W 0 rfl rfl rfl (.int (by have := val_first db da hab.symm (k := i) (by omega) (fun j hj => (he j (by omega)).symm) h5; rw [val_dig, val_dig] at this; rw [sgn_pos (by omega)]))
      · have nx := ih i ⟨by omega, fun j hj => ?_⟩ (by omega)
        · refine bk W 0 [0, 1, 5] rfl rfl (nx)
        · by_cases hji : j = i
          · subst hji; rw [Int.toNat_natCast] at h5; omega
          · exact he j (by omega)
  · have hk0 : k = 0 := by omega
    subst hk0
    have := val_cmp da db hab 0 (Nat.zero_le _) he
    rw [val_dig, val_dig] at this
    simp [val] at this
    refine rp W 0 rfl rfl rfl (.int (by rw [show (a : Int) - b = 0 by omega, sgn_zero]))
theorem l5Bits_ok (a : Nat) (ha : (dig a).length ≤ 100000000) : AFunP Try.prog 172 [.fi .i64 (dig a)] (· = .int .i64 (bitL a)) := by
  refine afun_of Try.func172 Try.call172 rfl Try.ntmps172 rfl ?_
  have W : Walk Try.prog TT 172 _ := Walk.of TT_ok Try.func172 Try.results172
  refine sp W 0 rfl rfl rfl (fun h => ?_) (fun h => ?_)
  · have : a = 0 := dig_nil.1 (List.eq_nil_of_length_eq_zero (by omega))
    subst this
    refine rp W 0 rfl rfl rfl (.int (by simp [bitL_zero]))
  have h0 : a ≠ 0 := by rintro rfl; simp [dig_zero] at h
  have g := (dig_dgs a).get ((dig a).length - 1)
  have e1 : (((dig a).length : Int) - 1).toNat = (dig a).length - 1 := by omega
  have hd := bitL_dig a h0
  have hbb : bitL a ≤ 16 * (dig a).length + 64 := by
    have := bitLen_rng (n := (dig a).getD ((dig a).length - 1) 0) (by omega)
    unfold bitLen at this
    omega
  obtain ⟨d, hdd⟩ : ∃ d : Nat, (dig a).getD ((dig a).length - 1) 0 = d := ⟨_, (Int.toNat_of_nonneg g.1).symm⟩
  rw [hdd, Int.toNat_natCast] at hd
  refine lp W 0 (σ := Nat × Nat) (fun s => [(3, .int .i64 s.1), (4, .int .i64 s.2)]) (fun _ => []) (fun s => s.2) (fun s => s.1 + bitL s.2 = bitL a ∧ s.2 < 65536) (16 * ((dig a).length - 1), d) [3, 4] rfl (by rw [e1, hdd]; simp [keepM, getM]; omega) rfl ⟨by dsimp only; omega, by dsimp only; omega⟩ ?_
  rintro ⟨n, d⟩ ⟨h1, h3⟩ ih
  dsimp only at h1 h3 ih ⊢
  refine sp W 0 rfl rfl rfl (fun h4 => ?_) (fun h4 => ?_)
  · have e2 : ((d : Int) / 2) = ((d / 2 : Nat) : Int) := by omega
    have := bitL_pos (n := d) (by omega)
    have nx := ih (n + 1, d / 2) ⟨by dsimp only; omega, by dsimp only; omega⟩ (by dsimp only; omega)
    dsimp only at nx
    rw [← e2] at nx
    refine bk W 0 [3, 4] rfl rfl (nx)
  · have hd0 : d = 0 := by omega
    subst hd0
    rw [bitL_zero] at h1
    refine rp W 0 rfl rfl rfl (.int (by omega))
theorem l5At_ok (l : List Int) (i : Nat) (ha : l.length ≤ 100000000) : AFunP Try.prog 167 [.fi .i64 l, .int .i64 i] (· = .int .i64 (l.getD i 0)) := by
  refine afun_of Try.func167 Try.call167 rfl Try.ntmps167 rfl ?_
  have W : Walk Try.prog TT 167 _ := Walk.of TT_ok Try.func167 Try.results167
  refine sp W 0 rfl rfl rfl (fun h => ?_) (fun h => ?_)
  · refine rp W 0 rfl rfl rfl (.int (by simp))
  · refine rp W 0 rfl rfl rfl (.int (by rw [getD_over (by omega)]))
theorem l5Add_ok (a b : Nat) (ha : (dig a).length ≤ 10000000) (hb : (dig b).length ≤ 10000000) : AFunP Try.prog 140 [.fi .i64 (dig a), .fi .i64 (dig b)] (· = .fi .i64 (dig (a + b))) := by
  refine afun_of Try.func140 Try.call140 rfl Try.ntmps140 rfl ?_
  have W : Walk Try.prog TT 140 _ := Walk.of TT_ok Try.func140 Try.results140
  refine' cutK (fun K => ?main) ?k
  case main =>
    refine sp W 0 rfl rfl rfl (fun h => ?_) (fun h => ?_)
    · refine atl W rfl ?_
      refine go_nilT 6 (.ints 0 .i64 []) rfl rfl rfl rfl rfl ?_
      refine lp W 0 (σ := Nat × Nat × Int × List Int) (fun s => [(0, .fi .i64 (dig a)), (1, .fi .i64 (dig b)), (5, .int .i64 (max (dig a).length (dig b).length : Nat)), (6, .sl 0 s.2.1 0 s.1), (7, .int .i64 s.2.2.1), (8, .int .i64 s.1)]) (fun s => [.ints s.2.1 .i64 s.2.2.2]) (fun s => max (dig a).length (dig b).length - s.1)
        (fun s => s.1 ≤ max (dig a).length (dig b).length ∧ s.2.2.2.length = s.1 ∧ Dgs s.2.2.2 ∧ (0 ≤ s.2.2.1 ∧ s.2.2.1 ≤ 1) ∧ val s.2.2.2 + 65536 ^ s.1 * s.2.2.1 = val ((dig a).take s.1) + val ((dig b).take s.1)) (0, 0, 0, []) [0, 1, 5, 6, 7, 8] rfl (by rw [show max (dig a).length (dig b).length = (dig b).length by omega]; rfl) rfl ⟨Nat.zero_le _, rfl, Dgs.nil, by simp, by simp [val]⟩ K.get
    · refine atl W rfl ?_
      refine go_nilT 6 (.ints 0 .i64 []) rfl rfl rfl rfl rfl ?_
      refine lp W 0 (σ := Nat × Nat × Int × List Int) (fun s => [(0, .fi .i64 (dig a)), (1, .fi .i64 (dig b)), (5, .int .i64 (max (dig a).length (dig b).length : Nat)), (6, .sl 0 s.2.1 0 s.1), (7, .int .i64 s.2.2.1), (8, .int .i64 s.1)]) (fun s => [.ints s.2.1 .i64 s.2.2.2]) (fun s => max (dig a).length (dig b).length - s.1)
        (fun s => s.1 ≤ max (dig a).length (dig b).length ∧ s.2.2.2.length = s.1 ∧ Dgs s.2.2.2 ∧ (0 ≤ s.2.2.1 ∧ s.2.2.1 ≤ 1) ∧ val s.2.2.2 + 65536 ^ s.1 * s.2.2.1 = val ((dig a).take s.1) + val ((dig b).take s.1)) (0, 0, 0, []) [0, 1, 5, 6, 7, 8] rfl (by rw [show max (dig a).length (dig b).length = (dig a).length by omega]; rfl) rfl ⟨Nat.zero_le _, rfl, Dgs.nil, by simp, by simp [val]⟩ K.get
  case k =>
    rintro ⟨i, g, c, o⟩ ⟨hi, ho, hd, ⟨c0, c1⟩, hv⟩ ih
    dsimp only at hi ho hd c0 c1 hv ih ⊢
    have da := dig_dgs a
    have db := dig_dgs b
    refine sp W 0 rfl rfl rfl (fun h1 => ?_) (fun h1 => ?_)
    · have ga := da.get i
      have gb := db.get i
      refine ce W 0 rfl rfl (l5At_ok (dig a) i (by omega)) rfl ?_
      refine ce W 0 rfl rfl (l5At_ok (dig b) i (by omega)) rfl ?_
      obtain ⟨x, hx⟩ : ∃ x, (dig a).getD i 0 + (dig b).getD i 0 + c = x := ⟨_, rfl⟩
      have x0 : 0 ≤ x ∧ x ≤ 131071 := by omega
      have nx := ih (i + 1, g + 1, x / 65536, o ++ [x % 65536]) ⟨by dsimp only; omega, by simp; omega, hd.app (Dgs.nil.cons (by omega) (by omega)), by dsimp only; omega, ?_⟩ (by dsimp only; omega)
      · rw [← hx] at nx
        refine bd W 0 1 [0, 1, 5, 6, 7, 8] rfl rfl rfl rfl rfl (nx) (hc := by simp only [AllC, addN, Int.toNat_natCast, true_and, and_true, eq_self, List.length_set, List.length_cons, List.length_nil, List.length_append, List.length_replicate, wrapU, pw1, pw7, pw8, pw16, pw23, pw32, pw52] <;> first | omega | ((repeat' apply And.intro) <;> first | omega | (intros; rfl)))
      · dsimp only
        rw [val_snoc _ _ ho, val_take_any, val_take_any, Int.pow_succ]
        have e4 : 65536 ^ i * (x % 65536) + 65536 ^ i * 65536 * (x / 65536) = 65536 ^ i * x := by
          rw [Int.mul_assoc, ← Int.mul_add]; congr 1; omega
        rw [← hx, Int.mul_add, Int.mul_add] at e4
        rw [← hx]
        omega
    · have him : i = max (dig a).length (dig b).length := by omega
      rw [List.take_of_length_le (by omega), List.take_of_length_le (by omega), val_dig, val_dig] at hv
      refine sp W 0 rfl rfl rfl (fun h2 => ?_) (fun h2 => ?_)
      · have hc1 : c = 1 := by omega
        subst hc1
        have h3 := dig_of_top (l := o ++ [1]) (hd.app (Dgs.nil.cons (by omega) (by omega))) (.inr (by
          rw [val_snoc _ _ ho, List.length_append, ho, List.length_singleton, Int.pow_succ]
          have := val_nonneg hd; omega))
        rw [val_snoc _ _ ho, hv] at h3
        refine rp W 0 rfl rfl rfl (.fi (by rw [← h3]; congr 1))
      · have hc1 : c = 0 := by omega
        subst hc1
        rw [Int.mul_zero, Int.add_zero] at hv
        have h3 := dig_of_top (l := o) hd (by
          by_cases h0 : i = 0
          · left; exact List.eq_nil_of_length_eq_zero (by omega)
          · right
            obtain ⟨k, rfl⟩ : ∃ k, i = k + 1 := ⟨i - 1, by omega⟩
            rw [ho, hv, Int.pow_succ]
            have h4 : 65536 ^ k ≤ a + b := by
              rcases (by omega : k < (dig a).length ∨ k < (dig b).length) with h | h
              · have := dig_len_lt.1 h; omega
              · have := dig_len_lt.1 h; omega
            have h5 : ((65536 ^ k : Nat) : Int) ≤ ((a + b : Nat) : Int) := Int.ofNat_le.2 h4
            rw [Int.natCast_pow, Int.natCast_add] at h5
            simp only [Int.cast_ofNat_Int] at h5
            omega)
        rw [hv] at h3
        refine rp W 0 rfl rfl rfl (.fi (by rw [← h3]; congr 1))
end Pf
/- Whole numbers: the model's own functions, sums, products, shifts. -/
namespace Pf
open Go Go.Proofs
theorem l5Sub_ok (a b : Nat) (hab : b ≤ a) (ha : (dig a).length ≤ 10000000) : AFunP Try.prog 142 [.fi .i64 (dig a), .fi .i64 (dig b)] (· = .fi .i64 (dig (a - b))) := by
  refine afun_of Try.func142 Try.call142 rfl Try.ntmps142 rfl ?_
  have W : Walk Try.prog TT 142 _ := Walk.of TT_ok Try.func142 Try.results142
  have da := dig_dgs a
  have db := dig_dgs b
  have hlen := dig_len_mono hab
  refine atl W rfl ?_
  refine go_nilT 5 (.ints 0 .i64 []) rfl rfl rfl rfl rfl ?_
  refine lp W 0 (σ := Nat × Nat × Int × List Int) (fun s => [(0, .fi .i64 (dig a)), (1, .fi .i64 (dig b)), (5, .sl 0 s.2.1 0 s.1), (6, .int .i64 s.2.2.1), (7, .int .i64 s.1)]) (fun s => [.ints s.2.1 .i64 s.2.2.2]) (fun s => (dig a).length - s.1)
    (fun s => s.1 ≤ (dig a).length ∧ s.2.2.2.length = s.1 ∧ Dgs s.2.2.2 ∧ (0 ≤ s.2.2.1 ∧ s.2.2.1 ≤ 1) ∧ val s.2.2.2 - 65536 ^ s.1 * s.2.2.1 = val ((dig a).take s.1) - val ((dig b).take s.1)) (0, 0, 0, []) [0, 1, 5, 6, 7] rfl rfl rfl ⟨Nat.zero_le _, rfl, Dgs.nil, by simp, by simp [val]⟩ ?_
  rintro ⟨i, g, c, o⟩ ⟨hi, ho, hd, ⟨c0, c1⟩, hv⟩ ih
  dsimp only at hi ho hd c0 c1 hv ih ⊢
  refine sp W 0 rfl rfl rfl (fun h1 => ?_) (fun h1 => ?_)
  · have ga := da.get i
    have gb := db.get i
    obtain ⟨x, hx⟩ : ∃ x, (dig a).getD i 0 - (dig b).getD i 0 - c = x := ⟨_, rfl⟩
    refine dre W 0 9 [] [.int .i64 ((dig b).getD i 0)] rfl rfl rfl ⟨(l5At_ok (dig b) i (by omega)).at rfl _, trivial⟩ rfl ?_
    refine sp W 0 rfl rfl rfl (fun h2 => ?_) (fun h2 => ?_)
    · rw [Int.toNat_natCast, hx] at h2
      have nx := ih (i + 1, g + 1, 1, o ++ [x + 65536]) ⟨by dsimp only; omega, by simp; omega, hd.app (Dgs.nil.cons (by omega) (by omega)), by simp, ?_⟩ (by dsimp only; omega)
      · rw [← hx] at nx
        refine bd W 0 1 [0, 1, 5, 6, 7] rfl rfl rfl rfl rfl (nx) (hc := by simp only [AllC, addN, Int.toNat_natCast, true_and, and_true, eq_self, List.length_set, List.length_cons, List.length_nil, List.length_append, List.length_replicate, wrapU, pw1, pw7, pw8, pw16, pw23, pw32, pw52] <;> first | omega | ((repeat' apply And.intro) <;> first | omega | (intros; rfl)))
      · dsimp only
        rw [val_snoc _ _ ho, val_take_any, val_take_any, Int.pow_succ, ← hx]
        simp only [Int.mul_add, Int.mul_sub]
        omega
    · rw [Int.toNat_natCast, hx] at h2
      have nx := ih (i + 1, g + 1, 0, o ++ [x]) ⟨by dsimp only; omega, by simp; omega, hd.app (Dgs.nil.cons (by omega) (by omega)), by simp, ?_⟩ (by dsimp only; omega)
      · rw [← hx] at nx
        refine bd W 0 1 [0, 1, 5, 6, 7] rfl rfl rfl rfl rfl (nx) (hc := by simp only [AllC, addN, Int.toNat_natCast, true_and, and_true, eq_self, List.length_set, List.length_cons, List.length_nil, List.length_append, List.length_replicate, wrapU, pw1, pw7, pw8, pw16, pw23, pw32, pw52] <;> first | omega | ((repeat' apply And.intro) <;> first | omega | (intros; rfl)))
      · dsimp only
        rw [val_snoc _ _ ho, val_take_any, val_take_any, Int.pow_succ, ← hx]
        simp only [Int.mul_add, Int.mul_sub]
        omega
  · have him : i = (dig a).length := by omega
    rw [List.take_of_length_le (by omega), List.take_of_length_le (by omega), val_dig, val_dig] at hv
    have h2 := val_lt hd
    have h3 := val_nonneg hd
    rw [ho] at h2
    have hc : c = 0 := by
      rcases (by omega : c = 0 ∨ c = 1) with h | h
      · exact h
      · subst h; omega
    subst hc
    refine cf W 0 [0] [] rfl rfl rfl rfl rfl rfl (l5Trim_ok o (by omega)) rfl ?_
    refine rp W 0 rfl rfl rfl (.fi (by rw [trimL_dig hd]; congr 1; omega))
theorem l5Mul_ok (a b : Nat) (ha : (dig a).length ≤ 10000000) (hb : (dig b).length ≤ 10000000) : AFunP Try.prog 90 [.fi .i64 (dig a), .fi .i64 (dig b)] (· = .fi .i64 (dig (a * b))) := by
  refine afun_of Try.func90 Try.call90 rfl Try.ntmps90 rfl ?_
  have W : Walk Try.prog TT 90 _ := Walk.of TT_ok Try.func90 Try.results90
  have da := dig_dgs a
  have db := dig_dgs b
  have eL : (((dig a).length : Int) + (dig b).length) = (((dig a).length + (dig b).length : Nat) : Int) := by omega
  refine lp W 0 (σ := Nat × List Int) (fun s => [(0, .fi .i64 (dig a)), (1, .fi .i64 (dig b)), (5, .sl 0 0 0 ((dig a).length + (dig b).length)), (6, .int .i64 s.1)]) (fun s => [.ints 0 .i64 s.2]) (fun s => (dig a).length - s.1)
    (fun s => s.1 ≤ (dig a).length ∧ s.2.length = (dig a).length + (dig b).length ∧ val s.2 = val ((dig a).take s.1) * b ∧ ∀ j, 0 ≤ s.2.getD j 0 ∧ s.2.getD j 0 < 65536 ∧ (s.1 + (dig b).length ≤ j → s.2.getD j 0 = 0))
    (0, List.replicate ((dig a).length + (dig b).length) 0) [0, 1, 5, 6] rfl (by rw [eL]; rfl) (by rw [eL]; rfl) ⟨Nat.zero_le _, by simp, by simp [val_replicate, val], fun j => ?_⟩ ?_ (hc := ?_)
  · have : (List.replicate ((dig a).length + (dig b).length) (0 : Int)).getD j 0 = 0 := by
      rw [List.getD_eq_getElem?_getD, List.getElem?_replicate]; split <;> rfl
    dsimp only; omega
  · rintro ⟨i, l⟩ ⟨hi, hl, hv, hd⟩ ih
    dsimp only at hi hl hv hd ih ⊢
    generalize hA : (dig a).length = A at *
    refine sp W 0 rfl rfl rfl (fun h1 => ?_) (fun h1 => ?_)
    · have h1 : i < A := by omega
      have gx := da.get i
      have gl : ∀ j, i + (dig b).length ≤ j → l.getD j 0 = 0 := fun j hj => (hd j).2.2 hj
      generalize hx : (dig a).getD i 0 = x at *
      refine lp W 0 (σ := Nat × Int × List Int) (fun s => [(0, .fi .i64 (dig a)), (1, .fi .i64 (dig b)), (5, .sl 0 0 0 (A + (dig b).length)), (6, .int .i64 i), (7, .int .i64 s.2.1), (8, .int .i64 s.1)]) (fun s => [.ints 0 .i64 s.2.2]) (fun s => (dig b).length - s.1)
        (fun s => s.1 ≤ (dig b).length ∧ s.2.2.length = A + (dig b).length ∧ val s.2.2 + s.2.1 * 65536 ^ (i + s.1) = val l + x * val ((dig b).take s.1) * 65536 ^ i ∧ 0 ≤ s.2.1 ∧ s.2.1 < 65536 ∧ (∀ j, 0 ≤ s.2.2.getD j 0 ∧ s.2.2.getD j 0 < 65536) ∧ ∀ j, i + s.1 ≤ j → s.2.2.getD j 0 = l.getD j 0)
        (0, 0, l) [0, 1, 5, 6, 7, 8] rfl rfl rfl ⟨Nat.zero_le _, hl, by simp [val], by simp, by simp, fun j => by have := hd j; dsimp only; omega, fun j _ => rfl⟩ ?_
      rintro ⟨k, c, m⟩ ⟨hk, hm, hw, c0, c1, he, hs⟩ ih2
      dsimp only at hk hm hw c0 c1 he hs ih2 ⊢
      refine sp W 0 rfl rfl rfl (fun h2 => ?_) (fun h2 => ?_)
      · have h2 : k < (dig b).length := by omega
        have gy := db.get k
        have gm := he (i + k)
        generalize hy : (dig b).getD k 0 = y at *
        have p0 : 0 ≤ x * y := Int.mul_nonneg gx.1 gy.1
        have p1 : x * y ≤ 65535 * 65535 := Int.mul_le_mul (by omega) (by omega) gy.1 (by omega)
        have eI : ((i : Int) + (k : Int)).toNat = i + k := by omega
        refine dre W 0 17 [] [] rfl rfl rfl trivial rfl ?_ (hp := ?_)
        · obtain ⟨z, hz⟩ : ∃ z, m.getD (i + k) 0 + x * y + c = z := ⟨_, rfl⟩
          have nx := ih2 (k + 1, z / 65536, m.set (i + k) (z % 65536)) ⟨by omega, by simpa using hm, ?_, ?_, ?_, fun j => ?_, fun j hj => ?_⟩ (by dsimp only; omega)
          · rw [← hz, ← hy, ← hx, ← eI] at nx
            refine bk W 0 [0, 1, 5, 6, 7, 8] rfl rfl nx (hc := ?_)
            simp only [AllC, eI, hx, hy, hz, addN, Int.toNat_natCast, true_and, List.length_set]; omega
          · dsimp only
            rw [val_set _ _ _ (by omega), val_take_succ h2, hy]
            have hq : z = 65536 * (z / 65536) + z % 65536 := by omega
            rw [show i + (k + 1) = i + k + 1 by omega, Int.pow_succ, Int.mul_add, Int.add_mul, ← Int.mul_assoc x, Int.mul_comm (x * 65536 ^ k) y]
            have e2 : y * (x * 65536 ^ k) * 65536 ^ i = x * y * 65536 ^ (i + k) := by
              rw [Int.pow_add]
              simp only [Int.mul_assoc, Int.mul_comm, Int.mul_left_comm]
            rw [e2]
            have e3 : z / 65536 * (65536 ^ (i + k) * 65536) = 65536 ^ (i + k) * (65536 * (z / 65536)) := by simp only [Int.mul_assoc, Int.mul_comm, Int.mul_left_comm]
            have e4 : 65536 ^ (i + k) * (z % 65536 - m.getD (i + k) 0) + 65536 ^ (i + k) * (65536 * (z / 65536)) = 65536 ^ (i + k) * (x * y + c) := by
              rw [← Int.mul_add]; congr 1; omega
            rw [Int.mul_add, Int.mul_comm _ (x * y), Int.mul_comm _ c] at e4
            omega
          · dsimp only; omega
          · dsimp only; omega
          · dsimp only
            rw [getD_set _ _ _ _ (by omega)]
            have := he j
            split <;> omega
          · dsimp only at hj ⊢
            rw [getD_set _ _ _ _ (by omega), if_neg (by omega)]
            exact hs j (by omega)
        · simp only [AllP, eI, hx, hy, addN, Int.toNat_natCast, true_and, and_true, List.length_set, Option.getD]
          omega
      · have hkB : k = (dig b).length := by omega
        subst hkB
        rw [List.take_length, val_dig] at hw
        have g0 : m.getD (i + (dig b).length) 0 = 0 := by rw [hs _ (Nat.le_refl _)]; exact gl _ (Nat.le_refl _)
        have eI : ((i : Int) + ((dig b).length : Int)).toNat = i + (dig b).length := by omega
        have nx := ih (i + 1, m.set (i + (dig b).length) c) ⟨by dsimp only; omega, by simpa using hm, ?_, fun j => ?_⟩ (by dsimp only; omega)
        · rw [← eI] at nx
          have nz := addN0 ((i : Int) + ((dig b).length : Int)).toNat
          rw [← nz] at nx
          refine bk W 0 [0, 1, 5, 6] rfl rfl nx (hc := ?_)
          simp only [AllC, eI, addN, Int.toNat_natCast, true_and, List.length_set, g0]; omega
        · dsimp only
          rw [val_set _ _ _ (by omega), g0, val_take_succ (show i < (dig a).length by omega), hx, show c - 0 = c by omega, Int.mul_comm _ c, hw, hv, Int.add_mul, Int.mul_comm (65536 ^ i) x, Int.mul_assoc x, Int.mul_assoc x, Int.mul_comm (b : Int)]
        · dsimp only
          rw [getD_set _ _ _ _ (by omega)]
          have h1 := he j
          have h2 := hs j
          have h3 := gl j
          split
          · omega
          · refine ⟨h1.1, h1.2, fun hj => ?_⟩
            rw [h2 (by omega)]; exact h3 (by omega)
    · have hiA : i = (dig a).length := by omega
      subst hA
      subst hiA
      rw [List.take_length, val_dig] at hv
      have dm : Dgs l := dgs_of_getD fun j hj => by have := hd j; omega
      refine cf W 0 [0] [] rfl rfl rfl rfl rfl rfl (l5Trim_ok l (by omega)) rfl ?_
      refine rp W 0 rfl rfl rfl (.fi (by rw [trimL_dig dm, hv]; congr 1))
  · simp only [AllC, true_and]
    omega
theorem l5DivSmall_ok (a d : Nat) (hd0 : 0 < d) (hd : d < 65536) (ha : (dig a).length ≤ 10000000) : AFunP Try.prog 162 [.fi .i64 (dig a), .int .i64 d] (· = .tup [.fi .i64 (dig (a / d)), .int .i64 ((a % d : Nat) : Int)]) := by
  refine afun_of Try.func162 Try.call162 rfl Try.ntmps162 rfl ?_
  have W : Walk Try.prog TT 162 _ := Walk.of TT_ok Try.func162 Try.results162
  have da := dig_dgs a
  refine lp W 0 (σ := Nat × Int × List Int) (fun s => [(0, .fi .i64 (dig a)), (1, .int .i64 d), (6, .sl 0 0 0 (dig a).length), (7, .int .i64 s.2.1), (8, .int .i64 ((s.1 : Int) - 1))]) (fun s => [.ints 0 .i64 s.2.2]) (fun s => s.1)
      (fun s => s.1 ≤ (dig a).length ∧ s.2.2.length = (dig a).length ∧ 0 ≤ s.2.1 ∧ s.2.1 < d ∧ val s.2.2 * d + s.2.1 * 65536 ^ s.1 + val ((dig a).take s.1) = a ∧ ∀ j, 0 ≤ s.2.2.getD j 0 ∧ s.2.2.getD j 0 < 65536 ∧ (j < s.1 → s.2.2.getD j 0 = 0))
      ((dig a).length, 0, List.replicate (dig a).length 0) [0, 1, 6, 7, 8] rfl rfl rfl ⟨Nat.le_refl _, by simp, by simp, by dsimp only; omega, by simp [val_replicate, val, List.take_length, val_dig], fun j => ?_⟩ ?_
  · have : (List.replicate (dig a).length (0 : Int)).getD j 0 = 0 := by
      rw [List.getD_eq_getElem?_getD, List.getElem?_replicate]; split <;> rfl
    dsimp only; omega
  rintro ⟨t, r, l⟩ ⟨ht, hl, r0, r1, hv, hdd⟩ ih
  dsimp only at ht hl r0 r1 hv hdd ih ⊢
  refine sp W 0 rfl rfl rfl (fun h3 => ?_) (fun h3 => ?_)
  · obtain ⟨t, rfl⟩ : ∃ m, t = m + 1 := ⟨t - 1, by omega⟩
    have et : (((t + 1 : Nat) : Int) - 1) = (t : Int) := by omega
    have ga := da.get t
    obtain ⟨N, hN⟩ : ∃ N, r * 65536 + (dig a).getD t 0 = N := ⟨_, rfl⟩
    have n0 : 0 ≤ N := by omega
    have q0 : 0 ≤ N / d := Int.ediv_nonneg n0 (by omega)
    have q1 : N / d < 65536 := Int.ediv_lt_of_lt_mul (by omega) (by omega)
    have m0 := Int.emod_nonneg N (b := d) (by omega)
    have m1 := Int.emod_lt_of_pos N (b := d) (by omega)
    have gl := (hdd t).2.2 (by omega)
    have nx := ih (t, N % d, l.set t (N / d)) ⟨by dsimp only; omega, by simpa using hl, m0, m1, ?_, fun j => ?_⟩ (by dsimp only; omega)
    · rw [et]
      rw [← hN] at nx
      refine bk W 0 [0, 1, 6, 7, 8] rfl rfl (nx) (hc := by simp only [AllC, addN, Int.toNat_natCast, true_and, and_true, eq_self, List.length_set, List.length_cons, List.length_nil, List.length_append, List.length_replicate, wrapU, pw1, pw7, pw8, pw16, pw23, pw32, pw52] <;> first | omega | ((repeat' apply And.intro) <;> first | omega | (intros; rfl)))
    · dsimp only
      rw [val_take_succ (show t < (dig a).length by omega), Int.pow_succ] at hv
      rw [val_set _ _ _ (by omega), gl, Int.sub_zero, Int.add_mul, Int.mul_assoc (65536 ^ t), Int.mul_comm (N % d)]
      have e1 : N / d * d + N % d = r * 65536 + (dig a).getD t 0 := by rw [Int.mul_comm]; rw [hN]; exact Int.mul_ediv_add_emod N d
      have e2 : 65536 ^ t * (N / d * d) + 65536 ^ t * (N % d) = r * (65536 ^ t * 65536) + 65536 ^ t * (dig a).getD t 0 := by
        rw [← Int.mul_add, e1, Int.mul_add]; congr 1; simp only [Int.mul_assoc, Int.mul_comm, Int.mul_left_comm]
      omega
    · dsimp only
      rw [getD_set _ _ _ _ (by omega)]
      have := hdd j
      split <;> omega
  · obtain rfl : t = 0 := by omega
    have dl : Dgs l := dgs_of_getD fun j hj => by have := hdd j; omega
    simp only [List.take_zero, val, Int.pow_zero, Int.mul_one, Int.add_zero] at hv
    have v0 := val_nonneg dl
    obtain ⟨u1, u2⟩ := divmod hv r0 r1
    refine cf W 0 [0] [7] rfl rfl rfl rfl rfl rfl (l5Trim_ok l (by omega)) rfl ?_
    refine rp W 0 rfl rfl rfl (.tup ⟨.fi (by rw [trimL_dig dl, u1, Int.toNat_natCast]), .int u2, trivial⟩)
theorem l5Shl_ok (a k : Nat) (hk : k ≤ 10000000) (ha : (dig a).length ≤ 10000000) : AFunP Try.prog 166 [.fi .i64 (dig a), .int .i64 k] (· = .fi .i64 (dig (a * 65536 ^ k))) := by
  refine afun_of Try.func166 Try.call166 rfl Try.ntmps166 rfl ?_
  have W : Walk Try.prog TT 166 _ := Walk.of TT_ok Try.func166 Try.results166
  refine sp W 0 rfl rfl rfl (fun h => ?_) (fun h => ?_)
  · have h0 : a = 0 := dig_nil.1 (List.eq_nil_of_length_eq_zero (by omega))
    subst h0
    refine rp W 0 rfl rfl rfl (.trans .nils_fi (.fi (by rw [Nat.zero_mul, dig_zero])))
  · have h0 : a ≠ 0 := fun h0 => h (by rw [h0, dig_zero]; rfl)
    refine lp W 0 (σ := Nat × Nat × List Int) (fun s => [(0, .fi .i64 (dig a)), (5, .sl 0 s.2.1 0 (k + s.1)), (6, .int .i64 s.1)]) (fun s => [.ints s.2.1 .i64 s.2.2]) (fun s => (dig a).length - s.1)
      (fun s => s.1 ≤ (dig a).length ∧ s.2.2 = List.replicate k 0 ++ (dig a).take s.1) (0, 0, List.replicate k 0) [0, 5, 6] rfl rfl rfl ⟨Nat.zero_le _, by simp⟩ ?_
    rintro ⟨i, g, o⟩ ⟨hi, ho⟩ ih
    dsimp only at hi ho ih ⊢
    have ho2 : o.length = k + i := by rw [ho]; simp; omega
    refine sp W 0 rfl rfl rfl (fun h1 => ?_) (fun h1 => ?_)
    · have h1 : i < (dig a).length := by omega
      have e : o ++ [(dig a).getD i 0] = List.replicate k 0 ++ (dig a).take (i + 1) := by
        rw [ho, List.append_assoc, List.take_add_one, List.getD_eq_getElem?_getD, List.getElem?_eq_getElem h1]; rfl
      have nx := ih (i + 1, g + 1, o ++ [(dig a).getD i 0]) ⟨by dsimp only; omega, e⟩ (by dsimp only; omega)
      refine bd W 0 1 [0, 5, 6] rfl rfl rfl rfl rfl (nx) (hc := by simp only [AllC, addN, Int.toNat_natCast, true_and, and_true, eq_self, List.length_set, List.length_cons, List.length_nil, List.length_append, List.length_replicate, wrapU, pw1, pw7, pw8, pw16, pw23, pw32, pw52] <;> first | omega | ((repeat' apply And.intro) <;> first | omega | (intros; rfl)))
    · have him : i = (dig a).length := by omega
      subst him
      rw [List.take_length, dig_shl a h0] at ho
      refine rp W 0 rfl rfl rfl (.fi ho)
theorem l5Top_ok (a k : Nat) (hk : k ≤ 10000000) (ha : (dig a).length ≤ 10000000) : AFunP Try.prog 165 [.fi .i64 (dig a), .int .i64 k] (· = .fi .i64 (dig (a / 65536 ^ k))) := by
  refine afun_of Try.func165 Try.call165 rfl Try.ntmps165 rfl ?_
  have W : Walk Try.prog TT 165 _ := Walk.of TT_ok Try.func165 Try.results165
  refine atl W rfl ?_
  refine go_nilT 5 (.ints 0 .i64 []) rfl rfl rfl rfl rfl ?_
  refine lp W 0 (σ := Nat × Nat × List Int) (fun s => [(0, .fi .i64 (dig a)), (5, .sl 0 s.2.1 0 s.1), (6, .int .i64 ((k : Int) + s.1))]) (fun s => [.ints s.2.1 .i64 s.2.2]) (fun s => (dig a).length - s.1)
      (fun s => s.1 ≤ (dig a).length - k ∧ s.2.2 = ((dig a).drop k).take s.1) (0, 0, []) [0, 5, 6] rfl (by simp [keepM, getM]; rfl) rfl ⟨Nat.zero_le _, by simp⟩ ?_
  rintro ⟨i, g, o⟩ ⟨hi, ho⟩ ih
  dsimp only at hi ho ih ⊢
  have ho2 : o.length = i := by rw [ho]; simp; omega
  refine sp W 0 rfl rfl rfl (fun h1 => ?_) (fun h1 => ?_)
  · have h1 : k + i < (dig a).length := by omega
    have e2 : ((k : Int) + i).toNat = k + i := by omega
    have e : o ++ [(dig a).getD (k + i) 0] = ((dig a).drop k).take (i + 1) := by
      rw [ho, List.take_add_one, List.getElem?_drop, List.getD_eq_getElem?_getD, List.getElem?_eq_getElem h1]; rfl
    have nx := ih (i + 1, g + 1, o ++ [(dig a).getD (k + i) 0]) ⟨by dsimp only; omega, e⟩ (by dsimp only; omega)
    have e3 : ((k : Int) + (i + 1 : Nat)) = (k : Int) + i + 1 := by omega
    dsimp only at nx
    rw [← e2, e3] at nx
    refine bd W 0 1 [0, 5, 6] rfl rfl rfl rfl rfl (nx) (hc := by simp only [AllC, addN, Int.toNat_natCast, true_and, and_true, eq_self, List.length_set, List.length_cons, List.length_nil, List.length_append, List.length_replicate, wrapU, pw1, pw7, pw8, pw16, pw23, pw32, pw52] <;> first | omega | ((repeat' apply And.intro) <;> first | omega | (intros; rfl)))
  · have e : o = (dig a).drop k := by rw [ho, List.take_of_length_le (by simp; omega)]
    refine rp W 0 rfl rfl rfl (.fi (by rw [e, dig_drop]))
theorem l5Times_ok (a d : Nat) (hd : d < 65536) (ha : (dig a).length ≤ 1000000) : AFunP Try.prog 164 [.fi .i64 (dig a), .int .i64 d] (· = .fi .i64 (dig (a * d))) := by
  refine afun_of Try.func164 Try.call164 rfl Try.ntmps164 rfl ?_
  have W : Walk Try.prog TT 164 _ := Walk.of TT_ok Try.func164 Try.results164
  refine sp W 0 rfl rfl rfl (fun h => ?_) (fun h => ?_)
  · have h0 : d = 0 := by omega
    subst h0
    refine rp W 0 rfl rfl rfl (.trans .nils_fi (.fi (by rw [Nat.mul_zero, dig_zero])))
  · have h0 : [(d : Int)] = dig d := by rw [dig_small hd, if_neg (by omega)]
    have k1 := l5Mul_ok a d (by omega) (by rw [← h0]; simp)
    rw [← h0] at k1
    refine cf W 0 [0] [] rfl rfl rfl rfl rfl rfl (k1) rfl ?_
    refine rp W 0 rfl rfl rfl (.refl)
theorem l5Pow2_ok (k : Nat) (hk : k ≤ 10000000) : AFunP Try.prog 173 [.int .i64 k] (· = .fi .i64 (dig (2 ^ k))) := by
  refine afun_of Try.func173 Try.call173 rfl Try.ntmps173 rfl ?_
  have W : Walk Try.prog TT 173 _ := Walk.of TT_ok Try.func173 Try.results173
  have h0 : [((1 : Int) * 2 ^ ((k : Int) % 16).toNat)] = dig (2 ^ (k % 16)) := by
    have : 2 ^ (k % 16) < 65536 := Nat.pow_lt_pow_right (a := 2) (n := 16) (by omega) (by omega)
    rw [dig_small this, if_neg (Nat.pos_iff_ne_zero.1 (Nat.pow_pos (by omega))), Int.one_mul, show ((k : Int) % 16).toNat = k % 16 by omega]; simp
  have k1 := l5Shl_ok (2 ^ (k % 16)) (k / 16) (by omega) (by rw [← h0]; simp)
  rw [← h0] at k1
  have hbits : (IntKind.i64.bits : Int) = 64 := rfl
  have k2 := k1
  have e := (by decide : ∀ r, r < 16 → (1 : Int) ≤ 2 ^ r ∧ (2 : Int) ^ r ≤ 32768) ((k : Int) % 16).toNat (by omega)
  refine cf W 2 [0] [] rfl rfl rfl rfl rfl rfl k2 rfl ?_ (hc := by simp only [AllC, true_and, and_true]; omega)
  refine rp W 0 rfl rfl rfl (.fi (by congr 1; rw [show (65536 : Nat) = 2 ^ 16 from rfl, ← Nat.pow_mul, ← Nat.pow_add]; congr 1; omega))
end Pf
/- Whole numbers: the model's own quotient -/
namespace Pf
open Go Go.Proofs
theorem l5Div_ok (a b : Nat) (hb : b ≠ 0) (ha : (dig a).length ≤ 900000) (hbl : (dig b).length ≤ 900000) : AFunP Try.prog 136 [.fi .i64 (dig a), .fi .i64 (dig b)] (· = .tup [.fi .i64 (dig (a / b)), .fi .i64 (dig (a % b))]) := by
  refine afun_of Try.func136 Try.call136 rfl Try.ntmps136 rfl ?_
  have W : Walk Try.prog TT 136 _ := Walk.of TT_ok Try.func136 Try.results136
  have da := dig_dgs a
  have db := dig_dgs b
  refine ce W 0 rfl rfl (l5Cmp_ok a b (by omega) (by omega)) rfl ?_
  refine sp W 0 rfl rfl rfl (fun h1 => ?_) (fun h1 => ?_)
  · have : a < b := by unfold sgn at h1; omega
    have k1 := l5Trim_ok (dig a) (by omega)
    rw [trimL_dig da, val_dig, Int.toNat_natCast] at k1
    refine ce W 0 rfl rfl (k1) rfl ?_
    refine rp W 0 rfl rfl rfl (.tup ⟨.trans .nils_fi (.fi (by rw [Nat.div_eq_of_lt this, dig_zero])), .fi (by rw [Nat.mod_eq_of_lt this]), trivial⟩)
  have hab : b ≤ a := by unfold sgn at h1; omega
  have hlen := dig_len_mono hab
  have hlb : 0 < (dig b).length := by
    cases hd : dig b with
    | nil => exact absurd (dig_nil.1 hd) hb
    | cons x l => simp
  refine sp W 0 rfl rfl rfl (fun h2 => ?_) (fun h2 => ?_)
  · have hb1 : b < 65536 := by simpa using dig_lt (a := b) (n := 1) (by omega)
    have eb : (dig b).getD 0 0 = (b : Int) := by rw [dig_get]; simp; omega
    have k1 := l5DivSmall_ok a b (by omega) hb1 (by omega)
    rw [← eb] at k1
    refine ce W 0 rfl rfl (k1) rfl ?_
    have hm := Nat.mod_lt a (show 0 < b by omega)
    refine ce W 0 rfl rfl (specNatOf_ok (a % b) (by omega)) rfl ?_
    refine rp W 0 rfl rfl rfl (.refl)
  obtain ⟨n, hn⟩ : ∃ n, (dig b).length = n + 2 := ⟨(dig b).length - 2, by omega⟩
  have hb2 : 65536 ^ (n + 1) ≤ b := dig_len_lt.1 (by omega)
  have hb3 : b < 65536 ^ (n + 2) := dig_lt (by omega)
  have hp : 0 < 65536 ^ (n + 1) := Nat.pow_pos (by omega)
  have hps : 65536 ^ (n + 2) = 65536 ^ (n + 1) * 65536 := Nat.pow_succ 65536 (n + 1)
  obtain ⟨v, hv⟩ : ∃ v, b / 65536 ^ (n + 1) = v := ⟨_, rfl⟩
  have hv1 : 0 < v := by rw [← hv]; exact Nat.div_pos hb2 hp
  have hv2 : v < 65536 := by rw [← hv]; exact Nat.div_lt_of_lt_mul (by omega)
  have hv3 : b < (v + 1) * 65536 ^ (n + 1) := by rw [← hv]; exact (Nat.div_lt_iff_lt_mul hp).1 (Nat.lt_succ_self _)
  have ev : (dig b).getD (((dig b).length : Int) - 1).toNat 0 = v := by
    rw [show (((dig b).length : Int) - 1).toNat = n + 1 by omega, dig_get, hv, Nat.mod_eq_of_lt hv2]
  obtain ⟨u, hu⟩ : ∃ u, 65536 / (v + 1) = u := ⟨_, rfl⟩
  have hu1 : 0 < u := by rw [← hu]; exact Nat.div_pos (by omega) (by omega)
  have hu2 : u * (v + 1) ≤ 65536 := by rw [← hu]; exact Nat.div_mul_le_self _ _
  have hu3 : u < 65536 := by
    have := Nat.mul_le_mul_left u (show 2 ≤ v + 1 by omega)
    omega
  have eu : (65536 : Int) / ((dig b).getD (((dig b).length : Int) - 1).toNat 0 + 1) = u := by rw [ev, ← hu]; simp
  have k1 := l5Times_ok a u hu3 (by omega)
  have k2 := l5Times_ok b u hu3 (by omega)
  rw [← eu] at k1 k2
  refine ce W 0 rfl rfl k1 rfl ?_ (hc := by simp only [AllC, ev, true_and, and_true]; omega)
  refine ce W 0 rfl rfl (k2) rfl ?_
  rw [eu]
  have hx0 : a * u < 65536 ^ ((dig a).length + 1) := by
    rw [Nat.pow_succ]
    exact Nat.mul_lt_mul_of_lt_of_le (dig_lt (Nat.le_refl _)) (by omega) (by omega)
  have hxl : (dig (a * u)).length ≤ (dig a).length + 1 := dig_len_le.2 hx0
  have hy1 : 65536 ^ (n + 1) ≤ b * u := Nat.le_trans hb2 (Nat.le_mul_of_pos_right _ hu1)
  have hy2 : b * u < 65536 ^ (n + 2) := by
    rw [hps]
    calc b * u < (v + 1) * 65536 ^ (n + 1) * u := Nat.mul_lt_mul_of_pos_right hv3 hu1
      _ = 65536 ^ (n + 1) * (u * (v + 1)) := by rw [Nat.mul_comm (v + 1), Nat.mul_assoc, Nat.mul_comm (v + 1)]
      _ ≤ _ := Nat.mul_le_mul_left _ hu2
  have hyl : (dig (b * u)).length = n + 2 := by
    have := (dig_len_lt (n := b * u) (k := n + 1)).2 hy1
    have := (dig_len_le (n := b * u) (k := n + 2)).2 hy2
    omega
  have hxy : b * u ≤ a * u := Nat.mul_le_mul_right _ hab
  have hlen2 := dig_len_mono hxy
  have hdiv : a * u / (b * u) = a / b := Nat.mul_div_mul_right _ _ hu1
  have hmod : a * u % (b * u) = a % b * u := Nat.mul_mod_mul_right _ _ _
  generalize hX : a * u = x at *
  generalize hY : b * u = y at *
  clear k1 k2
  have dx := dig_dgs x
  have dy := dig_dgs y
  obtain ⟨M, hM⟩ : ∃ M, (dig x).length + 1 = M + (n + 2) := ⟨(dig x).length + 1 - (n + 2), by omega⟩
  have eM : ((dig x).length : Int) - (dig y).length + 1 = M := by omega
  have k3 := l5Top_ok x M (by omega) (by omega)
  rw [← eM] at k3
  refine ce W 0 rfl rfl k3 rfl ?_ (hc := by simp only [AllC, true_and, and_true]; omega)
  rw [eM]
  have e14 : ((dig x).length : Int) - (dig y).length = (M : Int) - 1 := by omega
  have hx1 := dig_lt (a := x) (Nat.le_refl _)
  have hx2 : x / 65536 ^ M < y := by
    refine Nat.lt_of_lt_of_le (Nat.div_lt_of_lt_mul ?_) hy1
    rw [← Nat.pow_add, show M + (n + 1) = (dig x).length by omega]; exact hx1
  refine lp W 0 (σ := Nat × List Int) (fun s => [(8, .int .i64 u), (9, .fi .i64 (dig x)), (10, .fi .i64 (dig y)), (11, .int .i64 (dig y).length), (12, .sl 0 0 0 M), (13, .fi .i64 (dig (x / 65536 ^ s.1 % y))), (14, .int .i64 ((s.1 : Int) - 1))]) (fun s => [.ints 0 .i64 s.2]) (fun s => s.1)
    (fun s => s.1 ≤ M ∧ s.2.length = M ∧ val s.2 = ((65536 ^ s.1 * (x / 65536 ^ s.1 / y) : Nat) : Int) ∧ ∀ j, 0 ≤ s.2.getD j 0 ∧ s.2.getD j 0 < 65536 ∧ (j < s.1 → s.2.getD j 0 = 0))
    (M, List.replicate M 0) [8, 9, 10, 11, 12, 13, 14] rfl (by simp only [Nat.mod_eq_of_lt hx2, ← e14]; rfl) rfl ⟨Nat.le_refl _, by simp, by simp [val_replicate, Nat.div_eq_of_lt hx2], fun j => ?_⟩ ?_
  · have : (List.replicate M (0 : Int)).getD j 0 = 0 := by
      rw [List.getD_eq_getElem?_getD, List.getElem?_replicate]; split <;> rfl
    dsimp only; omega
  rintro ⟨t, q⟩ ⟨ht, hq, hvq, hd⟩ ih
  dsimp only at ht hq hvq hd ih ⊢
  refine sp W 0 rfl rfl rfl (fun h3 => ?_) (fun h3 => ?_)
  · obtain ⟨t, rfl⟩ : ∃ m, t = m + 1 := ⟨t - 1, by omega⟩
    have et : (((t + 1 : Nat) : Int) - 1) = (t : Int) := by omega
    rw [et]
    have hy0 : 0 < y := by have : 0 < 65536 ^ (n + 1) := Nat.pow_pos (by omega)
                           omega
    have hr := Nat.mod_lt (x / 65536 ^ (t + 1)) hy0
    have hA := Nat.div_add_mod (x / 65536 ^ (t + 1)) y
    obtain ⟨xt, hxt⟩ : ∃ d, x / 65536 ^ t % 65536 = d := ⟨_, rfl⟩
    have hxt2 : xt < 65536 := by rw [← hxt]; exact Nat.mod_lt _ (by omega)
    have hB : x / 65536 ^ t = 65536 * (x / 65536 ^ (t + 1)) + xt := by
      rw [Nat.pow_succ, ← Nat.div_div_eq_div_mul, ← hxt]; omega
    have gx : (dig x).getD t 0 = (xt : Int) := by rw [dig_get, hxt]
    obtain ⟨r, hr1⟩ : ∃ r, x / 65536 ^ (t + 1) % y = r := ⟨_, rfl⟩
    obtain ⟨Q0, hQ0⟩ : ∃ r, x / 65536 ^ (t + 1) / y = r := ⟨_, rfl⟩
    rw [hr1] at hr hA ⊢
    rw [hQ0] at hA hvq
    have lr : (dig r).length ≤ n + 2 := by rw [← hyl]; exact dig_len_mono (Nat.le_of_lt hr)
    have k4 := l5Shl_ok r 1 (by omega) (by omega)
    obtain ⟨R, hR⟩ : ∃ R, r * 65536 ^ 1 = R := ⟨_, rfl⟩
    rw [hR] at k4
    rw [Nat.pow_one] at hR
    have k5 := specNatOf_ok xt (by omega)
    rw [← gx] at k5
    have l1 : (dig R).length ≤ n + 3 := by
      rw [dig_len_le]
      rw [dig_len_le] at lr
      rw [← hR, show 65536 ^ (n + 3) = 65536 ^ (n + 2) * 65536 from Nat.pow_succ 65536 (n + 2)]; omega
    have l2 : (dig xt).length ≤ n + 3 := Nat.le_trans (dig_len_le.2 (show xt < 65536 ^ 1 from hxt2)) (by omega)
    have k6 := l5Add_ok R xt (by omega) (by omega)
    have l3 := dig_len_add l1 l2
    have k7 := l5Trim_ok (dig (R + xt)) (by omega)
    rw [trimL_dig (dig_dgs _), val_dig, Int.toNat_natCast] at k7
    refine dre W 0 10 [] [.fi .i64 (dig R), .fi .i64 (dig xt), .fi .i64 (dig (R + xt)), .fi .i64 (dig (R + xt))] rfl rfl rfl ⟨k4.at rfl _, k5.at rfl _, k6.at rfl _, k7.at rfl _, trivial⟩ rfl ?_ (hp := by simp only [AllP, gx, addN, Int.toNat_natCast, true_and, and_true, Option.getD]; omega)
    clear k4 k5 k6 k7 l1 l2 l3
    obtain ⟨r', hr'⟩ : ∃ r', R + xt = r' := ⟨_, rfl⟩
    rw [hr']
    rw [← hR] at hr'
    have hr2 : r' < 65536 * y := by
      have : r * 65536 + 65536 ≤ y * 65536 := by rw [← Nat.succ_mul]; exact Nat.mul_le_mul_right _ hr
      omega
    have hr3 : r' < 65536 ^ (n + 1 + 2) := by
      rw [show 65536 ^ (n + 1 + 2) = 65536 ^ (n + 2) * 65536 from Nat.pow_succ 65536 (n + 2)]
      exact Nat.lt_of_lt_of_le hr2 (by rw [Nat.mul_comm]; exact Nat.mul_le_mul_right _ (Nat.le_of_lt hy2))
    have lr' : (dig r').length ≤ n + 1 + 2 := dig_len_le.2 hr3
    have en : ((dig y).length : Int) - 1 = ((n + 1 : Nat) : Int) := by omega
    have k8 := l5At_ok (dig r') (dig y).length (by omega)
    have k9 := l5At_ok (dig r') (n + 1) (by omega)
    rw [← en] at k9
    obtain ⟨w, hw⟩ : ∃ w, y / 65536 ^ (n + 1) = w := ⟨_, rfl⟩
    have hw1 : 0 < w := by rw [← hw]; exact Nat.div_pos hy1 hp
    have hw2 : w < 65536 := by rw [← hw]; exact Nat.div_lt_of_lt_mul (by omega)
    have ew : (dig y).getD (((dig y).length : Int) - 1).toNat 0 = (w : Int) := by
      rw [en, Int.toNat_natCast, dig_get, hw, Nat.mod_eq_of_lt hw2]
    have gT := dig_two hr3
    rw [show n + 1 + 1 = (dig y).length by omega] at gT
    obtain ⟨T, hT⟩ : ∃ T, r' / 65536 ^ (n + 1) = T := ⟨_, rfl⟩
    have hT2 : T < 65536 * 65536 := by
      rw [← hT]
      refine Nat.div_lt_of_lt_mul ?_
      rw [show 65536 ^ (n + 1) * (65536 * 65536) = 65536 ^ (n + 1 + 2) from (Nat.pow_add 65536 (n + 1) 2).symm]; exact hr3
    rw [hT] at gT
    obtain ⟨Q, hQ⟩ : ∃ Q, r' / y = Q := ⟨_, rfl⟩
    have hQ1 : Q < 65536 := by rw [← hQ]; exact Nat.div_lt_of_lt_mul (by omega)
    have hQ2 : Q * y ≤ r' := by rw [← hQ]; exact Nat.div_mul_le_self _ _
    have hQ3 : r' < (Q + 1) * y := by rw [← hQ]; exact (Nat.div_lt_iff_lt_mul hy0).1 (Nat.lt_succ_self _)
    have hG := guess_ge hy1 hQ2
    rw [hT, hw] at hG
    have gd1 := (dig_dgs r').get (dig y).length
    have gd2 := (dig_dgs r').get (n + 1)
    refine dre W 0 14 [] [.int .i64 ((dig r').getD (dig y).length 0), .int .i64 ((dig r').getD (n + 1) 0)] rfl rfl rfl ⟨k8.at rfl _, k9.at rfl _, trivial⟩ rfl ?_ (hp := by simp only [AllP, ew, addN, Int.toNat_natCast, true_and, and_true, Option.getD]; omega)
    rw [gT, ew]
    have hTw : T / w ≤ T := Nat.div_le_self _ _
    have hp65 : T / w < 65536 ∨ 65536 ≤ T / w := by omega
    have pl : ∀ s, s < 65536 → (dig (y * s)).length ≤ n + 3 := fun s hs => by
      rw [dig_len_le, show 65536 ^ (n + 3) = 65536 ^ (n + 2) * 65536 from Nat.pow_succ 65536 (n + 2)]
      exact Nat.mul_lt_mul'' hy2 hs
    refine' cutK (fun K => ?main) ?rest
    case main =>
      refine sp W 0 rfl rfl rfl (fun h4 => ?_) (fun h4 => ?_)
      · refine ce W 0 rfl rfl (l5Times_ok y 65535 (by omega) (by omega)) rfl ?_
        refine lp W 0 (σ := Nat) (fun s => [(8, .int .i64 u), (9, .fi .i64 (dig x)), (10, .fi .i64 (dig y)), (11, .int .i64 (dig y).length), (12, .sl 0 0 0 M), (13, .fi .i64 (dig r')), (14, .int .i64 t), (15, .int .i64 s), (16, .fi .i64 (dig (y * s)))]) (fun s => [.ints 0 .i64 q]) (fun s => s)
          (fun s => Q ≤ s ∧ s < 65536) 65535 [8, 9, 10, 11, 12, 13, 14, 15, 16] rfl rfl rfl ⟨by omega, by omega⟩ K.get
      · have eG : (T : Int) / w = ((T / w : Nat) : Int) := by simp
        have hlt : T / w < 65536 := by omega
        have k10 := l5Times_ok y (T / w) hlt (by omega)
        rw [← eG] at k10
        refine ce W 0 rfl rfl (k10) rfl ?_
        refine lp W 0 (σ := Nat) (fun s => [(8, .int .i64 u), (9, .fi .i64 (dig x)), (10, .fi .i64 (dig y)), (11, .int .i64 (dig y).length), (12, .sl 0 0 0 M), (13, .fi .i64 (dig r')), (14, .int .i64 t), (15, .int .i64 s), (16, .fi .i64 (dig (y * s)))]) (fun s => [.ints 0 .i64 q]) (fun s => s)
          (fun s => Q ≤ s ∧ s < 65536) (T / w) [8, 9, 10, 11, 12, 13, 14, 15, 16] rfl (by rw [← eG]; rfl) rfl ⟨hG, hlt⟩ K.get
    case rest =>
      rintro s ⟨hs1, hs2⟩ ih2
      have l4 := pl s hs2
      refine ce W 0 rfl rfl (l5Cmp_ok (y * s) r' (by omega) (by omega)) rfl ?_
      refine sp W 0 rfl rfl rfl (fun h4 => ?_) (fun h4 => ?_)
      · have h5 : r' < y * s := by unfold sgn at h4; omega
        have h6 : Q < s := by
          rcases Nat.lt_or_ge Q s with h | h
          · exact h
          · obtain rfl : s = Q := by omega
            rw [Nat.mul_comm] at h5; omega
        obtain ⟨s, rfl⟩ : ∃ m, s = m + 1 := ⟨s - 1, by omega⟩
        have k11 := l5Sub_ok (y * (s + 1)) y (by rw [Nat.mul_succ]; omega) (by omega)
        rw [Nat.mul_succ, Nat.add_sub_cancel, ← Nat.mul_succ] at k11
        refine ce W 0 rfl rfl (k11) rfl ?_
        have es : (((s + 1 : Nat) : Int) - 1) = (s : Int) := by omega
        have nx := ih2 s ⟨by omega, by omega⟩ (by omega)
        rw [← es] at nx
        refine bk W 0 [8, 9, 10, 11, 12, 13, 14, 15, 16] rfl rfl (nx)
      · have h5 : y * s ≤ r' := by unfold sgn at h4; omega
        obtain rfl : s = Q := by
          have h6 : s * y < (Q + 1) * y := by rw [Nat.mul_comm s]; omega
          have := Nat.lt_of_mul_lt_mul_right h6
          omega
        have k12 := l5Sub_ok r' (y * s) h5 (by omega)
        refine ce W 0 rfl rfl k12 rfl ?_ (hc := by simp only [AllC, hq, addN, Int.toNat_natCast, true_and, and_true]; omega)
        have eB : x / 65536 ^ t = y * (65536 * Q0 + s) + (r' - y * s) := by
          rw [hB, ← hA, Nat.mul_add, Nat.mul_add, Nat.mul_left_comm 65536 y Q0]
          omega
        have hlt2 : r' - y * s < y := by rw [Nat.succ_mul, Nat.mul_comm s] at hQ3; omega
        have eB1 : x / 65536 ^ t / y = 65536 * Q0 + s := by
          rw [eB, Nat.mul_add_div hy0, Nat.div_eq_of_lt hlt2, Nat.add_zero]
        have eB2 : x / 65536 ^ t % y = r' - y * s := by
          rw [eB, Nat.mul_add_mod, Nat.mod_eq_of_lt hlt2]
        have nx := ih (t, q.set t s) ⟨by dsimp only; omega, by simpa using hq, ?_, fun j => ?_⟩ (by dsimp only; omega)
        · dsimp only at nx
          rw [eB2] at nx
          refine bk W 0 [8, 9, 10, 11, 12, 13, 14] rfl rfl nx (hc := by simp only [AllC, hq, addN, Int.toNat_natCast, true_and, and_true, List.length_set]; omega)
        · dsimp only
          have hqt := (hd t).2.2 (by omega)
          rw [val_set _ _ _ (by omega), hqt, hvq, eB1, Nat.pow_succ, Nat.mul_add, Int.sub_zero, Nat.mul_assoc]
          simp
        · dsimp only
          rw [getD_set _ _ _ _ (by omega)]
          have := hd j
          split <;> omega
  · obtain rfl : t = 0 := by omega
    have dl : Dgs q := dgs_of_getD fun j hj => by have := hd j; omega
    simp only [Nat.pow_zero, Nat.div_one, Nat.one_mul] at hvq ⊢
    have hm := Nat.mod_lt a (show 0 < b by omega)
    have k8 := l5DivSmall_ok (x % y) u hu1 hu3 (by have := dig_len_mono (Nat.mod_le x y); omega)
    rw [hmod, Nat.mul_div_cancel _ hu1] at k8
    rw [hmod]
    refine ce W 0 rfl rfl (k8) rfl ?_
    refine cf W 0 [0] [17] rfl rfl rfl rfl rfl rfl (l5Trim_ok q (by omega)) rfl ?_
    rw [trimL_dig dl, hvq, Int.toNat_natCast, hdiv]
    refine rp W 0 rfl rfl rfl (.refl)
end Pf
/- A temporary's value said otherwise. -/
namespace Pf
open Go
variable {P : Program} {TT : TypeId → Option TI} {f N n0 : Nat} {k : List Item} {T : Env} {H : AHeap} {R : AV → AHeap → Prop}
/-- The temporary 'd' is said to hold u, which is so wherever it holds v. -/
theorem go_sub (d : Nat) (u : AV) {v : AV} {T1 : Env} (e : getM T d = some v) (hs : Sub v u) (e1 : putM d u T = some T1) (h : AGo P f N n0 k T1 H R) : AGo P f N n0 k T H R :=
  fun FM β b cs a w a1 a2 a3 a4 hT hH hl => h FM β b cs a w a1 a2 a3 a4 (hT.refine e1 (hs _ _ _ (hT _ _ e))) hH hl
end Pf
/- Fractions: the model's own parts -/
namespace Pf
open Go Go.Proofs
theorem l5Gcd_ok (a b : Nat) (ha : (dig a).length ≤ 800000) (hb : (dig b).length ≤ 800000) : AFunP Try.prog 102 [.fi .i64 (dig a), .fi .i64 (dig b)] (· = .fi .i64 (dig (Nat.gcd a b))) := by
  refine afun_of Try.func102 Try.call102 rfl Try.ntmps102 rfl ?_
  have W : Walk Try.prog TT 102 _ := Walk.of TT_ok Try.func102 Try.results102
  have k1 := l5Trim_ok (dig a) (by omega)
  have k2 := l5Trim_ok (dig b) (by omega)
  rw [trimL_dig (dig_dgs _), val_dig, Int.toNat_natCast] at k1 k2
  refine ce W 0 rfl rfl (k1) rfl ?_
  refine ce W 0 rfl rfl (k2) rfl ?_
  refine lp W 0 (σ := Nat × Nat) (fun s => [(5, .fi .i64 (dig s.1)), (6, .fi .i64 (dig s.2))]) (fun _ => []) (fun s => s.2)
    (fun s => Nat.gcd s.1 s.2 = Nat.gcd a b ∧ (dig s.1).length ≤ 800000 ∧ (dig s.2).length ≤ 800000) (a, b) [5, 6] rfl rfl rfl ⟨rfl, ha, hb⟩ ?_
  rintro ⟨x, y⟩ ⟨h1, h2, h3⟩ ih
  dsimp only at h1 h2 h3 ih ⊢
  refine sp W 0 rfl rfl rfl (fun h4 => ?_) (fun h4 => ?_)
  · have hy : y ≠ 0 := by rintro rfl; simp [dig_zero] at h4
    refine ce W 0 rfl rfl (l5Div_ok x y hy (by omega) (by omega)) rfl ?_
    have hm := Nat.mod_lt x (show 0 < y by omega)
    refine bk W 0 [5, 6] rfl rfl (ih (y, x % y) ⟨by dsimp only; rw [← h1, Nat.gcd_comm, ← Nat.gcd_rec, Nat.gcd_comm], h3, Nat.le_trans (dig_len_mono (Nat.le_of_lt hm)) h3⟩ hm)
  · have hy : y = 0 := dig_nil.1 (List.eq_nil_of_length_eq_zero (by omega))
    subst hy
    rw [Nat.gcd_zero_right] at h1
    refine rp W 0 rfl rfl rfl (.fi (by rw [h1]))
theorem bitL_len {a : Nat} : bitL a ≤ 16 * (dig a).length := by
  rw [bitL_lt, show (2 : Nat) ^ (16 * (dig a).length) = (2 ^ 16) ^ (dig a).length from Nat.pow_mul 2 16 _]
  exact dig_lt (Nat.le_refl _)
theorem l5Root_ok (a : Nat) (ha : (dig a).length ≤ 10000) : AFunP Try.prog 153 [.fi .i64 (dig a)] (· = .fi .i64 (dig (isq a))) := by
  refine afun_of Try.func153 Try.call153 rfl Try.ntmps153 rfl ?_
  have W : Walk Try.prog TT 153 _ := Walk.of TT_ok Try.func153 Try.results153
  refine ce W 0 rfl rfl (l5Bits_ok a (by omega)) rfl ?_
  have hbl := bitL_len (a := a)
  have hlt := (bitL_lt (bitL a) a).1 (Nat.le_refl _)
  generalize hB : bitL a = B at *
  refine atl W rfl ?_
  refine go_sub 3 (.fi .i64 (dig 0)) rfl (by rw [dig_zero]; exact .nils_fi) rfl ?_
  refine lp W 0 (σ := Nat × Nat) (fun s => [(0, .fi .i64 (dig a)), (3, .fi .i64 (dig s.2)), (4, .int .i64 ((s.1 : Int) - 1))]) (fun _ => []) (fun s => s.1)
    (fun s => s.1 ≤ (B + 1) / 2 + 1 ∧ s.2 * s.2 ≤ a ∧ a < (s.2 + 2 ^ s.1) * (s.2 + 2 ^ s.1)) ((B + 1) / 2 + 1, 0) [0, 3, 4] rfl ?_ rfl ⟨Nat.le_refl _, by simp, ?_⟩ ?_
  · have e : ((((B + 1) / 2 + 1 : Nat) : Int) - 1) = ((B : Int) + 1) / 2 := by omega
    dsimp only
    rw [e]; rfl
  · dsimp only
    rw [Nat.zero_add, ← Nat.pow_add]
    exact Nat.lt_of_lt_of_le hlt (Nat.pow_le_pow_right (by omega) (by omega))
  rintro ⟨k, r⟩ ⟨h1, h2, h3⟩ ih
  dsimp only at h1 h2 h3 ih ⊢
  refine sp W 0 rfl rfl rfl (fun h4 => ?_) (fun h4 => ?_)
  · obtain ⟨k, rfl⟩ : ∃ m, k = m + 1 := ⟨k - 1, by omega⟩
    have et : (((k + 1 : Nat) : Int) - 1) = (k : Int) := by omega
    rw [et]
    have hr1 : r ≤ a := Nat.le_trans (Nat.le_mul_self r) h2
    have hrl := dig_len_mono hr1
    have hpl : (dig (2 ^ k)).length ≤ 10000 := by
      obtain ⟨n, hn⟩ : ∃ n, n = 10000 := ⟨_, rfl⟩
      rw [← hn, dig_len_le, show (65536 : Nat) ^ n = (2 ^ 16) ^ n from rfl, ← Nat.pow_mul]
      exact Nat.pow_lt_pow_right (by omega) (by omega)
    have hsl : (dig (r + 2 ^ k)).length ≤ 10001 := dig_len_add (by omega) hpl
    have hml : (dig ((r + 2 ^ k) * (r + 2 ^ k))).length ≤ 10001 + 10001 := dig_len_mul hsl hsl
    refine ce W 0 rfl rfl (l5Pow2_ok k (by omega)) rfl ?_
    refine ce W 0 rfl rfl (l5Add_ok r (2 ^ k) (by omega) (by omega)) rfl ?_
    refine ce W 0 rfl rfl (l5Mul_ok (r + 2 ^ k) (r + 2 ^ k) (by omega) (by omega)) rfl ?_
    refine ce W 0 rfl rfl (l5Cmp_ok ((r + 2 ^ k) * (r + 2 ^ k)) a (by omega) (by omega)) rfl ?_
    have e2 : r + 2 ^ (k + 1) = r + 2 ^ k + 2 ^ k := by rw [Nat.pow_succ]; omega
    refine sp W 0 rfl rfl rfl (fun h5 => ?_) (fun h5 => ?_)
    · have h6 : (r + 2 ^ k) * (r + 2 ^ k) ≤ a := by unfold sgn at h5; omega
      refine bk W 0 [0, 3, 4] rfl rfl (ih (k, r + 2 ^ k) ⟨by dsimp only; omega, h6, by dsimp only; rw [← e2]; exact h3⟩ (by dsimp only; omega))
    · have h6 : a < (r + 2 ^ k) * (r + 2 ^ k) := by unfold sgn at h5; omega
      refine bk W 0 [0, 3, 4] rfl rfl (ih (k, r) ⟨by dsimp only; omega, h2, h6⟩ (by dsimp only; omega))
  · obtain rfl : k = 0 := by omega
    have := isq_eq h2 (by simpa using h3)
    refine rp W 0 rfl rfl rfl (.fi (by rw [this]))
theorem l6One_ok (l : List Int) (h : l.length ≤ 1000000000) : AFunP Try.prog 101 [.fi .i64 l] (· = .pr (l = [1])) := by
  refine afun_of Try.func101 Try.call101 rfl Try.ntmps101 rfl ?_
  have W : Walk Try.prog TT 101 _ := Walk.of TT_ok Try.func101 Try.results101
  refine sp W 0 rfl rfl rfl (fun h1 => ?_) (fun h1 => ?_)
  · obtain ⟨d, rfl⟩ : ∃ d, l = [d] := List.length_eq_one_iff.1 (by omega)
    refine rp W 0 rfl rfl rfl (.pr (by simp))
  · refine rp W 0 rfl rfl rfl (.no (by rintro rfl; simp at h1))
theorem specFracOk_ok (p : Prop) (t u : List Int) (ht : t.length ≤ 9223372036854775806) (hu : u.length ≤ 9223372036854775806) : AFunP Try.prog 44 [frF p t u] (· = .pr (frOk p t u)) := by
  refine afun_of Try.func44 Try.call44 rfl Try.ntmps44 rfl ?_
  have W : Walk Try.prog TT 44 _ := Walk.of TT_ok Try.func44 Try.results44
  refine ce W 0 rfl rfl (specNatOk_ok t ht) rfl ?_
  refine sp W 0 rfl rfl rfl (fun h1 => ?_) (fun h1 => ?_)
  · refine rp W 0 rfl rfl rfl (.no (fun h => h1 h.1))
  · have h1 := Classical.not_not.1 h1
    refine ce W 0 rfl rfl (specNatOk_ok u hu) rfl ?_
    refine sp W 0 rfl rfl rfl (fun h2 => ?_) (fun h2 => ?_)
    · refine rp W 0 rfl rfl rfl (.no (fun h => h2 h.2.1))
    · have h2 := Classical.not_not.1 h2
      have l1 := h1.1
      have l2 := h2.1
      obtain ⟨a, rfl, ha⟩ := natOk_dig h1
      obtain ⟨b, rfl, hb⟩ := natOk_dig h2
      have va : (val (dig a)).toNat = a := by rw [val_dig]; simp
      have vb : (val (dig b)).toNat = b := by rw [val_dig]; simp
      unfold frOk
      rw [va, vb]
      have hb0 : ¬ ((dig b).length : Int) = 0 → 0 < b := fun h => by
        rcases Nat.eq_zero_or_pos b with h0 | h0
        · subst h0; simp [dig_zero] at h
        · exact h0
      have g1 : dig (Nat.gcd a b) = [1] → Nat.gcd a b = 1 := fun h => dig_inj (h.trans dig_one.symm)
      refine sp W 0 rfl rfl rfl (fun h3 => ?_) (fun h3 => ?_)
      · refine rp W 0 rfl rfl rfl (.no (fun h => h.2.2.1 (List.eq_nil_of_length_eq_zero (by omega))))
      · refine sp W 0 rfl rfl rfl (fun h4 => ?_) (fun h4 => ?_)
        · refine sp W 0 rfl rfl rfl (fun h5 => ?_) (fun h5 => ?_)
          · refine rp W 0 rfl rfl rfl (.no (fun h => h.2.2.2.1 (List.eq_nil_of_length_eq_zero (by omega)) h5))
          · refine ce W 0 rfl rfl (l5Gcd_ok a b (by omega) (by omega)) rfl ?_
            refine ce W 0 rfl rfl (l6One_ok (dig (Nat.gcd a b)) (Nat.le_trans (dig_len_mono (Nat.gcd_le_right a (hb0 h3))) (by omega))) rfl ?_
            refine rp W 0 rfl rfl rfl (.pr ⟨fun h => ⟨h1, h2, fun h => h3 (by rw [h]; rfl), fun _ => h5, g1 h⟩, fun h => by rw [h.2.2.2.2, dig_one]⟩)
        · refine ce W 0 rfl rfl (l5Gcd_ok a b (by omega) (by omega)) rfl ?_
          refine ce W 0 rfl rfl (l6One_ok (dig (Nat.gcd a b)) (Nat.le_trans (dig_len_mono (Nat.gcd_le_right a (hb0 h3))) (by omega))) rfl ?_
          refine rp W 0 rfl rfl rfl (.pr ⟨fun h => ⟨h1, h2, fun h => h3 (by rw [h]; rfl), fun h => absurd (by rw [h]; rfl) h4, g1 h⟩, fun h => by rw [h.2.2.2.2, dig_one]⟩)
open Classical in
/-- A fraction of a and b, in lowest terms, if it has not too many digits. -/
noncomputable def made (p : Prop) (a b : Nat) : AV := if (dig (a / Nat.gcd a b)).length ≤ 256 ∧ (dig (b / Nat.gcd a b)).length ≤ 256 then .tup [frF (p ∧ a ≠ 0) (dig (a / Nat.gcd a b)) (dig (b / Nat.gcd a b)), .pr True] else .tup [frF False [] [], .pr False]
theorem l6Make_ok (p : Prop) (a b : Nat) (hb : b ≠ 0) (ha : (dig a).length ≤ 100000) (hbl : (dig b).length ≤ 100000) : AFunP Try.prog 89 [.pr p, .fi .i64 (dig a), .fi .i64 (dig b)] (· = made p a b) := by
  refine afun_of Try.func89 Try.call89 rfl Try.ntmps89 rfl ?_
  have W : Walk Try.prog TT 89 _ := Walk.of TT_ok Try.func89 Try.results89
  have hb1 : 0 < b := by omega
  refine sp W 0 rfl rfl rfl (fun h1 => ?_) (fun h1 => ?_)
  · have h0 : a = 0 := dig_nil.1 (List.eq_nil_of_length_eq_zero (by omega))
    subst h0
    have e : made p 0 b = .tup [frF (p ∧ 0 ≠ 0) (dig 0) (dig 1), .pr True] := by
      unfold made
      rw [Nat.gcd_zero_left, Nat.zero_div, Nat.div_self hb1, if_pos ⟨by simp [dig_zero], by simp [dig_one]⟩]
    rw [e, dig_zero, dig_one]
    refine rp W 0 rfl rfl rfl (.tup ⟨.agg ⟨.no (by simp), .nils_fi, .refl, trivial⟩, .yes trivial, trivial⟩)
  · have h0 : a ≠ 0 := fun h => h1 (by rw [h, dig_zero]; rfl)
    have hg := dig_len_mono (Nat.gcd_le_right a hb1)
    have hg0 : Nat.gcd a b ≠ 0 := by have := Nat.gcd_pos_of_pos_right a hb1; omega
    have hla := dig_len_mono (Nat.div_le_self a (Nat.gcd a b))
    have hlb := dig_len_mono (Nat.div_le_self b (Nat.gcd a b))
    refine ce W 0 rfl rfl (l5Gcd_ok a b (by omega) (by omega)) rfl ?_
    refine ce W 0 rfl rfl (l5Div_ok a (Nat.gcd a b) hg0 (by omega) (by omega)) rfl ?_
    refine ce W 0 rfl rfl (l5Div_ok b (Nat.gcd a b) hg0 (by omega) (by omega)) rfl ?_
    have no : ¬ ((dig (a / Nat.gcd a b)).length ≤ 256 ∧ (dig (b / Nat.gcd a b)).length ≤ 256) → made p a b = .tup [frF False [] [], .pr False] := fun h => if_neg h
    refine sp W 0 rfl rfl rfl (fun h2 => ?_) (fun h2 => ?_)
    · rw [no (by omega)]
      refine rp W 0 rfl rfl rfl (.tup ⟨.agg ⟨.no id, .nils_fi, .nils_fi, trivial⟩, .no id, trivial⟩)
    · refine sp W 0 rfl rfl rfl (fun h3 => ?_) (fun h3 => ?_)
      · rw [no (by omega)]
        refine rp W 0 rfl rfl rfl (.tup ⟨.agg ⟨.no id, .nils_fi, .nils_fi, trivial⟩, .no id, trivial⟩)
      · have e : made p a b = _ := if_pos ⟨by omega, by omega⟩
        rw [e]
        refine rp W 0 rfl rfl rfl (.tup ⟨.agg ⟨.pr (by simp [h0]), .refl, .refl, trivial⟩, .yes trivial, trivial⟩)
theorem l6Neg_ok (p : Prop) (t u : List Int) (ht : natOk t) (hu : natOk u) : AFunP Try.prog 82 [frF p t u] (· = frF (¬ p ∧ t ≠ []) t u) := by
  refine afun_of Try.func82 Try.call82 rfl Try.ntmps82 rfl ?_
  have W : Walk Try.prog TT 82 _ := Walk.of TT_ok Try.func82 Try.results82
  have l1 := ht.1
  have l2 := hu.1
  have k1 := l5Trim_ok t (by omega)
  have k2 := l5Trim_ok u (by omega)
  obtain ⟨a, rfl, ha⟩ := natOk_dig ht
  obtain ⟨b, rfl, hb⟩ := natOk_dig hu
  rw [trimL_dig (dig_dgs _), val_dig, Int.toNat_natCast] at k1 k2
  by_cases hp : p
  · refine dre W 0 15 [(6, false)] [.fi .i64 (dig a), .fi .i64 (dig b)] rfl rfl rfl ⟨k1.at rfl _, k2.at rfl _, trivial⟩ rfl ?_
    refine rp W 0 rfl rfl rfl (.agg ⟨.no (fun h => h.1 hp), .refl, .refl, trivial⟩)
  · refine dre W 0 15 [(6, true)] [.fi .i64 (dig a), .fi .i64 (dig b)] rfl rfl rfl ⟨k1.at rfl _, k2.at rfl _, trivial⟩ rfl ?_
    refine rp W 0 rfl rfl rfl (.agg ⟨.pr (by rw [len_nil]; exact ⟨fun h => ⟨hp, h⟩, fun h => h.2⟩), .refl, .refl, trivial⟩)
theorem l6Sum_ok (p q : Prop) (a b c d : Nat) (ha : (dig a).length ≤ 1000) (hbl : (dig b).length ≤ 1000) (hc : (dig c).length ≤ 1000) (hdl : (dig d).length ≤ 1000) :
    AFunP Try.prog 94 [frF p (dig a) (dig b), frF q (dig c) (dig d)] (· = .tup [.pr (sumP p q (a * d) (c * b)), .fi .i64 (dig (sumT p q (a * d) (c * b))), .fi .i64 (dig (b * d))]) := by
  refine afun_of Try.func94 Try.call94 rfl Try.ntmps94 rfl ?_
  have W : Walk Try.prog TT 94 _ := Walk.of TT_ok Try.func94 Try.results94
  have l1 : (dig (a * d)).length ≤ 1000 + 1000 := dig_len_mul ha hdl
  have l2 : (dig (c * b)).length ≤ 1000 + 1000 := dig_len_mul hc hbl
  have l3 : (dig (b * d)).length ≤ 1000 + 1000 := dig_len_mul hbl hdl
  refine ce W 0 rfl rfl (l5Mul_ok a d (by omega) (by omega)) rfl ?_
  refine ce W 0 rfl rfl (l5Mul_ok c b (by omega) (by omega)) rfl ?_
  refine ce W 0 rfl rfl (l5Mul_ok b d (by omega) (by omega)) rfl ?_
  have l4 := dig_len_add l1 l2
  refine sp W 0 rfl rfl rfl (fun h1 => ?_) (fun h1 => ?_)
  · have e : sumT p q (a * d) (c * b) = a * d + c * b := by simp [sumT, h1]
    have e2 : p ↔ sumP p q (a * d) (c * b) := by unfold sumP; split <;> simp [h1]
    refine phg W 0 8 [] rfl rfl (fun PW => ?_)
    refine phe PW 0 [] [.fi .i64 (dig (a * d + c * b))] rfl ⟨(l5Add_ok (a * d) (c * b) (by omega) (by omega)).at rfl _, trivial⟩ rfl ?_
    refine rp W 0 rfl rfl rfl (.tup ⟨.pr e2, .fi (by rw [e]), .refl, trivial⟩)
  · refine ce W 0 rfl rfl (l5Cmp_ok (a * d) (c * b) (by omega) (by omega)) rfl ?_
    refine sp W 0 rfl rfl rfl (fun h2 => ?_) (fun h2 => ?_)
    · have h3 : c * b ≤ a * d := by unfold sgn at h2; omega
      have e : sumT p q (a * d) (c * b) = a * d - c * b := by simp [sumT, h1, h3]
      have e2 : p ↔ sumP p q (a * d) (c * b) := by simp [sumP, h3]
      refine phg W 0 8 [] rfl rfl (fun PW => ?_)
      refine phe PW 0 [] [.fi .i64 (dig (a * d - c * b))] rfl ⟨(l5Sub_ok (a * d) (c * b) h3 (by omega)).at rfl _, trivial⟩ rfl ?_
      refine rp W 0 rfl rfl rfl (.tup ⟨.pr e2, .fi (by rw [e]), .refl, trivial⟩)
    · have h3 : ¬ c * b ≤ a * d := by unfold sgn at h2; omega
      have e : sumT p q (a * d) (c * b) = c * b - a * d := by simp [sumT, h1, h3]
      have e2 : q ↔ sumP p q (a * d) (c * b) := by simp [sumP, h3]
      refine phg W 0 8 [] rfl rfl (fun PW => ?_)
      refine phe PW 0 [] [.fi .i64 (dig (c * b - a * d))] rfl ⟨(l5Sub_ok (c * b) (a * d) (by omega) (by omega)).at rfl _, trivial⟩ rfl ?_
      refine rp W 0 rfl rfl rfl (.tup ⟨.pr e2, .fi (by rw [e]), .refl, trivial⟩)
end Pf
/- Fractions: the model's sums and products -/
namespace Pf
open Go Go.Proofs
open Classical in
/-- A fraction and true; nothing and false. -/
noncomputable def resF (ok p : Prop) (t u : List Int) : AV := if ok then .tup [frF p t u, .pr True] else .tup [frF False [] [], .pr False]
theorem resF_no {ok p : Prop} {t u : List Int} (h : ¬ ok) : resF ok p t u = .tup [frF False [] [], .pr False] := if_neg h
theorem resF_yes {ok p : Prop} {t u : List Int} (h : ok) : resF ok p t u = .tup [frF p t u, .pr True] := if_pos h
theorem sub_noF : Sub (.tup [.agg [.bool false, .nils, .nils], .bool false]) (.tup [frF False [] [], .pr False]) := .tup ⟨.agg ⟨.no id, .nils_fi, .nils_fi, trivial⟩, .no id, trivial⟩
/-- The number of digits. -/
def nm (l : List Int) : Nat := (val l).toNat
theorem nm_dig (a : Nat) : nm (dig a) = a := by unfold nm; rw [val_dig]; simp
/-- In lowest terms. -/
def lT (a b : Nat) : List Int := dig (a / Nat.gcd a b)
def lB (a b : Nat) : List Int := dig (b / Nat.gcd a b)
def fits (a b : Nat) : Prop := (lT a b).length ≤ 256 ∧ (lB a b).length ≤ 256
theorem made_eq (p : Prop) (a b : Nat) : made p a b = resF (fits a b) (p ∧ a ≠ 0) (lT a b) (lB a b) := by
  unfold made
  by_cases h : fits a b
  · rw [resF_yes h]; exact if_pos h
  · rw [resF_no h]; exact if_neg h
theorem frOk_dig {p : Prop} {t u : List Int} (h : frOk p t u) : ∃ a b : Nat, t = dig a ∧ u = dig b ∧ (dig a).length ≤ 256 ∧ (dig b).length ≤ 256 ∧ b ≠ 0 ∧ (a = 0 → ¬ p) ∧ Nat.gcd a b = 1 := by
  obtain ⟨a, rfl, ha⟩ := natOk_dig h.1
  obtain ⟨b, rfl, hb⟩ := natOk_dig h.2.1
  refine ⟨a, b, rfl, rfl, ha, hb, fun h0 => h.2.2.1 (by rw [h0, dig_zero]), fun h0 => h.2.2.2.1 (by rw [h0, dig_zero]), ?_⟩
  have := h.2.2.2.2
  rw [val_dig, val_dig] at this
  simpa using this
noncomputable def negR (p : Prop) (t u : List Int) : AV := resF (frOk p t u) (¬ p ∧ t ≠ []) t u
theorem specFracNeg_ok (p : Prop) (t u : List Int) (ht : t.length ≤ 1048576) (hu : u.length ≤ 1048576) : AFunP Try.prog 28 [frF p t u] (· = negR p t u) := by
  refine afun_of Try.func28 Try.call28 rfl Try.ntmps28 rfl ?_
  have W : Walk Try.prog TT 28 _ := Walk.of TT_ok Try.func28 Try.results28
  refine ce W 0 rfl rfl (specFracOk_ok p t u (by omega) (by omega)) rfl ?_
  refine sp W 0 rfl rfl rfl (fun h1 => ?_) (fun h1 => ?_)
  · unfold negR; rw [resF_no h1]
    refine rp W 0 rfl rfl rfl (sub_noF)
  · have h1 := Classical.not_not.1 h1
    refine ce W 0 rfl rfl (l6Neg_ok p t u h1.1 h1.2.1) rfl ?_
    unfold negR; rw [resF_yes h1]
    refine rp W 0 rfl rfl rfl (.tup ⟨.refl, .yes trivial, trivial⟩)
noncomputable def mulR (p : Prop) (t u : List Int) (q : Prop) (x y : List Int) : AV :=
  resF ((frOk p t u ∧ frOk q x y) ∧ fits (nm t * nm x) (nm u * nm y)) (¬ (p ↔ q) ∧ nm t * nm x ≠ 0) (lT (nm t * nm x) (nm u * nm y)) (lB (nm t * nm x) (nm u * nm y))
noncomputable def divR (p : Prop) (t u : List Int) (q : Prop) (x y : List Int) : AV :=
  resF ((frOk p t u ∧ frOk q x y ∧ x ≠ []) ∧ fits (nm t * nm y) (nm u * nm x)) (¬ (p ↔ q) ∧ nm t * nm y ≠ 0) (lT (nm t * nm y) (nm u * nm x)) (lB (nm t * nm y) (nm u * nm x))
noncomputable def sT (p : Prop) (t u : List Int) (q : Prop) (x y : List Int) : Nat := sumT p q (nm t * nm y) (nm x * nm u)
noncomputable def sP (p : Prop) (t u : List Int) (q : Prop) (x y : List Int) : Prop := sumP p q (nm t * nm y) (nm x * nm u)
noncomputable def addR (p : Prop) (t u : List Int) (q : Prop) (x y : List Int) : AV :=
  resF ((frOk p t u ∧ frOk q x y) ∧ fits (sT p t u q x y) (nm u * nm y)) (sP p t u q x y ∧ sT p t u q x y ≠ 0) (lT (sT p t u q x y) (nm u * nm y)) (lB (sT p t u q x y) (nm u * nm y))
theorem sT_len {p q : Prop} {a b c d : Nat} (ha : (dig a).length ≤ 1000) (hbl : (dig b).length ≤ 1000) (hc : (dig c).length ≤ 1000) (hdl : (dig d).length ≤ 1000) : (dig (sumT p q (a * d) (c * b))).length ≤ 2001 := by
  have l1 : (dig (a * d)).length ≤ 1000 + 1000 := dig_len_mul ha hdl
  have l2 : (dig (c * b)).length ≤ 1000 + 1000 := dig_len_mul hc hbl
  have l4 := dig_len_add l1 l2
  have : sumT p q (a * d) (c * b) ≤ a * d + c * b := by unfold sumT; split <;> (try split) <;> omega
  exact Nat.le_trans (dig_len_mono this) l4
theorem specFracMul_ok (p q : Prop) (t u x y : List Int) (ht : t.length ≤ 1048576) (hu : u.length ≤ 1048576) (hx : x.length ≤ 1048576) (hy : y.length ≤ 1048576) : AFunP Try.prog 34 [frF p t u, frF q x y] (· = mulR p t u q x y) := by
  refine afun_of Try.func34 Try.call34 rfl Try.ntmps34 rfl ?_
  have W : Walk Try.prog TT 34 _ := Walk.of TT_ok Try.func34 Try.results34
  refine ce W 0 rfl rfl (specFracOk_ok p t u (by omega) (by omega)) rfl ?_
  refine sp W 0 rfl rfl rfl (fun h1 => ?_) (fun h1 => ?_)
  · unfold mulR; rw [resF_no (fun h => h1 h.1.1)]
    refine rp W 0 rfl rfl rfl (sub_noF)
  · refine ce W 0 rfl rfl (specFracOk_ok q x y (by omega) (by omega)) rfl ?_
    have h1 := Classical.not_not.1 h1
    refine sp W 0 rfl rfl rfl (fun h2 => ?_) (fun h2 => ?_)
    · unfold mulR; rw [resF_no (fun h => h2 h.1.2)]
      refine rp W 0 rfl rfl rfl (sub_noF)
    · have h2 := Classical.not_not.1 h2
      have e : mulR p t u q x y = made (¬ (p ↔ q)) (nm t * nm x) (nm u * nm y) := by
        unfold mulR; rw [made_eq]; congr 1
        exact propext ⟨fun h => h.2, fun h => ⟨⟨h1, h2⟩, h⟩⟩
      obtain ⟨a, b, rfl, rfl, ha, hb, hb0, hap, hab⟩ := frOk_dig h1
      obtain ⟨c, d, rfl, rfl, hc, hd, hd0, hcq, hcd⟩ := frOk_dig h2
      rw [e, nm_dig, nm_dig, nm_dig, nm_dig]
      have l1 : (dig (a * c)).length ≤ 1000 + 1000 := dig_len_mul (by omega) (by omega)
      have l2 : (dig (b * d)).length ≤ 1000 + 1000 := dig_len_mul (by omega) (by omega)
      have k := l6Make_ok (¬ (p ↔ q)) (a * c) (b * d) (Nat.mul_ne_zero hb0 hd0) (by omega) (by omega)
      rw [made_eq] at k ⊢
      generalize lT (a * c) (b * d) = T at *
      generalize lB (a * c) (b * d) = U at *
      by_cases hf : fits (a * c) (b * d)
      · rw [resF_yes hf] at k ⊢
        refine dre W 0 18 [] [.fi .i64 (dig (a * c)), .fi .i64 (dig (b * d)), .tup [frF (¬ (p ↔ q) ∧ a * c ≠ 0) T U, .pr True]] rfl rfl rfl ⟨(l5Mul_ok a c (by omega) (by omega)).at rfl _, (l5Mul_ok b d (by omega) (by omega)).at rfl _, k.at rfl _, trivial⟩ rfl ?_
        refine rp W 0 rfl rfl rfl (.refl)
      · rw [resF_no hf] at k ⊢
        refine dre W 0 18 [] [.fi .i64 (dig (a * c)), .fi .i64 (dig (b * d)), .tup [frF False [] [], .pr False]] rfl rfl rfl ⟨(l5Mul_ok a c (by omega) (by omega)).at rfl _, (l5Mul_ok b d (by omega) (by omega)).at rfl _, k.at rfl _, trivial⟩ rfl ?_
        refine rp W 0 rfl rfl rfl (.refl)
theorem specFracAdd_ok (p q : Prop) (t u x y : List Int) (ht : t.length ≤ 1048576) (hu : u.length ≤ 1048576) (hx : x.length ≤ 1048576) (hy : y.length ≤ 1048576) : AFunP Try.prog 36 [frF p t u, frF q x y] (· = addR p t u q x y) := by
  refine afun_of Try.func36 Try.call36 rfl Try.ntmps36 rfl ?_
  have W : Walk Try.prog TT 36 _ := Walk.of TT_ok Try.func36 Try.results36
  refine ce W 0 rfl rfl (specFracOk_ok p t u (by omega) (by omega)) rfl ?_
  refine sp W 0 rfl rfl rfl (fun h1 => ?_) (fun h1 => ?_)
  · unfold addR; rw [resF_no (fun h => h1 h.1.1)]
    refine rp W 0 rfl rfl rfl (sub_noF)
  · refine ce W 0 rfl rfl (specFracOk_ok q x y (by omega) (by omega)) rfl ?_
    have h1 := Classical.not_not.1 h1
    refine sp W 0 rfl rfl rfl (fun h2 => ?_) (fun h2 => ?_)
    · unfold addR; rw [resF_no (fun h => h2 h.1.2)]
      refine rp W 0 rfl rfl rfl (sub_noF)
    · have h2 := Classical.not_not.1 h2
      have e : addR p t u q x y = made (sP p t u q x y) (sT p t u q x y) (nm u * nm y) := by
        unfold addR; rw [made_eq]; congr 1
        exact propext ⟨fun h => h.2, fun h => ⟨⟨h1, h2⟩, h⟩⟩
      obtain ⟨a, b, rfl, rfl, ha, hb, hb0, hap, hab⟩ := frOk_dig h1
      obtain ⟨c, d, rfl, rfl, hc, hd, hd0, hcq, hcd⟩ := frOk_dig h2
      rw [e]
      unfold sT sP
      rw [nm_dig, nm_dig, nm_dig, nm_dig]
      have l1 := sT_len (p := p) (q := q) (a := a) (b := b) (c := c) (d := d) (by omega) (by omega) (by omega) (by omega)
      have l2 : (dig (b * d)).length ≤ 1000 + 1000 := dig_len_mul (by omega) (by omega)
      have k := l6Make_ok (sumP p q (a * d) (c * b)) (sumT p q (a * d) (c * b)) (b * d) (Nat.mul_ne_zero hb0 hd0) (by omega) (by omega)
      refine ce W 0 rfl rfl (l6Sum_ok p q a b c d (by omega) (by omega) (by omega) (by omega)) rfl ?_
      rw [made_eq] at k ⊢
      by_cases hf : fits (sumT p q (a * d) (c * b)) (b * d)
      · rw [resF_yes hf] at k ⊢
        refine ce W 0 rfl rfl (k) rfl ?_
        refine rp W 0 rfl rfl rfl (.refl)
      · rw [resF_no hf] at k ⊢
        refine ce W 0 rfl rfl (k) rfl ?_
        refine rp W 0 rfl rfl rfl (.refl)
theorem frOk_neg {q : Prop} {x y : List Int} (h : frOk q x y) : frOk (¬ q ∧ x ≠ []) x y := ⟨h.1, h.2.1, h.2.2.1, fun h0 h1 => h1.2 h0, h.2.2.2.2⟩
noncomputable def subR (p : Prop) (t u : List Int) (q : Prop) (x y : List Int) : AV :=
  resF ((frOk p t u ∧ frOk q x y) ∧ fits (sT p t u (¬ q ∧ x ≠ []) x y) (nm u * nm y)) (sP p t u (¬ q ∧ x ≠ []) x y ∧ sT p t u (¬ q ∧ x ≠ []) x y ≠ 0) (lT (sT p t u (¬ q ∧ x ≠ []) x y) (nm u * nm y)) (lB (sT p t u (¬ q ∧ x ≠ []) x y) (nm u * nm y))
theorem subR_eq {p q : Prop} {t u x y : List Int} (h : frOk q x y) : subR p t u q x y = addR p t u (¬ q ∧ x ≠ []) x y := by
  unfold subR addR; congr 1
  exact propext ⟨fun k => ⟨⟨k.1.1, frOk_neg h⟩, k.2⟩, fun k => ⟨⟨k.1.1, h⟩, k.2⟩⟩
theorem specFracSub_ok (p q : Prop) (t u x y : List Int) (ht : t.length ≤ 1048576) (hu : u.length ≤ 1048576) (hx : x.length ≤ 1048576) (hy : y.length ≤ 1048576) : AFunP Try.prog 38 [frF p t u, frF q x y] (· = subR p t u q x y) := by
  refine afun_of Try.func38 Try.call38 rfl Try.ntmps38 rfl ?_
  have W : Walk Try.prog TT 38 _ := Walk.of TT_ok Try.func38 Try.results38
  refine ce W 0 rfl rfl (specFracOk_ok p t u (by omega) (by omega)) rfl ?_
  refine sp W 0 rfl rfl rfl (fun h1 => ?_) (fun h1 => ?_)
  · unfold subR; rw [resF_no (fun h => h1 h.1.1)]
    refine rp W 0 rfl rfl rfl (sub_noF)
  · refine ce W 0 rfl rfl (specFracOk_ok q x y (by omega) (by omega)) rfl ?_
    have h1 := Classical.not_not.1 h1
    refine sp W 0 rfl rfl rfl (fun h2 => ?_) (fun h2 => ?_)
    · unfold subR; rw [resF_no (fun h => h2 h.1.2)]
      refine rp W 0 rfl rfl rfl (sub_noF)
    · have h2 := Classical.not_not.1 h2
      rw [subR_eq h2]
      have k0 := l6Neg_ok q x y h2.1 h2.2.1
      have k := specFracAdd_ok p (¬ q ∧ x ≠ []) t u x y ht hu hx hy
      unfold addR at k ⊢
      revert k
      generalize ((frOk p t u ∧ frOk (¬ q ∧ x ≠ []) x y) ∧ fits _ _) = ok
      generalize lT _ _ = T
      generalize lB _ _ = U
      generalize (sP p t u _ x y ∧ _) = p'
      intro k
      by_cases hf : ok
      · rw [resF_yes hf] at k ⊢
        refine dre W 0 6 [] [frF (¬ q ∧ x ≠ []) x y, .tup [frF p' T U, .pr True]] rfl rfl rfl ⟨k0.at rfl _, k.at rfl _, trivial⟩ rfl ?_
        refine rp W 0 rfl rfl rfl (.refl)
      · rw [resF_no hf] at k ⊢
        refine dre W 0 6 [] [frF (¬ q ∧ x ≠ []) x y, .tup [frF False [] [], .pr False]] rfl rfl rfl ⟨k0.at rfl _, k.at rfl _, trivial⟩ rfl ?_
        refine rp W 0 rfl rfl rfl (.refl)
end Pf
/- Fractions: impl's exported sums and products -/
namespace Pf
open Go Go.Proofs
/-- What a function over fractions answers: whether there is a fraction, and which. -/
structure FRes where
  ok : Prop
  p : Prop
  t : List Int
  u : List Int
noncomputable def FRes.av (r : FRes) : AV := resF r.ok r.p r.t r.u
noncomputable def negS (p : Prop) (t u : List Int) : FRes := ⟨frOk p t u, ¬ p ∧ t ≠ [], t, u⟩
noncomputable def mulS (p : Prop) (t u : List Int) (q : Prop) (x y : List Int) : FRes :=
  ⟨(frOk p t u ∧ frOk q x y) ∧ fits (nm t * nm x) (nm u * nm y), ¬ (p ↔ q) ∧ nm t * nm x ≠ 0, lT (nm t * nm x) (nm u * nm y), lB (nm t * nm x) (nm u * nm y)⟩
noncomputable def divS (p : Prop) (t u : List Int) (q : Prop) (x y : List Int) : FRes :=
  ⟨(frOk p t u ∧ frOk q x y ∧ x ≠ []) ∧ fits (nm t * nm y) (nm u * nm x), ¬ (p ↔ q) ∧ nm t * nm y ≠ 0, lT (nm t * nm y) (nm u * nm x), lB (nm t * nm y) (nm u * nm x)⟩
noncomputable def addS (p : Prop) (t u : List Int) (q : Prop) (x y : List Int) : FRes :=
  ⟨(frOk p t u ∧ frOk q x y) ∧ fits (sT p t u q x y) (nm u * nm y), sP p t u q x y ∧ sT p t u q x y ≠ 0, lT (sT p t u q x y) (nm u * nm y), lB (sT p t u q x y) (nm u * nm y)⟩
noncomputable def subS (p : Prop) (t u : List Int) (q : Prop) (x y : List Int) : FRes :=
  ⟨(frOk p t u ∧ frOk q x y) ∧ fits (sT p t u (¬ q ∧ x ≠ []) x y) (nm u * nm y), sP p t u (¬ q ∧ x ≠ []) x y ∧ sT p t u (¬ q ∧ x ≠ []) x y ≠ 0, lT (sT p t u (¬ q ∧ x ≠ []) x y) (nm u * nm y), lB (sT p t u (¬ q ∧ x ≠ []) x y) (nm u * nm y)⟩
/-- A function answers so, in new memory. -/
structure ImplF (g : FuncId) (args : List AV) (r : FRes) : Prop where
  no : ¬ r.ok → AFunP Try.prog g args (· = nilF)
  yes : r.ok → AFunN Try.prog g args (NewFT r.p r.t r.u)
  lt : r.ok → r.t.length ≤ 256
  lu : r.ok → r.u.length ≤ 256
theorem ImplF.fz {g : FuncId} {args : List AV} {r : FRes} (h : ImplF g args r) {ss : List Prop} (e : mapF (frz (fun _ => true) [] 9) args = some (ss, args)) (hs : AllC ss) (hc : cloL args = true) : AFunP Try.prog g args (· = r.av) := by
  by_cases ho : r.ok
  · refine (h.yes ho).toP e hs hc fun u H2 ⟨h1, h2⟩ => ?_
    subst h1; subst h2
    exact ⟨_, _, .tup [frF r.p r.t r.u, .pr True], rfl, ⟨⟨trivial, rfl, rfl⟩, rfl, rfl⟩, .refl, rfl, (resF_yes ho).symm⟩
  · have e : r.av = _ := resF_no ho
    rw [e]; exact (h.no ho).subv sub_noF rfl
theorem fracs_ok (l : List (Prop × List Int × List Int)) (hl : l.length ≤ 1000000) (hs : ∀ a ∈ l, a.2.1.length ≤ 1048576 ∧ a.2.2.length ≤ 1048576) : AFunP Try.prog 91 [.fz l.length fun i => [.pr (l.getD i (False, [], [])).1, .fi .i64 (l.getD i (False, [], [])).2.1, .fi .i64 (l.getD i (False, [], [])).2.2]] (· = .pr (∀ a ∈ l, frOk a.1 a.2.1 a.2.2)) := by
  refine afun_of Try.func91 Try.call91 rfl Try.ntmps91 rfl ?_
  have W : Walk Try.prog TT 91 _ := Walk.of TT_ok Try.func91 Try.results91
  refine lp W 0 (σ := Nat) (fun i => [(5, .fz l.length fun i => [.pr (l.getD i (False, [], [])).1, .fi .i64 (l.getD i (False, [], [])).2.1, .fi .i64 (l.getD i (False, [], [])).2.2]), (6, .int .i64 l.length), (7, .int .i64 i)]) (fun _ => []) (fun i => l.length - i)
    (fun i => i ≤ l.length ∧ ∀ j, j < i → frOk (l.getD j (False, [], [])).1 (l.getD j (False, [], [])).2.1 (l.getD j (False, [], [])).2.2) 0 [5, 6, 7] rfl rfl rfl ⟨Nat.zero_le _, fun j hj => by omega⟩ ?_
  rintro i ⟨hi, he⟩ ih
  refine sp W 0 rfl rfl rfl (fun h1 => ?_) (fun h1 => ?_)
  · have h1 : i < l.length := by omega
    have hm := getD_mem (d := (False, [], [])) h1
    obtain ⟨s1, s2⟩ := hs _ hm
    refine ce W 0 rfl rfl (implFracOk_ok _ (l.getD i (False, [], [])).2.1 (l.getD i (False, [], [])).2.2 (by omega) (by omega)) rfl ?_
    refine sp W 0 rfl rfl rfl (fun h2 => ?_) (fun h2 => ?_)
    · refine rp W 0 rfl rfl rfl (.no (fun h => h2 (h _ hm)))
    · refine bd W 0 0 [5, 6, 7] rfl rfl rfl rfl rfl (ih (i + 1) ⟨by omega, fun j hj => ?_⟩ (by omega))
      by_cases hji : j = i
      · subst hji; exact Classical.not_not.1 h2
      · exact he j (by omega)
  · have hil : i = l.length := by omega
    refine rp W 0 rfl rfl rfl (.yes (fun a ha => by obtain ⟨j, hj, rfl⟩ := mem_getD (False, [], []) ha; exact he j (by omega)))
theorem fracs2_ok (p q : Prop) (t u x y : List Int) (ht : t.length ≤ 1048576) (hu : u.length ≤ 1048576) (hx : x.length ≤ 1048576) (hy : y.length ≤ 1048576) : AFunP Try.prog 91 [.fz 2 fun i => [[AV.pr p, AV.fi .i64 t, AV.fi .i64 u], [AV.pr q, AV.fi .i64 x, AV.fi .i64 y]].getD i []] (· = .pr (frOk p t u ∧ frOk q x y)) := by
  have h := fracs_ok [(p, t, u), (q, x, y)] (by simp) (by simp; omega)
  have h2 : AFunP Try.prog 91 [.fz 2 fun i => [[AV.pr p, AV.fi .i64 t, AV.fi .i64 u], [AV.pr q, AV.fi .i64 x, AV.fi .i64 y]].getD i []] _ := AFun.sub h ⟨.fzn rfl fun i hi => by
    rcases (by omega : i = 0 ∨ i = 1) with rfl | rfl <;> rfl, trivial⟩
  refine h2.mono fun v hv => ?_
  rw [hv]; simp
theorem given_no (p : Prop) (t u : List Int) (h : ¬ (t.length ≤ 256 ∧ u.length ≤ 256)) (ht : t.length ≤ 1048576) (hu : u.length ≤ 1048576) : AFunP Try.prog 92 [frF p t u] (· = nilF) := by
  refine afun_of Try.func92 Try.call92 rfl Try.ntmps92 rfl ?_
  have W : Walk Try.prog TT 92 _ := Walk.of TT_ok Try.func92 Try.results92
  refine sp W 0 rfl rfl rfl (fun h1 => ?_) (fun h1 => ?_)
  · refine rp W 0 rfl rfl rfl (.refl)
  · refine sp W 0 rfl rfl rfl (fun h2 => ?_) (fun h2 => ?_)
    · refine rp W 0 rfl rfl rfl (.refl)
    · exact absurd ⟨by omega, by omega⟩ h
theorem implFracMul_f (p q : Prop) (t u x y : List Int) (ht : t.length ≤ 1048576) (hu : u.length ≤ 1048576) (hx : x.length ≤ 1048576) (hy : y.length ≤ 1048576) : ImplF 35 [frF p t u, frF q x y] (mulS p t u q x y) := by
  have key : frOk p t u ∧ frOk q x y → AFunP Try.prog 93 [frF p t u, frF q x y] (· = frF (mulS p t u q x y).p (mulS p t u q x y).t (mulS p t u q x y).u) ∧ (mulS p t u q x y).t.length ≤ 1048576 ∧ (mulS p t u q x y).u.length ≤ 1048576 := by
    rintro ⟨h1, h2⟩
    obtain ⟨a, b, rfl, rfl, ha, hb, hb0, hap, hab⟩ := frOk_dig h1
    obtain ⟨c, d, rfl, rfl, hc, hd, hd0, hcq, hcd⟩ := frOk_dig h2
    have l1 : (dig (a * c)).length ≤ 1000 + 1000 := dig_len_mul (by omega) (by omega)
    have l2 : (dig (b * d)).length ≤ 1000 + 1000 := dig_len_mul (by omega) (by omega)
    have k := mul_ok p q a b c d hb0 hd0 (by omega) (by omega) (by omega) (by omega)
    unfold mulS
    simp only [nm_dig]
    exact ⟨k, Nat.le_trans (dig_len_mono (Nat.div_le_self _ _)) (by omega), Nat.le_trans (dig_len_mono (Nat.div_le_self _ _)) (by omega)⟩
  have hok : (mulS p t u q x y).ok ↔ (frOk p t u ∧ frOk q x y) ∧ ((mulS p t u q x y).t.length ≤ 256 ∧ (mulS p t u q x y).u.length ≤ 256) := Iff.rfl
  generalize mulS p t u q x y = r at *
  refine ⟨fun h => ?no, fun h => ?yes, fun h => (hok.1 h).2.1, fun h => (hok.1 h).2.2⟩
  case no =>
    refine afun_of Try.func35 Try.call35 rfl Try.ntmps35 rfl ?_
    have W : Walk Try.prog TT 35 _ := Walk.of TT_ok Try.func35 Try.results35
    refine cf W 0 [3] [2, 3, 4, 5] rfl rfl rfl rfl rfl rfl (fracs2_ok p q t u x y ht hu hx hy) rfl ?_
    refine sp W 0 rfl rfl rfl (fun h1 => ?_) (fun h1 => ?_)
    · refine rp W 0 rfl rfl rfl (.refl)
    · have h1 := Classical.not_not.1 h1
      obtain ⟨k1, k2, k3⟩ := key h1
      refine ce W 0 rfl rfl (k1) rfl ?_
      refine ce W 0 rfl rfl (given_no r.p r.t r.u (fun h2 => h (hok.2 ⟨h1, h2⟩)) k2 k3) rfl ?_
      refine rp W 0 rfl rfl rfl (.refl)
  case yes =>
    refine afun_of Try.func35 Try.call35 rfl Try.ntmps35 rfl ?_
    have W : Walk Try.prog TT 35 _ := Walk.of TT_ok Try.func35 Try.results35
    have h1 := (hok.1 h).1
    have h2 := (hok.1 h).2
    refine cf W 0 [3] [2, 3, 4, 5] rfl rfl rfl rfl rfl rfl (fracs2_ok p q t u x y ht hu hx hy) rfl ?_
    refine sp W 0 rfl rfl rfl (fun h3 => ?_) (fun h3 => ?_)
    · exact absurd h1 h3
    · obtain ⟨k1, k2, k3⟩ := key h1
      refine ce W 0 rfl rfl (k1) rfl ?_
      refine cn W 0 rfl rfl rfl (given_new r.p r.t r.u h2.1 h2.2) ?_
      rintro _ _ ⟨rfl, rfl⟩
      refine ⟨_, _, rfl, rfl, ?_⟩
      refine rn W 0 rfl rfl rfl (.tup [.agg [.pr r.p, .sl 0 0 0 r.t.length, .sl 1 0 0 r.u.length], .pr True]) rfl .refl ⟨rfl, by simp [blksM]⟩
theorem implFracDiv_f (p q : Prop) (t u x y : List Int) (ht : t.length ≤ 1048576) (hu : u.length ≤ 1048576) (hx : x.length ≤ 1048576) (hy : y.length ≤ 1048576) : ImplF 48 [frF p t u, frF q x y] (divS p t u q x y) := by
  have key : frOk p t u ∧ frOk q x y ∧ x ≠ [] → AFunP Try.prog 105 [frF p t u, frF q x y] (· = frF (divS p t u q x y).p (divS p t u q x y).t (divS p t u q x y).u) ∧ (divS p t u q x y).t.length ≤ 1048576 ∧ (divS p t u q x y).u.length ≤ 1048576 := by
    rintro ⟨h1, h2, h3⟩
    obtain ⟨a, b, rfl, rfl, ha, hb, hb0, hap, hab⟩ := frOk_dig h1
    obtain ⟨c, d, rfl, rfl, hc, hd, hd0, hcq, hcd⟩ := frOk_dig h2
    have hc0 : c ≠ 0 := fun h => h3 (dig_nil.2 h)
    have l1 : (dig (a * d)).length ≤ 1000 + 1000 := dig_len_mul (by omega) (by omega)
    have l2 : (dig (b * c)).length ≤ 1000 + 1000 := dig_len_mul (by omega) (by omega)
    have k := div_ok p q a b c d hb0 hc0 (by omega) (by omega) (by omega) (by omega)
    unfold divS
    simp only [nm_dig]
    exact ⟨k, Nat.le_trans (dig_len_mono (Nat.div_le_self _ _)) (by omega), Nat.le_trans (dig_len_mono (Nat.div_le_self _ _)) (by omega)⟩
  have hok : (divS p t u q x y).ok ↔ (frOk p t u ∧ frOk q x y ∧ x ≠ []) ∧ ((divS p t u q x y).t.length ≤ 256 ∧ (divS p t u q x y).u.length ≤ 256) := Iff.rfl
  generalize divS p t u q x y = r at *
  refine ⟨fun h => ?no, fun h => ?yes, fun h => (hok.1 h).2.1, fun h => (hok.1 h).2.2⟩
  case no =>
    refine afun_of Try.func48 Try.call48 rfl Try.ntmps48 rfl ?_
    have W : Walk Try.prog TT 48 _ := Walk.of TT_ok Try.func48 Try.results48
    refine cf W 0 [3] [2, 3, 4, 5] rfl rfl rfl rfl rfl rfl (fracs2_ok p q t u x y ht hu hx hy) rfl ?_
    refine sp W 0 rfl rfl rfl (fun h1 => ?_) (fun h1 => ?_)
    · refine rp W 0 rfl rfl rfl (.refl)
    · have h1 := Classical.not_not.1 h1
      refine sp W 0 rfl rfl rfl (fun h5 => ?_) (fun h5 => ?_)
      · refine rp W 0 rfl rfl rfl (.refl)
      · have h5 : x ≠ [] := by rintro rfl; simp at h5
        obtain ⟨k1, k2, k3⟩ := key ⟨h1.1, h1.2, h5⟩
        refine ce W 0 rfl rfl (k1) rfl ?_
        refine ce W 0 rfl rfl (given_no r.p r.t r.u (fun h2 => h (hok.2 ⟨⟨h1.1, h1.2, h5⟩, h2⟩)) k2 k3) rfl ?_
        refine rp W 0 rfl rfl rfl (.refl)
  case yes =>
    refine afun_of Try.func48 Try.call48 rfl Try.ntmps48 rfl ?_
    have W : Walk Try.prog TT 48 _ := Walk.of TT_ok Try.func48 Try.results48
    have h1 := (hok.1 h).1
    have h2 := (hok.1 h).2
    refine cf W 0 [3] [2, 3, 4, 5] rfl rfl rfl rfl rfl rfl (fracs2_ok p q t u x y ht hu hx hy) rfl ?_
    refine sp W 0 rfl rfl rfl (fun h3 => ?_) (fun h3 => ?_)
    · exact absurd ⟨h1.1, h1.2.1⟩ h3
    · obtain ⟨k1, k2, k3⟩ := key h1
      refine sp W 0 rfl rfl rfl (fun h5 => ?_) (fun h5 => ?_)
      · exact absurd (List.eq_nil_of_length_eq_zero (by omega)) h1.2.2
      · refine ce W 0 rfl rfl (k1) rfl ?_
        refine cn W 0 rfl rfl rfl (given_new r.p r.t r.u h2.1 h2.2) ?_
        rintro _ _ ⟨rfl, rfl⟩
        refine ⟨_, _, rfl, rfl, ?_⟩
        refine rn W 0 rfl rfl rfl (.tup [.agg [.pr r.p, .sl 0 0 0 r.t.length, .sl 1 0 0 r.u.length], .pr True]) rfl .refl ⟨rfl, by simp [blksM]⟩
theorem implFracAdd_f (p q : Prop) (t u x y : List Int) (ht : t.length ≤ 1048576) (hu : u.length ≤ 1048576) (hx : x.length ≤ 1048576) (hy : y.length ≤ 1048576) : ImplF 37 [frF p t u, frF q x y] (addS p t u q x y) := by
  have key : frOk p t u ∧ frOk q x y → AFunP Try.prog 95 [frF p t u, frF q x y] (· = frF (addS p t u q x y).p (addS p t u q x y).t (addS p t u q x y).u) ∧ (addS p t u q x y).t.length ≤ 1048576 ∧ (addS p t u q x y).u.length ≤ 1048576 := by
    rintro ⟨h1, h2⟩
    obtain ⟨a, b, rfl, rfl, ha, hb, hb0, hap, hab⟩ := frOk_dig h1
    obtain ⟨c, d, rfl, rfl, hc, hd, hd0, hcq, hcd⟩ := frOk_dig h2
    have l1 := sT_len (p := p) (q := q) (a := a) (b := b) (c := c) (d := d) (by omega) (by omega) (by omega) (by omega)
    have l2 : (dig (b * d)).length ≤ 1000 + 1000 := dig_len_mul (by omega) (by omega)
    have k := add_ok p q a b c d hb0 hd0 (by omega) (by omega) (by omega) (by omega)
    unfold addS sT sP
    simp only [nm_dig]
    exact ⟨k, Nat.le_trans (dig_len_mono (Nat.div_le_self _ _)) (by omega), Nat.le_trans (dig_len_mono (Nat.div_le_self _ _)) (by omega)⟩
  have hok : (addS p t u q x y).ok ↔ (frOk p t u ∧ frOk q x y) ∧ ((addS p t u q x y).t.length ≤ 256 ∧ (addS p t u q x y).u.length ≤ 256) := Iff.rfl
  generalize addS p t u q x y = r at *
  refine ⟨fun h => ?no, fun h => ?yes, fun h => (hok.1 h).2.1, fun h => (hok.1 h).2.2⟩
  case no =>
    refine afun_of Try.func37 Try.call37 rfl Try.ntmps37 rfl ?_
    have W : Walk Try.prog TT 37 _ := Walk.of TT_ok Try.func37 Try.results37
    refine cf W 0 [3] [2, 3, 4, 5] rfl rfl rfl rfl rfl rfl (fracs2_ok p q t u x y ht hu hx hy) rfl ?_
    refine sp W 0 rfl rfl rfl (fun h1 => ?_) (fun h1 => ?_)
    · refine rp W 0 rfl rfl rfl (.refl)
    · have h1 := Classical.not_not.1 h1
      obtain ⟨k1, k2, k3⟩ := key h1
      refine ce W 0 rfl rfl (k1) rfl ?_
      refine ce W 0 rfl rfl (given_no r.p r.t r.u (fun h2 => h (hok.2 ⟨h1, h2⟩)) k2 k3) rfl ?_
      refine rp W 0 rfl rfl rfl (.refl)
  case yes =>
    refine afun_of Try.func37 Try.call37 rfl Try.ntmps37 rfl ?_
    have W : Walk Try.prog TT 37 _ := Walk.of TT_ok Try.func37 Try.results37
    have h1 := (hok.1 h).1
    have h2 := (hok.1 h).2
    refine cf W 0 [3] [2, 3, 4, 5] rfl rfl rfl rfl rfl rfl (fracs2_ok p q t u x y ht hu hx hy) rfl ?_
    refine sp W 0 rfl rfl rfl (fun h3 => ?_) (fun h3 => ?_)
    · exact absurd h1 h3
    · obtain ⟨k1, k2, k3⟩ := key h1
      refine ce W 0 rfl rfl (k1) rfl ?_
      refine cn W 0 rfl rfl rfl (given_new r.p r.t r.u h2.1 h2.2) ?_
      rintro _ _ ⟨rfl, rfl⟩
      refine ⟨_, _, rfl, rfl, ?_⟩
      refine rn W 0 rfl rfl rfl (.tup [.agg [.pr r.p, .sl 0 0 0 r.t.length, .sl 1 0 0 r.u.length], .pr True]) rfl .refl ⟨rfl, by simp [blksM]⟩
theorem implFracSub_f (p q : Prop) (t u x y : List Int) (ht : t.length ≤ 1048576) (hu : u.length ≤ 1048576) (hx : x.length ≤ 1048576) (hy : y.length ≤ 1048576) : ImplF 39 [frF p t u, frF q x y] (subS p t u q x y) := by
  have key : frOk p t u ∧ frOk q x y → AFunP Try.prog 95 [frF p t u, frF (¬ q ∧ x ≠ []) x y] (· = frF (subS p t u q x y).p (subS p t u q x y).t (subS p t u q x y).u) ∧ (subS p t u q x y).t.length ≤ 1048576 ∧ (subS p t u q x y).u.length ≤ 1048576 := by
    rintro ⟨h1, h2⟩
    obtain ⟨a, b, rfl, rfl, ha, hb, hb0, hap, hab⟩ := frOk_dig h1
    obtain ⟨c, d, rfl, rfl, hc, hd, hd0, hcq, hcd⟩ := frOk_dig h2
    have l1 := sT_len (p := p) (q := (¬ q ∧ dig c ≠ [])) (a := a) (b := b) (c := c) (d := d) (by omega) (by omega) (by omega) (by omega)
    have l2 : (dig (b * d)).length ≤ 1000 + 1000 := dig_len_mul (by omega) (by omega)
    have k := add_ok p (¬ q ∧ dig c ≠ []) a b c d hb0 hd0 (by omega) (by omega) (by omega) (by omega)
    unfold subS sT sP
    simp only [nm_dig]
    exact ⟨k, Nat.le_trans (dig_len_mono (Nat.div_le_self _ _)) (by omega), Nat.le_trans (dig_len_mono (Nat.div_le_self _ _)) (by omega)⟩
  have hok : (subS p t u q x y).ok ↔ (frOk p t u ∧ frOk q x y) ∧ ((subS p t u q x y).t.length ≤ 256 ∧ (subS p t u q x y).u.length ≤ 256) := Iff.rfl
  generalize subS p t u q x y = r at *
  refine ⟨fun h => ?no, fun h => ?yes, fun h => (hok.1 h).2.1, fun h => (hok.1 h).2.2⟩
  case no =>
    refine afun_of Try.func39 Try.call39 rfl Try.ntmps39 rfl ?_
    have W : Walk Try.prog TT 39 _ := Walk.of TT_ok Try.func39 Try.results39
    refine cf W 0 [3] [2, 3, 4, 5] rfl rfl rfl rfl rfl rfl (fracs2_ok p q t u x y ht hu hx hy) rfl ?_
    refine sp W 0 rfl rfl rfl (fun h1 => ?_) (fun h1 => ?_)
    · refine rp W 0 rfl rfl rfl (.refl)
    · have h1 := Classical.not_not.1 h1
      obtain ⟨k1, k2, k3⟩ := key h1
      refine dre W 0 7 [] [frF (¬ q ∧ x ≠ []) x y, frF r.p r.t r.u, nilF] rfl rfl rfl ⟨(fneg_ok q x y (by omega)).at rfl _, k1.at rfl _, (given_no r.p r.t r.u (fun h2 => h (hok.2 ⟨h1, h2⟩)) k2 k3).at rfl _, trivial⟩ rfl ?_
      refine rp W 0 rfl rfl rfl (.refl)
  case yes =>
    refine afun_of Try.func39 Try.call39 rfl Try.ntmps39 rfl ?_
    have W : Walk Try.prog TT 39 _ := Walk.of TT_ok Try.func39 Try.results39
    have h1 := (hok.1 h).1
    have h2 := (hok.1 h).2
    refine cf W 0 [3] [2, 3, 4, 5] rfl rfl rfl rfl rfl rfl (fracs2_ok p q t u x y ht hu hx hy) rfl ?_
    refine sp W 0 rfl rfl rfl (fun h3 => ?_) (fun h3 => ?_)
    · exact absurd h1 h3
    · obtain ⟨k1, k2, k3⟩ := key h1
      refine phg W 0 7 [4] rfl rfl (fun PW => ?_)
      refine phn PW 0 4 [] [frF (¬ q ∧ x ≠ []) x y, frF r.p r.t r.u] rfl rfl ⟨(fneg_ok q x y (by omega)).at rfl _, k1.at rfl _, trivial⟩ rfl rfl rfl (given_new r.p r.t r.u h2.1 h2.2) ?_
      rintro _ _ ⟨rfl, rfl⟩
      refine ⟨_, _, rfl, rfl, ?_⟩
      refine phe PW 0 [] [] rfl trivial rfl ?_
      refine rn W 0 rfl rfl rfl (.tup [.agg [.pr r.p, .sl 0 0 0 r.t.length, .sl 1 0 0 r.u.length], .pr True]) rfl .refl ⟨rfl, by simp [blksM]⟩
end Pf
/- The law of FracNeg -/
namespace Pf
open Go Go.Proofs
theorem szF_le {t d : List Int} (h : ¬ szF 1048576 t d < 0) : t.length ≤ 1048576 ∧ d.length ≤ 1048576 ∧ szF 1048576 t d = 1048576 - t.length - d.length := by
  unfold szF at h ⊢
  split at h
  · omega
  · split at h
    · omega
    · rename_i h1 h2; rw [if_neg h1, if_neg h2]; omega
theorem markIntS_nil (k : Int) : AFunP Try.prog 87 [.fi .i64 [], .int .i64 k] (· = .int .i64 k) := by
  refine afun_of Try.func87 Try.call87 rfl Try.ntmps87 rfl ?_
  have W : Walk Try.prog TT 87 _ := Walk.of TT_ok Try.func87 Try.results87
  refine lp W 0 (σ := Unit) (fun i => [(0, .fi .i64 []), (1, .int .i64 k), (5, .int .i64 0)]) (fun _ => []) (fun i => 0) (fun i => True) () [0, 1, 5] rfl rfl rfl trivial ?_
  intro _ _ ih
  refine sp W 0 rfl rfl rfl (fun h => ?_) (fun h => ?_)
  · simp at h
  · refine rp W 0 rfl rfl rfl (.refl)
theorem markFrac_nil (k : Int) : AFunP Try.prog 32 [frF False [] [], .int .i64 k] (· = .int .i64 k) := by
  refine afun_of Try.func32 Try.call32 rfl Try.ntmps32 rfl ?_
  have W : Walk Try.prog TT 32 _ := Walk.of TT_ok Try.func32 Try.results32
  refine ce W 0 rfl rfl (markIntS_nil k) rfl ?_
  refine ce W 0 rfl rfl (markIntS_nil k) rfl ?_
  refine rp W 0 rfl rfl rfl (.refl)
abbrev nilFr : AV := .agg [.bool false, .nils, .nils]
theorem eqFrac_nil : AFunP Try.prog 31 [nilFr, frF False [] []] (· = .pr True) :=
  AFun.sub (args := [nilFr, frF False [] []]) ((eqFrac_ok False False [] [] [] [] (by simp) (by simp)).subv (.eq (by simp)) rfl) ⟨.agg ⟨.no id, .nils_fi, .nils_fi, trivial⟩, .refl, trivial⟩
theorem markFrac_nil2 (k : Int) : AFunP Try.prog 32 [nilFr, .int .i64 k] (· = .int .i64 k) :=
  AFun.sub (args := [nilFr, .int .i64 k]) (markFrac_nil k) ⟨.agg ⟨.no id, .nils_fi, .nils_fi, trivial⟩, .refl, trivial⟩
theorem heldFrac_nil (k : Int) (hk : 0 ≤ k) (hk2 : k ≤ 8000000000000000000) : AFunP Try.prog 33 [nilFr, .int .i64 k] (· = .int .i64 k) :=
  AFun.sub (args := [nilFr, .int .i64 k]) ((heldFrac_ok False [] [] k (by simp) (by simp) hk hk2 rfl rfl).subv (.int (by simp)) rfl) ⟨.agg ⟨.no id, .nils_fi, .nils_fi, trivial⟩, .refl, trivial⟩
theorem fnExactFracNeg_law (p : Prop) (t u : List Int) (ht : t.length ≤ 9223372036854775807) (hu : u.length ≤ 9223372036854775807) (h1 : ∀ n ∈ t, Pf.InK .i64 n) (h2 : ∀ n ∈ u, Pf.InK .i64 n) : AFunP Try.prog 5 [frF p t u] (· = .pr True) := by
  refine afun_of Try.func5 Try.call5 rfl Try.ntmps5 rfl ?_
  have W : Walk Try.prog TT 5 _ := Walk.of TT_ok Try.func5 Try.results5
  refine ce W 0 rfl rfl (szFrac_ok p t u 1048576 (by omega) (by omega) ht hu) rfl ?_
  refine sp W 0 rfl rfl rfl (fun h => ?_) (fun h => ?_)
  · refine rp W 0 rfl rfl rfl (.yes trivial)
  obtain ⟨lt, lu, -⟩ := szF_le h
  have hS := specFracNeg_ok p t u lt lu
  by_cases ho : frOk p t u
  · rw [show negR p t u = .tup [frF (¬ p ∧ t ≠ []) t u, .pr True] from resF_yes ho] at hS
    refine ce W 0 rfl rfl (toFrac_ok p t u lt lu) rfl ?_
    refine ce W 0 rfl rfl (hS) rfl ?_
    refine cn W 0 rfl rfl rfl (toFrac_new p t u lt lu) ?_
    rintro _ _ ⟨rfl, rfl⟩
    refine ⟨_, _, rfl, rfl, ?_⟩
    refine cn W 0 rfl rfl rfl (implFracNeg_yes p t u ho) ?_
    rintro _ _ ⟨rfl, rfl⟩
    refine ⟨_, _, rfl, rfl, ?_⟩
    refine cb W 0 rfl rfl rfl rfl (eqFrac_ok (¬ p ∧ t ≠ []) (¬ p ∧ t ≠ []) t u t u (by omega) (by omega)) rfl ?_
    refine sp W 0 rfl rfl rfl (fun h3 => ?_) (fun h3 => ?_)
    · exact absurd ⟨Iff.rfl, rfl, rfl⟩ h3
    refine sp W 0 rfl rfl rfl (fun h4 => ?_) (fun h4 => ?_)
    · exact absurd Iff.rfl h4
    refine dre W 0 4 [] [frF p t u, .pr ((p ↔ p) ∧ t = t ∧ u = u)] rfl rfl rfl ⟨(toFrac_ok p t u lt lu).at rfl _, (eqFrac_ok p p t u t u (by omega) (by omega)).bor rfl (by simp [AllC]) rfl (fun _ h => by rw [h]; rfl), trivial⟩ rfl ?_
    refine sp W 0 rfl rfl rfl (fun h5 => ?_) (fun h5 => ?_)
    · exact absurd ⟨Iff.rfl, rfl, rfl⟩ h5
    refine cm W 0 [(2, 0), (3, 0)] rfl (markFrac_ok p t u 1 lt lu (by omega) (by omega)) ⟨rfl, rfl, trivial⟩ rfl rfl rfl ?_
    rintro _ _ ⟨rfl, rfl⟩
    refine ⟨_, _, rfl, rfl, ?_⟩
    refine sp W 0 rfl rfl rfl (fun h6 => ?_) (fun h6 => ?_)
    · exfalso; omega
    refine cb W 0 rfl rfl rfl rfl (eqFrac_ok (¬ p ∧ t ≠ []) (¬ p ∧ t ≠ []) t u t u (by omega) (by omega)) rfl ?_
    refine sp W 0 rfl rfl rfl (fun h7 => ?_) (fun h7 => ?_)
    · exact absurd ⟨Iff.rfl, rfl, rfl⟩ h7
    refine sp W 0 rfl rfl rfl (fun h8 => ?_) (fun h8 => ?_)
    · exact absurd Iff.rfl h8
    refine cm W 0 [(5, 0), (6, 0)] rfl (markFrac_ok (¬ p ∧ t ≠ []) t u 1 lt lu (by omega) (by omega)) ⟨rfl, rfl, trivial⟩ rfl rfl rfl ?_
    rintro _ _ ⟨rfl, rfl⟩
    refine ⟨_, _, rfl, rfl, ?_⟩
    have ml1 := marks_len 1 t.length
    have ml2 := marks_len (1 + (t.length : Int)) u.length
    have m1 : marks 1 t.length = marks 1 (marks 1 t.length).length := by rw [marks_len]
    have m2 : marks (1 + t.length) u.length = marks (1 + (marks 1 t.length).length) (marks (1 + t.length) u.length).length := by rw [marks_len, marks_len]
    have kh := heldFrac_ok (¬ p ∧ t ≠ []) (marks 1 t.length) (marks (1 + t.length) u.length) 1 (by rw [marks_len]; exact lt) (by rw [marks_len]; exact lu) (by omega) (by omega) m1 m2
    rw [marks_len, marks_len] at kh
    refine cb W 0 rfl rfl rfl rfl (kh) rfl ?_
    refine sp W 0 rfl rfl rfl (fun h9 => ?_) (fun h9 => ?_)
    · exfalso; omega
    refine sp W 0 rfl rfl rfl (fun hA => ?_) (fun hA => ?_)
    · exact absurd rfl hA
    refine ce W 0 rfl rfl (toFrac_ok p t u lt lu) rfl ?_
    refine cn W 0 rfl rfl rfl (implFracNeg_yes p t u ho) ?_
    rintro _ _ ⟨rfl, rfl⟩
    refine ⟨_, _, rfl, rfl, ?_⟩
    refine cb W 0 rfl rfl rfl rfl (eqFrac_ok (¬ p ∧ t ≠ []) (¬ p ∧ t ≠ []) t u t u (by omega) (by omega)) rfl ?_
    refine sp W 0 rfl rfl rfl (fun hB => ?_) (fun hB => ?_)
    · exact absurd ⟨Iff.rfl, rfl, rfl⟩ hB
    refine sp W 0 rfl rfl rfl (fun hC => ?_) (fun hC => ?_)
    · exact absurd Iff.rfl hC
    refine cb W 0 rfl rfl rfl rfl (kh) rfl ?_
    refine sp W 0 rfl rfl rfl (fun hD => ?_) (fun hD => ?_)
    · exfalso; omega
    refine sp W 0 rfl rfl rfl (fun hE => ?_) (fun hE => ?_)
    · exact absurd rfl hE
    refine rp W 0 rfl rfl rfl (.yes trivial)
  · rw [show negR p t u = .tup [frF False [] [], .pr False] from resF_no ho] at hS
    refine ce W 0 rfl rfl (toFrac_ok p t u lt lu) rfl ?_
    refine ce W 0 rfl rfl (hS) rfl ?_
    refine cn W 0 rfl rfl rfl (toFrac_new p t u lt lu) ?_
    rintro _ _ ⟨rfl, rfl⟩
    refine ⟨_, _, rfl, rfl, ?_⟩
    refine cb W 0 rfl rfl rfl rfl (implFracNeg_no p t u (by omega) (by omega) ho) rfl ?_
    refine ce W 0 rfl rfl (eqFrac_nil) rfl ?_
    refine sp W 0 rfl rfl rfl (fun h3 => ?_) (fun h3 => ?_)
    · exact absurd trivial h3
    refine sp W 0 rfl rfl rfl (fun h4 => ?_) (fun h4 => ?_)
    · simp at h4
    refine dre W 0 4 [] [frF p t u, .pr ((p ↔ p) ∧ t = t ∧ u = u)] rfl rfl rfl ⟨(toFrac_ok p t u lt lu).at rfl _, (eqFrac_ok p p t u t u (by omega) (by omega)).bor rfl (by simp [AllC]) rfl (fun _ h => by rw [h]; rfl), trivial⟩ rfl ?_
    refine sp W 0 rfl rfl rfl (fun h5 => ?_) (fun h5 => ?_)
    · exact absurd ⟨Iff.rfl, rfl, rfl⟩ h5
    refine cm W 0 [(2, 0), (3, 0)] rfl (markFrac_ok p t u 1 lt lu (by omega) (by omega)) ⟨rfl, rfl, trivial⟩ rfl rfl rfl ?_
    rintro _ _ ⟨rfl, rfl⟩
    refine ⟨_, _, rfl, rfl, ?_⟩
    refine sp W 0 rfl rfl rfl (fun h6 => ?_) (fun h6 => ?_)
    · exfalso; omega
    refine ce W 0 rfl rfl (eqFrac_nil) rfl ?_
    refine sp W 0 rfl rfl rfl (fun h7 => ?_) (fun h7 => ?_)
    · exact absurd trivial h7
    refine sp W 0 rfl rfl rfl (fun h8 => ?_) (fun h8 => ?_)
    · simp at h8
    refine ce W 0 rfl rfl (markFrac_nil2 1) rfl ?_
    refine ce W 0 rfl rfl (heldFrac_nil 1 (by omega) (by omega)) rfl ?_
    refine sp W 0 rfl rfl rfl (fun h9 => ?_) (fun h9 => ?_)
    · exfalso; omega
    refine sp W 0 rfl rfl rfl (fun hA => ?_) (fun hA => ?_)
    · exact absurd rfl hA
    refine ce W 0 rfl rfl (toFrac_ok p t u lt lu) rfl ?_
    refine ce W 0 rfl rfl (implFracNeg_no p t u (by omega) (by omega) ho) rfl ?_
    refine ce W 0 rfl rfl (eqFrac_nil) rfl ?_
    refine sp W 0 rfl rfl rfl (fun hB => ?_) (fun hB => ?_)
    · exact absurd trivial hB
    refine sp W 0 rfl rfl rfl (fun hC => ?_) (fun hC => ?_)
    · simp at hC
    refine ce W 0 rfl rfl (heldFrac_nil 1 (by omega) (by omega)) rfl ?_
    refine sp W 0 rfl rfl rfl (fun hD => ?_) (fun hD => ?_)
    · exfalso; omega
    refine sp W 0 rfl rfl rfl (fun hE => ?_) (fun hE => ?_)
    · exact absurd rfl hE
    refine rp W 0 rfl rfl rfl (.yes trivial)
end Pf
/- The laws of FracMul, FracAdd, FracSub -/
namespace Pf
open Go Go.Proofs
theorem szF_le2 {n : Int} {t d : List Int} (hn : n ≤ 1048576) (h : ¬ szF n t d < 0) : t.length ≤ 1048576 ∧ d.length ≤ 1048576 := by
  unfold szF at h
  split at h
  · omega
  · split at h
    · omega
    · omega
theorem fnExactFracMul_law (p : Prop) (t u : List Int) (q : Prop) (x y : List Int) (ht : t.length ≤ 9223372036854775807) (hu : u.length ≤ 9223372036854775807) (h1 : ∀ n ∈ t, Pf.InK .i64 n) (h2 : ∀ n ∈ u, Pf.InK .i64 n)
    (hx : x.length ≤ 9223372036854775807) (hy : y.length ≤ 9223372036854775807) (h3 : ∀ n ∈ x, Pf.InK .i64 n) (h4 : ∀ n ∈ y, Pf.InK .i64 n) : AFunP Try.prog 6 [frF p t u, frF q x y] (· = .pr True) := by
  refine afun_of Try.func6 Try.call6 rfl Try.ntmps6 rfl ?_
  have W : Walk Try.prog TT 6 _ := Walk.of TT_ok Try.func6 Try.results6
  refine ce W 0 rfl rfl (szFrac_ok p t u 1048576 (by omega) (by omega) ht hu) rfl ?_
  refine sp W 0 rfl rfl rfl (fun h => ?_) (fun h => ?_)
  · refine rp W 0 rfl rfl rfl (.yes trivial)
  obtain ⟨lt, lu, e1⟩ := szF_le h
  generalize szF 1048576 t u = n1 at *
  refine ce W 0 rfl rfl (szFrac_ok q x y n1 (by omega) (by omega) hx hy) rfl ?_
  refine sp W 0 rfl rfl rfl (fun h' => ?_) (fun h' => ?_)
  · refine rp W 0 rfl rfl rfl (.yes trivial)
  obtain ⟨lx, ly⟩ := szF_le2 (by omega) h'
  have hS : AFunP Try.prog 34 [frF p t u, frF q x y] (· = (mulS p t u q x y).av) := specFracMul_ok p q t u x y lt lu lx ly
  have hI := implFracMul_f p q t u x y lt lu lx ly
  have hF := hI.fz rfl (by simp [AllC]) rfl
  generalize mulS p t u q x y = r at *
  obtain ⟨ok, p', T, U⟩ := r
  by_cases ho : ok
  · have lT := hI.lt ho
    have lU := hI.lu ho
    have hY := hI.yes ho
    rw [show FRes.av ⟨ok, p', T, U⟩ = .tup [frF p' T U, .pr True] from resF_yes ho] at hS hF
    dsimp only at lT lU hY
    refine phg W 0 10 [8, 9] rfl rfl (fun PW => ?_)
    refine pho PW 0 8 [] [frF p t u, frF q x y, .tup [frF p' T U, .pr True]] rfl rfl ⟨(toFrac_ok p t u lt lu).at rfl _, (toFrac_ok q x y lx ly).at rfl _, hS.at rfl _, trivial⟩ rfl rfl ?_
    refine pho PW 0 9 [] [frF p t u, frF q x y, .tup [frF p' T U, .pr True]] rfl rfl ⟨(toFrac_ok p t u lt lu).at rfl _, (toFrac_ok q x y lx ly).at rfl _, hS.at rfl _, trivial⟩ rfl rfl ?_
    refine phe PW 0 [] [] rfl trivial rfl ?_
    refine cn W 0 rfl rfl rfl (toFrac_new p t u lt lu) ?_
    rintro _ _ ⟨rfl, rfl⟩
    refine ⟨_, _, rfl, rfl, ?_⟩
    refine cn W 0 rfl rfl rfl (toFrac_new q x y lx ly) ?_
    rintro _ _ ⟨rfl, rfl⟩
    refine ⟨_, _, rfl, rfl, ?_⟩
    refine cn W 0 rfl rfl rfl (hY) ?_
    rintro _ _ ⟨rfl, rfl⟩
    refine ⟨_, _, rfl, rfl, ?_⟩
    refine cb W 0 rfl rfl rfl rfl (eqFrac_ok p' p' T U T U (by omega) (by omega)) rfl ?_
    refine sp W 0 rfl rfl rfl (fun hA => ?_) (fun hA => ?_)
    · exact absurd ⟨Iff.rfl, rfl, rfl⟩ hA
    refine sp W 0 rfl rfl rfl (fun hB => ?_) (fun hB => ?_)
    · exact absurd Iff.rfl hB
    refine dre W 0 4 [] [frF p t u, .pr ((p ↔ p) ∧ t = t ∧ u = u)] rfl rfl rfl ⟨(toFrac_ok p t u lt lu).at rfl _, (eqFrac_ok p p t u t u (by omega) (by omega)).bor rfl (by simp [AllC]) rfl (fun _ h => by rw [h]; rfl), trivial⟩ rfl ?_
    refine sp W 0 rfl rfl rfl (fun h5 => ?_) (fun h5 => ?_)
    · exact absurd ⟨Iff.rfl, rfl, rfl⟩ h5
    refine dre W 0 4 [] [frF q x y, .pr ((q ↔ q) ∧ x = x ∧ y = y)] rfl rfl rfl ⟨(toFrac_ok q x y lx ly).at rfl _, (eqFrac_ok q q x y x y (by omega) (by omega)).bor rfl (by simp [AllC]) rfl (fun _ h => by rw [h]; rfl), trivial⟩ rfl ?_
    refine sp W 0 rfl rfl rfl (fun h5' => ?_) (fun h5' => ?_)
    · exact absurd ⟨Iff.rfl, rfl, rfl⟩ h5'
    refine cm W 0 [(3, 0), (4, 0)] rfl (markFrac_ok p t u 1 lt lu (by omega) (by omega)) ⟨rfl, rfl, trivial⟩ rfl rfl rfl ?_
    rintro _ _ ⟨rfl, rfl⟩
    refine ⟨_, _, rfl, rfl, ?_⟩
    refine cm W 0 [(6, 0), (7, 0)] rfl (markFrac_ok q x y (1 + t.length + u.length) lx ly (by omega) (by omega)) ⟨rfl, rfl, trivial⟩ rfl rfl rfl ?_
    rintro _ _ ⟨rfl, rfl⟩
    refine ⟨_, _, rfl, rfl, ?_⟩
    refine sp W 0 rfl rfl rfl (fun h6 => ?_) (fun h6 => ?_)
    · exfalso; omega
    refine cb W 0 rfl rfl rfl rfl (eqFrac_ok p' p' T U T U (by omega) (by omega)) rfl ?_
    refine sp W 0 rfl rfl rfl (fun h7 => ?_) (fun h7 => ?_)
    · exact absurd ⟨Iff.rfl, rfl, rfl⟩ h7
    refine sp W 0 rfl rfl rfl (fun h8 => ?_) (fun h8 => ?_)
    · exact absurd Iff.rfl h8
    refine cm W 0 [(9, 0), (10, 0)] rfl (markFrac_ok p' T U 1 (by omega) (by omega) (by omega) (by omega)) ⟨rfl, rfl, trivial⟩ rfl rfl rfl ?_
    rintro _ _ ⟨rfl, rfl⟩
    refine ⟨_, _, rfl, rfl, ?_⟩
    have ml1 := marks_len 1 T.length
    have ml2 := marks_len (1 + (T.length : Int)) U.length
    have m1 : marks 1 T.length = marks 1 (marks 1 T.length).length := by rw [marks_len]
    have m2 : marks (1 + T.length) U.length = marks (1 + (marks 1 T.length).length) (marks (1 + T.length) U.length).length := by rw [marks_len, marks_len]
    have kh := heldFrac_ok p' (marks 1 T.length) (marks (1 + T.length) U.length) 1 (by rw [marks_len]; omega) (by rw [marks_len]; omega) (by omega) (by omega) m1 m2
    rw [marks_len, marks_len] at kh
    refine cb W 0 rfl rfl rfl rfl (kh) rfl ?_
    refine sp W 0 rfl rfl rfl (fun h9 => ?_) (fun h9 => ?_)
    · exfalso; omega
    refine sp W 0 rfl rfl rfl (fun hC => ?_) (fun hC => ?_)
    · exact absurd rfl hC
    refine phg W 0 10 [8, 9] rfl rfl (fun PW => ?_)
    refine pho PW 0 8 [] [frF p t u, frF q x y, .tup [frF p' T U, .pr True]] rfl rfl ⟨(toFrac_ok p t u lt lu).at rfl _, (toFrac_ok q x y lx ly).at rfl _, hF.at rfl _, trivial⟩ rfl rfl ?_
    refine pho PW 0 9 [] [frF p t u, frF q x y, .tup [frF p' T U, .pr True]] rfl rfl ⟨(toFrac_ok p t u lt lu).at rfl _, (toFrac_ok q x y lx ly).at rfl _, hF.at rfl _, trivial⟩ rfl rfl ?_
    refine phe PW 0 [] [] rfl trivial rfl ?_
    refine ce W 0 rfl rfl (eqFrac_ok p' p' T U T U (by omega) (by omega)) rfl ?_
    refine sp W 0 rfl rfl rfl (fun hD => ?_) (fun hD => ?_)
    · exact absurd ⟨Iff.rfl, rfl, rfl⟩ hD
    refine sp W 0 rfl rfl rfl (fun hE => ?_) (fun hE => ?_)
    · exact absurd Iff.rfl hE
    refine cb W 0 rfl rfl rfl rfl (kh) rfl ?_
    refine sp W 0 rfl rfl rfl (fun hG => ?_) (fun hG => ?_)
    · exfalso; omega
    refine sp W 0 rfl rfl rfl (fun hH => ?_) (fun hH => ?_)
    · exact absurd rfl hH
    refine rp W 0 rfl rfl rfl (.yes trivial)
  · have hN := hI.no ho
    rw [show FRes.av ⟨ok, p', T, U⟩ = .tup [frF False [] [], .pr False] from resF_no ho] at hS hF
    refine phg W 0 10 [8, 9] rfl rfl (fun PW => ?_)
    refine pho PW 0 8 [] [frF p t u, frF q x y, .tup [frF False [] [], .pr False]] rfl rfl ⟨(toFrac_ok p t u lt lu).at rfl _, (toFrac_ok q x y lx ly).at rfl _, hS.at rfl _, trivial⟩ rfl rfl ?_
    refine pho PW 0 9 [] [frF p t u, frF q x y, .tup [frF False [] [], .pr False]] rfl rfl ⟨(toFrac_ok p t u lt lu).at rfl _, (toFrac_ok q x y lx ly).at rfl _, hS.at rfl _, trivial⟩ rfl rfl ?_
    refine phe PW 0 [] [] rfl trivial rfl ?_
    refine cn W 0 rfl rfl rfl (toFrac_new p t u lt lu) ?_
    rintro _ _ ⟨rfl, rfl⟩
    refine ⟨_, _, rfl, rfl, ?_⟩
    refine cn W 0 rfl rfl rfl (toFrac_new q x y lx ly) ?_
    rintro _ _ ⟨rfl, rfl⟩
    refine ⟨_, _, rfl, rfl, ?_⟩
    refine cb W 0 rfl rfl rfl rfl (hN) rfl ?_
    refine ce W 0 rfl rfl (eqFrac_nil) rfl ?_
    refine sp W 0 rfl rfl rfl (fun hA => ?_) (fun hA => ?_)
    · exact absurd trivial hA
    refine sp W 0 rfl rfl rfl (fun hB => ?_) (fun hB => ?_)
    · simp at hB
    refine dre W 0 4 [] [frF p t u, .pr ((p ↔ p) ∧ t = t ∧ u = u)] rfl rfl rfl ⟨(toFrac_ok p t u lt lu).at rfl _, (eqFrac_ok p p t u t u (by omega) (by omega)).bor rfl (by simp [AllC]) rfl (fun _ h => by rw [h]; rfl), trivial⟩ rfl ?_
    refine sp W 0 rfl rfl rfl (fun h5 => ?_) (fun h5 => ?_)
    · exact absurd ⟨Iff.rfl, rfl, rfl⟩ h5
    refine dre W 0 4 [] [frF q x y, .pr ((q ↔ q) ∧ x = x ∧ y = y)] rfl rfl rfl ⟨(toFrac_ok q x y lx ly).at rfl _, (eqFrac_ok q q x y x y (by omega) (by omega)).bor rfl (by simp [AllC]) rfl (fun _ h => by rw [h]; rfl), trivial⟩ rfl ?_
    refine sp W 0 rfl rfl rfl (fun h5' => ?_) (fun h5' => ?_)
    · exact absurd ⟨Iff.rfl, rfl, rfl⟩ h5'
    refine cm W 0 [(3, 0), (4, 0)] rfl (markFrac_ok p t u 1 lt lu (by omega) (by omega)) ⟨rfl, rfl, trivial⟩ rfl rfl rfl ?_
    rintro _ _ ⟨rfl, rfl⟩
    refine ⟨_, _, rfl, rfl, ?_⟩
    refine cm W 0 [(6, 0), (7, 0)] rfl (markFrac_ok q x y (1 + t.length + u.length) lx ly (by omega) (by omega)) ⟨rfl, rfl, trivial⟩ rfl rfl rfl ?_
    rintro _ _ ⟨rfl, rfl⟩
    refine ⟨_, _, rfl, rfl, ?_⟩
    refine sp W 0 rfl rfl rfl (fun h6 => ?_) (fun h6 => ?_)
    · exfalso; omega
    refine ce W 0 rfl rfl (eqFrac_nil) rfl ?_
    refine sp W 0 rfl rfl rfl (fun h7 => ?_) (fun h7 => ?_)
    · exact absurd trivial h7
    refine sp W 0 rfl rfl rfl (fun h8 => ?_) (fun h8 => ?_)
    · simp at h8
    refine ce W 0 rfl rfl (markFrac_nil2 1) rfl ?_
    refine ce W 0 rfl rfl (heldFrac_nil 1 (by omega) (by omega)) rfl ?_
    refine sp W 0 rfl rfl rfl (fun h9 => ?_) (fun h9 => ?_)
    · exfalso; omega
    refine sp W 0 rfl rfl rfl (fun hC => ?_) (fun hC => ?_)
    · exact absurd rfl hC
    refine phg W 0 10 [8, 9] rfl rfl (fun PW => ?_)
    refine pho PW 0 8 [] [frF p t u, frF q x y, .tup [frF False [] [], .pr False]] rfl rfl ⟨(toFrac_ok p t u lt lu).at rfl _, (toFrac_ok q x y lx ly).at rfl _, hF.at rfl _, trivial⟩ rfl rfl ?_
    refine pho PW 0 9 [] [frF p t u, frF q x y, .tup [frF False [] [], .pr False]] rfl rfl ⟨(toFrac_ok p t u lt lu).at rfl _, (toFrac_ok q x y lx ly).at rfl _, hF.at rfl _, trivial⟩ rfl rfl ?_
    refine phe PW 0 [] [] rfl trivial rfl ?_
    refine ce W 0 rfl rfl (eqFrac_ok False False [] [] [] [] (by simp) (by simp)) rfl ?_
    refine sp W 0 rfl rfl rfl (fun hD => ?_) (fun hD => ?_)
    · exact absurd ⟨Iff.rfl, rfl, rfl⟩ hD
    refine sp W 0 rfl rfl rfl (fun hE => ?_) (fun hE => ?_)
    · exact absurd Iff.rfl hE
    refine ce W 0 rfl rfl (heldFrac_nil 1 (by omega) (by omega)) rfl ?_
    refine sp W 0 rfl rfl rfl (fun hG => ?_) (fun hG => ?_)
    · exfalso; omega
    refine sp W 0 rfl rfl rfl (fun hH => ?_) (fun hH => ?_)
    · exact absurd rfl hH
    refine rp W 0 rfl rfl rfl (.yes trivial)
theorem fnExactFracAdd_law (p : Prop) (t u : List Int) (q : Prop) (x y : List Int) (ht : t.length ≤ 9223372036854775807) (hu : u.length ≤ 9223372036854775807) (h1 : ∀ n ∈ t, Pf.InK .i64 n) (h2 : ∀ n ∈ u, Pf.InK .i64 n)
    (hx : x.length ≤ 9223372036854775807) (hy : y.length ≤ 9223372036854775807) (h3 : ∀ n ∈ x, Pf.InK .i64 n) (h4 : ∀ n ∈ y, Pf.InK .i64 n) : AFunP Try.prog 7 [frF p t u, frF q x y] (· = .pr True) := by
  refine afun_of Try.func7 Try.call7 rfl Try.ntmps7 rfl ?_
  have W : Walk Try.prog TT 7 _ := Walk.of TT_ok Try.func7 Try.results7
  refine ce W 0 rfl rfl (szFrac_ok p t u 1048576 (by omega) (by omega) ht hu) rfl ?_
  refine sp W 0 rfl rfl rfl (fun h => ?_) (fun h => ?_)
  · refine rp W 0 rfl rfl rfl (.yes trivial)
  obtain ⟨lt, lu, e1⟩ := szF_le h
  generalize szF 1048576 t u = n1 at *
  refine ce W 0 rfl rfl (szFrac_ok q x y n1 (by omega) (by omega) hx hy) rfl ?_
  refine sp W 0 rfl rfl rfl (fun h' => ?_) (fun h' => ?_)
  · refine rp W 0 rfl rfl rfl (.yes trivial)
  obtain ⟨lx, ly⟩ := szF_le2 (by omega) h'
  have hS : AFunP Try.prog 36 [frF p t u, frF q x y] (· = (addS p t u q x y).av) := specFracAdd_ok p q t u x y lt lu lx ly
  have hI := implFracAdd_f p q t u x y lt lu lx ly
  have hF := hI.fz rfl (by simp [AllC]) rfl
  generalize addS p t u q x y = r at *
  obtain ⟨ok, p', T, U⟩ := r
  by_cases ho : ok
  · have lT := hI.lt ho
    have lU := hI.lu ho
    have hY := hI.yes ho
    rw [show FRes.av ⟨ok, p', T, U⟩ = .tup [frF p' T U, .pr True] from resF_yes ho] at hS hF
    dsimp only at lT lU hY
    refine phg W 0 10 [8, 9] rfl rfl (fun PW => ?_)
    refine pho PW 0 8 [] [frF p t u, frF q x y, .tup [frF p' T U, .pr True]] rfl rfl ⟨(toFrac_ok p t u lt lu).at rfl _, (toFrac_ok q x y lx ly).at rfl _, hS.at rfl _, trivial⟩ rfl rfl ?_
    refine pho PW 0 9 [] [frF p t u, frF q x y, .tup [frF p' T U, .pr True]] rfl rfl ⟨(toFrac_ok p t u lt lu).at rfl _, (toFrac_ok q x y lx ly).at rfl _, hS.at rfl _, trivial⟩ rfl rfl ?_
    refine phe PW 0 [] [] rfl trivial rfl ?_
    refine cn W 0 rfl rfl rfl (toFrac_new p t u lt lu) ?_
    rintro _ _ ⟨rfl, rfl⟩
    refine ⟨_, _, rfl, rfl, ?_⟩
    refine cn W 0 rfl rfl rfl (toFrac_new q x y lx ly) ?_
    rintro _ _ ⟨rfl, rfl⟩
    refine ⟨_, _, rfl, rfl, ?_⟩
    refine cn W 0 rfl rfl rfl (hY) ?_
    rintro _ _ ⟨rfl, rfl⟩
    refine ⟨_, _, rfl, rfl, ?_⟩
    refine cb W 0 rfl rfl rfl rfl (eqFrac_ok p' p' T U T U (by omega) (by omega)) rfl ?_
    refine sp W 0 rfl rfl rfl (fun hA => ?_) (fun hA => ?_)
    · exact absurd ⟨Iff.rfl, rfl, rfl⟩ hA
    refine sp W 0 rfl rfl rfl (fun hB => ?_) (fun hB => ?_)
    · exact absurd Iff.rfl hB
    refine dre W 0 4 [] [frF p t u, .pr ((p ↔ p) ∧ t = t ∧ u = u)] rfl rfl rfl ⟨(toFrac_ok p t u lt lu).at rfl _, (eqFrac_ok p p t u t u (by omega) (by omega)).bor rfl (by simp [AllC]) rfl (fun _ h => by rw [h]; rfl), trivial⟩ rfl ?_
    refine sp W 0 rfl rfl rfl (fun h5 => ?_) (fun h5 => ?_)
    · exact absurd ⟨Iff.rfl, rfl, rfl⟩ h5
    refine dre W 0 4 [] [frF q x y, .pr ((q ↔ q) ∧ x = x ∧ y = y)] rfl rfl rfl ⟨(toFrac_ok q x y lx ly).at rfl _, (eqFrac_ok q q x y x y (by omega) (by omega)).bor rfl (by simp [AllC]) rfl (fun _ h => by rw [h]; rfl), trivial⟩ rfl ?_
    refine sp W 0 rfl rfl rfl (fun h5' => ?_) (fun h5' => ?_)
    · exact absurd ⟨Iff.rfl, rfl, rfl⟩ h5'
    refine cm W 0 [(3, 0), (4, 0)] rfl (markFrac_ok p t u 1 lt lu (by omega) (by omega)) ⟨rfl, rfl, trivial⟩ rfl rfl rfl ?_
    rintro _ _ ⟨rfl, rfl⟩
    refine ⟨_, _, rfl, rfl, ?_⟩
    refine cm W 0 [(6, 0), (7, 0)] rfl (markFrac_ok q x y (1 + t.length + u.length) lx ly (by omega) (by omega)) ⟨rfl, rfl, trivial⟩ rfl rfl rfl ?_
    rintro _ _ ⟨rfl, rfl⟩
    refine ⟨_, _, rfl, rfl, ?_⟩
    refine sp W 0 rfl rfl rfl (fun h6 => ?_) (fun h6 => ?_)
    · exfalso; omega
    refine cb W 0 rfl rfl rfl rfl (eqFrac_ok p' p' T U T U (by omega) (by omega)) rfl ?_
    refine sp W 0 rfl rfl rfl (fun h7 => ?_) (fun h7 => ?_)
    · exact absurd ⟨Iff.rfl, rfl, rfl⟩ h7
    refine sp W 0 rfl rfl rfl (fun h8 => ?_) (fun h8 => ?_)
    · exact absurd Iff.rfl h8
    refine cm W 0 [(9, 0), (10, 0)] rfl (markFrac_ok p' T U 1 (by omega) (by omega) (by omega) (by omega)) ⟨rfl, rfl, trivial⟩ rfl rfl rfl ?_
    rintro _ _ ⟨rfl, rfl⟩
    refine ⟨_, _, rfl, rfl, ?_⟩
    have ml1 := marks_len 1 T.length
    have ml2 := marks_len (1 + (T.length : Int)) U.length
    have m1 : marks 1 T.length = marks 1 (marks 1 T.length).length := by rw [marks_len]
    have m2 : marks (1 + T.length) U.length = marks (1 + (marks 1 T.length).length) (marks (1 + T.length) U.length).length := by rw [marks_len, marks_len]
    have kh := heldFrac_ok p' (marks 1 T.length) (marks (1 + T.length) U.length) 1 (by rw [marks_len]; omega) (by rw [marks_len]; omega) (by omega) (by omega) m1 m2
    rw [marks_len, marks_len] at kh
    refine cb W 0 rfl rfl rfl rfl (kh) rfl ?_
    refine sp W 0 rfl rfl rfl (fun h9 => ?_) (fun h9 => ?_)
    · exfalso; omega
    refine sp W 0 rfl rfl rfl (fun hC => ?_) (fun hC => ?_)
    · exact absurd rfl hC
    refine phg W 0 10 [8, 9] rfl rfl (fun PW => ?_)
    refine pho PW 0 8 [] [frF p t u, frF q x y, .tup [frF p' T U, .pr True]] rfl rfl ⟨(toFrac_ok p t u lt lu).at rfl _, (toFrac_ok q x y lx ly).at rfl _, hF.at rfl _, trivial⟩ rfl rfl ?_
    refine pho PW 0 9 [] [frF p t u, frF q x y, .tup [frF p' T U, .pr True]] rfl rfl ⟨(toFrac_ok p t u lt lu).at rfl _, (toFrac_ok q x y lx ly).at rfl _, hF.at rfl _, trivial⟩ rfl rfl ?_
    refine phe PW 0 [] [] rfl trivial rfl ?_
    refine ce W 0 rfl rfl (eqFrac_ok p' p' T U T U (by omega) (by omega)) rfl ?_
    refine sp W 0 rfl rfl rfl (fun hD => ?_) (fun hD => ?_)
    · exact absurd ⟨Iff.rfl, rfl, rfl⟩ hD
    refine sp W 0 rfl rfl rfl (fun hE => ?_) (fun hE => ?_)
    · exact absurd Iff.rfl hE
    refine cb W 0 rfl rfl rfl rfl (kh) rfl ?_
    refine sp W 0 rfl rfl rfl (fun hG => ?_) (fun hG => ?_)
    · exfalso; omega
    refine sp W 0 rfl rfl rfl (fun hH => ?_) (fun hH => ?_)
    · exact absurd rfl hH
    refine rp W 0 rfl rfl rfl (.yes trivial)
  · have hN := hI.no ho
    rw [show FRes.av ⟨ok, p', T, U⟩ = .tup [frF False [] [], .pr False] from resF_no ho] at hS hF
    refine phg W 0 10 [8, 9] rfl rfl (fun PW => ?_)
    refine pho PW 0 8 [] [frF p t u, frF q x y, .tup [frF False [] [], .pr False]] rfl rfl ⟨(toFrac_ok p t u lt lu).at rfl _, (toFrac_ok q x y lx ly).at rfl _, hS.at rfl _, trivial⟩ rfl rfl ?_
    refine pho PW 0 9 [] [frF p t u, frF q x y, .tup [frF False [] [], .pr False]] rfl rfl ⟨(toFrac_ok p t u lt lu).at rfl _, (toFrac_ok q x y lx ly).at rfl _, hS.at rfl _, trivial⟩ rfl rfl ?_
    refine phe PW 0 [] [] rfl trivial rfl ?_
    refine cn W 0 rfl rfl rfl (toFrac_new p t u lt lu) ?_
    rintro _ _ ⟨rfl, rfl⟩
    refine ⟨_, _, rfl, rfl, ?_⟩
    refine cn W 0 rfl rfl rfl (toFrac_new q x y lx ly) ?_
    rintro _ _ ⟨rfl, rfl⟩
    refine ⟨_, _, rfl, rfl, ?_⟩
    refine cb W 0 rfl rfl rfl rfl (hN) rfl ?_
    refine ce W 0 rfl rfl (eqFrac_nil) rfl ?_
    refine sp W 0 rfl rfl rfl (fun hA => ?_) (fun hA => ?_)
    · exact absurd trivial hA
    refine sp W 0 rfl rfl rfl (fun hB => ?_) (fun hB => ?_)
    · simp at hB
    refine dre W 0 4 [] [frF p t u, .pr ((p ↔ p) ∧ t = t ∧ u = u)] rfl rfl rfl ⟨(toFrac_ok p t u lt lu).at rfl _, (eqFrac_ok p p t u t u (by omega) (by omega)).bor rfl (by simp [AllC]) rfl (fun _ h => by rw [h]; rfl), trivial⟩ rfl ?_
    refine sp W 0 rfl rfl rfl (fun h5 => ?_) (fun h5 => ?_)
    · exact absurd ⟨Iff.rfl, rfl, rfl⟩ h5
    refine dre W 0 4 [] [frF q x y, .pr ((q ↔ q) ∧ x = x ∧ y = y)] rfl rfl rfl ⟨(toFrac_ok q x y lx ly).at rfl _, (eqFrac_ok q q x y x y (by omega) (by omega)).bor rfl (by simp [AllC]) rfl (fun _ h => by rw [h]; rfl), trivial⟩ rfl ?_
    refine sp W 0 rfl rfl rfl (fun h5' => ?_) (fun h5' => ?_)
    · exact absurd ⟨Iff.rfl, rfl, rfl⟩ h5'
    refine cm W 0 [(3, 0), (4, 0)] rfl (markFrac_ok p t u 1 lt lu (by omega) (by omega)) ⟨rfl, rfl, trivial⟩ rfl rfl rfl ?_
    rintro _ _ ⟨rfl, rfl⟩
    refine ⟨_, _, rfl, rfl, ?_⟩
    refine cm W 0 [(6, 0), (7, 0)] rfl (markFrac_ok q x y (1 + t.length + u.length) lx ly (by omega) (by omega)) ⟨rfl, rfl, trivial⟩ rfl rfl rfl ?_
    rintro _ _ ⟨rfl, rfl⟩
    refine ⟨_, _, rfl, rfl, ?_⟩
    refine sp W 0 rfl rfl rfl (fun h6 => ?_) (fun h6 => ?_)
    · exfalso; omega
    refine ce W 0 rfl rfl (eqFrac_nil) rfl ?_
    refine sp W 0 rfl rfl rfl (fun h7 => ?_) (fun h7 => ?_)
    · exact absurd trivial h7
    refine sp W 0 rfl rfl rfl (fun h8 => ?_) (fun h8 => ?_)
    · simp at h8
    refine ce W 0 rfl rfl (markFrac_nil2 1) rfl ?_
    refine ce W 0 rfl rfl (heldFrac_nil 1 (by omega) (by omega)) rfl ?_
    refine sp W 0 rfl rfl rfl (fun h9 => ?_) (fun h9 => ?_)
    · exfalso; omega
    refine sp W 0 rfl rfl rfl (fun hC => ?_) (fun hC => ?_)
    · exact absurd rfl hC
    refine phg W 0 10 [8, 9] rfl rfl (fun PW => ?_)
    refine pho PW 0 8 [] [frF p t u, frF q x y, .tup [frF False [] [], .pr False]] rfl rfl ⟨(toFrac_ok p t u lt lu).at rfl _, (toFrac_ok q x y lx ly).at rfl _, hF.at rfl _, trivial⟩ rfl rfl ?_
    refine pho PW 0 9 [] [frF p t u, frF q x y, .tup [frF False [] [], .pr False]] rfl rfl ⟨(toFrac_ok p t u lt lu).at rfl _, (toFrac_ok q x y lx ly).at rfl _, hF.at rfl _, trivial⟩ rfl rfl ?_
    refine phe PW 0 [] [] rfl trivial rfl ?_
    refine ce W 0 rfl rfl (eqFrac_ok False False [] [] [] [] (by simp) (by simp)) rfl ?_
    refine sp W 0 rfl rfl rfl (fun hD => ?_) (fun hD => ?_)
    · exact absurd ⟨Iff.rfl, rfl, rfl⟩ hD
    refine sp W 0 rfl rfl rfl (fun hE => ?_) (fun hE => ?_)
    · exact absurd Iff.rfl hE
    refine ce W 0 rfl rfl (heldFrac_nil 1 (by omega) (by omega)) rfl ?_
    refine sp W 0 rfl rfl rfl (fun hG => ?_) (fun hG => ?_)
    · exfalso; omega
    refine sp W 0 rfl rfl rfl (fun hH => ?_) (fun hH => ?_)
    · exact absurd rfl hH
    refine rp W 0 rfl rfl rfl (.yes trivial)
theorem fnExactFracSub_law (p : Prop) (t u : List Int) (q : Prop) (x y : List Int) (ht : t.length ≤ 9223372036854775807) (hu : u.length ≤ 9223372036854775807) (h1 : ∀ n ∈ t, Pf.InK .i64 n) (h2 : ∀ n ∈ u, Pf.InK .i64 n)
    (hx : x.length ≤ 9223372036854775807) (hy : y.length ≤ 9223372036854775807) (h3 : ∀ n ∈ x, Pf.InK .i64 n) (h4 : ∀ n ∈ y, Pf.InK .i64 n) : AFunP Try.prog 8 [frF p t u, frF q x y] (· = .pr True) := by
  refine afun_of Try.func8 Try.call8 rfl Try.ntmps8 rfl ?_
  have W : Walk Try.prog TT 8 _ := Walk.of TT_ok Try.func8 Try.results8
  refine ce W 0 rfl rfl (szFrac_ok p t u 1048576 (by omega) (by omega) ht hu) rfl ?_
  refine sp W 0 rfl rfl rfl (fun h => ?_) (fun h => ?_)
  · refine rp W 0 rfl rfl rfl (.yes trivial)
  obtain ⟨lt, lu, e1⟩ := szF_le h
  generalize szF 1048576 t u = n1 at *
  refine ce W 0 rfl rfl (szFrac_ok q x y n1 (by omega) (by omega) hx hy) rfl ?_
  refine sp W 0 rfl rfl rfl (fun h' => ?_) (fun h' => ?_)
  · refine rp W 0 rfl rfl rfl (.yes trivial)
  obtain ⟨lx, ly⟩ := szF_le2 (by omega) h'
  have hS : AFunP Try.prog 38 [frF p t u, frF q x y] (· = (subS p t u q x y).av) := specFracSub_ok p q t u x y lt lu lx ly
  have hI := implFracSub_f p q t u x y lt lu lx ly
  have hF := hI.fz rfl (by simp [AllC]) rfl
  generalize subS p t u q x y = r at *
  obtain ⟨ok, p', T, U⟩ := r
  by_cases ho : ok
  · have lT := hI.lt ho
    have lU := hI.lu ho
    have hY := hI.yes ho
    rw [show FRes.av ⟨ok, p', T, U⟩ = .tup [frF p' T U, .pr True] from resF_yes ho] at hS hF
    dsimp only at lT lU hY
    refine phg W 0 10 [8, 9] rfl rfl (fun PW => ?_)
    refine pho PW 0 8 [] [frF p t u, frF q x y, .tup [frF p' T U, .pr True]] rfl rfl ⟨(toFrac_ok p t u lt lu).at rfl _, (toFrac_ok q x y lx ly).at rfl _, hS.at rfl _, trivial⟩ rfl rfl ?_
    refine pho PW 0 9 [] [frF p t u, frF q x y, .tup [frF p' T U, .pr True]] rfl rfl ⟨(toFrac_ok p t u lt lu).at rfl _, (toFrac_ok q x y lx ly).at rfl _, hS.at rfl _, trivial⟩ rfl rfl ?_
    refine phe PW 0 [] [] rfl trivial rfl ?_
    refine cn W 0 rfl rfl rfl (toFrac_new p t u lt lu) ?_
    rintro _ _ ⟨rfl, rfl⟩
    refine ⟨_, _, rfl, rfl, ?_⟩
    refine cn W 0 rfl rfl rfl (toFrac_new q x y lx ly) ?_
    rintro _ _ ⟨rfl, rfl⟩
    refine ⟨_, _, rfl, rfl, ?_⟩
    refine cn W 0 rfl rfl rfl (hY) ?_
    rintro _ _ ⟨rfl, rfl⟩
    refine ⟨_, _, rfl, rfl, ?_⟩
    refine cb W 0 rfl rfl rfl rfl (eqFrac_ok p' p' T U T U (by omega) (by omega)) rfl ?_
    refine sp W 0 rfl rfl rfl (fun hA => ?_) (fun hA => ?_)
    · exact absurd ⟨Iff.rfl, rfl, rfl⟩ hA
    refine sp W 0 rfl rfl rfl (fun hB => ?_) (fun hB => ?_)
    · exact absurd Iff.rfl hB
    refine dre W 0 4 [] [frF p t u, .pr ((p ↔ p) ∧ t = t ∧ u = u)] rfl rfl rfl ⟨(toFrac_ok p t u lt lu).at rfl _, (eqFrac_ok p p t u t u (by omega) (by omega)).bor rfl (by simp [AllC]) rfl (fun _ h => by rw [h]; rfl), trivial⟩ rfl ?_
    refine sp W 0 rfl rfl rfl (fun h5 => ?_) (fun h5 => ?_)
    · exact absurd ⟨Iff.rfl, rfl, rfl⟩ h5
    refine dre W 0 4 [] [frF q x y, .pr ((q ↔ q) ∧ x = x ∧ y = y)] rfl rfl rfl ⟨(toFrac_ok q x y lx ly).at rfl _, (eqFrac_ok q q x y x y (by omega) (by omega)).bor rfl (by simp [AllC]) rfl (fun _ h => by rw [h]; rfl), trivial⟩ rfl ?_
    refine sp W 0 rfl rfl rfl (fun h5' => ?_) (fun h5' => ?_)
    · exact absurd ⟨Iff.rfl, rfl, rfl⟩ h5'
    refine cm W 0 [(3, 0), (4, 0)] rfl (markFrac_ok p t u 1 lt lu (by omega) (by omega)) ⟨rfl, rfl, trivial⟩ rfl rfl rfl ?_
    rintro _ _ ⟨rfl, rfl⟩
    refine ⟨_, _, rfl, rfl, ?_⟩
    refine cm W 0 [(6, 0), (7, 0)] rfl (markFrac_ok q x y (1 + t.length + u.length) lx ly (by omega) (by omega)) ⟨rfl, rfl, trivial⟩ rfl rfl rfl ?_
    rintro _ _ ⟨rfl, rfl⟩
    refine ⟨_, _, rfl, rfl, ?_⟩
    refine sp W 0 rfl rfl rfl (fun h6 => ?_) (fun h6 => ?_)
    · exfalso; omega
    refine cb W 0 rfl rfl rfl rfl (eqFrac_ok p' p' T U T U (by omega) (by omega)) rfl ?_
    refine sp W 0 rfl rfl rfl (fun h7 => ?_) (fun h7 => ?_)
    · exact absurd ⟨Iff.rfl, rfl, rfl⟩ h7
    refine sp W 0 rfl rfl rfl (fun h8 => ?_) (fun h8 => ?_)
    · exact absurd Iff.rfl h8
    refine cm W 0 [(9, 0), (10, 0)] rfl (markFrac_ok p' T U 1 (by omega) (by omega) (by omega) (by omega)) ⟨rfl, rfl, trivial⟩ rfl rfl rfl ?_
    rintro _ _ ⟨rfl, rfl⟩
    refine ⟨_, _, rfl, rfl, ?_⟩
    have ml1 := marks_len 1 T.length
    have ml2 := marks_len (1 + (T.length : Int)) U.length
    have m1 : marks 1 T.length = marks 1 (marks 1 T.length).length := by rw [marks_len]
    have m2 : marks (1 + T.length) U.length = marks (1 + (marks 1 T.length).length) (marks (1 + T.length) U.length).length := by rw [marks_len, marks_len]
    have kh := heldFrac_ok p' (marks 1 T.length) (marks (1 + T.length) U.length) 1 (by rw [marks_len]; omega) (by rw [marks_len]; omega) (by omega) (by omega) m1 m2
    rw [marks_len, marks_len] at kh
    refine cb W 0 rfl rfl rfl rfl (kh) rfl ?_
    refine sp W 0 rfl rfl rfl (fun h9 => ?_) (fun h9 => ?_)
    · exfalso; omega
    refine sp W 0 rfl rfl rfl (fun hC => ?_) (fun hC => ?_)
    · exact absurd rfl hC
    refine phg W 0 10 [8, 9] rfl rfl (fun PW => ?_)
    refine pho PW 0 8 [] [frF p t u, frF q x y, .tup [frF p' T U, .pr True]] rfl rfl ⟨(toFrac_ok p t u lt lu).at rfl _, (toFrac_ok q x y lx ly).at rfl _, hF.at rfl _, trivial⟩ rfl rfl ?_
    refine pho PW 0 9 [] [frF p t u, frF q x y, .tup [frF p' T U, .pr True]] rfl rfl ⟨(toFrac_ok p t u lt lu).at rfl _, (toFrac_ok q x y lx ly).at rfl _, hF.at rfl _, trivial⟩ rfl rfl ?_
    refine phe PW 0 [] [] rfl trivial rfl ?_
    refine ce W 0 rfl rfl (eqFrac_ok p' p' T U T U (by omega) (by omega)) rfl ?_
    refine sp W 0 rfl rfl rfl (fun hD => ?_) (fun hD => ?_)
    · exact absurd ⟨Iff.rfl, rfl, rfl⟩ hD
    refine sp W 0 rfl rfl rfl (fun hE => ?_) (fun hE => ?_)
    · exact absurd Iff.rfl hE
    refine cb W 0 rfl rfl rfl rfl (kh) rfl ?_
    refine sp W 0 rfl rfl rfl (fun hG => ?_) (fun hG => ?_)
    · exfalso; omega
    refine sp W 0 rfl rfl rfl (fun hH => ?_) (fun hH => ?_)
    · exact absurd rfl hH
    refine rp W 0 rfl rfl rfl (.yes trivial)
  · have hN := hI.no ho
    rw [show FRes.av ⟨ok, p', T, U⟩ = .tup [frF False [] [], .pr False] from resF_no ho] at hS hF
    refine phg W 0 10 [8, 9] rfl rfl (fun PW => ?_)
    refine pho PW 0 8 [] [frF p t u, frF q x y, .tup [frF False [] [], .pr False]] rfl rfl ⟨(toFrac_ok p t u lt lu).at rfl _, (toFrac_ok q x y lx ly).at rfl _, hS.at rfl _, trivial⟩ rfl rfl ?_
    refine pho PW 0 9 [] [frF p t u, frF q x y, .tup [frF False [] [], .pr False]] rfl rfl ⟨(toFrac_ok p t u lt lu).at rfl _, (toFrac_ok q x y lx ly).at rfl _, hS.at rfl _, trivial⟩ rfl rfl ?_
    refine phe PW 0 [] [] rfl trivial rfl ?_
    refine cn W 0 rfl rfl rfl (toFrac_new p t u lt lu) ?_
    rintro _ _ ⟨rfl, rfl⟩
    refine ⟨_, _, rfl, rfl, ?_⟩
    refine cn W 0 rfl rfl rfl (toFrac_new q x y lx ly) ?_
    rintro _ _ ⟨rfl, rfl⟩
    refine ⟨_, _, rfl, rfl, ?_⟩
    refine cb W 0 rfl rfl rfl rfl (hN) rfl ?_
    refine ce W 0 rfl rfl (eqFrac_nil) rfl ?_
    refine sp W 0 rfl rfl rfl (fun hA => ?_) (fun hA => ?_)
    · exact absurd trivial hA
    refine sp W 0 rfl rfl rfl (fun hB => ?_) (fun hB => ?_)
    · simp at hB
    refine dre W 0 4 [] [frF p t u, .pr ((p ↔ p) ∧ t = t ∧ u = u)] rfl rfl rfl ⟨(toFrac_ok p t u lt lu).at rfl _, (eqFrac_ok p p t u t u (by omega) (by omega)).bor rfl (by simp [AllC]) rfl (fun _ h => by rw [h]; rfl), trivial⟩ rfl ?_
    refine sp W 0 rfl rfl rfl (fun h5 => ?_) (fun h5 => ?_)
    · exact absurd ⟨Iff.rfl, rfl, rfl⟩ h5
    refine dre W 0 4 [] [frF q x y, .pr ((q ↔ q) ∧ x = x ∧ y = y)] rfl rfl rfl ⟨(toFrac_ok q x y lx ly).at rfl _, (eqFrac_ok q q x y x y (by omega) (by omega)).bor rfl (by simp [AllC]) rfl (fun _ h => by rw [h]; rfl), trivial⟩ rfl ?_
    refine sp W 0 rfl rfl rfl (fun h5' => ?_) (fun h5' => ?_)
    · exact absurd ⟨Iff.rfl, rfl, rfl⟩ h5'
    refine cm W 0 [(3, 0), (4, 0)] rfl (markFrac_ok p t u 1 lt lu (by omega) (by omega)) ⟨rfl, rfl, trivial⟩ rfl rfl rfl ?_
    rintro _ _ ⟨rfl, rfl⟩
    refine ⟨_, _, rfl, rfl, ?_⟩
    refine cm W 0 [(6, 0), (7, 0)] rfl (markFrac_ok q x y (1 + t.length + u.length) lx ly (by omega) (by omega)) ⟨rfl, rfl, trivial⟩ rfl rfl rfl ?_
    rintro _ _ ⟨rfl, rfl⟩
    refine ⟨_, _, rfl, rfl, ?_⟩
    refine sp W 0 rfl rfl rfl (fun h6 => ?_) (fun h6 => ?_)
    · exfalso; omega
    refine ce W 0 rfl rfl (eqFrac_nil) rfl ?_
    refine sp W 0 rfl rfl rfl (fun h7 => ?_) (fun h7 => ?_)
    · exact absurd trivial h7
    refine sp W 0 rfl rfl rfl (fun h8 => ?_) (fun h8 => ?_)
    · simp at h8
    refine ce W 0 rfl rfl (markFrac_nil2 1) rfl ?_
    refine ce W 0 rfl rfl (heldFrac_nil 1 (by omega) (by omega)) rfl ?_
    refine sp W 0 rfl rfl rfl (fun h9 => ?_) (fun h9 => ?_)
    · exfalso; omega
    refine sp W 0 rfl rfl rfl (fun hC => ?_) (fun hC => ?_)
    · exact absurd rfl hC
    refine phg W 0 10 [8, 9] rfl rfl (fun PW => ?_)
    refine pho PW 0 8 [] [frF p t u, frF q x y, .tup [frF False [] [], .pr False]] rfl rfl ⟨(toFrac_ok p t u lt lu).at rfl _, (toFrac_ok q x y lx ly).at rfl _, hF.at rfl _, trivial⟩ rfl rfl ?_
    refine pho PW 0 9 [] [frF p t u, frF q x y, .tup [frF False [] [], .pr False]] rfl rfl ⟨(toFrac_ok p t u lt lu).at rfl _, (toFrac_ok q x y lx ly).at rfl _, hF.at rfl _, trivial⟩ rfl rfl ?_
    refine phe PW 0 [] [] rfl trivial rfl ?_
    refine ce W 0 rfl rfl (eqFrac_ok False False [] [] [] [] (by simp) (by simp)) rfl ?_
    refine sp W 0 rfl rfl rfl (fun hD => ?_) (fun hD => ?_)
    · exact absurd ⟨Iff.rfl, rfl, rfl⟩ hD
    refine sp W 0 rfl rfl rfl (fun hE => ?_) (fun hE => ?_)
    · exact absurd Iff.rfl hE
    refine ce W 0 rfl rfl (heldFrac_nil 1 (by omega) (by omega)) rfl ?_
    refine sp W 0 rfl rfl rfl (fun hG => ?_) (fun hG => ?_)
    · exfalso; omega
    refine sp W 0 rfl rfl rfl (fun hH => ?_) (fun hH => ?_)
    · exact absurd rfl hH
    refine rp W 0 rfl rfl rfl (.yes trivial)
end Pf
