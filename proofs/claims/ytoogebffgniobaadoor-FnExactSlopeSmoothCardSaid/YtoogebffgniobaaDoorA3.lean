/- Part 3 of the lemmas that the claim rests on: an abstract machine over the model, what it is sound for, and the contracts of the functions that the law reaches. -/
import Derived.Test.YtoogebffgniobaaDoorA2
set_option linter.unusedSimpArgs false
set_option linter.unusedVariables false
set_option maxHeartbeats 4000000
/- Literals: the model's side -/
namespace Pf
open Go Go.Proofs
/-- Behind 'e' and its sign: the place a, the sign m. -/
def powA (s : List UInt8) (a : Nat) (m : Prop) : Prop := run s a ≠ 0 ∧ run s a ≤ 3 ∧ ¬ (s.getD a 0 = 48 ∧ (1 < run s a ∨ m)) ∧
  ¬ (run s a = 3 ∧ ¬ (Op.bytesLess ((s.take (a + run s a)).drop a) [52, 48, 48] = true ∨ (s.take (a + run s a)).drop a = [52, 48, 48])) ∧ a + run s a = s.length
theorem run_le (s : List UInt8) (a : Nat) (h : a ≤ s.length) : a + run s a ≤ s.length := by
  have := (List.takeWhile_prefix (l := s.drop a) dB).length_le
  rw [List.length_drop] at this
  have e := run_dg s a
  have : (Dg (s.drop a)).length ≤ s.length - a := this
  omega
theorem powA_ok {s t : List UInt8} {a : Nat} {m : Prop} (ha : a ≤ s.length) (hu : s.drop a = cutP t 45) (hm : m ↔ t.head? = some 45) : powE1 t ↔ powA s a m := by
  have h1 := run_dg s a
  have h2 := drop_rg s a
  have h3 := run_le s a ha
  unfold powE1 powA
  rw [← hu, ← hm]
  have e1 : (s.take (a + run s a)).drop a = Dg (s.drop a) := by
    rw [List.drop_take, Nat.add_sub_cancel_left]
    conv => lhs; rw [← dg_app (s.drop a)]
    rw [h1, List.take_left']
    rfl
  have e2 : (s.drop a).getD 0 0 = s.getD a 0 := by simp [List.getD_eq_getElem?_getD]
  have e3 : Rg (s.drop a) = [] ↔ a + run s a = s.length := by
    rw [← h2, List.drop_eq_nil_iff]
    omega
  have e4 : Dg (s.drop a) ≠ [] ↔ run s a ≠ 0 := by rw [h1, ne_eq, ne_eq, List.length_eq_zero_iff]
  rw [e1, e2, e3, e4, h1]
theorem drop_cons {s : List UInt8} {a : Nat} (h : a < s.length) : s.drop a = s.getD a 0 :: s.drop (a + 1) := by
  rw [List.drop_eq_getElem_cons h, List.getD_eq_getElem?_getD]
  simp [h]
theorem powE_yes {s : List UInt8} {a : Nat} (h : a < s.length) (e : s.getD a 0 = 101) : powE (s.drop a) ↔ powE1 (s.drop (a + 1)) := by
  rw [drop_cons h, e]; simp [powE]
theorem powE_no {s : List UInt8} {a : Nat} (h : a < s.length) (e : ¬ s.getD a 0 = 101) : ¬ powE (s.drop a) := by
  rw [drop_cons h]
  intro k
  have := k.2 (by simpa using e)
  cases this
theorem powE_nil {s : List UInt8} {a : Nat} (h : s.length ≤ a) : powE (s.drop a) := by
  rw [List.drop_eq_nil_iff.2 h]; simp [powE]
theorem fracE_yes {s : List UInt8} {n : Nat} (h : n < s.length) (e : s.getD n 0 = 46) : fracE (s.drop n) ↔ run s (n + 1) ≠ 0 ∧ powE (s.drop (n + 1 + run s (n + 1))) := by
  have h1 := run_dg s (n + 1)
  have h2 := drop_rg s (n + 1)
  rw [drop_cons h, e]
  simp only [fracE, List.head?_cons, List.drop_succ_cons, List.drop_zero, forall_const, ne_eq, not_true_eq_false, false_implies, and_true]
  rw [h2, h1, List.length_eq_zero_iff]
theorem fracE_no {s : List UInt8} {n : Nat} (e : ¬ s.getD n 0 = 46) : fracE (s.drop n) ↔ powE (s.drop n) := by
  have : (s.drop n).head? ≠ some 46 := by
    by_cases h : n < s.length
    · rw [ne_eq, head_at h]; exact e
    · rw [List.drop_eq_nil_iff.2 (by omega)]; simp
  exact ⟨fun k => k.2 this, fun k => ⟨fun e => absurd e this, fun _ => k⟩⟩
theorem cutP_yes {s : List UInt8} {a : Nat} (h : a < s.length) (e : s.getD a 0 = 45) : s.drop (a + 1) = cutP (s.drop a) 45 := by
  unfold cutP
  rw [if_pos ((head_at h 45).2 e), List.drop_drop]
theorem cutP_no {s : List UInt8} {a : Nat} (h : a < s.length) (e : ¬ s.getD a 0 = 45) : s.drop a = cutP (s.drop a) 45 := by
  unfold cutP
  rw [if_neg fun k => e ((head_at h 45).1 k)]
theorem specLangNumOk_ok (s : List UInt8) (hl : s.length ≤ 281474976710656) : AFunP Tryd.prog 72 [.str s] (· = .pr (litP s ∧ s.length ≤ 60)) := by
  rw [← num_ok s]
  have k0 := l11Run_ok s 0 (by omega) (by omega)
  have r0 : s.drop (run s 0) = Rg s := by have := drop_rg s 0; rwa [Nat.zero_add] at this
  have t0 := run_le s 0 (by omega)
  rw [Nat.zero_add] at t0
  have w0 : run s 0 ≠ 0 → (wd (Dg s) ↔ ¬ (1 < run s 0 ∧ s.getD 0 0 = 48)) := by
    intro h
    have d0 : run s 0 = (Dg s).length := rfl
    have e0 : s.getD 0 0 = (Dg s).getD 0 0 := by
      conv => lhs; rw [← dg_app s]
      simp only [List.getD_eq_getElem?_getD]
      rw [List.getElem?_append_left (by omega)]
    rw [d0] at h ⊢
    rw [e0]
    have ha := dg_all s
    unfold wd
    clear e0
    revert h
    match Dg s, ha with
    | [], _ => intro h; exact absurd rfl h
    | [a], ha => intro h; simp at ha; simp [ha]; exact Decidable.em _
    | a :: b :: l, ha => intro h; simp at ha; simp [ha]; exact fun _ => ha.2.2
  have w1 : wd (Dg s) → run s 0 ≠ 0 := fun k => by
    have d0 : run s 0 = (Dg s).length := rfl
    rw [d0, ne_eq, List.length_eq_zero_iff]
    exact k.1.1
  refine afun_of Tryd.func72 Tryd.call72 rfl Tryd.ntmps72 rfl ?_
  have W : Walk Tryd.prog TT 72 _ := Walk.of TT_ok Tryd.func72 Tryd.results72
  refine ce W 0 rfl rfl (k0) rfl ?_
  generalize run s 0 = n at *
  refine sp W 0 rfl rfl rfl (fun h1 => ?_) (fun h1 => ?_)
  · refine rp W 0 rfl rfl rfl (.no (fun k => by have := k.2; omega))
  refine sp W 0 rfl rfl rfl (fun h2 => ?_) (fun h2 => ?_)
  · refine rp W 0 rfl rfl rfl (.no (fun k => w1 k.1.1 (by omega)))
  refine sp W 0 rfl rfl rfl (fun h3 => ?_) (fun h3 => ?_)
  · refine sp W 0 rfl rfl rfl (fun h4 => ?_) (fun h4 => ?_)
    · have h4 := (u8_eq (c := 48)).1 h4
      refine rp W 0 rfl rfl rfl (.no (fun q => (w0 (by omega)).1 q.1.1 ⟨by omega, h4⟩))
    · have hw := (w0 (by omega)).2 fun k => h4 ((u8_eq (c := 48)).2 k.2)
      have hq0 : numE s ↔ fracE (Rg s) := ⟨fun e => e.2, fun e => ⟨hw, e⟩⟩
      refine sp W 0 rfl rfl rfl (fun p1 => ?_) (fun p1 => ?_)
      · refine sp W 0 rfl rfl rfl (fun p2 => ?_) (fun p2 => ?_)
        · rw [show (n : Int).toNat = n by omega] at p2
          have p2 := (u8_eq (c := 46)).1 p2
          have kk : AFunP Tryd.prog 93 [.str s, .int .i64 ((n : Int) + 1)] (· = .int .i64 (run s (n + 1) : Nat)) := l11Run_ok s (n + 1) (by omega) (by omega)
          have tk := run_le s (n + 1) (by omega)
          have hf : numE s ↔ run s (n + 1) ≠ 0 ∧ powE (s.drop (n + 1 + run s (n + 1))) := by
            refine hq0.trans ?_
            rw [← r0, fracE_yes (by omega) p2]
          refine ce W 0 rfl rfl (kk) rfl ?_
          generalize run s (n + 1) = j at *
          refine sp W 0 rfl rfl rfl (fun p5 => ?_) (fun p5 => ?_)
          · refine rp W 0 rfl rfl rfl (.no (fun q => (hf.1 q.1).1 (by omega)))
          have hq : numE s ↔ powE (s.drop (n + 1 + j)) := ⟨fun e => (hf.1 e).2, fun e => hf.2 ⟨by omega, e⟩⟩
          refine sp W 0 rfl rfl rfl (fun p3 => ?_) (fun p3 => ?_)
          · refine sp W 0 rfl rfl rfl (fun p4 => ?_) (fun p4 => ?_)
            · rw [show ((n : Int) + 1 + (j : Int)).toNat = n + 1 + j by omega] at p4
              have hq2 : numE s ↔ powE1 (s.drop (n + 1 + j + 1)) := hq.trans (powE_yes (by omega) ((u8_eq (c := 101)).1 p4))
              refine sp W 0 rfl rfl rfl (fun m1 => ?_) (fun m1 => ?_)
              · refine sp W 0 rfl rfl rfl (fun m2 => ?_) (fun m2 => ?_)
                · rw [show ((n : Int) + 1 + (j : Int) + 1).toNat = n + 1 + j + 1 by omega] at m2
                  have hu : s.drop (n + 1 + j + 1 + 1) = cutP (s.drop (n + 1 + j + 1)) 45 := cutP_yes (by omega) ((u8_eq (c := 45)).1 m2)
                  have hm : True ↔ (s.drop (n + 1 + j + 1)).head? = some 45 := by rw [head_at (by omega)]; exact ⟨fun _ => (u8_eq (c := 45)).1 m2, fun _ => trivial⟩
                  rw [← show ((n : Int) + 1 + (j : Int) + 1).toNat = n + 1 + j + 1 by omega] at m2
                  have kr : AFunP Tryd.prog 93 [.str s, .int .i64 ((n : Int) + 1 + (j : Int) + 1 + 1)] (· = .int .i64 (run s (n + 1 + j + 1 + 1) : Nat)) := by
                    have := l11Run_ok s (n + 1 + j + 1 + 1) (by omega) (by omega)
                    rwa [show ((n + 1 + j + 1 + 1 : Nat) : Int) = (n : Int) + 1 + (j : Int) + 1 + 1 by omega] at this
                  have tr := run_le s (n + 1 + j + 1 + 1) (by omega)
                  have hP := hq2.trans (powA_ok (a := n + 1 + j + 1 + 1) (m := True) (by omega) hu hm)
                  unfold powA at hP
                  refine ce W 0 rfl rfl (kr) rfl ?_
                  generalize run s (n + 1 + j + 1 + 1) = k at *
                  refine sp W 0 rfl rfl rfl (fun c1 => ?_) (fun c1 => ?_)
                  · refine rp W 0 rfl rfl rfl (.no (fun q => (hP.1 q.1).1 (by omega)))
                  refine sp W 0 rfl rfl rfl (fun c2 => ?_) (fun c2 => ?_)
                  · refine rp W 0 rfl rfl rfl (.no (fun q => by have := (hP.1 q.1).2.1; omega))
                  refine sp W 0 rfl rfl rfl (fun c3 => ?_) (fun c3 => ?_)
                  · have c3 : s.getD (n + 1 + j + 1 + 1) 0 = 48 := by rw [show ((n : Int) + 1 + (j : Int) + 1 + 1).toNat = n + 1 + j + 1 + 1 by omega] at c3; exact (u8_eq (c := 48)).1 c3
                    refine sp W 0 rfl rfl rfl (fun c4 => ?_) (fun c4 => ?_)
                    · refine rp W 0 rfl rfl rfl (.no (fun q => (hP.1 q.1).2.2.1 ⟨c3, .inl (by omega)⟩))
                    · refine sp W 0 rfl rfl rfl (fun c5 => ?_) (fun c5 => ?_)
                      · refine rp W 0 rfl rfl rfl (.no (fun q => (hP.1 q.1).2.2.1 ⟨c3, .inr trivial⟩))
                      · exact absurd m2 c5
                  · have c3 : ¬ s.getD (n + 1 + j + 1 + 1) 0 = 48 := fun e => c3 (by rw [show ((n : Int) + 1 + (j : Int) + 1 + 1).toNat = n + 1 + j + 1 + 1 by omega]; exact (u8_eq (c := 48)).2 e)
                    have f3 : ¬ (s.getD (n + 1 + j + 1 + 1) 0 = 48 ∧ (1 < k ∨ True)) := fun q => c3 q.1
                    refine sp W 0 rfl rfl rfl (fun c6 => ?_) (fun c6 => ?_)
                    · refine sp W 0 rfl rfl rfl (fun c7 => ?_) (fun c7 => ?_)
                      · rw [show ((n : Int) + 1 + (j : Int) + 1 + 1).toNat = n + 1 + j + 1 + 1 by omega, show (((n : Int) + 1 + (j : Int) + 1 + 1) + (k : Int)).toNat = n + 1 + j + 1 + 1 + k by omega] at c7
                        refine rp W 0 rfl rfl rfl (.no (fun q => (hP.1 q.1).2.2.2.1 ⟨by omega, c7⟩))
                      · rw [show ((n : Int) + 1 + (j : Int) + 1 + 1).toNat = n + 1 + j + 1 + 1 by omega, show (((n : Int) + 1 + (j : Int) + 1 + 1) + (k : Int)).toNat = n + 1 + j + 1 + 1 + k by omega] at c7
                        have f4 : ¬ (k = 3 ∧ ¬ (Op.bytesLess ((s.take (n + 1 + j + 1 + 1 + k)).drop (n + 1 + j + 1 + 1)) [52, 48, 48] = true ∨ (s.take (n + 1 + j + 1 + 1 + k)).drop (n + 1 + j + 1 + 1) = [52, 48, 48])) := fun q => c7 q.2
                        refine rp W 0 rfl rfl rfl (.pr ⟨fun e => ⟨hP.2 ⟨by omega, by omega, f3, f4, by omega⟩, by omega⟩, fun q => by have := (hP.1 q.1).2.2.2.2; omega⟩)
                    · have f4 : ¬ (k = 3 ∧ ¬ (Op.bytesLess ((s.take (n + 1 + j + 1 + 1 + k)).drop (n + 1 + j + 1 + 1)) [52, 48, 48] = true ∨ (s.take (n + 1 + j + 1 + 1 + k)).drop (n + 1 + j + 1 + 1) = [52, 48, 48])) := fun q => by have := q.1; omega
                      refine rp W 0 rfl rfl rfl (.pr ⟨fun e => ⟨hP.2 ⟨by omega, by omega, f3, f4, by omega⟩, by omega⟩, fun q => by have := (hP.1 q.1).2.2.2.2; omega⟩)
                · rw [show ((n : Int) + 1 + (j : Int) + 1).toNat = n + 1 + j + 1 by omega] at m2
                  have hu : s.drop (n + 1 + j + 1) = cutP (s.drop (n + 1 + j + 1)) 45 := cutP_no (by omega) fun e => m2 ((u8_eq (c := 45)).2 e)
                  have hm : False ↔ (s.drop (n + 1 + j + 1)).head? = some 45 := by rw [head_at (by omega)]; exact ⟨False.elim, fun e => m2 ((u8_eq (c := 45)).2 e)⟩
                  rw [← show ((n : Int) + 1 + (j : Int) + 1).toNat = n + 1 + j + 1 by omega] at m2
                  have kr : AFunP Tryd.prog 93 [.str s, .int .i64 ((n : Int) + 1 + (j : Int) + 1)] (· = .int .i64 (run s (n + 1 + j + 1) : Nat)) := by
                    have := l11Run_ok s (n + 1 + j + 1) (by omega) (by omega)
                    rwa [show ((n + 1 + j + 1 : Nat) : Int) = (n : Int) + 1 + (j : Int) + 1 by omega] at this
                  have tr := run_le s (n + 1 + j + 1) (by omega)
                  have hP := hq2.trans (powA_ok (a := n + 1 + j + 1) (m := False) (by omega) hu hm)
                  unfold powA at hP
                  refine ce W 0 rfl rfl (kr) rfl ?_
                  generalize run s (n + 1 + j + 1) = k at *
                  refine sp W 0 rfl rfl rfl (fun c1 => ?_) (fun c1 => ?_)
                  · refine rp W 0 rfl rfl rfl (.no (fun q => (hP.1 q.1).1 (by omega)))
                  refine sp W 0 rfl rfl rfl (fun c2 => ?_) (fun c2 => ?_)
                  · refine rp W 0 rfl rfl rfl (.no (fun q => by have := (hP.1 q.1).2.1; omega))
                  refine sp W 0 rfl rfl rfl (fun c3 => ?_) (fun c3 => ?_)
                  · have c3 : s.getD (n + 1 + j + 1) 0 = 48 := by rw [show ((n : Int) + 1 + (j : Int) + 1).toNat = n + 1 + j + 1 by omega] at c3; exact (u8_eq (c := 48)).1 c3
                    refine sp W 0 rfl rfl rfl (fun c4 => ?_) (fun c4 => ?_)
                    · refine rp W 0 rfl rfl rfl (.no (fun q => (hP.1 q.1).2.2.1 ⟨c3, .inl (by omega)⟩))
                    · refine sp W 0 rfl rfl rfl (fun c5 => ?_) (fun c5 => ?_)
                      · exact absurd c5 m2
                      · have f3 : ¬ (s.getD (n + 1 + j + 1) 0 = 48 ∧ (1 < k ∨ False)) := fun q => q.2.elim (fun q => by omega) id
                        refine sp W 0 rfl rfl rfl (fun c6 => ?_) (fun c6 => ?_)
                        · refine sp W 0 rfl rfl rfl (fun c7 => ?_) (fun c7 => ?_)
                          · rw [show ((n : Int) + 1 + (j : Int) + 1).toNat = n + 1 + j + 1 by omega, show (((n : Int) + 1 + (j : Int) + 1) + (k : Int)).toNat = n + 1 + j + 1 + k by omega] at c7
                            refine rp W 0 rfl rfl rfl (.no (fun q => (hP.1 q.1).2.2.2.1 ⟨by omega, c7⟩))
                          · rw [show ((n : Int) + 1 + (j : Int) + 1).toNat = n + 1 + j + 1 by omega, show (((n : Int) + 1 + (j : Int) + 1) + (k : Int)).toNat = n + 1 + j + 1 + k by omega] at c7
                            have f4 : ¬ (k = 3 ∧ ¬ (Op.bytesLess ((s.take (n + 1 + j + 1 + k)).drop (n + 1 + j + 1)) [52, 48, 48] = true ∨ (s.take (n + 1 + j + 1 + k)).drop (n + 1 + j + 1) = [52, 48, 48])) := fun q => c7 q.2
                            refine rp W 0 rfl rfl rfl (.pr ⟨fun e => ⟨hP.2 ⟨by omega, by omega, f3, f4, by omega⟩, by omega⟩, fun q => by have := (hP.1 q.1).2.2.2.2; omega⟩)
                        · have f4 : ¬ (k = 3 ∧ ¬ (Op.bytesLess ((s.take (n + 1 + j + 1 + k)).drop (n + 1 + j + 1)) [52, 48, 48] = true ∨ (s.take (n + 1 + j + 1 + k)).drop (n + 1 + j + 1) = [52, 48, 48])) := fun q => by have := q.1; omega
                          refine rp W 0 rfl rfl rfl (.pr ⟨fun e => ⟨hP.2 ⟨by omega, by omega, f3, f4, by omega⟩, by omega⟩, fun q => by have := (hP.1 q.1).2.2.2.2; omega⟩)
                  · have c3 : ¬ s.getD (n + 1 + j + 1) 0 = 48 := fun e => c3 (by rw [show ((n : Int) + 1 + (j : Int) + 1).toNat = n + 1 + j + 1 by omega]; exact (u8_eq (c := 48)).2 e)
                    have f3 : ¬ (s.getD (n + 1 + j + 1) 0 = 48 ∧ (1 < k ∨ False)) := fun q => c3 q.1
                    refine sp W 0 rfl rfl rfl (fun c6 => ?_) (fun c6 => ?_)
                    · refine sp W 0 rfl rfl rfl (fun c7 => ?_) (fun c7 => ?_)
                      · rw [show ((n : Int) + 1 + (j : Int) + 1).toNat = n + 1 + j + 1 by omega, show (((n : Int) + 1 + (j : Int) + 1) + (k : Int)).toNat = n + 1 + j + 1 + k by omega] at c7
                        refine rp W 0 rfl rfl rfl (.no (fun q => (hP.1 q.1).2.2.2.1 ⟨by omega, c7⟩))
                      · rw [show ((n : Int) + 1 + (j : Int) + 1).toNat = n + 1 + j + 1 by omega, show (((n : Int) + 1 + (j : Int) + 1) + (k : Int)).toNat = n + 1 + j + 1 + k by omega] at c7
                        have f4 : ¬ (k = 3 ∧ ¬ (Op.bytesLess ((s.take (n + 1 + j + 1 + k)).drop (n + 1 + j + 1)) [52, 48, 48] = true ∨ (s.take (n + 1 + j + 1 + k)).drop (n + 1 + j + 1) = [52, 48, 48])) := fun q => c7 q.2
                        refine rp W 0 rfl rfl rfl (.pr ⟨fun e => ⟨hP.2 ⟨by omega, by omega, f3, f4, by omega⟩, by omega⟩, fun q => by have := (hP.1 q.1).2.2.2.2; omega⟩)
                    · have f4 : ¬ (k = 3 ∧ ¬ (Op.bytesLess ((s.take (n + 1 + j + 1 + k)).drop (n + 1 + j + 1)) [52, 48, 48] = true ∨ (s.take (n + 1 + j + 1 + k)).drop (n + 1 + j + 1) = [52, 48, 48])) := fun q => by have := q.1; omega
                      refine rp W 0 rfl rfl rfl (.pr ⟨fun e => ⟨hP.2 ⟨by omega, by omega, f3, f4, by omega⟩, by omega⟩, fun q => by have := (hP.1 q.1).2.2.2.2; omega⟩)
              · have e0 : s.drop (n + 1 + j + 1) = [] := List.drop_eq_nil_iff.2 (by omega)
                have hu : s.drop (n + 1 + j + 1) = cutP (s.drop (n + 1 + j + 1)) 45 := by rw [e0]; rfl
                have hm : False ↔ (s.drop (n + 1 + j + 1)).head? = some 45 := by rw [e0]; simp
                have kr : AFunP Tryd.prog 93 [.str s, .int .i64 ((n : Int) + 1 + (j : Int) + 1)] (· = .int .i64 (run s (n + 1 + j + 1) : Nat)) := by
                  have := l11Run_ok s (n + 1 + j + 1) (by omega) (by omega)
                  rwa [show ((n + 1 + j + 1 : Nat) : Int) = (n : Int) + 1 + (j : Int) + 1 by omega] at this
                have tr := run_le s (n + 1 + j + 1) (by omega)
                have hP := hq2.trans (powA_ok (a := n + 1 + j + 1) (m := False) (by omega) hu hm)
                unfold powA at hP
                refine ce W 0 rfl rfl (kr) rfl ?_
                generalize run s (n + 1 + j + 1) = k at *
                refine sp W 0 rfl rfl rfl (fun c1 => ?_) (fun c1 => ?_)
                · refine rp W 0 rfl rfl rfl (.no (fun q => (hP.1 q.1).1 (by omega)))
                refine sp W 0 rfl rfl rfl (fun c2 => ?_) (fun c2 => ?_)
                · refine rp W 0 rfl rfl rfl (.no (fun q => by have := (hP.1 q.1).2.1; omega))
                refine sp W 0 rfl rfl rfl (fun c3 => ?_) (fun c3 => ?_)
                · have c3 : s.getD (n + 1 + j + 1) 0 = 48 := by rw [show ((n : Int) + 1 + (j : Int) + 1).toNat = n + 1 + j + 1 by omega] at c3; exact (u8_eq (c := 48)).1 c3
                  refine sp W 0 rfl rfl rfl (fun c4 => ?_) (fun c4 => ?_)
                  · refine rp W 0 rfl rfl rfl (.no (fun q => (hP.1 q.1).2.2.1 ⟨c3, .inl (by omega)⟩))
                  · have f3 : ¬ (s.getD (n + 1 + j + 1) 0 = 48 ∧ (1 < k ∨ False)) := fun q => q.2.elim (fun q => by omega) id
                    refine sp W 0 rfl rfl rfl (fun c6 => ?_) (fun c6 => ?_)
                    · refine sp W 0 rfl rfl rfl (fun c7 => ?_) (fun c7 => ?_)
                      · rw [show ((n : Int) + 1 + (j : Int) + 1).toNat = n + 1 + j + 1 by omega, show (((n : Int) + 1 + (j : Int) + 1) + (k : Int)).toNat = n + 1 + j + 1 + k by omega] at c7
                        refine rp W 0 rfl rfl rfl (.no (fun q => (hP.1 q.1).2.2.2.1 ⟨by omega, c7⟩))
                      · rw [show ((n : Int) + 1 + (j : Int) + 1).toNat = n + 1 + j + 1 by omega, show (((n : Int) + 1 + (j : Int) + 1) + (k : Int)).toNat = n + 1 + j + 1 + k by omega] at c7
                        have f4 : ¬ (k = 3 ∧ ¬ (Op.bytesLess ((s.take (n + 1 + j + 1 + k)).drop (n + 1 + j + 1)) [52, 48, 48] = true ∨ (s.take (n + 1 + j + 1 + k)).drop (n + 1 + j + 1) = [52, 48, 48])) := fun q => c7 q.2
                        refine rp W 0 rfl rfl rfl (.pr ⟨fun e => ⟨hP.2 ⟨by omega, by omega, f3, f4, by omega⟩, by omega⟩, fun q => by have := (hP.1 q.1).2.2.2.2; omega⟩)
                    · have f4 : ¬ (k = 3 ∧ ¬ (Op.bytesLess ((s.take (n + 1 + j + 1 + k)).drop (n + 1 + j + 1)) [52, 48, 48] = true ∨ (s.take (n + 1 + j + 1 + k)).drop (n + 1 + j + 1) = [52, 48, 48])) := fun q => by have := q.1; omega
                      refine rp W 0 rfl rfl rfl (.pr ⟨fun e => ⟨hP.2 ⟨by omega, by omega, f3, f4, by omega⟩, by omega⟩, fun q => by have := (hP.1 q.1).2.2.2.2; omega⟩)
                · have c3 : ¬ s.getD (n + 1 + j + 1) 0 = 48 := fun e => c3 (by rw [show ((n : Int) + 1 + (j : Int) + 1).toNat = n + 1 + j + 1 by omega]; exact (u8_eq (c := 48)).2 e)
                  have f3 : ¬ (s.getD (n + 1 + j + 1) 0 = 48 ∧ (1 < k ∨ False)) := fun q => c3 q.1
                  refine sp W 0 rfl rfl rfl (fun c6 => ?_) (fun c6 => ?_)
                  · refine sp W 0 rfl rfl rfl (fun c7 => ?_) (fun c7 => ?_)
                    · rw [show ((n : Int) + 1 + (j : Int) + 1).toNat = n + 1 + j + 1 by omega, show (((n : Int) + 1 + (j : Int) + 1) + (k : Int)).toNat = n + 1 + j + 1 + k by omega] at c7
                      refine rp W 0 rfl rfl rfl (.no (fun q => (hP.1 q.1).2.2.2.1 ⟨by omega, c7⟩))
                    · rw [show ((n : Int) + 1 + (j : Int) + 1).toNat = n + 1 + j + 1 by omega, show (((n : Int) + 1 + (j : Int) + 1) + (k : Int)).toNat = n + 1 + j + 1 + k by omega] at c7
                      have f4 : ¬ (k = 3 ∧ ¬ (Op.bytesLess ((s.take (n + 1 + j + 1 + k)).drop (n + 1 + j + 1)) [52, 48, 48] = true ∨ (s.take (n + 1 + j + 1 + k)).drop (n + 1 + j + 1) = [52, 48, 48])) := fun q => c7 q.2
                      refine rp W 0 rfl rfl rfl (.pr ⟨fun e => ⟨hP.2 ⟨by omega, by omega, f3, f4, by omega⟩, by omega⟩, fun q => by have := (hP.1 q.1).2.2.2.2; omega⟩)
                  · have f4 : ¬ (k = 3 ∧ ¬ (Op.bytesLess ((s.take (n + 1 + j + 1 + k)).drop (n + 1 + j + 1)) [52, 48, 48] = true ∨ (s.take (n + 1 + j + 1 + k)).drop (n + 1 + j + 1) = [52, 48, 48])) := fun q => by have := q.1; omega
                    refine rp W 0 rfl rfl rfl (.pr ⟨fun e => ⟨hP.2 ⟨by omega, by omega, f3, f4, by omega⟩, by omega⟩, fun q => by have := (hP.1 q.1).2.2.2.2; omega⟩)
            · rw [show ((n : Int) + 1 + (j : Int)).toNat = n + 1 + j by omega] at p4
              have hn : ¬ numE s := fun e => powE_no (by omega) (fun e => p4 ((u8_eq (c := 101)).2 e)) (hq.1 e)
              refine rp W 0 rfl rfl rfl (.pr ⟨fun e => by omega, fun e => absurd e.1 hn⟩)
          · have hn : numE s := hq.2 (powE_nil (by omega))
            refine rp W 0 rfl rfl rfl (.pr ⟨fun e => ⟨hn, by omega⟩, fun e => by omega⟩)
        · rw [show (n : Int).toNat = n by omega] at p2
          have hq : numE s ↔ powE (s.drop n) := by
            refine hq0.trans ?_
            rw [← r0, fracE_no fun e => p2 ((u8_eq (c := 46)).2 e)]
          refine sp W 0 rfl rfl rfl (fun p3 => ?_) (fun p3 => ?_)
          · refine sp W 0 rfl rfl rfl (fun p4 => ?_) (fun p4 => ?_)
            · rw [show ((n : Int)).toNat = n by omega] at p4
              have hq2 : numE s ↔ powE1 (s.drop (n + 1)) := hq.trans (powE_yes (by omega) ((u8_eq (c := 101)).1 p4))
              refine sp W 0 rfl rfl rfl (fun m1 => ?_) (fun m1 => ?_)
              · refine sp W 0 rfl rfl rfl (fun m2 => ?_) (fun m2 => ?_)
                · rw [show ((n : Int) + 1).toNat = n + 1 by omega] at m2
                  have hu : s.drop (n + 1 + 1) = cutP (s.drop (n + 1)) 45 := cutP_yes (by omega) ((u8_eq (c := 45)).1 m2)
                  have hm : True ↔ (s.drop (n + 1)).head? = some 45 := by rw [head_at (by omega)]; exact ⟨fun _ => (u8_eq (c := 45)).1 m2, fun _ => trivial⟩
                  rw [← show ((n : Int) + 1).toNat = n + 1 by omega] at m2
                  have kr : AFunP Tryd.prog 93 [.str s, .int .i64 ((n : Int) + 1 + 1)] (· = .int .i64 (run s (n + 1 + 1) : Nat)) := by
                    have := l11Run_ok s (n + 1 + 1) (by omega) (by omega)
                    rwa [show ((n + 1 + 1 : Nat) : Int) = (n : Int) + 1 + 1 by omega] at this
                  have tr := run_le s (n + 1 + 1) (by omega)
                  have hP := hq2.trans (powA_ok (a := n + 1 + 1) (m := True) (by omega) hu hm)
                  unfold powA at hP
                  refine ce W 0 rfl rfl (kr) rfl ?_
                  generalize run s (n + 1 + 1) = k at *
                  refine sp W 0 rfl rfl rfl (fun c1 => ?_) (fun c1 => ?_)
                  · refine rp W 0 rfl rfl rfl (.no (fun q => (hP.1 q.1).1 (by omega)))
                  refine sp W 0 rfl rfl rfl (fun c2 => ?_) (fun c2 => ?_)
                  · refine rp W 0 rfl rfl rfl (.no (fun q => by have := (hP.1 q.1).2.1; omega))
                  refine sp W 0 rfl rfl rfl (fun c3 => ?_) (fun c3 => ?_)
                  · have c3 : s.getD (n + 1 + 1) 0 = 48 := by rw [show ((n : Int) + 1 + 1).toNat = n + 1 + 1 by omega] at c3; exact (u8_eq (c := 48)).1 c3
                    refine sp W 0 rfl rfl rfl (fun c4 => ?_) (fun c4 => ?_)
                    · refine rp W 0 rfl rfl rfl (.no (fun q => (hP.1 q.1).2.2.1 ⟨c3, .inl (by omega)⟩))
                    · refine sp W 0 rfl rfl rfl (fun c5 => ?_) (fun c5 => ?_)
                      · refine rp W 0 rfl rfl rfl (.no (fun q => (hP.1 q.1).2.2.1 ⟨c3, .inr trivial⟩))
                      · exact absurd m2 c5
                  · have c3 : ¬ s.getD (n + 1 + 1) 0 = 48 := fun e => c3 (by rw [show ((n : Int) + 1 + 1).toNat = n + 1 + 1 by omega]; exact (u8_eq (c := 48)).2 e)
                    have f3 : ¬ (s.getD (n + 1 + 1) 0 = 48 ∧ (1 < k ∨ True)) := fun q => c3 q.1
                    refine sp W 0 rfl rfl rfl (fun c6 => ?_) (fun c6 => ?_)
                    · refine sp W 0 rfl rfl rfl (fun c7 => ?_) (fun c7 => ?_)
                      · rw [show ((n : Int) + 1 + 1).toNat = n + 1 + 1 by omega, show (((n : Int) + 1 + 1) + (k : Int)).toNat = n + 1 + 1 + k by omega] at c7
                        refine rp W 0 rfl rfl rfl (.no (fun q => (hP.1 q.1).2.2.2.1 ⟨by omega, c7⟩))
                      · rw [show ((n : Int) + 1 + 1).toNat = n + 1 + 1 by omega, show (((n : Int) + 1 + 1) + (k : Int)).toNat = n + 1 + 1 + k by omega] at c7
                        have f4 : ¬ (k = 3 ∧ ¬ (Op.bytesLess ((s.take (n + 1 + 1 + k)).drop (n + 1 + 1)) [52, 48, 48] = true ∨ (s.take (n + 1 + 1 + k)).drop (n + 1 + 1) = [52, 48, 48])) := fun q => c7 q.2
                        refine rp W 0 rfl rfl rfl (.pr ⟨fun e => ⟨hP.2 ⟨by omega, by omega, f3, f4, by omega⟩, by omega⟩, fun q => by have := (hP.1 q.1).2.2.2.2; omega⟩)
                    · have f4 : ¬ (k = 3 ∧ ¬ (Op.bytesLess ((s.take (n + 1 + 1 + k)).drop (n + 1 + 1)) [52, 48, 48] = true ∨ (s.take (n + 1 + 1 + k)).drop (n + 1 + 1) = [52, 48, 48])) := fun q => by have := q.1; omega
                      refine rp W 0 rfl rfl rfl (.pr ⟨fun e => ⟨hP.2 ⟨by omega, by omega, f3, f4, by omega⟩, by omega⟩, fun q => by have := (hP.1 q.1).2.2.2.2; omega⟩)
                · rw [show ((n : Int) + 1).toNat = n + 1 by omega] at m2
                  have hu : s.drop (n + 1) = cutP (s.drop (n + 1)) 45 := cutP_no (by omega) fun e => m2 ((u8_eq (c := 45)).2 e)
                  have hm : False ↔ (s.drop (n + 1)).head? = some 45 := by rw [head_at (by omega)]; exact ⟨False.elim, fun e => m2 ((u8_eq (c := 45)).2 e)⟩
                  rw [← show ((n : Int) + 1).toNat = n + 1 by omega] at m2
                  have kr : AFunP Tryd.prog 93 [.str s, .int .i64 ((n : Int) + 1)] (· = .int .i64 (run s (n + 1) : Nat)) := by
                    have := l11Run_ok s (n + 1) (by omega) (by omega)
                    rwa [show ((n + 1 : Nat) : Int) = (n : Int) + 1 by omega] at this
                  have tr := run_le s (n + 1) (by omega)
                  have hP := hq2.trans (powA_ok (a := n + 1) (m := False) (by omega) hu hm)
                  unfold powA at hP
                  refine ce W 0 rfl rfl (kr) rfl ?_
                  generalize run s (n + 1) = k at *
                  refine sp W 0 rfl rfl rfl (fun c1 => ?_) (fun c1 => ?_)
                  · refine rp W 0 rfl rfl rfl (.no (fun q => (hP.1 q.1).1 (by omega)))
                  refine sp W 0 rfl rfl rfl (fun c2 => ?_) (fun c2 => ?_)
                  · refine rp W 0 rfl rfl rfl (.no (fun q => by have := (hP.1 q.1).2.1; omega))
                  refine sp W 0 rfl rfl rfl (fun c3 => ?_) (fun c3 => ?_)
                  · have c3 : s.getD (n + 1) 0 = 48 := by rw [show ((n : Int) + 1).toNat = n + 1 by omega] at c3; exact (u8_eq (c := 48)).1 c3
                    refine sp W 0 rfl rfl rfl (fun c4 => ?_) (fun c4 => ?_)
                    · refine rp W 0 rfl rfl rfl (.no (fun q => (hP.1 q.1).2.2.1 ⟨c3, .inl (by omega)⟩))
                    · refine sp W 0 rfl rfl rfl (fun c5 => ?_) (fun c5 => ?_)
                      · exact absurd c5 m2
                      · have f3 : ¬ (s.getD (n + 1) 0 = 48 ∧ (1 < k ∨ False)) := fun q => q.2.elim (fun q => by omega) id
                        refine sp W 0 rfl rfl rfl (fun c6 => ?_) (fun c6 => ?_)
                        · refine sp W 0 rfl rfl rfl (fun c7 => ?_) (fun c7 => ?_)
                          · rw [show ((n : Int) + 1).toNat = n + 1 by omega, show (((n : Int) + 1) + (k : Int)).toNat = n + 1 + k by omega] at c7
                            refine rp W 0 rfl rfl rfl (.no (fun q => (hP.1 q.1).2.2.2.1 ⟨by omega, c7⟩))
                          · rw [show ((n : Int) + 1).toNat = n + 1 by omega, show (((n : Int) + 1) + (k : Int)).toNat = n + 1 + k by omega] at c7
                            have f4 : ¬ (k = 3 ∧ ¬ (Op.bytesLess ((s.take (n + 1 + k)).drop (n + 1)) [52, 48, 48] = true ∨ (s.take (n + 1 + k)).drop (n + 1) = [52, 48, 48])) := fun q => c7 q.2
                            refine rp W 0 rfl rfl rfl (.pr ⟨fun e => ⟨hP.2 ⟨by omega, by omega, f3, f4, by omega⟩, by omega⟩, fun q => by have := (hP.1 q.1).2.2.2.2; omega⟩)
                        · have f4 : ¬ (k = 3 ∧ ¬ (Op.bytesLess ((s.take (n + 1 + k)).drop (n + 1)) [52, 48, 48] = true ∨ (s.take (n + 1 + k)).drop (n + 1) = [52, 48, 48])) := fun q => by have := q.1; omega
                          refine rp W 0 rfl rfl rfl (.pr ⟨fun e => ⟨hP.2 ⟨by omega, by omega, f3, f4, by omega⟩, by omega⟩, fun q => by have := (hP.1 q.1).2.2.2.2; omega⟩)
                  · have c3 : ¬ s.getD (n + 1) 0 = 48 := fun e => c3 (by rw [show ((n : Int) + 1).toNat = n + 1 by omega]; exact (u8_eq (c := 48)).2 e)
                    have f3 : ¬ (s.getD (n + 1) 0 = 48 ∧ (1 < k ∨ False)) := fun q => c3 q.1
                    refine sp W 0 rfl rfl rfl (fun c6 => ?_) (fun c6 => ?_)
                    · refine sp W 0 rfl rfl rfl (fun c7 => ?_) (fun c7 => ?_)
                      · rw [show ((n : Int) + 1).toNat = n + 1 by omega, show (((n : Int) + 1) + (k : Int)).toNat = n + 1 + k by omega] at c7
                        refine rp W 0 rfl rfl rfl (.no (fun q => (hP.1 q.1).2.2.2.1 ⟨by omega, c7⟩))
                      · rw [show ((n : Int) + 1).toNat = n + 1 by omega, show (((n : Int) + 1) + (k : Int)).toNat = n + 1 + k by omega] at c7
                        have f4 : ¬ (k = 3 ∧ ¬ (Op.bytesLess ((s.take (n + 1 + k)).drop (n + 1)) [52, 48, 48] = true ∨ (s.take (n + 1 + k)).drop (n + 1) = [52, 48, 48])) := fun q => c7 q.2
                        refine rp W 0 rfl rfl rfl (.pr ⟨fun e => ⟨hP.2 ⟨by omega, by omega, f3, f4, by omega⟩, by omega⟩, fun q => by have := (hP.1 q.1).2.2.2.2; omega⟩)
                    · have f4 : ¬ (k = 3 ∧ ¬ (Op.bytesLess ((s.take (n + 1 + k)).drop (n + 1)) [52, 48, 48] = true ∨ (s.take (n + 1 + k)).drop (n + 1) = [52, 48, 48])) := fun q => by have := q.1; omega
                      refine rp W 0 rfl rfl rfl (.pr ⟨fun e => ⟨hP.2 ⟨by omega, by omega, f3, f4, by omega⟩, by omega⟩, fun q => by have := (hP.1 q.1).2.2.2.2; omega⟩)
              · have e0 : s.drop (n + 1) = [] := List.drop_eq_nil_iff.2 (by omega)
                have hu : s.drop (n + 1) = cutP (s.drop (n + 1)) 45 := by rw [e0]; rfl
                have hm : False ↔ (s.drop (n + 1)).head? = some 45 := by rw [e0]; simp
                have kr : AFunP Tryd.prog 93 [.str s, .int .i64 ((n : Int) + 1)] (· = .int .i64 (run s (n + 1) : Nat)) := by
                  have := l11Run_ok s (n + 1) (by omega) (by omega)
                  rwa [show ((n + 1 : Nat) : Int) = (n : Int) + 1 by omega] at this
                have tr := run_le s (n + 1) (by omega)
                have hP := hq2.trans (powA_ok (a := n + 1) (m := False) (by omega) hu hm)
                unfold powA at hP
                refine ce W 0 rfl rfl (kr) rfl ?_
                generalize run s (n + 1) = k at *
                refine sp W 0 rfl rfl rfl (fun c1 => ?_) (fun c1 => ?_)
                · refine rp W 0 rfl rfl rfl (.no (fun q => (hP.1 q.1).1 (by omega)))
                refine sp W 0 rfl rfl rfl (fun c2 => ?_) (fun c2 => ?_)
                · refine rp W 0 rfl rfl rfl (.no (fun q => by have := (hP.1 q.1).2.1; omega))
                refine sp W 0 rfl rfl rfl (fun c3 => ?_) (fun c3 => ?_)
                · have c3 : s.getD (n + 1) 0 = 48 := by rw [show ((n : Int) + 1).toNat = n + 1 by omega] at c3; exact (u8_eq (c := 48)).1 c3
                  refine sp W 0 rfl rfl rfl (fun c4 => ?_) (fun c4 => ?_)
                  · refine rp W 0 rfl rfl rfl (.no (fun q => (hP.1 q.1).2.2.1 ⟨c3, .inl (by omega)⟩))
                  · have f3 : ¬ (s.getD (n + 1) 0 = 48 ∧ (1 < k ∨ False)) := fun q => q.2.elim (fun q => by omega) id
                    refine sp W 0 rfl rfl rfl (fun c6 => ?_) (fun c6 => ?_)
                    · refine sp W 0 rfl rfl rfl (fun c7 => ?_) (fun c7 => ?_)
                      · rw [show ((n : Int) + 1).toNat = n + 1 by omega, show (((n : Int) + 1) + (k : Int)).toNat = n + 1 + k by omega] at c7
                        refine rp W 0 rfl rfl rfl (.no (fun q => (hP.1 q.1).2.2.2.1 ⟨by omega, c7⟩))
                      · rw [show ((n : Int) + 1).toNat = n + 1 by omega, show (((n : Int) + 1) + (k : Int)).toNat = n + 1 + k by omega] at c7
                        have f4 : ¬ (k = 3 ∧ ¬ (Op.bytesLess ((s.take (n + 1 + k)).drop (n + 1)) [52, 48, 48] = true ∨ (s.take (n + 1 + k)).drop (n + 1) = [52, 48, 48])) := fun q => c7 q.2
                        refine rp W 0 rfl rfl rfl (.pr ⟨fun e => ⟨hP.2 ⟨by omega, by omega, f3, f4, by omega⟩, by omega⟩, fun q => by have := (hP.1 q.1).2.2.2.2; omega⟩)
                    · have f4 : ¬ (k = 3 ∧ ¬ (Op.bytesLess ((s.take (n + 1 + k)).drop (n + 1)) [52, 48, 48] = true ∨ (s.take (n + 1 + k)).drop (n + 1) = [52, 48, 48])) := fun q => by have := q.1; omega
                      refine rp W 0 rfl rfl rfl (.pr ⟨fun e => ⟨hP.2 ⟨by omega, by omega, f3, f4, by omega⟩, by omega⟩, fun q => by have := (hP.1 q.1).2.2.2.2; omega⟩)
                · have c3 : ¬ s.getD (n + 1) 0 = 48 := fun e => c3 (by rw [show ((n : Int) + 1).toNat = n + 1 by omega]; exact (u8_eq (c := 48)).2 e)
                  have f3 : ¬ (s.getD (n + 1) 0 = 48 ∧ (1 < k ∨ False)) := fun q => c3 q.1
                  refine sp W 0 rfl rfl rfl (fun c6 => ?_) (fun c6 => ?_)
                  · refine sp W 0 rfl rfl rfl (fun c7 => ?_) (fun c7 => ?_)
                    · rw [show ((n : Int) + 1).toNat = n + 1 by omega, show (((n : Int) + 1) + (k : Int)).toNat = n + 1 + k by omega] at c7
                      refine rp W 0 rfl rfl rfl (.no (fun q => (hP.1 q.1).2.2.2.1 ⟨by omega, c7⟩))
                    · rw [show ((n : Int) + 1).toNat = n + 1 by omega, show (((n : Int) + 1) + (k : Int)).toNat = n + 1 + k by omega] at c7
                      have f4 : ¬ (k = 3 ∧ ¬ (Op.bytesLess ((s.take (n + 1 + k)).drop (n + 1)) [52, 48, 48] = true ∨ (s.take (n + 1 + k)).drop (n + 1) = [52, 48, 48])) := fun q => c7 q.2
                      refine rp W 0 rfl rfl rfl (.pr ⟨fun e => ⟨hP.2 ⟨by omega, by omega, f3, f4, by omega⟩, by omega⟩, fun q => by have := (hP.1 q.1).2.2.2.2; omega⟩)
                  · have f4 : ¬ (k = 3 ∧ ¬ (Op.bytesLess ((s.take (n + 1 + k)).drop (n + 1)) [52, 48, 48] = true ∨ (s.take (n + 1 + k)).drop (n + 1) = [52, 48, 48])) := fun q => by have := q.1; omega
                    refine rp W 0 rfl rfl rfl (.pr ⟨fun e => ⟨hP.2 ⟨by omega, by omega, f3, f4, by omega⟩, by omega⟩, fun q => by have := (hP.1 q.1).2.2.2.2; omega⟩)
            · rw [show ((n : Int)).toNat = n by omega] at p4
              have hn : ¬ numE s := fun e => powE_no (by omega) (fun e => p4 ((u8_eq (c := 101)).2 e)) (hq.1 e)
              refine rp W 0 rfl rfl rfl (.pr ⟨fun e => by omega, fun e => absurd e.1 hn⟩)
          · have hn : numE s := hq.2 (powE_nil (by omega))
            refine rp W 0 rfl rfl rfl (.pr ⟨fun e => ⟨hn, by omega⟩, fun e => by omega⟩)
      · have hq : numE s ↔ powE (s.drop n) := by
          refine hq0.trans ?_
          rw [← r0, show s.drop n = [] from List.drop_eq_nil_iff.2 (by omega)]
          simp [fracE]
        refine sp W 0 rfl rfl rfl (fun p3 => ?_) (fun p3 => ?_)
        · refine sp W 0 rfl rfl rfl (fun p4 => ?_) (fun p4 => ?_)
          · rw [show ((n : Int)).toNat = n by omega] at p4
            have hq2 : numE s ↔ powE1 (s.drop (n + 1)) := hq.trans (powE_yes (by omega) ((u8_eq (c := 101)).1 p4))
            refine sp W 0 rfl rfl rfl (fun m1 => ?_) (fun m1 => ?_)
            · refine sp W 0 rfl rfl rfl (fun m2 => ?_) (fun m2 => ?_)
              · rw [show ((n : Int) + 1).toNat = n + 1 by omega] at m2
                have hu : s.drop (n + 1 + 1) = cutP (s.drop (n + 1)) 45 := cutP_yes (by omega) ((u8_eq (c := 45)).1 m2)
                have hm : True ↔ (s.drop (n + 1)).head? = some 45 := by rw [head_at (by omega)]; exact ⟨fun _ => (u8_eq (c := 45)).1 m2, fun _ => trivial⟩
                rw [← show ((n : Int) + 1).toNat = n + 1 by omega] at m2
                have kr : AFunP Tryd.prog 93 [.str s, .int .i64 ((n : Int) + 1 + 1)] (· = .int .i64 (run s (n + 1 + 1) : Nat)) := by
                  have := l11Run_ok s (n + 1 + 1) (by omega) (by omega)
                  rwa [show ((n + 1 + 1 : Nat) : Int) = (n : Int) + 1 + 1 by omega] at this
                have tr := run_le s (n + 1 + 1) (by omega)
                have hP := hq2.trans (powA_ok (a := n + 1 + 1) (m := True) (by omega) hu hm)
                unfold powA at hP
                refine ce W 0 rfl rfl (kr) rfl ?_
                generalize run s (n + 1 + 1) = k at *
                refine sp W 0 rfl rfl rfl (fun c1 => ?_) (fun c1 => ?_)
                · refine rp W 0 rfl rfl rfl (.no (fun q => (hP.1 q.1).1 (by omega)))
                refine sp W 0 rfl rfl rfl (fun c2 => ?_) (fun c2 => ?_)
                · refine rp W 0 rfl rfl rfl (.no (fun q => by have := (hP.1 q.1).2.1; omega))
                refine sp W 0 rfl rfl rfl (fun c3 => ?_) (fun c3 => ?_)
                · have c3 : s.getD (n + 1 + 1) 0 = 48 := by rw [show ((n : Int) + 1 + 1).toNat = n + 1 + 1 by omega] at c3; exact (u8_eq (c := 48)).1 c3
                  refine sp W 0 rfl rfl rfl (fun c4 => ?_) (fun c4 => ?_)
                  · refine rp W 0 rfl rfl rfl (.no (fun q => (hP.1 q.1).2.2.1 ⟨c3, .inl (by omega)⟩))
                  · refine sp W 0 rfl rfl rfl (fun c5 => ?_) (fun c5 => ?_)
                    · refine rp W 0 rfl rfl rfl (.no (fun q => (hP.1 q.1).2.2.1 ⟨c3, .inr trivial⟩))
                    · exact absurd m2 c5
                · have c3 : ¬ s.getD (n + 1 + 1) 0 = 48 := fun e => c3 (by rw [show ((n : Int) + 1 + 1).toNat = n + 1 + 1 by omega]; exact (u8_eq (c := 48)).2 e)
                  have f3 : ¬ (s.getD (n + 1 + 1) 0 = 48 ∧ (1 < k ∨ True)) := fun q => c3 q.1
                  refine sp W 0 rfl rfl rfl (fun c6 => ?_) (fun c6 => ?_)
                  · refine sp W 0 rfl rfl rfl (fun c7 => ?_) (fun c7 => ?_)
                    · rw [show ((n : Int) + 1 + 1).toNat = n + 1 + 1 by omega, show (((n : Int) + 1 + 1) + (k : Int)).toNat = n + 1 + 1 + k by omega] at c7
                      refine rp W 0 rfl rfl rfl (.no (fun q => (hP.1 q.1).2.2.2.1 ⟨by omega, c7⟩))
                    · rw [show ((n : Int) + 1 + 1).toNat = n + 1 + 1 by omega, show (((n : Int) + 1 + 1) + (k : Int)).toNat = n + 1 + 1 + k by omega] at c7
                      have f4 : ¬ (k = 3 ∧ ¬ (Op.bytesLess ((s.take (n + 1 + 1 + k)).drop (n + 1 + 1)) [52, 48, 48] = true ∨ (s.take (n + 1 + 1 + k)).drop (n + 1 + 1) = [52, 48, 48])) := fun q => c7 q.2
                      refine rp W 0 rfl rfl rfl (.pr ⟨fun e => ⟨hP.2 ⟨by omega, by omega, f3, f4, by omega⟩, by omega⟩, fun q => by have := (hP.1 q.1).2.2.2.2; omega⟩)
                  · have f4 : ¬ (k = 3 ∧ ¬ (Op.bytesLess ((s.take (n + 1 + 1 + k)).drop (n + 1 + 1)) [52, 48, 48] = true ∨ (s.take (n + 1 + 1 + k)).drop (n + 1 + 1) = [52, 48, 48])) := fun q => by have := q.1; omega
                    refine rp W 0 rfl rfl rfl (.pr ⟨fun e => ⟨hP.2 ⟨by omega, by omega, f3, f4, by omega⟩, by omega⟩, fun q => by have := (hP.1 q.1).2.2.2.2; omega⟩)
              · rw [show ((n : Int) + 1).toNat = n + 1 by omega] at m2
                have hu : s.drop (n + 1) = cutP (s.drop (n + 1)) 45 := cutP_no (by omega) fun e => m2 ((u8_eq (c := 45)).2 e)
                have hm : False ↔ (s.drop (n + 1)).head? = some 45 := by rw [head_at (by omega)]; exact ⟨False.elim, fun e => m2 ((u8_eq (c := 45)).2 e)⟩
                rw [← show ((n : Int) + 1).toNat = n + 1 by omega] at m2
                have kr : AFunP Tryd.prog 93 [.str s, .int .i64 ((n : Int) + 1)] (· = .int .i64 (run s (n + 1) : Nat)) := by
                  have := l11Run_ok s (n + 1) (by omega) (by omega)
                  rwa [show ((n + 1 : Nat) : Int) = (n : Int) + 1 by omega] at this
                have tr := run_le s (n + 1) (by omega)
                have hP := hq2.trans (powA_ok (a := n + 1) (m := False) (by omega) hu hm)
                unfold powA at hP
                refine ce W 0 rfl rfl (kr) rfl ?_
                generalize run s (n + 1) = k at *
                refine sp W 0 rfl rfl rfl (fun c1 => ?_) (fun c1 => ?_)
                · refine rp W 0 rfl rfl rfl (.no (fun q => (hP.1 q.1).1 (by omega)))
                refine sp W 0 rfl rfl rfl (fun c2 => ?_) (fun c2 => ?_)
                · refine rp W 0 rfl rfl rfl (.no (fun q => by have := (hP.1 q.1).2.1; omega))
                refine sp W 0 rfl rfl rfl (fun c3 => ?_) (fun c3 => ?_)
                · have c3 : s.getD (n + 1) 0 = 48 := by rw [show ((n : Int) + 1).toNat = n + 1 by omega] at c3; exact (u8_eq (c := 48)).1 c3
                  refine sp W 0 rfl rfl rfl (fun c4 => ?_) (fun c4 => ?_)
                  · refine rp W 0 rfl rfl rfl (.no (fun q => (hP.1 q.1).2.2.1 ⟨c3, .inl (by omega)⟩))
                  · refine sp W 0 rfl rfl rfl (fun c5 => ?_) (fun c5 => ?_)
                    · exact absurd c5 m2
                    · have f3 : ¬ (s.getD (n + 1) 0 = 48 ∧ (1 < k ∨ False)) := fun q => q.2.elim (fun q => by omega) id
                      refine sp W 0 rfl rfl rfl (fun c6 => ?_) (fun c6 => ?_)
                      · refine sp W 0 rfl rfl rfl (fun c7 => ?_) (fun c7 => ?_)
                        · rw [show ((n : Int) + 1).toNat = n + 1 by omega, show (((n : Int) + 1) + (k : Int)).toNat = n + 1 + k by omega] at c7
                          refine rp W 0 rfl rfl rfl (.no (fun q => (hP.1 q.1).2.2.2.1 ⟨by omega, c7⟩))
                        · rw [show ((n : Int) + 1).toNat = n + 1 by omega, show (((n : Int) + 1) + (k : Int)).toNat = n + 1 + k by omega] at c7
                          have f4 : ¬ (k = 3 ∧ ¬ (Op.bytesLess ((s.take (n + 1 + k)).drop (n + 1)) [52, 48, 48] = true ∨ (s.take (n + 1 + k)).drop (n + 1) = [52, 48, 48])) := fun q => c7 q.2
                          refine rp W 0 rfl rfl rfl (.pr ⟨fun e => ⟨hP.2 ⟨by omega, by omega, f3, f4, by omega⟩, by omega⟩, fun q => by have := (hP.1 q.1).2.2.2.2; omega⟩)
                      · have f4 : ¬ (k = 3 ∧ ¬ (Op.bytesLess ((s.take (n + 1 + k)).drop (n + 1)) [52, 48, 48] = true ∨ (s.take (n + 1 + k)).drop (n + 1) = [52, 48, 48])) := fun q => by have := q.1; omega
                        refine rp W 0 rfl rfl rfl (.pr ⟨fun e => ⟨hP.2 ⟨by omega, by omega, f3, f4, by omega⟩, by omega⟩, fun q => by have := (hP.1 q.1).2.2.2.2; omega⟩)
                · have c3 : ¬ s.getD (n + 1) 0 = 48 := fun e => c3 (by rw [show ((n : Int) + 1).toNat = n + 1 by omega]; exact (u8_eq (c := 48)).2 e)
                  have f3 : ¬ (s.getD (n + 1) 0 = 48 ∧ (1 < k ∨ False)) := fun q => c3 q.1
                  refine sp W 0 rfl rfl rfl (fun c6 => ?_) (fun c6 => ?_)
                  · refine sp W 0 rfl rfl rfl (fun c7 => ?_) (fun c7 => ?_)
                    · rw [show ((n : Int) + 1).toNat = n + 1 by omega, show (((n : Int) + 1) + (k : Int)).toNat = n + 1 + k by omega] at c7
                      refine rp W 0 rfl rfl rfl (.no (fun q => (hP.1 q.1).2.2.2.1 ⟨by omega, c7⟩))
                    · rw [show ((n : Int) + 1).toNat = n + 1 by omega, show (((n : Int) + 1) + (k : Int)).toNat = n + 1 + k by omega] at c7
                      have f4 : ¬ (k = 3 ∧ ¬ (Op.bytesLess ((s.take (n + 1 + k)).drop (n + 1)) [52, 48, 48] = true ∨ (s.take (n + 1 + k)).drop (n + 1) = [52, 48, 48])) := fun q => c7 q.2
                      refine rp W 0 rfl rfl rfl (.pr ⟨fun e => ⟨hP.2 ⟨by omega, by omega, f3, f4, by omega⟩, by omega⟩, fun q => by have := (hP.1 q.1).2.2.2.2; omega⟩)
                  · have f4 : ¬ (k = 3 ∧ ¬ (Op.bytesLess ((s.take (n + 1 + k)).drop (n + 1)) [52, 48, 48] = true ∨ (s.take (n + 1 + k)).drop (n + 1) = [52, 48, 48])) := fun q => by have := q.1; omega
                    refine rp W 0 rfl rfl rfl (.pr ⟨fun e => ⟨hP.2 ⟨by omega, by omega, f3, f4, by omega⟩, by omega⟩, fun q => by have := (hP.1 q.1).2.2.2.2; omega⟩)
            · have e0 : s.drop (n + 1) = [] := List.drop_eq_nil_iff.2 (by omega)
              have hu : s.drop (n + 1) = cutP (s.drop (n + 1)) 45 := by rw [e0]; rfl
              have hm : False ↔ (s.drop (n + 1)).head? = some 45 := by rw [e0]; simp
              have kr : AFunP Tryd.prog 93 [.str s, .int .i64 ((n : Int) + 1)] (· = .int .i64 (run s (n + 1) : Nat)) := by
                have := l11Run_ok s (n + 1) (by omega) (by omega)
                rwa [show ((n + 1 : Nat) : Int) = (n : Int) + 1 by omega] at this
              have tr := run_le s (n + 1) (by omega)
              have hP := hq2.trans (powA_ok (a := n + 1) (m := False) (by omega) hu hm)
              unfold powA at hP
              refine ce W 0 rfl rfl (kr) rfl ?_
              generalize run s (n + 1) = k at *
              refine sp W 0 rfl rfl rfl (fun c1 => ?_) (fun c1 => ?_)
              · refine rp W 0 rfl rfl rfl (.no (fun q => (hP.1 q.1).1 (by omega)))
              refine sp W 0 rfl rfl rfl (fun c2 => ?_) (fun c2 => ?_)
              · refine rp W 0 rfl rfl rfl (.no (fun q => by have := (hP.1 q.1).2.1; omega))
              refine sp W 0 rfl rfl rfl (fun c3 => ?_) (fun c3 => ?_)
              · have c3 : s.getD (n + 1) 0 = 48 := by rw [show ((n : Int) + 1).toNat = n + 1 by omega] at c3; exact (u8_eq (c := 48)).1 c3
                refine sp W 0 rfl rfl rfl (fun c4 => ?_) (fun c4 => ?_)
                · refine rp W 0 rfl rfl rfl (.no (fun q => (hP.1 q.1).2.2.1 ⟨c3, .inl (by omega)⟩))
                · have f3 : ¬ (s.getD (n + 1) 0 = 48 ∧ (1 < k ∨ False)) := fun q => q.2.elim (fun q => by omega) id
                  refine sp W 0 rfl rfl rfl (fun c6 => ?_) (fun c6 => ?_)
                  · refine sp W 0 rfl rfl rfl (fun c7 => ?_) (fun c7 => ?_)
                    · rw [show ((n : Int) + 1).toNat = n + 1 by omega, show (((n : Int) + 1) + (k : Int)).toNat = n + 1 + k by omega] at c7
                      refine rp W 0 rfl rfl rfl (.no (fun q => (hP.1 q.1).2.2.2.1 ⟨by omega, c7⟩))
                    · rw [show ((n : Int) + 1).toNat = n + 1 by omega, show (((n : Int) + 1) + (k : Int)).toNat = n + 1 + k by omega] at c7
                      have f4 : ¬ (k = 3 ∧ ¬ (Op.bytesLess ((s.take (n + 1 + k)).drop (n + 1)) [52, 48, 48] = true ∨ (s.take (n + 1 + k)).drop (n + 1) = [52, 48, 48])) := fun q => c7 q.2
                      refine rp W 0 rfl rfl rfl (.pr ⟨fun e => ⟨hP.2 ⟨by omega, by omega, f3, f4, by omega⟩, by omega⟩, fun q => by have := (hP.1 q.1).2.2.2.2; omega⟩)
                  · have f4 : ¬ (k = 3 ∧ ¬ (Op.bytesLess ((s.take (n + 1 + k)).drop (n + 1)) [52, 48, 48] = true ∨ (s.take (n + 1 + k)).drop (n + 1) = [52, 48, 48])) := fun q => by have := q.1; omega
                    refine rp W 0 rfl rfl rfl (.pr ⟨fun e => ⟨hP.2 ⟨by omega, by omega, f3, f4, by omega⟩, by omega⟩, fun q => by have := (hP.1 q.1).2.2.2.2; omega⟩)
              · have c3 : ¬ s.getD (n + 1) 0 = 48 := fun e => c3 (by rw [show ((n : Int) + 1).toNat = n + 1 by omega]; exact (u8_eq (c := 48)).2 e)
                have f3 : ¬ (s.getD (n + 1) 0 = 48 ∧ (1 < k ∨ False)) := fun q => c3 q.1
                refine sp W 0 rfl rfl rfl (fun c6 => ?_) (fun c6 => ?_)
                · refine sp W 0 rfl rfl rfl (fun c7 => ?_) (fun c7 => ?_)
                  · rw [show ((n : Int) + 1).toNat = n + 1 by omega, show (((n : Int) + 1) + (k : Int)).toNat = n + 1 + k by omega] at c7
                    refine rp W 0 rfl rfl rfl (.no (fun q => (hP.1 q.1).2.2.2.1 ⟨by omega, c7⟩))
                  · rw [show ((n : Int) + 1).toNat = n + 1 by omega, show (((n : Int) + 1) + (k : Int)).toNat = n + 1 + k by omega] at c7
                    have f4 : ¬ (k = 3 ∧ ¬ (Op.bytesLess ((s.take (n + 1 + k)).drop (n + 1)) [52, 48, 48] = true ∨ (s.take (n + 1 + k)).drop (n + 1) = [52, 48, 48])) := fun q => c7 q.2
                    refine rp W 0 rfl rfl rfl (.pr ⟨fun e => ⟨hP.2 ⟨by omega, by omega, f3, f4, by omega⟩, by omega⟩, fun q => by have := (hP.1 q.1).2.2.2.2; omega⟩)
                · have f4 : ¬ (k = 3 ∧ ¬ (Op.bytesLess ((s.take (n + 1 + k)).drop (n + 1)) [52, 48, 48] = true ∨ (s.take (n + 1 + k)).drop (n + 1) = [52, 48, 48])) := fun q => by have := q.1; omega
                  refine rp W 0 rfl rfl rfl (.pr ⟨fun e => ⟨hP.2 ⟨by omega, by omega, f3, f4, by omega⟩, by omega⟩, fun q => by have := (hP.1 q.1).2.2.2.2; omega⟩)
          · rw [show ((n : Int)).toNat = n by omega] at p4
            have hn : ¬ numE s := fun e => powE_no (by omega) (fun e => p4 ((u8_eq (c := 101)).2 e)) (hq.1 e)
            refine rp W 0 rfl rfl rfl (.pr ⟨fun e => by omega, fun e => absurd e.1 hn⟩)
        · have hn : numE s := hq.2 (powE_nil (by omega))
          refine rp W 0 rfl rfl rfl (.pr ⟨fun e => ⟨hn, by omega⟩, fun e => by omega⟩)
  · have hw := (w0 (by omega)).2 fun k => by have := k.1; omega
    have hq0 : numE s ↔ fracE (Rg s) := ⟨fun e => e.2, fun e => ⟨hw, e⟩⟩
    refine sp W 0 rfl rfl rfl (fun p1 => ?_) (fun p1 => ?_)
    · refine sp W 0 rfl rfl rfl (fun p2 => ?_) (fun p2 => ?_)
      · rw [show (n : Int).toNat = n by omega] at p2
        have p2 := (u8_eq (c := 46)).1 p2
        have kk : AFunP Tryd.prog 93 [.str s, .int .i64 ((n : Int) + 1)] (· = .int .i64 (run s (n + 1) : Nat)) := l11Run_ok s (n + 1) (by omega) (by omega)
        have tk := run_le s (n + 1) (by omega)
        have hf : numE s ↔ run s (n + 1) ≠ 0 ∧ powE (s.drop (n + 1 + run s (n + 1))) := by
          refine hq0.trans ?_
          rw [← r0, fracE_yes (by omega) p2]
        refine ce W 0 rfl rfl (kk) rfl ?_
        generalize run s (n + 1) = j at *
        refine sp W 0 rfl rfl rfl (fun p5 => ?_) (fun p5 => ?_)
        · refine rp W 0 rfl rfl rfl (.no (fun q => (hf.1 q.1).1 (by omega)))
        have hq : numE s ↔ powE (s.drop (n + 1 + j)) := ⟨fun e => (hf.1 e).2, fun e => hf.2 ⟨by omega, e⟩⟩
        refine sp W 0 rfl rfl rfl (fun p3 => ?_) (fun p3 => ?_)
        · refine sp W 0 rfl rfl rfl (fun p4 => ?_) (fun p4 => ?_)
          · rw [show ((n : Int) + 1 + (j : Int)).toNat = n + 1 + j by omega] at p4
            have hq2 : numE s ↔ powE1 (s.drop (n + 1 + j + 1)) := hq.trans (powE_yes (by omega) ((u8_eq (c := 101)).1 p4))
            refine sp W 0 rfl rfl rfl (fun m1 => ?_) (fun m1 => ?_)
            · refine sp W 0 rfl rfl rfl (fun m2 => ?_) (fun m2 => ?_)
              · rw [show ((n : Int) + 1 + (j : Int) + 1).toNat = n + 1 + j + 1 by omega] at m2
                have hu : s.drop (n + 1 + j + 1 + 1) = cutP (s.drop (n + 1 + j + 1)) 45 := cutP_yes (by omega) ((u8_eq (c := 45)).1 m2)
                have hm : True ↔ (s.drop (n + 1 + j + 1)).head? = some 45 := by rw [head_at (by omega)]; exact ⟨fun _ => (u8_eq (c := 45)).1 m2, fun _ => trivial⟩
                rw [← show ((n : Int) + 1 + (j : Int) + 1).toNat = n + 1 + j + 1 by omega] at m2
                have kr : AFunP Tryd.prog 93 [.str s, .int .i64 ((n : Int) + 1 + (j : Int) + 1 + 1)] (· = .int .i64 (run s (n + 1 + j + 1 + 1) : Nat)) := by
                  have := l11Run_ok s (n + 1 + j + 1 + 1) (by omega) (by omega)
                  rwa [show ((n + 1 + j + 1 + 1 : Nat) : Int) = (n : Int) + 1 + (j : Int) + 1 + 1 by omega] at this
                have tr := run_le s (n + 1 + j + 1 + 1) (by omega)
                have hP := hq2.trans (powA_ok (a := n + 1 + j + 1 + 1) (m := True) (by omega) hu hm)
                unfold powA at hP
                refine ce W 0 rfl rfl (kr) rfl ?_
                generalize run s (n + 1 + j + 1 + 1) = k at *
                refine sp W 0 rfl rfl rfl (fun c1 => ?_) (fun c1 => ?_)
                · refine rp W 0 rfl rfl rfl (.no (fun q => (hP.1 q.1).1 (by omega)))
                refine sp W 0 rfl rfl rfl (fun c2 => ?_) (fun c2 => ?_)
                · refine rp W 0 rfl rfl rfl (.no (fun q => by have := (hP.1 q.1).2.1; omega))
                refine sp W 0 rfl rfl rfl (fun c3 => ?_) (fun c3 => ?_)
                · have c3 : s.getD (n + 1 + j + 1 + 1) 0 = 48 := by rw [show ((n : Int) + 1 + (j : Int) + 1 + 1).toNat = n + 1 + j + 1 + 1 by omega] at c3; exact (u8_eq (c := 48)).1 c3
                  refine sp W 0 rfl rfl rfl (fun c4 => ?_) (fun c4 => ?_)
                  · refine rp W 0 rfl rfl rfl (.no (fun q => (hP.1 q.1).2.2.1 ⟨c3, .inl (by omega)⟩))
                  · refine sp W 0 rfl rfl rfl (fun c5 => ?_) (fun c5 => ?_)
                    · refine rp W 0 rfl rfl rfl (.no (fun q => (hP.1 q.1).2.2.1 ⟨c3, .inr trivial⟩))
                    · exact absurd m2 c5
                · have c3 : ¬ s.getD (n + 1 + j + 1 + 1) 0 = 48 := fun e => c3 (by rw [show ((n : Int) + 1 + (j : Int) + 1 + 1).toNat = n + 1 + j + 1 + 1 by omega]; exact (u8_eq (c := 48)).2 e)
                  have f3 : ¬ (s.getD (n + 1 + j + 1 + 1) 0 = 48 ∧ (1 < k ∨ True)) := fun q => c3 q.1
                  refine sp W 0 rfl rfl rfl (fun c6 => ?_) (fun c6 => ?_)
                  · refine sp W 0 rfl rfl rfl (fun c7 => ?_) (fun c7 => ?_)
                    · rw [show ((n : Int) + 1 + (j : Int) + 1 + 1).toNat = n + 1 + j + 1 + 1 by omega, show (((n : Int) + 1 + (j : Int) + 1 + 1) + (k : Int)).toNat = n + 1 + j + 1 + 1 + k by omega] at c7
                      refine rp W 0 rfl rfl rfl (.no (fun q => (hP.1 q.1).2.2.2.1 ⟨by omega, c7⟩))
                    · rw [show ((n : Int) + 1 + (j : Int) + 1 + 1).toNat = n + 1 + j + 1 + 1 by omega, show (((n : Int) + 1 + (j : Int) + 1 + 1) + (k : Int)).toNat = n + 1 + j + 1 + 1 + k by omega] at c7
                      have f4 : ¬ (k = 3 ∧ ¬ (Op.bytesLess ((s.take (n + 1 + j + 1 + 1 + k)).drop (n + 1 + j + 1 + 1)) [52, 48, 48] = true ∨ (s.take (n + 1 + j + 1 + 1 + k)).drop (n + 1 + j + 1 + 1) = [52, 48, 48])) := fun q => c7 q.2
                      refine rp W 0 rfl rfl rfl (.pr ⟨fun e => ⟨hP.2 ⟨by omega, by omega, f3, f4, by omega⟩, by omega⟩, fun q => by have := (hP.1 q.1).2.2.2.2; omega⟩)
                  · have f4 : ¬ (k = 3 ∧ ¬ (Op.bytesLess ((s.take (n + 1 + j + 1 + 1 + k)).drop (n + 1 + j + 1 + 1)) [52, 48, 48] = true ∨ (s.take (n + 1 + j + 1 + 1 + k)).drop (n + 1 + j + 1 + 1) = [52, 48, 48])) := fun q => by have := q.1; omega
                    refine rp W 0 rfl rfl rfl (.pr ⟨fun e => ⟨hP.2 ⟨by omega, by omega, f3, f4, by omega⟩, by omega⟩, fun q => by have := (hP.1 q.1).2.2.2.2; omega⟩)
              · rw [show ((n : Int) + 1 + (j : Int) + 1).toNat = n + 1 + j + 1 by omega] at m2
                have hu : s.drop (n + 1 + j + 1) = cutP (s.drop (n + 1 + j + 1)) 45 := cutP_no (by omega) fun e => m2 ((u8_eq (c := 45)).2 e)
                have hm : False ↔ (s.drop (n + 1 + j + 1)).head? = some 45 := by rw [head_at (by omega)]; exact ⟨False.elim, fun e => m2 ((u8_eq (c := 45)).2 e)⟩
                rw [← show ((n : Int) + 1 + (j : Int) + 1).toNat = n + 1 + j + 1 by omega] at m2
                have kr : AFunP Tryd.prog 93 [.str s, .int .i64 ((n : Int) + 1 + (j : Int) + 1)] (· = .int .i64 (run s (n + 1 + j + 1) : Nat)) := by
                  have := l11Run_ok s (n + 1 + j + 1) (by omega) (by omega)
                  rwa [show ((n + 1 + j + 1 : Nat) : Int) = (n : Int) + 1 + (j : Int) + 1 by omega] at this
                have tr := run_le s (n + 1 + j + 1) (by omega)
                have hP := hq2.trans (powA_ok (a := n + 1 + j + 1) (m := False) (by omega) hu hm)
                unfold powA at hP
                refine ce W 0 rfl rfl (kr) rfl ?_
                generalize run s (n + 1 + j + 1) = k at *
                refine sp W 0 rfl rfl rfl (fun c1 => ?_) (fun c1 => ?_)
                · refine rp W 0 rfl rfl rfl (.no (fun q => (hP.1 q.1).1 (by omega)))
                refine sp W 0 rfl rfl rfl (fun c2 => ?_) (fun c2 => ?_)
                · refine rp W 0 rfl rfl rfl (.no (fun q => by have := (hP.1 q.1).2.1; omega))
                refine sp W 0 rfl rfl rfl (fun c3 => ?_) (fun c3 => ?_)
                · have c3 : s.getD (n + 1 + j + 1) 0 = 48 := by rw [show ((n : Int) + 1 + (j : Int) + 1).toNat = n + 1 + j + 1 by omega] at c3; exact (u8_eq (c := 48)).1 c3
                  refine sp W 0 rfl rfl rfl (fun c4 => ?_) (fun c4 => ?_)
                  · refine rp W 0 rfl rfl rfl (.no (fun q => (hP.1 q.1).2.2.1 ⟨c3, .inl (by omega)⟩))
                  · refine sp W 0 rfl rfl rfl (fun c5 => ?_) (fun c5 => ?_)
                    · exact absurd c5 m2
                    · have f3 : ¬ (s.getD (n + 1 + j + 1) 0 = 48 ∧ (1 < k ∨ False)) := fun q => q.2.elim (fun q => by omega) id
                      refine sp W 0 rfl rfl rfl (fun c6 => ?_) (fun c6 => ?_)
                      · refine sp W 0 rfl rfl rfl (fun c7 => ?_) (fun c7 => ?_)
                        · rw [show ((n : Int) + 1 + (j : Int) + 1).toNat = n + 1 + j + 1 by omega, show (((n : Int) + 1 + (j : Int) + 1) + (k : Int)).toNat = n + 1 + j + 1 + k by omega] at c7
                          refine rp W 0 rfl rfl rfl (.no (fun q => (hP.1 q.1).2.2.2.1 ⟨by omega, c7⟩))
                        · rw [show ((n : Int) + 1 + (j : Int) + 1).toNat = n + 1 + j + 1 by omega, show (((n : Int) + 1 + (j : Int) + 1) + (k : Int)).toNat = n + 1 + j + 1 + k by omega] at c7
                          have f4 : ¬ (k = 3 ∧ ¬ (Op.bytesLess ((s.take (n + 1 + j + 1 + k)).drop (n + 1 + j + 1)) [52, 48, 48] = true ∨ (s.take (n + 1 + j + 1 + k)).drop (n + 1 + j + 1) = [52, 48, 48])) := fun q => c7 q.2
                          refine rp W 0 rfl rfl rfl (.pr ⟨fun e => ⟨hP.2 ⟨by omega, by omega, f3, f4, by omega⟩, by omega⟩, fun q => by have := (hP.1 q.1).2.2.2.2; omega⟩)
                      · have f4 : ¬ (k = 3 ∧ ¬ (Op.bytesLess ((s.take (n + 1 + j + 1 + k)).drop (n + 1 + j + 1)) [52, 48, 48] = true ∨ (s.take (n + 1 + j + 1 + k)).drop (n + 1 + j + 1) = [52, 48, 48])) := fun q => by have := q.1; omega
                        refine rp W 0 rfl rfl rfl (.pr ⟨fun e => ⟨hP.2 ⟨by omega, by omega, f3, f4, by omega⟩, by omega⟩, fun q => by have := (hP.1 q.1).2.2.2.2; omega⟩)
                · have c3 : ¬ s.getD (n + 1 + j + 1) 0 = 48 := fun e => c3 (by rw [show ((n : Int) + 1 + (j : Int) + 1).toNat = n + 1 + j + 1 by omega]; exact (u8_eq (c := 48)).2 e)
                  have f3 : ¬ (s.getD (n + 1 + j + 1) 0 = 48 ∧ (1 < k ∨ False)) := fun q => c3 q.1
                  refine sp W 0 rfl rfl rfl (fun c6 => ?_) (fun c6 => ?_)
                  · refine sp W 0 rfl rfl rfl (fun c7 => ?_) (fun c7 => ?_)
                    · rw [show ((n : Int) + 1 + (j : Int) + 1).toNat = n + 1 + j + 1 by omega, show (((n : Int) + 1 + (j : Int) + 1) + (k : Int)).toNat = n + 1 + j + 1 + k by omega] at c7
                      refine rp W 0 rfl rfl rfl (.no (fun q => (hP.1 q.1).2.2.2.1 ⟨by omega, c7⟩))
                    · rw [show ((n : Int) + 1 + (j : Int) + 1).toNat = n + 1 + j + 1 by omega, show (((n : Int) + 1 + (j : Int) + 1) + (k : Int)).toNat = n + 1 + j + 1 + k by omega] at c7
                      have f4 : ¬ (k = 3 ∧ ¬ (Op.bytesLess ((s.take (n + 1 + j + 1 + k)).drop (n + 1 + j + 1)) [52, 48, 48] = true ∨ (s.take (n + 1 + j + 1 + k)).drop (n + 1 + j + 1) = [52, 48, 48])) := fun q => c7 q.2
                      refine rp W 0 rfl rfl rfl (.pr ⟨fun e => ⟨hP.2 ⟨by omega, by omega, f3, f4, by omega⟩, by omega⟩, fun q => by have := (hP.1 q.1).2.2.2.2; omega⟩)
                  · have f4 : ¬ (k = 3 ∧ ¬ (Op.bytesLess ((s.take (n + 1 + j + 1 + k)).drop (n + 1 + j + 1)) [52, 48, 48] = true ∨ (s.take (n + 1 + j + 1 + k)).drop (n + 1 + j + 1) = [52, 48, 48])) := fun q => by have := q.1; omega
                    refine rp W 0 rfl rfl rfl (.pr ⟨fun e => ⟨hP.2 ⟨by omega, by omega, f3, f4, by omega⟩, by omega⟩, fun q => by have := (hP.1 q.1).2.2.2.2; omega⟩)
            · have e0 : s.drop (n + 1 + j + 1) = [] := List.drop_eq_nil_iff.2 (by omega)
              have hu : s.drop (n + 1 + j + 1) = cutP (s.drop (n + 1 + j + 1)) 45 := by rw [e0]; rfl
              have hm : False ↔ (s.drop (n + 1 + j + 1)).head? = some 45 := by rw [e0]; simp
              have kr : AFunP Tryd.prog 93 [.str s, .int .i64 ((n : Int) + 1 + (j : Int) + 1)] (· = .int .i64 (run s (n + 1 + j + 1) : Nat)) := by
                have := l11Run_ok s (n + 1 + j + 1) (by omega) (by omega)
                rwa [show ((n + 1 + j + 1 : Nat) : Int) = (n : Int) + 1 + (j : Int) + 1 by omega] at this
              have tr := run_le s (n + 1 + j + 1) (by omega)
              have hP := hq2.trans (powA_ok (a := n + 1 + j + 1) (m := False) (by omega) hu hm)
              unfold powA at hP
              refine ce W 0 rfl rfl (kr) rfl ?_
              generalize run s (n + 1 + j + 1) = k at *
              refine sp W 0 rfl rfl rfl (fun c1 => ?_) (fun c1 => ?_)
              · refine rp W 0 rfl rfl rfl (.no (fun q => (hP.1 q.1).1 (by omega)))
              refine sp W 0 rfl rfl rfl (fun c2 => ?_) (fun c2 => ?_)
              · refine rp W 0 rfl rfl rfl (.no (fun q => by have := (hP.1 q.1).2.1; omega))
              refine sp W 0 rfl rfl rfl (fun c3 => ?_) (fun c3 => ?_)
              · have c3 : s.getD (n + 1 + j + 1) 0 = 48 := by rw [show ((n : Int) + 1 + (j : Int) + 1).toNat = n + 1 + j + 1 by omega] at c3; exact (u8_eq (c := 48)).1 c3
                refine sp W 0 rfl rfl rfl (fun c4 => ?_) (fun c4 => ?_)
                · refine rp W 0 rfl rfl rfl (.no (fun q => (hP.1 q.1).2.2.1 ⟨c3, .inl (by omega)⟩))
                · have f3 : ¬ (s.getD (n + 1 + j + 1) 0 = 48 ∧ (1 < k ∨ False)) := fun q => q.2.elim (fun q => by omega) id
                  refine sp W 0 rfl rfl rfl (fun c6 => ?_) (fun c6 => ?_)
                  · refine sp W 0 rfl rfl rfl (fun c7 => ?_) (fun c7 => ?_)
                    · rw [show ((n : Int) + 1 + (j : Int) + 1).toNat = n + 1 + j + 1 by omega, show (((n : Int) + 1 + (j : Int) + 1) + (k : Int)).toNat = n + 1 + j + 1 + k by omega] at c7
                      refine rp W 0 rfl rfl rfl (.no (fun q => (hP.1 q.1).2.2.2.1 ⟨by omega, c7⟩))
                    · rw [show ((n : Int) + 1 + (j : Int) + 1).toNat = n + 1 + j + 1 by omega, show (((n : Int) + 1 + (j : Int) + 1) + (k : Int)).toNat = n + 1 + j + 1 + k by omega] at c7
                      have f4 : ¬ (k = 3 ∧ ¬ (Op.bytesLess ((s.take (n + 1 + j + 1 + k)).drop (n + 1 + j + 1)) [52, 48, 48] = true ∨ (s.take (n + 1 + j + 1 + k)).drop (n + 1 + j + 1) = [52, 48, 48])) := fun q => c7 q.2
                      refine rp W 0 rfl rfl rfl (.pr ⟨fun e => ⟨hP.2 ⟨by omega, by omega, f3, f4, by omega⟩, by omega⟩, fun q => by have := (hP.1 q.1).2.2.2.2; omega⟩)
                  · have f4 : ¬ (k = 3 ∧ ¬ (Op.bytesLess ((s.take (n + 1 + j + 1 + k)).drop (n + 1 + j + 1)) [52, 48, 48] = true ∨ (s.take (n + 1 + j + 1 + k)).drop (n + 1 + j + 1) = [52, 48, 48])) := fun q => by have := q.1; omega
                    refine rp W 0 rfl rfl rfl (.pr ⟨fun e => ⟨hP.2 ⟨by omega, by omega, f3, f4, by omega⟩, by omega⟩, fun q => by have := (hP.1 q.1).2.2.2.2; omega⟩)
              · have c3 : ¬ s.getD (n + 1 + j + 1) 0 = 48 := fun e => c3 (by rw [show ((n : Int) + 1 + (j : Int) + 1).toNat = n + 1 + j + 1 by omega]; exact (u8_eq (c := 48)).2 e)
                have f3 : ¬ (s.getD (n + 1 + j + 1) 0 = 48 ∧ (1 < k ∨ False)) := fun q => c3 q.1
                refine sp W 0 rfl rfl rfl (fun c6 => ?_) (fun c6 => ?_)
                · refine sp W 0 rfl rfl rfl (fun c7 => ?_) (fun c7 => ?_)
                  · rw [show ((n : Int) + 1 + (j : Int) + 1).toNat = n + 1 + j + 1 by omega, show (((n : Int) + 1 + (j : Int) + 1) + (k : Int)).toNat = n + 1 + j + 1 + k by omega] at c7
                    refine rp W 0 rfl rfl rfl (.no (fun q => (hP.1 q.1).2.2.2.1 ⟨by omega, c7⟩))
                  · rw [show ((n : Int) + 1 + (j : Int) + 1).toNat = n + 1 + j + 1 by omega, show (((n : Int) + 1 + (j : Int) + 1) + (k : Int)).toNat = n + 1 + j + 1 + k by omega] at c7
                    have f4 : ¬ (k = 3 ∧ ¬ (Op.bytesLess ((s.take (n + 1 + j + 1 + k)).drop (n + 1 + j + 1)) [52, 48, 48] = true ∨ (s.take (n + 1 + j + 1 + k)).drop (n + 1 + j + 1) = [52, 48, 48])) := fun q => c7 q.2
                    refine rp W 0 rfl rfl rfl (.pr ⟨fun e => ⟨hP.2 ⟨by omega, by omega, f3, f4, by omega⟩, by omega⟩, fun q => by have := (hP.1 q.1).2.2.2.2; omega⟩)
                · have f4 : ¬ (k = 3 ∧ ¬ (Op.bytesLess ((s.take (n + 1 + j + 1 + k)).drop (n + 1 + j + 1)) [52, 48, 48] = true ∨ (s.take (n + 1 + j + 1 + k)).drop (n + 1 + j + 1) = [52, 48, 48])) := fun q => by have := q.1; omega
                  refine rp W 0 rfl rfl rfl (.pr ⟨fun e => ⟨hP.2 ⟨by omega, by omega, f3, f4, by omega⟩, by omega⟩, fun q => by have := (hP.1 q.1).2.2.2.2; omega⟩)
          · rw [show ((n : Int) + 1 + (j : Int)).toNat = n + 1 + j by omega] at p4
            have hn : ¬ numE s := fun e => powE_no (by omega) (fun e => p4 ((u8_eq (c := 101)).2 e)) (hq.1 e)
            refine rp W 0 rfl rfl rfl (.pr ⟨fun e => by omega, fun e => absurd e.1 hn⟩)
        · have hn : numE s := hq.2 (powE_nil (by omega))
          refine rp W 0 rfl rfl rfl (.pr ⟨fun e => ⟨hn, by omega⟩, fun e => by omega⟩)
      · rw [show (n : Int).toNat = n by omega] at p2
        have hq : numE s ↔ powE (s.drop n) := by
          refine hq0.trans ?_
          rw [← r0, fracE_no fun e => p2 ((u8_eq (c := 46)).2 e)]
        refine sp W 0 rfl rfl rfl (fun p3 => ?_) (fun p3 => ?_)
        · refine sp W 0 rfl rfl rfl (fun p4 => ?_) (fun p4 => ?_)
          · rw [show ((n : Int)).toNat = n by omega] at p4
            have hq2 : numE s ↔ powE1 (s.drop (n + 1)) := hq.trans (powE_yes (by omega) ((u8_eq (c := 101)).1 p4))
            refine sp W 0 rfl rfl rfl (fun m1 => ?_) (fun m1 => ?_)
            · refine sp W 0 rfl rfl rfl (fun m2 => ?_) (fun m2 => ?_)
              · rw [show ((n : Int) + 1).toNat = n + 1 by omega] at m2
                have hu : s.drop (n + 1 + 1) = cutP (s.drop (n + 1)) 45 := cutP_yes (by omega) ((u8_eq (c := 45)).1 m2)
                have hm : True ↔ (s.drop (n + 1)).head? = some 45 := by rw [head_at (by omega)]; exact ⟨fun _ => (u8_eq (c := 45)).1 m2, fun _ => trivial⟩
                rw [← show ((n : Int) + 1).toNat = n + 1 by omega] at m2
                have kr : AFunP Tryd.prog 93 [.str s, .int .i64 ((n : Int) + 1 + 1)] (· = .int .i64 (run s (n + 1 + 1) : Nat)) := by
                  have := l11Run_ok s (n + 1 + 1) (by omega) (by omega)
                  rwa [show ((n + 1 + 1 : Nat) : Int) = (n : Int) + 1 + 1 by omega] at this
                have tr := run_le s (n + 1 + 1) (by omega)
                have hP := hq2.trans (powA_ok (a := n + 1 + 1) (m := True) (by omega) hu hm)
                unfold powA at hP
                refine ce W 0 rfl rfl (kr) rfl ?_
                generalize run s (n + 1 + 1) = k at *
                refine sp W 0 rfl rfl rfl (fun c1 => ?_) (fun c1 => ?_)
                · refine rp W 0 rfl rfl rfl (.no (fun q => (hP.1 q.1).1 (by omega)))
                refine sp W 0 rfl rfl rfl (fun c2 => ?_) (fun c2 => ?_)
                · refine rp W 0 rfl rfl rfl (.no (fun q => by have := (hP.1 q.1).2.1; omega))
                refine sp W 0 rfl rfl rfl (fun c3 => ?_) (fun c3 => ?_)
                · have c3 : s.getD (n + 1 + 1) 0 = 48 := by rw [show ((n : Int) + 1 + 1).toNat = n + 1 + 1 by omega] at c3; exact (u8_eq (c := 48)).1 c3
                  refine sp W 0 rfl rfl rfl (fun c4 => ?_) (fun c4 => ?_)
                  · refine rp W 0 rfl rfl rfl (.no (fun q => (hP.1 q.1).2.2.1 ⟨c3, .inl (by omega)⟩))
                  · refine sp W 0 rfl rfl rfl (fun c5 => ?_) (fun c5 => ?_)
                    · refine rp W 0 rfl rfl rfl (.no (fun q => (hP.1 q.1).2.2.1 ⟨c3, .inr trivial⟩))
                    · exact absurd m2 c5
                · have c3 : ¬ s.getD (n + 1 + 1) 0 = 48 := fun e => c3 (by rw [show ((n : Int) + 1 + 1).toNat = n + 1 + 1 by omega]; exact (u8_eq (c := 48)).2 e)
                  have f3 : ¬ (s.getD (n + 1 + 1) 0 = 48 ∧ (1 < k ∨ True)) := fun q => c3 q.1
                  refine sp W 0 rfl rfl rfl (fun c6 => ?_) (fun c6 => ?_)
                  · refine sp W 0 rfl rfl rfl (fun c7 => ?_) (fun c7 => ?_)
                    · rw [show ((n : Int) + 1 + 1).toNat = n + 1 + 1 by omega, show (((n : Int) + 1 + 1) + (k : Int)).toNat = n + 1 + 1 + k by omega] at c7
                      refine rp W 0 rfl rfl rfl (.no (fun q => (hP.1 q.1).2.2.2.1 ⟨by omega, c7⟩))
                    · rw [show ((n : Int) + 1 + 1).toNat = n + 1 + 1 by omega, show (((n : Int) + 1 + 1) + (k : Int)).toNat = n + 1 + 1 + k by omega] at c7
                      have f4 : ¬ (k = 3 ∧ ¬ (Op.bytesLess ((s.take (n + 1 + 1 + k)).drop (n + 1 + 1)) [52, 48, 48] = true ∨ (s.take (n + 1 + 1 + k)).drop (n + 1 + 1) = [52, 48, 48])) := fun q => c7 q.2
                      refine rp W 0 rfl rfl rfl (.pr ⟨fun e => ⟨hP.2 ⟨by omega, by omega, f3, f4, by omega⟩, by omega⟩, fun q => by have := (hP.1 q.1).2.2.2.2; omega⟩)
                  · have f4 : ¬ (k = 3 ∧ ¬ (Op.bytesLess ((s.take (n + 1 + 1 + k)).drop (n + 1 + 1)) [52, 48, 48] = true ∨ (s.take (n + 1 + 1 + k)).drop (n + 1 + 1) = [52, 48, 48])) := fun q => by have := q.1; omega
                    refine rp W 0 rfl rfl rfl (.pr ⟨fun e => ⟨hP.2 ⟨by omega, by omega, f3, f4, by omega⟩, by omega⟩, fun q => by have := (hP.1 q.1).2.2.2.2; omega⟩)
              · rw [show ((n : Int) + 1).toNat = n + 1 by omega] at m2
                have hu : s.drop (n + 1) = cutP (s.drop (n + 1)) 45 := cutP_no (by omega) fun e => m2 ((u8_eq (c := 45)).2 e)
                have hm : False ↔ (s.drop (n + 1)).head? = some 45 := by rw [head_at (by omega)]; exact ⟨False.elim, fun e => m2 ((u8_eq (c := 45)).2 e)⟩
                rw [← show ((n : Int) + 1).toNat = n + 1 by omega] at m2
                have kr : AFunP Tryd.prog 93 [.str s, .int .i64 ((n : Int) + 1)] (· = .int .i64 (run s (n + 1) : Nat)) := by
                  have := l11Run_ok s (n + 1) (by omega) (by omega)
                  rwa [show ((n + 1 : Nat) : Int) = (n : Int) + 1 by omega] at this
                have tr := run_le s (n + 1) (by omega)
                have hP := hq2.trans (powA_ok (a := n + 1) (m := False) (by omega) hu hm)
                unfold powA at hP
                refine ce W 0 rfl rfl (kr) rfl ?_
                generalize run s (n + 1) = k at *
                refine sp W 0 rfl rfl rfl (fun c1 => ?_) (fun c1 => ?_)
                · refine rp W 0 rfl rfl rfl (.no (fun q => (hP.1 q.1).1 (by omega)))
                refine sp W 0 rfl rfl rfl (fun c2 => ?_) (fun c2 => ?_)
                · refine rp W 0 rfl rfl rfl (.no (fun q => by have := (hP.1 q.1).2.1; omega))
                refine sp W 0 rfl rfl rfl (fun c3 => ?_) (fun c3 => ?_)
                · have c3 : s.getD (n + 1) 0 = 48 := by rw [show ((n : Int) + 1).toNat = n + 1 by omega] at c3; exact (u8_eq (c := 48)).1 c3
                  refine sp W 0 rfl rfl rfl (fun c4 => ?_) (fun c4 => ?_)
                  · refine rp W 0 rfl rfl rfl (.no (fun q => (hP.1 q.1).2.2.1 ⟨c3, .inl (by omega)⟩))
                  · refine sp W 0 rfl rfl rfl (fun c5 => ?_) (fun c5 => ?_)
                    · exact absurd c5 m2
                    · have f3 : ¬ (s.getD (n + 1) 0 = 48 ∧ (1 < k ∨ False)) := fun q => q.2.elim (fun q => by omega) id
                      refine sp W 0 rfl rfl rfl (fun c6 => ?_) (fun c6 => ?_)
                      · refine sp W 0 rfl rfl rfl (fun c7 => ?_) (fun c7 => ?_)
                        · rw [show ((n : Int) + 1).toNat = n + 1 by omega, show (((n : Int) + 1) + (k : Int)).toNat = n + 1 + k by omega] at c7
                          refine rp W 0 rfl rfl rfl (.no (fun q => (hP.1 q.1).2.2.2.1 ⟨by omega, c7⟩))
                        · rw [show ((n : Int) + 1).toNat = n + 1 by omega, show (((n : Int) + 1) + (k : Int)).toNat = n + 1 + k by omega] at c7
                          have f4 : ¬ (k = 3 ∧ ¬ (Op.bytesLess ((s.take (n + 1 + k)).drop (n + 1)) [52, 48, 48] = true ∨ (s.take (n + 1 + k)).drop (n + 1) = [52, 48, 48])) := fun q => c7 q.2
                          refine rp W 0 rfl rfl rfl (.pr ⟨fun e => ⟨hP.2 ⟨by omega, by omega, f3, f4, by omega⟩, by omega⟩, fun q => by have := (hP.1 q.1).2.2.2.2; omega⟩)
                      · have f4 : ¬ (k = 3 ∧ ¬ (Op.bytesLess ((s.take (n + 1 + k)).drop (n + 1)) [52, 48, 48] = true ∨ (s.take (n + 1 + k)).drop (n + 1) = [52, 48, 48])) := fun q => by have := q.1; omega
                        refine rp W 0 rfl rfl rfl (.pr ⟨fun e => ⟨hP.2 ⟨by omega, by omega, f3, f4, by omega⟩, by omega⟩, fun q => by have := (hP.1 q.1).2.2.2.2; omega⟩)
                · have c3 : ¬ s.getD (n + 1) 0 = 48 := fun e => c3 (by rw [show ((n : Int) + 1).toNat = n + 1 by omega]; exact (u8_eq (c := 48)).2 e)
                  have f3 : ¬ (s.getD (n + 1) 0 = 48 ∧ (1 < k ∨ False)) := fun q => c3 q.1
                  refine sp W 0 rfl rfl rfl (fun c6 => ?_) (fun c6 => ?_)
                  · refine sp W 0 rfl rfl rfl (fun c7 => ?_) (fun c7 => ?_)
                    · rw [show ((n : Int) + 1).toNat = n + 1 by omega, show (((n : Int) + 1) + (k : Int)).toNat = n + 1 + k by omega] at c7
                      refine rp W 0 rfl rfl rfl (.no (fun q => (hP.1 q.1).2.2.2.1 ⟨by omega, c7⟩))
                    · rw [show ((n : Int) + 1).toNat = n + 1 by omega, show (((n : Int) + 1) + (k : Int)).toNat = n + 1 + k by omega] at c7
                      have f4 : ¬ (k = 3 ∧ ¬ (Op.bytesLess ((s.take (n + 1 + k)).drop (n + 1)) [52, 48, 48] = true ∨ (s.take (n + 1 + k)).drop (n + 1) = [52, 48, 48])) := fun q => c7 q.2
                      refine rp W 0 rfl rfl rfl (.pr ⟨fun e => ⟨hP.2 ⟨by omega, by omega, f3, f4, by omega⟩, by omega⟩, fun q => by have := (hP.1 q.1).2.2.2.2; omega⟩)
                  · have f4 : ¬ (k = 3 ∧ ¬ (Op.bytesLess ((s.take (n + 1 + k)).drop (n + 1)) [52, 48, 48] = true ∨ (s.take (n + 1 + k)).drop (n + 1) = [52, 48, 48])) := fun q => by have := q.1; omega
                    refine rp W 0 rfl rfl rfl (.pr ⟨fun e => ⟨hP.2 ⟨by omega, by omega, f3, f4, by omega⟩, by omega⟩, fun q => by have := (hP.1 q.1).2.2.2.2; omega⟩)
            · have e0 : s.drop (n + 1) = [] := List.drop_eq_nil_iff.2 (by omega)
              have hu : s.drop (n + 1) = cutP (s.drop (n + 1)) 45 := by rw [e0]; rfl
              have hm : False ↔ (s.drop (n + 1)).head? = some 45 := by rw [e0]; simp
              have kr : AFunP Tryd.prog 93 [.str s, .int .i64 ((n : Int) + 1)] (· = .int .i64 (run s (n + 1) : Nat)) := by
                have := l11Run_ok s (n + 1) (by omega) (by omega)
                rwa [show ((n + 1 : Nat) : Int) = (n : Int) + 1 by omega] at this
              have tr := run_le s (n + 1) (by omega)
              have hP := hq2.trans (powA_ok (a := n + 1) (m := False) (by omega) hu hm)
              unfold powA at hP
              refine ce W 0 rfl rfl (kr) rfl ?_
              generalize run s (n + 1) = k at *
              refine sp W 0 rfl rfl rfl (fun c1 => ?_) (fun c1 => ?_)
              · refine rp W 0 rfl rfl rfl (.no (fun q => (hP.1 q.1).1 (by omega)))
              refine sp W 0 rfl rfl rfl (fun c2 => ?_) (fun c2 => ?_)
              · refine rp W 0 rfl rfl rfl (.no (fun q => by have := (hP.1 q.1).2.1; omega))
              refine sp W 0 rfl rfl rfl (fun c3 => ?_) (fun c3 => ?_)
              · have c3 : s.getD (n + 1) 0 = 48 := by rw [show ((n : Int) + 1).toNat = n + 1 by omega] at c3; exact (u8_eq (c := 48)).1 c3
                refine sp W 0 rfl rfl rfl (fun c4 => ?_) (fun c4 => ?_)
                · refine rp W 0 rfl rfl rfl (.no (fun q => (hP.1 q.1).2.2.1 ⟨c3, .inl (by omega)⟩))
                · have f3 : ¬ (s.getD (n + 1) 0 = 48 ∧ (1 < k ∨ False)) := fun q => q.2.elim (fun q => by omega) id
                  refine sp W 0 rfl rfl rfl (fun c6 => ?_) (fun c6 => ?_)
                  · refine sp W 0 rfl rfl rfl (fun c7 => ?_) (fun c7 => ?_)
                    · rw [show ((n : Int) + 1).toNat = n + 1 by omega, show (((n : Int) + 1) + (k : Int)).toNat = n + 1 + k by omega] at c7
                      refine rp W 0 rfl rfl rfl (.no (fun q => (hP.1 q.1).2.2.2.1 ⟨by omega, c7⟩))
                    · rw [show ((n : Int) + 1).toNat = n + 1 by omega, show (((n : Int) + 1) + (k : Int)).toNat = n + 1 + k by omega] at c7
                      have f4 : ¬ (k = 3 ∧ ¬ (Op.bytesLess ((s.take (n + 1 + k)).drop (n + 1)) [52, 48, 48] = true ∨ (s.take (n + 1 + k)).drop (n + 1) = [52, 48, 48])) := fun q => c7 q.2
                      refine rp W 0 rfl rfl rfl (.pr ⟨fun e => ⟨hP.2 ⟨by omega, by omega, f3, f4, by omega⟩, by omega⟩, fun q => by have := (hP.1 q.1).2.2.2.2; omega⟩)
                  · have f4 : ¬ (k = 3 ∧ ¬ (Op.bytesLess ((s.take (n + 1 + k)).drop (n + 1)) [52, 48, 48] = true ∨ (s.take (n + 1 + k)).drop (n + 1) = [52, 48, 48])) := fun q => by have := q.1; omega
                    refine rp W 0 rfl rfl rfl (.pr ⟨fun e => ⟨hP.2 ⟨by omega, by omega, f3, f4, by omega⟩, by omega⟩, fun q => by have := (hP.1 q.1).2.2.2.2; omega⟩)
              · have c3 : ¬ s.getD (n + 1) 0 = 48 := fun e => c3 (by rw [show ((n : Int) + 1).toNat = n + 1 by omega]; exact (u8_eq (c := 48)).2 e)
                have f3 : ¬ (s.getD (n + 1) 0 = 48 ∧ (1 < k ∨ False)) := fun q => c3 q.1
                refine sp W 0 rfl rfl rfl (fun c6 => ?_) (fun c6 => ?_)
                · refine sp W 0 rfl rfl rfl (fun c7 => ?_) (fun c7 => ?_)
                  · rw [show ((n : Int) + 1).toNat = n + 1 by omega, show (((n : Int) + 1) + (k : Int)).toNat = n + 1 + k by omega] at c7
                    refine rp W 0 rfl rfl rfl (.no (fun q => (hP.1 q.1).2.2.2.1 ⟨by omega, c7⟩))
                  · rw [show ((n : Int) + 1).toNat = n + 1 by omega, show (((n : Int) + 1) + (k : Int)).toNat = n + 1 + k by omega] at c7
                    have f4 : ¬ (k = 3 ∧ ¬ (Op.bytesLess ((s.take (n + 1 + k)).drop (n + 1)) [52, 48, 48] = true ∨ (s.take (n + 1 + k)).drop (n + 1) = [52, 48, 48])) := fun q => c7 q.2
                    refine rp W 0 rfl rfl rfl (.pr ⟨fun e => ⟨hP.2 ⟨by omega, by omega, f3, f4, by omega⟩, by omega⟩, fun q => by have := (hP.1 q.1).2.2.2.2; omega⟩)
                · have f4 : ¬ (k = 3 ∧ ¬ (Op.bytesLess ((s.take (n + 1 + k)).drop (n + 1)) [52, 48, 48] = true ∨ (s.take (n + 1 + k)).drop (n + 1) = [52, 48, 48])) := fun q => by have := q.1; omega
                  refine rp W 0 rfl rfl rfl (.pr ⟨fun e => ⟨hP.2 ⟨by omega, by omega, f3, f4, by omega⟩, by omega⟩, fun q => by have := (hP.1 q.1).2.2.2.2; omega⟩)
          · rw [show ((n : Int)).toNat = n by omega] at p4
            have hn : ¬ numE s := fun e => powE_no (by omega) (fun e => p4 ((u8_eq (c := 101)).2 e)) (hq.1 e)
            refine rp W 0 rfl rfl rfl (.pr ⟨fun e => by omega, fun e => absurd e.1 hn⟩)
        · have hn : numE s := hq.2 (powE_nil (by omega))
          refine rp W 0 rfl rfl rfl (.pr ⟨fun e => ⟨hn, by omega⟩, fun e => by omega⟩)
    · have hq : numE s ↔ powE (s.drop n) := by
        refine hq0.trans ?_
        rw [← r0, show s.drop n = [] from List.drop_eq_nil_iff.2 (by omega)]
        simp [fracE]
      refine sp W 0 rfl rfl rfl (fun p3 => ?_) (fun p3 => ?_)
      · refine sp W 0 rfl rfl rfl (fun p4 => ?_) (fun p4 => ?_)
        · rw [show ((n : Int)).toNat = n by omega] at p4
          have hq2 : numE s ↔ powE1 (s.drop (n + 1)) := hq.trans (powE_yes (by omega) ((u8_eq (c := 101)).1 p4))
          refine sp W 0 rfl rfl rfl (fun m1 => ?_) (fun m1 => ?_)
          · refine sp W 0 rfl rfl rfl (fun m2 => ?_) (fun m2 => ?_)
            · rw [show ((n : Int) + 1).toNat = n + 1 by omega] at m2
              have hu : s.drop (n + 1 + 1) = cutP (s.drop (n + 1)) 45 := cutP_yes (by omega) ((u8_eq (c := 45)).1 m2)
              have hm : True ↔ (s.drop (n + 1)).head? = some 45 := by rw [head_at (by omega)]; exact ⟨fun _ => (u8_eq (c := 45)).1 m2, fun _ => trivial⟩
              rw [← show ((n : Int) + 1).toNat = n + 1 by omega] at m2
              have kr : AFunP Tryd.prog 93 [.str s, .int .i64 ((n : Int) + 1 + 1)] (· = .int .i64 (run s (n + 1 + 1) : Nat)) := by
                have := l11Run_ok s (n + 1 + 1) (by omega) (by omega)
                rwa [show ((n + 1 + 1 : Nat) : Int) = (n : Int) + 1 + 1 by omega] at this
              have tr := run_le s (n + 1 + 1) (by omega)
              have hP := hq2.trans (powA_ok (a := n + 1 + 1) (m := True) (by omega) hu hm)
              unfold powA at hP
              refine ce W 0 rfl rfl (kr) rfl ?_
              generalize run s (n + 1 + 1) = k at *
              refine sp W 0 rfl rfl rfl (fun c1 => ?_) (fun c1 => ?_)
              · refine rp W 0 rfl rfl rfl (.no (fun q => (hP.1 q.1).1 (by omega)))
              refine sp W 0 rfl rfl rfl (fun c2 => ?_) (fun c2 => ?_)
              · refine rp W 0 rfl rfl rfl (.no (fun q => by have := (hP.1 q.1).2.1; omega))
              refine sp W 0 rfl rfl rfl (fun c3 => ?_) (fun c3 => ?_)
              · have c3 : s.getD (n + 1 + 1) 0 = 48 := by rw [show ((n : Int) + 1 + 1).toNat = n + 1 + 1 by omega] at c3; exact (u8_eq (c := 48)).1 c3
                refine sp W 0 rfl rfl rfl (fun c4 => ?_) (fun c4 => ?_)
                · refine rp W 0 rfl rfl rfl (.no (fun q => (hP.1 q.1).2.2.1 ⟨c3, .inl (by omega)⟩))
                · refine sp W 0 rfl rfl rfl (fun c5 => ?_) (fun c5 => ?_)
                  · refine rp W 0 rfl rfl rfl (.no (fun q => (hP.1 q.1).2.2.1 ⟨c3, .inr trivial⟩))
                  · exact absurd m2 c5
              · have c3 : ¬ s.getD (n + 1 + 1) 0 = 48 := fun e => c3 (by rw [show ((n : Int) + 1 + 1).toNat = n + 1 + 1 by omega]; exact (u8_eq (c := 48)).2 e)
                have f3 : ¬ (s.getD (n + 1 + 1) 0 = 48 ∧ (1 < k ∨ True)) := fun q => c3 q.1
                refine sp W 0 rfl rfl rfl (fun c6 => ?_) (fun c6 => ?_)
                · refine sp W 0 rfl rfl rfl (fun c7 => ?_) (fun c7 => ?_)
                  · rw [show ((n : Int) + 1 + 1).toNat = n + 1 + 1 by omega, show (((n : Int) + 1 + 1) + (k : Int)).toNat = n + 1 + 1 + k by omega] at c7
                    refine rp W 0 rfl rfl rfl (.no (fun q => (hP.1 q.1).2.2.2.1 ⟨by omega, c7⟩))
                  · rw [show ((n : Int) + 1 + 1).toNat = n + 1 + 1 by omega, show (((n : Int) + 1 + 1) + (k : Int)).toNat = n + 1 + 1 + k by omega] at c7
                    have f4 : ¬ (k = 3 ∧ ¬ (Op.bytesLess ((s.take (n + 1 + 1 + k)).drop (n + 1 + 1)) [52, 48, 48] = true ∨ (s.take (n + 1 + 1 + k)).drop (n + 1 + 1) = [52, 48, 48])) := fun q => c7 q.2
                    refine rp W 0 rfl rfl rfl (.pr ⟨fun e => ⟨hP.2 ⟨by omega, by omega, f3, f4, by omega⟩, by omega⟩, fun q => by have := (hP.1 q.1).2.2.2.2; omega⟩)
                · have f4 : ¬ (k = 3 ∧ ¬ (Op.bytesLess ((s.take (n + 1 + 1 + k)).drop (n + 1 + 1)) [52, 48, 48] = true ∨ (s.take (n + 1 + 1 + k)).drop (n + 1 + 1) = [52, 48, 48])) := fun q => by have := q.1; omega
                  refine rp W 0 rfl rfl rfl (.pr ⟨fun e => ⟨hP.2 ⟨by omega, by omega, f3, f4, by omega⟩, by omega⟩, fun q => by have := (hP.1 q.1).2.2.2.2; omega⟩)
            · rw [show ((n : Int) + 1).toNat = n + 1 by omega] at m2
              have hu : s.drop (n + 1) = cutP (s.drop (n + 1)) 45 := cutP_no (by omega) fun e => m2 ((u8_eq (c := 45)).2 e)
              have hm : False ↔ (s.drop (n + 1)).head? = some 45 := by rw [head_at (by omega)]; exact ⟨False.elim, fun e => m2 ((u8_eq (c := 45)).2 e)⟩
              rw [← show ((n : Int) + 1).toNat = n + 1 by omega] at m2
              have kr : AFunP Tryd.prog 93 [.str s, .int .i64 ((n : Int) + 1)] (· = .int .i64 (run s (n + 1) : Nat)) := by
                have := l11Run_ok s (n + 1) (by omega) (by omega)
                rwa [show ((n + 1 : Nat) : Int) = (n : Int) + 1 by omega] at this
              have tr := run_le s (n + 1) (by omega)
              have hP := hq2.trans (powA_ok (a := n + 1) (m := False) (by omega) hu hm)
              unfold powA at hP
              refine ce W 0 rfl rfl (kr) rfl ?_
              generalize run s (n + 1) = k at *
              refine sp W 0 rfl rfl rfl (fun c1 => ?_) (fun c1 => ?_)
              · refine rp W 0 rfl rfl rfl (.no (fun q => (hP.1 q.1).1 (by omega)))
              refine sp W 0 rfl rfl rfl (fun c2 => ?_) (fun c2 => ?_)
              · refine rp W 0 rfl rfl rfl (.no (fun q => by have := (hP.1 q.1).2.1; omega))
              refine sp W 0 rfl rfl rfl (fun c3 => ?_) (fun c3 => ?_)
              · have c3 : s.getD (n + 1) 0 = 48 := by rw [show ((n : Int) + 1).toNat = n + 1 by omega] at c3; exact (u8_eq (c := 48)).1 c3
                refine sp W 0 rfl rfl rfl (fun c4 => ?_) (fun c4 => ?_)
                · refine rp W 0 rfl rfl rfl (.no (fun q => (hP.1 q.1).2.2.1 ⟨c3, .inl (by omega)⟩))
                · refine sp W 0 rfl rfl rfl (fun c5 => ?_) (fun c5 => ?_)
                  · exact absurd c5 m2
                  · have f3 : ¬ (s.getD (n + 1) 0 = 48 ∧ (1 < k ∨ False)) := fun q => q.2.elim (fun q => by omega) id
                    refine sp W 0 rfl rfl rfl (fun c6 => ?_) (fun c6 => ?_)
                    · refine sp W 0 rfl rfl rfl (fun c7 => ?_) (fun c7 => ?_)
                      · rw [show ((n : Int) + 1).toNat = n + 1 by omega, show (((n : Int) + 1) + (k : Int)).toNat = n + 1 + k by omega] at c7
                        refine rp W 0 rfl rfl rfl (.no (fun q => (hP.1 q.1).2.2.2.1 ⟨by omega, c7⟩))
                      · rw [show ((n : Int) + 1).toNat = n + 1 by omega, show (((n : Int) + 1) + (k : Int)).toNat = n + 1 + k by omega] at c7
                        have f4 : ¬ (k = 3 ∧ ¬ (Op.bytesLess ((s.take (n + 1 + k)).drop (n + 1)) [52, 48, 48] = true ∨ (s.take (n + 1 + k)).drop (n + 1) = [52, 48, 48])) := fun q => c7 q.2
                        refine rp W 0 rfl rfl rfl (.pr ⟨fun e => ⟨hP.2 ⟨by omega, by omega, f3, f4, by omega⟩, by omega⟩, fun q => by have := (hP.1 q.1).2.2.2.2; omega⟩)
                    · have f4 : ¬ (k = 3 ∧ ¬ (Op.bytesLess ((s.take (n + 1 + k)).drop (n + 1)) [52, 48, 48] = true ∨ (s.take (n + 1 + k)).drop (n + 1) = [52, 48, 48])) := fun q => by have := q.1; omega
                      refine rp W 0 rfl rfl rfl (.pr ⟨fun e => ⟨hP.2 ⟨by omega, by omega, f3, f4, by omega⟩, by omega⟩, fun q => by have := (hP.1 q.1).2.2.2.2; omega⟩)
              · have c3 : ¬ s.getD (n + 1) 0 = 48 := fun e => c3 (by rw [show ((n : Int) + 1).toNat = n + 1 by omega]; exact (u8_eq (c := 48)).2 e)
                have f3 : ¬ (s.getD (n + 1) 0 = 48 ∧ (1 < k ∨ False)) := fun q => c3 q.1
                refine sp W 0 rfl rfl rfl (fun c6 => ?_) (fun c6 => ?_)
                · refine sp W 0 rfl rfl rfl (fun c7 => ?_) (fun c7 => ?_)
                  · rw [show ((n : Int) + 1).toNat = n + 1 by omega, show (((n : Int) + 1) + (k : Int)).toNat = n + 1 + k by omega] at c7
                    refine rp W 0 rfl rfl rfl (.no (fun q => (hP.1 q.1).2.2.2.1 ⟨by omega, c7⟩))
                  · rw [show ((n : Int) + 1).toNat = n + 1 by omega, show (((n : Int) + 1) + (k : Int)).toNat = n + 1 + k by omega] at c7
                    have f4 : ¬ (k = 3 ∧ ¬ (Op.bytesLess ((s.take (n + 1 + k)).drop (n + 1)) [52, 48, 48] = true ∨ (s.take (n + 1 + k)).drop (n + 1) = [52, 48, 48])) := fun q => c7 q.2
                    refine rp W 0 rfl rfl rfl (.pr ⟨fun e => ⟨hP.2 ⟨by omega, by omega, f3, f4, by omega⟩, by omega⟩, fun q => by have := (hP.1 q.1).2.2.2.2; omega⟩)
                · have f4 : ¬ (k = 3 ∧ ¬ (Op.bytesLess ((s.take (n + 1 + k)).drop (n + 1)) [52, 48, 48] = true ∨ (s.take (n + 1 + k)).drop (n + 1) = [52, 48, 48])) := fun q => by have := q.1; omega
                  refine rp W 0 rfl rfl rfl (.pr ⟨fun e => ⟨hP.2 ⟨by omega, by omega, f3, f4, by omega⟩, by omega⟩, fun q => by have := (hP.1 q.1).2.2.2.2; omega⟩)
          · have e0 : s.drop (n + 1) = [] := List.drop_eq_nil_iff.2 (by omega)
            have hu : s.drop (n + 1) = cutP (s.drop (n + 1)) 45 := by rw [e0]; rfl
            have hm : False ↔ (s.drop (n + 1)).head? = some 45 := by rw [e0]; simp
            have kr : AFunP Tryd.prog 93 [.str s, .int .i64 ((n : Int) + 1)] (· = .int .i64 (run s (n + 1) : Nat)) := by
              have := l11Run_ok s (n + 1) (by omega) (by omega)
              rwa [show ((n + 1 : Nat) : Int) = (n : Int) + 1 by omega] at this
            have tr := run_le s (n + 1) (by omega)
            have hP := hq2.trans (powA_ok (a := n + 1) (m := False) (by omega) hu hm)
            unfold powA at hP
            refine ce W 0 rfl rfl (kr) rfl ?_
            generalize run s (n + 1) = k at *
            refine sp W 0 rfl rfl rfl (fun c1 => ?_) (fun c1 => ?_)
            · refine rp W 0 rfl rfl rfl (.no (fun q => (hP.1 q.1).1 (by omega)))
            refine sp W 0 rfl rfl rfl (fun c2 => ?_) (fun c2 => ?_)
            · refine rp W 0 rfl rfl rfl (.no (fun q => by have := (hP.1 q.1).2.1; omega))
            refine sp W 0 rfl rfl rfl (fun c3 => ?_) (fun c3 => ?_)
            · have c3 : s.getD (n + 1) 0 = 48 := by rw [show ((n : Int) + 1).toNat = n + 1 by omega] at c3; exact (u8_eq (c := 48)).1 c3
              refine sp W 0 rfl rfl rfl (fun c4 => ?_) (fun c4 => ?_)
              · refine rp W 0 rfl rfl rfl (.no (fun q => (hP.1 q.1).2.2.1 ⟨c3, .inl (by omega)⟩))
              · have f3 : ¬ (s.getD (n + 1) 0 = 48 ∧ (1 < k ∨ False)) := fun q => q.2.elim (fun q => by omega) id
                refine sp W 0 rfl rfl rfl (fun c6 => ?_) (fun c6 => ?_)
                · refine sp W 0 rfl rfl rfl (fun c7 => ?_) (fun c7 => ?_)
                  · rw [show ((n : Int) + 1).toNat = n + 1 by omega, show (((n : Int) + 1) + (k : Int)).toNat = n + 1 + k by omega] at c7
                    refine rp W 0 rfl rfl rfl (.no (fun q => (hP.1 q.1).2.2.2.1 ⟨by omega, c7⟩))
                  · rw [show ((n : Int) + 1).toNat = n + 1 by omega, show (((n : Int) + 1) + (k : Int)).toNat = n + 1 + k by omega] at c7
                    have f4 : ¬ (k = 3 ∧ ¬ (Op.bytesLess ((s.take (n + 1 + k)).drop (n + 1)) [52, 48, 48] = true ∨ (s.take (n + 1 + k)).drop (n + 1) = [52, 48, 48])) := fun q => c7 q.2
                    refine rp W 0 rfl rfl rfl (.pr ⟨fun e => ⟨hP.2 ⟨by omega, by omega, f3, f4, by omega⟩, by omega⟩, fun q => by have := (hP.1 q.1).2.2.2.2; omega⟩)
                · have f4 : ¬ (k = 3 ∧ ¬ (Op.bytesLess ((s.take (n + 1 + k)).drop (n + 1)) [52, 48, 48] = true ∨ (s.take (n + 1 + k)).drop (n + 1) = [52, 48, 48])) := fun q => by have := q.1; omega
                  refine rp W 0 rfl rfl rfl (.pr ⟨fun e => ⟨hP.2 ⟨by omega, by omega, f3, f4, by omega⟩, by omega⟩, fun q => by have := (hP.1 q.1).2.2.2.2; omega⟩)
            · have c3 : ¬ s.getD (n + 1) 0 = 48 := fun e => c3 (by rw [show ((n : Int) + 1).toNat = n + 1 by omega]; exact (u8_eq (c := 48)).2 e)
              have f3 : ¬ (s.getD (n + 1) 0 = 48 ∧ (1 < k ∨ False)) := fun q => c3 q.1
              refine sp W 0 rfl rfl rfl (fun c6 => ?_) (fun c6 => ?_)
              · refine sp W 0 rfl rfl rfl (fun c7 => ?_) (fun c7 => ?_)
                · rw [show ((n : Int) + 1).toNat = n + 1 by omega, show (((n : Int) + 1) + (k : Int)).toNat = n + 1 + k by omega] at c7
                  refine rp W 0 rfl rfl rfl (.no (fun q => (hP.1 q.1).2.2.2.1 ⟨by omega, c7⟩))
                · rw [show ((n : Int) + 1).toNat = n + 1 by omega, show (((n : Int) + 1) + (k : Int)).toNat = n + 1 + k by omega] at c7
                  have f4 : ¬ (k = 3 ∧ ¬ (Op.bytesLess ((s.take (n + 1 + k)).drop (n + 1)) [52, 48, 48] = true ∨ (s.take (n + 1 + k)).drop (n + 1) = [52, 48, 48])) := fun q => c7 q.2
                  refine rp W 0 rfl rfl rfl (.pr ⟨fun e => ⟨hP.2 ⟨by omega, by omega, f3, f4, by omega⟩, by omega⟩, fun q => by have := (hP.1 q.1).2.2.2.2; omega⟩)
              · have f4 : ¬ (k = 3 ∧ ¬ (Op.bytesLess ((s.take (n + 1 + k)).drop (n + 1)) [52, 48, 48] = true ∨ (s.take (n + 1 + k)).drop (n + 1) = [52, 48, 48])) := fun q => by have := q.1; omega
                refine rp W 0 rfl rfl rfl (.pr ⟨fun e => ⟨hP.2 ⟨by omega, by omega, f3, f4, by omega⟩, by omega⟩, fun q => by have := (hP.1 q.1).2.2.2.2; omega⟩)
        · rw [show ((n : Int)).toNat = n by omega] at p4
          have hn : ¬ numE s := fun e => powE_no (by omega) (fun e => p4 ((u8_eq (c := 101)).2 e)) (hq.1 e)
          refine rp W 0 rfl rfl rfl (.pr ⟨fun e => by omega, fun e => absurd e.1 hn⟩)
      · have hn : numE s := hq.2 (powE_nil (by omega))
        refine rp W 0 rfl rfl rfl (.pr ⟨fun e => ⟨hn, by omega⟩, fun e => by omega⟩)
end Pf
/- How many parts a node has -/
namespace Pf
open Go Go.Proofs
open Classical in
/-- How many parts a node has; -1: it is none. -/
noncomputable def partsZ (k n : Int) (s : List UInt8) : Int :=
  if k = 1 then (if n = 0 ∧ litP s ∧ s.length ≤ 60 then 0 else -1)
  else if k = 2 then (if n = 0 ∧ wordP s ∧ ¬ s ∈ ownW then 0 else -1)
  else if k = 3 ∨ k = 9 ∨ k = 10 then (if n = 0 ∧ s = [] then 1 else -1)
  else if k = 4 ∨ k = 5 ∨ k = 6 ∨ k = 7 ∨ k = 11 ∨ k = 12 then (if n = 0 ∧ s = [] then 2 else -1)
  else if k = 8 then (if 0 ≤ n ∧ n ≤ 8 ∧ s = [] then 1 else -1)
  else if k = 13 then (if 1 ≤ n ∧ n ≤ 6 ∧ wordP s ∧ ¬ s ∈ ownW then n else -1)
  else -1
theorem l12Args_ok (k n : Int) (s : List UInt8) (hl : s.length ≤ 281474976710656) : AFunP Tryd.prog 38 [.agg [.int .i64 k, .int .i64 n, .str s]] (· = .int .i64 (partsZ k n s)) := by
  have k1 := specLangNumOk_ok s hl
  have k2 := specLangNameOk_ok s (by omega)
  refine afun_of Tryd.func38 Tryd.call38 rfl Tryd.ntmps38 rfl ?_
  have W : Walk Tryd.prog TT 38 _ := Walk.of TT_ok Tryd.func38 Tryd.results38
  (repeat' (first | (refine sp W 0 rfl rfl rfl (fun _ => ?_) (fun _ => ?_)) | (refine ce W 0 rfl rfl (k1) rfl ?_) | (refine ce W 0 rfl rfl (k2) rfl ?_))) <;> (first | exact rp W 0 rfl rfl rfl (.int (by clear k1 k2; simp_all [partsZ] <;> intros <;> exfalso <;> omega)))
theorem parts_ok (k n : Int) (s : List UInt8) (hl : s.length ≤ 281474976710656) : AFunP Tryd.prog 40 [.agg [.int .i64 k, .int .i64 n, .str s]] (· = .int .i64 (partsZ k n s)) := by
  have k1 := implLangNumOk_ok s hl
  have k2 := langNameOk_ok s (by omega)
  have k3 := in_ok n 0 8
  have k4 := in_ok n 1 6
  refine afun_of Tryd.func40 Tryd.call40 rfl Tryd.ntmps40 rfl ?_
  have W : Walk Tryd.prog TT 40 _ := Walk.of TT_ok Tryd.func40 Tryd.results40
  (repeat' (first | (refine sp W 0 rfl rfl rfl (fun _ => ?_) (fun _ => ?_)) | (refine ce W 0 rfl rfl (k1) rfl ?_) | (refine ce W 0 rfl rfl (k2) rfl ?_) | (refine ce W 0 rfl rfl (k3) rfl ?_) | (refine ce W 0 rfl rfl (k4) rfl ?_))) <;> (first | exact rp W 0 rfl rfl rfl (.int (by clear k1 k2 k3 k4; simp_all [partsZ] <;> intros <;> exfalso <;> omega)))

end Pf
/- The law of TermOk -/
namespace Pf
open Go Go.Proofs
/-- A node of a term, and terms. -/
abbrev Nd := Int × Int × List UInt8
def nodeV (x : Nd) : AV := .agg [.int .i64 x.1, .int .i64 x.2.1, .str x.2.2]
def nodeR (l : List Nd) (i : Nat) : List AV := [.int .i64 (l.getD i (0, 0, [])).1, .int .i64 (l.getD i (0, 0, [])).2.1, .str (l.getD i (0, 0, [])).2.2]
abbrev termV (l : List Nd) : AV := .agg [.fz l.length (nodeR l)]
noncomputable def pz (x : Nd) : Int := partsZ x.1 x.2.1 x.2.2
/-- How deep the stack is behind the first i nodes; none: a node found too few parts. -/
noncomputable def dep (l : List Nd) : Nat → Option Int
  | 0 => some 0
  | i + 1 => match dep l i with
    | none => none
    | some d => if pz (l.getD i (0, 0, [])) < 0 ∨ d < pz (l.getD i (0, 0, [])) then none else some (d - pz (l.getD i (0, 0, [])) + 1)
def termP (l : List Nd) : Prop := l.length ≤ 100 ∧ dep l l.length = some 1
/-- Each text is no longer than a text may be. -/
def txtOk (l : List Nd) : Prop := ∀ i, i < l.length → (l.getD i (0, 0, [])).2.2.length ≤ 281474976710656
theorem dep_rng {l : List Nd} : ∀ {i : Nat} {d : Int}, dep l i = some d → 0 ≤ d ∧ d ≤ i
  | 0, d, h => by simp only [dep, Option.some.injEq] at h; omega
  | i + 1, d, h => by
    simp only [dep] at h
    split at h
    · cases h
    · rename_i d' hd
      have := dep_rng hd
      split at h
      · cases h
      · cases h
        omega
theorem dep_none {l : List Nd} {i : Nat} (h : dep l i = none) : ∀ {j : Nat}, i ≤ j → dep l j = none := by
  intro j hj
  induction j with
  | zero => rw [show i = 0 by omega] at h; exact h
  | succ j ih =>
    rcases (by omega : i = j + 1 ∨ i ≤ j) with rfl | h2
    · exact h
    · simp only [dep, ih h2]
theorem specTermOk_ok (l : List Nd) (hx : txtOk l) (hl : l.length ≤ 1048576) : AFunP Tryd.prog 10 [termV l] (· = .pr (termP l)) := by
  refine afun_of Tryd.func10 Tryd.call10 rfl Tryd.ntmps10 rfl ?_
  have W : Walk Tryd.prog TT 10 _ := Walk.of TT_ok Tryd.func10 Tryd.results10
  refine sp W 0 rfl rfl rfl (fun h1 => ?_) (fun h1 => ?_)
  · refine rp W 0 rfl rfl rfl (.no (fun k => by have := k.1; omega))
  refine lp W 0 (σ := Nat × Int) (fun s => [(1, .ptr 0 0 0 0), (3, .int .i64 s.2), (4, .int .i64 s.1)]) (fun _ => [.lst 0 [[.fz l.length (nodeR l)]]]) (fun s => l.length - s.1) (fun s => s.1 ≤ l.length ∧ dep l s.1 = some s.2) (0, 0) [1, 3, 4] rfl rfl rfl ⟨Nat.zero_le _, rfl⟩ ?_
  rintro ⟨i, d⟩ ⟨hi, he⟩ ih
  dsimp only at hi he ih ⊢
  have hr := dep_rng he
  refine sp W 0 rfl rfl rfl (fun h2 => ?_) (fun h2 => ?_)
  · have h2 : i < l.length := by omega
    have kp := l12Args_ok (l.getD i (0, 0, [])).1 (l.getD i (0, 0, [])).2.1 (l.getD i (0, 0, [])).2.2 (hx i h2)
    have hd : dep l (i + 1) = if partsZ (l.getD i (0, 0, [])).1 (l.getD i (0, 0, [])).2.1 (l.getD i (0, 0, [])).2.2 < 0 ∨ d < partsZ (l.getD i (0, 0, [])).1 (l.getD i (0, 0, [])).2.1 (l.getD i (0, 0, [])).2.2 then none else some (d - partsZ (l.getD i (0, 0, [])).1 (l.getD i (0, 0, [])).2.1 (l.getD i (0, 0, [])).2.2 + 1) := by
      simp only [dep, he]; rfl
    refine ce W 0 rfl rfl (kp) rfl ?_
    generalize partsZ (l.getD i (0, 0, [])).1 (l.getD i (0, 0, [])).2.1 (l.getD i (0, 0, [])).2.2 = z at *
    refine sp W 0 rfl rfl rfl (fun a1 => ?_) (fun a1 => ?_)
    · have hn := dep_none (hd.trans (if_pos (.inl a1))) (show i + 1 ≤ l.length by omega)
      refine rp W 0 rfl rfl rfl (.no (fun k => by have := k.2; rw [hn] at this; cases this))
    refine sp W 0 rfl rfl rfl (fun a2 => ?_) (fun a2 => ?_)
    · have hn := dep_none (hd.trans (if_pos (.inr a2))) (show i + 1 ≤ l.length by omega)
      refine rp W 0 rfl rfl rfl (.no (fun k => by have := k.2; rw [hn] at this; cases this))
    rw [if_neg (by omega)] at hd
    refine bd W 0 1 [1, 3, 4] rfl rfl rfl rfl rfl (ih (i + 1, d - z + 1) ⟨by dsimp only; omega, hd⟩ (by dsimp only; omega))
  · have hil : i = l.length := by omega
    subst hil
    refine rp W 0 rfl rfl rfl (.pr ⟨fun e => ⟨by omega, by rw [he, e]⟩, fun k => by have := k.2; rw [he] at this; cases this; rfl⟩)
theorem implTermOk_ok (l : List Nd) (hx : txtOk l) (hl : l.length ≤ 1048576) : AFunP Tryd.prog 12 [termV l] (· = .pr (termP l)) := by
  refine afun_of Tryd.func12 Tryd.call12 rfl Tryd.ntmps12 rfl ?_
  have W : Walk Tryd.prog TT 12 _ := Walk.of TT_ok Tryd.func12 Tryd.results12
  refine lp W 0 (σ := Nat × Int) (fun s => [(1, .ptr 0 0 0 0), (3, .int .i64 s.2), (8, .fz l.length (nodeR l)), (9, .int .i64 l.length), (10, .int .i64 s.1)]) (fun _ => [.lst 0 [[.fz l.length (nodeR l)]]]) (fun s => l.length - s.1) (fun s => s.1 ≤ l.length ∧ dep l s.1 = some s.2) (0, 0) [1, 3, 8, 9, 10] rfl rfl rfl ⟨Nat.zero_le _, rfl⟩ ?_
  rintro ⟨i, d⟩ ⟨hi, he⟩ ih
  dsimp only at hi he ih ⊢
  have hr := dep_rng he
  refine sp W 0 rfl rfl rfl (fun h2 => ?_) (fun h2 => ?_)
  · have h2 : i < l.length := by omega
    have kp := parts_ok (l.getD i (0, 0, [])).1 (l.getD i (0, 0, [])).2.1 (l.getD i (0, 0, [])).2.2 (hx i h2)
    have hd : dep l (i + 1) = if partsZ (l.getD i (0, 0, [])).1 (l.getD i (0, 0, [])).2.1 (l.getD i (0, 0, [])).2.2 < 0 ∨ d < partsZ (l.getD i (0, 0, [])).1 (l.getD i (0, 0, [])).2.1 (l.getD i (0, 0, [])).2.2 then none else some (d - partsZ (l.getD i (0, 0, [])).1 (l.getD i (0, 0, [])).2.1 (l.getD i (0, 0, [])).2.2 + 1) := by
      simp only [dep, he]; rfl
    refine ce W 0 rfl rfl (kp) rfl ?_
    generalize partsZ (l.getD i (0, 0, [])).1 (l.getD i (0, 0, [])).2.1 (l.getD i (0, 0, [])).2.2 = z at *
    refine sp W 0 rfl rfl rfl (fun a1 => ?_) (fun a1 => ?_)
    · have hn := dep_none (hd.trans (if_pos (.inl a1))) (show i + 1 ≤ l.length by omega)
      refine rp W 0 rfl rfl rfl (.no (fun k => by have := k.2; rw [hn] at this; cases this))
    refine sp W 0 rfl rfl rfl (fun a2 => ?_) (fun a2 => ?_)
    · have hn := dep_none (hd.trans (if_pos (.inr a2))) (show i + 1 ≤ l.length by omega)
      refine rp W 0 rfl rfl rfl (.no (fun k => by have := k.2; rw [hn] at this; cases this))
    rw [if_neg (by omega)] at hd
    rw [show d - z + 1 = d + (1 - z) by omega] at hd
    refine bd W 0 1 [1, 3, 8, 9, 10] rfl rfl rfl rfl rfl (ih (i + 1, d + (1 - z)) ⟨by dsimp only; omega, hd⟩ (by dsimp only; omega))
  · have hil : i = l.length := by omega
    subst hil
    refine sp W 0 rfl rfl rfl (fun b1 => ?_) (fun b1 => ?_)
    · refine rp W 0 rfl rfl rfl (.pr ⟨fun e => ⟨by omega, by rw [he, b1]⟩, fun k => by have := k.1; omega⟩)
    · refine rp W 0 rfl rfl rfl (.no (fun k => by have := k.2; rw [he] at this; cases this; exact b1 rfl))
theorem szNode_ok (x : Nd) (left : Int) (hl : 0 ≤ left ∧ left ≤ 1048576) (hx : x.2.2.length ≤ 9223372036854775807) : AFunP Tryd.prog 71 [nodeV x, .int .i64 left] (· = .int .i64 (if left < x.2.2.length then -1 else left - x.2.2.length)) := by
  unfold nodeV
  refine afun_of Tryd.func71 Tryd.call71 rfl Tryd.ntmps71 rfl ?_
  have W : Walk Tryd.prog TT 71 _ := Walk.of TT_ok Tryd.func71 Tryd.results71
  refine sp W 0 rfl rfl rfl (fun h1 => ?_) (fun h1 => ?_)
  · refine rp W 0 rfl rfl rfl (.int (by rw [if_pos (by omega)]))
  · refine rp W 0 rfl rfl rfl (.int (by rw [if_neg (by omega)]))
theorem toNode_ok (x : Nd) : AFunP Tryd.prog 74 [nodeV x] (· = nodeV x) := by
  unfold nodeV
  refine afun_of Tryd.func74 Tryd.call74 rfl Tryd.ntmps74 rfl ?_
  have W : Walk Tryd.prog TT 74 _ := Walk.of TT_ok Tryd.func74 Tryd.results74
  refine rp W 0 rfl rfl rfl (.refl)
theorem eqNode_ok (x y : Nd) : AFunP Tryd.prog 77 [nodeV x, nodeV y] (· = .pr (x = y)) := by
  unfold nodeV
  refine afun_of Tryd.func77 Tryd.call77 rfl Tryd.ntmps77 rfl ?_
  have W : Walk Tryd.prog TT 77 _ := Walk.of TT_ok Tryd.func77 Tryd.results77
  refine sp W 0 rfl rfl rfl (fun h1 => ?_) (fun h1 => ?_)
  · refine rp W 0 rfl rfl rfl (.no (fun k => by subst k; exact h1 rfl))
  refine sp W 0 rfl rfl rfl (fun h2 => ?_) (fun h2 => ?_)
  · refine rp W 0 rfl rfl rfl (.no (fun k => by subst k; exact h2 rfl))
  refine sp W 0 rfl rfl rfl (fun h3 => ?_) (fun h3 => ?_)
  · refine rp W 0 rfl rfl rfl (.no (fun k => by subst k; exact h3 rfl))
  · refine rp W 0 rfl rfl rfl (.yes (Prod.ext (Classical.not_not.1 h1) (Prod.ext (Classical.not_not.1 h2) (Classical.not_not.1 h3))))
theorem eqNodeS_ok (l m : List Nd) (hl : l.length ≤ 1048576) (hm : m.length ≤ 1048576) : AFunP Tryd.prog 41 [.fz l.length (nodeR l), .fz m.length (nodeR m)] (· = .pr (l = m)) := by
  refine afun_of Tryd.func41 Tryd.call41 rfl Tryd.ntmps41 rfl ?_
  have W : Walk Tryd.prog TT 41 _ := Walk.of TT_ok Tryd.func41 Tryd.results41
  refine sp W 0 rfl rfl rfl (fun h1 => ?_) (fun h1 => ?_)
  · refine rp W 0 rfl rfl rfl (.no (fun k => by subst k; omega))
  have h1 : l.length = m.length := by omega
  refine lp W 0 (σ := Nat) (fun i => [(0, .fz l.length (nodeR l)), (1, .fz m.length (nodeR m)), (5, .int .i64 i)]) (fun _ => []) (fun i => l.length - i) (fun i => i ≤ l.length ∧ ∀ j, j < i → l.getD j (0, 0, []) = m.getD j (0, 0, [])) 0 [0, 1, 5] rfl rfl rfl ⟨Nat.zero_le _, fun j hj => by omega⟩ ?_
  rintro i ⟨hi, he⟩ ih
  refine sp W 0 rfl rfl rfl (fun h2 => ?_) (fun h2 => ?_)
  · have h2 : i < l.length := by omega
    have kq := eqNode_ok (l.getD i (0, 0, [])) (m.getD i (0, 0, []))
    refine dre W 0 10 [] [.pr (l.getD i (0, 0, []) = m.getD i (0, 0, []))] rfl rfl rfl ⟨kq.at rfl _, trivial⟩ rfl ?_
    refine sp W 0 rfl rfl rfl (fun h3 => ?_) (fun h3 => ?_)
    · refine rp W 0 rfl rfl rfl (.no (fun k => by subst k; exact h3 rfl))
    · refine bd W 0 0 [0, 1, 5] rfl rfl rfl rfl rfl (ih (i + 1) ⟨by omega, fun j hj => ?_⟩ (by omega))
      by_cases hji : j = i
      · subst hji; exact Classical.not_not.1 h3
      · exact he j (by omega)
  · have hfin : l = m := List.ext_getElem h1 fun j h3 h4 => by
      have := he j (by omega)
      simpa [List.getD_eq_getElem?_getD, h3, h4] using this
    refine rp W 0 rfl rfl rfl (.yes hfin)
theorem eqTerm_ok (l m : List Nd) (hl : l.length ≤ 1048576) (hm : m.length ≤ 1048576) : AFunP Tryd.prog 13 [termV l, termV m] (· = .pr (l = m)) := by
  refine afun_of Tryd.func13 Tryd.call13 rfl Tryd.ntmps13 rfl ?_
  have W : Walk Tryd.prog TT 13 _ := Walk.of TT_ok Tryd.func13 Tryd.results13
  refine ce W 0 rfl rfl (eqNodeS_ok l m hl hm) rfl ?_
  refine sp W 0 rfl rfl rfl (fun h1 => ?_) (fun h1 => ?_)
  · refine rp W 0 rfl rfl rfl (.no h1)
  · refine rp W 0 rfl rfl rfl (.yes (Classical.not_not.1 h1))
theorem toNodeS_ok (l : List Nd) (hl : l.length ≤ 1048576) : AFunP Tryd.prog 39 [.fz l.length (nodeR l)] (· = .fz l.length (nodeR l)) := by
  refine afun_of Tryd.func39 Tryd.call39 rfl Tryd.ntmps39 rfl ?_
  have W : Walk Tryd.prog TT 39 _ := Walk.of TT_ok Tryd.func39 Tryd.results39
  refine lp W 0 (σ := Nat × (Nat → Int) × (Nat → Int) × (Nat → List UInt8)) (fun s => [(0, .fz l.length (nodeR l)), (3, .sl 0 0 0 l.length), (4, .int .i64 s.1)]) (fun s => [.tab 0 l.length fun j => [.int .i64 (s.2.1 j), .int .i64 (s.2.2.1 j), .str (s.2.2.2 j)]]) (fun s => l.length - s.1) (fun s => s.1 ≤ l.length ∧ ∀ j, j < s.1 → (s.2.1 j, s.2.2.1 j, s.2.2.2 j) = l.getD j (0, 0, [])) (0, fun _ => 0, fun _ => 0, fun _ => []) [0, 3, 4] rfl rfl rfl ⟨Nat.zero_le _, fun j hj => by omega⟩ ?_
  rintro ⟨i, F, G, S⟩ ⟨hi, he⟩ ih
  dsimp only at hi he ih ⊢
  refine sp W 0 rfl rfl rfl (fun h2 => ?_) (fun h2 => ?_)
  · have h2 : i < l.length := by omega
    refine ce W 0 rfl rfl (toNode_ok (l.getD i (0, 0, []))) rfl ?_
    refine bd W 0 1 [0, 3, 4] rfl rfl rfl rfl rfl (ih (i + 1, fun j => if j = i then (l.getD i (0, 0, [])).1 else F j, fun j => if j = i then (l.getD i (0, 0, [])).2.1 else G j, fun j => if j = i then (l.getD i (0, 0, [])).2.2 else S j) ⟨by dsimp only; omega, fun j hj => ?_⟩ (by dsimp only; omega))
    dsimp only at hj ⊢
    by_cases hji : j = i
    · subst hji; rw [if_pos rfl, if_pos rfl, if_pos rfl]
    · rw [if_neg hji, if_neg hji, if_neg hji]; exact he j (by omega)
  · refine rp W 0 rfl rfl rfl (.fzn rfl fun j hj => ?_)
    show [AV.int .i64 (F j), AV.int .i64 (G j), AV.str (S j)] = nodeR l j
    have e := he j (by omega)
    unfold nodeR
    rw [← e]
theorem toTerm_ok (l : List Nd) (hl : l.length ≤ 1048576) : AFunP Tryd.prog 11 [termV l] (· = termV l) := by
  refine afun_of Tryd.func11 Tryd.call11 rfl Tryd.ntmps11 rfl ?_
  have W : Walk Tryd.prog TT 11 _ := Walk.of TT_ok Tryd.func11 Tryd.results11
  refine ce W 0 rfl rfl (toNodeS_ok l hl) rfl ?_
  refine rp W 0 rfl rfl rfl (.refl)
theorem szNodeS_ok (l : List Nd) (left : Int) (hl : 0 ≤ left ∧ left ≤ 1048576) (hm : l.length ≤ 9223372036854775807) (hx : ∀ i, i < l.length → (l.getD i (0, 0, [])).2.2.length ≤ 9223372036854775807) : AFunP Tryd.prog 37 [.fz l.length (nodeR l), .int .i64 left] (fun u => ∃ n, u = .int .i64 n ∧ (0 ≤ n → l.length ≤ left ∧ ∀ i, i < l.length → ((l.getD i (0, 0, [])).2.2.length : Int) ≤ left)) := by
  refine afun_of Tryd.func37 Tryd.call37 rfl Tryd.ntmps37 rfl ?_
  have W : Walk Tryd.prog TT 37 _ := Walk.of TT_ok Tryd.func37 Tryd.results37
  refine sp W 0 rfl rfl rfl (fun h1 => ?_) (fun h1 => ?_)
  · refine rq W 0 rfl rfl (.int .i64 (-1)) (⟨_, rfl, fun k => by omega⟩) rfl .refl
  refine lp W 0 (σ := Nat × Int) (fun s => [(0, .fz l.length (nodeR l)), (1, .int .i64 s.2), (5, .int .i64 s.1)]) (fun _ => []) (fun s => l.length - s.1) (fun s => s.1 ≤ l.length ∧ (0 ≤ s.2 ∧ s.2 ≤ left) ∧ ∀ j, j < s.1 → ((l.getD j (0, 0, [])).2.2.length : Int) ≤ left) (0, left - l.length) [0, 1, 5] rfl rfl rfl ⟨Nat.zero_le _, ⟨by dsimp only; omega, by dsimp only; omega⟩, fun j hj => by omega⟩ ?_
  rintro ⟨i, d⟩ ⟨hi, hd, he⟩ ih
  dsimp only at hi hd he ih ⊢
  refine sp W 0 rfl rfl rfl (fun h2 => ?_) (fun h2 => ?_)
  · have h2 : i < l.length := by omega
    have hxi := hx i h2
    refine ce W 0 rfl rfl (szNode_ok (l.getD i (0, 0, [])) d ⟨by omega, by omega⟩ hxi) rfl ?_
    refine sp W 0 rfl rfl rfl (fun h3 => ?_) (fun h3 => ?_)
    · refine rq W 0 rfl rfl (.int .i64 (-1)) (⟨_, rfl, fun k => by omega⟩) rfl .refl
    · by_cases h4 : d < (l.getD i (0, 0, [])).2.2.length
      · rw [if_pos h4] at h3; exact absurd (by omega) h3
      · simp only [if_neg h4]
        refine bd W 0 0 [0, 1, 5] rfl rfl rfl rfl rfl (ih (i + 1, d - (l.getD i (0, 0, [])).2.2.length) ⟨by dsimp only; omega, ⟨by dsimp only; omega, by dsimp only; omega⟩, fun j hj => ?_⟩ (by dsimp only; omega))
        by_cases hji : j = i
        · subst hji; omega
        · exact he j (by dsimp only at hj; omega)
  · refine rq W 0 rfl rfl (.int .i64 d) (⟨_, rfl, fun k => ⟨by omega, fun j hj => he j (by omega)⟩⟩) rfl .refl
theorem szTerm_ok (l : List Nd) (hm : l.length ≤ 9223372036854775807) (hx : ∀ i, i < l.length → (l.getD i (0, 0, [])).2.2.length ≤ 9223372036854775807) : AFunP Tryd.prog 9 [termV l, .int .i64 1048576] (fun u => ∃ n, u = .int .i64 n ∧ (0 ≤ n → l.length ≤ 1048576 ∧ txtOk l)) := by
  refine afun_of Tryd.func9 Tryd.call9 rfl Tryd.ntmps9 rfl ?_
  have W : Walk Tryd.prog TT 9 _ := Walk.of TT_ok Tryd.func9 Tryd.results9
  refine cq W 0 rfl rfl (szNodeS_ok l 1048576 ⟨by omega, by omega⟩ hm hx) ?_
  rintro _ ⟨n, rfl, hn⟩
  refine ⟨_, rfl, ?_⟩
  refine sp W 0 rfl rfl rfl (fun h1 => ?_) (fun h1 => ?_)
  · refine rq W 0 rfl rfl (.int .i64 (-1)) (⟨_, rfl, fun k => by omega⟩) rfl .refl
  · refine rq W 0 rfl rfl (.int .i64 n) (⟨_, rfl, fun k => ⟨by have := (hn k).1; omega, fun i hi => by have := (hn k).2 i hi; omega⟩⟩) rfl .refl
theorem fnTermOk_law (l : List Nd) (hm : l.length ≤ 9223372036854775807) (hx : ∀ i, i < l.length → (l.getD i (0, 0, [])).2.2.length ≤ 9223372036854775807) : AFunP Tryd.prog 3 [termV l] (· = .pr True) := by
  refine afun_of Tryd.func3 Tryd.call3 rfl Tryd.ntmps3 rfl ?_
  have W : Walk Tryd.prog TT 3 _ := Walk.of TT_ok Tryd.func3 Tryd.results3
  refine cq W 0 rfl rfl (szTerm_ok l hm hx) ?_
  rintro _ ⟨n, rfl, hn⟩
  refine ⟨_, rfl, ?_⟩
  refine sp W 0 rfl rfl rfl (fun h1 => ?_) (fun h1 => ?_)
  · refine rp W 0 rfl rfl rfl (.yes trivial)
  obtain ⟨hl, ht⟩ := hn (by omega)
  have k1 := toTerm_ok l hl
  refine ce W 0 rfl rfl (k1) rfl ?_
  refine ce W 0 rfl rfl (specTermOk_ok l ht hl) rfl ?_
  refine ce W 0 rfl rfl (k1) rfl ?_
  refine ce W 0 rfl rfl (implTermOk_ok l ht hl) rfl ?_
  refine sp W 0 rfl rfl rfl (fun h2 => ?_) (fun h2 => ?_)
  · exact absurd Iff.rfl h2
  refine dre W 0 5 [] [termV l, .pr (l = l)] rfl rfl rfl ⟨k1.at rfl _, (eqTerm_ok l l hl hl).at rfl _, trivial⟩ rfl ?_
  refine sp W 0 rfl rfl rfl (fun h3 => ?_) (fun h3 => ?_)
  · exact absurd rfl h3
  · refine rp W 0 rfl rfl rfl (.yes trivial)
end Pf
/- What the laid variables hold -/
namespace Pf
open Go Go.Proofs
open Go.RowKit
theorem open_strs {P : Program} {H : Type} {enc : TypeId × Value → H} {w : World} {base : Nat} {spare : Nat → Bool} {held : Bool} {fuel : Nat} {t e : TypeId} {cs : List Value} {p : List MemPlace} (ht : P.underlying t = some (.slice e)) (he : P.underlying e = some .string) (hc : P.cellsOf e = 1)
    {ws : List (List UInt8)} (hw : ws ≠ []) (h : DataW.trod enc P w base spare held fuel t cs = some (.slice (ws.map fun s => .lit (.string s)) [], p)) : VRs (worldFM w) noB [.fz ws.length fun i => [.str (ws.getD i [])]] cs := by
  rcases Go.Deep.open_slice ht h with ⟨_, h2⟩ | ⟨a, len, cap, m, n, D, Pl, rfl, _, hl, hm, hmm, hx, hel⟩
  · cases (Prod.mk.inj h2).1
  have hle : len ≤ m := by rw [hmm]; split <;> omega
  have e1 : ws.map (fun s => (DataW.lit (.string s) : DataW H)) = (List.range len).map D := (DataW.slice.inj (Prod.mk.inj hx).1).1
  have el : ws.length = len := by have := congrArg List.length e1; simpa using this
  have eD : ∀ i, i < len → D i = .lit (.string (ws.getD i [])) := by
    intro i hi
    have := congrArg (fun l => l[i]?) e1
    simp only [List.getElem?_map, List.getElem?_range, hi, Option.map_some] at this
    rw [List.getElem?_eq_getElem (by omega : i < ws.length)] at this
    simp only [Option.map_some, Option.some.injEq] at this
    rw [← this]
    simp [List.getD_eq_getElem?_getD, show i < ws.length by omega]
  have each : ∀ i, i < len → ∃ s : ByteArray, s.data.toList = ws.getD i [] ∧ w.cell? (a.add i) = some (.string s) := by
    intro i hi
    obtain ⟨cs', h1, h2⟩ := hel i (by omega)
    obtain ⟨s, rfl, h3, _⟩ := DataW.trod_string he h2
    obtain ⟨_, _, h6⟩ := World.cells?_some h1
    rw [hc] at h6
    have h7 := h6 0 (by omega)
    rw [Nat.mul_one] at h7
    refine ⟨s, ?_, by simpa [Addr.add] using h7⟩
    have h8 := (Prod.mk.inj h3).1
    rw [eD i hi] at h8
    injection h8 with h9
    injection h9 with h9
    exact h9.symm
  have hpos : 0 < len := by rw [← el]; exact List.length_pos_iff.2 hw
  have ha : a = ⟨a.block, a.off, none⟩ := by
    obtain ⟨s, _, h4⟩ := each 0 hpos
    exact cell_spot (by simpa [Addr.add] using h4)
  rw [el]
  refine .single ?_
  rw [ha]
  let f : Nat → Value := fun i => if h : i < len then .string (each i h).choose else undef
  have hf : ∀ i, i < len → ∃ s : ByteArray, f i = .string s ∧ s.data.toList = ws.getD i [] ∧ w.cell? (a.add i) = some (f i) := fun i hi => by
    have := (each i hi).choose_spec
    simp only [f, dif_pos hi]
    exact ⟨_, rfl, this.1, this.2⟩
  refine .fz (sz := 1) (fun i _ => f i) (by omega) hl (fun i hi => rfl) (fun i j hi hj => ?_) (fun i j hi hj => ?_) (fun i j hi hj => ?_)
  · obtain ⟨s, h1, h2, h3⟩ := hf i hi
    rw [ha, addr_add] at h3
    unfold worldFM
    rw [show j = 0 by omega, Nat.mul_one, Nat.add_zero]
    exact h3
  · obtain ⟨s, h1, h2, h3⟩ := hf i hi
    rw [h1]; rfl
  · obtain ⟨s, h1, h2, h3⟩ := hf i hi
    have : j = 0 := by simpa using hj
    subst this
    rw [h1]
    exact .str h2
theorem var_one {P : Program} {w : World} {n : String} {g : Nat} {cs : Array Value} (hg : P.globalNamed n = some g) (hv : w.var? P n = some cs) {a : AV} (h : VRs (worldFM w) noB [a] cs.toList) : ∃ c, worldFM w g 0 = some c ∧ VR (worldFM w) noB a c := by
  obtain ⟨h1, h2⟩ := h
  have h3 := h2 0 (by simp)
  have hl : 0 < cs.size := by have : 1 = cs.toList.length := h1; simp at this; omega
  refine ⟨cs[0], ?_, ?_⟩
  · show w.cell? ⟨g, 0, none⟩ = _
    rw [World.var?_cell hg hv 0]
    simp [hl]
  · have e : cs.toList.getD 0 undef = cs[0] := by simp [List.getD_eq_getElem?_getD, hl]
    rw [e] at h3
    exact h3
theorem iface_of {P : Program} {H : Type} {enc : TypeId × Value → H} {w : World} {base : Nat} {spare : Nat → Bool} {fuel : Nat} {t : TypeId} {ms : Array (String × TypeId)} {cs : List Value} {nm : String} {d : DataW H} {p : List MemPlace} (ht : P.underlying t = some (.interface ms)) (h : DataW.trod enc P w base spare false fuel t cs = some (.iface nm d, p)) : ∃ u v, cs = [.iface u v] := by
  cases fuel with
  | zero => simp [DataW.trod] at h
  | succ n =>
    unfold DataW.trod at h
    rw [ht] at h
    split at h <;> simp_all
theorem var_iface {P : Program} {w : World} {n : String} {g : Nat} {cs : Array Value} (hg : P.globalNamed n = some g) (hv : w.var? P n = some cs) {u : TypeId} {v : Value} (h : cs.toList = [.iface u v]) : ∃ ev, worldFM w g 0 = some ev ∧ (ev = .nilIface ∨ ∃ te pe, ev = .iface te pe) := by
  refine ⟨.iface u v, ?_, .inr ⟨u, v, rfl⟩⟩
  show w.cell? ⟨g, 0, none⟩ = _
  rw [World.var?_cell hg hv 0]
  obtain ⟨l⟩ := cs
  simp only at h
  subst h
  rfl
end Pf
/- A nil slice in a temporary, as an empty block of its own. -/
namespace Pf
open Go
variable {P : Program} {TT : TypeId → Option TI} {f N n0 : Nat} {k : List Item} {T : Env} {H : AHeap} {R : AV → AHeap → Prop}

/-- The temporary 'd' holds no cells: from here on it is a slice of an empty block, at the heap's end. -/
theorem go_nilT (d : Nat) (blk : ABlk) {v : AV} {rowE : Nat → List AV} {T1 : Env} {H2 : AHeap} (et : getM T d = some v) (en : isNil v = true)
    (eb : blk.view = some (0, 0, rowE)) (e1 : putM d (.sl (lenM H) 0 0 0) T = some T1) (e4 : appM H [blk] = some H2)
    (h : AGo P f N n0 k T1 H2 R) : AGo P f N n0 k T H R := by
  intro FM β bf cs a w a1 a2 a3 a4 hT hH hl
  rw [appM_eq] at e4
  cases e4
  simp only [lenM_eq] at *
  let β1 : BMap := fun b g => if b = H.length ∧ g = 0 then some none else β b g
  have hnone : ∀ g, β H.length g = none := by
    intro g
    cases hb : β H.length g with
    | none => rfl
    | some lo => have := (hH.dom _ _ _ hb).1; omega
  have hβ : ∀ b g lo, β b g = some lo → β1 b g = some lo := by
    intro b g lo hb
    simp only [β1]
    split
    · rename_i h1
      obtain ⟨rfl, rfl⟩ := h1
      rw [hnone] at hb; cases hb
    · exact hb
  have some1 : ∀ {i g : Nat} {L : Loc}, β1 i g = some (some L) → β i g = some (some L) := by
    intro i g L hi
    simp only [β1] at hi
    split at hi
    · cases hi
    · exact hi
  have get : ∀ {i : Nat} {bl : ABlk}, (H ++ [blk])[i]? = some bl → (i < H.length ∧ H[i]? = some bl) ∨ (i = H.length ∧ bl = blk) := by
    intro i bl hi
    rcases Nat.lt_or_ge i H.length with h1 | h1
    · rw [List.getElem?_append_left h1] at hi; exact .inl ⟨h1, hi⟩
    · rw [List.getElem?_append_right h1] at hi
      obtain ⟨h2, h3⟩ := List.getElem?_eq_some_iff.1 hi
      simp at h2
      have : i = H.length := by omega
      subst this
      simp at h3
      exact .inr ⟨rfl, h3.symm⟩
  have hcell : ∀ {cv : Value}, VR FM β v cv → VR FM β1 (.sl H.length 0 0 0) cv := by
    intro cv h0
    have hb : β1 H.length 0 = some none := by simp [β1]
    cases h0 with
    | nils => exact .sl0 hb fun L h => by cases h
    | e0 => exact .sl0 hb fun L h => by cases h
    | _ => cases en
  have hR : RelH FM β1 (H ++ [blk]) w := by
    have hmp : MapsOk β1 (H ++ [blk]) w := hH.mp.keep hβ (fun i vb sh es h => by
      rcases get h with ⟨_, h⟩ | ⟨_, rfl⟩
      · exact h
      · cases eb) fun _ _ _ h => h
    refine ⟨?_, ?_, ?_, hH.fm, ?_, hH.gk, hmp⟩
    · intro i bl g' m rw1 h1 h2
      rcases get h1 with ⟨hi, q1⟩ | ⟨rfl, rfl⟩
      · obtain ⟨lo, p1, p2⟩ := hH.mem i bl g' m rw1 q1 h2
        refine ⟨lo, hβ _ _ _ p1, ?_⟩
        cases lo with
        | none => exact p2
        | some L => exact MemOk.still p2 rfl hβ
      · rw [eb] at h2; cases h2
        exact ⟨none, by simp [β1], rfl⟩
    · intro b1 b2 k1 k2 g1 g2 n1 n2 row1 row2 L1 L2 h1 h2 h3 h4 h5 h6 h7
      have q3 := some1 h3
      have q6 := some1 h6
      rcases get h1 with ⟨_, x1⟩ | ⟨rfl, rfl⟩
      · rcases get h4 with ⟨_, x1'⟩ | ⟨rfl, rfl⟩
        · exact hH.inj b1 b2 k1 k2 g1 g2 n1 n2 row1 row2 L1 L2 x1 h2 q3 x1' h5 q6 h7
        · rw [hnone] at q6; cases q6
      · rw [hnone] at q3; cases q3
    · intro i bl g' m rw1 L h1 h2 h3
      have q3 := some1 h3
      rcases get h1 with ⟨_, x1⟩ | ⟨rfl, rfl⟩
      · exact hH.wid i bl g' m rw1 L x1 h2 q3
      · rw [hnone] at q3; cases q3
    · intro i g' lo hi
      simp only [β1] at hi
      split at hi
      · rename_i h1
        obtain ⟨rfl, rfl⟩ := h1
        exact ⟨by simp, fun _ _ _ _ _ _ => Nat.zero_le _⟩
      · obtain ⟨q1, q2⟩ := hH.dom i g' lo hi
        refine ⟨by simp; omega, fun bl g2 m rw1 h1 h2 => ?_⟩
        rcases get h1 with ⟨_, x1⟩ | ⟨rfl, rfl⟩
        · exact q2 bl g2 m rw1 x1 h2
        · omega
  have hT1 : RelT FM β1 T1 a := by
    intro e u he
    rw [getM_putM e1] at he
    split at he
    · rename_i hde
      subst hde
      cases he
      exact hcell (hT _ _ et)
    · exact (hT e u he).mono (fun _ _ _ h => h) hβ
  obtain ⟨v', w', fr, av, FM', β', H', h1, h2, h3, h4, h5⟩ := h FM β1 bf cs a w a1 a2 a3 a4 hT1 hR (by simp; omega)
  have himg : ∀ cb, cb < w.heap.size → Img β1 (H ++ [blk]) cb → Img β H cb := by
    intro cb _ hi
    obtain ⟨i, bl, g', m, rw1, L, q1, q2, q3, q4⟩ := hi
    have q3 := some1 q3
    rcases get q1 with ⟨_, x1⟩ | ⟨rfl, rfl⟩
    · exact ⟨i, bl, g', m, rw1, L, x1, q2, q3, q4⟩
    · rw [hnone] at q3; cases q3
  have hx : ExtB n0 FM β H w FM β1 (H ++ [blk]) w := ⟨fun _ _ _ h => h, fun b g lo _ e => hβ b g lo e, Nat.le_refl _, himg, fun _ _ _ => rfl, fun _ _ _ h => .inl h, by simp; omega, rfl, rfl, rfl⟩
  exact ⟨v', w', fr, av, FM', β', H', h1, h2, h3, hx.trans h4, h5⟩

end Pf
/- A temporary's value said otherwise. -/
namespace Pf
open Go
variable {P : Program} {TT : TypeId → Option TI} {f N n0 : Nat} {k : List Item} {T : Env} {H : AHeap} {R : AV → AHeap → Prop}
/-- The temporary 'd' is said to hold u, which is so wherever it holds v. -/
theorem go_sub (d : Nat) (u : AV) {v : AV} {T1 : Env} (e : getM T d = some v) (hs : Sub v u) (e1 : putM d u T = some T1) (h : AGo P f N n0 k T1 H R) : AGo P f N n0 k T H R :=
  fun FM β b cs a w a1 a2 a3 a4 hT hH hl => h FM β b cs a w a1 a2 a3 a4 (hT.refine e1 (hs _ _ _ (hT _ _ e))) hH hl
end Pf
/- The known variable's cells are read. -/
namespace Pf
open Go
variable {P : Program} {TT : TypeId → Option TI} {f N n0 : Nat} {k : List Item} {T : Env} {H : AHeap} {R : AV → AHeap → Prop}
/-- The address of a cell of the known variable. -/
theorem go_gk (hT : TTok P TT) (ops : Array Oper) {i d t n : Nat} {ty aty e : TypeId} {kd : IntKind} {m : Int} {is : List Nat} {pos : String} {af : Array Edge} {j : TI} {T1 : Env}
    (ho : ops[i]? = some { dst := some d, op := .indexAddr aty (.global 0) (.tmp t), type := ty, pos := pos, after := af, guard := none })
    (hu : P.underlying aty = some (.array n e)) (he : TT e = some j) (hs : j.size = 1) (hn : n = gtab.length) (h2 : 1 < n) (hm : getM T t = some (.int kd m)) (h0 : 0 ≤ m) (h1 : m < n)
    (hd : dstM N (some d) (.fptr [.int .u8 (gtab.getD m.toNat 0)] 0) T = some T1)
    (h : AGo P f N n0 (.inRegion ops is :: k) T1 H R) : AGo P f N n0 (.inRegion ops (i :: is) :: k) T H R := by
  refine AGo.op ops ho hd (fun FM β a _ _ => rfl) (fun FM β a w hr hh => ?_) h
  rw [exec_indexAddr]
  refine SimV.yields ?_
  obtain ⟨info, d', z, ok⟩ := TI.fits_iff (hT _ _ he)
  have hv : VR FM β (.int kd m) (a.eval (.tmp t)) := hr t _ hm
  have e1 : a.eval (.tmp t) = .int kd m := by
    generalize a.eval (.tmp t) = c at hv ⊢
    cases hv; rfl
  have e2 : a.eval (.global 0) = .pointer (some ⟨0, 0, none⟩) := rfl
  rw [e1, e2]
  refine SimV.same (cv := .pointer (some ⟨0, m.toNat, none⟩)) ?_ ?_ hh
  · have : ¬ n ≤ 1 := by omega
    simp [Instr.indexAt, asIntOf, Instr.sureAddr, run_underlying hu, ok.run_size w, hs, h0, h1, addr_add, this]
  · have := VR.fptr (FM := FM) (β := β) (row := [.int .u8 (gtab.getD m.toNat 0)]) (c := 0) (cb := 0) (o := m.toNat) (fun _ => .int .u8 (gtab.getD m.toNat 0)) (fun i hi => by
        have : i = 0 := by simpa using hi
        subst this
        exact hh.gk.tab m.toNat (by omega)) (fun i hi => by
        have : i = 0 := by simpa using hi
        subst this
        exact .int)
    simpa using this
end Pf
/- Graphs: sizes, copies, equality -/
namespace Pf
open Go Go.Proofs
/-- A node of a graph, a relation. -/
structure Gn where
  k : Int
  a : Int
  b : Int
  n : Int
  t : List UInt8
structure Gr where
  k : Int
  l : Int
  r : Int
theorem Gn.eq {x y : Gn} (h1 : x.k = y.k) (h2 : x.a = y.a) (h3 : x.b = y.b) (h4 : x.n = y.n) (h5 : x.t = y.t) : x = y := by
  cases x; cases y; simp only at h1 h2 h3 h4 h5; subst h1; subst h2; subst h3; subst h4; subst h5; rfl
theorem Gr.eq {x y : Gr} (h1 : x.k = y.k) (h2 : x.l = y.l) (h3 : x.r = y.r) : x = y := by
  cases x; cases y; simp only at h1 h2 h3; subst h1; subst h2; subst h3; rfl
def g0 : Gn := ⟨0, 0, 0, 0, []⟩
def r0 : Gr := ⟨0, 0, 0⟩
def gnV (x : Gn) : AV := .agg [.int .i64 x.k, .int .i64 x.a, .int .i64 x.b, .int .i64 x.n, .str x.t]
def grV (x : Gr) : AV := .agg [.int .i64 x.k, .int .i64 x.l, .int .i64 x.r]
def gnR (l : List Gn) (i : Nat) : List AV := [.int .i64 (l.getD i g0).k, .int .i64 (l.getD i g0).a, .int .i64 (l.getD i g0).b, .int .i64 (l.getD i g0).n, .str (l.getD i g0).t]
def grR (l : List Gr) (i : Nat) : List AV := [.int .i64 (l.getD i r0).k, .int .i64 (l.getD i r0).l, .int .i64 (l.getD i r0).r]
abbrev graphV (v : Int) (l : List Gn) (rs : List Gr) : AV := .agg [.int .i64 v, .fz l.length (gnR l), .fz rs.length (grR rs)]
def gtxtOk (l : List Gn) : Prop := ∀ i, i < l.length → (l.getD i g0).t.length ≤ 1048576
theorem list_eq {α : Type} {d : α} {l m : List α} (h1 : l.length = m.length) (he : ∀ j, j < l.length → l.getD j d = m.getD j d) : l = m := List.ext_getElem h1 fun j h3 h4 => by
  have := he j (by omega)
  simpa [List.getD_eq_getElem?_getD, h3, h4] using this
/-! ### Sizes -/
theorem szGraphNode_ok (x : Gn) (left : Int) (hl : 0 ≤ left ∧ left ≤ 1048576) (hx : x.t.length ≤ 9223372036854775807) : AFunP Tryd.prog 79 [gnV x, .int .i64 left] (· = .int .i64 (if left < x.t.length then -1 else left - x.t.length)) := by
  unfold gnV
  refine afun_of Tryd.func79 Tryd.call79 rfl Tryd.ntmps79 rfl ?_
  have W : Walk Tryd.prog TT 79 _ := Walk.of TT_ok Tryd.func79 Tryd.results79
  refine sp W 0 rfl rfl rfl (fun h1 => ?_) (fun h1 => ?_)
  · refine rp W 0 rfl rfl rfl (.int (by rw [if_pos (by omega)]))
  · refine rp W 0 rfl rfl rfl (.int (by rw [if_neg (by omega)]))
theorem szGraphNodeS_ok (l : List Gn) (left : Int) (hl : 0 ≤ left ∧ left ≤ 1048576) (hm : l.length ≤ 9223372036854775807) (hx : ∀ i, i < l.length → (l.getD i g0).t.length ≤ 9223372036854775807) : AFunP Tryd.prog 45 [.fz l.length (gnR l), .int .i64 left] (fun u => ∃ n, u = .int .i64 n ∧ n ≤ left ∧ (0 ≤ n → l.length ≤ left ∧ ∀ i, i < l.length → ((l.getD i g0).t.length : Int) ≤ left)) := by
  refine afun_of Tryd.func45 Tryd.call45 rfl Tryd.ntmps45 rfl ?_
  have W : Walk Tryd.prog TT 45 _ := Walk.of TT_ok Tryd.func45 Tryd.results45
  refine sp W 0 rfl rfl rfl (fun h1 => ?_) (fun h1 => ?_)
  · refine rq W 0 rfl rfl (.int .i64 (-1)) (⟨_, rfl, by omega, fun k => by omega⟩) rfl .refl
  refine lp W 0 (σ := Nat × Int) (fun s => [(0, .fz l.length (gnR l)), (1, .int .i64 s.2), (5, .int .i64 s.1)]) (fun _ => []) (fun s => l.length - s.1) (fun s => s.1 ≤ l.length ∧ (0 ≤ s.2 ∧ s.2 ≤ left) ∧ ∀ j, j < s.1 → ((l.getD j g0).t.length : Int) ≤ left) (0, left - l.length) [0, 1, 5] rfl rfl rfl ⟨Nat.zero_le _, ⟨by dsimp only; omega, by dsimp only; omega⟩, fun j hj => by omega⟩ ?_
  rintro ⟨i, d⟩ ⟨hi, hd, he⟩ ih
  dsimp only at hi hd he ih ⊢
  refine sp W 0 rfl rfl rfl (fun h2 => ?_) (fun h2 => ?_)
  · have h2 : i < l.length := by omega
    have hxi := hx i h2
    refine ce W 0 rfl rfl (szGraphNode_ok (l.getD i g0) d ⟨by omega, by omega⟩ hxi) rfl ?_
    refine sp W 0 rfl rfl rfl (fun h3 => ?_) (fun h3 => ?_)
    · refine rq W 0 rfl rfl (.int .i64 (-1)) (⟨_, rfl, by omega, fun k => by omega⟩) rfl .refl
    · by_cases h4 : d < (l.getD i g0).t.length
      · rw [if_pos h4] at h3; exact absurd (by omega) h3
      · simp only [if_neg h4]
        refine bd W 0 0 [0, 1, 5] rfl rfl rfl rfl rfl (ih (i + 1, d - (l.getD i g0).t.length) ⟨by dsimp only; omega, ⟨by dsimp only; omega, by dsimp only; omega⟩, fun j hj => ?_⟩ (by dsimp only; omega))
        by_cases hji : j = i
        · subst hji; omega
        · exact he j (by dsimp only at hj; omega)
  · refine rq W 0 rfl rfl (.int .i64 d) (⟨_, rfl, by omega, fun k => ⟨by omega, fun j hj => he j (by omega)⟩⟩) rfl .refl
theorem szGraphRelS_ok (l : List Gr) (left : Int) (hl : 0 ≤ left ∧ left ≤ 1048576) (hm : l.length ≤ 9223372036854775807) : AFunP Tryd.prog 46 [.fz l.length (grR l), .int .i64 left] (fun u => ∃ n, u = .int .i64 n ∧ (0 ≤ n → l.length ≤ left)) := by
  refine afun_of Tryd.func46 Tryd.call46 rfl Tryd.ntmps46 rfl ?_
  have W : Walk Tryd.prog TT 46 _ := Walk.of TT_ok Tryd.func46 Tryd.results46
  refine sp W 0 rfl rfl rfl (fun h1 => ?_) (fun h1 => ?_)
  · refine rq W 0 rfl rfl (.int .i64 (-1)) (⟨_, rfl, fun k => by omega⟩) rfl .refl
  · refine rq W 0 rfl rfl (.int .i64 (left - l.length)) (⟨_, rfl, fun k => by omega⟩) rfl .refl
theorem szGraph_ok (v : Int) (l : List Gn) (rs : List Gr) (hm : l.length ≤ 9223372036854775807) (hr : rs.length ≤ 9223372036854775807) (hx : ∀ i, i < l.length → (l.getD i g0).t.length ≤ 9223372036854775807) : AFunP Tryd.prog 16 [graphV v l rs, .int .i64 1048576] (fun u => ∃ n, u = .int .i64 n ∧ (0 ≤ n → l.length ≤ 1048576 ∧ rs.length ≤ 1048576 ∧ gtxtOk l)) := by
  refine afun_of Tryd.func16 Tryd.call16 rfl Tryd.ntmps16 rfl ?_
  have W : Walk Tryd.prog TT 16 _ := Walk.of TT_ok Tryd.func16 Tryd.results16
  refine cq W 0 rfl rfl (szGraphNodeS_ok l 1048576 ⟨by omega, by omega⟩ hm hx) ?_
  rintro _ ⟨n, rfl, hn1, hn⟩
  refine ⟨_, rfl, ?_⟩
  refine sp W 0 rfl rfl rfl (fun h1 => ?_) (fun h1 => ?_)
  · refine rq W 0 rfl rfl (.int .i64 (-1)) (⟨_, rfl, fun k => by omega⟩) rfl .refl
  refine cq W 0 rfl rfl (szGraphRelS_ok rs n ⟨by omega, by omega⟩ hr) ?_
  rintro _ ⟨m, rfl, hm2⟩
  refine ⟨_, rfl, ?_⟩
  refine sp W 0 rfl rfl rfl (fun h2 => ?_) (fun h2 => ?_)
  · refine rq W 0 rfl rfl (.int .i64 (-1)) (⟨_, rfl, fun k => by omega⟩) rfl .refl
  · refine rq W 0 rfl rfl (.int .i64 m) (⟨_, rfl, fun k => ⟨by have := (hn (by omega)).1; omega, by have := hm2 k; omega, fun i hi => by have := (hn (by omega)).2 i hi; omega⟩⟩) rfl .refl
/-! ### Copies -/
theorem toGraphNode_ok (x : Gn) : AFunP Tryd.prog 80 [gnV x] (· = gnV x) := by
  unfold gnV
  refine afun_of Tryd.func80 Tryd.call80 rfl Tryd.ntmps80 rfl ?_
  have W : Walk Tryd.prog TT 80 _ := Walk.of TT_ok Tryd.func80 Tryd.results80
  refine rp W 0 rfl rfl rfl (.refl)
theorem toGraphRel_ok (x : Gr) : AFunP Tryd.prog 81 [grV x] (· = grV x) := by
  unfold grV
  refine afun_of Tryd.func81 Tryd.call81 rfl Tryd.ntmps81 rfl ?_
  have W : Walk Tryd.prog TT 81 _ := Walk.of TT_ok Tryd.func81 Tryd.results81
  refine rp W 0 rfl rfl rfl (.refl)
theorem toGraphNodeS_ok (l : List Gn) (hl : l.length ≤ 1048576) : AFunP Tryd.prog 49 [.fz l.length (gnR l)] (· = .fz l.length (gnR l)) := by
  refine afun_of Tryd.func49 Tryd.call49 rfl Tryd.ntmps49 rfl ?_
  have W : Walk Tryd.prog TT 49 _ := Walk.of TT_ok Tryd.func49 Tryd.results49
  refine lp W 0 (σ := Nat × (Nat → Gn)) (fun s => [(0, .fz l.length (gnR l)), (3, .sl 0 0 0 l.length), (4, .int .i64 s.1)]) (fun s => [.tab 0 l.length fun j => [.int .i64 (s.2 j).k, .int .i64 (s.2 j).a, .int .i64 (s.2 j).b, .int .i64 (s.2 j).n, .str (s.2 j).t]]) (fun s => l.length - s.1) (fun s => s.1 ≤ l.length ∧ ∀ j, j < s.1 → s.2 j = l.getD j g0) (0, fun _ => g0) [0, 3, 4] rfl rfl rfl ⟨Nat.zero_le _, fun j hj => by omega⟩ ?_
  rintro ⟨i, F⟩ ⟨hi, he⟩ ih
  dsimp only at hi he ih ⊢
  refine sp W 0 rfl rfl rfl (fun h2 => ?_) (fun h2 => ?_)
  · have h2 : i < l.length := by omega
    refine ce W 0 rfl rfl (toGraphNode_ok (l.getD i g0)) rfl ?_
    refine bd W 0 1 [0, 3, 4] rfl rfl rfl rfl rfl (ih (i + 1, fun j => ⟨if j = i then (l.getD i g0).k else (F j).k, if j = i then (l.getD i g0).a else (F j).a, if j = i then (l.getD i g0).b else (F j).b, if j = i then (l.getD i g0).n else (F j).n, if j = i then (l.getD i g0).t else (F j).t⟩) ⟨by dsimp only; omega, fun j hj => ?_⟩ (by dsimp only; omega))
    dsimp only at hj ⊢
    by_cases hji : j = i
    · subst hji; simp only [if_true]
    · simp only [if_neg hji]; exact he j (by omega)
  · refine rp W 0 rfl rfl rfl (.fzn rfl fun j hj => ?_)
    show [AV.int .i64 (F j).k, AV.int .i64 (F j).a, AV.int .i64 (F j).b, AV.int .i64 (F j).n, AV.str (F j).t] = gnR l j
    have e := he j (by omega)
    unfold gnR
    rw [← e]
theorem toGraphRelS_ok (l : List Gr) (hl : l.length ≤ 1048576) : AFunP Tryd.prog 50 [.fz l.length (grR l)] (· = .fz l.length (grR l)) := by
  refine afun_of Tryd.func50 Tryd.call50 rfl Tryd.ntmps50 rfl ?_
  have W : Walk Tryd.prog TT 50 _ := Walk.of TT_ok Tryd.func50 Tryd.results50
  refine lp W 0 (σ := Nat × (Nat → Gr)) (fun s => [(0, .fz l.length (grR l)), (3, .sl 0 0 0 l.length), (4, .int .i64 s.1)]) (fun s => [.tab 0 l.length fun j => [.int .i64 (s.2 j).k, .int .i64 (s.2 j).l, .int .i64 (s.2 j).r]]) (fun s => l.length - s.1) (fun s => s.1 ≤ l.length ∧ ∀ j, j < s.1 → s.2 j = l.getD j r0) (0, fun _ => r0) [0, 3, 4] rfl rfl rfl ⟨Nat.zero_le _, fun j hj => by omega⟩ ?_
  rintro ⟨i, F⟩ ⟨hi, he⟩ ih
  dsimp only at hi he ih ⊢
  refine sp W 0 rfl rfl rfl (fun h2 => ?_) (fun h2 => ?_)
  · have h2 : i < l.length := by omega
    refine ce W 0 rfl rfl (toGraphRel_ok (l.getD i r0)) rfl ?_
    refine bd W 0 1 [0, 3, 4] rfl rfl rfl rfl rfl (ih (i + 1, fun j => ⟨if j = i then (l.getD i r0).k else (F j).k, if j = i then (l.getD i r0).l else (F j).l, if j = i then (l.getD i r0).r else (F j).r⟩) ⟨by dsimp only; omega, fun j hj => ?_⟩ (by dsimp only; omega))
    dsimp only at hj ⊢
    by_cases hji : j = i
    · subst hji; simp only [if_true]
    · simp only [if_neg hji]; exact he j (by omega)
  · refine rp W 0 rfl rfl rfl (.fzn rfl fun j hj => ?_)
    show [AV.int .i64 (F j).k, AV.int .i64 (F j).l, AV.int .i64 (F j).r] = grR l j
    have e := he j (by omega)
    unfold grR
    rw [← e]
theorem toGraph_ok (v : Int) (l : List Gn) (rs : List Gr) (hl : l.length ≤ 1048576) (hr : rs.length ≤ 1048576) : AFunP Tryd.prog 18 [graphV v l rs] (· = graphV v l rs) := by
  refine afun_of Tryd.func18 Tryd.call18 rfl Tryd.ntmps18 rfl ?_
  have W : Walk Tryd.prog TT 18 _ := Walk.of TT_ok Tryd.func18 Tryd.results18
  refine ce W 0 rfl rfl (toGraphNodeS_ok l hl) rfl ?_
  refine ce W 0 rfl rfl (toGraphRelS_ok rs hr) rfl ?_
  refine rp W 0 rfl rfl rfl (.refl)
/-! ### Equality -/
theorem eqGraphNode_ok (x y : Gn) : AFunP Tryd.prog 84 [gnV x, gnV y] (· = .pr (x = y)) := by
  unfold gnV
  refine afun_of Tryd.func84 Tryd.call84 rfl Tryd.ntmps84 rfl ?_
  have W : Walk Tryd.prog TT 84 _ := Walk.of TT_ok Tryd.func84 Tryd.results84
  refine sp W 0 rfl rfl rfl (fun h1 => ?_) (fun h1 => ?_)
  · refine rp W 0 rfl rfl rfl (.no (fun k => by subst k; exact h1 rfl))
  refine sp W 0 rfl rfl rfl (fun h2 => ?_) (fun h2 => ?_)
  · refine rp W 0 rfl rfl rfl (.no (fun k => by subst k; exact h2 rfl))
  refine sp W 0 rfl rfl rfl (fun h3 => ?_) (fun h3 => ?_)
  · refine rp W 0 rfl rfl rfl (.no (fun k => by subst k; exact h3 rfl))
  refine sp W 0 rfl rfl rfl (fun h4 => ?_) (fun h4 => ?_)
  · refine rp W 0 rfl rfl rfl (.no (fun k => by subst k; exact h4 rfl))
  refine sp W 0 rfl rfl rfl (fun h5 => ?_) (fun h5 => ?_)
  · refine rp W 0 rfl rfl rfl (.no (fun k => by subst k; exact h5 rfl))
  · refine rp W 0 rfl rfl rfl (.yes (Gn.eq (Classical.not_not.1 h1) (Classical.not_not.1 h2) (Classical.not_not.1 h3) (Classical.not_not.1 h4) (Classical.not_not.1 h5)))
theorem eqGraphRel_ok (x y : Gr) : AFunP Tryd.prog 85 [grV x, grV y] (· = .pr (x = y)) := by
  unfold grV
  refine afun_of Tryd.func85 Tryd.call85 rfl Tryd.ntmps85 rfl ?_
  have W : Walk Tryd.prog TT 85 _ := Walk.of TT_ok Tryd.func85 Tryd.results85
  refine sp W 0 rfl rfl rfl (fun h1 => ?_) (fun h1 => ?_)
  · refine rp W 0 rfl rfl rfl (.no (fun k => by subst k; exact h1 rfl))
  refine sp W 0 rfl rfl rfl (fun h2 => ?_) (fun h2 => ?_)
  · refine rp W 0 rfl rfl rfl (.no (fun k => by subst k; exact h2 rfl))
  refine sp W 0 rfl rfl rfl (fun h3 => ?_) (fun h3 => ?_)
  · refine rp W 0 rfl rfl rfl (.no (fun k => by subst k; exact h3 rfl))
  · refine rp W 0 rfl rfl rfl (.yes (Gr.eq (Classical.not_not.1 h1) (Classical.not_not.1 h2) (Classical.not_not.1 h3)))
theorem eqGraphNodeS_ok (l m : List Gn) (hl : l.length ≤ 1048576) (hm : m.length ≤ 1048576) : AFunP Tryd.prog 57 [.fz l.length (gnR l), .fz m.length (gnR m)] (· = .pr (l = m)) := by
  refine afun_of Tryd.func57 Tryd.call57 rfl Tryd.ntmps57 rfl ?_
  have W : Walk Tryd.prog TT 57 _ := Walk.of TT_ok Tryd.func57 Tryd.results57
  refine sp W 0 rfl rfl rfl (fun h1 => ?_) (fun h1 => ?_)
  · refine rp W 0 rfl rfl rfl (.no (fun k => by subst k; omega))
  have h1 : l.length = m.length := by omega
  refine lp W 0 (σ := Nat) (fun i => [(0, .fz l.length (gnR l)), (1, .fz m.length (gnR m)), (5, .int .i64 i)]) (fun _ => []) (fun i => l.length - i) (fun i => i ≤ l.length ∧ ∀ j, j < i → l.getD j g0 = m.getD j g0) 0 [0, 1, 5] rfl rfl rfl ⟨Nat.zero_le _, fun j hj => by omega⟩ ?_
  rintro i ⟨hi, he⟩ ih
  refine sp W 0 rfl rfl rfl (fun h2 => ?_) (fun h2 => ?_)
  · have h2 : i < l.length := by omega
    have kq := eqGraphNode_ok (l.getD i g0) (m.getD i g0)
    refine dre W 0 10 [] [.pr (l.getD i g0 = m.getD i g0)] rfl rfl rfl ⟨kq.at rfl _, trivial⟩ rfl ?_
    refine sp W 0 rfl rfl rfl (fun h3 => ?_) (fun h3 => ?_)
    · refine rp W 0 rfl rfl rfl (.no (fun k => by subst k; exact h3 rfl))
    · refine bd W 0 0 [0, 1, 5] rfl rfl rfl rfl rfl (ih (i + 1) ⟨by omega, fun j hj => ?_⟩ (by omega))
      by_cases hji : j = i
      · subst hji; exact Classical.not_not.1 h3
      · exact he j (by omega)
  · refine rp W 0 rfl rfl rfl (.yes (list_eq h1 fun j hj => he j (by omega)))
theorem eqGraphRelS_ok (l m : List Gr) (hl : l.length ≤ 1048576) (hm : m.length ≤ 1048576) : AFunP Tryd.prog 58 [.fz l.length (grR l), .fz m.length (grR m)] (· = .pr (l = m)) := by
  refine afun_of Tryd.func58 Tryd.call58 rfl Tryd.ntmps58 rfl ?_
  have W : Walk Tryd.prog TT 58 _ := Walk.of TT_ok Tryd.func58 Tryd.results58
  refine sp W 0 rfl rfl rfl (fun h1 => ?_) (fun h1 => ?_)
  · refine rp W 0 rfl rfl rfl (.no (fun k => by subst k; omega))
  have h1 : l.length = m.length := by omega
  refine lp W 0 (σ := Nat) (fun i => [(0, .fz l.length (grR l)), (1, .fz m.length (grR m)), (5, .int .i64 i)]) (fun _ => []) (fun i => l.length - i) (fun i => i ≤ l.length ∧ ∀ j, j < i → l.getD j r0 = m.getD j r0) 0 [0, 1, 5] rfl rfl rfl ⟨Nat.zero_le _, fun j hj => by omega⟩ ?_
  rintro i ⟨hi, he⟩ ih
  refine sp W 0 rfl rfl rfl (fun h2 => ?_) (fun h2 => ?_)
  · have h2 : i < l.length := by omega
    have kq := eqGraphRel_ok (l.getD i r0) (m.getD i r0)
    refine dre W 0 10 [] [.pr (l.getD i r0 = m.getD i r0)] rfl rfl rfl ⟨kq.at rfl _, trivial⟩ rfl ?_
    refine sp W 0 rfl rfl rfl (fun h3 => ?_) (fun h3 => ?_)
    · refine rp W 0 rfl rfl rfl (.no (fun k => by subst k; exact h3 rfl))
    · refine bd W 0 0 [0, 1, 5] rfl rfl rfl rfl rfl (ih (i + 1) ⟨by omega, fun j hj => ?_⟩ (by omega))
      by_cases hji : j = i
      · subst hji; exact Classical.not_not.1 h3
      · exact he j (by omega)
  · refine rp W 0 rfl rfl rfl (.yes (list_eq h1 fun j hj => he j (by omega)))
theorem eqGraph_ok (v : Int) (l : List Gn) (rs : List Gr) (hl : l.length ≤ 1048576) (hr : rs.length ≤ 1048576) : AFunP Tryd.prog 20 [graphV v l rs, graphV v l rs] (· = .pr True) := by
  refine afun_of Tryd.func20 Tryd.call20 rfl Tryd.ntmps20 rfl ?_
  have W : Walk Tryd.prog TT 20 _ := Walk.of TT_ok Tryd.func20 Tryd.results20
  refine sp W 0 rfl rfl rfl (fun h1 => ?_) (fun h1 => ?_)
  · exact absurd rfl h1
  refine ce W 0 rfl rfl (eqGraphNodeS_ok l l hl hl) rfl ?_
  refine sp W 0 rfl rfl rfl (fun h2 => ?_) (fun h2 => ?_)
  · exact absurd rfl h2
  refine ce W 0 rfl rfl (eqGraphRelS_ok rs rs hr hr) rfl ?_
  refine sp W 0 rfl rfl rfl (fun h3 => ?_) (fun h3 => ?_)
  · exact absurd rfl h3
  · refine rp W 0 rfl rfl rfl (.yes trivial)
end Pf
/- GraphOk: its closures, slices.ContainsFunc -/
namespace Pf
open Go Go.Proofs
theorem getD_in {α : Type} {d : α} {l : List α} {i : Nat} (h : i < l.length) : l.getD i d ∈ l := by
  simp [List.getD_eq_getElem?_getD, h]
theorem getD_all {α : Type} {d : α} {l : List α} {q : α → Prop} (h : ∀ s, s < l.length → q (l.getD s d)) : ∀ x ∈ l, q x := by
  intro x hx
  obtain ⟨s, hs, rfl⟩ := List.getElem_of_mem hx
  have := h s hs
  simpa [List.getD_eq_getElem?_getD, hs] using this
theorem inI_ok (i k : Int) (hi : 0 ≤ i ∧ i ≤ 1048576) : AFunP Tryd.prog 54 [.int .i64 k, .fptr [.int .i64 i] 0] (· = .pr (¬(0 ≤ k ∧ k ≤ i - 1))) := by
  have k1 := in_ok k 0 (i - 1)
  refine afun_of Tryd.func54 Tryd.call54 rfl Tryd.ntmps54 rfl ?_
  have W : Walk Tryd.prog TT 54 _ := Walk.of TT_ok Tryd.func54 Tryd.results54
  refine ce W 0 rfl rfl (k1) rfl ?_
  refine rp W 0 rfl rfl rfl (.refl)
theorem indexInt_ok (i : Int) (hi : 0 ≤ i ∧ i ≤ 1048576) (L : List Int) (hL : L.length ≤ 1048576) : AFunP Tryd.prog 82 [.fi .i64 L, .fn 54 [] [.fptr [.int .i64 i] 0]] (fun u => ∃ n, u = .int .i64 n ∧ (0 ≤ n ↔ ∃ k ∈ L, ¬(0 ≤ k ∧ k ≤ i - 1))) := by
  refine afun_of Tryd.func82 Tryd.call82 rfl Tryd.ntmps82 rfl ?_
  have W : Walk Tryd.prog TT 82 _ := Walk.of TT_ok Tryd.func82 Tryd.results82
  refine lp W 0 (σ := Nat) (fun j => [(0, .fi .i64 L), (1, .fn 54 [] [.fptr [.int .i64 i] 0]), (7, .int .i64 L.length), (8, .int .i64 j)]) (fun _ => []) (fun j => L.length - j) (fun j => j ≤ L.length ∧ ∀ s, s < j → 0 ≤ L.getD s 0 ∧ L.getD s 0 ≤ i - 1) 0 [0, 1, 7, 8] rfl rfl rfl ⟨Nat.zero_le _, fun j hj => by omega⟩ ?_
  rintro j ⟨hj, he⟩ ih
  refine sp W 0 rfl rfl rfl (fun h1 => ?_) (fun h1 => ?_)
  · have h1 : j < L.length := by omega
    have kq := inI_ok i (L.getD j 0) hi
    refine ce W 0 rfl rfl (kq) rfl ?_
    refine sp W 0 rfl rfl rfl (fun h2 => ?_) (fun h2 => ?_)
    · refine rq W 0 rfl rfl (.int .i64 j) (⟨_, rfl, fun _ => ⟨L.getD j 0, getD_in h1, h2⟩, fun _ => by omega⟩) rfl .refl
    · refine bd W 0 0 [0, 1, 7, 8] rfl rfl rfl rfl rfl (ih (j + 1) ⟨by omega, fun s hs => ?_⟩ (by omega))
      by_cases hsj : s = j
      · subst hsj; exact Classical.not_not.1 h2
      · exact he s (by omega)
  · have hall := getD_all (d := 0) (l := L) (q := fun k => 0 ≤ k ∧ k ≤ i - 1) fun s hs => he s (by omega)
    refine rq W 0 rfl rfl (.int .i64 (-1)) (⟨_, rfl, fun h => by omega, fun ⟨k, hk, hn⟩ => absurd (hall k hk) hn⟩) rfl .refl
theorem containsInt_ok (i : Int) (hi : 0 ≤ i ∧ i ≤ 1048576) (L : List Int) (hL : L.length ≤ 1048576) : AFunP Tryd.prog 53 [.fi .i64 L, .fn 54 [] [.fptr [.int .i64 i] 0]] (· = .pr (∃ k ∈ L, ¬(0 ≤ k ∧ k ≤ i - 1))) := by
  refine afun_of Tryd.func53 Tryd.call53 rfl Tryd.ntmps53 rfl ?_
  have W : Walk Tryd.prog TT 53 _ := Walk.of TT_ok Tryd.func53 Tryd.results53
  refine cq W 0 rfl rfl (indexInt_ok i hi L hL) ?_
  rintro _ ⟨n, rfl, hn⟩
  refine ⟨_, rfl, ?_⟩
  refine rp W 0 rfl rfl rfl (.pr hn)
/-- A relation of nodes, of n. -/
def relP (n : Nat) (r : Gr) : Prop := (1 ≤ r.k ∧ r.k ≤ 3) ∧ (0 ≤ r.l ∧ r.l ≤ (n : Int) - 1) ∧ (0 ≤ r.r ∧ r.r ≤ (n : Int) - 1)
theorem inR_ok (v : Int) (l : List Gn) (rs : List Gr) (hl : l.length ≤ 1048576) (x : Gr) : AFunP Tryd.prog 56 [grV x, .fptr [.int .i64 v, .fz l.length (gnR l), .fz rs.length (grR rs)] 0] (· = .pr (¬ relP l.length x)) := by
  have k1 := in_ok x.k 1 3
  have k2 := in_ok x.l 0 ((l.length : Int) - 1)
  have k3 := in_ok x.r 0 ((l.length : Int) - 1)
  unfold grV
  refine afun_of Tryd.func56 Tryd.call56 rfl Tryd.ntmps56 rfl ?_
  have W : Walk Tryd.prog TT 56 _ := Walk.of TT_ok Tryd.func56 Tryd.results56
  refine ce W 0 rfl rfl (k1) rfl ?_
  refine sp W 0 rfl rfl rfl (fun h1 => ?_) (fun h1 => ?_)
  · refine rp W 0 rfl rfl rfl (.yes (fun k => h1 k.1))
  have h1 := Classical.not_not.1 h1
  refine ce W 0 rfl rfl (k2) rfl ?_
  refine sp W 0 rfl rfl rfl (fun h2 => ?_) (fun h2 => ?_)
  · refine rp W 0 rfl rfl rfl (.yes (fun k => h2 k.2.1))
  have h2 := Classical.not_not.1 h2
  refine ce W 0 rfl rfl (k3) rfl ?_
  refine rp W 0 rfl rfl rfl (.pr ⟨fun h k => h k.2.2, fun h k => h ⟨h1, h2, k⟩⟩)
theorem indexRel_ok (v : Int) (l : List Gn) (rs : List Gr) (hl : l.length ≤ 1048576) (hr : rs.length ≤ 1048576) : AFunP Tryd.prog 83 [.fz rs.length (grR rs), .fn 56 [] [.fptr [.int .i64 v, .fz l.length (gnR l), .fz rs.length (grR rs)] 0]] (fun u => ∃ n, u = .int .i64 n ∧ (0 ≤ n ↔ ∃ r ∈ rs, ¬ relP l.length r)) := by
  refine afun_of Tryd.func83 Tryd.call83 rfl Tryd.ntmps83 rfl ?_
  have W : Walk Tryd.prog TT 83 _ := Walk.of TT_ok Tryd.func83 Tryd.results83
  refine lp W 0 (σ := Nat) (fun j => [(0, .fz rs.length (grR rs)), (1, .fn 56 [] [.fptr [.int .i64 v, .fz l.length (gnR l), .fz rs.length (grR rs)] 0]), (7, .int .i64 rs.length), (8, .int .i64 j)]) (fun _ => []) (fun j => rs.length - j) (fun j => j ≤ rs.length ∧ ∀ s, s < j → relP l.length (rs.getD s r0)) 0 [0, 1, 7, 8] rfl rfl rfl ⟨Nat.zero_le _, fun j hj => by omega⟩ ?_
  rintro j ⟨hj, he⟩ ih
  refine sp W 0 rfl rfl rfl (fun h1 => ?_) (fun h1 => ?_)
  · have h1 : j < rs.length := by omega
    refine ce W 0 rfl rfl (inR_ok v l rs hl (rs.getD j r0)) rfl ?_
    refine sp W 0 rfl rfl rfl (fun h2 => ?_) (fun h2 => ?_)
    · refine rq W 0 rfl rfl (.int .i64 j) (⟨_, rfl, fun _ => ⟨rs.getD j r0, getD_in h1, h2⟩, fun _ => by omega⟩) rfl .refl
    · refine bd W 0 0 [0, 1, 7, 8] rfl rfl rfl rfl rfl (ih (j + 1) ⟨by omega, fun s hs => ?_⟩ (by omega))
      by_cases hsj : s = j
      · subst hsj; exact Classical.not_not.1 h2
      · exact he s (by omega)
  · have hall := getD_all (d := r0) (l := rs) (q := fun r => relP l.length r) fun s hs => he s (by omega)
    refine rq W 0 rfl rfl (.int .i64 (-1)) (⟨_, rfl, fun h => by omega, fun ⟨k, hk, hn⟩ => absurd (hall k hk) hn⟩) rfl .refl
theorem containsRel_ok (v : Int) (l : List Gn) (rs : List Gr) (hl : l.length ≤ 1048576) (hr : rs.length ≤ 1048576) : AFunP Tryd.prog 55 [.fz rs.length (grR rs), .fn 56 [] [.fptr [.int .i64 v, .fz l.length (gnR l), .fz rs.length (grR rs)] 0]] (· = .pr (∃ r ∈ rs, ¬ relP l.length r)) := by
  refine afun_of Tryd.func55 Tryd.call55 rfl Tryd.ntmps55 rfl ?_
  have W : Walk Tryd.prog TT 55 _ := Walk.of TT_ok Tryd.func55 Tryd.results55
  refine cq W 0 rfl rfl (indexRel_ok v l rs hl hr) ?_
  rintro _ ⟨n, rfl, hn⟩
  refine ⟨_, rfl, ?_⟩
  refine rp W 0 rfl rfl rfl (.pr hn)
end Pf
/- Graphs: parts of nodes, may a node stand at a place -/
namespace Pf
open Go Go.Proofs
noncomputable def pzG (x : Gn) : Int := partsZ x.k x.n x.t
open Classical in
/-- The parts of a node that is no variable. -/
noncomputable def plG (x : Gn) : List Int := if x.k = 2 ∨ x.k = 13 then [] else if pzG x = 1 then [x.a] else if pzG x = 2 then [x.a, x.b] else []
def ppG (x : Gn) : Prop := ¬(x.k = 2 ∨ x.k = 13) ∧ (pzG x = 0 ∧ x.a = 0 ∧ x.b = 0 ∨ pzG x = 1 ∧ x.b = 0 ∨ pzG x = 2)
def okG (x : Gn) (i : Nat) : Prop := ppG x ∧ ∀ k ∈ plG x, 0 ≤ k ∧ k ≤ (i : Int) - 1
theorem pzG_le {x : Gn} (h : x.k ≠ 13) : -1 ≤ pzG x ∧ pzG x ≤ 2 := by
  unfold pzG partsZ
  repeat' split
  all_goals first | omega | contradiction
theorem Sub.nilsF {k : IntKind} {l : List Int} (h : l = []) : Sub .nils (.fi k l) := by subst h; exact .nils_fi
theorem gparts_ok (x : Gn) (h : x.t.length ≤ 1048576) : AFunP Tryd.prog 52 [gnV x] (· = .tup [.fi .i64 (plG x), .pr (ppG x)]) := by
  have kp := parts_ok x.k x.n x.t (by omega)
  rw [show partsZ x.k x.n x.t = pzG x from rfl] at kp
  unfold gnV
  have no : ¬ ppG x → Sub (.bool false) (.pr (ppG x)) := fun h => .no h
  refine afun_of Tryd.func52 Tryd.call52 rfl Tryd.ntmps52 rfl ?_
  have W : Walk Tryd.prog TT 52 _ := Walk.of TT_ok Tryd.func52 Tryd.results52
  refine sp W 0 rfl rfl rfl (fun h1 => ?_) (fun h1 => ?_)
  · have e : plG x = [] := by unfold plG; rw [if_pos (.inl h1)]
    refine rp W 0 rfl rfl rfl (.tup ⟨.nilsF e, .no fun k => k.1 (.inl h1), trivial⟩)
  refine sp W 0 rfl rfl rfl (fun h2 => ?_) (fun h2 => ?_)
  · have e : plG x = [] := by unfold plG; rw [if_pos (.inr h2)]
    refine rp W 0 rfl rfl rfl (.tup ⟨.nilsF e, .no fun k => k.1 (.inr h2), trivial⟩)
  have h12 : ¬(x.k = 2 ∨ x.k = 13) := fun h => h.elim h1 h2
  refine ce W 0 rfl rfl (kp) rfl ?_
  refine sp W 0 rfl rfl rfl (fun h3 => ?_) (fun h3 => ?_)
  · have e : plG x = [] := by unfold plG; rw [if_neg h12, if_neg (by omega), if_neg (by omega)]
    by_cases ha : x.a = 0
    · refine dre W 0 9 [(25, true)] [] rfl rfl rfl trivial rfl ?_
      refine rp W 0 rfl rfl rfl (.tup ⟨.nilsF e, .pr ⟨fun k => ⟨h12, .inl ⟨h3, ha, k⟩⟩, fun k => by have := k.2; omega⟩, trivial⟩)
    · refine dre W 0 9 [(25, false)] [] rfl rfl rfl trivial rfl ?_
      refine rp W 0 rfl rfl rfl (.tup ⟨.nilsF e, .no fun k => by have := k.2; omega, trivial⟩)
  refine sp W 0 rfl rfl rfl (fun h4 => ?_) (fun h4 => ?_)
  · have e : plG x = [x.a] := by unfold plG; rw [if_neg h12, if_pos h4]
    refine phg W 0 7 [2] rfl rfl (fun PW => ?_)
    refine pho PW 0 2 [] [] rfl rfl trivial rfl rfl ?_
    refine phe PW 0 [] [] rfl trivial rfl ?_
    refine rp W 0 rfl rfl rfl (.tup ⟨.fi e.symm, .pr ⟨fun k => ⟨h12, .inr (.inl ⟨h4, k⟩)⟩, fun k => by have := k.2; omega⟩, trivial⟩)
  refine sp W 0 rfl rfl rfl (fun h5 => ?_) (fun h5 => ?_)
  · have e : plG x = [x.a, x.b] := by unfold plG; rw [if_neg h12, if_neg (by omega), if_pos h5]
    refine rp W 0 rfl rfl rfl (.tup ⟨.fi e.symm, .yes ⟨h12, .inr (.inr h5)⟩, trivial⟩)
  · have e : plG x = [] := by unfold plG; rw [if_neg h12, if_neg h4, if_neg h5]
    refine rp W 0 rfl rfl rfl (.tup ⟨.nilsF e, .no fun k => by have := k.2; omega, trivial⟩)
theorem okG_iff {x : Gn} {i : Nat} (h : ¬(x.k = 2 ∨ x.k = 13)) (h0 : 0 ≤ pzG x) : okG x i ↔ (0 < pzG x → 0 ≤ x.a ∧ x.a < i) ∧ (1 < pzG x → 0 ≤ x.b ∧ x.b < i) ∧ (pzG x < 1 → x.a = 0) ∧ (pzG x < 2 → x.b = 0) := by
  have h2 := pzG_le (x := x) fun k => h (.inr k)
  unfold okG ppG plG
  rw [if_neg h]
  rcases (show pzG x = 0 ∨ pzG x = 1 ∨ pzG x = 2 by omega) with e | e | e
  · rw [if_neg (by omega), if_neg (by omega)]
    simp only [List.not_mem_nil, false_imp_iff, implies_true, and_true]
    omega
  · rw [if_pos e]
    simp only [List.mem_singleton, forall_eq]
    omega
  · rw [if_neg (by omega), if_pos e]
    simp only [List.mem_cons, List.not_mem_nil, or_false, forall_eq_or_imp, forall_eq]
    omega
/-- May a node stand at a place? -/
def nodeP (v : Int) (l : List Gn) (i : Nat) : Prop := ((i : Int) < v → l.getD i g0 = ⟨2, 0, 0, i, []⟩) ∧ (¬(i : Int) < v → okG (l.getD i g0) i ∧ ∀ j, j < i → l.getD j g0 ≠ l.getD i g0)
theorem l15Node_ok (v : Int) (l : List Gn) (rs : List Gr) (i : Nat) (hi : i < l.length) (hl : l.length ≤ 1048576) (hx : gtxtOk l) : AFunP Tryd.prog 47 [graphV v l rs, .int .i64 i] (· = .pr (nodeP v l i)) := by
  have kp := l12Args_ok (l.getD i g0).k (l.getD i g0).n (l.getD i g0).t (by have := hx i hi; omega)
  rw [show partsZ (l.getD i g0).k (l.getD i g0).n (l.getD i g0).t = pzG (l.getD i g0) from rfl] at kp
  have ek : ∀ y z : Gn, ([Sum.inl y.k, Sum.inl y.a, Sum.inl y.b, Sum.inl y.n, Sum.inr y.t] : MKey) = [Sum.inl z.k, Sum.inl z.a, Sum.inl z.b, Sum.inl z.n, Sum.inr z.t] ↔ y = z := fun y z => by
    constructor
    · intro h
      simp only [List.cons.injEq, Sum.inl.injEq, Sum.inr.injEq, and_true] at h
      exact Gn.eq h.1 h.2.1 h.2.2.1 h.2.2.2.1 h.2.2.2.2
    · rintro rfl; rfl
  refine afun_of Tryd.func47 Tryd.call47 rfl Tryd.ntmps47 rfl ?_
  have W : Walk Tryd.prog TT 47 _ := Walk.of TT_ok Tryd.func47 Tryd.results47
  refine sp W 0 rfl rfl rfl (fun h1 => ?_) (fun h1 => ?_)
  · refine rp W 0 rfl rfl rfl (.pr ⟨fun k => ⟨fun _ => (ek (l.getD i g0) ⟨2, 0, 0, i, []⟩).1 k, fun h => absurd h1 h⟩, fun k => (ek (l.getD i g0) ⟨2, 0, 0, i, []⟩).2 (k.1 h1)⟩)
  · refine ce W 0 rfl rfl (kp) rfl ?_
    have hno : ¬ okG (l.getD i g0) i → ¬ nodeP v l i := fun h k => h (k.2 h1).1
    refine sp W 0 rfl rfl rfl (fun h2 => ?_) (fun h2 => ?_)
    · refine rp W 0 rfl rfl rfl (.no (hno fun k => by have := k.1.2; omega))
    refine sp W 0 rfl rfl rfl (fun h3 => ?_) (fun h3 => ?_)
    · refine rp W 0 rfl rfl rfl (.no (hno fun k => k.1.1 (.inl h3)))
    refine sp W 0 rfl rfl rfl (fun h4 => ?_) (fun h4 => ?_)
    · refine rp W 0 rfl rfl rfl (.no (hno fun k => k.1.1 (.inr h4)))
    have hle := pzG_le (x := l.getD i g0) h4
    have iN : ((i : Nat) : Int).toNat = i := Int.toNat_natCast i
    have hok := okG_iff (x := l.getD i g0) (i := i) (fun k => k.elim h3 h4) (show 0 ≤ pzG (l.getD i g0) by omega)
    refine sp W 0 rfl rfl rfl (fun a1 => ?_) (fun a1 => ?_)
    · refine sp W 0 rfl rfl rfl (fun a2 => ?_) (fun a2 => ?_)
      · refine rp W 0 rfl rfl rfl (.no (hno fun k => by have := (hok.1 k).1 a1; rw [iN] at a2; omega))
      refine sp W 0 rfl rfl rfl (fun a3 => ?_) (fun a3 => ?_)
      · refine rp W 0 rfl rfl rfl (.no (hno fun k => by have := (hok.1 k).1 a1; rw [iN] at a3; omega))
      refine sp W 0 rfl rfl rfl (fun a4 => ?_) (fun a4 => ?_)
      · refine sp W 0 rfl rfl rfl (fun a5 => ?_) (fun a5 => ?_)
        · refine rp W 0 rfl rfl rfl (.no (hno fun k => by have := (hok.1 k).2.1 a4; rw [iN] at a5; omega))
        refine sp W 0 rfl rfl rfl (fun a6 => ?_) (fun a6 => ?_)
        · refine rp W 0 rfl rfl rfl (.no (hno fun k => by have := (hok.1 k).2.1 a4; rw [iN] at a6; omega))
        refine sp W 0 rfl rfl rfl (fun a7 => ?_) (fun a7 => ?_)
        · exfalso; omega
        refine sp W 0 rfl rfl rfl (fun a8 => ?_) (fun a8 => ?_)
        · exfalso; omega
        have ho : okG (l.getD i g0) i := hok.2 ⟨fun _ => by rw [iN] at a2 a3; omega, fun _ => by rw [iN] at a5 a6; omega, fun _ => by omega, fun _ => by omega⟩
        refine atl W rfl ?_
        refine lp W 0 (σ := Nat) (fun j => [(1, .int .i64 i), (2, .ptr 0 0 0 0), (5, .ptr 1 0 0 0), (7, .int .i64 j)]) (fun _ => [.lst 0 [[.int .i64 v, .fz l.length (gnR l), .fz rs.length (grR rs)]], .lst 0 [[.int .i64 (l.getD i g0).k, .int .i64 (l.getD i g0).a, .int .i64 (l.getD i g0).b, .int .i64 (l.getD i g0).n, .str (l.getD i g0).t]]]) (fun j => i - j) (fun j => j ≤ i ∧ ∀ s, s < j → l.getD s g0 ≠ l.getD i g0) 0 [1, 2, 5, 7] rfl rfl rfl ⟨Nat.zero_le _, fun j hj => by omega⟩ ?_
        rintro j ⟨hj, he⟩ ih
        refine sp W 0 rfl rfl rfl (fun h5 => ?_) (fun h5 => ?_)
        · refine dre W 0 7 [] [] rfl rfl rfl trivial rfl ?_
          refine sp W 0 rfl rfl rfl (fun h6 => ?_) (fun h6 => ?_)
          · refine rp W 0 rfl rfl rfl (.no (fun k => (k.2 h1).2 j (by omega) ((ek (l.getD j g0) (l.getD i g0)).1 h6)))
          · refine bd W 0 2 [1, 2, 5, 7] rfl rfl rfl rfl rfl (ih (j + 1) ⟨by omega, fun s hs => ?_⟩ (by omega))
            by_cases hsj : s = j
            · subst hsj; exact fun e => h6 ((ek (l.getD s g0) (l.getD i g0)).2 e)
            · exact he s (by omega)
        · refine rp W 0 rfl rfl rfl (.yes ⟨fun h => absurd h h1, fun _ => ⟨ho, fun s hs => he s (by omega)⟩⟩)
      refine sp W 0 rfl rfl rfl (fun a7 => ?_) (fun a7 => ?_)
      · exfalso; omega
      refine sp W 0 rfl rfl rfl (fun a8 => ?_) (fun a8 => ?_)
      · refine sp W 0 rfl rfl rfl (fun a9 => ?_) (fun a9 => ?_)
        · refine rp W 0 rfl rfl rfl (.no (hno fun k => by have := (hok.1 k).2.2.2 a8; rw [iN] at a9; omega))
        have ho : okG (l.getD i g0) i := hok.2 ⟨fun _ => by rw [iN] at a2 a3; omega, fun _ => by omega, fun _ => by omega, fun _ => by rw [iN] at a9; omega⟩
        refine atl W rfl ?_
        refine lp W 0 (σ := Nat) (fun j => [(1, .int .i64 i), (2, .ptr 0 0 0 0), (5, .ptr 1 0 0 0), (7, .int .i64 j)]) (fun _ => [.lst 0 [[.int .i64 v, .fz l.length (gnR l), .fz rs.length (grR rs)]], .lst 0 [[.int .i64 (l.getD i g0).k, .int .i64 (l.getD i g0).a, .int .i64 (l.getD i g0).b, .int .i64 (l.getD i g0).n, .str (l.getD i g0).t]]]) (fun j => i - j) (fun j => j ≤ i ∧ ∀ s, s < j → l.getD s g0 ≠ l.getD i g0) 0 [1, 2, 5, 7] rfl rfl rfl ⟨Nat.zero_le _, fun j hj => by omega⟩ ?_
        rintro j ⟨hj, he⟩ ih
        refine sp W 0 rfl rfl rfl (fun h5 => ?_) (fun h5 => ?_)
        · refine dre W 0 7 [] [] rfl rfl rfl trivial rfl ?_
          refine sp W 0 rfl rfl rfl (fun h6 => ?_) (fun h6 => ?_)
          · refine rp W 0 rfl rfl rfl (.no (fun k => (k.2 h1).2 j (by omega) ((ek (l.getD j g0) (l.getD i g0)).1 h6)))
          · refine bd W 0 2 [1, 2, 5, 7] rfl rfl rfl rfl rfl (ih (j + 1) ⟨by omega, fun s hs => ?_⟩ (by omega))
            by_cases hsj : s = j
            · subst hsj; exact fun e => h6 ((ek (l.getD s g0) (l.getD i g0)).2 e)
            · exact he s (by omega)
        · refine rp W 0 rfl rfl rfl (.yes ⟨fun h => absurd h h1, fun _ => ⟨ho, fun s hs => he s (by omega)⟩⟩)
      exfalso; omega
    refine sp W 0 rfl rfl rfl (fun a4 => ?_) (fun a4 => ?_)
    · exfalso; omega
    refine sp W 0 rfl rfl rfl (fun a7 => ?_) (fun a7 => ?_)
    · refine sp W 0 rfl rfl rfl (fun a10 => ?_) (fun a10 => ?_)
      · refine rp W 0 rfl rfl rfl (.no (hno fun k => by have := (hok.1 k).2.2.1 a7; rw [iN] at a10; omega))
      refine sp W 0 rfl rfl rfl (fun a8 => ?_) (fun a8 => ?_)
      · refine sp W 0 rfl rfl rfl (fun a9 => ?_) (fun a9 => ?_)
        · refine rp W 0 rfl rfl rfl (.no (hno fun k => by have := (hok.1 k).2.2.2 a8; rw [iN] at a9; omega))
        have ho : okG (l.getD i g0) i := hok.2 ⟨fun _ => by omega, fun _ => by omega, fun _ => by rw [iN] at a10; omega, fun _ => by rw [iN] at a9; omega⟩
        refine atl W rfl ?_
        refine lp W 0 (σ := Nat) (fun j => [(1, .int .i64 i), (2, .ptr 0 0 0 0), (5, .ptr 1 0 0 0), (7, .int .i64 j)]) (fun _ => [.lst 0 [[.int .i64 v, .fz l.length (gnR l), .fz rs.length (grR rs)]], .lst 0 [[.int .i64 (l.getD i g0).k, .int .i64 (l.getD i g0).a, .int .i64 (l.getD i g0).b, .int .i64 (l.getD i g0).n, .str (l.getD i g0).t]]]) (fun j => i - j) (fun j => j ≤ i ∧ ∀ s, s < j → l.getD s g0 ≠ l.getD i g0) 0 [1, 2, 5, 7] rfl rfl rfl ⟨Nat.zero_le _, fun j hj => by omega⟩ ?_
        rintro j ⟨hj, he⟩ ih
        refine sp W 0 rfl rfl rfl (fun h5 => ?_) (fun h5 => ?_)
        · refine dre W 0 7 [] [] rfl rfl rfl trivial rfl ?_
          refine sp W 0 rfl rfl rfl (fun h6 => ?_) (fun h6 => ?_)
          · refine rp W 0 rfl rfl rfl (.no (fun k => (k.2 h1).2 j (by omega) ((ek (l.getD j g0) (l.getD i g0)).1 h6)))
          · refine bd W 0 2 [1, 2, 5, 7] rfl rfl rfl rfl rfl (ih (j + 1) ⟨by omega, fun s hs => ?_⟩ (by omega))
            by_cases hsj : s = j
            · subst hsj; exact fun e => h6 ((ek (l.getD s g0) (l.getD i g0)).2 e)
            · exact he s (by omega)
        · refine rp W 0 rfl rfl rfl (.yes ⟨fun h => absurd h h1, fun _ => ⟨ho, fun s hs => he s (by omega)⟩⟩)
      exfalso; omega
    exfalso; omega
def graphP (v : Int) (l : List Gn) (rs : List Gr) : Prop := ((1 ≤ v ∧ v ≤ 6) ∧ (v ≤ l.length ∧ l.length ≤ 120) ∧ (1 ≤ rs.length ∧ rs.length ≤ 12)) ∧ (∀ i, i < l.length → nodeP v l i) ∧ ∀ r ∈ rs, relP l.length r
end Pf
/- GraphOk: both sides and the law -/
namespace Pf
open Go Go.Proofs
theorem l13Kind_ok (k : Int) : AFunP Tryd.prog 48 [.int .i64 k] (· = .pr (1 ≤ k ∧ k ≤ 3)) := by
  refine afun_of Tryd.func48 Tryd.call48 rfl Tryd.ntmps48 rfl ?_
  have W : Walk Tryd.prog TT 48 _ := Walk.of TT_ok Tryd.func48 Tryd.results48
  refine sp W 0 rfl rfl rfl (fun h1 => ?_) (fun h1 => ?_)
  · refine rp W 0 rfl rfl rfl (.yes (by omega))
  refine sp W 0 rfl rfl rfl (fun h2 => ?_) (fun h2 => ?_)
  · refine rp W 0 rfl rfl rfl (.yes (by omega))
  · refine rp W 0 rfl rfl rfl (.pr (by omega))
theorem relP_of {n : Nat} {r : Gr} (h1 : 1 ≤ r.k ∧ r.k ≤ 3) (h2 : ¬ r.l < 0) (h3 : ¬ (n : Int) ≤ r.l) (h4 : ¬ r.r < 0) (h5 : ¬ (n : Int) ≤ r.r) : relP n r := ⟨h1, by omega, by omega⟩
theorem specGraphOk_ok (v : Int) (l : List Gn) (rs : List Gr) (hl : l.length ≤ 1048576) (hr : rs.length ≤ 1048576) (hx : gtxtOk l) : AFunP Tryd.prog 17 [graphV v l rs] (· = .pr (graphP v l rs)) := by
  refine afun_of Tryd.func17 Tryd.call17 rfl Tryd.ntmps17 rfl ?_
  have W : Walk Tryd.prog TT 17 _ := Walk.of TT_ok Tryd.func17 Tryd.results17
  refine sp W 0 rfl rfl rfl (fun h1 => ?_) (fun h1 => ?_)
  · refine rp W 0 rfl rfl rfl (.no (fun k => by have := k.1; omega))
  refine sp W 0 rfl rfl rfl (fun h2 => ?_) (fun h2 => ?_)
  · refine rp W 0 rfl rfl rfl (.no (fun k => by have := k.1; omega))
  refine sp W 0 rfl rfl rfl (fun h3 => ?_) (fun h3 => ?_)
  · refine rp W 0 rfl rfl rfl (.no (fun k => by have := k.1; omega))
  refine sp W 0 rfl rfl rfl (fun h4 => ?_) (fun h4 => ?_)
  · refine rp W 0 rfl rfl rfl (.no (fun k => by have := k.1; omega))
  refine sp W 0 rfl rfl rfl (fun h5 => ?_) (fun h5 => ?_)
  · refine rp W 0 rfl rfl rfl (.no (fun k => by have := k.1; omega))
  refine sp W 0 rfl rfl rfl (fun h6 => ?_) (fun h6 => ?_)
  · refine rp W 0 rfl rfl rfl (.no (fun k => by have := k.1; omega))
  refine lp W 0 (σ := Nat) (fun i => [(1, .ptr 0 0 0 0), (3, .int .i64 i)]) (fun _ => [.lst 0 [[.int .i64 v, .fz l.length (gnR l), .fz rs.length (grR rs)]]]) (fun i => l.length - i) (fun i => i ≤ l.length ∧ ∀ s, s < i → nodeP v l s) 0 [1, 3] rfl rfl rfl ⟨Nat.zero_le _, fun j hj => by omega⟩ ?_
  rintro i ⟨hi, he⟩ ih
  refine sp W 0 rfl rfl rfl (fun a1 => ?_) (fun a1 => ?_)
  · have a1 : i < l.length := by omega
    have kn := l15Node_ok v l rs i a1 hl hx
    refine ce W 0 rfl rfl (kn) rfl ?_
    refine sp W 0 rfl rfl rfl (fun a2 => ?_) (fun a2 => ?_)
    · refine rp W 0 rfl rfl rfl (.no (fun k => a2 (k.2.1 i a1)))
    · refine bd W 0 1 [1, 3] rfl rfl rfl rfl rfl (ih (i + 1) ⟨by omega, fun s hs => ?_⟩ (by omega))
      by_cases hsi : s = i
      · subst hsi; exact Classical.not_not.1 a2
      · exact he s (by omega)
  · have hn : ∀ i, i < l.length → nodeP v l i := fun s hs => he s (by omega)
    refine lp W 0 (σ := Nat) (fun i => [(1, .ptr 0 0 0 0), (4, .int .i64 i)]) (fun _ => [.lst 0 [[.int .i64 v, .fz l.length (gnR l), .fz rs.length (grR rs)]]]) (fun i => rs.length - i) (fun i => i ≤ rs.length ∧ ∀ s, s < i → relP l.length (rs.getD s r0)) 0 [1, 4] rfl rfl rfl ⟨Nat.zero_le _, fun j hj => by omega⟩ ?_
    rintro j ⟨hj, hej⟩ ihj
    refine sp W 0 rfl rfl rfl (fun b1 => ?_) (fun b1 => ?_)
    · have b1 : j < rs.length := by omega
      have kk := l13Kind_ok (rs.getD j r0).k
      have no : ¬ relP l.length (rs.getD j r0) → ¬ graphP v l rs := fun h k => h (k.2.2 _ (getD_in b1))
      refine ce W 0 rfl rfl (kk) rfl ?_
      have iN : ((j : Nat) : Int).toNat = j := Int.toNat_natCast j
      refine sp W 0 rfl rfl rfl (fun b2 => ?_) (fun b2 => ?_)
      · refine rp W 0 rfl rfl rfl (.no (no fun k => b2 k.1))
      have b2 := Classical.not_not.1 b2
      refine sp W 0 rfl rfl rfl (fun b3 => ?_) (fun b3 => ?_)
      · refine rp W 0 rfl rfl rfl (.no (no fun k => by have := k.2.1; rw [iN] at b3; omega))
      refine sp W 0 rfl rfl rfl (fun b4 => ?_) (fun b4 => ?_)
      · refine rp W 0 rfl rfl rfl (.no (no fun k => by have := k.2.1; rw [iN] at b4; omega))
      refine sp W 0 rfl rfl rfl (fun b5 => ?_) (fun b5 => ?_)
      · refine rp W 0 rfl rfl rfl (.no (no fun k => by have := k.2.2; rw [iN] at b5; omega))
      refine sp W 0 rfl rfl rfl (fun b6 => ?_) (fun b6 => ?_)
      · refine rp W 0 rfl rfl rfl (.no (no fun k => by have := k.2.2; rw [iN] at b6; omega))
      rw [iN] at b3 b4 b5 b6
      refine bd W 0 1 [1, 4] rfl rfl rfl rfl rfl (ihj (j + 1) ⟨by omega, fun s hs => ?_⟩ (by omega))
      by_cases hsj : s = j
      · subst hsj; exact relP_of b2 b3 b4 b5 b6
      · exact hej s (by omega)
    · refine rp W 0 rfl rfl rfl (.yes ⟨by omega, hn, getD_all fun s hs => hej s (by omega)⟩)
/-- A node as a key. -/
abbrev gk (x : Gn) : MKey := [.inl x.k, .inl x.a, .inl x.b, .inl x.n, .inr x.t]
theorem gk_inj {x y : Gn} (h : gk x = gk y) : x = y := by
  simp only [gk, List.cons.injEq, Sum.inl.injEq, Sum.inr.injEq, and_true] at h
  exact Gn.eq h.1 h.2.1 h.2.2.1 h.2.2.2.1 h.2.2.2.2
/-- The nodes met. -/
def mps (m : List Gn) : List (MKey × Int) := m.map fun y => (gk y, 1)
theorem mget_mps {x : Gn} : ∀ {m : List Gn}, mget (mps m) (gk x) ≠ 0 ↔ x ∈ m
  | [] => by simp [mps, mget]
  | y :: m => by
    have ih := mget_mps (x := x) (m := m)
    simp only [mps, List.map_cons, mget, List.mem_cons] at ih ⊢
    by_cases h : gk x = gk y
    · rw [if_pos h]
      exact ⟨fun _ => .inl (gk_inj h), fun _ => by decide⟩
    · rw [if_neg h, ih]
      exact ⟨.inr, fun q => q.resolve_left fun e => h (by rw [e])⟩
theorem mput_mps {x : Gn} : ∀ {m : List Gn}, x ∉ m → mput (mps m) (gk x) 1 = mps (m ++ [x])
  | [], _ => rfl
  | y :: m, hx => by
    have ih := mput_mps (x := x) (m := m) fun h => hx (List.mem_cons_of_mem _ h)
    simp only [mps, List.map_cons, List.cons_append, mput] at ih ⊢
    rw [if_neg fun h => hx (by rw [gk_inj h]; exact List.mem_cons_self ..), ih]
theorem fresh_node {v : Int} {l : List Gn} {i : Nat} (h : nodeP v l i) (he : ∀ s, s < i → nodeP v l s) : l.getD i g0 ∉ l.take i := by
  intro hm
  obtain ⟨s, hs, e⟩ := List.getElem_of_mem hm
  have hsi : s < i := by rw [List.length_take] at hs; omega
  have hsl : s < l.length := by rw [List.length_take] at hs; omega
  have e' : l.getD s g0 = l.getD i g0 := by
    rw [← e]
    simp [List.getD_eq_getElem?_getD, hsl]
  by_cases hv : (i : Int) < v
  · have h1 := h.1 hv
    have h2 := (he s hsi).1 (by omega)
    rw [h1, h2] at e'
    have := congrArg Gn.n e'
    simp only at this
    omega
  · exact (h.2 hv).2 s hsi e'
theorem take_mem {l : List Gn} {s i : Nat} (h : s < i) (hi : i < l.length) : l.getD s g0 ∈ l.take i := by
  have : s < (l.take i).length := by rw [List.length_take]; omega
  rw [List.getD_eq_getElem?_getD, List.getElem?_eq_getElem (by omega), Option.getD_some, ← List.getElem_take (h := this)]
  exact List.getElem_mem this
theorem plG_len (x : Gn) : (plG x).length ≤ 2 := by
  unfold plG
  split
  · simp
  · split
    · simp
    · split <;> simp
theorem implGraphOk_ok (v : Int) (l : List Gn) (rs : List Gr) (hl : l.length ≤ 1048576) (hr : rs.length ≤ 1048576) (hx : gtxtOk l) : AFunP Tryd.prog 19 [graphV v l rs] (· = .pr (graphP v l rs)) := by
  have k1 := in_ok v 1 6
  have k2 := in_ok l.length v 120
  have k3 := in_ok rs.length 1 12
  refine afun_of Tryd.func19 Tryd.call19 rfl Tryd.ntmps19 rfl ?_
  have W : Walk Tryd.prog TT 19 _ := Walk.of TT_ok Tryd.func19 Tryd.results19
  refine ce W 0 rfl rfl (k1) rfl ?_
  refine sp W 0 rfl rfl rfl (fun h1 => ?_) (fun h1 => ?_)
  · refine rp W 0 rfl rfl rfl (.no (fun k => h1 k.1.1))
  have h1 := Classical.not_not.1 h1
  refine ce W 0 rfl rfl (k2) rfl ?_
  refine sp W 0 rfl rfl rfl (fun h2 => ?_) (fun h2 => ?_)
  · refine rp W 0 rfl rfl rfl (.no (fun k => by have := k.1.2.1; omega))
  refine ce W 0 rfl rfl (k3) rfl ?_
  refine sp W 0 rfl rfl rfl (fun h3 => ?_) (fun h3 => ?_)
  · refine rp W 0 rfl rfl rfl (.no (fun k => by have := k.1.2.2; omega))
  refine lp W 0 (σ := Nat) (fun i => [(1, .ptr 0 0 0 0), (3, .mp 1), (30, .fz l.length (gnR l)), (31, .int .i64 l.length), (32, .int .i64 i)]) (fun i => [.lst 0 [[.int .i64 v, .fz l.length (gnR l), .fz rs.length (grR rs)]], .mp true (some [false, false, false, false, true]) (mps (l.take i))]) (fun i => l.length - i) (fun i => i ≤ l.length ∧ ∀ s, s < i → nodeP v l s) 0 [1, 3, 30, 31, 32] rfl rfl rfl ⟨Nat.zero_le _, fun j hj => by omega⟩ ?_
  rintro i ⟨hi, he⟩ ih
  refine sp W 0 rfl rfl rfl (fun a1 => ?_) (fun a1 => ?_)
  · have a1 : i < l.length := by omega
    have iN : ((i : Nat) : Int).toNat = i := Int.toNat_natCast i
    have hfr : nodeP v l i → l.getD i g0 ∉ l.take i := fun h => fresh_node h he
    refine sp W 0 rfl rfl rfl (fun a2 => ?_) (fun a2 => ?_)
    · refine rp W 0 rfl rfl rfl (.no (fun k => hfr (k.2.1 i a1) (mget_mps.1 a2)))
    have a2 : l.getD i g0 ∉ l.take i := fun h => a2 (mget_mps.2 h)
    have em : mput (mps (l.take i)) (gk (l.getD i g0)) 1 = mps (l.take (i + 1)) := by
      rw [mput_mps a2]
      congr 1
      rw [← List.take_append_getElem a1]
      simp [List.getD_eq_getElem?_getD, a1]
    rw [iN]
    refine sp W 0 rfl rfl rfl (fun a3 => ?_) (fun a3 => ?_)
    · rw [em]
      refine sp W 0 rfl rfl rfl (fun a4 => ?_) (fun a4 => ?_)
      · refine rp W 0 rfl rfl rfl (.no (fun k => a4 (by have := (k.2.1 i a1).1 a3; rw [this])))
      have a4 : l.getD i g0 = ⟨2, 0, 0, i, []⟩ := gk_inj (y := ⟨2, 0, 0, i, []⟩) (Classical.not_not.1 a4)
      refine bd W 0 2 [1, 3, 30, 31, 32] rfl rfl rfl rfl rfl (ih (i + 1) ⟨by omega, fun s hs => ?_⟩ (by omega))
      by_cases hsi : s = i
      · subst hsi; exact ⟨fun _ => a4, fun h => absurd a3 h⟩
      · exact he s (by omega)
    rw [em]
    refine ce W 0 rfl rfl (gparts_ok (l.getD i g0) (hx i a1)) rfl ?_
    refine sp W 0 rfl rfl rfl (fun a5 => ?_) (fun a5 => ?_)
    · refine rp W 0 rfl rfl rfl (.no (fun k => a5 ((k.2.1 i a1).2 a3).1.1))
    have a5 := Classical.not_not.1 a5
    have hpl : (plG (l.getD i g0)).length ≤ 1048576 := by have := plG_len (l.getD i g0); omega
    refine cb W 0 rfl rfl rfl rfl (containsInt_ok i ⟨by omega, by omega⟩ (plG (l.getD i g0)) hpl) rfl ?_
    refine sp W 0 rfl rfl rfl (fun a6 => ?_) (fun a6 => ?_)
    · obtain ⟨k, hk1, hk2⟩ := a6
      refine rp W 0 rfl rfl rfl (.no (fun k' => hk2 (((k'.2.1 i a1).2 a3).1.2 k hk1)))
    have hn : nodeP v l i := ⟨fun h => absurd h a3, fun _ => ⟨⟨a5, fun k hk => Classical.byContradiction fun h => a6 ⟨k, hk, h⟩⟩, fun s hs e => a2 (by rw [← e]; exact take_mem hs a1)⟩⟩
    refine bd W 0 2 [1, 3, 30, 31, 32] rfl rfl rfl rfl rfl (ih (i + 1) ⟨by omega, fun s hs => ?_⟩ (by omega))
    by_cases hsi : s = i
    · subst hsi; exact hn
    · exact he s (by omega)
  · have hn : ∀ i, i < l.length → nodeP v l i := fun s hs => he s (by omega)
    refine cb W 0 rfl rfl rfl rfl (containsRel_ok v l rs hl hr) rfl ?_
    refine rp W 0 rfl rfl rfl (.pr ⟨fun k => ⟨by omega, hn, fun r hr => Classical.byContradiction fun h => k ⟨r, hr, h⟩⟩, fun k ⟨r, hr, h⟩ => h (k.2.2 r hr)⟩)
theorem fnGraphOk_law (v : Int) (l : List Gn) (rs : List Gr) (hm : l.length ≤ 9223372036854775807) (hr : rs.length ≤ 9223372036854775807) (hx : ∀ i, i < l.length → (l.getD i g0).t.length ≤ 9223372036854775807) : AFunP Tryd.prog 5 [graphV v l rs] (· = .pr True) := by
  refine afun_of Tryd.func5 Tryd.call5 rfl Tryd.ntmps5 rfl ?_
  have W : Walk Tryd.prog TT 5 _ := Walk.of TT_ok Tryd.func5 Tryd.results5
  refine cq W 0 rfl rfl (szGraph_ok v l rs hm hr hx) ?_
  rintro _ ⟨n, rfl, hn⟩
  refine ⟨_, rfl, ?_⟩
  refine sp W 0 rfl rfl rfl (fun h1 => ?_) (fun h1 => ?_)
  · refine rp W 0 rfl rfl rfl (.yes trivial)
  obtain ⟨hl, hrs, ht⟩ := hn (by omega)
  have k1 := toGraph_ok v l rs hl hrs
  refine ce W 0 rfl rfl (k1) rfl ?_
  refine ce W 0 rfl rfl (specGraphOk_ok v l rs hl hrs ht) rfl ?_
  refine ce W 0 rfl rfl (k1) rfl ?_
  refine ce W 0 rfl rfl (implGraphOk_ok v l rs hl hrs ht) rfl ?_
  refine sp W 0 rfl rfl rfl (fun h2 => ?_) (fun h2 => ?_)
  · exact absurd Iff.rfl h2
  refine dre W 0 5 [] [graphV v l rs, .pr True] rfl rfl rfl ⟨k1.at rfl _, (eqGraph_ok v l rs hl hrs).at rfl _, trivial⟩ rfl ?_
  refine sp W 0 rfl rfl rfl (fun h3 => ?_) (fun h3 => ?_)
  · exact absurd trivial h3
  · refine rp W 0 rfl rfl rfl (.yes trivial)
end Pf
/- SlopeSmooth: both sides and the law -/
namespace Pf
open Go Go.Proofs
/-- The nodes that a node is made of. -/
inductive reachG (v : Int) (l : List Gn) (a : Nat) : Nat → Prop
  | start : reachG v l a a
  | step {i : Nat} {k : Int} (h : reachG v l a i) (hv : ¬(i : Int) < v) (hk : k ∈ plG (l.getD i g0)) : reachG v l a k.toNat
theorem reach_le {v : Int} {l : List Gn} {a : Nat} (hn : ∀ i, i < l.length → nodeP v l i) (ha : a < l.length) {i : Nat} (h : reachG v l a i) : i ≤ a := by
  induction h with
  | start => exact Nat.le_refl _
  | step h hv hk ih =>
    have := ((hn _ (by omega)).2 hv).1.2 _ hk
    omega
/-- What is marked when the nodes above i are done. -/
structure Mark (v : Int) (l : List Gn) (a : Nat) (i : Int) (F : Nat → Prop) : Prop where
  sub : ∀ j, F j → reachG v l a j
  top : F a
  done : ∀ (s : Nat), i < (s : Int) → F s → ¬(s : Int) < v → ∀ k ∈ plG (l.getD s g0), F k.toNat
theorem Mark.all {v : Int} {l : List Gn} {a : Nat} {i : Int} {F : Nat → Prop} (h : Mark v l a i F) (hi : i < v) (h0 : i < 0 ∨ 0 ≤ v) : F = reachG v l a := by
  funext j
  refine propext ⟨h.sub j, fun hr => ?_⟩
  induction hr with
  | start => exact h.top
  | step _ hv hk ih => exact h.done _ (by omega) ih hv _ hk
/-- A node that is not marked, or no node made of others, is done. -/
theorem Mark.skip {v : Int} {l : List Gn} {a : Nat} {i : Int} {F : Nat → Prop} (h : Mark v l a i F) (h0 : 0 ≤ i) (hs : F i.toNat → ¬ i < v → ∀ k ∈ plG (l.getD i.toNat g0), F k.toNat) : Mark v l a (i - 1) F :=
  ⟨h.sub, h.top, fun s h1 h2 h3 k hk => by
    by_cases e : (s : Int) = i
    · have e' : s = i.toNat := by omega
      subst e'
      exact hs h2 (by omega) k hk
    · exact h.done s (by omega) h2 h3 k hk⟩
/-- Its parts are marked. -/
theorem Mark.add {v : Int} {l : List Gn} {a : Nat} {i : Int} {F F' : Nat → Prop} (h : Mark v l a i F) (h0 : 0 ≤ i) (hF : F i.toNat) (hv : ¬ i < v) (hlt : ∀ k ∈ plG (l.getD i.toNat g0), 0 ≤ k ∧ k < i)
    (h' : ∀ j, F' j ↔ F j ∨ ∃ k ∈ plG (l.getD i.toNat g0), k.toNat = j) : Mark v l a (i - 1) F' :=
  ⟨fun j hj => by
    rcases (h' j).1 hj with hj | ⟨k, hk, rfl⟩
    · exact h.sub j hj
    · exact .step (h.sub _ hF) (by omega) hk, (h' a).2 (.inl h.top), fun s h1 h2 h3 k hk => by
    by_cases e : (s : Int) = i
    · have e' : s = i.toNat := by omega
      subst e'
      exact (h' _).2 (.inr ⟨k, hk, rfl⟩)
    · rcases (h' s).1 h2 with hs | ⟨k', hk', e2⟩
      · exact (h' _).2 (.inl (h.done s (by omega) hs h3 k hk))
      · have := hlt k' hk'
        omega⟩
theorem Mark.start {v : Int} {l : List Gn} {a : Nat} {i : Int} (h : (a : Int) ≤ i) {F : Nat → Prop} (hF : ∀ j, F j ↔ j = a) : Mark v l a i F :=
  ⟨fun j hj => by rw [(hF j).1 hj]; exact .start, (hF a).2 rfl, fun s h1 h2 => by have := (hF s).1 h2; omega⟩
theorem node_parts {v : Int} {l : List Gn} {i : Nat} (h : nodeP v l i) (hv : ¬(i : Int) < v) : (0 ≤ pzG (l.getD i g0) ∧ pzG (l.getD i g0) ≤ 2) ∧ (pzG (l.getD i g0) = 0 → plG (l.getD i g0) = []) ∧ (pzG (l.getD i g0) = 1 → plG (l.getD i g0) = [(l.getD i g0).a]) ∧ (pzG (l.getD i g0) = 2 → plG (l.getD i g0) = [(l.getD i g0).a, (l.getD i g0).b]) ∧ ∀ k ∈ plG (l.getD i g0), 0 ≤ k ∧ k < i := by
  obtain ⟨⟨h1, h2⟩, h3⟩ := (h.2 hv).1
  have hk : (l.getD i g0).k ≠ 13 := fun e => h1 (.inr e)
  have hle := pzG_le hk
  refine ⟨⟨by omega, hle.2⟩, fun e => ?_, fun e => ?_, fun e => ?_, fun k hk => by have := h3 k hk; omega⟩
  · unfold plG; rw [if_neg h1, if_neg (by omega), if_neg (by omega)]
  · unfold plG; rw [if_neg h1, if_pos e]
  · unfold plG; rw [if_neg h1, if_neg (by omega), if_pos e]
theorem mark2 (F : Nat → Prop) (a b : Int) (j : Nat) : (if j = b.toNat then true = true else if j = a.toNat then true = true else F j) ↔ F j ∨ ∃ k ∈ [a, b], k.toNat = j := by
  by_cases e1 : j = b.toNat
  · rw [if_pos e1]
    exact ⟨fun _ => .inr ⟨b, by simp, e1.symm⟩, fun _ => rfl⟩
  · rw [if_neg e1]
    by_cases e2 : j = a.toNat
    · rw [if_pos e2]
      exact ⟨fun _ => .inr ⟨a, by simp, e2.symm⟩, fun _ => rfl⟩
    · rw [if_neg e2]
      refine ⟨.inl, fun h => h.resolve_right ?_⟩
      rintro ⟨k, hk, e⟩
      simp only [List.mem_cons, List.not_mem_nil, or_false] at hk
      rcases hk with rfl | rfl
      · exact e2 e.symm
      · exact e1 e.symm
theorem needs_ok (v : Int) (l : List Gn) (rs : List Gr) (a : Nat) (ha : a < l.length) (hl : l.length ≤ 1048576) (hx : gtxtOk l) (hv0 : 1 ≤ v) (hn : ∀ i, i < l.length → nodeP v l i) : AFunP Tryd.prog 59 [graphV v l rs, .int .i64 a] (· = .fz l.length fun j => [.pr (reachG v l a j)]) := by
  refine afun_of Tryd.func59 Tryd.call59 rfl Tryd.ntmps59 rfl ?_
  have W : Walk Tryd.prog TT 59 _ := Walk.of TT_ok Tryd.func59 Tryd.results59
  refine lp W 0 (σ := Int × (Nat → Prop)) (fun s => [(2, .ptr 0 0 0 0), (5, .sl 1 0 0 l.length), (6, .int .i64 s.1)]) (fun s => [.lst 0 [[.int .i64 v, .fz l.length (gnR l), .fz rs.length (grR rs)]], .tab 0 l.length fun j => [.pr (s.2 j)]]) (fun s => (s.1 + 1).toNat) (fun s => (-1 ≤ s.1 ∧ s.1 ≤ a) ∧ Mark v l a s.1 s.2) ((a : Int), fun j => if j = a then true = true else false = true) [2, 5, 6] rfl rfl rfl ⟨⟨by dsimp only; omega, by dsimp only; omega⟩, Mark.start (Int.le_refl _) fun j => by by_cases h : j = a <;> simp [h]⟩ ?_
  rintro ⟨i, F⟩ ⟨⟨hi0, hi⟩, hm⟩ ih
  dsimp only at hi0 hi hm ih ⊢
  refine sp W 0 rfl rfl rfl (fun h1 => ?_) (fun h1 => ?_)
  · obtain ⟨m, rfl⟩ : ∃ m : Nat, i = m := ⟨i.toNat, by omega⟩
    have mN : ((m : Nat) : Int).toNat = m := Int.toNat_natCast m
    have kp := l12Args_ok (l.getD m g0).k (l.getD m g0).n (l.getD m g0).t (by have := hx m (by omega); omega)
    rw [show partsZ (l.getD m g0).k (l.getD m g0).n (l.getD m g0).t = pzG (l.getD m g0) from rfl] at kp
    have eN : addN 0 ((m : Nat) : Int).toNat = m := by rw [mN]; cases m <;> rfl
    refine sp W 0 rfl rfl rfl (fun h2 => ?_) (fun h2 => ?_)
    · have h2' : ¬ F m := by rw [eN] at h2; exact h2
      refine bd W 0 2 [2, 5, 6] rfl rfl rfl rfl rfl (ih ((m : Int) - 1, F) ⟨⟨by dsimp only; omega, by dsimp only; omega⟩, hm.skip (by omega) fun h => absurd h h2'⟩ (by dsimp only; omega))
    have h2' : F m := by rw [eN] at h2; exact Classical.not_not.1 h2
    refine ce W 0 rfl rfl (kp) rfl ?_
    rw [mN]
    refine sp W 0 rfl rfl rfl (fun h3 => ?_) (fun h3 => ?_)
    · have hv : ¬ (m : Int) < v := by omega
      obtain ⟨hz, q0, q1, q2, hlt⟩ := node_parts (hn m (by omega)) hv
      refine sp W 0 rfl rfl rfl (fun h4 => ?_) (fun h4 => ?_)
      · have hA : 0 ≤ (l.getD m g0).a ∧ (l.getD m g0).a < m := by
          rcases (show pzG (l.getD m g0) = 1 ∨ pzG (l.getD m g0) = 2 by omega) with e | e
          · exact hlt _ (by rw [q1 e]; simp)
          · exact hlt _ (by rw [q2 e]; simp)
        have eA : addN 0 (l.getD m g0).a.toNat = (l.getD m g0).a.toNat := by cases (l.getD m g0).a.toNat <;> rfl
        refine sp W 0 rfl rfl rfl (fun h5 => ?_) (fun h5 => ?_)
        · refine sp W 0 rfl rfl rfl (fun h6 => ?_) (fun h6 => ?_)
          · have e : pzG (l.getD m g0) = 2 := by omega
            have hB : 0 ≤ (l.getD m g0).b ∧ (l.getD m g0).b < m := hlt _ (by rw [q2 e]; simp)
            have eB : addN 0 (l.getD m g0).b.toNat = (l.getD m g0).b.toNat := by cases (l.getD m g0).b.toNat <;> rfl
            refine bd W 0 2 [2, 5, 6] rfl rfl rfl rfl rfl (ih ((m : Int) - 1, fun j => if j = addN 0 (l.getD m g0).b.toNat then true = true else if j = addN 0 (l.getD m g0).a.toNat then true = true else F j) ⟨⟨by dsimp only; omega, by dsimp only; omega⟩, hm.add (by omega) h2' hv hlt fun j => ?_⟩ (by dsimp only; omega))
            rw [mN, q2 e, eA, eB]
            exact mark2 F _ _ j
          · have e : pzG (l.getD m g0) = 1 := by omega
            refine bd W 0 2 [2, 5, 6] rfl rfl rfl rfl rfl (ih ((m : Int) - 1, fun j => if j = addN 0 (l.getD m g0).a.toNat then true = true else F j) ⟨⟨by dsimp only; omega, by dsimp only; omega⟩, hm.add (by omega) h2' hv hlt fun j => ?_⟩ (by dsimp only; omega))
            rw [mN, q1 e, eA]
            by_cases e2 : j = (l.getD m g0).a.toNat
            · simp [e2]
            · simp only [e2, if_false, List.mem_singleton, exists_eq_left]
              exact ⟨.inl, fun h => h.resolve_right fun h => e2 h.symm⟩
        · exfalso; omega
      · have e : pzG (l.getD m g0) = 0 := by omega
        refine sp W 0 rfl rfl rfl (fun h5 => ?_) (fun h5 => ?_)
        · refine sp W 0 rfl rfl rfl (fun h6 => ?_) (fun h6 => ?_)
          · exfalso; omega
          · refine bd W 0 2 [2, 5, 6] rfl rfl rfl rfl rfl (ih ((m : Int) - 1, F) ⟨⟨by dsimp only; omega, by dsimp only; omega⟩, hm.skip (by omega) fun _ _ k hk => by rw [mN, q0 e] at hk; simp at hk⟩ (by dsimp only; omega))
        · exfalso; omega
    · refine sp W 0 rfl rfl rfl (fun h5 => ?_) (fun h5 => ?_)
      · exfalso; omega
      · refine bd W 0 2 [2, 5, 6] rfl rfl rfl rfl rfl (ih ((m : Int) - 1, F) ⟨⟨by dsimp only; omega, by dsimp only; omega⟩, hm.skip (by omega) fun _ h => absurd (by omega) h⟩ (by dsimp only; omega))
  · have hF := hm.all (by omega) (.inl (by omega))
    refine rp W 0 rfl rfl rfl (.fzn rfl fun j _ => ?_)
    show [AV.pr (F j)] = [AV.pr (reachG v l a j)]
    rw [hF]
theorem madeOf_ok (v : Int) (l : List Gn) (rs : List Gr) (a : Nat) (ha : a < l.length) (hl : l.length ≤ 1048576) (hx : gtxtOk l) (hv0 : 1 ≤ v) (hn : ∀ i, i < l.length → nodeP v l i) : AFunP Tryd.prog 86 [graphV v l rs, .fi .i64 [(a : Int)]] (· = .fz l.length fun j => [.pr (reachG v l a j)]) := by
  refine afun_of Tryd.func86 Tryd.call86 rfl Tryd.ntmps86 rfl ?_
  have W : Walk Tryd.prog TT 86 _ := Walk.of TT_ok Tryd.func86 Tryd.results86
  refine lp W 0 (σ := Nat) (fun k => [(2, .ptr 0 0 0 0), (5, .sl 1 0 0 l.length), (17, .fi .i64 [(a : Int)]), (18, .int .i64 1), (19, .int .i64 k)]) (fun k => [.lst 0 [[.int .i64 v, .fz l.length (gnR l), .fz rs.length (grR rs)]], match k with | 0 => .tab 0 l.length fun _ => [.bool false] | _ + 1 => .tab 0 l.length fun j => [.pr (if j = a then true = true else false = true)]]) (fun k => 1 - k) (fun k => k ≤ 1) 0 [2, 5, 17, 18, 19] rfl rfl rfl (Nat.zero_le _) ?_
  intro k hk ih
  rcases (show k = 0 ∨ k = 1 by omega) with rfl | rfl
  · refine sp W 0 rfl rfl rfl (fun h1 => ?_) (fun h1 => ?_)
    · refine bd W 0 2 [2, 5, 17, 18, 19] rfl rfl rfl rfl rfl (ih 1 (Nat.le_refl _) (by omega))
    · exfalso; omega
  refine sp W 0 rfl rfl rfl (fun h1 => ?_) (fun h1 => ?_)
  · exfalso; omega
  refine lp W 0 (σ := Int × (Nat → Prop)) (fun s => [(2, .ptr 0 0 0 0), (5, .sl 1 0 0 l.length), (8, .int .i64 s.1)]) (fun s => [.lst 0 [[.int .i64 v, .fz l.length (gnR l), .fz rs.length (grR rs)]], .tab 0 l.length fun j => [.pr (s.2 j)]]) (fun s => (s.1 + 1).toNat) (fun s => (-1 ≤ s.1 ∧ s.1 < l.length) ∧ Mark v l a s.1 s.2) ((l.length : Int) - 1, fun j => if j = a then true = true else false = true) [2, 5, 8] rfl rfl rfl ⟨⟨by dsimp only; omega, by dsimp only; omega⟩, Mark.start (by dsimp only; omega) fun j => by by_cases h : j = a <;> simp [h]⟩ ?_
  rintro ⟨i, F⟩ ⟨⟨hi0, hi⟩, hm⟩ ih
  dsimp only at hi0 hi hm ih ⊢
  refine sp W 0 rfl rfl rfl (fun h1 => ?_) (fun h1 => ?_)
  · obtain ⟨m, rfl⟩ : ∃ m : Nat, i = m := ⟨i.toNat, by omega⟩
    have mN : ((m : Nat) : Int).toNat = m := Int.toNat_natCast m
    have hmn : m < l.length := by omega
    have hv : ¬ (m : Int) < v := by omega
    obtain ⟨hz, q0, q1, q2, hlt⟩ := node_parts (hn m hmn) hv
    have eN : addN 0 ((m : Nat) : Int).toNat = m := by rw [mN]; cases m <;> rfl
    refine ce W 0 rfl rfl (gparts_ok (l.getD m g0) (hx m hmn)) rfl ?_
    refine sp W 0 rfl rfl rfl (fun h2 => ?_) (fun h2 => ?_)
    · have h2' : F m := by rw [eN] at h2; exact h2
      have hL : (plG (l.getD m g0)).length ≤ 2 := plG_len _
      generalize hLe : plG (l.getD m g0) = L at *
      refine lp W 0 (σ := Nat × (Nat → Prop)) (fun s => [(2, .ptr 0 0 0 0), (5, .sl 1 0 0 l.length), (8, .int .i64 (m : Nat)), (50, .fi .i64 L), (51, .int .i64 L.length), (52, .int .i64 s.1)]) (fun s => [.lst 0 [[.int .i64 v, .fz l.length (gnR l), .fz rs.length (grR rs)]], .tab 0 l.length fun j => [.pr (s.2 j)]]) (fun s => L.length - s.1) (fun s => s.1 ≤ L.length ∧ ∀ j, s.2 j ↔ F j ∨ ∃ k ∈ L.take s.1, k.toNat = j) (0, F) [2, 5, 8, 50, 51, 52] rfl rfl rfl ⟨Nat.zero_le _, fun j => by simp⟩ ?_
      rintro ⟨s, G⟩ ⟨hs, hG⟩ ih2
      dsimp only at hs hG ih2 ⊢
      refine sp W 0 rfl rfl rfl (fun b1 => ?_) (fun b1 => ?_)
      · have b1 : s < L.length := by omega
        have hk := hlt (L.getD s 0) (getD_in b1)
        have sN : ((s : Nat) : Int).toNat = s := Int.toNat_natCast s
        have eK : addN 0 (L.getD s 0).toNat = (L.getD s 0).toNat := by cases (L.getD s 0).toNat <;> rfl
        refine bd W 0 2 [2, 5, 8, 50, 51, 52] rfl rfl rfl rfl rfl (ih2 (s + 1, fun j => if j = addN 0 (L.getD s 0).toNat then true = true else G j) ⟨by dsimp only; omega, fun j => ?_⟩ (by dsimp only; omega))
        dsimp only
        rw [eK]
        have et : L.take (s + 1) = L.take s ++ [L.getD s 0] := by
          rw [← List.take_append_getElem b1]
          simp [List.getD_eq_getElem?_getD, b1]
        rw [et]
        by_cases e : j = (L.getD s 0).toNat
        · rw [if_pos e]
          exact ⟨fun _ => .inr ⟨L.getD s 0, by simp, e.symm⟩, fun _ => rfl⟩
        · rw [if_neg e, hG j]
          constructor
          · rintro (h | ⟨k, hk, h⟩)
            · exact .inl h
            · exact .inr ⟨k, List.mem_append_left _ hk, h⟩
          · rintro (h | ⟨k, hk, h⟩)
            · exact .inl h
            · rcases List.mem_append.1 hk with hk | hk
              · exact .inr ⟨k, hk, h⟩
              · rw [List.mem_singleton.1 hk] at h
                exact absurd h.symm e
      · have hsL : s = L.length := by omega
        subst hsL
        rw [List.take_length] at hG
        refine bd W 0 2 [2, 5, 8] rfl rfl rfl rfl rfl (ih ((m : Int) - 1, G) ⟨⟨by dsimp only; omega, by dsimp only; omega⟩, hm.add (by omega) h2' hv (by rw [mN, hLe]; exact hlt) (by rw [mN, hLe]; exact hG)⟩ (by dsimp only; omega))
    · have h2' : ¬ F m := by rw [eN] at h2; exact h2
      refine bd W 0 2 [2, 5, 8] rfl rfl rfl rfl rfl (ih ((m : Int) - 1, F) ⟨⟨by dsimp only; omega, by dsimp only; omega⟩, hm.skip (by omega) fun h => absurd h h2'⟩ (by dsimp only; omega))
  · have hF := hm.all (by omega) (.inr (by omega))
    refine rp W 0 rfl rfl rfl (.fzn rfl fun j _ => ?_)
    show [AV.pr (F j)] = [AV.pr (reachG v l a j)]
    rw [hF]
/-- A node made of smooth ones. -/
def smoothP (v : Int) (l : List Gn) (a : Nat) : Prop := ∀ i, reachG v l a i → ¬((l.getD i g0).k = 10 ∨ (l.getD i g0).k = 11 ∨ (l.getD i g0).k = 12)
def slopeP (v : Int) (l : List Gn) (rs : List Gr) (a : Int) : Prop := graphP v l rs ∧ (0 ≤ a ∧ a ≤ (l.length : Int) - 1) ∧ smoothP v l a.toNat
theorem smooth_ok (v : Int) (l : List Gn) (rs : List Gr) (a : Nat) (ha : a < l.length) (hl : l.length ≤ 1048576) (hx : gtxtOk l) (hv0 : 1 ≤ v) (hn : ∀ i, i < l.length → nodeP v l i) : AFunP Tryd.prog 60 [graphV v l rs, .int .i64 a] (· = .pr (smoothP v l a)) := by
  have km := madeOf_ok v l rs a ha hl hx hv0 hn
  refine afun_of Tryd.func60 Tryd.call60 rfl Tryd.ntmps60 rfl ?_
  have W : Walk Tryd.prog TT 60 _ := Walk.of TT_ok Tryd.func60 Tryd.results60
  refine cf W 0 [1] [2] rfl rfl rfl rfl rfl rfl (km) rfl ?_
  refine lp W 0 (σ := Nat) (fun i => [(2, .ptr 0 0 0 0), (11, .fz l.length fun j => [.pr (reachG v l a j)]), (12, .int .i64 l.length), (13, .int .i64 i)]) (fun _ => [.lst 0 [[.int .i64 v, .fz l.length (gnR l), .fz rs.length (grR rs)]], .dead]) (fun i => l.length - i) (fun i => i ≤ l.length ∧ ∀ s, s < i → reachG v l a s → ¬((l.getD s g0).k = 10 ∨ (l.getD s g0).k = 11 ∨ (l.getD s g0).k = 12)) 0 [2, 11, 12, 13] rfl rfl rfl ⟨Nat.zero_le _, fun j hj => by omega⟩ ?_
  rintro i ⟨hi, he⟩ ih
  refine sp W 0 rfl rfl rfl (fun b1 => ?_) (fun b1 => ?_)
  · have b1 : i < l.length := by omega
    have iN : ((i : Nat) : Int).toNat = i := Int.toNat_natCast i
    refine sp W 0 rfl rfl rfl (fun b2 => ?_) (fun b2 => ?_)
    · have hr : reachG v l a i := by rw [iN] at b2; exact b2
      refine sp W 0 rfl rfl rfl (fun b3 => ?_) (fun b3 => ?_)
      · refine rp W 0 rfl rfl rfl (.no (fun k => k i hr (.inl (by rw [iN] at b3; exact b3))))
      refine sp W 0 rfl rfl rfl (fun b4 => ?_) (fun b4 => ?_)
      · refine rp W 0 rfl rfl rfl (.no (fun k => k i hr (.inr (.inl (by rw [iN] at b4; exact b4)))))
      refine sp W 0 rfl rfl rfl (fun b5 => ?_) (fun b5 => ?_)
      · refine rp W 0 rfl rfl rfl (.no (fun k => k i hr (.inr (.inr (by rw [iN] at b5; exact b5)))))
      rw [iN] at b3 b4 b5
      refine bd W 0 2 [2, 11, 12, 13] rfl rfl rfl rfl rfl (ih (i + 1) ⟨by omega, fun s hs => ?_⟩ (by omega))
      by_cases hsi : s = i
      · subst hsi; exact fun _ h => h.elim b3 fun h => h.elim b4 b5
      · exact he s (by omega)
    · have hr : ¬ reachG v l a i := by rw [iN] at b2; exact b2
      refine bd W 0 2 [2, 11, 12, 13] rfl rfl rfl rfl rfl (ih (i + 1) ⟨by omega, fun s hs => ?_⟩ (by omega))
      by_cases hsi : s = i
      · subst hsi; exact fun h => absurd h hr
      · exact he s (by omega)
  · have hs : smoothP v l a := fun s hr => he s (by have := reach_le hn ha hr; omega) hr
    refine rp W 0 rfl rfl rfl (.yes hs)
theorem implSmooth_ok (v : Int) (l : List Gn) (rs : List Gr) (a : Int) (hl : l.length ≤ 1048576) (hr : rs.length ≤ 1048576) (hx : gtxtOk l) (ha : -9223372036854775808 ≤ a ∧ a ≤ 9223372036854775807) : AFunP Tryd.prog 22 [graphV v l rs, .int .i64 a] (· = .pr (slopeP v l rs a)) := by
  have k2 := in_ok a 0 ((l.length : Int) - 1)
  refine afun_of Tryd.func22 Tryd.call22 rfl Tryd.ntmps22 rfl ?_
  have W : Walk Tryd.prog TT 22 _ := Walk.of TT_ok Tryd.func22 Tryd.results22
  refine ce W 0 rfl rfl (implGraphOk_ok v l rs hl hr hx) rfl ?_
  refine sp W 0 rfl rfl rfl (fun h1 => ?_) (fun h1 => ?_)
  · refine ce W 0 rfl rfl (k2) rfl ?_
    refine sp W 0 rfl rfl rfl (fun h2 => ?_) (fun h2 => ?_)
    · obtain ⟨m, rfl⟩ : ∃ m : Nat, a = m := ⟨a.toNat, by omega⟩
      refine ce W 0 rfl rfl (smooth_ok v l rs m (by omega) hl hx h1.1.1.1 h1.2.1) rfl ?_
      refine rp W 0 rfl rfl rfl (.pr ⟨fun k => ⟨h1, h2, by rw [Int.toNat_natCast]; exact k⟩, fun k => by have := k.2.2; rw [Int.toNat_natCast] at this; exact this⟩)
    · refine rp W 0 rfl rfl rfl (.no (fun k => h2 k.2.1))
  · refine rp W 0 rfl rfl rfl (.no (fun k => h1 k.1))
theorem specSmooth_ok (v : Int) (l : List Gn) (rs : List Gr) (a : Int) (hl : l.length ≤ 1048576) (hr : rs.length ≤ 1048576) (hx : gtxtOk l) : AFunP Tryd.prog 21 [graphV v l rs, .int .i64 a] (· = .pr (slopeP v l rs a)) := by
  refine afun_of Tryd.func21 Tryd.call21 rfl Tryd.ntmps21 rfl ?_
  have W : Walk Tryd.prog TT 21 _ := Walk.of TT_ok Tryd.func21 Tryd.results21
  refine ce W 0 rfl rfl (specGraphOk_ok v l rs hl hr hx) rfl ?_
  refine sp W 0 rfl rfl rfl (fun h1 => ?_) (fun h1 => ?_)
  · refine rp W 0 rfl rfl rfl (.no (fun k => h1 k.1))
  have h1 := Classical.not_not.1 h1
  refine sp W 0 rfl rfl rfl (fun h2 => ?_) (fun h2 => ?_)
  · refine rp W 0 rfl rfl rfl (.no (fun k => by have := k.2.1; omega))
  refine sp W 0 rfl rfl rfl (fun h3 => ?_) (fun h3 => ?_)
  · refine rp W 0 rfl rfl rfl (.no (fun k => by have := k.2.1; omega))
  obtain ⟨m, rfl⟩ : ∃ m : Nat, a = m := ⟨a.toNat, by omega⟩
  refine ce W 0 rfl rfl (needs_ok v l rs m (by omega) hl hx h1.1.1.1 h1.2.1) rfl ?_
  refine lp W 0 (σ := Nat) (fun i => [(1, .int .i64 (m : Nat)), (2, .ptr 0 0 0 0), (5, .fz l.length fun j => [.pr (reachG v l m j)]), (6, .int .i64 i)]) (fun _ => [.lst 0 [[.int .i64 v, .fz l.length (gnR l), .fz rs.length (grR rs)]]]) (fun i => m + 1 - i) (fun i => i ≤ m + 1 ∧ ∀ s, s < i → reachG v l m s → ¬((l.getD s g0).k = 10 ∨ (l.getD s g0).k = 11 ∨ (l.getD s g0).k = 12)) 0 [1, 2, 5, 6] rfl rfl rfl ⟨Nat.zero_le _, fun j hj => by omega⟩ ?_
  rintro i ⟨hi, he⟩ ih
  refine sp W 0 rfl rfl rfl (fun b1 => ?_) (fun b1 => ?_)
  · have iN : ((i : Nat) : Int).toNat = i := Int.toNat_natCast i
    refine sp W 0 rfl rfl rfl (fun b2 => ?_) (fun b2 => ?_)
    · have hr : reachG v l m i := by rw [iN] at b2; exact b2
      have no : ((l.getD i g0).k = 10 ∨ (l.getD i g0).k = 11 ∨ (l.getD i g0).k = 12) → ¬ slopeP v l rs (m : Nat) := fun h k => k.2.2 i (by rw [Int.toNat_natCast]; exact hr) h
      refine sp W 0 rfl rfl rfl (fun b3 => ?_) (fun b3 => ?_)
      · refine rp W 0 rfl rfl rfl (.no (no (.inl (by rw [iN] at b3; exact b3))))
      refine sp W 0 rfl rfl rfl (fun b4 => ?_) (fun b4 => ?_)
      · refine rp W 0 rfl rfl rfl (.no (no (.inr (.inl (by rw [iN] at b4; exact b4)))))
      refine sp W 0 rfl rfl rfl (fun b5 => ?_) (fun b5 => ?_)
      · refine rp W 0 rfl rfl rfl (.no (no (.inr (.inr (by rw [iN] at b5; exact b5)))))
      rw [iN] at b3 b4 b5
      refine bd W 0 1 [1, 2, 5, 6] rfl rfl rfl rfl rfl (ih (i + 1) ⟨by omega, fun s hs => ?_⟩ (by omega))
      by_cases hsi : s = i
      · subst hsi; exact fun _ h => h.elim b3 fun h => h.elim b4 b5
      · exact he s (by omega)
    · have hr : ¬ reachG v l m i := by rw [iN] at b2; exact b2
      refine bd W 0 1 [1, 2, 5, 6] rfl rfl rfl rfl rfl (ih (i + 1) ⟨by omega, fun s hs => ?_⟩ (by omega))
      by_cases hsi : s = i
      · subst hsi; exact fun h => absurd h hr
      · exact he s (by omega)
  · have hs : smoothP v l m := fun s hr => he s (by have := reach_le h1.2.1 (by omega) hr; omega) hr
    refine rp W 0 rfl rfl rfl (.yes ⟨h1, ⟨by omega, by omega⟩, by rw [Int.toNat_natCast]; exact hs⟩)
theorem fnSlopeSmooth_law (v : Int) (l : List Gn) (rs : List Gr) (a : Int) (hm : l.length ≤ 9223372036854775807) (hr : rs.length ≤ 9223372036854775807) (hx : ∀ i, i < l.length → (l.getD i g0).t.length ≤ 9223372036854775807) (ha : -9223372036854775808 ≤ a ∧ a ≤ 9223372036854775807) : AFunP Tryd.prog 6 [graphV v l rs, .int .i64 a] (· = .pr True) := by
  refine afun_of Tryd.func6 Tryd.call6 rfl Tryd.ntmps6 rfl ?_
  have W : Walk Tryd.prog TT 6 _ := Walk.of TT_ok Tryd.func6 Tryd.results6
  refine cq W 0 rfl rfl (szGraph_ok v l rs hm hr hx) ?_
  rintro _ ⟨n, rfl, hn⟩
  refine ⟨_, rfl, ?_⟩
  refine sp W 0 rfl rfl rfl (fun h1 => ?_) (fun h1 => ?_)
  · refine rp W 0 rfl rfl rfl (.yes trivial)
  obtain ⟨hl, hrs, ht⟩ := hn (by omega)
  have k1 := toGraph_ok v l rs hl hrs
  refine ce W 0 rfl rfl (k1) rfl ?_
  refine ce W 0 rfl rfl (specSmooth_ok v l rs a hl hrs ht) rfl ?_
  refine ce W 0 rfl rfl (k1) rfl ?_
  refine ce W 0 rfl rfl (implSmooth_ok v l rs a hl hrs ht ha) rfl ?_
  refine sp W 0 rfl rfl rfl (fun h2 => ?_) (fun h2 => ?_)
  · exact absurd Iff.rfl h2
  refine dre W 0 5 [] [graphV v l rs, .pr True] rfl rfl rfl ⟨k1.at rfl _, (eqGraph_ok v l rs hl hrs).at rfl _, trivial⟩ rfl ?_
  refine sp W 0 rfl rfl rfl (fun h3 => ?_) (fun h3 => ?_)
  · exact absurd trivial h3
  · refine rp W 0 rfl rfl rfl (.yes trivial)
end Pf
