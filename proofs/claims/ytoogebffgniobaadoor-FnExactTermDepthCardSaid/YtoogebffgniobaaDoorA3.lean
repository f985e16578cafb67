/- Part 3 of the lemmas that the claim rests on: an abstract machine over the model, what it is sound for, and the contracts of the functions that the law reaches. -/
import Derived.Test.YtoogebffgniobaaDoorA2
set_option linter.unusedSimpArgs false
set_option linter.unusedVariables false
set_option maxHeartbeats 4000000
/- Literals: the model's side -/
namespace Pf
open Go Go.Proofs
/-- Behind 'e' and its sign: the place a, the sign m. -/
def powA (s : List UInt8) (a : Nat) (m : Prop) : Prop := run s a ≠ 0 ∧ run s a ≤ 3 ∧ ¬ (s.getD a 0 = 48 ∧ (1 < run s a ∨ m)) ∧
  ¬ (run s a = 3 ∧ ¬ (Op.bytesLess ((s.take (a + run s a)).drop a) [52, 48, 48] = true ∨ (s.take (a + run s a)).drop a = [52, 48, 48])) ∧ a + run s a = s.length
theorem run_le (s : List UInt8) (a : Nat) (h : a ≤ s.length) : a + run s a ≤ s.length := by
  have := (List.takeWhile_prefix (l := s.drop a) dB).length_le
  rw [List.length_drop] at this
  have e := run_dg s a
  have : (Dg (s.drop a)).length ≤ s.length - a := this
  omega
theorem powA_ok {s t : List UInt8} {a : Nat} {m : Prop} (ha : a ≤ s.length) (hu : s.drop a = cutP t 45) (hm : m ↔ t.head? = some 45) : powE1 t ↔ powA s a m := by
  have h1 := run_dg s a
  have h2 := drop_rg s a
  have h3 := run_le s a ha
  unfold powE1 powA
  rw [← hu, ← hm]
  have e1 : (s.take (a + run s a)).drop a = Dg (s.drop a) := by
    rw [List.drop_take, Nat.add_sub_cancel_left]
    conv => lhs; rw [← dg_app (s.drop a)]
    rw [h1, List.take_left']
    rfl
  have e2 : (s.drop a).getD 0 0 = s.getD a 0 := by simp [List.getD_eq_getElem?_getD]
  have e3 : Rg (s.drop a) = [] ↔ a + run s a = s.length := by
    rw [← h2, List.drop_eq_nil_iff]
    omega
  have e4 : Dg (s.drop a) ≠ [] ↔ run s a ≠ 0 := by rw [h1, ne_eq, ne_eq, List.length_eq_zero_iff]
  rw [e1, e2, e3, e4, h1]
theorem drop_cons {s : List UInt8} {a : Nat} (h : a < s.length) : s.drop a = s.getD a 0 :: s.drop (a + 1) := by
  rw [List.drop_eq_getElem_cons h, List.getD_eq_getElem?_getD]
  simp [h]
theorem powE_yes {s : List UInt8} {a : Nat} (h : a < s.length) (e : s.getD a 0 = 101) : powE (s.drop a) ↔ powE1 (s.drop (a + 1)) := by
  rw [drop_cons h, e]; simp [powE]
theorem powE_no {s : List UInt8} {a : Nat} (h : a < s.length) (e : ¬ s.getD a 0 = 101) : ¬ powE (s.drop a) := by
  rw [drop_cons h]
  intro k
  have := k.2 (by simpa using e)
  cases this
theorem powE_nil {s : List UInt8} {a : Nat} (h : s.length ≤ a) : powE (s.drop a) := by
  rw [List.drop_eq_nil_iff.2 h]; simp [powE]
theorem fracE_yes {s : List UInt8} {n : Nat} (h : n < s.length) (e : s.getD n 0 = 46) : fracE (s.drop n) ↔ run s (n + 1) ≠ 0 ∧ powE (s.drop (n + 1 + run s (n + 1))) := by
  have h1 := run_dg s (n + 1)
  have h2 := drop_rg s (n + 1)
  rw [drop_cons h, e]
  simp only [fracE, List.head?_cons, List.drop_succ_cons, List.drop_zero, forall_const, ne_eq, not_true_eq_false, false_implies, and_true]
  rw [h2, h1, List.length_eq_zero_iff]
theorem fracE_no {s : List UInt8} {n : Nat} (e : ¬ s.getD n 0 = 46) : fracE (s.drop n) ↔ powE (s.drop n) := by
  have : (s.drop n).head? ≠ some 46 := by
    by_cases h : n < s.length
    · rw [ne_eq, head_at h]; exact e
    · rw [List.drop_eq_nil_iff.2 (by omega)]; simp
  exact ⟨fun k => k.2 this, fun k => ⟨fun e => absurd e this, fun _ => k⟩⟩
theorem cutP_yes {s : List UInt8} {a : Nat} (h : a < s.length) (e : s.getD a 0 = 45) : s.drop (a + 1) = cutP (s.drop a) 45 := by
  unfold cutP
  rw [if_pos ((head_at h 45).2 e), List.drop_drop]
theorem cutP_no {s : List UInt8} {a : Nat} (h : a < s.length) (e : ¬ s.getD a 0 = 45) : s.drop a = cutP (s.drop a) 45 := by
  unfold cutP
  rw [if_neg fun k => e ((head_at h 45).1 k)]
theorem specLangNumOk_ok (s : List UInt8) (hl : s.length ≤ 281474976710656) : AFunP Tryd.prog 72 [.str s] (· = .pr (litP s ∧ s.length ≤ 60)) := by
  rw [← num_ok s]
  have k0 := l11Run_ok s 0 (by omega) (by omega)
  have r0 : s.drop (run s 0) = Rg s := by have := drop_rg s 0; rwa [Nat.zero_add] at this
  have t0 := run_le s 0 (by omega)
  rw [Nat.zero_add] at t0
  have w0 : run s 0 ≠ 0 → (wd (Dg s) ↔ ¬ (1 < run s 0 ∧ s.getD 0 0 = 48)) := by
    intro h
    have d0 : run s 0 = (Dg s).length := rfl
    have e0 : s.getD 0 0 = (Dg s).getD 0 0 := by
      conv => lhs; rw [← dg_app s]
      simp only [List.getD_eq_getElem?_getD]
      rw [List.getElem?_append_left (by omega)]
    rw [d0] at h ⊢
    rw [e0]
    have ha := dg_all s
    unfold wd
    clear e0
    revert h
    match Dg s, ha with
    | [], _ => intro h; exact absurd rfl h
    | [a], ha => intro h; simp at ha; simp [ha]; exact Decidable.em _
    | a :: b :: l, ha => intro h; simp at ha; simp [ha]; exact fun _ => ha.2.2
  have w1 : wd (Dg s) → run s 0 ≠ 0 := fun k => by
    have d0 : run s 0 = (Dg s).length := rfl
    rw [d0, ne_eq, List.length_eq_zero_iff]
    exact k.1.1
  refine afun_of Tryd.func72 Tryd.call72 rfl Tryd.ntmps72 rfl ?_
  have W : Walk Tryd.prog TT 72 _ := Walk.of TT_ok Tryd.func72 Tryd.results72
  refine ce W 0 rfl rfl (k0) rfl ?_
  generalize run s 0 = n at *
  refine sp W 0 rfl rfl rfl (fun h1 => ?_) (fun h1 => ?_)
  · refine rp W 0 rfl rfl rfl (.no (fun k => by have := k.2; omega))
  refine sp W 0 rfl rfl rfl (fun h2 => ?_) (fun h2 => ?_)
  · refine rp W 0 rfl rfl rfl (.no (fun k => w1 k.1.1 (by omega)))
  refine sp W 0 rfl rfl rfl (fun h3 => ?_) (fun h3 => ?_)
  · refine sp W 0 rfl rfl rfl (fun h4 => ?_) (fun h4 => ?_)
    · have h4 := (u8_eq (c := 48)).1 h4
      refine rp W 0 rfl rfl rfl (.no (fun q => (w0 (by omega)).1 q.1.1 ⟨by omega, h4⟩))
    · have hw := (w0 (by omega)).2 fun k => h4 ((u8_eq (c := 48)).2 k.2)
      have hq0 : numE s ↔ fracE (Rg s) := ⟨fun e => e.2, fun e => ⟨hw, e⟩⟩
      refine sp W 0 rfl rfl rfl (fun p1 => ?_) (fun p1 => ?_)
      · refine sp W 0 rfl rfl rfl (fun p2 => ?_) (fun p2 => ?_)
        · rw [show (n : Int).toNat = n by omega] at p2
          have p2 := (u8_eq (c := 46)).1 p2
          have kk : AFunP Tryd.prog 93 [.str s, .int .i64 ((n : Int) + 1)] (· = .int .i64 (run s (n + 1) : Nat)) := l11Run_ok s (n + 1) (by omega) (by omega)
          have tk := run_le s (n + 1) (by omega)
          have hf : numE s ↔ run s (n + 1) ≠ 0 ∧ powE (s.drop (n + 1 + run s (n + 1))) := by
            refine hq0.trans ?_
            rw [← r0, fracE_yes (by omega) p2]
          refine ce W 0 rfl rfl (kk) rfl ?_
          generalize run s (n + 1) = j at *
          refine sp W 0 rfl rfl rfl (fun p5 => ?_) (fun p5 => ?_)
          · refine rp W 0 rfl rfl rfl (.no (fun q => (hf.1 q.1).1 (by omega)))
          have hq : numE s ↔ powE (s.drop (n + 1 + j)) := ⟨fun e => (hf.1 e).2, fun e => hf.2 ⟨by omega, e⟩⟩
          refine sp W 0 rfl rfl rfl (fun p3 => ?_) (fun p3 => ?_)
          · refine sp W 0 rfl rfl rfl (fun p4 => ?_) (fun p4 => ?_)
            · rw [show ((n : Int) + 1 + (j : Int)).toNat = n + 1 + j by omega] at p4
              have hq2 : numE s ↔ powE1 (s.drop (n + 1 + j + 1)) := hq.trans (powE_yes (by omega) ((u8_eq (c := 101)).1 p4))
              refine sp W 0 rfl rfl rfl (fun m1 => ?_) (fun m1 => ?_)
              · refine sp W 0 rfl rfl rfl (fun m2 => ?_) (fun m2 => ?_)
                · rw [show ((n : Int) + 1 + (j : Int) + 1).toNat = n + 1 + j + 1 by omega] at m2
                  have hu : s.drop (n + 1 + j + 1 + 1) = cutP (s.drop (n + 1 + j + 1)) 45 := cutP_yes (by omega) ((u8_eq (c := 45)).1 m2)
                  have hm : True ↔ (s.drop (n + 1 + j + 1)).head? = some 45 := by rw [head_at (by omega)]; exact ⟨fun _ => (u8_eq (c := 45)).1 m2, fun _ => trivial⟩
                  rw [← show ((n : Int) + 1 + (j : Int) + 1).toNat = n + 1 + j + 1 by omega] at m2
                  have kr : AFunP Tryd.prog 93 [.str s, .int .i64 ((n : Int) + 1 + (j : Int) + 1 + 1)] (· = .int .i64 (run s (n + 1 + j + 1 + 1) : Nat)) := by
                    have := l11Run_ok s (n + 1 + j + 1 + 1) (by omega) (by omega)
                    rwa [show ((n + 1 + j + 1 + 1 : Nat) : Int) = (n : Int) + 1 + (j : Int) + 1 + 1 by omega] at this
                  have tr := run_le s (n + 1 + j + 1 + 1) (by omega)
                  have hP := hq2.trans (powA_ok (a := n + 1 + j + 1 + 1) (m := True) (by omega) hu hm)
                  unfold powA at hP
                  refine ce W 0 rfl rfl (kr) rfl ?_
                  generalize run s (n + 1 + j + 1 + 1) = k at *
                  refine sp W 0 rfl rfl rfl (fun c1 => ?_) (fun c1 => ?_)
                  · refine rp W 0 rfl rfl rfl (.no (fun q => (hP.1 q.1).1 (by omega)))
                  refine sp W 0 rfl rfl rfl (fun c2 => ?_) (fun c2 => ?_)
                  · refine rp W 0 rfl rfl rfl (.no (fun q => by have := (hP.1 q.1).2.1; omega))
                  refine sp W 0 rfl rfl rfl (fun c3 => ?_) (fun c3 => ?_)
                  · have c3 : s.getD (n + 1 + j + 1 + 1) 0 = 48 := by rw [show ((n : Int) + 1 + (j : Int) + 1 + 1).toNat = n + 1 + j + 1 + 1 by omega] at c3; exact (u8_eq (c := 48)).1 c3
                    refine sp W 0 rfl rfl rfl (fun c4 => ?_) (fun c4 => ?_)
                    · refine rp W 0 rfl rfl rfl (.no (fun q => (hP.1 q.1).2.2.1 ⟨c3, .inl (by omega)⟩))
                    · refine sp W 0 rfl rfl rfl (fun c5 => ?_) (fun c5 => ?_)
                      · refine rp W 0 rfl rfl rfl (.no (fun q => (hP.1 q.1).2.2.1 ⟨c3, .inr trivial⟩))
                      · exact absurd m2 c5
                  · have c3 : ¬ s.getD (n + 1 + j + 1 + 1) 0 = 48 := fun e => c3 (by rw [show ((n : Int) + 1 + (j : Int) + 1 + 1).toNat = n + 1 + j + 1 + 1 by omega]; exact (u8_eq (c := 48)).2 e)
                    have f3 : ¬ (s.getD (n + 1 + j + 1 + 1) 0 = 48 ∧ (1 < k ∨ True)) := fun q => c3 q.1
                    refine sp W 0 rfl rfl rfl (fun c6 => ?_) (fun c6 => ?_)
                    · refine sp W 0 rfl rfl rfl (fun c7 => ?_) (fun c7 => ?_)
                      · rw [show ((n : Int) + 1 + (j : Int) + 1 + 1).toNat = n + 1 + j + 1 + 1 by omega, show (((n : Int) + 1 + (j : Int) + 1 + 1) + (k : Int)).toNat = n + 1 + j + 1 + 1 + k by omega] at c7
                        refine rp W 0 rfl rfl rfl (.no (fun q => (hP.1 q.1).2.2.2.1 ⟨by omega, c7⟩))
                      · rw [show ((n : Int) + 1 + (j : Int) + 1 + 1).toNat = n + 1 + j + 1 + 1 by omega, show (((n : Int) + 1 + (j : Int) + 1 + 1) + (k : Int)).toNat = n + 1 + j + 1 + 1 + k by omega] at c7
                        have f4 : ¬ (k = 3 ∧ ¬ (Op.bytesLess ((s.take (n + 1 + j + 1 + 1 + k)).drop (n + 1 + j + 1 + 1)) [52, 48, 48] = true ∨ (s.take (n + 1 + j + 1 + 1 + k)).drop (n + 1 + j + 1 + 1) = [52, 48, 48])) := fun q => c7 q.2
                        refine rp W 0 rfl rfl rfl (.pr ⟨fun e => ⟨hP.2 ⟨by omega, by omega, f3, f4, by omega⟩, by omega⟩, fun q => by have := (hP.1 q.1).2.2.2.2; omega⟩)
                    · have f4 : ¬ (k = 3 ∧ ¬ (Op.bytesLess ((s.take (n + 1 + j + 1 + 1 + k)).drop (n + 1 + j + 1 + 1)) [52, 48, 48] = true ∨ (s.take (n + 1 + j + 1 + 1 + k)).drop (n + 1 + j + 1 + 1) = [52, 48, 48])) := fun q => by have := q.1; omega
                      refine rp W 0 rfl rfl rfl (.pr ⟨fun e => ⟨hP.2 ⟨by omega, by omega, f3, f4, by omega⟩, by omega⟩, fun q => by have := (hP.1 q.1).2.2.2.2; omega⟩)
                · rw [show ((n : Int) + 1 + (j : Int) + 1).toNat = n + 1 + j + 1 by omega] at m2
                  have hu : s.drop (n + 1 + j + 1) = cutP (s.drop (n + 1 + j + 1)) 45 := cutP_no (by omega) fun e => m2 ((u8_eq (c := 45)).2 e)
                  have hm : False ↔ (s.drop (n + 1 + j + 1)).head? = some 45 := by rw [head_at (by omega)]; exact ⟨False.elim, fun e => m2 ((u8_eq (c := 45)).2 e)⟩
                  rw [← show ((n : Int) + 1 + (j : Int) + 1).toNat = n + 1 + j + 1 by omega] at m2
                  have kr : AFunP Tryd.prog 93 [.str s, .int .i64 ((n : Int) + 1 + (j : Int) + 1)] (· = .int .i64 (run s (n + 1 + j + 1) : Nat)) := by
                    have := l11Run_ok s (n + 1 + j + 1) (by omega) (by omega)
                    rwa [show ((n + 1 + j + 1 : Nat) : Int) = (n : Int) + 1 + (j : Int) + 1 by omega] at this
                  have tr := run_le s (n + 1 + j + 1) (by omega)
                  have hP := hq2.trans (powA_ok (a := n + 1 + j + 1) (m := False) (by omega) hu hm)
                  unfold powA at hP
                  refine ce W 0 rfl rfl (kr) rfl ?_
                  generalize run s (n + 1 + j + 1) = k at *
                  refine sp W 0 rfl rfl rfl (fun c1 => ?_) (fun c1 => ?_)
                  · refine rp W 0 rfl rfl rfl (.no (fun q => (hP.1 q.1).1 (by omega)))
                  refine sp W 0 rfl rfl rfl (fun c2 => ?_) (fun c2 => ?_)
                  · refine rp W 0 rfl rfl rfl (.no (fun q => by have := (hP.1 q.1).2.1; omega))
                  refine sp W 0 rfl rfl rfl (fun c3 => ?_) (fun c3 => ?_)
                  · have c3 : s.getD (n + 1 + j + 1) 0 = 48 := by rw [show ((n : Int) + 1 + (j : Int) + 1).toNat = n + 1 + j + 1 by omega] at c3; exact (u8_eq (c := 48)).1 c3
                    refine sp W 0 rfl rfl rfl (fun c4 => ?_) (fun c4 => ?_)
                    · refine rp W 0 rfl rfl rfl (.no (fun q => (hP.1 q.1).2.2.1 ⟨c3, .inl (by omega)⟩))
                    · refine sp W 0 rfl rfl rfl (fun c5 => ?_) (fun c5 => ?_)
                      · exact absurd c5 m2
                      · have f3 : ¬ (s.getD (n + 1 + j + 1) 0 = 48 ∧ (1 < k ∨ False)) := fun q => q.2.elim (fun q => by omega) id
                        refine sp W 0 rfl rfl rfl (fun c6 => ?_) (fun c6 => ?_)
                        · refine sp W 0 rfl rfl rfl (fun c7 => ?_) (fun c7 => ?_)
                          · rw [show ((n : Int) + 1 + (j : Int) + 1).toNat = n + 1 + j + 1 by omega, show (((n : Int) + 1 + (j : Int) + 1) + (k : Int)).toNat = n + 1 + j + 1 + k by omega] at c7
                            refine rp W 0 rfl rfl rfl (.no (fun q => (hP.1 q.1).2.2.2.1 ⟨by omega, c7⟩))
                          · rw [show ((n : Int) + 1 + (j : Int) + 1).toNat = n + 1 + j + 1 by omega, show (((n : Int) + 1 + (j : Int) + 1) + (k : Int)).toNat = n + 1 + j + 1 + k by omega] at c7
                            have f4 : ¬ (k = 3 ∧ ¬ (Op.bytesLess ((s.take (n + 1 + j + 1 + k)).drop (n + 1 + j + 1)) [52, 48, 48] = true ∨ (s.take (n + 1 + j + 1 + k)).drop (n + 1 + j + 1) = [52, 48, 48])) := fun q => c7 q.2
                            refine rp W 0 rfl rfl rfl (.pr ⟨fun e => ⟨hP.2 ⟨by omega, by omega, f3, f4, by omega⟩, by omega⟩, fun q => by have := (hP.1 q.1).2.2.2.2; omega⟩)
                        · have f4 : ¬ (k = 3 ∧ ¬ (Op.bytesLess ((s.take (n + 1 + j + 1 + k)).drop (n + 1 + j + 1)) [52, 48, 48] = true ∨ (s.take (n + 1 + j + 1 + k)).drop (n + 1 + j + 1) = [52, 48, 48])) := fun q => by have := q.1; omega
                          refine rp W 0 rfl rfl rfl (.pr ⟨fun e => ⟨hP.2 ⟨by omega, by omega, f3, f4, by omega⟩, by omega⟩, fun q => by have := (hP.1 q.1).2.2.2.2; omega⟩)
                  · have c3 : ¬ s.getD (n + 1 + j + 1) 0 = 48 := fun e => c3 (by rw [show ((n : Int) + 1 + (j : Int) + 1).toNat = n + 1 + j + 1 by omega]; exact (u8_eq (c := 48)).2 e)
                    have f3 : ¬ (s.getD (n + 1 + j + 1) 0 = 48 ∧ (1 < k ∨ False)) := fun q => c3 q.1
                    refine sp W 0 rfl rfl rfl (fun c6 => ?_) (fun c6 => ?_)
                    · refine sp W 0 rfl rfl rfl (fun c7 => ?_) (fun c7 => ?_)
                      · rw [show ((n : Int) + 1 + (j : Int) + 1).toNat = n + 1 + j + 1 by omega, show (((n : Int) + 1 + (j : Int) + 1) + (k : Int)).toNat = n + 1 + j + 1 + k by omega] at c7
                        refine rp W 0 rfl rfl rfl (.no (fun q => (hP.1 q.1).2.2.2.1 ⟨by omega, c7⟩))
                      · rw [show ((n : Int) + 1 + (j : Int) + 1).toNat = n + 1 + j + 1 by omega, show (((n : Int) + 1 + (j : Int) + 1) + (k : Int)).toNat = n + 1 + j + 1 + k by omega] at c7
                        have f4 : ¬ (k = 3 ∧ ¬ (Op.bytesLess ((s.take (n + 1 + j + 1 + k)).drop (n + 1 + j + 1)) [52, 48, 48] = true ∨ (s.take (n + 1 + j + 1 + k)).drop (n + 1 + j + 1) = [52, 48, 48])) := fun q => c7 q.2
                        refine rp W 0 rfl rfl rfl (.pr ⟨fun e => ⟨hP.2 ⟨by omega, by omega, f3, f4, by omega⟩, by omega⟩, fun q => by have := (hP.1 q.1).2.2.2.2; omega⟩)
                    · have f4 : ¬ (k = 3 ∧ ¬ (Op.bytesLess ((s.take (n + 1 + j + 1 + k)).drop (n + 1 + j + 1)) [52, 48, 48] = true ∨ (s.take (n + 1 + j + 1 + k)).drop (n + 1 + j + 1) = [52, 48, 48])) := fun q => by have := q.1; omega
                      refine rp W 0 rfl rfl rfl (.pr ⟨fun e => ⟨hP.2 ⟨by omega, by omega, f3, f4, by omega⟩, by omega⟩, fun q => by have := (hP.1 q.1).2.2.2.2; omega⟩)
              · have e0 : s.drop (n + 1 + j + 1) = [] := List.drop_eq_nil_iff.2 (by omega)
                have hu : s.drop (n + 1 + j + 1) = cutP (s.drop (n + 1 + j + 1)) 45 := by rw [e0]; rfl
                have hm : False ↔ (s.drop (n + 1 + j + 1)).head? = some 45 := by rw [e0]; simp
                have kr : AFunP Tryd.prog 93 [.str s, .int .i64 ((n : Int) + 1 + (j : Int) + 1)] (· = .int .i64 (run s (n + 1 + j + 1) : Nat)) := by
                  have := l11Run_ok s (n + 1 + j + 1) (by omega) (by omega)
                  rwa [show ((n + 1 + j + 1 : Nat) : Int) = (n : Int) + 1 + (j : Int) + 1 by omega] at this
                have tr := run_le s (n + 1 + j + 1) (by omega)
                have hP := hq2.trans (powA_ok (a := n + 1 + j + 1) (m := False) (by omega) hu hm)
                unfold powA at hP
                refine ce W 0 rfl rfl (kr) rfl ?_
                generalize run s (n + 1 + j + 1) = k at *
                refine sp W 0 rfl rfl rfl (fun c1 => ?_) (fun c1 => ?_)
                · refine rp W 0 rfl rfl rfl (.no (fun q => (hP.1 q.1).1 (by omega)))
                refine sp W 0 rfl rfl rfl (fun c2 => ?_) (fun c2 => ?_)
                · refine rp W 0 rfl rfl rfl (.no (fun q => by have := (hP.1 q.1).2.1; omega))
                refine sp W 0 rfl rfl rfl (fun c3 => ?_) (fun c3 => ?_)
                · have c3 : s.getD (n + 1 + j + 1) 0 = 48 := by rw [show ((n : Int) + 1 + (j : Int) + 1).toNat = n + 1 + j + 1 by omega] at c3; exact (u8_eq (c := 48)).1 c3
                  refine sp W 0 rfl rfl rfl (fun c4 => ?_) (fun c4 => ?_)
                  · refine rp W 0 rfl rfl rfl (.no (fun q => (hP.1 q.1).2.2.1 ⟨c3, .inl (by omega)⟩))
                  · have f3 : ¬ (s.getD (n + 1 + j + 1) 0 = 48 ∧ (1 < k ∨ False)) := fun q => q.2.elim (fun q => by omega) id
                    refine sp W 0 rfl rfl rfl (fun c6 => ?_) (fun c6 => ?_)
                    · refine sp W 0 rfl rfl rfl (fun c7 => ?_) (fun c7 => ?_)
                      · rw [show ((n : Int) + 1 + (j : Int) + 1).toNat = n + 1 + j + 1 by omega, show (((n : Int) + 1 + (j : Int) + 1) + (k : Int)).toNat = n + 1 + j + 1 + k by omega] at c7
                        refine rp W 0 rfl rfl rfl (.no (fun q => (hP.1 q.1).2.2.2.1 ⟨by omega, c7⟩))
                      · rw [show ((n : Int) + 1 + (j : Int) + 1).toNat = n + 1 + j + 1 by omega, show (((n : Int) + 1 + (j : Int) + 1) + (k : Int)).toNat = n + 1 + j + 1 + k by omega] at c7
                        have f4 : ¬ (k = 3 ∧ ¬ (Op.bytesLess ((s.take (n + 1 + j + 1 + k)).drop (n + 1 + j + 1)) [52, 48, 48] = true ∨ (s.take (n + 1 + j + 1 + k)).drop (n + 1 + j + 1) = [52, 48, 48])) := fun q => c7 q.2
                        refine rp W 0 rfl rfl rfl (.pr ⟨fun e => ⟨hP.2 ⟨by omega, by omega, f3, f4, by omega⟩, by omega⟩, fun q => by have := (hP.1 q.1).2.2.2.2; omega⟩)
                    · have f4 : ¬ (k = 3 ∧ ¬ (Op.bytesLess ((s.take (n + 1 + j + 1 + k)).drop (n + 1 + j + 1)) [52, 48, 48] = true ∨ (s.take (n + 1 + j + 1 + k)).drop (n + 1 + j + 1) = [52, 48, 48])) := fun q => by have := q.1; omega
                      refine rp W 0 rfl rfl rfl (.pr ⟨fun e => ⟨hP.2 ⟨by omega, by omega, f3, f4, by omega⟩, by omega⟩, fun q => by have := (hP.1 q.1).2.2.2.2; omega⟩)
                · have c3 : ¬ s.getD (n + 1 + j + 1) 0 = 48 := fun e => c3 (by rw [show ((n : Int) + 1 + (j : Int) + 1).toNat = n + 1 + j + 1 by omega]; exact (u8_eq (c := 48)).2 e)
                  have f3 : ¬ (s.getD (n + 1 + j + 1) 0 = 48 ∧ (1 < k ∨ False)) := fun q => c3 q.1
                  refine sp W 0 rfl rfl rfl (fun c6 => ?_) (fun c6 => ?_)
                  · refine sp W 0 rfl rfl rfl (fun c7 => ?_) (fun c7 => ?_)
                    · rw [show ((n : Int) + 1 + (j : Int) + 1).toNat = n + 1 + j + 1 by omega, show (((n : Int) + 1 + (j : Int) + 1) + (k : Int)).toNat = n + 1 + j + 1 + k by omega] at c7
                      refine rp W 0 rfl rfl rfl (.no (fun q => (hP.1 q.1).2.2.2.1 ⟨by omega, c7⟩))
                    · rw [show ((n : Int) + 1 + (j : Int) + 1).toNat = n + 1 + j + 1 by omega, show (((n : Int) + 1 + (j : Int) + 1) + (k : Int)).toNat = n + 1 + j + 1 + k by omega] at c7
                      have f4 : ¬ (k = 3 ∧ ¬ (Op.bytesLess ((s.take (n + 1 + j + 1 + k)).drop (n + 1 + j + 1)) [52, 48, 48] = true ∨ (s.take (n + 1 + j + 1 + k)).drop (n + 1 + j + 1) = [52, 48, 48])) := fun q => c7 q.2
                      refine rp W 0 rfl rfl rfl (.pr ⟨fun e => ⟨hP.2 ⟨by omega, by omega, f3, f4, by omega⟩, by omega⟩, fun q => by have := (hP.1 q.1).2.2.2.2; omega⟩)
                  · have f4 : ¬ (k = 3 ∧ ¬ (Op.bytesLess ((s.take (n + 1 + j + 1 + k)).drop (n + 1 + j + 1)) [52, 48, 48] = true ∨ (s.take (n + 1 + j + 1 + k)).drop (n + 1 + j + 1) = [52, 48, 48])) := fun q => by have := q.1; omega
                    refine rp W 0 rfl rfl rfl (.pr ⟨fun e => ⟨hP.2 ⟨by omega, by omega, f3, f4, by omega⟩, by omega⟩, fun q => by have := (hP.1 q.1).2.2.2.2; omega⟩)
            · rw [show ((n : Int) + 1 + (j : Int)).toNat = n + 1 + j by omega] at p4
              have hn : ¬ numE s := fun e => powE_no (by omega) (fun e => p4 ((u8_eq (c := 101)).2 e)) (hq.1 e)
              refine rp W 0 rfl rfl rfl (.pr ⟨fun e => by omega, fun e => absurd e.1 hn⟩)
          · have hn : numE s := hq.2 (powE_nil (by omega))
            refine rp W 0 rfl rfl rfl (.pr ⟨fun e => ⟨hn, by omega⟩, fun e => by omega⟩)
        · rw [show (n : Int).toNat = n by omega] at p2
          have hq : numE s ↔ powE (s.drop n) := by
            refine hq0.trans ?_
            rw [← r0, fracE_no fun e => p2 ((u8_eq (c := 46)).2 e)]
          refine sp W 0 rfl rfl rfl (fun p3 => ?_) (fun p3 => ?_)
          · refine sp W 0 rfl rfl rfl (fun p4 => ?_) (fun p4 => ?_)
            · rw [show ((n : Int)).toNat = n by omega] at p4
              have hq2 : numE s ↔ powE1 (s.drop (n + 1)) := hq.trans (powE_yes (by omega) ((u8_eq (c := 101)).1 p4))
              refine sp W 0 rfl rfl rfl (fun m1 => ?_) (fun m1 => ?_)
              · refine sp W 0 rfl rfl rfl (fun m2 => ?_) (fun m2 => ?_)
                · rw [show ((n : Int) + 1).toNat = n + 1 by omega] at m2
                  have hu : s.drop (n + 1 + 1) = cutP (s.drop (n + 1)) 45 := cutP_yes (by omega) ((u8_eq (c := 45)).1 m2)
                  have hm : True ↔ (s.drop (n + 1)).head? = some 45 := by rw [head_at (by omega)]; exact ⟨fun _ => (u8_eq (c := 45)).1 m2, fun _ => trivial⟩
                  rw [← show ((n : Int) + 1).toNat = n + 1 by omega] at m2
                  have kr : AFunP Tryd.prog 93 [.str s, .int .i64 ((n : Int) + 1 + 1)] (· = .int .i64 (run s (n + 1 + 1) : Nat)) := by
                    have := l11Run_ok s (n + 1 + 1) (by omega) (by omega)
                    rwa [show ((n + 1 + 1 : Nat) : Int) = (n : Int) + 1 + 1 by omega] at this
                  have tr := run_le s (n + 1 + 1) (by omega)
                  have hP := hq2.trans (powA_ok (a := n + 1 + 1) (m := True) (by omega) hu hm)
                  unfold powA at hP
                  refine ce W 0 rfl rfl (kr) rfl ?_
                  generalize run s (n + 1 + 1) = k at *
                  refine sp W 0 rfl rfl rfl (fun c1 => ?_) (fun c1 => ?_)
                  · refine rp W 0 rfl rfl rfl (.no (fun q => (hP.1 q.1).1 (by omega)))
                  refine sp W 0 rfl rfl rfl (fun c2 => ?_) (fun c2 => ?_)
                  · refine rp W 0 rfl rfl rfl (.no (fun q => by have := (hP.1 q.1).2.1; omega))
                  refine sp W 0 rfl rfl rfl (fun c3 => ?_) (fun c3 => ?_)
                  · have c3 : s.getD (n + 1 + 1) 0 = 48 := by rw [show ((n : Int) + 1 + 1).toNat = n + 1 + 1 by omega] at c3; exact (u8_eq (c := 48)).1 c3
                    refine sp W 0 rfl rfl rfl (fun c4 => ?_) (fun c4 => ?_)
                    · refine rp W 0 rfl rfl rfl (.no (fun q => (hP.1 q.1).2.2.1 ⟨c3, .inl (by omega)⟩))
                    · refine sp W 0 rfl rfl rfl (fun c5 => ?_) (fun c5 => ?_)
                      · refine rp W 0 rfl rfl rfl (.no (fun q => (hP.1 q.1).2.2.1 ⟨c3, .inr trivial⟩))
                      · exact absurd m2 c5
                  · have c3 : ¬ s.getD (n + 1 + 1) 0 = 48 := fun e => c3 (by rw [show ((n : Int) + 1 + 1).toNat = n + 1 + 1 by omega]; exact (u8_eq (c := 48)).2 e)
                    have f3 : ¬ (s.getD (n + 1 + 1) 0 = 48 ∧ (1 < k ∨ True)) := fun q => c3 q.1
                    refine sp W 0 rfl rfl rfl (fun c6 => ?_) (fun c6 => ?_)
                    · refine sp W 0 rfl rfl rfl (fun c7 => ?_) (fun c7 => ?_)
                      · rw [show ((n : Int) + 1 + 1).toNat = n + 1 + 1 by omega, show (((n : Int) + 1 + 1) + (k : Int)).toNat = n + 1 + 1 + k by omega] at c7
                        refine rp W 0 rfl rfl rfl (.no (fun q => (hP.1 q.1).2.2.2.1 ⟨by omega, c7⟩))
                      · rw [show ((n : Int) + 1 + 1).toNat = n + 1 + 1 by omega, show (((n : Int) + 1 + 1) + (k : Int)).toNat = n + 1 + 1 + k by omega] at c7
                        have f4 : ¬ (k = 3 ∧ ¬ (Op.bytesLess ((s.take (n + 1 + 1 + k)).drop (n + 1 + 1)) [52, 48, 48] = true ∨ (s.take (n + 1 + 1 + k)).drop (n + 1 + 1) = [52, 48, 48])) := fun q => c7 q.2
                        refine rp W 0 rfl rfl rfl (.pr ⟨fun e => ⟨hP.2 ⟨by omega, by omega, f3, f4, by omega⟩, by omega⟩, fun q => by have := (hP.1 q.1).2.2.2.2; omega⟩)
                    · have f4 : ¬ (k = 3 ∧ ¬ (Op.bytesLess ((s.take (n + 1 + 1 + k)).drop (n + 1 + 1)) [52, 48, 48] = true ∨ (s.take (n + 1 + 1 + k)).drop (n + 1 + 1) = [52, 48, 48])) := fun q => by have := q.1; omega
                      refine rp W 0 rfl rfl rfl (.pr ⟨fun e => ⟨hP.2 ⟨by omega, by omega, f3, f4, by omega⟩, by omega⟩, fun q => by have := (hP.1 q.1).2.2.2.2; omega⟩)
                · rw [show ((n : Int) + 1).toNat = n + 1 by omega] at m2
                  have hu : s.drop (n + 1) = cutP (s.drop (n + 1)) 45 := cutP_no (by omega) fun e => m2 ((u8_eq (c := 45)).2 e)
                  have hm : False ↔ (s.drop (n + 1)).head? = some 45 := by rw [head_at (by omega)]; exact ⟨False.elim, fun e => m2 ((u8_eq (c := 45)).2 e)⟩
                  rw [← show ((n : Int) + 1).toNat = n + 1 by omega] at m2
                  have kr : AFunP Tryd.prog 93 [.str s, .int .i64 ((n : Int) + 1)] (· = .int .i64 (run s (n + 1) : Nat)) := by
                    have := l11Run_ok s (n + 1) (by omega) (by omega)
                    rwa [show ((n + 1 : Nat) : Int) = (n : Int) + 1 by omega] at this
                  have tr := run_le s (n + 1) (by omega)
                  have hP := hq2.trans (powA_ok (a := n + 1) (m := False) (by omega) hu hm)
                  unfold powA at hP
                  refine ce W 0 rfl rfl (kr) rfl ?_
                  generalize run s (n + 1) = k at *
                  refine sp W 0 rfl rfl rfl (fun c1 => ?_) (fun c1 => ?_)
                  · refine rp W 0 rfl rfl rfl (.no (fun q => (hP.1 q.1).1 (by omega)))
                  refine sp W 0 rfl rfl rfl (fun c2 => ?_) (fun c2 => ?_)
                  · refine rp W 0 rfl rfl rfl (.no (fun q => by have := (hP.1 q.1).2.1; omega))
                  refine sp W 0 rfl rfl rfl (fun c3 => ?_) (fun c3 => ?_)
                  · have c3 : s.getD (n + 1) 0 = 48 := by rw [show ((n : Int) + 1).toNat = n + 1 by omega] at c3; exact (u8_eq (c := 48)).1 c3
                    refine sp W 0 rfl rfl rfl (fun c4 => ?_) (fun c4 => ?_)
                    · refine rp W 0 rfl rfl rfl (.no (fun q => (hP.1 q.1).2.2.1 ⟨c3, .inl (by omega)⟩))
                    · refine sp W 0 rfl rfl rfl (fun c5 => ?_) (fun c5 => ?_)
                      · exact absurd c5 m2
                      · have f3 : ¬ (s.getD (n + 1) 0 = 48 ∧ (1 < k ∨ False)) := fun q => q.2.elim (fun q => by omega) id
                        refine sp W 0 rfl rfl rfl (fun c6 => ?_) (fun c6 => ?_)
                        · refine sp W 0 rfl rfl rfl (fun c7 => ?_) (fun c7 => ?_)
                          · rw [show ((n : Int) + 1).toNat = n + 1 by omega, show (((n : Int) + 1) + (k : Int)).toNat = n + 1 + k by omega] at c7
                            refine rp W 0 rfl rfl rfl (.no (fun q => (hP.1 q.1).2.2.2.1 ⟨by omega, c7⟩))
                          · rw [show ((n : Int) + 1).toNat = n + 1 by omega, show (((n : Int) + 1) + (k : Int)).toNat = n + 1 + k by omega] at c7
                            have f4 : ¬ (k = 3 ∧ ¬ (Op.bytesLess ((s.take (n + 1 + k)).drop (n + 1)) [52, 48, 48] = true ∨ (s.take (n + 1 + k)).drop (n + 1) = [52, 48, 48])) := fun q => c7 q.2
                            refine rp W 0 rfl rfl rfl (.pr ⟨fun e => ⟨hP.2 ⟨by omega, by omega, f3, f4, by omega⟩, by omega⟩, fun q => by have := (hP.1 q.1).2.2.2.2; omega⟩)
                        · have f4 : ¬ (k = 3 ∧ ¬ (Op.bytesLess ((s.take (n + 1 + k)).drop (n + 1)) [52, 48, 48] = true ∨ (s.take (n + 1 + k)).drop (n + 1) = [52, 48, 48])) := fun q => by have := q.1; omega
                          refine rp W 0 rfl rfl rfl (.pr ⟨fun e => ⟨hP.2 ⟨by omega, by omega, f3, f4, by omega⟩, by omega⟩, fun q => by have := (hP.1 q.1).2.2.2.2; omega⟩)
                  · have c3 : ¬ s.getD (n + 1) 0 = 48 := fun e => c3 (by rw [show ((n : Int) + 1).toNat = n + 1 by omega]; exact (u8_eq (c := 48)).2 e)
                    have f3 : ¬ (s.getD (n + 1) 0 = 48 ∧ (1 < k ∨ False)) := fun q => c3 q.1
                    refine sp W 0 rfl rfl rfl (fun c6 => ?_) (fun c6 => ?_)
                    · refine sp W 0 rfl rfl rfl (fun c7 => ?_) (fun c7 => ?_)
                      · rw [show ((n : Int) + 1).toNat = n + 1 by omega, show (((n : Int) + 1) + (k : Int)).toNat = n + 1 + k by omega] at c7
                        refine rp W 0 rfl rfl rfl (.no (fun q => (hP.1 q.1).2.2.2.1 ⟨by omega, c7⟩))
                      · rw [show ((n : Int) + 1).toNat = n + 1 by omega, show (((n : Int) + 1) + (k : Int)).toNat = n + 1 + k by omega] at c7
                        have f4 : ¬ (k = 3 ∧ ¬ (Op.bytesLess ((s.take (n + 1 + k)).drop (n + 1)) [52, 48, 48] = true ∨ (s.take (n + 1 + k)).drop (n + 1) = [52, 48, 48])) := fun q => c7 q.2
                        refine rp W 0 rfl rfl rfl (.pr ⟨fun e => ⟨hP.2 ⟨by omega, by omega, f3, f4, by omega⟩, by omega⟩, fun q => by have := (hP.1 q.1).2.2.2.2; omega⟩)
                    · have f4 : ¬ (k = 3 ∧ ¬ (Op.bytesLess ((s.take (n + 1 + k)).drop (n + 1)) [52, 48, 48] = true ∨ (s.take (n + 1 + k)).drop (n + 1) = [52, 48, 48])) := fun q => by have := q.1; omega
                      refine rp W 0 rfl rfl rfl (.pr ⟨fun e => ⟨hP.2 ⟨by omega, by omega, f3, f4, by omega⟩, by omega⟩, fun q => by have := (hP.1 q.1).2.2.2.2; omega⟩)
              · have e0 : s.drop (n + 1) = [] := List.drop_eq_nil_iff.2 (by omega)
                have hu : s.drop (n + 1) = cutP (s.drop (n + 1)) 45 := by rw [e0]; rfl
                have hm : False ↔ (s.drop (n + 1)).head? = some 45 := by rw [e0]; simp
                have kr : AFunP Tryd.prog 93 [.str s, .int .i64 ((n : Int) + 1)] (· = .int .i64 (run s (n + 1) : Nat)) := by
                  have := l11Run_ok s (n + 1) (by omega) (by omega)
                  rwa [show ((n + 1 : Nat) : Int) = (n : Int) + 1 by omega] at this
                have tr := run_le s (n + 1) (by omega)
                have hP := hq2.trans (powA_ok (a := n + 1) (m := False) (by omega) hu hm)
                unfold powA at hP
                refine ce W 0 rfl rfl (kr) rfl ?_
                generalize run s (n + 1) = k at *
                refine sp W 0 rfl rfl rfl (fun c1 => ?_) (fun c1 => ?_)
                · refine rp W 0 rfl rfl rfl (.no (fun q => (hP.1 q.1).1 (by omega)))
                refine sp W 0 rfl rfl rfl (fun c2 => ?_) (fun c2 => ?_)
                · refine rp W 0 rfl rfl rfl (.no (fun q => by have := (hP.1 q.1).2.1; omega))
                refine sp W 0 rfl rfl rfl (fun c3 => ?_) (fun c3 => ?_)
                · have c3 : s.getD (n + 1) 0 = 48 := by rw [show ((n : Int) + 1).toNat = n + 1 by omega] at c3; exact (u8_eq (c := 48)).1 c3
                  refine sp W 0 rfl rfl rfl (fun c4 => ?_) (fun c4 => ?_)
                  · refine rp W 0 rfl rfl rfl (.no (fun q => (hP.1 q.1).2.2.1 ⟨c3, .inl (by omega)⟩))
                  · have f3 : ¬ (s.getD (n + 1) 0 = 48 ∧ (1 < k ∨ False)) := fun q => q.2.elim (fun q => by omega) id
                    refine sp W 0 rfl rfl rfl (fun c6 => ?_) (fun c6 => ?_)
                    · refine sp W 0 rfl rfl rfl (fun c7 => ?_) (fun c7 => ?_)
                      · rw [show ((n : Int) + 1).toNat = n + 1 by omega, show (((n : Int) + 1) + (k : Int)).toNat = n + 1 + k by omega] at c7
                        refine rp W 0 rfl rfl rfl (.no (fun q => (hP.1 q.1).2.2.2.1 ⟨by omega, c7⟩))
                      · rw [show ((n : Int) + 1).toNat = n + 1 by omega, show (((n : Int) + 1) + (k : Int)).toNat = n + 1 + k by omega] at c7
                        have f4 : ¬ (k = 3 ∧ ¬ (Op.bytesLess ((s.take (n + 1 + k)).drop (n + 1)) [52, 48, 48] = true ∨ (s.take (n + 1 + k)).drop (n + 1) = [52, 48, 48])) := fun q => c7 q.2
                        refine rp W 0 rfl rfl rfl (.pr ⟨fun e => ⟨hP.2 ⟨by omega, by omega, f3, f4, by omega⟩, by omega⟩, fun q => by have := (hP.1 q.1).2.2.2.2; omega⟩)
                    · have f4 : ¬ (k = 3 ∧ ¬ (Op.bytesLess ((s.take (n + 1 + k)).drop (n + 1)) [52, 48, 48] = true ∨ (s.take (n + 1 + k)).drop (n + 1) = [52, 48, 48])) := fun q => by have := q.1; omega
                      refine rp W 0 rfl rfl rfl (.pr ⟨fun e => ⟨hP.2 ⟨by omega, by omega, f3, f4, by omega⟩, by omega⟩, fun q => by have := (hP.1 q.1).2.2.2.2; omega⟩)
                · have c3 : ¬ s.getD (n + 1) 0 = 48 := fun e => c3 (by rw [show ((n : Int) + 1).toNat = n + 1 by omega]; exact (u8_eq (c := 48)).2 e)
                  have f3 : ¬ (s.getD (n + 1) 0 = 48 ∧ (1 < k ∨ False)) := fun q => c3 q.1
                  refine sp W 0 rfl rfl rfl (fun c6 => ?_) (fun c6 => ?_)
                  · refine sp W 0 rfl rfl rfl (fun c7 => ?_) (fun c7 => ?_)
                    · rw [show ((n : Int) + 1).toNat = n + 1 by omega, show (((n : Int) + 1) + (k : Int)).toNat = n + 1 + k by omega] at c7
                      refine rp W 0 rfl rfl rfl (.no (fun q => (hP.1 q.1).2.2.2.1 ⟨by omega, c7⟩))
                    · rw [show ((n : Int) + 1).toNat = n + 1 by omega, show (((n : Int) + 1) + (k : Int)).toNat = n + 1 + k by omega] at c7
                      have f4 : ¬ (k = 3 ∧ ¬ (Op.bytesLess ((s.take (n + 1 + k)).drop (n + 1)) [52, 48, 48] = true ∨ (s.take (n + 1 + k)).drop (n + 1) = [52, 48, 48])) := fun q => c7 q.2
                      refine rp W 0 rfl rfl rfl (.pr ⟨fun e => ⟨hP.2 ⟨by omega, by omega, f3, f4, by omega⟩, by omega⟩, fun q => by have := (hP.1 q.1).2.2.2.2; omega⟩)
                  · have f4 : ¬ (k = 3 ∧ ¬ (Op.bytesLess ((s.take (n + 1 + k)).drop (n + 1)) [52, 48, 48] = true ∨ (s.take (n + 1 + k)).drop (n + 1) = [52, 48, 48])) := fun q => by have := q.1; omega
                    refine rp W 0 rfl rfl rfl (.pr ⟨fun e => ⟨hP.2 ⟨by omega, by omega, f3, f4, by omega⟩, by omega⟩, fun q => by have := (hP.1 q.1).2.2.2.2; omega⟩)
            · rw [show ((n : Int)).toNat = n by omega] at p4
              have hn : ¬ numE s := fun e => powE_no (by omega) (fun e => p4 ((u8_eq (c := 101)).2 e)) (hq.1 e)
              refine rp W 0 rfl rfl rfl (.pr ⟨fun e => by omega, fun e => absurd e.1 hn⟩)
          · have hn : numE s := hq.2 (powE_nil (by omega))
            refine rp W 0 rfl rfl rfl (.pr ⟨fun e => ⟨hn, by omega⟩, fun e => by omega⟩)
      · have hq : numE s ↔ powE (s.drop n) := by
          refine hq0.trans ?_
          rw [← r0, show s.drop n = [] from List.drop_eq_nil_iff.2 (by omega)]
          simp [fracE]
        refine sp W 0 rfl rfl rfl (fun p3 => ?_) (fun p3 => ?_)
        · refine sp W 0 rfl rfl rfl (fun p4 => ?_) (fun p4 => ?_)
          · rw [show ((n : Int)).toNat = n by omega] at p4
            have hq2 : numE s ↔ powE1 (s.drop (n + 1)) := hq.trans (powE_yes (by omega) ((u8_eq (c := 101)).1 p4))
            refine sp W 0 rfl rfl rfl (fun m1 => ?_) (fun m1 => ?_)
            · refine sp W 0 rfl rfl rfl (fun m2 => ?_) (fun m2 => ?_)
              · rw [show ((n : Int) + 1).toNat = n + 1 by omega] at m2
                have hu : s.drop (n + 1 + 1) = cutP (s.drop (n + 1)) 45 := cutP_yes (by omega) ((u8_eq (c := 45)).1 m2)
                have hm : True ↔ (s.drop (n + 1)).head? = some 45 := by rw [head_at (by omega)]; exact ⟨fun _ => (u8_eq (c := 45)).1 m2, fun _ => trivial⟩
                rw [← show ((n : Int) + 1).toNat = n + 1 by omega] at m2
                have kr : AFunP Tryd.prog 93 [.str s, .int .i64 ((n : Int) + 1 + 1)] (· = .int .i64 (run s (n + 1 + 1) : Nat)) := by
                  have := l11Run_ok s (n + 1 + 1) (by omega) (by omega)
                  rwa [show ((n + 1 + 1 : Nat) : Int) = (n : Int) + 1 + 1 by omega] at this
                have tr := run_le s (n + 1 + 1) (by omega)
                have hP := hq2.trans (powA_ok (a := n + 1 + 1) (m := True) (by omega) hu hm)
                unfold powA at hP
                refine ce W 0 rfl rfl (kr) rfl ?_
                generalize run s (n + 1 + 1) = k at *
                refine sp W 0 rfl rfl rfl (fun c1 => ?_) (fun c1 => ?_)
                · refine rp W 0 rfl rfl rfl (.no (fun q => (hP.1 q.1).1 (by omega)))
                refine sp W 0 rfl rfl rfl (fun c2 => ?_) (fun c2 => ?_)
                · refine rp W 0 rfl rfl rfl (.no (fun q => by have := (hP.1 q.1).2.1; omega))
                refine sp W 0 rfl rfl rfl (fun c3 => ?_) (fun c3 => ?_)
                · have c3 : s.getD (n + 1 + 1) 0 = 48 := by rw [show ((n : Int) + 1 + 1).toNat = n + 1 + 1 by omega] at c3; exact (u8_eq (c := 48)).1 c3
                  refine sp W 0 rfl rfl rfl (fun c4 => ?_) (fun c4 => ?_)
                  · refine rp W 0 rfl rfl rfl (.no (fun q => (hP.1 q.1).2.2.1 ⟨c3, .inl (by omega)⟩))
                  · refine sp W 0 rfl rfl rfl (fun c5 => ?_) (fun c5 => ?_)
                    · refine rp W 0 rfl rfl rfl (.no (fun q => (hP.1 q.1).2.2.1 ⟨c3, .inr trivial⟩))
                    · exact absurd m2 c5
                · have c3 : ¬ s.getD (n + 1 + 1) 0 = 48 := fun e => c3 (by rw [show ((n : Int) + 1 + 1).toNat = n + 1 + 1 by omega]; exact (u8_eq (c := 48)).2 e)
                  have f3 : ¬ (s.getD (n + 1 + 1) 0 = 48 ∧ (1 < k ∨ True)) := fun q => c3 q.1
                  refine sp W 0 rfl rfl rfl (fun c6 => ?_) (fun c6 => ?_)
                  · refine sp W 0 rfl rfl rfl (fun c7 => ?_) (fun c7 => ?_)
                    · rw [show ((n : Int) + 1 + 1).toNat = n + 1 + 1 by omega, show (((n : Int) + 1 + 1) + (k : Int)).toNat = n + 1 + 1 + k by omega] at c7
                      refine rp W 0 rfl rfl rfl (.no (fun q => (hP.1 q.1).2.2.2.1 ⟨by omega, c7⟩))
                    · rw [show ((n : Int) + 1 + 1).toNat = n + 1 + 1 by omega, show (((n : Int) + 1 + 1) + (k : Int)).toNat = n + 1 + 1 + k by omega] at c7
                      have f4 : ¬ (k = 3 ∧ ¬ (Op.bytesLess ((s.take (n + 1 + 1 + k)).drop (n + 1 + 1)) [52, 48, 48] = true ∨ (s.take (n + 1 + 1 + k)).drop (n + 1 + 1) = [52, 48, 48])) := fun q => c7 q.2
                      refine rp W 0 rfl rfl rfl (.pr ⟨fun e => ⟨hP.2 ⟨by omega, by omega, f3, f4, by omega⟩, by omega⟩, fun q => by have := (hP.1 q.1).2.2.2.2; omega⟩)
                  · have f4 : ¬ (k = 3 ∧ ¬ (Op.bytesLess ((s.take (n + 1 + 1 + k)).drop (n + 1 + 1)) [52, 48, 48] = true ∨ (s.take (n + 1 + 1 + k)).drop (n + 1 + 1) = [52, 48, 48])) := fun q => by have := q.1; omega
                    refine rp W 0 rfl rfl rfl (.pr ⟨fun e => ⟨hP.2 ⟨by omega, by omega, f3, f4, by omega⟩, by omega⟩, fun q => by have := (hP.1 q.1).2.2.2.2; omega⟩)
              · rw [show ((n : Int) + 1).toNat = n + 1 by omega] at m2
                have hu : s.drop (n + 1) = cutP (s.drop (n + 1)) 45 := cutP_no (by omega) fun e => m2 ((u8_eq (c := 45)).2 e)
                have hm : False ↔ (s.drop (n + 1)).head? = some 45 := by rw [head_at (by omega)]; exact ⟨False.elim, fun e => m2 ((u8_eq (c := 45)).2 e)⟩
                rw [← show ((n : Int) + 1).toNat = n + 1 by omega] at m2
                have kr : AFunP Tryd.prog 93 [.str s, .int .i64 ((n : Int) + 1)] (· = .int .i64 (run s (n + 1) : Nat)) := by
                  have := l11Run_ok s (n + 1) (by omega) (by omega)
                  rwa [show ((n + 1 : Nat) : Int) = (n : Int) + 1 by omega] at this
                have tr := run_le s (n + 1) (by omega)
                have hP := hq2.trans (powA_ok (a := n + 1) (m := False) (by omega) hu hm)
                unfold powA at hP
                refine ce W 0 rfl rfl (kr) rfl ?_
                generalize run s (n + 1) = k at *
                refine sp W 0 rfl rfl rfl (fun c1 => ?_) (fun c1 => ?_)
                · refine rp W 0 rfl rfl rfl (.no (fun q => (hP.1 q.1).1 (by omega)))
                refine sp W 0 rfl rfl rfl (fun c2 => ?_) (fun c2 => ?_)
                · refine rp W 0 rfl rfl rfl (.no (fun q => by have := (hP.1 q.1).2.1; omega))
                refine sp W 0 rfl rfl rfl (fun c3 => ?_) (fun c3 => ?_)
                · have c3 : s.getD (n + 1) 0 = 48 := by rw [show ((n : Int) + 1).toNat = n + 1 by omega] at c3; exact (u8_eq (c := 48)).1 c3
                  refine sp W 0 rfl rfl rfl (fun c4 => ?_) (fun c4 => ?_)
                  · refine rp W 0 rfl rfl rfl (.no (fun q => (hP.1 q.1).2.2.1 ⟨c3, .inl (by omega)⟩))
                  · refine sp W 0 rfl rfl rfl (fun c5 => ?_) (fun c5 => ?_)
                    · exact absurd c5 m2
                    · have f3 : ¬ (s.getD (n + 1) 0 = 48 ∧ (1 < k ∨ False)) := fun q => q.2.elim (fun q => by omega) id
                      refine sp W 0 rfl rfl rfl (fun c6 => ?_) (fun c6 => ?_)
                      · refine sp W 0 rfl rfl rfl (fun c7 => ?_) (fun c7 => ?_)
                        · rw [show ((n : Int) + 1).toNat = n + 1 by omega, show (((n : Int) + 1) + (k : Int)).toNat = n + 1 + k by omega] at c7
                          refine rp W 0 rfl rfl rfl (.no (fun q => (hP.1 q.1).2.2.2.1 ⟨by omega, c7⟩))
                        · rw [show ((n : Int) + 1).toNat = n + 1 by omega, show (((n : Int) + 1) + (k : Int)).toNat = n + 1 + k by omega] at c7
                          have f4 : ¬ (k = 3 ∧ ¬ (Op.bytesLess ((s.take (n + 1 + k)).drop (n + 1)) [52, 48, 48] = true ∨ (s.take (n + 1 + k)).drop (n + 1) = [52, 48, 48])) := fun q => c7 q.2
                          refine rp W 0 rfl rfl rfl (.pr ⟨fun e => ⟨hP.2 ⟨by omega, by omega, f3, f4, by omega⟩, by omega⟩, fun q => by have := (hP.1 q.1).2.2.2.2; omega⟩)
                      · have f4 : ¬ (k = 3 ∧ ¬ (Op.bytesLess ((s.take (n + 1 + k)).drop (n + 1)) [52, 48, 48] = true ∨ (s.take (n + 1 + k)).drop (n + 1) = [52, 48, 48])) := fun q => by have := q.1; omega
                        refine rp W 0 rfl rfl rfl (.pr ⟨fun e => ⟨hP.2 ⟨by omega, by omega, f3, f4, by omega⟩, by omega⟩, fun q => by have := (hP.1 q.1).2.2.2.2; omega⟩)
                · have c3 : ¬ s.getD (n + 1) 0 = 48 := fun e => c3 (by rw [show ((n : Int) + 1).toNat = n + 1 by omega]; exact (u8_eq (c := 48)).2 e)
                  have f3 : ¬ (s.getD (n + 1) 0 = 48 ∧ (1 < k ∨ False)) := fun q => c3 q.1
                  refine sp W 0 rfl rfl rfl (fun c6 => ?_) (fun c6 => ?_)
                  · refine sp W 0 rfl rfl rfl (fun c7 => ?_) (fun c7 => ?_)
                    · rw [show ((n : Int) + 1).toNat = n + 1 by omega, show (((n : Int) + 1) + (k : Int)).toNat = n + 1 + k by omega] at c7
                      refine rp W 0 rfl rfl rfl (.no (fun q => (hP.1 q.1).2.2.2.1 ⟨by omega, c7⟩))
                    · rw [show ((n : Int) + 1).toNat = n + 1 by omega, show (((n : Int) + 1) + (k : Int)).toNat = n + 1 + k by omega] at c7
                      have f4 : ¬ (k = 3 ∧ ¬ (Op.bytesLess ((s.take (n + 1 + k)).drop (n + 1)) [52, 48, 48] = true ∨ (s.take (n + 1 + k)).drop (n + 1) = [52, 48, 48])) := fun q => c7 q.2
                      refine rp W 0 rfl rfl rfl (.pr ⟨fun e => ⟨hP.2 ⟨by omega, by omega, f3, f4, by omega⟩, by omega⟩, fun q => by have := (hP.1 q.1).2.2.2.2; omega⟩)
                  · have f4 : ¬ (k = 3 ∧ ¬ (Op.bytesLess ((s.take (n + 1 + k)).drop (n + 1)) [52, 48, 48] = true ∨ (s.take (n + 1 + k)).drop (n + 1) = [52, 48, 48])) := fun q => by have := q.1; omega
                    refine rp W 0 rfl rfl rfl (.pr ⟨fun e => ⟨hP.2 ⟨by omega, by omega, f3, f4, by omega⟩, by omega⟩, fun q => by have := (hP.1 q.1).2.2.2.2; omega⟩)
            · have e0 : s.drop (n + 1) = [] := List.drop_eq_nil_iff.2 (by omega)
              have hu : s.drop (n + 1) = cutP (s.drop (n + 1)) 45 := by rw [e0]; rfl
              have hm : False ↔ (s.drop (n + 1)).head? = some 45 := by rw [e0]; simp
              have kr : AFunP Tryd.prog 93 [.str s, .int .i64 ((n : Int) + 1)] (· = .int .i64 (run s (n + 1) : Nat)) := by
                have := l11Run_ok s (n + 1) (by omega) (by omega)
                rwa [show ((n + 1 : Nat) : Int) = (n : Int) + 1 by omega] at this
              have tr := run_le s (n + 1) (by omega)
              have hP := hq2.trans (powA_ok (a := n + 1) (m := False) (by omega) hu hm)
              unfold powA at hP
              refine ce W 0 rfl rfl (kr) rfl ?_
              generalize run s (n + 1) = k at *
              refine sp W 0 rfl rfl rfl (fun c1 => ?_) (fun c1 => ?_)
              · refine rp W 0 rfl rfl rfl (.no (fun q => (hP.1 q.1).1 (by omega)))
              refine sp W 0 rfl rfl rfl (fun c2 => ?_) (fun c2 => ?_)
              · refine rp W 0 rfl rfl rfl (.no (fun q => by have := (hP.1 q.1).2.1; omega))
              refine sp W 0 rfl rfl rfl (fun c3 => ?_) (fun c3 => ?_)
              · have c3 : s.getD (n + 1) 0 = 48 := by rw [show ((n : Int) + 1).toNat = n + 1 by omega] at c3; exact (u8_eq (c := 48)).1 c3
                refine sp W 0 rfl rfl rfl (fun c4 => ?_) (fun c4 => ?_)
                · refine rp W 0 rfl rfl rfl (.no (fun q => (hP.1 q.1).2.2.1 ⟨c3, .inl (by omega)⟩))
                · have f3 : ¬ (s.getD (n + 1) 0 = 48 ∧ (1 < k ∨ False)) := fun q => q.2.elim (fun q => by omega) id
                  refine sp W 0 rfl rfl rfl (fun c6 => ?_) (fun c6 => ?_)
                  · refine sp W 0 rfl rfl rfl (fun c7 => ?_) (fun c7 => ?_)
                    · rw [show ((n : Int) + 1).toNat = n + 1 by omega, show (((n : Int) + 1) + (k : Int)).toNat = n + 1 + k by omega] at c7
                      refine rp W 0 rfl rfl rfl (.no (fun q => (hP.1 q.1).2.2.2.1 ⟨by omega, c7⟩))
                    · rw [show ((n : Int) + 1).toNat = n + 1 by omega, show (((n : Int) + 1) + (k : Int)).toNat = n + 1 + k by omega] at c7
                      have f4 : ¬ (k = 3 ∧ ¬ (Op.bytesLess ((s.take (n + 1 + k)).drop (n + 1)) [52, 48, 48] = true ∨ (s.take (n + 1 + k)).drop (n + 1) = [52, 48, 48])) := fun q => c7 q.2
                      refine rp W 0 rfl rfl rfl (.pr ⟨fun e => ⟨hP.2 ⟨by omega, by omega, f3, f4, by omega⟩, by omega⟩, fun q => by have := (hP.1 q.1).2.2.2.2; omega⟩)
                  · have f4 : ¬ (k = 3 ∧ ¬ (Op.bytesLess ((s.take (n + 1 + k)).drop (n + 1)) [52, 48, 48] = true ∨ (s.take (n + 1 + k)).drop (n + 1) = [52, 48, 48])) := fun q => by have := q.1; omega
                    refine rp W 0 rfl rfl rfl (.pr ⟨fun e => ⟨hP.2 ⟨by omega, by omega, f3, f4, by omega⟩, by omega⟩, fun q => by have := (hP.1 q.1).2.2.2.2; omega⟩)
              · have c3 : ¬ s.getD (n + 1) 0 = 48 := fun e => c3 (by rw [show ((n : Int) + 1).toNat = n + 1 by omega]; exact (u8_eq (c := 48)).2 e)
                have f3 : ¬ (s.getD (n + 1) 0 = 48 ∧ (1 < k ∨ False)) := fun q => c3 q.1
                refine sp W 0 rfl rfl rfl (fun c6 => ?_) (fun c6 => ?_)
                · refine sp W 0 rfl rfl rfl (fun c7 => ?_) (fun c7 => ?_)
                  · rw [show ((n : Int) + 1).toNat = n + 1 by omega, show (((n : Int) + 1) + (k : Int)).toNat = n + 1 + k by omega] at c7
                    refine rp W 0 rfl rfl rfl (.no (fun q => (hP.1 q.1).2.2.2.1 ⟨by omega, c7⟩))
                  · rw [show ((n : Int) + 1).toNat = n + 1 by omega, show (((n : Int) + 1) + (k : Int)).toNat = n + 1 + k by omega] at c7
                    have f4 : ¬ (k = 3 ∧ ¬ (Op.bytesLess ((s.take (n + 1 + k)).drop (n + 1)) [52, 48, 48] = true ∨ (s.take (n + 1 + k)).drop (n + 1) = [52, 48, 48])) := fun q => c7 q.2
                    refine rp W 0 rfl rfl rfl (.pr ⟨fun e => ⟨hP.2 ⟨by omega, by omega, f3, f4, by omega⟩, by omega⟩, fun q => by have := (hP.1 q.1).2.2.2.2; omega⟩)
                · have f4 : ¬ (k = 3 ∧ ¬ (Op.bytesLess ((s.take (n + 1 + k)).drop (n + 1)) [52, 48, 48] = true ∨ (s.take (n + 1 + k)).drop (n + 1) = [52, 48, 48])) := fun q => by have := q.1; omega
                  refine rp W 0 rfl rfl rfl (.pr ⟨fun e => ⟨hP.2 ⟨by omega, by omega, f3, f4, by omega⟩, by omega⟩, fun q => by have := (hP.1 q.1).2.2.2.2; omega⟩)
          · rw [show ((n : Int)).toNat = n by omega] at p4
            have hn : ¬ numE s := fun e => powE_no (by omega) (fun e => p4 ((u8_eq (c := 101)).2 e)) (hq.1 e)
            refine rp W 0 rfl rfl rfl (.pr ⟨fun e => by omega, fun e => absurd e.1 hn⟩)
        · have hn : numE s := hq.2 (powE_nil (by omega))
          refine rp W 0 rfl rfl rfl (.pr ⟨fun e => ⟨hn, by omega⟩, fun e => by omega⟩)
  · have hw := (w0 (by omega)).2 fun k => by have := k.1; omega
    have hq0 : numE s ↔ fracE (Rg s) := ⟨fun e => e.2, fun e => ⟨hw, e⟩⟩
    refine sp W 0 rfl rfl rfl (fun p1 => ?_) (fun p1 => ?_)
    · refine sp W 0 rfl rfl rfl (fun p2 => ?_) (fun p2 => ?_)
      · rw [show (n : Int).toNat = n by omega] at p2
        have p2 := (u8_eq (c := 46)).1 p2
        have kk : AFunP Tryd.prog 93 [.str s, .int .i64 ((n : Int) + 1)] (· = .int .i64 (run s (n + 1) : Nat)) := l11Run_ok s (n + 1) (by omega) (by omega)
        have tk := run_le s (n + 1) (by omega)
        have hf : numE s ↔ run s (n + 1) ≠ 0 ∧ powE (s.drop (n + 1 + run s (n + 1))) := by
          refine hq0.trans ?_
          rw [← r0, fracE_yes (by omega) p2]
        refine ce W 0 rfl rfl (kk) rfl ?_
        generalize run s (n + 1) = j at *
        refine sp W 0 rfl rfl rfl (fun p5 => ?_) (fun p5 => ?_)
        · refine rp W 0 rfl rfl rfl (.no (fun q => (hf.1 q.1).1 (by omega)))
        have hq : numE s ↔ powE (s.drop (n + 1 + j)) := ⟨fun e => (hf.1 e).2, fun e => hf.2 ⟨by omega, e⟩⟩
        refine sp W 0 rfl rfl rfl (fun p3 => ?_) (fun p3 => ?_)
        · refine sp W 0 rfl rfl rfl (fun p4 => ?_) (fun p4 => ?_)
          · rw [show ((n : Int) + 1 + (j : Int)).toNat = n + 1 + j by omega] at p4
            have hq2 : numE s ↔ powE1 (s.drop (n + 1 + j + 1)) := hq.trans (powE_yes (by omega) ((u8_eq (c := 101)).1 p4))
            refine sp W 0 rfl rfl rfl (fun m1 => ?_) (fun m1 => ?_)
            · refine sp W 0 rfl rfl rfl (fun m2 => ?_) (fun m2 => ?_)
              · rw [show ((n : Int) + 1 + (j : Int) + 1).toNat = n + 1 + j + 1 by omega] at m2
                have hu : s.drop (n + 1 + j + 1 + 1) = cutP (s.drop (n + 1 + j + 1)) 45 := cutP_yes (by omega) ((u8_eq (c := 45)).1 m2)
                have hm : True ↔ (s.drop (n + 1 + j + 1)).head? = some 45 := by rw [head_at (by omega)]; exact ⟨fun _ => (u8_eq (c := 45)).1 m2, fun _ => trivial⟩
                rw [← show ((n : Int) + 1 + (j : Int) + 1).toNat = n + 1 + j + 1 by omega] at m2
                have kr : AFunP Tryd.prog 93 [.str s, .int .i64 ((n : Int) + 1 + (j : Int) + 1 + 1)] (· = .int .i64 (run s (n + 1 + j + 1 + 1) : Nat)) := by
                  have := l11Run_ok s (n + 1 + j + 1 + 1) (by omega) (by omega)
                  rwa [show ((n + 1 + j + 1 + 1 : Nat) : Int) = (n : Int) + 1 + (j : Int) + 1 + 1 by omega] at this
                have tr := run_le s (n + 1 + j + 1 + 1) (by omega)
                have hP := hq2.trans (powA_ok (a := n + 1 + j + 1 + 1) (m := True) (by omega) hu hm)
                unfold powA at hP
                refine ce W 0 rfl rfl (kr) rfl ?_
                generalize run s (n + 1 + j + 1 + 1) = k at *
                refine sp W 0 rfl rfl rfl (fun c1 => ?_) (fun c1 => ?_)
                · refine rp W 0 rfl rfl rfl (.no (fun q => (hP.1 q.1).1 (by omega)))
                refine sp W 0 rfl rfl rfl (fun c2 => ?_) (fun c2 => ?_)
                · refine rp W 0 rfl rfl rfl (.no (fun q => by have := (hP.1 q.1).2.1; omega))
                refine sp W 0 rfl rfl rfl (fun c3 => ?_) (fun c3 => ?_)
                · have c3 : s.getD (n + 1 + j + 1 + 1) 0 = 48 := by rw [show ((n : Int) + 1 + (j : Int) + 1 + 1).toNat = n + 1 + j + 1 + 1 by omega] at c3; exact (u8_eq (c := 48)).1 c3
                  refine sp W 0 rfl rfl rfl (fun c4 => ?_) (fun c4 => ?_)
                  · refine rp W 0 rfl rfl rfl (.no (fun q => (hP.1 q.1).2.2.1 ⟨c3, .inl (by omega)⟩))
                  · refine sp W 0 rfl rfl rfl (fun c5 => ?_) (fun c5 => ?_)
                    · refine rp W 0 rfl rfl rfl (.no (fun q => (hP.1 q.1).2.2.1 ⟨c3, .inr trivial⟩))
                    · exact absurd m2 c5
                · have c3 : ¬ s.getD (n + 1 + j + 1 + 1) 0 = 48 := fun e => c3 (by rw [show ((n : Int) + 1 + (j : Int) + 1 + 1).toNat = n + 1 + j + 1 + 1 by omega]; exact (u8_eq (c := 48)).2 e)
                  have f3 : ¬ (s.getD (n + 1 + j + 1 + 1) 0 = 48 ∧ (1 < k ∨ True)) := fun q => c3 q.1
                  refine sp W 0 rfl rfl rfl (fun c6 => ?_) (fun c6 => ?_)
                  · refine sp W 0 rfl rfl rfl (fun c7 => ?_) (fun c7 => ?_)
                    · rw [show ((n : Int) + 1 + (j : Int) + 1 + 1).toNat = n + 1 + j + 1 + 1 by omega, show (((n : Int) + 1 + (j : Int) + 1 + 1) + (k : Int)).toNat = n + 1 + j + 1 + 1 + k by omega] at c7
                      refine rp W 0 rfl rfl rfl (.no (fun q => (hP.1 q.1).2.2.2.1 ⟨by omega, c7⟩))
                    · rw [show ((n : Int) + 1 + (j : Int) + 1 + 1).toNat = n + 1 + j + 1 + 1 by omega, show (((n : Int) + 1 + (j : Int) + 1 + 1) + (k : Int)).toNat = n + 1 + j + 1 + 1 + k by omega] at c7
                      have f4 : ¬ (k = 3 ∧ ¬ (Op.bytesLess ((s.take (n + 1 + j + 1 + 1 + k)).drop (n + 1 + j + 1 + 1)) [52, 48, 48] = true ∨ (s.take (n + 1 + j + 1 + 1 + k)).drop (n + 1 + j + 1 + 1) = [52, 48, 48])) := fun q => c7 q.2
                      refine rp W 0 rfl rfl rfl (.pr ⟨fun e => ⟨hP.2 ⟨by omega, by omega, f3, f4, by omega⟩, by omega⟩, fun q => by have := (hP.1 q.1).2.2.2.2; omega⟩)
                  · have f4 : ¬ (k = 3 ∧ ¬ (Op.bytesLess ((s.take (n + 1 + j + 1 + 1 + k)).drop (n + 1 + j + 1 + 1)) [52, 48, 48] = true ∨ (s.take (n + 1 + j + 1 + 1 + k)).drop (n + 1 + j + 1 + 1) = [52, 48, 48])) := fun q => by have := q.1; omega
                    refine rp W 0 rfl rfl rfl (.pr ⟨fun e => ⟨hP.2 ⟨by omega, by omega, f3, f4, by omega⟩, by omega⟩, fun q => by have := (hP.1 q.1).2.2.2.2; omega⟩)
              · rw [show ((n : Int) + 1 + (j : Int) + 1).toNat = n + 1 + j + 1 by omega] at m2
                have hu : s.drop (n + 1 + j + 1) = cutP (s.drop (n + 1 + j + 1)) 45 := cutP_no (by omega) fun e => m2 ((u8_eq (c := 45)).2 e)
                have hm : False ↔ (s.drop (n + 1 + j + 1)).head? = some 45 := by rw [head_at (by omega)]; exact ⟨False.elim, fun e => m2 ((u8_eq (c := 45)).2 e)⟩
                rw [← show ((n : Int) + 1 + (j : Int) + 1).toNat = n + 1 + j + 1 by omega] at m2
                have kr : AFunP Tryd.prog 93 [.str s, .int .i64 ((n : Int) + 1 + (j : Int) + 1)] (· = .int .i64 (run s (n + 1 + j + 1) : Nat)) := by
                  have := l11Run_ok s (n + 1 + j + 1) (by omega) (by omega)
                  rwa [show ((n + 1 + j + 1 : Nat) : Int) = (n : Int) + 1 + (j : Int) + 1 by omega] at this
                have tr := run_le s (n + 1 + j + 1) (by omega)
                have hP := hq2.trans (powA_ok (a := n + 1 + j + 1) (m := False) (by omega) hu hm)
                unfold powA at hP
                refine ce W 0 rfl rfl (kr) rfl ?_
                generalize run s (n + 1 + j + 1) = k at *
                refine sp W 0 rfl rfl rfl (fun c1 => ?_) (fun c1 => ?_)
                · refine rp W 0 rfl rfl rfl (.no (fun q => (hP.1 q.1).1 (by omega)))
                refine sp W 0 rfl rfl rfl (fun c2 => ?_) (fun c2 => ?_)
                · refine rp W 0 rfl rfl rfl (.no (fun q => by have := (hP.1 q.1).2.1; omega))
                refine sp W 0 rfl rfl rfl (fun c3 => ?_) (fun c3 => ?_)
                · have c3 : s.getD (n + 1 + j + 1) 0 = 48 := by rw [show ((n : Int) + 1 + (j : Int) + 1).toNat = n + 1 + j + 1 by omega] at c3; exact (u8_eq (c := 48)).1 c3
                  refine sp W 0 rfl rfl rfl (fun c4 => ?_) (fun c4 => ?_)
                  · refine rp W 0 rfl rfl rfl (.no (fun q => (hP.1 q.1).2.2.1 ⟨c3, .inl (by omega)⟩))
                  · refine sp W 0 rfl rfl rfl (fun c5 => ?_) (fun c5 => ?_)
                    · exact absurd c5 m2
                    · have f3 : ¬ (s.getD (n + 1 + j + 1) 0 = 48 ∧ (1 < k ∨ False)) := fun q => q.2.elim (fun q => by omega) id
                      refine sp W 0 rfl rfl rfl (fun c6 => ?_) (fun c6 => ?_)
                      · refine sp W 0 rfl rfl rfl (fun c7 => ?_) (fun c7 => ?_)
                        · rw [show ((n : Int) + 1 + (j : Int) + 1).toNat = n + 1 + j + 1 by omega, show (((n : Int) + 1 + (j : Int) + 1) + (k : Int)).toNat = n + 1 + j + 1 + k by omega] at c7
                          refine rp W 0 rfl rfl rfl (.no (fun q => (hP.1 q.1).2.2.2.1 ⟨by omega, c7⟩))
                        · rw [show ((n : Int) + 1 + (j : Int) + 1).toNat = n + 1 + j + 1 by omega, show (((n : Int) + 1 + (j : Int) + 1) + (k : Int)).toNat = n + 1 + j + 1 + k by omega] at c7
                          have f4 : ¬ (k = 3 ∧ ¬ (Op.bytesLess ((s.take (n + 1 + j + 1 + k)).drop (n + 1 + j + 1)) [52, 48, 48] = true ∨ (s.take (n + 1 + j + 1 + k)).drop (n + 1 + j + 1) = [52, 48, 48])) := fun q => c7 q.2
                          refine rp W 0 rfl rfl rfl (.pr ⟨fun e => ⟨hP.2 ⟨by omega, by omega, f3, f4, by omega⟩, by omega⟩, fun q => by have := (hP.1 q.1).2.2.2.2; omega⟩)
                      · have f4 : ¬ (k = 3 ∧ ¬ (Op.bytesLess ((s.take (n + 1 + j + 1 + k)).drop (n + 1 + j + 1)) [52, 48, 48] = true ∨ (s.take (n + 1 + j + 1 + k)).drop (n + 1 + j + 1) = [52, 48, 48])) := fun q => by have := q.1; omega
                        refine rp W 0 rfl rfl rfl (.pr ⟨fun e => ⟨hP.2 ⟨by omega, by omega, f3, f4, by omega⟩, by omega⟩, fun q => by have := (hP.1 q.1).2.2.2.2; omega⟩)
                · have c3 : ¬ s.getD (n + 1 + j + 1) 0 = 48 := fun e => c3 (by rw [show ((n : Int) + 1 + (j : Int) + 1).toNat = n + 1 + j + 1 by omega]; exact (u8_eq (c := 48)).2 e)
                  have f3 : ¬ (s.getD (n + 1 + j + 1) 0 = 48 ∧ (1 < k ∨ False)) := fun q => c3 q.1
                  refine sp W 0 rfl rfl rfl (fun c6 => ?_) (fun c6 => ?_)
                  · refine sp W 0 rfl rfl rfl (fun c7 => ?_) (fun c7 => ?_)
                    · rw [show ((n : Int) + 1 + (j : Int) + 1).toNat = n + 1 + j + 1 by omega, show (((n : Int) + 1 + (j : Int) + 1) + (k : Int)).toNat = n + 1 + j + 1 + k by omega] at c7
                      refine rp W 0 rfl rfl rfl (.no (fun q => (hP.1 q.1).2.2.2.1 ⟨by omega, c7⟩))
                    · rw [show ((n : Int) + 1 + (j : Int) + 1).toNat = n + 1 + j + 1 by omega, show (((n : Int) + 1 + (j : Int) + 1) + (k : Int)).toNat = n + 1 + j + 1 + k by omega] at c7
                      have f4 : ¬ (k = 3 ∧ ¬ (Op.bytesLess ((s.take (n + 1 + j + 1 + k)).drop (n + 1 + j + 1)) [52, 48, 48] = true ∨ (s.take (n + 1 + j + 1 + k)).drop (n + 1 + j + 1) = [52, 48, 48])) := fun q => c7 q.2
                      refine rp W 0 rfl rfl rfl (.pr ⟨fun e => ⟨hP.2 ⟨by omega, by omega, f3, f4, by omega⟩, by omega⟩, fun q => by have := (hP.1 q.1).2.2.2.2; omega⟩)
                  · have f4 : ¬ (k = 3 ∧ ¬ (Op.bytesLess ((s.take (n + 1 + j + 1 + k)).drop (n + 1 + j + 1)) [52, 48, 48] = true ∨ (s.take (n + 1 + j + 1 + k)).drop (n + 1 + j + 1) = [52, 48, 48])) := fun q => by have := q.1; omega
                    refine rp W 0 rfl rfl rfl (.pr ⟨fun e => ⟨hP.2 ⟨by omega, by omega, f3, f4, by omega⟩, by omega⟩, fun q => by have := (hP.1 q.1).2.2.2.2; omega⟩)
            · have e0 : s.drop (n + 1 + j + 1) = [] := List.drop_eq_nil_iff.2 (by omega)
              have hu : s.drop (n + 1 + j + 1) = cutP (s.drop (n + 1 + j + 1)) 45 := by rw [e0]; rfl
              have hm : False ↔ (s.drop (n + 1 + j + 1)).head? = some 45 := by rw [e0]; simp
              have kr : AFunP Tryd.prog 93 [.str s, .int .i64 ((n : Int) + 1 + (j : Int) + 1)] (· = .int .i64 (run s (n + 1 + j + 1) : Nat)) := by
                have := l11Run_ok s (n + 1 + j + 1) (by omega) (by omega)
                rwa [show ((n + 1 + j + 1 : Nat) : Int) = (n : Int) + 1 + (j : Int) + 1 by omega] at this
              have tr := run_le s (n + 1 + j + 1) (by omega)
              have hP := hq2.trans (powA_ok (a := n + 1 + j + 1) (m := False) (by omega) hu hm)
              unfold powA at hP
              refine ce W 0 rfl rfl (kr) rfl ?_
              generalize run s (n + 1 + j + 1) = k at *
              refine sp W 0 rfl rfl rfl (fun c1 => ?_) (fun c1 => ?_)
              · refine rp W 0 rfl rfl rfl (.no (fun q => (hP.1 q.1).1 (by omega)))
              refine sp W 0 rfl rfl rfl (fun c2 => ?_) (fun c2 => ?_)
              · refine rp W 0 rfl rfl rfl (.no (fun q => by have := (hP.1 q.1).2.1; omega))
              refine sp W 0 rfl rfl rfl (fun c3 => ?_) (fun c3 => ?_)
              · have c3 : s.getD (n + 1 + j + 1) 0 = 48 := by rw [show ((n : Int) + 1 + (j : Int) + 1).toNat = n + 1 + j + 1 by omega] at c3; exact (u8_eq (c := 48)).1 c3
                refine sp W 0 rfl rfl rfl (fun c4 => ?_) (fun c4 => ?_)
                · refine rp W 0 rfl rfl rfl (.no (fun q => (hP.1 q.1).2.2.1 ⟨c3, .inl (by omega)⟩))
                · have f3 : ¬ (s.getD (n + 1 + j + 1) 0 = 48 ∧ (1 < k ∨ False)) := fun q => q.2.elim (fun q => by omega) id
                  refine sp W 0 rfl rfl rfl (fun c6 => ?_) (fun c6 => ?_)
                  · refine sp W 0 rfl rfl rfl (fun c7 => ?_) (fun c7 => ?_)
                    · rw [show ((n : Int) + 1 + (j : Int) + 1).toNat = n + 1 + j + 1 by omega, show (((n : Int) + 1 + (j : Int) + 1) + (k : Int)).toNat = n + 1 + j + 1 + k by omega] at c7
                      refine rp W 0 rfl rfl rfl (.no (fun q => (hP.1 q.1).2.2.2.1 ⟨by omega, c7⟩))
                    · rw [show ((n : Int) + 1 + (j : Int) + 1).toNat = n + 1 + j + 1 by omega, show (((n : Int) + 1 + (j : Int) + 1) + (k : Int)).toNat = n + 1 + j + 1 + k by omega] at c7
                      have f4 : ¬ (k = 3 ∧ ¬ (Op.bytesLess ((s.take (n + 1 + j + 1 + k)).drop (n + 1 + j + 1)) [52, 48, 48] = true ∨ (s.take (n + 1 + j + 1 + k)).drop (n + 1 + j + 1) = [52, 48, 48])) := fun q => c7 q.2
                      refine rp W 0 rfl rfl rfl (.pr ⟨fun e => ⟨hP.2 ⟨by omega, by omega, f3, f4, by omega⟩, by omega⟩, fun q => by have := (hP.1 q.1).2.2.2.2; omega⟩)
                  · have f4 : ¬ (k = 3 ∧ ¬ (Op.bytesLess ((s.take (n + 1 + j + 1 + k)).drop (n + 1 + j + 1)) [52, 48, 48] = true ∨ (s.take (n + 1 + j + 1 + k)).drop (n + 1 + j + 1) = [52, 48, 48])) := fun q => by have := q.1; omega
                    refine rp W 0 rfl rfl rfl (.pr ⟨fun e => ⟨hP.2 ⟨by omega, by omega, f3, f4, by omega⟩, by omega⟩, fun q => by have := (hP.1 q.1).2.2.2.2; omega⟩)
              · have c3 : ¬ s.getD (n + 1 + j + 1) 0 = 48 := fun e => c3 (by rw [show ((n : Int) + 1 + (j : Int) + 1).toNat = n + 1 + j + 1 by omega]; exact (u8_eq (c := 48)).2 e)
                have f3 : ¬ (s.getD (n + 1 + j + 1) 0 = 48 ∧ (1 < k ∨ False)) := fun q => c3 q.1
                refine sp W 0 rfl rfl rfl (fun c6 => ?_) (fun c6 => ?_)
                · refine sp W 0 rfl rfl rfl (fun c7 => ?_) (fun c7 => ?_)
                  · rw [show ((n : Int) + 1 + (j : Int) + 1).toNat = n + 1 + j + 1 by omega, show (((n : Int) + 1 + (j : Int) + 1) + (k : Int)).toNat = n + 1 + j + 1 + k by omega] at c7
                    refine rp W 0 rfl rfl rfl (.no (fun q => (hP.1 q.1).2.2.2.1 ⟨by omega, c7⟩))
                  · rw [show ((n : Int) + 1 + (j : Int) + 1).toNat = n + 1 + j + 1 by omega, show (((n : Int) + 1 + (j : Int) + 1) + (k : Int)).toNat = n + 1 + j + 1 + k by omega] at c7
                    have f4 : ¬ (k = 3 ∧ ¬ (Op.bytesLess ((s.take (n + 1 + j + 1 + k)).drop (n + 1 + j + 1)) [52, 48, 48] = true ∨ (s.take (n + 1 + j + 1 + k)).drop (n + 1 + j + 1) = [52, 48, 48])) := fun q => c7 q.2
                    refine rp W 0 rfl rfl rfl (.pr ⟨fun e => ⟨hP.2 ⟨by omega, by omega, f3, f4, by omega⟩, by omega⟩, fun q => by have := (hP.1 q.1).2.2.2.2; omega⟩)
                · have f4 : ¬ (k = 3 ∧ ¬ (Op.bytesLess ((s.take (n + 1 + j + 1 + k)).drop (n + 1 + j + 1)) [52, 48, 48] = true ∨ (s.take (n + 1 + j + 1 + k)).drop (n + 1 + j + 1) = [52, 48, 48])) := fun q => by have := q.1; omega
                  refine rp W 0 rfl rfl rfl (.pr ⟨fun e => ⟨hP.2 ⟨by omega, by omega, f3, f4, by omega⟩, by omega⟩, fun q => by have := (hP.1 q.1).2.2.2.2; omega⟩)
          · rw [show ((n : Int) + 1 + (j : Int)).toNat = n + 1 + j by omega] at p4
            have hn : ¬ numE s := fun e => powE_no (by omega) (fun e => p4 ((u8_eq (c := 101)).2 e)) (hq.1 e)
            refine rp W 0 rfl rfl rfl (.pr ⟨fun e => by omega, fun e => absurd e.1 hn⟩)
        · have hn : numE s := hq.2 (powE_nil (by omega))
          refine rp W 0 rfl rfl rfl (.pr ⟨fun e => ⟨hn, by omega⟩, fun e => by omega⟩)
      · rw [show (n : Int).toNat = n by omega] at p2
        have hq : numE s ↔ powE (s.drop n) := by
          refine hq0.trans ?_
          rw [← r0, fracE_no fun e => p2 ((u8_eq (c := 46)).2 e)]
        refine sp W 0 rfl rfl rfl (fun p3 => ?_) (fun p3 => ?_)
        · refine sp W 0 rfl rfl rfl (fun p4 => ?_) (fun p4 => ?_)
          · rw [show ((n : Int)).toNat = n by omega] at p4
            have hq2 : numE s ↔ powE1 (s.drop (n + 1)) := hq.trans (powE_yes (by omega) ((u8_eq (c := 101)).1 p4))
            refine sp W 0 rfl rfl rfl (fun m1 => ?_) (fun m1 => ?_)
            · refine sp W 0 rfl rfl rfl (fun m2 => ?_) (fun m2 => ?_)
              · rw [show ((n : Int) + 1).toNat = n + 1 by omega] at m2
                have hu : s.drop (n + 1 + 1) = cutP (s.drop (n + 1)) 45 := cutP_yes (by omega) ((u8_eq (c := 45)).1 m2)
                have hm : True ↔ (s.drop (n + 1)).head? = some 45 := by rw [head_at (by omega)]; exact ⟨fun _ => (u8_eq (c := 45)).1 m2, fun _ => trivial⟩
                rw [← show ((n : Int) + 1).toNat = n + 1 by omega] at m2
                have kr : AFunP Tryd.prog 93 [.str s, .int .i64 ((n : Int) + 1 + 1)] (· = .int .i64 (run s (n + 1 + 1) : Nat)) := by
                  have := l11Run_ok s (n + 1 + 1) (by omega) (by omega)
                  rwa [show ((n + 1 + 1 : Nat) : Int) = (n : Int) + 1 + 1 by omega] at this
                have tr := run_le s (n + 1 + 1) (by omega)
                have hP := hq2.trans (powA_ok (a := n + 1 + 1) (m := True) (by omega) hu hm)
                unfold powA at hP
                refine ce W 0 rfl rfl (kr) rfl ?_
                generalize run s (n + 1 + 1) = k at *
                refine sp W 0 rfl rfl rfl (fun c1 => ?_) (fun c1 => ?_)
                · refine rp W 0 rfl rfl rfl (.no (fun q => (hP.1 q.1).1 (by omega)))
                refine sp W 0 rfl rfl rfl (fun c2 => ?_) (fun c2 => ?_)
                · refine rp W 0 rfl rfl rfl (.no (fun q => by have := (hP.1 q.1).2.1; omega))
                refine sp W 0 rfl rfl rfl (fun c3 => ?_) (fun c3 => ?_)
                · have c3 : s.getD (n + 1 + 1) 0 = 48 := by rw [show ((n : Int) + 1 + 1).toNat = n + 1 + 1 by omega] at c3; exact (u8_eq (c := 48)).1 c3
                  refine sp W 0 rfl rfl rfl (fun c4 => ?_) (fun c4 => ?_)
                  · refine rp W 0 rfl rfl rfl (.no (fun q => (hP.1 q.1).2.2.1 ⟨c3, .inl (by omega)⟩))
                  · refine sp W 0 rfl rfl rfl (fun c5 => ?_) (fun c5 => ?_)
                    · refine rp W 0 rfl rfl rfl (.no (fun q => (hP.1 q.1).2.2.1 ⟨c3, .inr trivial⟩))
                    · exact absurd m2 c5
                · have c3 : ¬ s.getD (n + 1 + 1) 0 = 48 := fun e => c3 (by rw [show ((n : Int) + 1 + 1).toNat = n + 1 + 1 by omega]; exact (u8_eq (c := 48)).2 e)
                  have f3 : ¬ (s.getD (n + 1 + 1) 0 = 48 ∧ (1 < k ∨ True)) := fun q => c3 q.1
                  refine sp W 0 rfl rfl rfl (fun c6 => ?_) (fun c6 => ?_)
                  · refine sp W 0 rfl rfl rfl (fun c7 => ?_) (fun c7 => ?_)
                    · rw [show ((n : Int) + 1 + 1).toNat = n + 1 + 1 by omega, show (((n : Int) + 1 + 1) + (k : Int)).toNat = n + 1 + 1 + k by omega] at c7
                      refine rp W 0 rfl rfl rfl (.no (fun q => (hP.1 q.1).2.2.2.1 ⟨by omega, c7⟩))
                    · rw [show ((n : Int) + 1 + 1).toNat = n + 1 + 1 by omega, show (((n : Int) + 1 + 1) + (k : Int)).toNat = n + 1 + 1 + k by omega] at c7
                      have f4 : ¬ (k = 3 ∧ ¬ (Op.bytesLess ((s.take (n + 1 + 1 + k)).drop (n + 1 + 1)) [52, 48, 48] = true ∨ (s.take (n + 1 + 1 + k)).drop (n + 1 + 1) = [52, 48, 48])) := fun q => c7 q.2
                      refine rp W 0 rfl rfl rfl (.pr ⟨fun e => ⟨hP.2 ⟨by omega, by omega, f3, f4, by omega⟩, by omega⟩, fun q => by have := (hP.1 q.1).2.2.2.2; omega⟩)
                  · have f4 : ¬ (k = 3 ∧ ¬ (Op.bytesLess ((s.take (n + 1 + 1 + k)).drop (n + 1 + 1)) [52, 48, 48] = true ∨ (s.take (n + 1 + 1 + k)).drop (n + 1 + 1) = [52, 48, 48])) := fun q => by have := q.1; omega
                    refine rp W 0 rfl rfl rfl (.pr ⟨fun e => ⟨hP.2 ⟨by omega, by omega, f3, f4, by omega⟩, by omega⟩, fun q => by have := (hP.1 q.1).2.2.2.2; omega⟩)
              · rw [show ((n : Int) + 1).toNat = n + 1 by omega] at m2
                have hu : s.drop (n + 1) = cutP (s.drop (n + 1)) 45 := cutP_no (by omega) fun e => m2 ((u8_eq (c := 45)).2 e)
                have hm : False ↔ (s.drop (n + 1)).head? = some 45 := by rw [head_at (by omega)]; exact ⟨False.elim, fun e => m2 ((u8_eq (c := 45)).2 e)⟩
                rw [← show ((n : Int) + 1).toNat = n + 1 by omega] at m2
                have kr : AFunP Tryd.prog 93 [.str s, .int .i64 ((n : Int) + 1)] (· = .int .i64 (run s (n + 1) : Nat)) := by
                  have := l11Run_ok s (n + 1) (by omega) (by omega)
                  rwa [show ((n + 1 : Nat) : Int) = (n : Int) + 1 by omega] at this
                have tr := run_le s (n + 1) (by omega)
                have hP := hq2.trans (powA_ok (a := n + 1) (m := False) (by omega) hu hm)
                unfold powA at hP
                refine ce W 0 rfl rfl (kr) rfl ?_
                generalize run s (n + 1) = k at *
                refine sp W 0 rfl rfl rfl (fun c1 => ?_) (fun c1 => ?_)
                · refine rp W 0 rfl rfl rfl (.no (fun q => (hP.1 q.1).1 (by omega)))
                refine sp W 0 rfl rfl rfl (fun c2 => ?_) (fun c2 => ?_)
                · refine rp W 0 rfl rfl rfl (.no (fun q => by have := (hP.1 q.1).2.1; omega))
                refine sp W 0 rfl rfl rfl (fun c3 => ?_) (fun c3 => ?_)
                · have c3 : s.getD (n + 1) 0 = 48 := by rw [show ((n : Int) + 1).toNat = n + 1 by omega] at c3; exact (u8_eq (c := 48)).1 c3
                  refine sp W 0 rfl rfl rfl (fun c4 => ?_) (fun c4 => ?_)
                  · refine rp W 0 rfl rfl rfl (.no (fun q => (hP.1 q.1).2.2.1 ⟨c3, .inl (by omega)⟩))
                  · refine sp W 0 rfl rfl rfl (fun c5 => ?_) (fun c5 => ?_)
                    · exact absurd c5 m2
                    · have f3 : ¬ (s.getD (n + 1) 0 = 48 ∧ (1 < k ∨ False)) := fun q => q.2.elim (fun q => by omega) id
                      refine sp W 0 rfl rfl rfl (fun c6 => ?_) (fun c6 => ?_)
                      · refine sp W 0 rfl rfl rfl (fun c7 => ?_) (fun c7 => ?_)
                        · rw [show ((n : Int) + 1).toNat = n + 1 by omega, show (((n : Int) + 1) + (k : Int)).toNat = n + 1 + k by omega] at c7
                          refine rp W 0 rfl rfl rfl (.no (fun q => (hP.1 q.1).2.2.2.1 ⟨by omega, c7⟩))
                        · rw [show ((n : Int) + 1).toNat = n + 1 by omega, show (((n : Int) + 1) + (k : Int)).toNat = n + 1 + k by omega] at c7
                          have f4 : ¬ (k = 3 ∧ ¬ (Op.bytesLess ((s.take (n + 1 + k)).drop (n + 1)) [52, 48, 48] = true ∨ (s.take (n + 1 + k)).drop (n + 1) = [52, 48, 48])) := fun q => c7 q.2
                          refine rp W 0 rfl rfl rfl (.pr ⟨fun e => ⟨hP.2 ⟨by omega, by omega, f3, f4, by omega⟩, by omega⟩, fun q => by have := (hP.1 q.1).2.2.2.2; omega⟩)
                      · have f4 : ¬ (k = 3 ∧ ¬ (Op.bytesLess ((s.take (n + 1 + k)).drop (n + 1)) [52, 48, 48] = true ∨ (s.take (n + 1 + k)).drop (n + 1) = [52, 48, 48])) := fun q => by have := q.1; omega
                        refine rp W 0 rfl rfl rfl (.pr ⟨fun e => ⟨hP.2 ⟨by omega, by omega, f3, f4, by omega⟩, by omega⟩, fun q => by have := (hP.1 q.1).2.2.2.2; omega⟩)
                · have c3 : ¬ s.getD (n + 1) 0 = 48 := fun e => c3 (by rw [show ((n : Int) + 1).toNat = n + 1 by omega]; exact (u8_eq (c := 48)).2 e)
                  have f3 : ¬ (s.getD (n + 1) 0 = 48 ∧ (1 < k ∨ False)) := fun q => c3 q.1
                  refine sp W 0 rfl rfl rfl (fun c6 => ?_) (fun c6 => ?_)
                  · refine sp W 0 rfl rfl rfl (fun c7 => ?_) (fun c7 => ?_)
                    · rw [show ((n : Int) + 1).toNat = n + 1 by omega, show (((n : Int) + 1) + (k : Int)).toNat = n + 1 + k by omega] at c7
                      refine rp W 0 rfl rfl rfl (.no (fun q => (hP.1 q.1).2.2.2.1 ⟨by omega, c7⟩))
                    · rw [show ((n : Int) + 1).toNat = n + 1 by omega, show (((n : Int) + 1) + (k : Int)).toNat = n + 1 + k by omega] at c7
                      have f4 : ¬ (k = 3 ∧ ¬ (Op.bytesLess ((s.take (n + 1 + k)).drop (n + 1)) [52, 48, 48] = true ∨ (s.take (n + 1 + k)).drop (n + 1) = [52, 48, 48])) := fun q => c7 q.2
                      refine rp W 0 rfl rfl rfl (.pr ⟨fun e => ⟨hP.2 ⟨by omega, by omega, f3, f4, by omega⟩, by omega⟩, fun q => by have := (hP.1 q.1).2.2.2.2; omega⟩)
                  · have f4 : ¬ (k = 3 ∧ ¬ (Op.bytesLess ((s.take (n + 1 + k)).drop (n + 1)) [52, 48, 48] = true ∨ (s.take (n + 1 + k)).drop (n + 1) = [52, 48, 48])) := fun q => by have := q.1; omega
                    refine rp W 0 rfl rfl rfl (.pr ⟨fun e => ⟨hP.2 ⟨by omega, by omega, f3, f4, by omega⟩, by omega⟩, fun q => by have := (hP.1 q.1).2.2.2.2; omega⟩)
            · have e0 : s.drop (n + 1) = [] := List.drop_eq_nil_iff.2 (by omega)
              have hu : s.drop (n + 1) = cutP (s.drop (n + 1)) 45 := by rw [e0]; rfl
              have hm : False ↔ (s.drop (n + 1)).head? = some 45 := by rw [e0]; simp
              have kr : AFunP Tryd.prog 93 [.str s, .int .i64 ((n : Int) + 1)] (· = .int .i64 (run s (n + 1) : Nat)) := by
                have := l11Run_ok s (n + 1) (by omega) (by omega)
                rwa [show ((n + 1 : Nat) : Int) = (n : Int) + 1 by omega] at this
              have tr := run_le s (n + 1) (by omega)
              have hP := hq2.trans (powA_ok (a := n + 1) (m := False) (by omega) hu hm)
              unfold powA at hP
              refine ce W 0 rfl rfl (kr) rfl ?_
              generalize run s (n + 1) = k at *
              refine sp W 0 rfl rfl rfl (fun c1 => ?_) (fun c1 => ?_)
              · refine rp W 0 rfl rfl rfl (.no (fun q => (hP.1 q.1).1 (by omega)))
              refine sp W 0 rfl rfl rfl (fun c2 => ?_) (fun c2 => ?_)
              · refine rp W 0 rfl rfl rfl (.no (fun q => by have := (hP.1 q.1).2.1; omega))
              refine sp W 0 rfl rfl rfl (fun c3 => ?_) (fun c3 => ?_)
              · have c3 : s.getD (n + 1) 0 = 48 := by rw [show ((n : Int) + 1).toNat = n + 1 by omega] at c3; exact (u8_eq (c := 48)).1 c3
                refine sp W 0 rfl rfl rfl (fun c4 => ?_) (fun c4 => ?_)
                · refine rp W 0 rfl rfl rfl (.no (fun q => (hP.1 q.1).2.2.1 ⟨c3, .inl (by omega)⟩))
                · have f3 : ¬ (s.getD (n + 1) 0 = 48 ∧ (1 < k ∨ False)) := fun q => q.2.elim (fun q => by omega) id
                  refine sp W 0 rfl rfl rfl (fun c6 => ?_) (fun c6 => ?_)
                  · refine sp W 0 rfl rfl rfl (fun c7 => ?_) (fun c7 => ?_)
                    · rw [show ((n : Int) + 1).toNat = n + 1 by omega, show (((n : Int) + 1) + (k : Int)).toNat = n + 1 + k by omega] at c7
                      refine rp W 0 rfl rfl rfl (.no (fun q => (hP.1 q.1).2.2.2.1 ⟨by omega, c7⟩))
                    · rw [show ((n : Int) + 1).toNat = n + 1 by omega, show (((n : Int) + 1) + (k : Int)).toNat = n + 1 + k by omega] at c7
                      have f4 : ¬ (k = 3 ∧ ¬ (Op.bytesLess ((s.take (n + 1 + k)).drop (n + 1)) [52, 48, 48] = true ∨ (s.take (n + 1 + k)).drop (n + 1) = [52, 48, 48])) := fun q => c7 q.2
                      refine rp W 0 rfl rfl rfl (.pr ⟨fun e => ⟨hP.2 ⟨by omega, by omega, f3, f4, by omega⟩, by omega⟩, fun q => by have := (hP.1 q.1).2.2.2.2; omega⟩)
                  · have f4 : ¬ (k = 3 ∧ ¬ (Op.bytesLess ((s.take (n + 1 + k)).drop (n + 1)) [52, 48, 48] = true ∨ (s.take (n + 1 + k)).drop (n + 1) = [52, 48, 48])) := fun q => by have := q.1; omega
                    refine rp W 0 rfl rfl rfl (.pr ⟨fun e => ⟨hP.2 ⟨by omega, by omega, f3, f4, by omega⟩, by omega⟩, fun q => by have := (hP.1 q.1).2.2.2.2; omega⟩)
              · have c3 : ¬ s.getD (n + 1) 0 = 48 := fun e => c3 (by rw [show ((n : Int) + 1).toNat = n + 1 by omega]; exact (u8_eq (c := 48)).2 e)
                have f3 : ¬ (s.getD (n + 1) 0 = 48 ∧ (1 < k ∨ False)) := fun q => c3 q.1
                refine sp W 0 rfl rfl rfl (fun c6 => ?_) (fun c6 => ?_)
                · refine sp W 0 rfl rfl rfl (fun c7 => ?_) (fun c7 => ?_)
                  · rw [show ((n : Int) + 1).toNat = n + 1 by omega, show (((n : Int) + 1) + (k : Int)).toNat = n + 1 + k by omega] at c7
                    refine rp W 0 rfl rfl rfl (.no (fun q => (hP.1 q.1).2.2.2.1 ⟨by omega, c7⟩))
                  · rw [show ((n : Int) + 1).toNat = n + 1 by omega, show (((n : Int) + 1) + (k : Int)).toNat = n + 1 + k by omega] at c7
                    have f4 : ¬ (k = 3 ∧ ¬ (Op.bytesLess ((s.take (n + 1 + k)).drop (n + 1)) [52, 48, 48] = true ∨ (s.take (n + 1 + k)).drop (n + 1) = [52, 48, 48])) := fun q => c7 q.2
                    refine rp W 0 rfl rfl rfl (.pr ⟨fun e => ⟨hP.2 ⟨by omega, by omega, f3, f4, by omega⟩, by omega⟩, fun q => by have := (hP.1 q.1).2.2.2.2; omega⟩)
                · have f4 : ¬ (k = 3 ∧ ¬ (Op.bytesLess ((s.take (n + 1 + k)).drop (n + 1)) [52, 48, 48] = true ∨ (s.take (n + 1 + k)).drop (n + 1) = [52, 48, 48])) := fun q => by have := q.1; omega
                  refine rp W 0 rfl rfl rfl (.pr ⟨fun e => ⟨hP.2 ⟨by omega, by omega, f3, f4, by omega⟩, by omega⟩, fun q => by have := (hP.1 q.1).2.2.2.2; omega⟩)
          · rw [show ((n : Int)).toNat = n by omega] at p4
            have hn : ¬ numE s := fun e => powE_no (by omega) (fun e => p4 ((u8_eq (c := 101)).2 e)) (hq.1 e)
            refine rp W 0 rfl rfl rfl (.pr ⟨fun e => by omega, fun e => absurd e.1 hn⟩)
        · have hn : numE s := hq.2 (powE_nil (by omega))
          refine rp W 0 rfl rfl rfl (.pr ⟨fun e => ⟨hn, by omega⟩, fun e => by omega⟩)
    · have hq : numE s ↔ powE (s.drop n) := by
        refine hq0.trans ?_
        rw [← r0, show s.drop n = [] from List.drop_eq_nil_iff.2 (by omega)]
        simp [fracE]
      refine sp W 0 rfl rfl rfl (fun p3 => ?_) (fun p3 => ?_)
      · refine sp W 0 rfl rfl rfl (fun p4 => ?_) (fun p4 => ?_)
        · rw [show ((n : Int)).toNat = n by omega] at p4
          have hq2 : numE s ↔ powE1 (s.drop (n + 1)) := hq.trans (powE_yes (by omega) ((u8_eq (c := 101)).1 p4))
          refine sp W 0 rfl rfl rfl (fun m1 => ?_) (fun m1 => ?_)
          · refine sp W 0 rfl rfl rfl (fun m2 => ?_) (fun m2 => ?_)
            · rw [show ((n : Int) + 1).toNat = n + 1 by omega] at m2
              have hu : s.drop (n + 1 + 1) = cutP (s.drop (n + 1)) 45 := cutP_yes (by omega) ((u8_eq (c := 45)).1 m2)
              have hm : True ↔ (s.drop (n + 1)).head? = some 45 := by rw [head_at (by omega)]; exact ⟨fun _ => (u8_eq (c := 45)).1 m2, fun _ => trivial⟩
              rw [← show ((n : Int) + 1).toNat = n + 1 by omega] at m2
              have kr : AFunP Tryd.prog 93 [.str s, .int .i64 ((n : Int) + 1 + 1)] (· = .int .i64 (run s (n + 1 + 1) : Nat)) := by
                have := l11Run_ok s (n + 1 + 1) (by omega) (by omega)
                rwa [show ((n + 1 + 1 : Nat) : Int) = (n : Int) + 1 + 1 by omega] at this
              have tr := run_le s (n + 1 + 1) (by omega)
              have hP := hq2.trans (powA_ok (a := n + 1 + 1) (m := True) (by omega) hu hm)
              unfold powA at hP
              refine ce W 0 rfl rfl (kr) rfl ?_
              generalize run s (n + 1 + 1) = k at *
              refine sp W 0 rfl rfl rfl (fun c1 => ?_) (fun c1 => ?_)
              · refine rp W 0 rfl rfl rfl (.no (fun q => (hP.1 q.1).1 (by omega)))
              refine sp W 0 rfl rfl rfl (fun c2 => ?_) (fun c2 => ?_)
              · refine rp W 0 rfl rfl rfl (.no (fun q => by have := (hP.1 q.1).2.1; omega))
              refine sp W 0 rfl rfl rfl (fun c3 => ?_) (fun c3 => ?_)
              · have c3 : s.getD (n + 1 + 1) 0 = 48 := by rw [show ((n : Int) + 1 + 1).toNat = n + 1 + 1 by omega] at c3; exact (u8_eq (c := 48)).1 c3
                refine sp W 0 rfl rfl rfl (fun c4 => ?_) (fun c4 => ?_)
                · refine rp W 0 rfl rfl rfl (.no (fun q => (hP.1 q.1).2.2.1 ⟨c3, .inl (by omega)⟩))
                · refine sp W 0 rfl rfl rfl (fun c5 => ?_) (fun c5 => ?_)
                  · refine rp W 0 rfl rfl rfl (.no (fun q => (hP.1 q.1).2.2.1 ⟨c3, .inr trivial⟩))
                  · exact absurd m2 c5
              · have c3 : ¬ s.getD (n + 1 + 1) 0 = 48 := fun e => c3 (by rw [show ((n : Int) + 1 + 1).toNat = n + 1 + 1 by omega]; exact (u8_eq (c := 48)).2 e)
                have f3 : ¬ (s.getD (n + 1 + 1) 0 = 48 ∧ (1 < k ∨ True)) := fun q => c3 q.1
                refine sp W 0 rfl rfl rfl (fun c6 => ?_) (fun c6 => ?_)
                · refine sp W 0 rfl rfl rfl (fun c7 => ?_) (fun c7 => ?_)
                  · rw [show ((n : Int) + 1 + 1).toNat = n + 1 + 1 by omega, show (((n : Int) + 1 + 1) + (k : Int)).toNat = n + 1 + 1 + k by omega] at c7
                    refine rp W 0 rfl rfl rfl (.no (fun q => (hP.1 q.1).2.2.2.1 ⟨by omega, c7⟩))
                  · rw [show ((n : Int) + 1 + 1).toNat = n + 1 + 1 by omega, show (((n : Int) + 1 + 1) + (k : Int)).toNat = n + 1 + 1 + k by omega] at c7
                    have f4 : ¬ (k = 3 ∧ ¬ (Op.bytesLess ((s.take (n + 1 + 1 + k)).drop (n + 1 + 1)) [52, 48, 48] = true ∨ (s.take (n + 1 + 1 + k)).drop (n + 1 + 1) = [52, 48, 48])) := fun q => c7 q.2
                    refine rp W 0 rfl rfl rfl (.pr ⟨fun e => ⟨hP.2 ⟨by omega, by omega, f3, f4, by omega⟩, by omega⟩, fun q => by have := (hP.1 q.1).2.2.2.2; omega⟩)
                · have f4 : ¬ (k = 3 ∧ ¬ (Op.bytesLess ((s.take (n + 1 + 1 + k)).drop (n + 1 + 1)) [52, 48, 48] = true ∨ (s.take (n + 1 + 1 + k)).drop (n + 1 + 1) = [52, 48, 48])) := fun q => by have := q.1; omega
                  refine rp W 0 rfl rfl rfl (.pr ⟨fun e => ⟨hP.2 ⟨by omega, by omega, f3, f4, by omega⟩, by omega⟩, fun q => by have := (hP.1 q.1).2.2.2.2; omega⟩)
            · rw [show ((n : Int) + 1).toNat = n + 1 by omega] at m2
              have hu : s.drop (n + 1) = cutP (s.drop (n + 1)) 45 := cutP_no (by omega) fun e => m2 ((u8_eq (c := 45)).2 e)
              have hm : False ↔ (s.drop (n + 1)).head? = some 45 := by rw [head_at (by omega)]; exact ⟨False.elim, fun e => m2 ((u8_eq (c := 45)).2 e)⟩
              rw [← show ((n : Int) + 1).toNat = n + 1 by omega] at m2
              have kr : AFunP Tryd.prog 93 [.str s, .int .i64 ((n : Int) + 1)] (· = .int .i64 (run s (n + 1) : Nat)) := by
                have := l11Run_ok s (n + 1) (by omega) (by omega)
                rwa [show ((n + 1 : Nat) : Int) = (n : Int) + 1 by omega] at this
              have tr := run_le s (n + 1) (by omega)
              have hP := hq2.trans (powA_ok (a := n + 1) (m := False) (by omega) hu hm)
              unfold powA at hP
              refine ce W 0 rfl rfl (kr) rfl ?_
              generalize run s (n + 1) = k at *
              refine sp W 0 rfl rfl rfl (fun c1 => ?_) (fun c1 => ?_)
              · refine rp W 0 rfl rfl rfl (.no (fun q => (hP.1 q.1).1 (by omega)))
              refine sp W 0 rfl rfl rfl (fun c2 => ?_) (fun c2 => ?_)
              · refine rp W 0 rfl rfl rfl (.no (fun q => by have := (hP.1 q.1).2.1; omega))
              refine sp W 0 rfl rfl rfl (fun c3 => ?_) (fun c3 => ?_)
              · have c3 : s.getD (n + 1) 0 = 48 := by rw [show ((n : Int) + 1).toNat = n + 1 by omega] at c3; exact (u8_eq (c := 48)).1 c3
                refine sp W 0 rfl rfl rfl (fun c4 => ?_) (fun c4 => ?_)
                · refine rp W 0 rfl rfl rfl (.no (fun q => (hP.1 q.1).2.2.1 ⟨c3, .inl (by omega)⟩))
                · refine sp W 0 rfl rfl rfl (fun c5 => ?_) (fun c5 => ?_)
                  · exact absurd c5 m2
                  · have f3 : ¬ (s.getD (n + 1) 0 = 48 ∧ (1 < k ∨ False)) := fun q => q.2.elim (fun q => by omega) id
                    refine sp W 0 rfl rfl rfl (fun c6 => ?_) (fun c6 => ?_)
                    · refine sp W 0 rfl rfl rfl (fun c7 => ?_) (fun c7 => ?_)
                      · rw [show ((n : Int) + 1).toNat = n + 1 by omega, show (((n : Int) + 1) + (k : Int)).toNat = n + 1 + k by omega] at c7
                        refine rp W 0 rfl rfl rfl (.no (fun q => (hP.1 q.1).2.2.2.1 ⟨by omega, c7⟩))
                      · rw [show ((n : Int) + 1).toNat = n + 1 by omega, show (((n : Int) + 1) + (k : Int)).toNat = n + 1 + k by omega] at c7
                        have f4 : ¬ (k = 3 ∧ ¬ (Op.bytesLess ((s.take (n + 1 + k)).drop (n + 1)) [52, 48, 48] = true ∨ (s.take (n + 1 + k)).drop (n + 1) = [52, 48, 48])) := fun q => c7 q.2
                        refine rp W 0 rfl rfl rfl (.pr ⟨fun e => ⟨hP.2 ⟨by omega, by omega, f3, f4, by omega⟩, by omega⟩, fun q => by have := (hP.1 q.1).2.2.2.2; omega⟩)
                    · have f4 : ¬ (k = 3 ∧ ¬ (Op.bytesLess ((s.take (n + 1 + k)).drop (n + 1)) [52, 48, 48] = true ∨ (s.take (n + 1 + k)).drop (n + 1) = [52, 48, 48])) := fun q => by have := q.1; omega
                      refine rp W 0 rfl rfl rfl (.pr ⟨fun e => ⟨hP.2 ⟨by omega, by omega, f3, f4, by omega⟩, by omega⟩, fun q => by have := (hP.1 q.1).2.2.2.2; omega⟩)
              · have c3 : ¬ s.getD (n + 1) 0 = 48 := fun e => c3 (by rw [show ((n : Int) + 1).toNat = n + 1 by omega]; exact (u8_eq (c := 48)).2 e)
                have f3 : ¬ (s.getD (n + 1) 0 = 48 ∧ (1 < k ∨ False)) := fun q => c3 q.1
                refine sp W 0 rfl rfl rfl (fun c6 => ?_) (fun c6 => ?_)
                · refine sp W 0 rfl rfl rfl (fun c7 => ?_) (fun c7 => ?_)
                  · rw [show ((n : Int) + 1).toNat = n + 1 by omega, show (((n : Int) + 1) + (k : Int)).toNat = n + 1 + k by omega] at c7
                    refine rp W 0 rfl rfl rfl (.no (fun q => (hP.1 q.1).2.2.2.1 ⟨by omega, c7⟩))
                  · rw [show ((n : Int) + 1).toNat = n + 1 by omega, show (((n : Int) + 1) + (k : Int)).toNat = n + 1 + k by omega] at c7
                    have f4 : ¬ (k = 3 ∧ ¬ (Op.bytesLess ((s.take (n + 1 + k)).drop (n + 1)) [52, 48, 48] = true ∨ (s.take (n + 1 + k)).drop (n + 1) = [52, 48, 48])) := fun q => c7 q.2
                    refine rp W 0 rfl rfl rfl (.pr ⟨fun e => ⟨hP.2 ⟨by omega, by omega, f3, f4, by omega⟩, by omega⟩, fun q => by have := (hP.1 q.1).2.2.2.2; omega⟩)
                · have f4 : ¬ (k = 3 ∧ ¬ (Op.bytesLess ((s.take (n + 1 + k)).drop (n + 1)) [52, 48, 48] = true ∨ (s.take (n + 1 + k)).drop (n + 1) = [52, 48, 48])) := fun q => by have := q.1; omega
                  refine rp W 0 rfl rfl rfl (.pr ⟨fun e => ⟨hP.2 ⟨by omega, by omega, f3, f4, by omega⟩, by omega⟩, fun q => by have := (hP.1 q.1).2.2.2.2; omega⟩)
          · have e0 : s.drop (n + 1) = [] := List.drop_eq_nil_iff.2 (by omega)
            have hu : s.drop (n + 1) = cutP (s.drop (n + 1)) 45 := by rw [e0]; rfl
            have hm : False ↔ (s.drop (n + 1)).head? = some 45 := by rw [e0]; simp
            have kr : AFunP Tryd.prog 93 [.str s, .int .i64 ((n : Int) + 1)] (· = .int .i64 (run s (n + 1) : Nat)) := by
              have := l11Run_ok s (n + 1) (by omega) (by omega)
              rwa [show ((n + 1 : Nat) : Int) = (n : Int) + 1 by omega] at this
            have tr := run_le s (n + 1) (by omega)
            have hP := hq2.trans (powA_ok (a := n + 1) (m := False) (by omega) hu hm)
            unfold powA at hP
            refine ce W 0 rfl rfl (kr) rfl ?_
            generalize run s (n + 1) = k at *
            refine sp W 0 rfl rfl rfl (fun c1 => ?_) (fun c1 => ?_)
            · refine rp W 0 rfl rfl rfl (.no (fun q => (hP.1 q.1).1 (by omega)))
            refine sp W 0 rfl rfl rfl (fun c2 => ?_) (fun c2 => ?_)
            · refine rp W 0 rfl rfl rfl (.no (fun q => by have := (hP.1 q.1).2.1; omega))
            refine sp W 0 rfl rfl rfl (fun c3 => ?_) (fun c3 => ?_)
            · have c3 : s.getD (n + 1) 0 = 48 := by rw [show ((n : Int) + 1).toNat = n + 1 by omega] at c3; exact (u8_eq (c := 48)).1 c3
              refine sp W 0 rfl rfl rfl (fun c4 => ?_) (fun c4 => ?_)
              · refine rp W 0 rfl rfl rfl (.no (fun q => (hP.1 q.1).2.2.1 ⟨c3, .inl (by omega)⟩))
              · have f3 : ¬ (s.getD (n + 1) 0 = 48 ∧ (1 < k ∨ False)) := fun q => q.2.elim (fun q => by omega) id
                refine sp W 0 rfl rfl rfl (fun c6 => ?_) (fun c6 => ?_)
                · refine sp W 0 rfl rfl rfl (fun c7 => ?_) (fun c7 => ?_)
                  · rw [show ((n : Int) + 1).toNat = n + 1 by omega, show (((n : Int) + 1) + (k : Int)).toNat = n + 1 + k by omega] at c7
                    refine rp W 0 rfl rfl rfl (.no (fun q => (hP.1 q.1).2.2.2.1 ⟨by omega, c7⟩))
                  · rw [show ((n : Int) + 1).toNat = n + 1 by omega, show (((n : Int) + 1) + (k : Int)).toNat = n + 1 + k by omega] at c7
                    have f4 : ¬ (k = 3 ∧ ¬ (Op.bytesLess ((s.take (n + 1 + k)).drop (n + 1)) [52, 48, 48] = true ∨ (s.take (n + 1 + k)).drop (n + 1) = [52, 48, 48])) := fun q => c7 q.2
                    refine rp W 0 rfl rfl rfl (.pr ⟨fun e => ⟨hP.2 ⟨by omega, by omega, f3, f4, by omega⟩, by omega⟩, fun q => by have := (hP.1 q.1).2.2.2.2; omega⟩)
                · have f4 : ¬ (k = 3 ∧ ¬ (Op.bytesLess ((s.take (n + 1 + k)).drop (n + 1)) [52, 48, 48] = true ∨ (s.take (n + 1 + k)).drop (n + 1) = [52, 48, 48])) := fun q => by have := q.1; omega
                  refine rp W 0 rfl rfl rfl (.pr ⟨fun e => ⟨hP.2 ⟨by omega, by omega, f3, f4, by omega⟩, by omega⟩, fun q => by have := (hP.1 q.1).2.2.2.2; omega⟩)
            · have c3 : ¬ s.getD (n + 1) 0 = 48 := fun e => c3 (by rw [show ((n : Int) + 1).toNat = n + 1 by omega]; exact (u8_eq (c := 48)).2 e)
              have f3 : ¬ (s.getD (n + 1) 0 = 48 ∧ (1 < k ∨ False)) := fun q => c3 q.1
              refine sp W 0 rfl rfl rfl (fun c6 => ?_) (fun c6 => ?_)
              · refine sp W 0 rfl rfl rfl (fun c7 => ?_) (fun c7 => ?_)
                · rw [show ((n : Int) + 1).toNat = n + 1 by omega, show (((n : Int) + 1) + (k : Int)).toNat = n + 1 + k by omega] at c7
                  refine rp W 0 rfl rfl rfl (.no (fun q => (hP.1 q.1).2.2.2.1 ⟨by omega, c7⟩))
                · rw [show ((n : Int) + 1).toNat = n + 1 by omega, show (((n : Int) + 1) + (k : Int)).toNat = n + 1 + k by omega] at c7
                  have f4 : ¬ (k = 3 ∧ ¬ (Op.bytesLess ((s.take (n + 1 + k)).drop (n + 1)) [52, 48, 48] = true ∨ (s.take (n + 1 + k)).drop (n + 1) = [52, 48, 48])) := fun q => c7 q.2
                  refine rp W 0 rfl rfl rfl (.pr ⟨fun e => ⟨hP.2 ⟨by omega, by omega, f3, f4, by omega⟩, by omega⟩, fun q => by have := (hP.1 q.1).2.2.2.2; omega⟩)
              · have f4 : ¬ (k = 3 ∧ ¬ (Op.bytesLess ((s.take (n + 1 + k)).drop (n + 1)) [52, 48, 48] = true ∨ (s.take (n + 1 + k)).drop (n + 1) = [52, 48, 48])) := fun q => by have := q.1; omega
                refine rp W 0 rfl rfl rfl (.pr ⟨fun e => ⟨hP.2 ⟨by omega, by omega, f3, f4, by omega⟩, by omega⟩, fun q => by have := (hP.1 q.1).2.2.2.2; omega⟩)
        · rw [show ((n : Int)).toNat = n by omega] at p4
          have hn : ¬ numE s := fun e => powE_no (by omega) (fun e => p4 ((u8_eq (c := 101)).2 e)) (hq.1 e)
          refine rp W 0 rfl rfl rfl (.pr ⟨fun e => by omega, fun e => absurd e.1 hn⟩)
      · have hn : numE s := hq.2 (powE_nil (by omega))
        refine rp W 0 rfl rfl rfl (.pr ⟨fun e => ⟨hn, by omega⟩, fun e => by omega⟩)
end Pf
/- How many parts a node has -/
namespace Pf
open Go Go.Proofs
open Classical in
/-- How many parts a node has; -1: it is none. -/
noncomputable def partsZ (k n : Int) (s : List UInt8) : Int :=
  if k = 1 then (if n = 0 ∧ litP s ∧ s.length ≤ 60 then 0 else -1)
  else if k = 2 then (if n = 0 ∧ wordP s ∧ ¬ s ∈ ownW then 0 else -1)
  else if k = 3 ∨ k = 9 ∨ k = 10 then (if n = 0 ∧ s = [] then 1 else -1)
  else if k = 4 ∨ k = 5 ∨ k = 6 ∨ k = 7 ∨ k = 11 ∨ k = 12 then (if n = 0 ∧ s = [] then 2 else -1)
  else if k = 8 then (if 0 ≤ n ∧ n ≤ 8 ∧ s = [] then 1 else -1)
  else if k = 13 then (if 1 ≤ n ∧ n ≤ 6 ∧ wordP s ∧ ¬ s ∈ ownW then n else -1)
  else -1
theorem l12Args_ok (k n : Int) (s : List UInt8) (hl : s.length ≤ 281474976710656) : AFunP Tryd.prog 38 [.agg [.int .i64 k, .int .i64 n, .str s]] (· = .int .i64 (partsZ k n s)) := by
  have k1 := specLangNumOk_ok s hl
  have k2 := specLangNameOk_ok s (by omega)
  refine afun_of Tryd.func38 Tryd.call38 rfl Tryd.ntmps38 rfl ?_
  have W : Walk Tryd.prog TT 38 _ := Walk.of TT_ok Tryd.func38 Tryd.results38
  (repeat' (first | (refine sp W 0 rfl rfl rfl (fun _ => ?_) (fun _ => ?_)) | (refine ce W 0 rfl rfl (k1) rfl ?_) | (refine ce W 0 rfl rfl (k2) rfl ?_))) <;> (first | exact rp W 0 rfl rfl rfl (.int (by clear k1 k2; simp_all [partsZ] <;> intros <;> exfalso <;> omega)))
theorem parts_ok (k n : Int) (s : List UInt8) (hl : s.length ≤ 281474976710656) : AFunP Tryd.prog 40 [.agg [.int .i64 k, .int .i64 n, .str s]] (· = .int .i64 (partsZ k n s)) := by
  have k1 := implLangNumOk_ok s hl
  have k2 := langNameOk_ok s (by omega)
  have k3 := in_ok n 0 8
  have k4 := in_ok n 1 6
  refine afun_of Tryd.func40 Tryd.call40 rfl Tryd.ntmps40 rfl ?_
  have W : Walk Tryd.prog TT 40 _ := Walk.of TT_ok Tryd.func40 Tryd.results40
  (repeat' (first | (refine sp W 0 rfl rfl rfl (fun _ => ?_) (fun _ => ?_)) | (refine ce W 0 rfl rfl (k1) rfl ?_) | (refine ce W 0 rfl rfl (k2) rfl ?_) | (refine ce W 0 rfl rfl (k3) rfl ?_) | (refine ce W 0 rfl rfl (k4) rfl ?_))) <;> (first | exact rp W 0 rfl rfl rfl (.int (by clear k1 k2 k3 k4; simp_all [partsZ] <;> intros <;> exfalso <;> omega)))

end Pf
/- The law of TermOk -/
namespace Pf
open Go Go.Proofs
/-- A node of a term, and terms. -/
abbrev Nd := Int × Int × List UInt8
def nodeV (x : Nd) : AV := .agg [.int .i64 x.1, .int .i64 x.2.1, .str x.2.2]
def nodeR (l : List Nd) (i : Nat) : List AV := [.int .i64 (l.getD i (0, 0, [])).1, .int .i64 (l.getD i (0, 0, [])).2.1, .str (l.getD i (0, 0, [])).2.2]
abbrev termV (l : List Nd) : AV := .agg [.fz l.length (nodeR l)]
noncomputable def pz (x : Nd) : Int := partsZ x.1 x.2.1 x.2.2
/-- How deep the stack is behind the first i nodes; none: a node found too few parts. -/
noncomputable def dep (l : List Nd) : Nat → Option Int
  | 0 => some 0
  | i + 1 => match dep l i with
    | none => none
    | some d => if pz (l.getD i (0, 0, [])) < 0 ∨ d < pz (l.getD i (0, 0, [])) then none else some (d - pz (l.getD i (0, 0, [])) + 1)
def termP (l : List Nd) : Prop := l.length ≤ 100 ∧ dep l l.length = some 1
/-- Each text is no longer than a text may be. -/
def txtOk (l : List Nd) : Prop := ∀ i, i < l.length → (l.getD i (0, 0, [])).2.2.length ≤ 281474976710656
theorem dep_rng {l : List Nd} : ∀ {i : Nat} {d : Int}, dep l i = some d → 0 ≤ d ∧ d ≤ i
  | 0, d, h => by simp only [dep, Option.some.injEq] at h; omega
  | i + 1, d, h => by
    simp only [dep] at h
    split at h
    · cases h
    · rename_i d' hd
      have := dep_rng hd
      split at h
      · cases h
      · cases h
        omega
theorem dep_none {l : List Nd} {i : Nat} (h : dep l i = none) : ∀ {j : Nat}, i ≤ j → dep l j = none := by
  intro j hj
  induction j with
  | zero => rw [show i = 0 by omega] at h; exact h
  | succ j ih =>
    rcases (by omega : i = j + 1 ∨ i ≤ j) with rfl | h2
    · exact h
    · simp only [dep, ih h2]
theorem specTermOk_ok (l : List Nd) (hx : txtOk l) (hl : l.length ≤ 1048576) : AFunP Tryd.prog 10 [termV l] (· = .pr (termP l)) := by
  refine afun_of Tryd.func10 Tryd.call10 rfl Tryd.ntmps10 rfl ?_
  have W : Walk Tryd.prog TT 10 _ := Walk.of TT_ok Tryd.func10 Tryd.results10
  refine sp W 0 rfl rfl rfl (fun h1 => ?_) (fun h1 => ?_)
  · refine rp W 0 rfl rfl rfl (.no (fun k => by have := k.1; omega))
  refine lp W 0 (σ := Nat × Int) (fun s => [(1, .ptr 0 0 0 0), (3, .int .i64 s.2), (4, .int .i64 s.1)]) (fun _ => [.lst 0 [[.fz l.length (nodeR l)]]]) (fun s => l.length - s.1) (fun s => s.1 ≤ l.length ∧ dep l s.1 = some s.2) (0, 0) [1, 3, 4] rfl rfl rfl ⟨Nat.zero_le _, rfl⟩ ?_
  rintro ⟨i, d⟩ ⟨hi, he⟩ ih
  dsimp only at hi he ih ⊢
  have hr := dep_rng he
  refine sp W 0 rfl rfl rfl (fun h2 => ?_) (fun h2 => ?_)
  · have h2 : i < l.length := by omega
    have kp := l12Args_ok (l.getD i (0, 0, [])).1 (l.getD i (0, 0, [])).2.1 (l.getD i (0, 0, [])).2.2 (hx i h2)
    have hd : dep l (i + 1) = if partsZ (l.getD i (0, 0, [])).1 (l.getD i (0, 0, [])).2.1 (l.getD i (0, 0, [])).2.2 < 0 ∨ d < partsZ (l.getD i (0, 0, [])).1 (l.getD i (0, 0, [])).2.1 (l.getD i (0, 0, [])).2.2 then none else some (d - partsZ (l.getD i (0, 0, [])).1 (l.getD i (0, 0, [])).2.1 (l.getD i (0, 0, [])).2.2 + 1) := by
      simp only [dep, he]; rfl
    refine ce W 0 rfl rfl (kp) rfl ?_
    generalize partsZ (l.getD i (0, 0, [])).1 (l.getD i (0, 0, [])).2.1 (l.getD i (0, 0, [])).2.2 = z at *
    refine sp W 0 rfl rfl rfl (fun a1 => ?_) (fun a1 => ?_)
    · have hn := dep_none (hd.trans (if_pos (.inl a1))) (show i + 1 ≤ l.length by omega)
      refine rp W 0 rfl rfl rfl (.no (fun k => by have := k.2; rw [hn] at this; cases this))
    refine sp W 0 rfl rfl rfl (fun a2 => ?_) (fun a2 => ?_)
    · have hn := dep_none (hd.trans (if_pos (.inr a2))) (show i + 1 ≤ l.length by omega)
      refine rp W 0 rfl rfl rfl (.no (fun k => by have := k.2; rw [hn] at this; cases this))
    rw [if_neg (by omega)] at hd
    refine bd W 0 1 [1, 3, 4] rfl rfl rfl rfl rfl (ih (i + 1, d - z + 1) ⟨by dsimp only; omega, hd⟩ (by dsimp only; omega))
  · have hil : i = l.length := by omega
    subst hil
    refine rp W 0 rfl rfl rfl (.pr ⟨fun e => ⟨by omega, by rw [he, e]⟩, fun k => by have := k.2; rw [he] at this; cases this; rfl⟩)
theorem implTermOk_ok (l : List Nd) (hx : txtOk l) (hl : l.length ≤ 1048576) : AFunP Tryd.prog 12 [termV l] (· = .pr (termP l)) := by
  refine afun_of Tryd.func12 Tryd.call12 rfl Tryd.ntmps12 rfl ?_
  have W : Walk Tryd.prog TT 12 _ := Walk.of TT_ok Tryd.func12 Tryd.results12
  refine lp W 0 (σ := Nat × Int) (fun s => [(1, .ptr 0 0 0 0), (3, .int .i64 s.2), (8, .fz l.length (nodeR l)), (9, .int .i64 l.length), (10, .int .i64 s.1)]) (fun _ => [.lst 0 [[.fz l.length (nodeR l)]]]) (fun s => l.length - s.1) (fun s => s.1 ≤ l.length ∧ dep l s.1 = some s.2) (0, 0) [1, 3, 8, 9, 10] rfl rfl rfl ⟨Nat.zero_le _, rfl⟩ ?_
  rintro ⟨i, d⟩ ⟨hi, he⟩ ih
  dsimp only at hi he ih ⊢
  have hr := dep_rng he
  refine sp W 0 rfl rfl rfl (fun h2 => ?_) (fun h2 => ?_)
  · have h2 : i < l.length := by omega
    have kp := parts_ok (l.getD i (0, 0, [])).1 (l.getD i (0, 0, [])).2.1 (l.getD i (0, 0, [])).2.2 (hx i h2)
    have hd : dep l (i + 1) = if partsZ (l.getD i (0, 0, [])).1 (l.getD i (0, 0, [])).2.1 (l.getD i (0, 0, [])).2.2 < 0 ∨ d < partsZ (l.getD i (0, 0, [])).1 (l.getD i (0, 0, [])).2.1 (l.getD i (0, 0, [])).2.2 then none else some (d - partsZ (l.getD i (0, 0, [])).1 (l.getD i (0, 0, [])).2.1 (l.getD i (0, 0, [])).2.2 + 1) := by
      simp only [dep, he]; rfl
    refine ce W 0 rfl rfl (kp) rfl ?_
    generalize partsZ (l.getD i (0, 0, [])).1 (l.getD i (0, 0, [])).2.1 (l.getD i (0, 0, [])).2.2 = z at *
    refine sp W 0 rfl rfl rfl (fun a1 => ?_) (fun a1 => ?_)
    · have hn := dep_none (hd.trans (if_pos (.inl a1))) (show i + 1 ≤ l.length by omega)
      refine rp W 0 rfl rfl rfl (.no (fun k => by have := k.2; rw [hn] at this; cases this))
    refine sp W 0 rfl rfl rfl (fun a2 => ?_) (fun a2 => ?_)
    · have hn := dep_none (hd.trans (if_pos (.inr a2))) (show i + 1 ≤ l.length by omega)
      refine rp W 0 rfl rfl rfl (.no (fun k => by have := k.2; rw [hn] at this; cases this))
    rw [if_neg (by omega)] at hd
    rw [show d - z + 1 = d + (1 - z) by omega] at hd
    refine bd W 0 1 [1, 3, 8, 9, 10] rfl rfl rfl rfl rfl (ih (i + 1, d + (1 - z)) ⟨by dsimp only; omega, hd⟩ (by dsimp only; omega))
  · have hil : i = l.length := by omega
    subst hil
    refine sp W 0 rfl rfl rfl (fun b1 => ?_) (fun b1 => ?_)
    · refine rp W 0 rfl rfl rfl (.pr ⟨fun e => ⟨by omega, by rw [he, b1]⟩, fun k => by have := k.1; omega⟩)
    · refine rp W 0 rfl rfl rfl (.no (fun k => by have := k.2; rw [he] at this; cases this; exact b1 rfl))
theorem szNode_ok (x : Nd) (left : Int) (hl : 0 ≤ left ∧ left ≤ 1048576) (hx : x.2.2.length ≤ 9223372036854775807) : AFunP Tryd.prog 71 [nodeV x, .int .i64 left] (· = .int .i64 (if left < x.2.2.length then -1 else left - x.2.2.length)) := by
  unfold nodeV
  refine afun_of Tryd.func71 Tryd.call71 rfl Tryd.ntmps71 rfl ?_
  have W : Walk Tryd.prog TT 71 _ := Walk.of TT_ok Tryd.func71 Tryd.results71
  refine sp W 0 rfl rfl rfl (fun h1 => ?_) (fun h1 => ?_)
  · refine rp W 0 rfl rfl rfl (.int (by rw [if_pos (by omega)]))
  · refine rp W 0 rfl rfl rfl (.int (by rw [if_neg (by omega)]))
theorem toNode_ok (x : Nd) : AFunP Tryd.prog 74 [nodeV x] (· = nodeV x) := by
  unfold nodeV
  refine afun_of Tryd.func74 Tryd.call74 rfl Tryd.ntmps74 rfl ?_
  have W : Walk Tryd.prog TT 74 _ := Walk.of TT_ok Tryd.func74 Tryd.results74
  refine rp W 0 rfl rfl rfl (.refl)
theorem eqNode_ok (x y : Nd) : AFunP Tryd.prog 77 [nodeV x, nodeV y] (· = .pr (x = y)) := by
  unfold nodeV
  refine afun_of Tryd.func77 Tryd.call77 rfl Tryd.ntmps77 rfl ?_
  have W : Walk Tryd.prog TT 77 _ := Walk.of TT_ok Tryd.func77 Tryd.results77
  refine sp W 0 rfl rfl rfl (fun h1 => ?_) (fun h1 => ?_)
  · refine rp W 0 rfl rfl rfl (.no (fun k => by subst k; exact h1 rfl))
  refine sp W 0 rfl rfl rfl (fun h2 => ?_) (fun h2 => ?_)
  · refine rp W 0 rfl rfl rfl (.no (fun k => by subst k; exact h2 rfl))
  refine sp W 0 rfl rfl rfl (fun h3 => ?_) (fun h3 => ?_)
  · refine rp W 0 rfl rfl rfl (.no (fun k => by subst k; exact h3 rfl))
  · refine rp W 0 rfl rfl rfl (.yes (Prod.ext (Classical.not_not.1 h1) (Prod.ext (Classical.not_not.1 h2) (Classical.not_not.1 h3))))
theorem eqNodeS_ok (l m : List Nd) (hl : l.length ≤ 1048576) (hm : m.length ≤ 1048576) : AFunP Tryd.prog 41 [.fz l.length (nodeR l), .fz m.length (nodeR m)] (· = .pr (l = m)) := by
  refine afun_of Tryd.func41 Tryd.call41 rfl Tryd.ntmps41 rfl ?_
  have W : Walk Tryd.prog TT 41 _ := Walk.of TT_ok Tryd.func41 Tryd.results41
  refine sp W 0 rfl rfl rfl (fun h1 => ?_) (fun h1 => ?_)
  · refine rp W 0 rfl rfl rfl (.no (fun k => by subst k; omega))
  have h1 : l.length = m.length := by omega
  refine lp W 0 (σ := Nat) (fun i => [(0, .fz l.length (nodeR l)), (1, .fz m.length (nodeR m)), (5, .int .i64 i)]) (fun _ => []) (fun i => l.length - i) (fun i => i ≤ l.length ∧ ∀ j, j < i → l.getD j (0, 0, []) = m.getD j (0, 0, [])) 0 [0, 1, 5] rfl rfl rfl ⟨Nat.zero_le _, fun j hj => by omega⟩ ?_
  rintro i ⟨hi, he⟩ ih
  refine sp W 0 rfl rfl rfl (fun h2 => ?_) (fun h2 => ?_)
  · have h2 : i < l.length := by omega
    have kq := eqNode_ok (l.getD i (0, 0, [])) (m.getD i (0, 0, []))
    refine dre W 0 10 [] [.pr (l.getD i (0, 0, []) = m.getD i (0, 0, []))] rfl rfl rfl ⟨kq.at rfl _, trivial⟩ rfl ?_
    refine sp W 0 rfl rfl rfl (fun h3 => ?_) (fun h3 => ?_)
    · refine rp W 0 rfl rfl rfl (.no (fun k => by subst k; exact h3 rfl))
    · refine bd W 0 0 [0, 1, 5] rfl rfl rfl rfl rfl (ih (i + 1) ⟨by omega, fun j hj => ?_⟩ (by omega))
      by_cases hji : j = i
      · subst hji; exact Classical.not_not.1 h3
      · exact he j (by omega)
  · have hfin : l = m := List.ext_getElem h1 fun j h3 h4 => by
      have := he j (by omega)
      simpa [List.getD_eq_getElem?_getD, h3, h4] using this
    refine rp W 0 rfl rfl rfl (.yes hfin)
theorem eqTerm_ok (l m : List Nd) (hl : l.length ≤ 1048576) (hm : m.length ≤ 1048576) : AFunP Tryd.prog 13 [termV l, termV m] (· = .pr (l = m)) := by
  refine afun_of Tryd.func13 Tryd.call13 rfl Tryd.ntmps13 rfl ?_
  have W : Walk Tryd.prog TT 13 _ := Walk.of TT_ok Tryd.func13 Tryd.results13
  refine ce W 0 rfl rfl (eqNodeS_ok l m hl hm) rfl ?_
  refine sp W 0 rfl rfl rfl (fun h1 => ?_) (fun h1 => ?_)
  · refine rp W 0 rfl rfl rfl (.no h1)
  · refine rp W 0 rfl rfl rfl (.yes (Classical.not_not.1 h1))
theorem toNodeS_ok (l : List Nd) (hl : l.length ≤ 1048576) : AFunP Tryd.prog 39 [.fz l.length (nodeR l)] (· = .fz l.length (nodeR l)) := by
  refine afun_of Tryd.func39 Tryd.call39 rfl Tryd.ntmps39 rfl ?_
  have W : Walk Tryd.prog TT 39 _ := Walk.of TT_ok Tryd.func39 Tryd.results39
  refine lp W 0 (σ := Nat × (Nat → Int) × (Nat → Int) × (Nat → List UInt8)) (fun s => [(0, .fz l.length (nodeR l)), (3, .sl 0 0 0 l.length), (4, .int .i64 s.1)]) (fun s => [.tab 0 l.length fun j => [.int .i64 (s.2.1 j), .int .i64 (s.2.2.1 j), .str (s.2.2.2 j)]]) (fun s => l.length - s.1) (fun s => s.1 ≤ l.length ∧ ∀ j, j < s.1 → (s.2.1 j, s.2.2.1 j, s.2.2.2 j) = l.getD j (0, 0, [])) (0, fun _ => 0, fun _ => 0, fun _ => []) [0, 3, 4] rfl rfl rfl ⟨Nat.zero_le _, fun j hj => by omega⟩ ?_
  rintro ⟨i, F, G, S⟩ ⟨hi, he⟩ ih
  dsimp only at hi he ih ⊢
  refine sp W 0 rfl rfl rfl (fun h2 => ?_) (fun h2 => ?_)
  · have h2 : i < l.length := by omega
    refine ce W 0 rfl rfl (toNode_ok (l.getD i (0, 0, []))) rfl ?_
    refine bd W 0 1 [0, 3, 4] rfl rfl rfl rfl rfl (ih (i + 1, fun j => if j = i then (l.getD i (0, 0, [])).1 else F j, fun j => if j = i then (l.getD i (0, 0, [])).2.1 else G j, fun j => if j = i then (l.getD i (0, 0, [])).2.2 else S j) ⟨by dsimp only; omega, fun j hj => ?_⟩ (by dsimp only; omega))
    dsimp only at hj ⊢
    by_cases hji : j = i
    · subst hji; rw [if_pos rfl, if_pos rfl, if_pos rfl]
    · rw [if_neg hji, if_neg hji, if_neg hji]; exact he j (by omega)
  · refine rp W 0 rfl rfl rfl (.fzn rfl fun j hj => ?_)
    show [AV.int .i64 (F j), AV.int .i64 (G j), AV.str (S j)] = nodeR l j
    have e := he j (by omega)
    unfold nodeR
    rw [← e]
theorem toTerm_ok (l : List Nd) (hl : l.length ≤ 1048576) : AFunP Tryd.prog 11 [termV l] (· = termV l) := by
  refine afun_of Tryd.func11 Tryd.call11 rfl Tryd.ntmps11 rfl ?_
  have W : Walk Tryd.prog TT 11 _ := Walk.of TT_ok Tryd.func11 Tryd.results11
  refine ce W 0 rfl rfl (toNodeS_ok l hl) rfl ?_
  refine rp W 0 rfl rfl rfl (.refl)
theorem szNodeS_ok (l : List Nd) (left : Int) (hl : 0 ≤ left ∧ left ≤ 1048576) (hm : l.length ≤ 9223372036854775807) (hx : ∀ i, i < l.length → (l.getD i (0, 0, [])).2.2.length ≤ 9223372036854775807) : AFunP Tryd.prog 37 [.fz l.length (nodeR l), .int .i64 left] (fun u => ∃ n, u = .int .i64 n ∧ (0 ≤ n → l.length ≤ left ∧ ∀ i, i < l.length → ((l.getD i (0, 0, [])).2.2.length : Int) ≤ left)) := by
  refine afun_of Tryd.func37 Tryd.call37 rfl Tryd.ntmps37 rfl ?_
  have W : Walk Tryd.prog TT 37 _ := Walk.of TT_ok Tryd.func37 Tryd.results37
  refine sp W 0 rfl rfl rfl (fun h1 => ?_) (fun h1 => ?_)
  · refine rq W 0 rfl rfl (.int .i64 (-1)) (⟨_, rfl, fun k => by omega⟩) rfl .refl
  refine lp W 0 (σ := Nat × Int) (fun s => [(0, .fz l.length (nodeR l)), (1, .int .i64 s.2), (5, .int .i64 s.1)]) (fun _ => []) (fun s => l.length - s.1) (fun s => s.1 ≤ l.length ∧ (0 ≤ s.2 ∧ s.2 ≤ left) ∧ ∀ j, j < s.1 → ((l.getD j (0, 0, [])).2.2.length : Int) ≤ left) (0, left - l.length) [0, 1, 5] rfl rfl rfl ⟨Nat.zero_le _, ⟨by dsimp only; omega, by dsimp only; omega⟩, fun j hj => by omega⟩ ?_
  rintro ⟨i, d⟩ ⟨hi, hd, he⟩ ih
  dsimp only at hi hd he ih ⊢
  refine sp W 0 rfl rfl rfl (fun h2 => ?_) (fun h2 => ?_)
  · have h2 : i < l.length := by omega
    have hxi := hx i h2
    refine ce W 0 rfl rfl (szNode_ok (l.getD i (0, 0, [])) d ⟨by omega, by omega⟩ hxi) rfl ?_
    refine sp W 0 rfl rfl rfl (fun h3 => ?_) (fun h3 => ?_)
    · refine rq W 0 rfl rfl (.int .i64 (-1)) (⟨_, rfl, fun k => by omega⟩) rfl .refl
    · by_cases h4 : d < (l.getD i (0, 0, [])).2.2.length
      · rw [if_pos h4] at h3; exact absurd (by omega) h3
      · simp only [if_neg h4]
        refine bd W 0 0 [0, 1, 5] rfl rfl rfl rfl rfl (ih (i + 1, d - (l.getD i (0, 0, [])).2.2.length) ⟨by dsimp only; omega, ⟨by dsimp only; omega, by dsimp only; omega⟩, fun j hj => ?_⟩ (by dsimp only; omega))
        by_cases hji : j = i
        · subst hji; omega
        · exact he j (by dsimp only at hj; omega)
  · refine rq W 0 rfl rfl (.int .i64 d) (⟨_, rfl, fun k => ⟨by omega, fun j hj => he j (by omega)⟩⟩) rfl .refl
theorem szTerm_ok (l : List Nd) (hm : l.length ≤ 9223372036854775807) (hx : ∀ i, i < l.length → (l.getD i (0, 0, [])).2.2.length ≤ 9223372036854775807) : AFunP Tryd.prog 9 [termV l, .int .i64 1048576] (fun u => ∃ n, u = .int .i64 n ∧ (0 ≤ n → l.length ≤ 1048576 ∧ txtOk l)) := by
  refine afun_of Tryd.func9 Tryd.call9 rfl Tryd.ntmps9 rfl ?_
  have W : Walk Tryd.prog TT 9 _ := Walk.of TT_ok Tryd.func9 Tryd.results9
  refine cq W 0 rfl rfl (szNodeS_ok l 1048576 ⟨by omega, by omega⟩ hm hx) ?_
  rintro _ ⟨n, rfl, hn⟩
  refine ⟨_, rfl, ?_⟩
  refine sp W 0 rfl rfl rfl (fun h1 => ?_) (fun h1 => ?_)
  · refine rq W 0 rfl rfl (.int .i64 (-1)) (⟨_, rfl, fun k => by omega⟩) rfl .refl
  · refine rq W 0 rfl rfl (.int .i64 n) (⟨_, rfl, fun k => ⟨by have := (hn k).1; omega, fun i hi => by have := (hn k).2 i hi; omega⟩⟩) rfl .refl
theorem fnTermOk_law (l : List Nd) (hm : l.length ≤ 9223372036854775807) (hx : ∀ i, i < l.length → (l.getD i (0, 0, [])).2.2.length ≤ 9223372036854775807) : AFunP Tryd.prog 3 [termV l] (· = .pr True) := by
  refine afun_of Tryd.func3 Tryd.call3 rfl Tryd.ntmps3 rfl ?_
  have W : Walk Tryd.prog TT 3 _ := Walk.of TT_ok Tryd.func3 Tryd.results3
  refine cq W 0 rfl rfl (szTerm_ok l hm hx) ?_
  rintro _ ⟨n, rfl, hn⟩
  refine ⟨_, rfl, ?_⟩
  refine sp W 0 rfl rfl rfl (fun h1 => ?_) (fun h1 => ?_)
  · refine rp W 0 rfl rfl rfl (.yes trivial)
  obtain ⟨hl, ht⟩ := hn (by omega)
  have k1 := toTerm_ok l hl
  refine ce W 0 rfl rfl (k1) rfl ?_
  refine ce W 0 rfl rfl (specTermOk_ok l ht hl) rfl ?_
  refine ce W 0 rfl rfl (k1) rfl ?_
  refine ce W 0 rfl rfl (implTermOk_ok l ht hl) rfl ?_
  refine sp W 0 rfl rfl rfl (fun h2 => ?_) (fun h2 => ?_)
  · exact absurd Iff.rfl h2
  refine dre W 0 5 [] [termV l, .pr (l = l)] rfl rfl rfl ⟨k1.at rfl _, (eqTerm_ok l l hl hl).at rfl _, trivial⟩ rfl ?_
  refine sp W 0 rfl rfl rfl (fun h3 => ?_) (fun h3 => ?_)
  · exact absurd rfl h3
  · refine rp W 0 rfl rfl rfl (.yes trivial)
end Pf
/- What the laid variables hold -/
namespace Pf
open Go Go.Proofs
open Go.RowKit
theorem open_strs {P : Program} {H : Type} {enc : TypeId × Value → H} {w : World} {base : Nat} {spare : Nat → Bool} {held : Bool} {fuel : Nat} {t e : TypeId} {cs : List Value} {p : List MemPlace} (ht : P.underlying t = some (.slice e)) (he : P.underlying e = some .string) (hc : P.cellsOf e = 1)
    {ws : List (List UInt8)} (hw : ws ≠ []) (h : DataW.trod enc P w base spare held fuel t cs = some (.slice (ws.map fun s => .lit (.string s)) [], p)) : VRs (worldFM w) noB [.fz ws.length fun i => [.str (ws.getD i [])]] cs := by
  rcases Go.Deep.open_slice ht h with ⟨_, h2⟩ | ⟨a, len, cap, m, n, D, Pl, rfl, _, hl, hm, hmm, hx, hel⟩
  · cases (Prod.mk.inj h2).1
  have hle : len ≤ m := by rw [hmm]; split <;> omega
  have e1 : ws.map (fun s => (DataW.lit (.string s) : DataW H)) = (List.range len).map D := (DataW.slice.inj (Prod.mk.inj hx).1).1
  have el : ws.length = len := by have := congrArg List.length e1; simpa using this
  have eD : ∀ i, i < len → D i = .lit (.string (ws.getD i [])) := by
    intro i hi
    have := congrArg (fun l => l[i]?) e1
    simp only [List.getElem?_map, List.getElem?_range, hi, Option.map_some] at this
    rw [List.getElem?_eq_getElem (by omega : i < ws.length)] at this
    simp only [Option.map_some, Option.some.injEq] at this
    rw [← this]
    simp [List.getD_eq_getElem?_getD, show i < ws.length by omega]
  have each : ∀ i, i < len → ∃ s : ByteArray, s.data.toList = ws.getD i [] ∧ w.cell? (a.add i) = some (.string s) := by
    intro i hi
    obtain ⟨cs', h1, h2⟩ := hel i (by omega)
    obtain ⟨s, rfl, h3, _⟩ := DataW.trod_string he h2
    obtain ⟨_, _, h6⟩ := World.cells?_some h1
    rw [hc] at h6
    have h7 := h6 0 (by omega)
    rw [Nat.mul_one] at h7
    refine ⟨s, ?_, by simpa [Addr.add] using h7⟩
    have h8 := (Prod.mk.inj h3).1
    rw [eD i hi] at h8
    injection h8 with h9
    injection h9 with h9
    exact h9.symm
  have hpos : 0 < len := by rw [← el]; exact List.length_pos_iff.2 hw
  have ha : a = ⟨a.block, a.off, none⟩ := by
    obtain ⟨s, _, h4⟩ := each 0 hpos
    exact cell_spot (by simpa [Addr.add] using h4)
  rw [el]
  refine .single ?_
  rw [ha]
  let f : Nat → Value := fun i => if h : i < len then .string (each i h).choose else undef
  have hf : ∀ i, i < len → ∃ s : ByteArray, f i = .string s ∧ s.data.toList = ws.getD i [] ∧ w.cell? (a.add i) = some (f i) := fun i hi => by
    have := (each i hi).choose_spec
    simp only [f, dif_pos hi]
    exact ⟨_, rfl, this.1, this.2⟩
  refine .fz (sz := 1) (fun i _ => f i) (by omega) hl (fun i hi => rfl) (fun i j hi hj => ?_) (fun i j hi hj => ?_) (fun i j hi hj => ?_)
  · obtain ⟨s, h1, h2, h3⟩ := hf i hi
    rw [ha, addr_add] at h3
    unfold worldFM
    rw [show j = 0 by omega, Nat.mul_one, Nat.add_zero]
    exact h3
  · obtain ⟨s, h1, h2, h3⟩ := hf i hi
    rw [h1]; rfl
  · obtain ⟨s, h1, h2, h3⟩ := hf i hi
    have : j = 0 := by simpa using hj
    subst this
    rw [h1]
    exact .str h2
theorem var_one {P : Program} {w : World} {n : String} {g : Nat} {cs : Array Value} (hg : P.globalNamed n = some g) (hv : w.var? P n = some cs) {a : AV} (h : VRs (worldFM w) noB [a] cs.toList) : ∃ c, worldFM w g 0 = some c ∧ VR (worldFM w) noB a c := by
  obtain ⟨h1, h2⟩ := h
  have h3 := h2 0 (by simp)
  have hl : 0 < cs.size := by have : 1 = cs.toList.length := h1; simp at this; omega
  refine ⟨cs[0], ?_, ?_⟩
  · show w.cell? ⟨g, 0, none⟩ = _
    rw [World.var?_cell hg hv 0]
    simp [hl]
  · have e : cs.toList.getD 0 undef = cs[0] := by simp [List.getD_eq_getElem?_getD, hl]
    rw [e] at h3
    exact h3
theorem iface_of {P : Program} {H : Type} {enc : TypeId × Value → H} {w : World} {base : Nat} {spare : Nat → Bool} {fuel : Nat} {t : TypeId} {ms : Array (String × TypeId)} {cs : List Value} {nm : String} {d : DataW H} {p : List MemPlace} (ht : P.underlying t = some (.interface ms)) (h : DataW.trod enc P w base spare false fuel t cs = some (.iface nm d, p)) : ∃ u v, cs = [.iface u v] := by
  cases fuel with
  | zero => simp [DataW.trod] at h
  | succ n =>
    unfold DataW.trod at h
    rw [ht] at h
    split at h <;> simp_all
theorem var_iface {P : Program} {w : World} {n : String} {g : Nat} {cs : Array Value} (hg : P.globalNamed n = some g) (hv : w.var? P n = some cs) {u : TypeId} {v : Value} (h : cs.toList = [.iface u v]) : ∃ ev, worldFM w g 0 = some ev ∧ (ev = .nilIface ∨ ∃ te pe, ev = .iface te pe) := by
  refine ⟨.iface u v, ?_, .inr ⟨u, v, rfl⟩⟩
  show w.cell? ⟨g, 0, none⟩ = _
  rw [World.var?_cell hg hv 0]
  obtain ⟨l⟩ := cs
  simp only at h
  subst h
  rfl
end Pf
/- A nil slice in a temporary, as an empty block of its own. -/
namespace Pf
open Go
variable {P : Program} {TT : TypeId → Option TI} {f N n0 : Nat} {k : List Item} {T : Env} {H : AHeap} {R : AV → AHeap → Prop}

/-- The temporary 'd' holds no cells: from here on it is a slice of an empty block, at the heap's end. -/
theorem go_nilT (d : Nat) (blk : ABlk) {v : AV} {rowE : Nat → List AV} {T1 : Env} {H2 : AHeap} (et : getM T d = some v) (en : isNil v = true)
    (eb : blk.view = some (0, 0, rowE)) (e1 : putM d (.sl (lenM H) 0 0 0) T = some T1) (e4 : appM H [blk] = some H2)
    (h : AGo P f N n0 k T1 H2 R) : AGo P f N n0 k T H R := by
  intro FM β bf cs a w a1 a2 a3 a4 hT hH hl
  rw [appM_eq] at e4
  cases e4
  simp only [lenM_eq] at *
  let β1 : BMap := fun b g => if b = H.length ∧ g = 0 then some none else β b g
  have hnone : ∀ g, β H.length g = none := by
    intro g
    cases hb : β H.length g with
    | none => rfl
    | some lo => have := (hH.dom _ _ _ hb).1; omega
  have hβ : ∀ b g lo, β b g = some lo → β1 b g = some lo := by
    intro b g lo hb
    simp only [β1]
    split
    · rename_i h1
      obtain ⟨rfl, rfl⟩ := h1
      rw [hnone] at hb; cases hb
    · exact hb
  have some1 : ∀ {i g : Nat} {L : Loc}, β1 i g = some (some L) → β i g = some (some L) := by
    intro i g L hi
    simp only [β1] at hi
    split at hi
    · cases hi
    · exact hi
  have get : ∀ {i : Nat} {bl : ABlk}, (H ++ [blk])[i]? = some bl → (i < H.length ∧ H[i]? = some bl) ∨ (i = H.length ∧ bl = blk) := by
    intro i bl hi
    rcases Nat.lt_or_ge i H.length with h1 | h1
    · rw [List.getElem?_append_left h1] at hi; exact .inl ⟨h1, hi⟩
    · rw [List.getElem?_append_right h1] at hi
      obtain ⟨h2, h3⟩ := List.getElem?_eq_some_iff.1 hi
      simp at h2
      have : i = H.length := by omega
      subst this
      simp at h3
      exact .inr ⟨rfl, h3.symm⟩
  have hcell : ∀ {cv : Value}, VR FM β v cv → VR FM β1 (.sl H.length 0 0 0) cv := by
    intro cv h0
    have hb : β1 H.length 0 = some none := by simp [β1]
    cases h0 with
    | nils => exact .sl0 hb fun L h => by cases h
    | e0 => exact .sl0 hb fun L h => by cases h
    | _ => cases en
  have hR : RelH FM β1 (H ++ [blk]) w := by
    refine ⟨?_, ?_, ?_, hH.fm, ?_, hH.gk⟩
    · intro i bl g' m rw1 h1 h2
      rcases get h1 with ⟨hi, q1⟩ | ⟨rfl, rfl⟩
      · obtain ⟨lo, p1, p2⟩ := hH.mem i bl g' m rw1 q1 h2
        refine ⟨lo, hβ _ _ _ p1, ?_⟩
        cases lo with
        | none => exact p2
        | some L => exact MemOk.still p2 rfl hβ
      · rw [eb] at h2; cases h2
        exact ⟨none, by simp [β1], rfl⟩
    · intro b1 b2 k1 k2 g1 g2 n1 n2 row1 row2 L1 L2 h1 h2 h3 h4 h5 h6 h7
      have q3 := some1 h3
      have q6 := some1 h6
      rcases get h1 with ⟨_, x1⟩ | ⟨rfl, rfl⟩
      · rcases get h4 with ⟨_, x1'⟩ | ⟨rfl, rfl⟩
        · exact hH.inj b1 b2 k1 k2 g1 g2 n1 n2 row1 row2 L1 L2 x1 h2 q3 x1' h5 q6 h7
        · rw [hnone] at q6; cases q6
      · rw [hnone] at q3; cases q3
    · intro i bl g' m rw1 L h1 h2 h3
      have q3 := some1 h3
      rcases get h1 with ⟨_, x1⟩ | ⟨rfl, rfl⟩
      · exact hH.wid i bl g' m rw1 L x1 h2 q3
      · rw [hnone] at q3; cases q3
    · intro i g' lo hi
      simp only [β1] at hi
      split at hi
      · rename_i h1
        obtain ⟨rfl, rfl⟩ := h1
        exact ⟨by simp, fun _ _ _ _ _ _ => Nat.zero_le _⟩
      · obtain ⟨q1, q2⟩ := hH.dom i g' lo hi
        refine ⟨by simp; omega, fun bl g2 m rw1 h1 h2 => ?_⟩
        rcases get h1 with ⟨_, x1⟩ | ⟨rfl, rfl⟩
        · exact q2 bl g2 m rw1 x1 h2
        · omega
  have hT1 : RelT FM β1 T1 a := by
    intro e u he
    rw [getM_putM e1] at he
    split at he
    · rename_i hde
      subst hde
      cases he
      exact hcell (hT _ _ et)
    · exact (hT e u he).mono (fun _ _ _ h => h) hβ
  obtain ⟨v', w', fr, av, FM', β', H', h1, h2, h3, h4, h5⟩ := h FM β1 bf cs a w a1 a2 a3 a4 hT1 hR (by simp; omega)
  have himg : ∀ cb, cb < w.heap.size → Img β1 (H ++ [blk]) cb → Img β H cb := by
    intro cb _ hi
    obtain ⟨i, bl, g', m, rw1, L, q1, q2, q3, q4⟩ := hi
    have q3 := some1 q3
    rcases get q1 with ⟨_, x1⟩ | ⟨rfl, rfl⟩
    · exact ⟨i, bl, g', m, rw1, L, x1, q2, q3, q4⟩
    · rw [hnone] at q3; cases q3
  have hx : ExtB n0 FM β H w FM β1 (H ++ [blk]) w := ⟨fun _ _ _ h => h, fun b g lo _ e => hβ b g lo e, Nat.le_refl _, himg, fun _ _ _ => rfl, fun _ _ _ h => .inl h, by simp; omega, rfl, rfl, rfl⟩
  exact ⟨v', w', fr, av, FM', β', H', h1, h2, h3, hx.trans h4, h5⟩

end Pf
/- A temporary's value said otherwise. -/
namespace Pf
open Go
variable {P : Program} {TT : TypeId → Option TI} {f N n0 : Nat} {k : List Item} {T : Env} {H : AHeap} {R : AV → AHeap → Prop}
/-- The temporary 'd' is said to hold u, which is so wherever it holds v. -/
theorem go_sub (d : Nat) (u : AV) {v : AV} {T1 : Env} (e : getM T d = some v) (hs : Sub v u) (e1 : putM d u T = some T1) (h : AGo P f N n0 k T1 H R) : AGo P f N n0 k T H R :=
  fun FM β b cs a w a1 a2 a3 a4 hT hH hl => h FM β b cs a w a1 a2 a3 a4 (hT.refine e1 (hs _ _ _ (hT _ _ e))) hH hl
end Pf
/- Where parts begin and end: the model's l12Start, l12Parts -/
namespace Pf
open Go Go.Proofs
/-- Where the parts end that stand ahead of a place. -/
noncomputable def ends (l : List Nd) : Nat → List Nat
  | 0 => []
  | i + 1 => (ends l i).take ((ends l i).length - (pz (l.getD i (0, 0, []))).toNat) ++ [i]
/-- How many parts the node at a place has. -/
noncomputable def pn (l : List Nd) (i : Nat) : Nat := (pz (l.getD i (0, 0, []))).toNat
theorem ends_succ (l : List Nd) (i : Nat) : ends l (i + 1) = (ends l i).take ((ends l i).length - pn l i) ++ [i] := rfl
theorem ends_lt {l : List Nd} : ∀ {i x : Nat}, x ∈ ends l i → x < i
  | 0, x, h => by simp [ends] at h
  | i + 1, x, h => by
    rw [ends_succ] at h
    rcases List.mem_append.1 h with h | h
    · have := ends_lt (List.mem_of_mem_take h); omega
    · simp at h; omega
theorem ends_getD_lt {l : List Nd} {i k : Nat} (h : k < (ends l i).length) : (ends l i).getD k 0 < i := ends_lt (getD_mem h)
/-- Where the part begins that ends at a place. -/
noncomputable def st (l : List Nd) (i : Nat) : Nat :=
  if pn l i = 0 then i else
    if h : (ends l i).getD ((ends l i).length - pn l i) 0 < i then st l ((ends l i).getD ((ends l i).length - pn l i) 0) else i
termination_by i
/-- A term whose first n nodes find their parts. -/
def good (l : List Nd) (n : Nat) : Prop := ∀ i, i < n → 0 ≤ pz (l.getD i (0, 0, [])) ∧ pn l i ≤ (ends l i).length
theorem dep_ends {l : List Nd} : ∀ {n : Nat} {d : Int}, dep l n = some d → d = (ends l n).length ∧ good l n
  | 0, d, h => by
    simp only [dep, Option.some.injEq] at h
    exact ⟨by rw [← h]; rfl, fun i hi => by omega⟩
  | n + 1, d, h => by
    simp only [dep] at h
    split at h
    · cases h
    · rename_i d' hd
      obtain ⟨e, hg⟩ := dep_ends hd
      split at h
      · cases h
      · rename_i hz
        have hz1 : 0 ≤ pz (l.getD n (0, 0, [])) := by omega
        have hz2 : pn l n ≤ (ends l n).length := by unfold pn; omega
        have hz3 : ((pn l n : Nat) : Int) = pz (l.getD n (0, 0, [])) := by unfold pn; omega
        cases h
        refine ⟨?_, fun i hi => ?_⟩
        · rw [ends_succ, List.length_append, List.length_take]
          simp only [List.length_cons, List.length_nil]
          omega
        · rcases (by omega : i < n ∨ i = n) with h1 | rfl
          · exact hg i h1
          · exact ⟨hz1, hz2⟩
theorem ends_len {l : List Nd} {n i : Nat} (h : good l n) (hi : i < n) : (ends l (i + 1)).length = (ends l i).length - pn l i + 1 := by
  rw [ends_succ, List.length_append, List.length_take]
  simp only [List.length_cons, List.length_nil]
  omega
theorem ends_last {l : List Nd} {i : Nat} : (ends l (i + 1)).getD ((ends l (i + 1)).length - 1) 0 = i := by
  rw [ends_succ]
  simp [List.getD_eq_getElem?_getD]
theorem ends_old {l : List Nd} {n i k : Nat} (h : good l n) (hi : i < n) (hk : k < (ends l i).length - pn l i) : (ends l (i + 1)).getD k 0 = (ends l i).getD k 0 := by
  rw [ends_succ]
  simp only [List.getD_eq_getElem?_getD]
  rw [List.getElem?_append_left (by rw [List.length_take]; omega), List.getElem?_take, if_pos hk]
theorem st_leaf {l : List Nd} {i : Nat} (h : pn l i = 0) : st l i = i := by rw [st, if_pos h]
theorem st_node {l : List Nd} {n i : Nat} (hg : good l n) (hi : i < n) (h : pn l i ≠ 0) : st l i = st l ((ends l i).getD ((ends l i).length - pn l i) 0) := by
  have h2 := (hg i hi).2
  rw [st, if_neg h, dif_pos (ends_getD_lt (by omega))]
theorem st_le (l : List Nd) (i : Nat) : st l i ≤ i := by
  induction i using Nat.strongRecOn with
  | ind i ih =>
    rw [st]
    split
    · exact Nat.le_refl _
    · split
      · rename_i h
        have := ih _ h
        omega
      · exact Nat.le_refl _
theorem snoc_getD {B : List Int} {x : Int} {j : Nat} (hB : B.length = j) {i : Nat} (hi : i < j + 1) : (B ++ [x]).getD i 0 = if i < j then B.getD i 0 else x := by
  subst hB
  simp only [List.getD_eq_getElem?_getD]
  split
  · rw [List.getElem?_append_left (by omega)]
  · rw [show i = B.length by omega, List.getElem?_append_right (Nat.le_refl _)]
    simp
/-- Neighbours: a part begins where the one below ends. -/
theorem ends_nb {l : List Nd} {n : Nat} (hg : good l n) : ∀ {i : Nat}, i ≤ n → ∀ k, k + 1 < (ends l i).length → (ends l i).getD k 0 + 1 = st l ((ends l i).getD (k + 1) 0)
  | 0, _, k, hk => by simp [ends] at hk
  | i + 1, hi, k, hk => by
    have hl := ends_len hg (show i < n by omega)
    have h2 := (hg i (by omega)).2
    rw [hl] at hk
    have e0 := ends_old hg (show i < n by omega) (show k < (ends l i).length - pn l i by omega)
    rw [e0]
    rcases (by omega : k + 1 < (ends l i).length - pn l i ∨ k + 1 = (ends l i).length - pn l i) with h3 | h3
    · rw [ends_old hg (show i < n by omega) h3]
      exact ends_nb hg (by omega) k (by omega)
    · have e1 : (ends l (i + 1)).getD (k + 1) 0 = i := by
        have := ends_last (l := l) (i := i)
        rwa [hl, show (ends l i).length - pn l i + 1 - 1 = k + 1 by omega] at this
      rw [e1]
      by_cases hz : pn l i = 0
      · rw [st_leaf hz]
        cases i with
        | zero => simp [ends] at h3
        | succ j =>
          have := ends_last (l := l) (i := j)
          rw [show (ends l (j + 1)).length - 1 = k by omega] at this
          omega
      · rw [st_node hg (by omega) hz, ← h3]
        exact ends_nb hg (by omega) k (by omega)
/-- How deep the part is that ends at a place. -/
noncomputable def deep (l : List Nd) (i : Nat) : Int :=
  ((ends l i).drop ((ends l i).length - pn l i)).attach.foldl (fun m x => max m (deep l x.1)) 0 + 1
termination_by i
decreasing_by exact ends_lt (List.mem_of_mem_drop x.2)
theorem deep_eq (l : List Nd) (i : Nat) : deep l i = ((ends l i).drop ((ends l i).length - pn l i)).foldl (fun m x => max m (deep l x)) 0 + 1 := by
  rw [deep]
  congr 1
  have := List.foldl_map (f := Subtype.val) (g := fun m x => max m (deep l x)) (l := ((ends l i).drop ((ends l i).length - pn l i)).attach) (init := 0)
  rw [List.attach_map_subtype_val] at this
  exact this.symm
theorem ends_le (l : List Nd) : ∀ i, (ends l i).length ≤ i
  | 0 => Nat.le_refl _
  | i + 1 => by
    have := ends_le l i
    rw [ends_succ, List.length_append, List.length_take]
    simp only [List.length_cons, List.length_nil]
    omega
/-- The part that ends at a place begins at a place ahead. -/
theorem start_ok (l : List Nd) (n a : Nat) (hg : good l n) (ha : a < n) (hl : l.length ≤ 1048576) (hn : n ≤ l.length) (hx : txtOk l) : AFunP Tryd.prog 99 [termV l, .int .i64 a] (· = .int .i64 (st l a : Nat)) := by
  refine afun_of Tryd.func99 Tryd.call99 rfl Tryd.ntmps99 rfl ?_
  have W : Walk Tryd.prog TT 99 _ := Walk.of TT_ok Tryd.func99 Tryd.results99
  refine lp W 0 (σ := Int × Int) (fun s => [(2, .ptr 0 0 0 0), (5, .int .i64 s.2), (6, .int .i64 s.1)]) (fun _ => [.lst 0 [[.fz l.length (nodeR l)]]]) (fun s => s.1.toNat) (fun s => (0 ≤ s.1 ∧ s.1 ≤ a) ∧ 0 < s.2 ∧ s.2 ≤ (ends l (s.1.toNat + 1)).length ∧ st l ((ends l (s.1.toNat + 1)).getD ((ends l (s.1.toNat + 1)).length - s.2.toNat) 0) = st l a) ((a : Int), 1) [2, 5, 6] rfl rfl rfl
    ⟨⟨by dsimp only; omega, by dsimp only; omega⟩, by dsimp only; omega, by dsimp only; have := ends_len hg ha; rw [Int.toNat_natCast]; omega, by dsimp only; rw [Int.toNat_natCast, show (1 : Int).toNat = 1 from rfl, ends_last]⟩ ?_
  rintro ⟨iv, mv⟩ ⟨⟨hi0, hi⟩, hm0, hm1, hs⟩ ih
  dsimp only at hi0 hi hm0 hm1 hs ih ⊢
  obtain ⟨i, rfl⟩ : ∃ i : Nat, iv = i := ⟨iv.toNat, by omega⟩
  obtain ⟨m, rfl⟩ : ∃ m : Nat, mv = m := ⟨mv.toNat, by omega⟩
  simp only [Int.toNat_natCast] at hm1 hs
  have hin : i < n := by omega
  obtain ⟨z0, z1⟩ := hg i hin
  have hle := ends_le l i
  have hlen := ends_len hg hin
  have kp := l12Args_ok (l.getD i (0, 0, [])).1 (l.getD i (0, 0, [])).2.1 (l.getD i (0, 0, [])).2.2 (hx i (by omega))
  have hz : partsZ (l.getD i (0, 0, [])).1 (l.getD i (0, 0, [])).2.1 (l.getD i (0, 0, [])).2.2 = (pn l i : Nat) := by unfold pn; unfold pz at z0 ⊢; omega
  rw [hz] at kp
  have hl2 := ends_last (l := l) (i := i)
  refine ce W 0 rfl rfl (kp) rfl ?_
  refine sp W 0 rfl rfl rfl (fun b1 => ?_) (fun b1 => ?_)
  · have e1 : m = 1 := by omega
    have e2 : pn l i = 0 := by omega
    rw [e1, hl2, st_leaf e2] at hs
    refine rp W 0 rfl rfl rfl (.int (by omega))
  · have hpos : 1 ≤ i := by
      rcases (by omega : i = 0 ∨ 1 ≤ i) with rfl | h
      · have : (ends l 0).length = 0 := rfl
        omega
      · exact h
    refine bd W 0 1 [2, 5, 6] rfl rfl rfl rfl rfl (ih ((i : Int) - 1, (m : Int) - 1 + (pn l i : Nat)) ⟨⟨by dsimp only; omega, by dsimp only; omega⟩, by dsimp only; omega, ?_, ?_⟩ (by dsimp only; omega))
    · dsimp only
      rw [show ((i : Int) - 1).toNat + 1 = i by omega]
      omega
    · dsimp only
      rw [show ((i : Int) - 1).toNat + 1 = i by omega, show ((m : Int) - 1 + (pn l i : Nat)).toNat = m - 1 + pn l i by omega]
      rw [← hs]
      by_cases hm : m = 1
      · subst hm
        rw [hl2, st_node hg hin (by omega), Nat.sub_self, Nat.zero_add]
      · rw [ends_old hg hin (by omega)]
        congr 2
        omega
/-- The ends of the parts of a node. -/
noncomputable def parts (l : List Nd) (a : Nat) : List Nat := (ends l a).drop ((ends l a).length - pn l a)
theorem max_ok (x : Nd) (L : List Int) (hL : L.length ≤ 1048576) (hm : ∀ d ∈ L, 0 ≤ d ∧ d ≤ 1048576) : AFunP Tryd.prog 44 [nodeV x, .fi .i64 L] (· = .int .i64 (L.foldl (fun m x => max m x) 0 + 1)) := by
  unfold nodeV
  refine afun_of Tryd.func44 Tryd.call44 rfl Tryd.ntmps44 rfl ?_
  have W : Walk Tryd.prog TT 44 _ := Walk.of TT_ok Tryd.func44 Tryd.results44
  refine lp W 0 (σ := Nat × Int) (fun s => [(5, .int .i64 s.2), (8, .fi .i64 L), (9, .int .i64 L.length), (10, .int .i64 s.1)]) (fun _ => [.lst 0 [[.int .i64 x.1, .int .i64 x.2.1, .str x.2.2]]]) (fun s => L.length - s.1) (fun s => s.1 ≤ L.length ∧ (0 ≤ s.2 ∧ s.2 ≤ 1048576) ∧ s.2 = (L.take s.1).foldl (fun m x => max m x) 0) (0, 0) [5, 8, 9, 10] rfl rfl rfl ⟨Nat.zero_le _, ⟨by dsimp only; omega, by dsimp only; omega⟩, rfl⟩ ?_
  rintro ⟨i, m⟩ ⟨hi, hm0, he⟩ ih
  dsimp only at hi hm0 he ih ⊢
  refine sp W 0 rfl rfl rfl (fun h1 => ?_) (fun h1 => ?_)
  · have h1 : i < L.length := by omega
    have hmi := hm (L.getD i 0) (getD_mem h1)
    have et : L.take (i + 1) = L.take i ++ [L.getD i 0] := by
      rw [← List.take_append_getElem h1]; simp [List.getD_eq_getElem?_getD, h1]
    refine bd W 0 1 [5, 8, 9, 10] rfl rfl rfl rfl rfl (ih (i + 1, max m (L.getD (i : Int).toNat 0)) ⟨by dsimp only; omega, ⟨by dsimp only; rw [Int.toNat_natCast]; omega, by dsimp only; rw [Int.toNat_natCast]; omega⟩, ?_⟩ (by dsimp only; omega))
    dsimp only
    rw [et, List.foldl_append, ← he, Int.toNat_natCast]
    rfl
  · have e : L.take i = L := List.take_of_length_le (by omega)
    rw [e] at he
    refine rp W 0 rfl rfl rfl (.int (by rw [he]))
theorem parts_spec (l : List Nd) (n a : Nat) (hg : good l n) (ha : a < n) (hl : l.length ≤ 1048576) (hn : n ≤ l.length) (hx : txtOk l) : AFunP Tryd.prog 78 [termV l, .int .i64 a] (· = .fi .i64 ((parts l a).map Int.ofNat)) := by
  obtain ⟨z0, z1⟩ := hg a ha
  have hle := ends_le l a
  have kp := l12Args_ok (l.getD a (0, 0, [])).1 (l.getD a (0, 0, [])).2.1 (l.getD a (0, 0, [])).2.2 (hx a (by omega))
  have hz : partsZ (l.getD a (0, 0, [])).1 (l.getD a (0, 0, [])).2.1 (l.getD a (0, 0, [])).2.2 = (pn l a : Nat) := by unfold pn; unfold pz at z0 ⊢; omega
  rw [hz] at kp
  refine afun_of Tryd.func78 Tryd.call78 rfl Tryd.ntmps78 rfl ?_
  have W : Walk Tryd.prog TT 78 _ := Walk.of TT_ok Tryd.func78 Tryd.results78
  refine ce W 0 rfl rfl (kp) rfl ?_
  refine atl W rfl ?_
  refine go_nilT 5 (.ints 0 .i64 []) rfl rfl rfl rfl rfl ?_
  refine lp W 0 (σ := Nat × Int × Int × Nat × List Int) (fun s => [(2, .ptr 0 0 0 0), (5, .sl 1 s.2.2.2.1 0 s.1), (6, .int .i64 s.2.1), (7, .int .i64 s.2.2.1)]) (fun s => [.lst 0 [[.fz l.length (nodeR l)]], .ints s.2.2.2.1 .i64 s.2.2.2.2]) (fun s => pn l a - s.1)
    (fun s => s.1 ≤ pn l a ∧ s.2.2.1 = (pn l a : Int) - s.1 ∧ s.2.2.2.2.length = s.1 ∧ (s.1 < pn l a → s.2.1 = ((ends l a).getD ((ends l a).length - 1 - s.1) 0 : Nat)) ∧ ∀ j, j < s.1 → s.2.2.2.2.getD j 0 = ((ends l a).getD ((ends l a).length - 1 - j) 0 : Nat)) (0, (a : Int) - 1, (pn l a : Int), 0, []) [2, 5, 6, 7] rfl rfl rfl ⟨Nat.zero_le _, by dsimp only; omega, rfl, ?_, fun j hj => by omega⟩ ?_
  · intro h
    dsimp only at h ⊢
    obtain ⟨b, rfl⟩ : ∃ b, a = b + 1 := ⟨a - 1, by omega⟩
    have := ends_last (l := l) (i := b)
    rw [Nat.sub_zero, this]; omega
  rintro ⟨j, ev, kv, g, B⟩ ⟨hj, hk, hB, hev, hb⟩ ih
  dsimp only at hj hk hB hev hb ih ⊢
  refine sp W 0 rfl rfl rfl (fun h1 => ?_) (fun h1 => ?_)
  · have hjp : j < pn l a := by omega
    obtain rfl := hev hjp
    have he := ends_getD_lt (l := l) (i := a) (k := (ends l a).length - 1 - j) (by omega)
    have ks := start_ok l n ((ends l a).getD ((ends l a).length - 1 - j) 0) hg (by omega) hl hn hx
    have nb : j + 1 < pn l a → ((st l ((ends l a).getD ((ends l a).length - 1 - j) 0) : Nat) : Int) - 1 = ((ends l a).getD ((ends l a).length - 1 - (j + 1)) 0 : Nat) := fun h => by
      have := ends_nb hg (show a ≤ n by omega) ((ends l a).length - 1 - (j + 1)) (by omega)
      rw [show (ends l a).length - 1 - (j + 1) + 1 = (ends l a).length - 1 - j by omega] at this
      omega
    have hst : st l ((ends l a).getD ((ends l a).length - 1 - j) 0) ≤ 1048576 := by
      have := st_le l ((ends l a).getD ((ends l a).length - 1 - j) 0)
      omega
    generalize he0 : (ends l a).getD ((ends l a).length - 1 - j) 0 = e at *
    refine ce W 0 rfl rfl (ks) rfl ?_
    refine bd W 0 2 [2, 5, 6, 7] rfl rfl rfl rfl rfl (ih (j + 1, ((st l e : Nat) : Int) - 1, kv - 1, g + 1, B ++ [(e : Int)]) ⟨by dsimp only; omega, by dsimp only; omega, by dsimp only; simp; omega, fun h => nb h, fun i hi => ?_⟩ (by dsimp only; omega))
    dsimp only at hi ⊢
    rw [snoc_getD hB hi]
    split
    · exact hb i (by omega)
    · rw [show i = j by omega, he0]
  · have hjp : j = pn l a := by omega
    subst hjp
    refine atl W rfl ?_
    refine go_nilT 8 (.ints 0 .i64 []) rfl rfl rfl rfl rfl ?_
    refine lp W 0 (σ := Nat × Int × Nat × List Int) (fun s => [(5, .sl 1 g 0 (pn l a)), (8, .sl 2 s.2.2.1 0 s.1), (9, .int .i64 s.2.1)]) (fun s => [.lst 0 [[.fz l.length (nodeR l)]], .ints g .i64 B, .ints s.2.2.1 .i64 s.2.2.2]) (fun s => pn l a - s.1)
      (fun s => s.1 ≤ pn l a ∧ s.2.1 = (pn l a : Int) - 1 - s.1 ∧ s.2.2.2.length = s.1 ∧ ∀ j, j < s.1 → s.2.2.2.getD j 0 = B.getD (pn l a - 1 - j) 0) (0, (pn l a : Int) - 1, 0, []) [5, 8, 9] rfl rfl rfl ⟨Nat.zero_le _, by dsimp only; omega, rfl, fun j hj => by omega⟩ ?_
    rintro ⟨t, iv, g2, O⟩ ⟨ht, hiv, hO, ho⟩ ih2
    dsimp only at ht hiv hO ho ih2 ⊢
    refine sp W 0 rfl rfl rfl (fun h2 => ?_) (fun h2 => ?_)
    · refine bd W 0 3 [5, 8, 9] rfl rfl rfl rfl rfl (ih2 (t + 1, iv - 1, g2 + 1, O ++ [B.getD (addN 0 iv.toNat) 0]) ⟨by dsimp only; omega, by dsimp only; omega, by dsimp only; simp; omega, fun i hi => ?_⟩ (by dsimp only; omega))
      dsimp only at hi ⊢
      rw [snoc_getD hO hi]
      split
      · exact ho i (by omega)
      · rw [show addN 0 iv.toNat = iv.toNat by simp [addN], show iv.toNat = pn l a - 1 - t by omega, show i = t by omega]
    · have htp : t = pn l a := by omega
      subst htp
      have hfin : O = (parts l a).map Int.ofNat := by
        have hpl : (parts l a).length = pn l a := by unfold parts; rw [List.length_drop]; omega
        refine List.ext_getElem (by rw [List.length_map, hpl, hO]) fun i h3 h4 => ?_
        have h5 := ho i (by omega)
        have h6 := hb (pn l a - 1 - i) (by omega)
        rw [h6] at h5
        rw [List.getD_eq_getElem?_getD, List.getElem?_eq_getElem h3] at h5
        simp only [Option.getD_some] at h5
        rw [h5, List.getElem_map]
        unfold parts
        rw [List.getElem_drop, List.getD_eq_getElem?_getD, List.getElem?_eq_getElem (by omega)]
        simp only [Option.getD_some]
        show ((_ : Nat) : Int) = ((_ : Nat) : Int)
        congr 2
        omega
      refine rp W 0 rfl rfl rfl (.fi hfin)
end Pf
/- The model's l12Deep -/
namespace Pf
open Go Go.Proofs
/-- How deep the parts on the stack are. -/
theorem deep_rng (l : List Nd) (i : Nat) : 1 ≤ deep l i ∧ deep l i ≤ i + 1 := by
  induction i using Nat.strongRecOn with
  | ind i ih =>
    rw [deep_eq]
    have : ∀ (L : List Nat) (m : Int), (∀ x ∈ L, x < i) → 0 ≤ m → m ≤ i → 0 ≤ L.foldl (fun m x => max m (deep l x)) m ∧ L.foldl (fun m x => max m (deep l x)) m ≤ i := by
      intro L
      induction L with
      | nil => intro m _ h1 h2; exact ⟨h1, h2⟩
      | cons x L ihL =>
        intro m hL h1 h2
        have hx := ih x (hL x (List.mem_cons_self ..))
        have hxi := hL x (List.mem_cons_self ..)
        simp only [List.foldl_cons]
        exact ihL _ (fun y hy => hL y (List.mem_cons_of_mem _ hy)) (by omega) (by omega)
    have := this ((ends l i).drop ((ends l i).length - pn l i)) 0 (fun x hx => ends_lt (List.mem_of_mem_drop hx)) (by omega) (by omega)
    omega
theorem deep_map (l : List Nd) (i : Nat) : deep l i = ((parts l i).map (deep l)).foldl (fun m x => max m x) 0 + 1 := by
  rw [deep_eq, List.foldl_map]; rfl
/-- The depth of the part that ends at a place. -/
theorem l12Deep_ok (l : List Nd) (n : Nat) (hg : good l n) (hl : l.length ≤ 1048576) (hn : n ≤ l.length) (hx : txtOk l) : ∀ a, a < n → AFunP Tryd.prog 42 [termV l, .int .i64 (a : Nat)] (· = .int .i64 (deep l a)) := by
  intro a
  induction a using Nat.strongRecOn with
  | ind a ih =>
  intro ha
  have kp := parts_spec l n a hg ha hl hn hx
  have hpl : (parts l a).length ≤ a := by unfold parts; rw [List.length_drop]; have := ends_le l a; omega
  have hpm : ∀ x ∈ parts l a, x < a := fun x h => ends_lt (List.mem_of_mem_drop h)
  refine afun_of Tryd.func42 Tryd.call42 rfl Tryd.ntmps42 rfl ?_
  have W : Walk Tryd.prog TT 42 _ := Walk.of TT_ok Tryd.func42 Tryd.results42
  refine ce W 0 rfl rfl (kp) rfl ?_
  refine lp W 0 (σ := Nat × Int) (fun s => [(2, .ptr 0 0 0 0), (5, .fi .i64 ((parts l a).map Int.ofNat)), (6, .int .i64 s.2), (7, .int .i64 s.1)]) (fun _ => [.lst 0 [[.fz l.length (nodeR l)]]]) (fun s => (parts l a).length - s.1) (fun s => s.1 ≤ (parts l a).length ∧ (0 ≤ s.2 ∧ s.2 ≤ a) ∧ s.2 = (((parts l a).map (deep l)).take s.1).foldl (fun m x => max m x) 0) (0, 0) [2, 5, 6, 7] rfl rfl rfl ⟨Nat.zero_le _, ⟨by dsimp only; omega, by dsimp only; omega⟩, rfl⟩ ?_
  rintro ⟨i, m⟩ ⟨hi, hm, he⟩ ih2
  dsimp only at hi hm he ih2 ⊢
  refine sp W 0 rfl rfl rfl (fun h1 => ?_) (fun h1 => ?_)
  · have h1 : i < (parts l a).length := by rw [List.length_map] at h1; omega
    have hp := hpm _ (getD_mem (d := 0) h1)
    have ep : ((parts l a).map Int.ofNat).getD (i : Int).toNat 0 = (((parts l a).getD i 0 : Nat) : Int) := by
      rw [Int.toNat_natCast]; simp [List.getD_eq_getElem?_getD, h1]
    have kd := ih ((parts l a).getD i 0) hp (by omega)
    rw [← ep] at kd
    have dr := deep_rng l ((parts l a).getD i 0)
    have et : ((parts l a).map (deep l)).take (i + 1) = ((parts l a).map (deep l)).take i ++ [deep l ((parts l a).getD i 0)] := by
      rw [← List.take_append_getElem (by rw [List.length_map]; exact h1)]; simp [List.getD_eq_getElem?_getD, h1]
    have hf : max m (deep l ((parts l a).getD i 0)) = (((parts l a).map (deep l)).take (i + 1)).foldl (fun m x => max m x) 0 := by
      rw [et, List.foldl_append, ← he]; rfl
    generalize deep l ((parts l a).getD i 0) = d at *
    refine dre W 0 5 [] [] rfl rfl rfl trivial rfl ?_
    refine ce W 0 rfl rfl (kd) rfl ?_
    refine sp W 0 rfl rfl rfl (fun h2 => ?_) (fun h2 => ?_)
    · rw [Int.max_eq_right (by omega)] at hf
      refine bd W 0 1 [2, 5, 6, 7] rfl rfl rfl rfl rfl (ih2 (i + 1, d) ⟨by dsimp only; omega, ⟨by dsimp only; omega, by dsimp only; omega⟩, hf⟩ (by dsimp only; omega))
    · rw [Int.max_eq_left (by omega)] at hf
      refine bd W 0 1 [2, 5, 6, 7] rfl rfl rfl rfl rfl (ih2 (i + 1, m) ⟨by dsimp only; omega, ⟨by dsimp only; omega, by dsimp only; omega⟩, hf⟩ (by dsimp only; omega))
  · have e : ((parts l a).map (deep l)).take i = (parts l a).map (deep l) := List.take_of_length_le (by rw [List.length_map] at h1 ⊢; omega)
    rw [e] at he
    refine rp W 0 rfl rfl rfl (.int (by rw [deep_map, he]))
end Pf
/- Of a block of whole numbers, the tail is forgotten. -/
namespace Pf
open Go
variable {P : Program} {TT : TypeId → Option TI} {f N n0 : Nat} {k : List Item} {T : Env} {H : AHeap} {R : AV → AHeap → Prop} {nf : Nat} {ops : Array Oper} {past op pend : List Nat} {vs : List (Option Nat × AV)}

theorem shr_back {b m g : Nat} {kk : IntKind} {l : List Int} {H2 : AHeap} (e1 : nthM H b = some (.ints g kk l)) (e2 : setM (.ints g kk (l.take m)) H b = some H2) :
    H2.length = H.length ∧ ∀ b' blk', H2[b']? = some blk' → (b' = b ∧ blk' = .ints g kk (l.take m)) ∨ H[b']? = some blk' := by
  rw [nthM_eq] at e1
  rw [setM_eq] at e2
  split at e2
  · simp only [Option.some.injEq] at e2
    subst e2
    refine ⟨by simp, fun b' blk' h => ?_⟩
    rw [List.getElem?_set] at h
    split at h
    · rename_i hb
      subst hb
      simp only [Option.some.injEq] at h
      exact .inl ⟨rfl, h.symm⟩
    · exact .inr h
  · cases e2
theorem shr_view {b m g : Nat} {kk : IntKind} {l : List Int} {H2 : AHeap} (e1 : nthM H b = some (.ints g kk l)) (e2 : setM (.ints g kk (l.take m)) H b = some H2) {b' g' n' : Nat} {blk' : ABlk} {row' : Nat → List AV}
    (h1 : H2[b']? = some blk') (h2 : blk'.view = some (g', n', row')) : ∃ blk n row, H[b']? = some blk ∧ blk.view = some (g', n, row) ∧ blk'.width = blk.width := by
  rcases (shr_back e1 e2).2 b' blk' h1 with ⟨rfl, rfl⟩ | h
  · rw [nthM_eq] at e1
    simp only [ABlk.view, Option.some.injEq, Prod.mk.injEq] at h2
    obtain ⟨rfl, _, _⟩ := h2
    exact ⟨_, _, _, e1, rfl, rfl⟩
  · exact ⟨_, _, _, h, h2, rfl⟩
theorem shr_img {b m g : Nat} {kk : IntKind} {l : List Int} {H2 : AHeap} {β : BMap} (e1 : nthM H b = some (.ints g kk l)) (e2 : setM (.ints g kk (l.take m)) H b = some H2) {cb : Nat} (h : Img β H2 cb) : Img β H cb := by
  obtain ⟨b', blk', g', n', row', L, h1, h2, h3, h4⟩ := h
  obtain ⟨blk, n, row, q1, q2, _⟩ := shr_view e1 e2 h1 h2
  exact ⟨b', blk, g', n, row, L, q1, q2, h3, h4⟩
theorem RelH.shr {FM : FMem} {β : BMap} {w : World} (hh : RelH FM β H w) {b m g : Nat} {kk : IntKind} {l : List Int} {H2 : AHeap} (e1 : nthM H b = some (.ints g kk l)) (e2 : setM (.ints g kk (l.take m)) H b = some H2)
    {off len : Nat} {cv : Value} (hv : VR FM β (.sl b g off len) cv) (ho : off ≤ m) : RelH FM β H2 w where
  mem b' blk' g' n' row' h1 h2 := by
    rcases (shr_back e1 e2).2 b' blk' h1 with ⟨rfl, rfl⟩ | h
    · rw [nthM_eq] at e1
      simp only [ABlk.view, Option.some.injEq, Prod.mk.injEq] at h2
      obtain ⟨rfl, rfl, rfl⟩ := h2
      obtain ⟨lo, q1, q2⟩ := hh.mem _ _ _ _ _ e1 rfl
      refine ⟨lo, q1, ?_⟩
      cases lo with
      | none =>
        have : l.length = 0 := q2
        have hl : l = [] := List.length_eq_zero_iff.1 this
        subst hl
        simp [MemAt]
      | some L =>
        have hs : L.sh ≤ off := by
          cases hv with
          | sl h hs hr hc hp => rw [q1] at h; cases h; exact hs
          | sl0 h hs => rw [q1] at h; cases h; exact hs _ rfl
        obtain ⟨z1, z2, z3, ⟨c, el, fr, y1, y2, y3, y4, y5⟩, z5⟩ := q2
        refine ⟨z1, by rw [List.length_take]; omega, by rw [List.length_take]; omega, ⟨c, el, fr, y1, y2, y3, y4, fun r r1 r2 => ?_⟩, z5⟩
        rw [List.length_take] at r2
        have := y5 r r1 (by omega)
        rw [show (l.take m).getD r 0 = l.getD r 0 by simp [List.getD_eq_getElem?_getD, List.getElem?_take, show r < m by omega]]
        exact this
    · exact hh.mem _ _ _ _ _ h h2
  inj b1 b2 blk1 blk2 g1 g2 n1 n2 row1 row2 L1 L2 h1 h2 h3 h4 h5 h6 h7 := by
    obtain ⟨c1, d1, f1, p1, p2, _⟩ := shr_view e1 e2 h1 h2
    obtain ⟨c2, d2, f2, q1, q2, _⟩ := shr_view e1 e2 h4 h5
    exact hh.inj _ _ _ _ _ _ _ _ _ _ _ _ p1 p2 h3 q1 q2 h6 h7
  wid b1 blk1 g1 n1 row1 L h1 h2 h3 := by
    obtain ⟨c1, d1, f1, p1, p2, p3⟩ := shr_view e1 e2 h1 h2
    rw [p3]
    exact hh.wid _ _ _ _ _ _ p1 p2 h3
  fm := hh.fm
  dom b1 g1 lo h := by
    obtain ⟨q1, q2⟩ := hh.dom b1 g1 lo h
    refine ⟨by rw [(shr_back e1 e2).1]; exact q1, fun blk' g' n' row' h1 h2 => ?_⟩
    obtain ⟨c1, d1, f1, p1, p2, _⟩ := shr_view e1 e2 h1 h2
    exact q2 _ _ _ _ p1 p2
  gk := hh.gk
theorem Ext.shr {FM : FMem} {β : BMap} {w : World} {b m g : Nat} {kk : IntKind} {l : List Int} {H2 : AHeap} (e1 : nthM H b = some (.ints g kk l)) (e2 : setM (.ints g kk (l.take m)) H b = some H2) : Ext FM β H w FM β H2 w where
  fm _ _ _ h := h
  bm _ _ _ h := h
  size := Nat.le_refl _
  img cb _ h := shr_img e1 e2 h
  frame _ _ _ := rfl
  fmn _ _ _ h := .inl h
  len := by rw [(shr_back e1 e2).1]; exact Nat.le_refl _
  os := rfl
  output := rfl
  tape := rfl
/-- The block 'b' is cut behind 'm' (the slot 'd' holds a piece that begins at or ahead of 'm'). -/
theorem go_cut (b m d : Nat) {g : Nat} {kk : IntKind} {l : List Int} {H2 : AHeap} {off len : Nat} (e1 : nthM H b = some (.ints g kk l)) (e2 : setM (.ints g kk (l.take m)) H b = some H2) (e3 : getM T d = some (.sl b g off len))
    (ho : off ≤ m) (h : AGo P f N n0 k T H2 R) : AGo P f N n0 k T H R := by
  intro FM β b cs a w a1 a2 a3 a4 hT hH hn0
  exact Ext.go (Ext.shr e1 e2) hn0 (h FM β b cs a w a1 a2 a3 a4 hT (hH.shr e1 e2 (hT d _ e3) ho)) (b := b) (.refl _ _)
/-- The same within a region. -/
theorem phc (b m d : Nat) {g : Nat} {kk : IntKind} {l : List Int} {H2 : AHeap} {off len : Nat} (W : PW P TT N ops nf) (e1 : nthM H b = some (.ints g kk l)) (e2 : setM (.ints g kk (l.take m)) H b = some H2) (e3 : getM T d = some (.sl b g off len))
    (e4 : hasD d vs = false) (ho : off ≤ m) (h : Ph1 P f N n0 nf ops k T R past pend op vs H2) : Ph1 P f N n0 nf ops k T R past pend op vs H := by
  intro hv
  have hd : distD vs = true := by
    rw [distD_fst hv]
    have hst := W.st
    simp only [stM, Bool.and_eq_true] at hst
    exact hst.1.2
  intro l' done p1 p2 p3 p4 p5 p6
  refine go_cut b m d (off := off) (len := len) e1 e2 ?_ ho (h hv l' done p1 p2 p3 p4 p5 p6)
  rcases TS_get (S := done) (d := d) (T := T) hd with ⟨j, hj, q1, q2, q3⟩ | ⟨q1, q2⟩
  · have := hasD_iff.2 ⟨j, hj, q1⟩
    rw [e4] at this; cases this
  · rw [q2]; exact e3
end Pf
/- TermDepth: the closure on the stack; fold -/
namespace Pf
open Go Go.Proofs
theorem maxM_ok (x : Nd) (S : List Int) (off len : Nat) (h : off + len ≤ S.length) (hS : S.length ≤ 1048576) (hm : ∀ d ∈ S, 0 ≤ d ∧ d ≤ 1048576) : AFunM Tryd.prog 44 [nodeV x, .sl 0 0 off len] [.ints 0 .i64 S] (fun u blks => u = .int .i64 (((S.drop off).take len).foldl (fun m x => max m x) 0 + 1) ∧ blks = [.ints 0 .i64 S]) := by
  unfold nodeV
  refine afun_of Tryd.func44 Tryd.call44 rfl Tryd.ntmps44 rfl ?_
  have W : Walk Tryd.prog TT 44 _ := Walk.of TT_ok Tryd.func44 Tryd.results44
  refine lp W 0 (σ := Nat × Int) (fun s => [(5, .int .i64 s.2), (8, .sl 0 0 off len), (9, .int .i64 len), (10, .int .i64 s.1)]) (fun _ => [.ints 0 .i64 S, .lst 0 [[.int .i64 x.1, .int .i64 x.2.1, .str x.2.2]]]) (fun s => len - s.1) (fun s => s.1 ≤ len ∧ (0 ≤ s.2 ∧ s.2 ≤ 1048576) ∧ s.2 = (((S.drop off).take len).take s.1).foldl (fun m x => max m x) 0) (0, 0) [5, 8, 9, 10] rfl rfl rfl ⟨Nat.zero_le _, ⟨by dsimp only; omega, by dsimp only; omega⟩, rfl⟩ ?_
  rintro ⟨i, m⟩ ⟨hi, hm0, he⟩ ih
  dsimp only at hi hm0 he ih ⊢
  refine sp W 0 rfl rfl rfl (fun h1 => ?_) (fun h1 => ?_)
  · have h1 : i < len := by omega
    have hmi := hm (S.getD (off + i) 0) (getD_mem (by omega))
    have et : ((S.drop off).take len).take (i + 1) = ((S.drop off).take len).take i ++ [S.getD (off + i) 0] := by
      rw [← List.take_append_getElem (by rw [List.length_take, List.length_drop]; omega)]
      simp [List.getD_eq_getElem?_getD, show off + i < S.length by omega]
    have ea : addN off (i : Int).toNat = off + i := by rw [Int.toNat_natCast]; cases off <;> simp [addN]
    have ea2 := ea
    simp only [addN, Int.toNat_natCast] at ea2
    refine bd W 0 2 [5, 8, 9, 10] rfl rfl rfl rfl rfl (ih (i + 1, max m (S.getD (addN off (i : Int).toNat) 0)) ⟨by dsimp only; omega, ⟨by dsimp only; rw [ea]; omega, by dsimp only; rw [ea]; omega⟩, ?_⟩ (by dsimp only; omega))
    dsimp only
    rw [et, List.foldl_append, ← he, ea]
    rfl
  · have e : ((S.drop off).take len).take i = (S.drop off).take len := List.take_of_length_le (by rw [List.length_take, List.length_drop]; omega)
    rw [e] at he
    refine rm W 0 [.ints 0 .i64 S] rfl rfl rfl ⟨rfl, trivial⟩ rfl rfl (.int .i64 (m + 1)) rfl (.refl) (⟨by rw [he], rfl⟩)
theorem fold_ok (l : List Nd) (hd : dep l l.length = some 1) (h100 : l.length ≤ 100) (hx : txtOk l) : AFunP Tryd.prog 43 [termV l, .fn 44 [] []] (· = .int .i64 (deep l (l.length - 1))) := by
  obtain ⟨e1, hg⟩ := dep_ends hd
  refine afun_of Tryd.func43 Tryd.call43 rfl Tryd.ntmps43 rfl ?_
  have W : Walk Tryd.prog TT 43 _ := Walk.of TT_ok Tryd.func43 Tryd.results43
  refine atl W rfl ?_
  refine go_nilT 5 (.ints 0 .i64 []) rfl rfl rfl rfl rfl ?_
  refine lp W 0 (σ := Nat × Nat × Nat × List Int) (fun s => [(1, .fn 44 [] []), (2, .ptr 0 0 0 0), (5, .sl 1 s.2.1 0 s.2.2.1), (10, .fz l.length (nodeR l)), (11, .int .i64 l.length), (12, .int .i64 s.1)]) (fun s => [.lst 0 [[.fz l.length (nodeR l)]], .ints s.2.1 .i64 s.2.2.2]) (fun s => l.length - s.1)
    (fun s => s.1 ≤ l.length ∧ s.2.2.1 = s.2.2.2.length ∧ s.2.2.2 = (ends l s.1).map (deep l)) (0, 0, 0, []) [1, 2, 5, 10, 11, 12] rfl rfl rfl ⟨Nat.zero_le _, rfl, rfl⟩ ?_
  rintro ⟨i, g, n, S⟩ ⟨hi, hn, hS⟩ ih
  dsimp only at hi hn hS ih ⊢
  subst hn
  refine sp W 0 rfl rfl rfl (fun h1 => ?_) (fun h1 => ?_)
  · have h1 : i < l.length := by omega
    obtain ⟨z0, z1⟩ := hg i h1
    have hle := ends_le l i
    have kp := parts_ok (l.getD i (0, 0, [])).1 (l.getD i (0, 0, [])).2.1 (l.getD i (0, 0, [])).2.2 (hx i h1)
    have hz : partsZ (l.getD i (0, 0, [])).1 (l.getD i (0, 0, [])).2.1 (l.getD i (0, 0, [])).2.2 = (pn l i : Nat) := by unfold pn; unfold pz at z0 ⊢; omega
    rw [hz] at kp
    refine ce W 0 rfl rfl (kp) rfl ?_
    have hSl : S.length = (ends l i).length := by rw [hS, List.length_map]
    have ea : addN 0 ((S.length : Int) - (pn l i : Nat)).toNat = S.length - pn l i := by simp only [addN]; omega
    have ea2 : ((S.length : Int) - (pn l i : Nat)).toNat = S.length - pn l i := by omega
    have hv : List.foldl (fun m x => max m x) 0 (List.take (S.length - ((S.length : Int) - (pn l i : Nat)).toNat) (List.drop (addN 0 ((S.length : Int) - (pn l i : Nat)).toNat) S)) + 1 = deep l i := by
      rw [ea, ea2, deep_map, List.take_of_length_le (by rw [List.length_drop]; omega), hSl, hS, ← List.map_drop]
      rfl
    refine phg W 0 10 [8, 9] rfl rfl (fun PW => ?_)
    refine phm PW 0 8 [(1, g)] [] [] rfl rfl trivial rfl (maxM_ok (l.getD i (0, 0, [])) S (addN 0 ((S.length : Int) - (pn l i : Nat)).toNat) (S.length - ((S.length : Int) - (pn l i : Nat)).toNat) ?_ ?_ ?_) ⟨rfl, trivial⟩ rfl (by unfold nodeV; simp [renL, ren, idxM, clo, cloL]; rfl) rfl ?_
    · rw [ea, ea2]; omega
    · omega
    · intro d hdm
      rw [hS] at hdm
      obtain ⟨x, hx1, rfl⟩ := List.mem_map.1 hdm
      have h3 := ends_lt hx1
      have h4 := deep_rng l x
      omega
    rintro _ _ ⟨rfl, rfl⟩
    rw [hv]
    refine ⟨_, _, rfl, rfl, ?_⟩
    refine phc 1 ((S.length : Int) - (pn l i : Nat)).toNat 5 PW rfl rfl rfl rfl (Nat.zero_le _) ?_
    refine pho PW 0 9 [] [] rfl rfl trivial rfl rfl ?_
    refine phe PW 0 [] [] rfl trivial rfl ?_
    refine bd W 0 2 [1, 2, 5, 10, 11, 12] rfl rfl rfl rfl rfl (ih (i + 1, g + 1, ((S.length : Int) - (pn l i : Nat)).toNat + [deep l i].length, List.take ((S.length : Int) - (pn l i : Nat)).toNat S ++ [deep l i]) ⟨by dsimp only; omega, by dsimp only; rw [List.length_append, List.length_take]; omega, ?_⟩ (by dsimp only; omega))
    · dsimp only
      rw [ea2, ends_succ, List.map_append, List.map_take, ← hS, hSl]
      rfl
  · have hil : i = l.length := by omega
    subst hil
    have hpos : 1 ≤ l.length := by
      rcases (by omega : l.length = 0 ∨ 1 ≤ l.length) with h | h
      · rw [h] at hd; simp [dep] at hd
      · exact h
    have hS1 : S.length = 1 := by rw [hS, List.length_map]; omega
    have e0 : S.getD (addN 0 (0 : Int).toNat) 0 = deep l (l.length - 1) := by
      obtain ⟨b, hb⟩ : ∃ b, l.length = b + 1 := ⟨l.length - 1, by omega⟩
      have h2 := ends_last (l := l) (i := b)
      rw [← hb, show (ends l l.length).length - 1 = 0 by omega] at h2
      rw [show addN 0 (0 : Int).toNat = 0 by simp [addN], hS, show l.length - 1 = b by omega, ← h2]
      have h3 : 0 < (ends l l.length).length := by omega
      simp [List.getD_eq_getElem?_getD, h3]
    refine rp W 0 rfl rfl rfl (.int e0)
end Pf
/- TermDepth: both sides and the law -/
namespace Pf
open Go Go.Proofs
/-- The depth of a term; nought, if it is not ok. -/
noncomputable def depthZ (l : List Nd) : Int := by classical exact if termP l then deep l (l.length - 1) else 0
theorem termP_len {l : List Nd} (h : termP l) : 1 ≤ l.length := by
  rcases Nat.eq_zero_or_pos l.length with h0 | h0
  · have := h.2; rw [h0] at this; simp [dep] at this
  · exact h0
theorem specTermDepth_ok (l : List Nd) (hx : txtOk l) (hl : l.length ≤ 1048576) : AFunP Tryd.prog 14 [termV l] (· = .int .i64 (depthZ l)) := by
  refine afun_of Tryd.func14 Tryd.call14 rfl Tryd.ntmps14 rfl ?_
  have W : Walk Tryd.prog TT 14 _ := Walk.of TT_ok Tryd.func14 Tryd.results14
  refine ce W 0 rfl rfl (specTermOk_ok l hx hl) rfl ?_
  refine sp W 0 rfl rfl rfl (fun h1 => ?_) (fun h1 => ?_)
  · have e : depthZ l = 0 := by unfold depthZ; exact if_neg h1
    refine rp W 0 rfl rfl rfl (.int e.symm)
  · have h1 : termP l := Classical.not_not.1 h1
    have hpos := termP_len h1
    have hg := (dep_ends h1.2).2
    have e : depthZ l = deep l (l.length - 1) := by unfold depthZ; exact if_pos h1
    have k := l12Deep_ok l l.length hg hl (Nat.le_refl _) hx (l.length - 1) (by omega)
    rw [show ((l.length - 1 : Nat) : Int) = (l.length : Int) - 1 by omega] at k
    refine ce W 0 rfl rfl (k) rfl ?_
    refine rp W 0 rfl rfl rfl (.int e.symm)
theorem implTermDepth_ok (l : List Nd) (hx : txtOk l) (hl : l.length ≤ 1048576) : AFunP Tryd.prog 15 [termV l] (· = .int .i64 (depthZ l)) := by
  refine afun_of Tryd.func15 Tryd.call15 rfl Tryd.ntmps15 rfl ?_
  have W : Walk Tryd.prog TT 15 _ := Walk.of TT_ok Tryd.func15 Tryd.results15
  refine ce W 0 rfl rfl (implTermOk_ok l hx hl) rfl ?_
  refine sp W 0 rfl rfl rfl (fun h1 => ?_) (fun h1 => ?_)
  · have e : depthZ l = 0 := by unfold depthZ; exact if_neg h1
    refine rp W 0 rfl rfl rfl (.int e.symm)
  · have h1 : termP l := Classical.not_not.1 h1
    have e : depthZ l = deep l (l.length - 1) := by unfold depthZ; exact if_pos h1
    refine ce W 0 rfl rfl (fold_ok l h1.2 h1.1 hx) rfl ?_
    refine rp W 0 rfl rfl rfl (.int e.symm)
theorem fnTermDepth_law (l : List Nd) (hm : l.length ≤ 9223372036854775807) (hx : ∀ i, i < l.length → (l.getD i (0, 0, [])).2.2.length ≤ 9223372036854775807) : AFunP Tryd.prog 4 [termV l] (· = .pr True) := by
  refine afun_of Tryd.func4 Tryd.call4 rfl Tryd.ntmps4 rfl ?_
  have W : Walk Tryd.prog TT 4 _ := Walk.of TT_ok Tryd.func4 Tryd.results4
  refine cq W 0 rfl rfl (szTerm_ok l hm hx) ?_
  rintro _ ⟨n, rfl, hn⟩
  refine ⟨_, rfl, ?_⟩
  refine sp W 0 rfl rfl rfl (fun h1 => ?_) (fun h1 => ?_)
  · refine rp W 0 rfl rfl rfl (.yes trivial)
  obtain ⟨hl, ht⟩ := hn (by omega)
  have k1 := toTerm_ok l hl
  refine ce W 0 rfl rfl (k1) rfl ?_
  refine ce W 0 rfl rfl (specTermDepth_ok l ht hl) rfl ?_
  refine ce W 0 rfl rfl (k1) rfl ?_
  refine ce W 0 rfl rfl (implTermDepth_ok l ht hl) rfl ?_
  refine sp W 0 rfl rfl rfl (fun h2 => ?_) (fun h2 => ?_)
  · exact absurd rfl h2
  refine dre W 0 5 [] [termV l, .pr (l = l)] rfl rfl rfl ⟨k1.at rfl _, (eqTerm_ok l l hl hl).at rfl _, trivial⟩ rfl ?_
  refine sp W 0 rfl rfl rfl (fun h3 => ?_) (fun h3 => ?_)
  · exact absurd rfl h3
  · refine rp W 0 rfl rfl rfl (.yes trivial)
end Pf
