/- Part 3 of the lemmas that the claim rests on: an abstract machine over the model, what it is sound for, and the contracts of the functions that the law reaches. -/
import Derived.Test.YtoogebffgniobaaDoorA2
import Derived.Shelf.Strings.OnBuilder
import Derived.Test.YtoogebffgniobaaDoorProg
set_option linter.unusedSimpArgs false
set_option linter.unusedVariables false
set_option maxHeartbeats 4000000
/- Literals: the model's side -/
namespace Pf
open Go Go.Proofs
/-- Behind 'e' and its sign: the place a, the sign m. -/
def powA (s : List UInt8) (a : Nat) (m : Prop) : Prop := run s a ≠ 0 ∧ run s a ≤ 3 ∧ ¬ (s.getD a 0 = 48 ∧ (1 < run s a ∨ m)) ∧
  ¬ (run s a = 3 ∧ ¬ (Op.bytesLess ((s.take (a + run s a)).drop a) [52, 48, 48] = true ∨ (s.take (a + run s a)).drop a = [52, 48, 48])) ∧ a + run s a = s.length
theorem run_le (s : List UInt8) (a : Nat) (h : a ≤ s.length) : a + run s a ≤ s.length := by
  have := (List.takeWhile_prefix (l := s.drop a) dB).length_le
  rw [List.length_drop] at this
  have e := run_dg s a
  have : (Dg (s.drop a)).length ≤ s.length - a := this
  omega
theorem powA_ok {s t : List UInt8} {a : Nat} {m : Prop} (ha : a ≤ s.length) (hu : s.drop a = cutP t 45) (hm : m ↔ t.head? = some 45) : powE1 t ↔ powA s a m := by
  have h1 := run_dg s a
  have h2 := drop_rg s a
  have h3 := run_le s a ha
  unfold powE1 powA
  rw [← hu, ← hm]
  have e1 : (s.take (a + run s a)).drop a = Dg (s.drop a) := by
    rw [List.drop_take, Nat.add_sub_cancel_left]
    conv => lhs; rw [← dg_app (s.drop a)]
    rw [h1, List.take_left']
    rfl
  have e2 : (s.drop a).getD 0 0 = s.getD a 0 := by simp [List.getD_eq_getElem?_getD]
  have e3 : Rg (s.drop a) = [] ↔ a + run s a = s.length := by
    rw [← h2, List.drop_eq_nil_iff]
    omega
  have e4 : Dg (s.drop a) ≠ [] ↔ run s a ≠ 0 := by rw [h1, ne_eq, ne_eq, List.length_eq_zero_iff]
  rw [e1, e2, e3, e4, h1]
theorem drop_cons {s : List UInt8} {a : Nat} (h : a < s.length) : s.drop a = s.getD a 0 :: s.drop (a + 1) := by
  rw [List.drop_eq_getElem_cons h, List.getD_eq_getElem?_getD]
  simp [h]
theorem powE_yes {s : List UInt8} {a : Nat} (h : a < s.length) (e : s.getD a 0 = 101) : powE (s.drop a) ↔ powE1 (s.drop (a + 1)) := by
  rw [drop_cons h, e]; simp [powE]
theorem powE_no {s : List UInt8} {a : Nat} (h : a < s.length) (e : ¬ s.getD a 0 = 101) : ¬ powE (s.drop a) := by
  rw [drop_cons h]
  intro k
  have := k.2 (by simpa using e)
  cases this
theorem powE_nil {s : List UInt8} {a : Nat} (h : s.length ≤ a) : powE (s.drop a) := by
  rw [List.drop_eq_nil_iff.2 h]; simp [powE]
theorem fracE_yes {s : List UInt8} {n : Nat} (h : n < s.length) (e : s.getD n 0 = 46) : fracE (s.drop n) ↔ run s (n + 1) ≠ 0 ∧ powE (s.drop (n + 1 + run s (n + 1))) := by
  have h1 := run_dg s (n + 1)
  have h2 := drop_rg s (n + 1)
  rw [drop_cons h, e]
  simp only [fracE, List.head?_cons, List.drop_succ_cons, List.drop_zero, forall_const, ne_eq, not_true_eq_false, false_implies, and_true]
  rw [h2, h1, List.length_eq_zero_iff]
theorem fracE_no {s : List UInt8} {n : Nat} (e : ¬ s.getD n 0 = 46) : fracE (s.drop n) ↔ powE (s.drop n) := by
  have : (s.drop n).head? ≠ some 46 := by
    by_cases h : n < s.length
    · rw [ne_eq, head_at h]; exact e
    · rw [List.drop_eq_nil_iff.2 (by omega)]; simp
  exact ⟨fun k => k.2 this, fun k => ⟨fun e => absurd e this, fun _ => k⟩⟩
theorem cutP_yes {s : List UInt8} {a : Nat} (h : a < s.length) (e : s.getD a 0 = 45) : s.drop (a + 1) = cutP (s.drop a) 45 := by
  unfold cutP
  rw [if_pos ((head_at h 45).2 e), List.drop_drop]
theorem cutP_no {s : List UInt8} {a : Nat} (h : a < s.length) (e : ¬ s.getD a 0 = 45) : s.drop a = cutP (s.drop a) 45 := by
  unfold cutP
  rw [if_neg fun k => e ((head_at h 45).1 k)]
theorem specLangNumOk_ok (s : List UInt8) (hl : s.length ≤ 281474976710656) : AFunP Tryd.prog 72 [.str s] (· = .pr (litP s ∧ s.length ≤ 60)) := by
  rw [← num_ok s]
  have k0 := l11Run_ok s 0 (by omega) (by omega)
  have r0 : s.drop (run s 0) = Rg s := by have := drop_rg s 0; rwa [Nat.zero_add] at this
  have t0 := run_le s 0 (by omega)
  rw [Nat.zero_add] at t0
  have w0 : run s 0 ≠ 0 → (wd (Dg s) ↔ ¬ (1 < run s 0 ∧ s.getD 0 0 = 48)) := by
    intro h
    have d0 : run s 0 = (Dg s).length := rfl
    have e0 : s.getD 0 0 = (Dg s).getD 0 0 := by
      conv => lhs; rw [← dg_app s]
      simp only [List.getD_eq_getElem?_getD]
      rw [List.getElem?_append_left (by omega)]
    rw [d0] at h ⊢
    rw [e0]
    have ha := dg_all s
    unfold wd
    clear e0
    revert h
    match Dg s, ha with
    | [], _ => intro h; exact absurd rfl h
    | [a], ha => intro h; simp at ha; simp [ha]; exact Decidable.em _
    | a :: b :: l, ha => intro h; simp at ha; simp [ha]; exact fun _ => ha.2.2
  have w1 : wd (Dg s) → run s 0 ≠ 0 := fun k => by
    have d0 : run s 0 = (Dg s).length := rfl
    rw [d0, ne_eq, List.length_eq_zero_iff]
    exact k.1.1
  refine afun_of Tryd.func72 Tryd.call72 rfl Tryd.ntmps72 rfl ?_
  have W : Walk Tryd.prog TT 72 _ := Walk.of TT_ok Tryd.func72 Tryd.results72
  refine ce W 0 rfl rfl (k0) rfl ?_
  generalize run s 0 = n at *
  refine sp W 0 rfl rfl rfl (fun h1 => ?_) (fun h1 => ?_)
  · refine rp W 0 rfl rfl rfl (.no (fun k => by have := k.2; omega))
  refine sp W 0 rfl rfl rfl (fun h2 => ?_) (fun h2 => ?_)
  · refine rp W 0 rfl rfl rfl (.no (fun k => w1 k.1.1 (by omega)))
  refine sp W 0 rfl rfl rfl (fun h3 => ?_) (fun h3 => ?_)
  · refine sp W 0 rfl rfl rfl (fun h4 => ?_) (fun h4 => ?_)
    · have h4 := (u8_eq (c := 48)).1 h4
      refine rp W 0 rfl rfl rfl (.no (fun q => (w0 (by omega)).1 q.1.1 ⟨by omega, h4⟩))
    · have hw := (w0 (by omega)).2 fun k => h4 ((u8_eq (c := 48)).2 k.2)
      have hq0 : numE s ↔ fracE (Rg s) := ⟨fun e => e.2, fun e => ⟨hw, e⟩⟩
      refine sp W 0 rfl rfl rfl (fun p1 => ?_) (fun p1 => ?_)
      · refine sp W 0 rfl rfl rfl (fun p2 => ?_) (fun p2 => ?_)
        · rw [show (n : Int).toNat = n by omega] at p2
          have p2 := (u8_eq (c := 46)).1 p2
          have kk : AFunP Tryd.prog 93 [.str s, .int .i64 ((n : Int) + 1)] (· = .int .i64 (run s (n + 1) : Nat)) := l11Run_ok s (n + 1) (by omega) (by omega)
          have tk := run_le s (n + 1) (by omega)
          have hf : numE s ↔ run s (n + 1) ≠ 0 ∧ powE (s.drop (n + 1 + run s (n + 1))) := by
            refine hq0.trans ?_
            rw [← r0, fracE_yes (by omega) p2]
          refine ce W 0 rfl rfl (kk) rfl ?_
          generalize run s (n + 1) = j at *
          refine sp W 0 rfl rfl rfl (fun p5 => ?_) (fun p5 => ?_)
          · refine rp W 0 rfl rfl rfl (.no (fun q => (hf.1 q.1).1 (by omega)))
          have hq : numE s ↔ powE (s.drop (n + 1 + j)) := ⟨fun e => (hf.1 e).2, fun e => hf.2 ⟨by omega, e⟩⟩
          refine sp W 0 rfl rfl rfl (fun p3 => ?_) (fun p3 => ?_)
          · refine sp W 0 rfl rfl rfl (fun p4 => ?_) (fun p4 => ?_)
            · rw [show ((n : Int) + 1 + (j : Int)).toNat = n + 1 + j by omega] at p4
              have hq2 : numE s ↔ powE1 (s.drop (n + 1 + j + 1)) := hq.trans (powE_yes (by omega) ((u8_eq (c := 101)).1 p4))
              refine sp W 0 rfl rfl rfl (fun m1 => ?_) (fun m1 => ?_)
              · refine sp W 0 rfl rfl rfl (fun m2 => ?_) (fun m2 => ?_)
                · rw [show ((n : Int) + 1 + (j : Int) + 1).toNat = n + 1 + j + 1 by omega] at m2
                  have hu : s.drop (n + 1 + j + 1 + 1) = cutP (s.drop (n + 1 + j + 1)) 45 := cutP_yes (by omega) ((u8_eq (c := 45)).1 m2)
                  have hm : True ↔ (s.drop (n + 1 + j + 1)).head? = some 45 := by rw [head_at (by omega)]; exact ⟨fun _ => (u8_eq (c := 45)).1 m2, fun _ => trivial⟩
                  rw [← show ((n : Int) + 1 + (j : Int) + 1).toNat = n + 1 + j + 1 by omega] at m2
                  have kr : AFunP Tryd.prog 93 [.str s, .int .i64 ((n : Int) + 1 + (j : Int) + 1 + 1)] (· = .int .i64 (run s (n + 1 + j + 1 + 1) : Nat)) := by
                    have := l11Run_ok s (n + 1 + j + 1 + 1) (by omega) (by omega)
                    rwa [show ((n + 1 + j + 1 + 1 : Nat) : Int) = (n : Int) + 1 + (j : Int) + 1 + 1 by omega] at this
                  have tr := run_le s (n + 1 + j + 1 + 1) (by omega)
                  have hP := hq2.trans (powA_ok (a := n + 1 + j + 1 + 1) (m := True) (by omega) hu hm)
                  unfold powA at hP
                  refine ce W 0 rfl rfl (kr) rfl ?_
                  generalize run s (n + 1 + j + 1 + 1) = k at *
                  refine sp W 0 rfl rfl rfl (fun c1 => ?_) (fun c1 => ?_)
                  · refine rp W 0 rfl rfl rfl (.no (fun q => (hP.1 q.1).1 (by omega)))
                  refine sp W 0 rfl rfl rfl (fun c2 => ?_) (fun c2 => ?_)
                  · refine rp W 0 rfl rfl rfl (.no (fun q => by have := (hP.1 q.1).2.1; omega))
                  refine sp W 0 rfl rfl rfl (fun c3 => ?_) (fun c3 => ?_)
                  · have c3 : s.getD (n + 1 + j + 1 + 1) 0 = 48 := by rw [show ((n : Int) + 1 + (j : Int) + 1 + 1).toNat = n + 1 + j + 1 + 1 by omega] at c3; exact (u8_eq (c := 48)).1 c3
                    refine sp W 0 rfl rfl rfl (fun c4 => ?_) (fun c4 => ?_)
                    · refine rp W 0 rfl rfl rfl (.no (fun q => (hP.1 q.1).2.2.1 ⟨c3, .inl (by omega)⟩))
                    · refine sp W 0 rfl rfl rfl (fun c5 => ?_) (fun c5 => ?_)
                      · refine rp W 0 rfl rfl rfl (.no (fun q => (hP.1 q.1).2.2.1 ⟨c3, .inr trivial⟩))
                      · exact absurd m2 c5
                  · have c3 : ¬ s.getD (n + 1 + j + 1 + 1) 0 = 48 := fun e => c3 (by rw [show ((n : Int) + 1 + (j : Int) + 1 + 1).toNat = n + 1 + j + 1 + 1 by omega]; exact (u8_eq (c := 48)).2 e)
                    have f3 : ¬ (s.getD (n + 1 + j + 1 + 1) 0 = 48 ∧ (1 < k ∨ True)) := fun q => c3 q.1
                    refine sp W 0 rfl rfl rfl (fun c6 => ?_) (fun c6 => ?_)
                    · refine sp W 0 rfl rfl rfl (fun c7 => ?_) (fun c7 => ?_)
                      · rw [show ((n : Int) + 1 + (j : Int) + 1 + 1).toNat = n + 1 + j + 1 + 1 by omega, show (((n : Int) + 1 + (j : Int) + 1 + 1) + (k : Int)).toNat = n + 1 + j + 1 + 1 + k by omega] at c7
                        refine rp W 0 rfl rfl rfl (.no (fun q => (hP.1 q.1).2.2.2.1 ⟨by omega, c7⟩))
                      · rw [show ((n : Int) + 1 + (j : Int) + 1 + 1).toNat = n + 1 + j + 1 + 1 by omega, show (((n : Int) + 1 + (j : Int) + 1 + 1) + (k : Int)).toNat = n + 1 + j + 1 + 1 + k by omega] at c7
                        have f4 : ¬ (k = 3 ∧ ¬ (Op.bytesLess ((s.take (n + 1 + j + 1 + 1 + k)).drop (n + 1 + j + 1 + 1)) [52, 48, 48] = true ∨ (s.take (n + 1 + j + 1 + 1 + k)).drop (n + 1 + j + 1 + 1) = [52, 48, 48])) := fun q => c7 q.2
                        refine rp W 0 rfl rfl rfl (.pr ⟨fun e => ⟨hP.2 ⟨by omega, by omega, f3, f4, by omega⟩, by omega⟩, fun q => by have := (hP.1 q.1).2.2.2.2; omega⟩)
                    · have f4 : ¬ (k = 3 ∧ ¬ (Op.bytesLess ((s.take (n + 1 + j + 1 + 1 + k)).drop (n + 1 + j + 1 + 1)) [52, 48, 48] = true ∨ (s.take (n + 1 + j + 1 + 1 + k)).drop (n + 1 + j + 1 + 1) = [52, 48, 48])) := fun q => by have := q.1; omega
                      refine rp W 0 rfl rfl rfl (.pr ⟨fun e => ⟨hP.2 ⟨by omega, by omega, f3, f4, by omega⟩, by omega⟩, fun q => by have := (hP.1 q.1).2.2.2.2; omega⟩)
                · rw [show ((n : Int) + 1 + (j : Int) + 1).toNat = n + 1 + j + 1 by omega] at m2
                  have hu : s.drop (n + 1 + j + 1) = cutP (s.drop (n + 1 + j + 1)) 45 := cutP_no (by omega) fun e => m2 ((u8_eq (c := 45)).2 e)
                  have hm : False ↔ (s.drop (n + 1 + j + 1)).head? = some 45 := by rw [head_at (by omega)]; exact ⟨False.elim, fun e => m2 ((u8_eq (c := 45)).2 e)⟩
                  rw [← show ((n : Int) + 1 + (j : Int) + 1).toNat = n + 1 + j + 1 by omega] at m2
                  have kr : AFunP Tryd.prog 93 [.str s, .int .i64 ((n : Int) + 1 + (j : Int) + 1)] (· = .int .i64 (run s (n + 1 + j + 1) : Nat)) := by
                    have := l11Run_ok s (n + 1 + j + 1) (by omega) (by omega)
                    rwa [show ((n + 1 + j + 1 : Nat) : Int) = (n : Int) + 1 + (j : Int) + 1 by omega] at this
                  have tr := run_le s (n + 1 + j + 1) (by omega)
                  have hP := hq2.trans (powA_ok (a := n + 1 + j + 1) (m := False) (by omega) hu hm)
                  unfold powA at hP
                  refine ce W 0 rfl rfl (kr) rfl ?_
                  generalize run s (n + 1 + j + 1) = k at *
                  refine sp W 0 rfl rfl rfl (fun c1 => ?_) (fun c1 => ?_)
                  · refine rp W 0 rfl rfl rfl (.no (fun q => (hP.1 q.1).1 (by omega)))
                  refine sp W 0 rfl rfl rfl (fun c2 => ?_) (fun c2 => ?_)
                  · refine rp W 0 rfl rfl rfl (.no (fun q => by have := (hP.1 q.1).2.1; omega))
                  refine sp W 0 rfl rfl rfl (fun c3 => ?_) (fun c3 => ?_)
                  · have c3 : s.getD (n + 1 + j + 1) 0 = 48 := by rw [show ((n : Int) + 1 + (j : Int) + 1).toNat = n + 1 + j + 1 by omega] at c3; exact (u8_eq (c := 48)).1 c3
                    refine sp W 0 rfl rfl rfl (fun c4 => ?_) (fun c4 => ?_)
                    · refine rp W 0 rfl rfl rfl (.no (fun q => (hP.1 q.1).2.2.1 ⟨c3, .inl (by omega)⟩))
                    · refine sp W 0 rfl rfl rfl (fun c5 => ?_) (fun c5 => ?_)
                      · exact absurd c5 m2
                      · have f3 : ¬ (s.getD (n + 1 + j + 1) 0 = 48 ∧ (1 < k ∨ False)) := fun q => q.2.elim (fun q => by omega) id
                        refine sp W 0 rfl rfl rfl (fun c6 => ?_) (fun c6 => ?_)
                        · refine sp W 0 rfl rfl rfl (fun c7 => ?_) (fun c7 => ?_)
                          · rw [show ((n : Int) + 1 + (j : Int) + 1).toNat = n + 1 + j + 1 by omega, show (((n : Int) + 1 + (j : Int) + 1) + (k : Int)).toNat = n + 1 + j + 1 + k by omega] at c7
                            refine rp W 0 rfl rfl rfl (.no (fun q => (hP.1 q.1).2.2.2.1 ⟨by omega, c7⟩))
                          · rw [show ((n : Int) + 1 + (j : Int) + 1).toNat = n + 1 + j + 1 by omega, show (((n : Int) + 1 + (j : Int) + 1) + (k : Int)).toNat = n + 1 + j + 1 + k by omega] at c7
                            have f4 : ¬ (k = 3 ∧ ¬ (Op.bytesLess ((s.take (n + 1 + j + 1 + k)).drop (n + 1 + j + 1)) [52, 48, 48] = true ∨ (s.take (n + 1 + j + 1 + k)).drop (n + 1 + j + 1) = [52, 48, 48])) := fun q => c7 q.2
                            refine rp W 0 rfl rfl rfl (.pr ⟨fun e => ⟨hP.2 ⟨by omega, by omega, f3, f4, by omega⟩, by omega⟩, fun q => by have := (hP.1 q.1).2.2.2.2; omega⟩)
                        · have f4 : ¬ (k = 3 ∧ ¬ (Op.bytesLess ((s.take (n + 1 + j + 1 + k)).drop (n + 1 + j + 1)) [52, 48, 48] = true ∨ (s.take (n + 1 + j + 1 + k)).drop (n + 1 + j + 1) = [52, 48, 48])) := fun q => by have := q.1; omega
                          refine rp W 0 rfl rfl rfl (.pr ⟨fun e => ⟨hP.2 ⟨by omega, by omega, f3, f4, by omega⟩, by omega⟩, fun q => by have := (hP.1 q.1).2.2.2.2; omega⟩)
                  · have c3 : ¬ s.getD (n + 1 + j + 1) 0 = 48 := fun e => c3 (by rw [show ((n : Int) + 1 + (j : Int) + 1).toNat = n + 1 + j + 1 by omega]; exact (u8_eq (c := 48)).2 e)
                    have f3 : ¬ (s.getD (n + 1 + j + 1) 0 = 48 ∧ (1 < k ∨ False)) := fun q => c3 q.1
                    refine sp W 0 rfl rfl rfl (fun c6 => ?_) (fun c6 => ?_)
                    · refine sp W 0 rfl rfl rfl (fun c7 => ?_) (fun c7 => ?_)
                      · rw [show ((n : Int) + 1 + (j : Int) + 1).toNat = n + 1 + j + 1 by omega, show (((n : Int) + 1 + (j : Int) + 1) + (k : Int)).toNat = n + 1 + j + 1 + k by omega] at c7
                        refine rp W 0 rfl rfl rfl (.no (fun q => (hP.1 q.1).2.2.2.1 ⟨by omega, c7⟩))
                      · rw [show ((n : Int) + 1 + (j : Int) + 1).toNat = n + 1 + j + 1 by omega, show (((n : Int) + 1 + (j : Int) + 1) + (k : Int)).toNat = n + 1 + j + 1 + k by omega] at c7
                        have f4 : ¬ (k = 3 ∧ ¬ (Op.bytesLess ((s.take (n + 1 + j + 1 + k)).drop (n + 1 + j + 1)) [52, 48, 48] = true ∨ (s.take (n + 1 + j + 1 + k)).drop (n + 1 + j + 1) = [52, 48, 48])) := fun q => c7 q.2
                        refine rp W 0 rfl rfl rfl (.pr ⟨fun e => ⟨hP.2 ⟨by omega, by omega, f3, f4, by omega⟩, by omega⟩, fun q => by have := (hP.1 q.1).2.2.2.2; omega⟩)
                    · have f4 : ¬ (k = 3 ∧ ¬ (Op.bytesLess ((s.take (n + 1 + j + 1 + k)).drop (n + 1 + j + 1)) [52, 48, 48] = true ∨ (s.take (n + 1 + j + 1 + k)).drop (n + 1 + j + 1) = [52, 48, 48])) := fun q => by have := q.1; omega
                      refine rp W 0 rfl rfl rfl (.pr ⟨fun e => ⟨hP.2 ⟨by omega, by omega, f3, f4, by omega⟩, by omega⟩, fun q => by have := (hP.1 q.1).2.2.2.2; omega⟩)
              · have e0 : s.drop (n + 1 + j + 1) = [] := List.drop_eq_nil_iff.2 (by omega)
                have hu : s.drop (n + 1 + j + 1) = cutP (s.drop (n + 1 + j + 1)) 45 := by rw [e0]; rfl
                have hm : False ↔ (s.drop (n + 1 + j + 1)).head? = some 45 := by rw [e0]; simp
                have kr : AFunP Tryd.prog 93 [.str s, .int .i64 ((n : Int) + 1 + (j : Int) + 1)] (· = .int .i64 (run s (n + 1 + j + 1) : Nat)) := by
                  have := l11Run_ok s (n + 1 + j + 1) (by omega) (by omega)
                  rwa [show ((n + 1 + j + 1 : Nat) : Int) = (n : Int) + 1 + (j : Int) + 1 by omega] at this
                have tr := run_le s (n + 1 + j + 1) (by omega)
                have hP := hq2.trans (powA_ok (a := n + 1 + j + 1) (m := False) (by omega) hu hm)
                unfold powA at hP
                refine ce W 0 rfl rfl (kr) rfl ?_
                generalize run s (n + 1 + j + 1) = k at *
                refine sp W 0 rfl rfl rfl (fun c1 => ?_) (fun c1 => ?_)
                · refine rp W 0 rfl rfl rfl (.no (fun q => (hP.1 q.1).1 (by omega)))
                refine sp W 0 rfl rfl rfl (fun c2 => ?_) (fun c2 => ?_)
                · refine rp W 0 rfl rfl rfl (.no (fun q => by have := (hP.1 q.1).2.1; omega))
                refine sp W 0 rfl rfl rfl (fun c3 => ?_) (fun c3 => ?_)
                · have c3 : s.getD (n + 1 + j + 1) 0 = 48 := by rw [show ((n : Int) + 1 + (j : Int) + 1).toNat = n + 1 + j + 1 by omega] at c3; exact (u8_eq (c := 48)).1 c3
                  refine sp W 0 rfl rfl rfl (fun c4 => ?_) (fun c4 => ?_)
                  · refine rp W 0 rfl rfl rfl (.no (fun q => (hP.1 q.1).2.2.1 ⟨c3, .inl (by omega)⟩))
                  · have f3 : ¬ (s.getD (n + 1 + j + 1) 0 = 48 ∧ (1 < k ∨ False)) := fun q => q.2.elim (fun q => by omega) id
                    refine sp W 0 rfl rfl rfl (fun c6 => ?_) (fun c6 => ?_)
                    · refine sp W 0 rfl rfl rfl (fun c7 => ?_) (fun c7 => ?_)
                      · rw [show ((n : Int) + 1 + (j : Int) + 1).toNat = n + 1 + j + 1 by omega, show (((n : Int) + 1 + (j : Int) + 1) + (k : Int)).toNat = n + 1 + j + 1 + k by omega] at c7
                        refine rp W 0 rfl rfl rfl (.no (fun q => (hP.1 q.1).2.2.2.1 ⟨by omega, c7⟩))
                      · rw [show ((n : Int) + 1 + (j : Int) + 1).toNat = n + 1 + j + 1 by omega, show (((n : Int) + 1 + (j : Int) + 1) + (k : Int)).toNat = n + 1 + j + 1 + k by omega] at c7
                        have f4 : ¬ (k = 3 ∧ ¬ (Op.bytesLess ((s.take (n + 1 + j + 1 + k)).drop (n + 1 + j + 1)) [52, 48, 48] = true ∨ (s.take (n + 1 + j + 1 + k)).drop (n + 1 + j + 1) = [52, 48, 48])) := fun q => c7 q.2
                        refine rp W 0 rfl rfl rfl (.pr ⟨fun e => ⟨hP.2 ⟨by omega, by omega, f3, f4, by omega⟩, by omega⟩, fun q => by have := (hP.1 q.1).2.2.2.2; omega⟩)
                    · have f4 : ¬ (k = 3 ∧ ¬ (Op.bytesLess ((s.take (n + 1 + j + 1 + k)).drop (n + 1 + j + 1)) [52, 48, 48] = true ∨ (s.take (n + 1 + j + 1 + k)).drop (n + 1 + j + 1) = [52, 48, 48])) := fun q => by have := q.1; omega
                      refine rp W 0 rfl rfl rfl (.pr ⟨fun e => ⟨hP.2 ⟨by omega, by omega, f3, f4, by omega⟩, by omega⟩, fun q => by have := (hP.1 q.1).2.2.2.2; omega⟩)
                · have c3 : ¬ s.getD (n + 1 + j + 1) 0 = 48 := fun e => c3 (by rw [show ((n : Int) + 1 + (j : Int) + 1).toNat = n + 1 + j + 1 by omega]; exact (u8_eq (c := 48)).2 e)
                  have f3 : ¬ (s.getD (n + 1 + j + 1) 0 = 48 ∧ (1 < k ∨ False)) := fun q => c3 q.1
                  refine sp W 0 rfl rfl rfl (fun c6 => ?_) (fun c6 => ?_)
                  · refine sp W 0 rfl rfl rfl (fun c7 => ?_) (fun c7 => ?_)
                    · rw [show ((n : Int) + 1 + (j : Int) + 1).toNat = n + 1 + j + 1 by omega, show (((n : Int) + 1 + (j : Int) + 1) + (k : Int)).toNat = n + 1 + j + 1 + k by omega] at c7
                      refine rp W 0 rfl rfl rfl (.no (fun q => (hP.1 q.1).2.2.2.1 ⟨by omega, c7⟩))
                    · rw [show ((n : Int) + 1 + (j : Int) + 1).toNat = n + 1 + j + 1 by omega, show (((n : Int) + 1 + (j : Int) + 1) + (k : Int)).toNat = n + 1 + j + 1 + k by omega] at c7
                      have f4 : ¬ (k = 3 ∧ ¬ (Op.bytesLess ((s.take (n + 1 + j + 1 + k)).drop (n + 1 + j + 1)) [52, 48, 48] = true ∨ (s.take (n + 1 + j + 1 + k)).drop (n + 1 + j + 1) = [52, 48, 48])) := fun q => c7 q.2
                      refine rp W 0 rfl rfl rfl (.pr ⟨fun e => ⟨hP.2 ⟨by omega, by omega, f3, f4, by omega⟩, by omega⟩, fun q => by have := (hP.1 q.1).2.2.2.2; omega⟩)
                  · have f4 : ¬ (k = 3 ∧ ¬ (Op.bytesLess ((s.take (n + 1 + j + 1 + k)).drop (n + 1 + j + 1)) [52, 48, 48] = true ∨ (s.take (n + 1 + j + 1 + k)).drop (n + 1 + j + 1) = [52, 48, 48])) := fun q => by have := q.1; omega
                    refine rp W 0 rfl rfl rfl (.pr ⟨fun e => ⟨hP.2 ⟨by omega, by omega, f3, f4, by omega⟩, by omega⟩, fun q => by have := (hP.1 q.1).2.2.2.2; omega⟩)
            · rw [show ((n : Int) + 1 + (j : Int)).toNat = n + 1 + j by omega] at p4
              have hn : ¬ numE s := fun e => powE_no (by omega) (fun e => p4 ((u8_eq (c := 101)).2 e)) (hq.1 e)
              refine rp W 0 rfl rfl rfl (.pr ⟨fun e => by omega, fun e => absurd e.1 hn⟩)
          · have hn : numE s := hq.2 (powE_nil (by omega))
            refine rp W 0 rfl rfl rfl (.pr ⟨fun e => ⟨hn, by omega⟩, fun e => by omega⟩)
        · rw [show (n : Int).toNat = n by omega] at p2
          have hq : numE s ↔ powE (s.drop n) := by
            refine hq0.trans ?_
            rw [← r0, fracE_no fun e => p2 ((u8_eq (c := 46)).2 e)]
          refine sp W 0 rfl rfl rfl (fun p3 => ?_) (fun p3 => ?_)
          · refine sp W 0 rfl rfl rfl (fun p4 => ?_) (fun p4 => ?_)
            · rw [show ((n : Int)).toNat = n by omega] at p4
              have hq2 : numE s ↔ powE1 (s.drop (n + 1)) := hq.trans (powE_yes (by omega) ((u8_eq (c := 101)).1 p4))
              refine sp W 0 rfl rfl rfl (fun m1 => ?_) (fun m1 => ?_)
              · refine sp W 0 rfl rfl rfl (fun m2 => ?_) (fun m2 => ?_)
                · rw [show ((n : Int) + 1).toNat = n + 1 by omega] at m2
                  have hu : s.drop (n + 1 + 1) = cutP (s.drop (n + 1)) 45 := cutP_yes (by omega) ((u8_eq (c := 45)).1 m2)
                  have hm : True ↔ (s.drop (n + 1)).head? = some 45 := by rw [head_at (by omega)]; exact ⟨fun _ => (u8_eq (c := 45)).1 m2, fun _ => trivial⟩
                  rw [← show ((n : Int) + 1).toNat = n + 1 by omega] at m2
                  have kr : AFunP Tryd.prog 93 [.str s, .int .i64 ((n : Int) + 1 + 1)] (· = .int .i64 (run s (n + 1 + 1) : Nat)) := by
                    have := l11Run_ok s (n + 1 + 1) (by omega) (by omega)
                    rwa [show ((n + 1 + 1 : Nat) : Int) = (n : Int) + 1 + 1 by omega] at this
                  have tr := run_le s (n + 1 + 1) (by omega)
                  have hP := hq2.trans (powA_ok (a := n + 1 + 1) (m := True) (by omega) hu hm)
                  unfold powA at hP
                  refine ce W 0 rfl rfl (kr) rfl ?_
                  generalize run s (n + 1 + 1) = k at *
                  refine sp W 0 rfl rfl rfl (fun c1 => ?_) (fun c1 => ?_)
                  · refine rp W 0 rfl rfl rfl (.no (fun q => (hP.1 q.1).1 (by omega)))
                  refine sp W 0 rfl rfl rfl (fun c2 => ?_) (fun c2 => ?_)
                  · refine rp W 0 rfl rfl rfl (.no (fun q => by have := (hP.1 q.1).2.1; omega))
                  refine sp W 0 rfl rfl rfl (fun c3 => ?_) (fun c3 => ?_)
                  · have c3 : s.getD (n + 1 + 1) 0 = 48 := by rw [show ((n : Int) + 1 + 1).toNat = n + 1 + 1 by omega] at c3; exact (u8_eq (c := 48)).1 c3
                    refine sp W 0 rfl rfl rfl (fun c4 => ?_) (fun c4 => ?_)
                    · refine rp W 0 rfl rfl rfl (.no (fun q => (hP.1 q.1).2.2.1 ⟨c3, .inl (by omega)⟩))
                    · refine sp W 0 rfl rfl rfl (fun c5 => ?_) (fun c5 => ?_)
                      · refine rp W 0 rfl rfl rfl (.no (fun q => (hP.1 q.1).2.2.1 ⟨c3, .inr trivial⟩))
                      · exact absurd m2 c5
                  · have c3 : ¬ s.getD (n + 1 + 1) 0 = 48 := fun e => c3 (by rw [show ((n : Int) + 1 + 1).toNat = n + 1 + 1 by omega]; exact (u8_eq (c := 48)).2 e)
                    have f3 : ¬ (s.getD (n + 1 + 1) 0 = 48 ∧ (1 < k ∨ True)) := fun q => c3 q.1
                    refine sp W 0 rfl rfl rfl (fun c6 => ?_) (fun c6 => ?_)
                    · refine sp W 0 rfl rfl rfl (fun c7 => ?_) (fun c7 => ?_)
                      · rw [show ((n : Int) + 1 + 1).toNat = n + 1 + 1 by omega, show (((n : Int) + 1 + 1) + (k : Int)).toNat = n + 1 + 1 + k by omega] at c7
                        refine rp W 0 rfl rfl rfl (.no (fun q => (hP.1 q.1).2.2.2.1 ⟨by omega, c7⟩))
                      · rw [show ((n : Int) + 1 + 1).toNat = n + 1 + 1 by omega, show (((n : Int) + 1 + 1) + (k : Int)).toNat = n + 1 + 1 + k by omega] at c7
                        have f4 : ¬ (k = 3 ∧ ¬ (Op.bytesLess ((s.take (n + 1 + 1 + k)).drop (n + 1 + 1)) [52, 48, 48] = true ∨ (s.take (n + 1 + 1 + k)).drop (n + 1 + 1) = [52, 48, 48])) := fun q => c7 q.2
                        refine rp W 0 rfl rfl rfl (.pr ⟨fun e => ⟨hP.2 ⟨by omega, by omega, f3, f4, by omega⟩, by omega⟩, fun q => by have := (hP.1 q.1).2.2.2.2; omega⟩)
                    · have f4 : ¬ (k = 3 ∧ ¬ (Op.bytesLess ((s.take (n + 1 + 1 + k)).drop (n + 1 + 1)) [52, 48, 48] = true ∨ (s.take (n + 1 + 1 + k)).drop (n + 1 + 1) = [52, 48, 48])) := fun q => by have := q.1; omega
                      refine rp W 0 rfl rfl rfl (.pr ⟨fun e => ⟨hP.2 ⟨by omega, by omega, f3, f4, by omega⟩, by omega⟩, fun q => by have := (hP.1 q.1).2.2.2.2; omega⟩)
                · rw [show ((n : Int) + 1).toNat = n + 1 by omega] at m2
                  have hu : s.drop (n + 1) = cutP (s.drop (n + 1)) 45 := cutP_no (by omega) fun e => m2 ((u8_eq (c := 45)).2 e)
                  have hm : False ↔ (s.drop (n + 1)).head? = some 45 := by rw [head_at (by omega)]; exact ⟨False.elim, fun e => m2 ((u8_eq (c := 45)).2 e)⟩
                  rw [← show ((n : Int) + 1).toNat = n + 1 by omega] at m2
                  have kr : AFunP Tryd.prog 93 [.str s, .int .i64 ((n : Int) + 1)] (· = .int .i64 (run s (n + 1) : Nat)) := by
                    have := l11Run_ok s (n + 1) (by omega) (by omega)
                    rwa [show ((n + 1 : Nat) : Int) = (n : Int) + 1 by omega] at this
                  have tr := run_le s (n + 1) (by omega)
                  have hP := hq2.trans (powA_ok (a := n + 1) (m := False) (by omega) hu hm)
                  unfold powA at hP
                  refine ce W 0 rfl rfl (kr) rfl ?_
                  generalize run s (n + 1) = k at *
                  refine sp W 0 rfl rfl rfl (fun c1 => ?_) (fun c1 => ?_)
                  · refine rp W 0 rfl rfl rfl (.no (fun q => (hP.1 q.1).1 (by omega)))
                  refine sp W 0 rfl rfl rfl (fun c2 => ?_) (fun c2 => ?_)
                  · refine rp W 0 rfl rfl rfl (.no (fun q => by have := (hP.1 q.1).2.1; omega))
                  refine sp W 0 rfl rfl rfl (fun c3 => ?_) (fun c3 => ?_)
                  · have c3 : s.getD (n + 1) 0 = 48 := by rw [show ((n : Int) + 1).toNat = n + 1 by omega] at c3; exact (u8_eq (c := 48)).1 c3
                    refine sp W 0 rfl rfl rfl (fun c4 => ?_) (fun c4 => ?_)
                    · refine rp W 0 rfl rfl rfl (.no (fun q => (hP.1 q.1).2.2.1 ⟨c3, .inl (by omega)⟩))
                    · refine sp W 0 rfl rfl rfl (fun c5 => ?_) (fun c5 => ?_)
                      · exact absurd c5 m2
                      · have f3 : ¬ (s.getD (n + 1) 0 = 48 ∧ (1 < k ∨ False)) := fun q => q.2.elim (fun q => by omega) id
                        refine sp W 0 rfl rfl rfl (fun c6 => ?_) (fun c6 => ?_)
                        · refine sp W 0 rfl rfl rfl (fun c7 => ?_) (fun c7 => ?_)
                          · rw [show ((n : Int) + 1).toNat = n + 1 by omega, show (((n : Int) + 1) + (k : Int)).toNat = n + 1 + k by omega] at c7
                            refine rp W 0 rfl rfl rfl (.no (fun q => (hP.1 q.1).2.2.2.1 ⟨by omega, c7⟩))
                          · rw [show ((n : Int) + 1).toNat = n + 1 by omega, show (((n : Int) + 1) + (k : Int)).toNat = n + 1 + k by omega] at c7
                            have f4 : ¬ (k = 3 ∧ ¬ (Op.bytesLess ((s.take (n + 1 + k)).drop (n + 1)) [52, 48, 48] = true ∨ (s.take (n + 1 + k)).drop (n + 1) = [52, 48, 48])) := fun q => c7 q.2
                            refine rp W 0 rfl rfl rfl (.pr ⟨fun e => ⟨hP.2 ⟨by omega, by omega, f3, f4, by omega⟩, by omega⟩, fun q => by have := (hP.1 q.1).2.2.2.2; omega⟩)
                        · have f4 : ¬ (k = 3 ∧ ¬ (Op.bytesLess ((s.take (n + 1 + k)).drop (n + 1)) [52, 48, 48] = true ∨ (s.take (n + 1 + k)).drop (n + 1) = [52, 48, 48])) := fun q => by have := q.1; omega
                          refine rp W 0 rfl rfl rfl (.pr ⟨fun e => ⟨hP.2 ⟨by omega, by omega, f3, f4, by omega⟩, by omega⟩, fun q => by have := (hP.1 q.1).2.2.2.2; omega⟩)
                  · have c3 : ¬ s.getD (n + 1) 0 = 48 := fun e => c3 (by rw [show ((n : Int) + 1).toNat = n + 1 by omega]; exact (u8_eq (c := 48)).2 e)
                    have f3 : ¬ (s.getD (n + 1) 0 = 48 ∧ (1 < k ∨ False)) := fun q => c3 q.1
                    refine sp W 0 rfl rfl rfl (fun c6 => ?_) (fun c6 => ?_)
                    · refine sp W 0 rfl rfl rfl (fun c7 => ?_) (fun c7 => ?_)
                      · rw [show ((n : Int) + 1).toNat = n + 1 by omega, show (((n : Int) + 1) + (k : Int)).toNat = n + 1 + k by omega] at c7
                        refine rp W 0 rfl rfl rfl (.no (fun q => (hP.1 q.1).2.2.2.1 ⟨by omega, c7⟩))
                      · rw [show ((n : Int) + 1).toNat = n + 1 by omega, show (((n : Int) + 1) + (k : Int)).toNat = n + 1 + k by omega] at c7
                        have f4 : ¬ (k = 3 ∧ ¬ (Op.bytesLess ((s.take (n + 1 + k)).drop (n + 1)) [52, 48, 48] = true ∨ (s.take (n + 1 + k)).drop (n + 1) = [52, 48, 48])) := fun q => c7 q.2
                        refine rp W 0 rfl rfl rfl (.pr ⟨fun e => ⟨hP.2 ⟨by omega, by omega, f3, f4, by omega⟩, by omega⟩, fun q => by have := (hP.1 q.1).2.2.2.2; omega⟩)
                    · have f4 : ¬ (k = 3 ∧ ¬ (Op.bytesLess ((s.take (n + 1 + k)).drop (n + 1)) [52, 48, 48] = true ∨ (s.take (n + 1 + k)).drop (n + 1) = [52, 48, 48])) := fun q => by have := q.1; omega
                      refine rp W 0 rfl rfl rfl (.pr ⟨fun e => ⟨hP.2 ⟨by omega, by omega, f3, f4, by omega⟩, by omega⟩, fun q => by have := (hP.1 q.1).2.2.2.2; omega⟩)
              · have e0 : s.drop (n + 1) = [] := List.drop_eq_nil_iff.2 (by omega)
                have hu : s.drop (n + 1) = cutP (s.drop (n + 1)) 45 := by rw [e0]; rfl
                have hm : False ↔ (s.drop (n + 1)).head? = some 45 := by rw [e0]; simp
                have kr : AFunP Tryd.prog 93 [.str s, .int .i64 ((n : Int) + 1)] (· = .int .i64 (run s (n + 1) : Nat)) := by
                  have := l11Run_ok s (n + 1) (by omega) (by omega)
                  rwa [show ((n + 1 : Nat) : Int) = (n : Int) + 1 by omega] at this
                have tr := run_le s (n + 1) (by omega)
                have hP := hq2.trans (powA_ok (a := n + 1) (m := False) (by omega) hu hm)
                unfold powA at hP
                refine ce W 0 rfl rfl (kr) rfl ?_
                generalize run s (n + 1) = k at *
                refine sp W 0 rfl rfl rfl (fun c1 => ?_) (fun c1 => ?_)
                · refine rp W 0 rfl rfl rfl (.no (fun q => (hP.1 q.1).1 (by omega)))
                refine sp W 0 rfl rfl rfl (fun c2 => ?_) (fun c2 => ?_)
                · refine rp W 0 rfl rfl rfl (.no (fun q => by have := (hP.1 q.1).2.1; omega))
                refine sp W 0 rfl rfl rfl (fun c3 => ?_) (fun c3 => ?_)
                · have c3 : s.getD (n + 1) 0 = 48 := by rw [show ((n : Int) + 1).toNat = n + 1 by omega] at c3; exact (u8_eq (c := 48)).1 c3
                  refine sp W 0 rfl rfl rfl (fun c4 => ?_) (fun c4 => ?_)
                  · refine rp W 0 rfl rfl rfl (.no (fun q => (hP.1 q.1).2.2.1 ⟨c3, .inl (by omega)⟩))
                  · have f3 : ¬ (s.getD (n + 1) 0 = 48 ∧ (1 < k ∨ False)) := fun q => q.2.elim (fun q => by omega) id
                    refine sp W 0 rfl rfl rfl (fun c6 => ?_) (fun c6 => ?_)
                    · refine sp W 0 rfl rfl rfl (fun c7 => ?_) (fun c7 => ?_)
                      · rw [show ((n : Int) + 1).toNat = n + 1 by omega, show (((n : Int) + 1) + (k : Int)).toNat = n + 1 + k by omega] at c7
                        refine rp W 0 rfl rfl rfl (.no (fun q => (hP.1 q.1).2.2.2.1 ⟨by omega, c7⟩))
                      · rw [show ((n : Int) + 1).toNat = n + 1 by omega, show (((n : Int) + 1) + (k : Int)).toNat = n + 1 + k by omega] at c7
                        have f4 : ¬ (k = 3 ∧ ¬ (Op.bytesLess ((s.take (n + 1 + k)).drop (n + 1)) [52, 48, 48] = true ∨ (s.take (n + 1 + k)).drop (n + 1) = [52, 48, 48])) := fun q => c7 q.2
                        refine rp W 0 rfl rfl rfl (.pr ⟨fun e => ⟨hP.2 ⟨by omega, by omega, f3, f4, by omega⟩, by omega⟩, fun q => by have := (hP.1 q.1).2.2.2.2; omega⟩)
                    · have f4 : ¬ (k = 3 ∧ ¬ (Op.bytesLess ((s.take (n + 1 + k)).drop (n + 1)) [52, 48, 48] = true ∨ (s.take (n + 1 + k)).drop (n + 1) = [52, 48, 48])) := fun q => by have := q.1; omega
                      refine rp W 0 rfl rfl rfl (.pr ⟨fun e => ⟨hP.2 ⟨by omega, by omega, f3, f4, by omega⟩, by omega⟩, fun q => by have := (hP.1 q.1).2.2.2.2; omega⟩)
                · have c3 : ¬ s.getD (n + 1) 0 = 48 := fun e => c3 (by rw [show ((n : Int) + 1).toNat = n + 1 by omega]; exact (u8_eq (c := 48)).2 e)
                  have f3 : ¬ (s.getD (n + 1) 0 = 48 ∧ (1 < k ∨ False)) := fun q => c3 q.1
                  refine sp W 0 rfl rfl rfl (fun c6 => ?_) (fun c6 => ?_)
                  · refine sp W 0 rfl rfl rfl (fun c7 => ?_) (fun c7 => ?_)
                    · rw [show ((n : Int) + 1).toNat = n + 1 by omega, show (((n : Int) + 1) + (k : Int)).toNat = n + 1 + k by omega] at c7
                      refine rp W 0 rfl rfl rfl (.no (fun q => (hP.1 q.1).2.2.2.1 ⟨by omega, c7⟩))
                    · rw [show ((n : Int) + 1).toNat = n + 1 by omega, show (((n : Int) + 1) + (k : Int)).toNat = n + 1 + k by omega] at c7
                      have f4 : ¬ (k = 3 ∧ ¬ (Op.bytesLess ((s.take (n + 1 + k)).drop (n + 1)) [52, 48, 48] = true ∨ (s.take (n + 1 + k)).drop (n + 1) = [52, 48, 48])) := fun q => c7 q.2
                      refine rp W 0 rfl rfl rfl (.pr ⟨fun e => ⟨hP.2 ⟨by omega, by omega, f3, f4, by omega⟩, by omega⟩, fun q => by have := (hP.1 q.1).2.2.2.2; omega⟩)
                  · have f4 : ¬ (k = 3 ∧ ¬ (Op.bytesLess ((s.take (n + 1 + k)).drop (n + 1)) [52, 48, 48] = true ∨ (s.take (n + 1 + k)).drop (n + 1) = [52, 48, 48])) := fun q => by have := q.1; omega
                    refine rp W 0 rfl rfl rfl (.pr ⟨fun e => ⟨hP.2 ⟨by omega, by omega, f3, f4, by omega⟩, by omega⟩, fun q => by have := (hP.1 q.1).2.2.2.2; omega⟩)
            · rw [show ((n : Int)).toNat = n by omega] at p4
              have hn : ¬ numE s := fun e => powE_no (by omega) (fun e => p4 ((u8_eq (c := 101)).2 e)) (hq.1 e)
              refine rp W 0 rfl rfl rfl (.pr ⟨fun e => by omega, fun e => absurd e.1 hn⟩)
          · have hn : numE s := hq.2 (powE_nil (by omega))
            refine rp W 0 rfl rfl rfl (.pr ⟨fun e => ⟨hn, by omega⟩, fun e => by omega⟩)
      · have hq : numE s ↔ powE (s.drop n) := by
          refine hq0.trans ?_
          rw [← r0, show s.drop n = [] from List.drop_eq_nil_iff.2 (by omega)]
          simp [fracE]
        refine sp W 0 rfl rfl rfl (fun p3 => ?_) (fun p3 => ?_)
        · refine sp W 0 rfl rfl rfl (fun p4 => ?_) (fun p4 => ?_)
          · rw [show ((n : Int)).toNat = n by omega] at p4
            have hq2 : numE s ↔ powE1 (s.drop (n + 1)) := hq.trans (powE_yes (by omega) ((u8_eq (c := 101)).1 p4))
            refine sp W 0 rfl rfl rfl (fun m1 => ?_) (fun m1 => ?_)
            · refine sp W 0 rfl rfl rfl (fun m2 => ?_) (fun m2 => ?_)
              · rw [show ((n : Int) + 1).toNat = n + 1 by omega] at m2
                have hu : s.drop (n + 1 + 1) = cutP (s.drop (n + 1)) 45 := cutP_yes (by omega) ((u8_eq (c := 45)).1 m2)
                have hm : True ↔ (s.drop (n + 1)).head? = some 45 := by rw [head_at (by omega)]; exact ⟨fun _ => (u8_eq (c := 45)).1 m2, fun _ => trivial⟩
                rw [← show ((n : Int) + 1).toNat = n + 1 by omega] at m2
                have kr : AFunP Tryd.prog 93 [.str s, .int .i64 ((n : Int) + 1 + 1)] (· = .int .i64 (run s (n + 1 + 1) : Nat)) := by
                  have := l11Run_ok s (n + 1 + 1) (by omega) (by omega)
                  rwa [show ((n + 1 + 1 : Nat) : Int) = (n : Int) + 1 + 1 by omega] at this
                have tr := run_le s (n + 1 + 1) (by omega)
                have hP := hq2.trans (powA_ok (a := n + 1 + 1) (m := True) (by omega) hu hm)
                unfold powA at hP
                refine ce W 0 rfl rfl (kr) rfl ?_
                generalize run s (n + 1 + 1) = k at *
                refine sp W 0 rfl rfl rfl (fun c1 => ?_) (fun c1 => ?_)
                · refine rp W 0 rfl rfl rfl (.no (fun q => (hP.1 q.1).1 (by omega)))
                refine sp W 0 rfl rfl rfl (fun c2 => ?_) (fun c2 => ?_)
                · refine rp W 0 rfl rfl rfl (.no (fun q => by have := (hP.1 q.1).2.1; omega))
                refine sp W 0 rfl rfl rfl (fun c3 => ?_) (fun c3 => ?_)
                · have c3 : s.getD (n + 1 + 1) 0 = 48 := by rw [show ((n : Int) + 1 + 1).toNat = n + 1 + 1 by omega] at c3; exact (u8_eq (c := 48)).1 c3
                  refine sp W 0 rfl rfl rfl (fun c4 => ?_) (fun c4 => ?_)
                  · refine rp W 0 rfl rfl rfl (.no (fun q => (hP.1 q.1).2.2.1 ⟨c3, .inl (by omega)⟩))
                  · refine sp W 0 rfl rfl rfl (fun c5 => ?_) (fun c5 => ?_)
                    · refine rp W 0 rfl rfl rfl (.no (fun q => (hP.1 q.1).2.2.1 ⟨c3, .inr trivial⟩))
                    · exact absurd m2 c5
                · have c3 : ¬ s.getD (n + 1 + 1) 0 = 48 := fun e => c3 (by rw [show ((n : Int) + 1 + 1).toNat = n + 1 + 1 by omega]; exact (u8_eq (c := 48)).2 e)
                  have f3 : ¬ (s.getD (n + 1 + 1) 0 = 48 ∧ (1 < k ∨ True)) := fun q => c3 q.1
                  refine sp W 0 rfl rfl rfl (fun c6 => ?_) (fun c6 => ?_)
                  · refine sp W 0 rfl rfl rfl (fun c7 => ?_) (fun c7 => ?_)
                    · rw [show ((n : Int) + 1 + 1).toNat = n + 1 + 1 by omega, show (((n : Int) + 1 + 1) + (k : Int)).toNat = n + 1 + 1 + k by omega] at c7
                      refine rp W 0 rfl rfl rfl (.no (fun q => (hP.1 q.1).2.2.2.1 ⟨by omega, c7⟩))
                    · rw [show ((n : Int) + 1 + 1).toNat = n + 1 + 1 by omega, show (((n : Int) + 1 + 1) + (k : Int)).toNat = n + 1 + 1 + k by omega] at c7
                      have f4 : ¬ (k = 3 ∧ ¬ (Op.bytesLess ((s.take (n + 1 + 1 + k)).drop (n + 1 + 1)) [52, 48, 48] = true ∨ (s.take (n + 1 + 1 + k)).drop (n + 1 + 1) = [52, 48, 48])) := fun q => c7 q.2
                      refine rp W 0 rfl rfl rfl (.pr ⟨fun e => ⟨hP.2 ⟨by omega, by omega, f3, f4, by omega⟩, by omega⟩, fun q => by have := (hP.1 q.1).2.2.2.2; omega⟩)
                  · have f4 : ¬ (k = 3 ∧ ¬ (Op.bytesLess ((s.take (n + 1 + 1 + k)).drop (n + 1 + 1)) [52, 48, 48] = true ∨ (s.take (n + 1 + 1 + k)).drop (n + 1 + 1) = [52, 48, 48])) := fun q => by have := q.1; omega
                    refine rp W 0 rfl rfl rfl (.pr ⟨fun e => ⟨hP.2 ⟨by omega, by omega, f3, f4, by omega⟩, by omega⟩, fun q => by have := (hP.1 q.1).2.2.2.2; omega⟩)
              · rw [show ((n : Int) + 1).toNat = n + 1 by omega] at m2
                have hu : s.drop (n + 1) = cutP (s.drop (n + 1)) 45 := cutP_no (by omega) fun e => m2 ((u8_eq (c := 45)).2 e)
                have hm : False ↔ (s.drop (n + 1)).head? = some 45 := by rw [head_at (by omega)]; exact ⟨False.elim, fun e => m2 ((u8_eq (c := 45)).2 e)⟩
                rw [← show ((n : Int) + 1).toNat = n + 1 by omega] at m2
                have kr : AFunP Tryd.prog 93 [.str s, .int .i64 ((n : Int) + 1)] (· = .int .i64 (run s (n + 1) : Nat)) := by
                  have := l11Run_ok s (n + 1) (by omega) (by omega)
                  rwa [show ((n + 1 : Nat) : Int) = (n : Int) + 1 by omega] at this
                have tr := run_le s (n + 1) (by omega)
                have hP := hq2.trans (powA_ok (a := n + 1) (m := False) (by omega) hu hm)
                unfold powA at hP
                refine ce W 0 rfl rfl (kr) rfl ?_
                generalize run s (n + 1) = k at *
                refine sp W 0 rfl rfl rfl (fun c1 => ?_) (fun c1 => ?_)
                · refine rp W 0 rfl rfl rfl (.no (fun q => (hP.1 q.1).1 (by omega)))
                refine sp W 0 rfl rfl rfl (fun c2 => ?_) (fun c2 => ?_)
                · refine rp W 0 rfl rfl rfl (.no (fun q => by have := (hP.1 q.1).2.1; omega))
                refine sp W 0 rfl rfl rfl (fun c3 => ?_) (fun c3 => ?_)
                · have c3 : s.getD (n + 1) 0 = 48 := by rw [show ((n : Int) + 1).toNat = n + 1 by omega] at c3; exact (u8_eq (c := 48)).1 c3
                  refine sp W 0 rfl rfl rfl (fun c4 => ?_) (fun c4 => ?_)
                  · refine rp W 0 rfl rfl rfl (.no (fun q => (hP.1 q.1).2.2.1 ⟨c3, .inl (by omega)⟩))
                  · refine sp W 0 rfl rfl rfl (fun c5 => ?_) (fun c5 => ?_)
                    · exact absurd c5 m2
                    · have f3 : ¬ (s.getD (n + 1) 0 = 48 ∧ (1 < k ∨ False)) := fun q => q.2.elim (fun q => by omega) id
                      refine sp W 0 rfl rfl rfl (fun c6 => ?_) (fun c6 => ?_)
                      · refine sp W 0 rfl rfl rfl (fun c7 => ?_) (fun c7 => ?_)
                        · rw [show ((n : Int) + 1).toNat = n + 1 by omega, show (((n : Int) + 1) + (k : Int)).toNat = n + 1 + k by omega] at c7
                          refine rp W 0 rfl rfl rfl (.no (fun q => (hP.1 q.1).2.2.2.1 ⟨by omega, c7⟩))
                        · rw [show ((n : Int) + 1).toNat = n + 1 by omega, show (((n : Int) + 1) + (k : Int)).toNat = n + 1 + k by omega] at c7
                          have f4 : ¬ (k = 3 ∧ ¬ (Op.bytesLess ((s.take (n + 1 + k)).drop (n + 1)) [52, 48, 48] = true ∨ (s.take (n + 1 + k)).drop (n + 1) = [52, 48, 48])) := fun q => c7 q.2
                          refine rp W 0 rfl rfl rfl (.pr ⟨fun e => ⟨hP.2 ⟨by omega, by omega, f3, f4, by omega⟩, by omega⟩, fun q => by have := (hP.1 q.1).2.2.2.2; omega⟩)
                      · have f4 : ¬ (k = 3 ∧ ¬ (Op.bytesLess ((s.take (n + 1 + k)).drop (n + 1)) [52, 48, 48] = true ∨ (s.take (n + 1 + k)).drop (n + 1) = [52, 48, 48])) := fun q => by have := q.1; omega
                        refine rp W 0 rfl rfl rfl (.pr ⟨fun e => ⟨hP.2 ⟨by omega, by omega, f3, f4, by omega⟩, by omega⟩, fun q => by have := (hP.1 q.1).2.2.2.2; omega⟩)
                · have c3 : ¬ s.getD (n + 1) 0 = 48 := fun e => c3 (by rw [show ((n : Int) + 1).toNat = n + 1 by omega]; exact (u8_eq (c := 48)).2 e)
                  have f3 : ¬ (s.getD (n + 1) 0 = 48 ∧ (1 < k ∨ False)) := fun q => c3 q.1
                  refine sp W 0 rfl rfl rfl (fun c6 => ?_) (fun c6 => ?_)
                  · refine sp W 0 rfl rfl rfl (fun c7 => ?_) (fun c7 => ?_)
                    · rw [show ((n : Int) + 1).toNat = n + 1 by omega, show (((n : Int) + 1) + (k : Int)).toNat = n + 1 + k by omega] at c7
                      refine rp W 0 rfl rfl rfl (.no (fun q => (hP.1 q.1).2.2.2.1 ⟨by omega, c7⟩))
                    · rw [show ((n : Int) + 1).toNat = n + 1 by omega, show (((n : Int) + 1) + (k : Int)).toNat = n + 1 + k by omega] at c7
                      have f4 : ¬ (k = 3 ∧ ¬ (Op.bytesLess ((s.take (n + 1 + k)).drop (n + 1)) [52, 48, 48] = true ∨ (s.take (n + 1 + k)).drop (n + 1) = [52, 48, 48])) := fun q => c7 q.2
                      refine rp W 0 rfl rfl rfl (.pr ⟨fun e => ⟨hP.2 ⟨by omega, by omega, f3, f4, by omega⟩, by omega⟩, fun q => by have := (hP.1 q.1).2.2.2.2; omega⟩)
                  · have f4 : ¬ (k = 3 ∧ ¬ (Op.bytesLess ((s.take (n + 1 + k)).drop (n + 1)) [52, 48, 48] = true ∨ (s.take (n + 1 + k)).drop (n + 1) = [52, 48, 48])) := fun q => by have := q.1; omega
                    refine rp W 0 rfl rfl rfl (.pr ⟨fun e => ⟨hP.2 ⟨by omega, by omega, f3, f4, by omega⟩, by omega⟩, fun q => by have := (hP.1 q.1).2.2.2.2; omega⟩)
            · have e0 : s.drop (n + 1) = [] := List.drop_eq_nil_iff.2 (by omega)
              have hu : s.drop (n + 1) = cutP (s.drop (n + 1)) 45 := by rw [e0]; rfl
              have hm : False ↔ (s.drop (n + 1)).head? = some 45 := by rw [e0]; simp
              have kr : AFunP Tryd.prog 93 [.str s, .int .i64 ((n : Int) + 1)] (· = .int .i64 (run s (n + 1) : Nat)) := by
                have := l11Run_ok s (n + 1) (by omega) (by omega)
                rwa [show ((n + 1 : Nat) : Int) = (n : Int) + 1 by omega] at this
              have tr := run_le s (n + 1) (by omega)
              have hP := hq2.trans (powA_ok (a := n + 1) (m := False) (by omega) hu hm)
              unfold powA at hP
              refine ce W 0 rfl rfl (kr) rfl ?_
              generalize run s (n + 1) = k at *
              refine sp W 0 rfl rfl rfl (fun c1 => ?_) (fun c1 => ?_)
              · refine rp W 0 rfl rfl rfl (.no (fun q => (hP.1 q.1).1 (by omega)))
              refine sp W 0 rfl rfl rfl (fun c2 => ?_) (fun c2 => ?_)
              · refine rp W 0 rfl rfl rfl (.no (fun q => by have := (hP.1 q.1).2.1; omega))
              refine sp W 0 rfl rfl rfl (fun c3 => ?_) (fun c3 => ?_)
              · have c3 : s.getD (n + 1) 0 = 48 := by rw [show ((n : Int) + 1).toNat = n + 1 by omega] at c3; exact (u8_eq (c := 48)).1 c3
                refine sp W 0 rfl rfl rfl (fun c4 => ?_) (fun c4 => ?_)
                · refine rp W 0 rfl rfl rfl (.no (fun q => (hP.1 q.1).2.2.1 ⟨c3, .inl (by omega)⟩))
                · have f3 : ¬ (s.getD (n + 1) 0 = 48 ∧ (1 < k ∨ False)) := fun q => q.2.elim (fun q => by omega) id
                  refine sp W 0 rfl rfl rfl (fun c6 => ?_) (fun c6 => ?_)
                  · refine sp W 0 rfl rfl rfl (fun c7 => ?_) (fun c7 => ?_)
                    · rw [show ((n : Int) + 1).toNat = n + 1 by omega, show (((n : Int) + 1) + (k : Int)).toNat = n + 1 + k by omega] at c7
                      refine rp W 0 rfl rfl rfl (.no (fun q => (hP.1 q.1).2.2.2.1 ⟨by omega, c7⟩))
                    · rw [show ((n : Int) + 1).toNat = n + 1 by omega, show (((n : Int) + 1) + (k : Int)).toNat = n + 1 + k by omega] at c7
                      have f4 : ¬ (k = 3 ∧ ¬ (Op.bytesLess ((s.take (n + 1 + k)).drop (n + 1)) [52, 48, 48] = true ∨ (s.take (n + 1 + k)).drop (n + 1) = [52, 48, 48])) := fun q => c7 q.2
                      refine rp W 0 rfl rfl rfl (.pr ⟨fun e => ⟨hP.2 ⟨by omega, by omega, f3, f4, by omega⟩, by omega⟩, fun q => by have := (hP.1 q.1).2.2.2.2; omega⟩)
                  · have f4 : ¬ (k = 3 ∧ ¬ (Op.bytesLess ((s.take (n + 1 + k)).drop (n + 1)) [52, 48, 48] = true ∨ (s.take (n + 1 + k)).drop (n + 1) = [52, 48, 48])) := fun q => by have := q.1; omega
                    refine rp W 0 rfl rfl rfl (.pr ⟨fun e => ⟨hP.2 ⟨by omega, by omega, f3, f4, by omega⟩, by omega⟩, fun q => by have := (hP.1 q.1).2.2.2.2; omega⟩)
              · have c3 : ¬ s.getD (n + 1) 0 = 48 := fun e => c3 (by rw [show ((n : Int) + 1).toNat = n + 1 by omega]; exact (u8_eq (c := 48)).2 e)
                have f3 : ¬ (s.getD (n + 1) 0 = 48 ∧ (1 < k ∨ False)) := fun q => c3 q.1
                refine sp W 0 rfl rfl rfl (fun c6 => ?_) (fun c6 => ?_)
                · refine sp W 0 rfl rfl rfl (fun c7 => ?_) (fun c7 => ?_)
                  · rw [show ((n : Int) + 1).toNat = n + 1 by omega, show (((n : Int) + 1) + (k : Int)).toNat = n + 1 + k by omega] at c7
                    refine rp W 0 rfl rfl rfl (.no (fun q => (hP.1 q.1).2.2.2.1 ⟨by omega, c7⟩))
                  · rw [show ((n : Int) + 1).toNat = n + 1 by omega, show (((n : Int) + 1) + (k : Int)).toNat = n + 1 + k by omega] at c7
                    have f4 : ¬ (k = 3 ∧ ¬ (Op.bytesLess ((s.take (n + 1 + k)).drop (n + 1)) [52, 48, 48] = true ∨ (s.take (n + 1 + k)).drop (n + 1) = [52, 48, 48])) := fun q => c7 q.2
                    refine rp W 0 rfl rfl rfl (.pr ⟨fun e => ⟨hP.2 ⟨by omega, by omega, f3, f4, by omega⟩, by omega⟩, fun q => by have := (hP.1 q.1).2.2.2.2; omega⟩)
                · have f4 : ¬ (k = 3 ∧ ¬ (Op.bytesLess ((s.take (n + 1 + k)).drop (n + 1)) [52, 48, 48] = true ∨ (s.take (n + 1 + k)).drop (n + 1) = [52, 48, 48])) := fun q => by have := q.1; omega
                  refine rp W 0 rfl rfl rfl (.pr ⟨fun e => ⟨hP.2 ⟨by omega, by omega, f3, f4, by omega⟩, by omega⟩, fun q => by have := (hP.1 q.1).2.2.2.2; omega⟩)
          · rw [show ((n : Int)).toNat = n by omega] at p4
            have hn : ¬ numE s := fun e => powE_no (by omega) (fun e => p4 ((u8_eq (c := 101)).2 e)) (hq.1 e)
            refine rp W 0 rfl rfl rfl (.pr ⟨fun e => by omega, fun e => absurd e.1 hn⟩)
        · have hn : numE s := hq.2 (powE_nil (by omega))
          refine rp W 0 rfl rfl rfl (.pr ⟨fun e => ⟨hn, by omega⟩, fun e => by omega⟩)
  · have hw := (w0 (by omega)).2 fun k => by have := k.1; omega
    have hq0 : numE s ↔ fracE (Rg s) := ⟨fun e => e.2, fun e => ⟨hw, e⟩⟩
    refine sp W 0 rfl rfl rfl (fun p1 => ?_) (fun p1 => ?_)
    · refine sp W 0 rfl rfl rfl (fun p2 => ?_) (fun p2 => ?_)
      · rw [show (n : Int).toNat = n by omega] at p2
        have p2 := (u8_eq (c := 46)).1 p2
        have kk : AFunP Tryd.prog 93 [.str s, .int .i64 ((n : Int) + 1)] (· = .int .i64 (run s (n + 1) : Nat)) := l11Run_ok s (n + 1) (by omega) (by omega)
        have tk := run_le s (n + 1) (by omega)
        have hf : numE s ↔ run s (n + 1) ≠ 0 ∧ powE (s.drop (n + 1 + run s (n + 1))) := by
          refine hq0.trans ?_
          rw [← r0, fracE_yes (by omega) p2]
        refine ce W 0 rfl rfl (kk) rfl ?_
        generalize run s (n + 1) = j at *
        refine sp W 0 rfl rfl rfl (fun p5 => ?_) (fun p5 => ?_)
        · refine rp W 0 rfl rfl rfl (.no (fun q => (hf.1 q.1).1 (by omega)))
        have hq : numE s ↔ powE (s.drop (n + 1 + j)) := ⟨fun e => (hf.1 e).2, fun e => hf.2 ⟨by omega, e⟩⟩
        refine sp W 0 rfl rfl rfl (fun p3 => ?_) (fun p3 => ?_)
        · refine sp W 0 rfl rfl rfl (fun p4 => ?_) (fun p4 => ?_)
          · rw [show ((n : Int) + 1 + (j : Int)).toNat = n + 1 + j by omega] at p4
            have hq2 : numE s ↔ powE1 (s.drop (n + 1 + j + 1)) := hq.trans (powE_yes (by omega) ((u8_eq (c := 101)).1 p4))
            refine sp W 0 rfl rfl rfl (fun m1 => ?_) (fun m1 => ?_)
            · refine sp W 0 rfl rfl rfl (fun m2 => ?_) (fun m2 => ?_)
              · rw [show ((n : Int) + 1 + (j : Int) + 1).toNat = n + 1 + j + 1 by omega] at m2
                have hu : s.drop (n + 1 + j + 1 + 1) = cutP (s.drop (n + 1 + j + 1)) 45 := cutP_yes (by omega) ((u8_eq (c := 45)).1 m2)
                have hm : True ↔ (s.drop (n + 1 + j + 1)).head? = some 45 := by rw [head_at (by omega)]; exact ⟨fun _ => (u8_eq (c := 45)).1 m2, fun _ => trivial⟩
                rw [← show ((n : Int) + 1 + (j : Int) + 1).toNat = n + 1 + j + 1 by omega] at m2
                have kr : AFunP Tryd.prog 93 [.str s, .int .i64 ((n : Int) + 1 + (j : Int) + 1 + 1)] (· = .int .i64 (run s (n + 1 + j + 1 + 1) : Nat)) := by
                  have := l11Run_ok s (n + 1 + j + 1 + 1) (by omega) (by omega)
                  rwa [show ((n + 1 + j + 1 + 1 : Nat) : Int) = (n : Int) + 1 + (j : Int) + 1 + 1 by omega] at this
                have tr := run_le s (n + 1 + j + 1 + 1) (by omega)
                have hP := hq2.trans (powA_ok (a := n + 1 + j + 1 + 1) (m := True) (by omega) hu hm)
                unfold powA at hP
                refine ce W 0 rfl rfl (kr) rfl ?_
                generalize run s (n + 1 + j + 1 + 1) = k at *
                refine sp W 0 rfl rfl rfl (fun c1 => ?_) (fun c1 => ?_)
                · refine rp W 0 rfl rfl rfl (.no (fun q => (hP.1 q.1).1 (by omega)))
                refine sp W 0 rfl rfl rfl (fun c2 => ?_) (fun c2 => ?_)
                · refine rp W 0 rfl rfl rfl (.no (fun q => by have := (hP.1 q.1).2.1; omega))
                refine sp W 0 rfl rfl rfl (fun c3 => ?_) (fun c3 => ?_)
                · have c3 : s.getD (n + 1 + j + 1 + 1) 0 = 48 := by rw [show ((n : Int) + 1 + (j : Int) + 1 + 1).toNat = n + 1 + j + 1 + 1 by omega] at c3; exact (u8_eq (c := 48)).1 c3
                  refine sp W 0 rfl rfl rfl (fun c4 => ?_) (fun c4 => ?_)
                  · refine rp W 0 rfl rfl rfl (.no (fun q => (hP.1 q.1).2.2.1 ⟨c3, .inl (by omega)⟩))
                  · refine sp W 0 rfl rfl rfl (fun c5 => ?_) (fun c5 => ?_)
                    · refine rp W 0 rfl rfl rfl (.no (fun q => (hP.1 q.1).2.2.1 ⟨c3, .inr trivial⟩))
                    · exact absurd m2 c5
                · have c3 : ¬ s.getD (n + 1 + j + 1 + 1) 0 = 48 := fun e => c3 (by rw [show ((n : Int) + 1 + (j : Int) + 1 + 1).toNat = n + 1 + j + 1 + 1 by omega]; exact (u8_eq (c := 48)).2 e)
                  have f3 : ¬ (s.getD (n + 1 + j + 1 + 1) 0 = 48 ∧ (1 < k ∨ True)) := fun q => c3 q.1
                  refine sp W 0 rfl rfl rfl (fun c6 => ?_) (fun c6 => ?_)
                  · refine sp W 0 rfl rfl rfl (fun c7 => ?_) (fun c7 => ?_)
                    · rw [show ((n : Int) + 1 + (j : Int) + 1 + 1).toNat = n + 1 + j + 1 + 1 by omega, show (((n : Int) + 1 + (j : Int) + 1 + 1) + (k : Int)).toNat = n + 1 + j + 1 + 1 + k by omega] at c7
                      refine rp W 0 rfl rfl rfl (.no (fun q => (hP.1 q.1).2.2.2.1 ⟨by omega, c7⟩))
                    · rw [show ((n : Int) + 1 + (j : Int) + 1 + 1).toNat = n + 1 + j + 1 + 1 by omega, show (((n : Int) + 1 + (j : Int) + 1 + 1) + (k : Int)).toNat = n + 1 + j + 1 + 1 + k by omega] at c7
                      have f4 : ¬ (k = 3 ∧ ¬ (Op.bytesLess ((s.take (n + 1 + j + 1 + 1 + k)).drop (n + 1 + j + 1 + 1)) [52, 48, 48] = true ∨ (s.take (n + 1 + j + 1 + 1 + k)).drop (n + 1 + j + 1 + 1) = [52, 48, 48])) := fun q => c7 q.2
                      refine rp W 0 rfl rfl rfl (.pr ⟨fun e => ⟨hP.2 ⟨by omega, by omega, f3, f4, by omega⟩, by omega⟩, fun q => by have := (hP.1 q.1).2.2.2.2; omega⟩)
                  · have f4 : ¬ (k = 3 ∧ ¬ (Op.bytesLess ((s.take (n + 1 + j + 1 + 1 + k)).drop (n + 1 + j + 1 + 1)) [52, 48, 48] = true ∨ (s.take (n + 1 + j + 1 + 1 + k)).drop (n + 1 + j + 1 + 1) = [52, 48, 48])) := fun q => by have := q.1; omega
                    refine rp W 0 rfl rfl rfl (.pr ⟨fun e => ⟨hP.2 ⟨by omega, by omega, f3, f4, by omega⟩, by omega⟩, fun q => by have := (hP.1 q.1).2.2.2.2; omega⟩)
              · rw [show ((n : Int) + 1 + (j : Int) + 1).toNat = n + 1 + j + 1 by omega] at m2
                have hu : s.drop (n + 1 + j + 1) = cutP (s.drop (n + 1 + j + 1)) 45 := cutP_no (by omega) fun e => m2 ((u8_eq (c := 45)).2 e)
                have hm : False ↔ (s.drop (n + 1 + j + 1)).head? = some 45 := by rw [head_at (by omega)]; exact ⟨False.elim, fun e => m2 ((u8_eq (c := 45)).2 e)⟩
                rw [← show ((n : Int) + 1 + (j : Int) + 1).toNat = n + 1 + j + 1 by omega] at m2
                have kr : AFunP Tryd.prog 93 [.str s, .int .i64 ((n : Int) + 1 + (j : Int) + 1)] (· = .int .i64 (run s (n + 1 + j + 1) : Nat)) := by
                  have := l11Run_ok s (n + 1 + j + 1) (by omega) (by omega)
                  rwa [show ((n + 1 + j + 1 : Nat) : Int) = (n : Int) + 1 + (j : Int) + 1 by omega] at this
                have tr := run_le s (n + 1 + j + 1) (by omega)
                have hP := hq2.trans (powA_ok (a := n + 1 + j + 1) (m := False) (by omega) hu hm)
                unfold powA at hP
                refine ce W 0 rfl rfl (kr) rfl ?_
                generalize run s (n + 1 + j + 1) = k at *
                refine sp W 0 rfl rfl rfl (fun c1 => ?_) (fun c1 => ?_)
                · refine rp W 0 rfl rfl rfl (.no (fun q => (hP.1 q.1).1 (by omega)))
                refine sp W 0 rfl rfl rfl (fun c2 => ?_) (fun c2 => ?_)
                · refine rp W 0 rfl rfl rfl (.no (fun q => by have := (hP.1 q.1).2.1; omega))
                refine sp W 0 rfl rfl rfl (fun c3 => ?_) (fun c3 => ?_)
                · have c3 : s.getD (n + 1 + j + 1) 0 = 48 := by rw [show ((n : Int) + 1 + (j : Int) + 1).toNat = n + 1 + j + 1 by omega] at c3; exact (u8_eq (c := 48)).1 c3
                  refine sp W 0 rfl rfl rfl (fun c4 => ?_) (fun c4 => ?_)
                  · refine rp W 0 rfl rfl rfl (.no (fun q => (hP.1 q.1).2.2.1 ⟨c3, .inl (by omega)⟩))
                  · refine sp W 0 rfl rfl rfl (fun c5 => ?_) (fun c5 => ?_)
                    · exact absurd c5 m2
                    · have f3 : ¬ (s.getD (n + 1 + j + 1) 0 = 48 ∧ (1 < k ∨ False)) := fun q => q.2.elim (fun q => by omega) id
                      refine sp W 0 rfl rfl rfl (fun c6 => ?_) (fun c6 => ?_)
                      · refine sp W 0 rfl rfl rfl (fun c7 => ?_) (fun c7 => ?_)
                        · rw [show ((n : Int) + 1 + (j : Int) + 1).toNat = n + 1 + j + 1 by omega, show (((n : Int) + 1 + (j : Int) + 1) + (k : Int)).toNat = n + 1 + j + 1 + k by omega] at c7
                          refine rp W 0 rfl rfl rfl (.no (fun q => (hP.1 q.1).2.2.2.1 ⟨by omega, c7⟩))
                        · rw [show ((n : Int) + 1 + (j : Int) + 1).toNat = n + 1 + j + 1 by omega, show (((n : Int) + 1 + (j : Int) + 1) + (k : Int)).toNat = n + 1 + j + 1 + k by omega] at c7
                          have f4 : ¬ (k = 3 ∧ ¬ (Op.bytesLess ((s.take (n + 1 + j + 1 + k)).drop (n + 1 + j + 1)) [52, 48, 48] = true ∨ (s.take (n + 1 + j + 1 + k)).drop (n + 1 + j + 1) = [52, 48, 48])) := fun q => c7 q.2
                          refine rp W 0 rfl rfl rfl (.pr ⟨fun e => ⟨hP.2 ⟨by omega, by omega, f3, f4, by omega⟩, by omega⟩, fun q => by have := (hP.1 q.1).2.2.2.2; omega⟩)
                      · have f4 : ¬ (k = 3 ∧ ¬ (Op.bytesLess ((s.take (n + 1 + j + 1 + k)).drop (n + 1 + j + 1)) [52, 48, 48] = true ∨ (s.take (n + 1 + j + 1 + k)).drop (n + 1 + j + 1) = [52, 48, 48])) := fun q => by have := q.1; omega
                        refine rp W 0 rfl rfl rfl (.pr ⟨fun e => ⟨hP.2 ⟨by omega, by omega, f3, f4, by omega⟩, by omega⟩, fun q => by have := (hP.1 q.1).2.2.2.2; omega⟩)
                · have c3 : ¬ s.getD (n + 1 + j + 1) 0 = 48 := fun e => c3 (by rw [show ((n : Int) + 1 + (j : Int) + 1).toNat = n + 1 + j + 1 by omega]; exact (u8_eq (c := 48)).2 e)
                  have f3 : ¬ (s.getD (n + 1 + j + 1) 0 = 48 ∧ (1 < k ∨ False)) := fun q => c3 q.1
                  refine sp W 0 rfl rfl rfl (fun c6 => ?_) (fun c6 => ?_)
                  · refine sp W 0 rfl rfl rfl (fun c7 => ?_) (fun c7 => ?_)
                    · rw [show ((n : Int) + 1 + (j : Int) + 1).toNat = n + 1 + j + 1 by omega, show (((n : Int) + 1 + (j : Int) + 1) + (k : Int)).toNat = n + 1 + j + 1 + k by omega] at c7
                      refine rp W 0 rfl rfl rfl (.no (fun q => (hP.1 q.1).2.2.2.1 ⟨by omega, c7⟩))
                    · rw [show ((n : Int) + 1 + (j : Int) + 1).toNat = n + 1 + j + 1 by omega, show (((n : Int) + 1 + (j : Int) + 1) + (k : Int)).toNat = n + 1 + j + 1 + k by omega] at c7
                      have f4 : ¬ (k = 3 ∧ ¬ (Op.bytesLess ((s.take (n + 1 + j + 1 + k)).drop (n + 1 + j + 1)) [52, 48, 48] = true ∨ (s.take (n + 1 + j + 1 + k)).drop (n + 1 + j + 1) = [52, 48, 48])) := fun q => c7 q.2
                      refine rp W 0 rfl rfl rfl (.pr ⟨fun e => ⟨hP.2 ⟨by omega, by omega, f3, f4, by omega⟩, by omega⟩, fun q => by have := (hP.1 q.1).2.2.2.2; omega⟩)
                  · have f4 : ¬ (k = 3 ∧ ¬ (Op.bytesLess ((s.take (n + 1 + j + 1 + k)).drop (n + 1 + j + 1)) [52, 48, 48] = true ∨ (s.take (n + 1 + j + 1 + k)).drop (n + 1 + j + 1) = [52, 48, 48])) := fun q => by have := q.1; omega
                    refine rp W 0 rfl rfl rfl (.pr ⟨fun e => ⟨hP.2 ⟨by omega, by omega, f3, f4, by omega⟩, by omega⟩, fun q => by have := (hP.1 q.1).2.2.2.2; omega⟩)
            · have e0 : s.drop (n + 1 + j + 1) = [] := List.drop_eq_nil_iff.2 (by omega)
              have hu : s.drop (n + 1 + j + 1) = cutP (s.drop (n + 1 + j + 1)) 45 := by rw [e0]; rfl
              have hm : False ↔ (s.drop (n + 1 + j + 1)).head? = some 45 := by rw [e0]; simp
              have kr : AFunP Tryd.prog 93 [.str s, .int .i64 ((n : Int) + 1 + (j : Int) + 1)] (· = .int .i64 (run s (n + 1 + j + 1) : Nat)) := by
                have := l11Run_ok s (n + 1 + j + 1) (by omega) (by omega)
                rwa [show ((n + 1 + j + 1 : Nat) : Int) = (n : Int) + 1 + (j : Int) + 1 by omega] at this
              have tr := run_le s (n + 1 + j + 1) (by omega)
              have hP := hq2.trans (powA_ok (a := n + 1 + j + 1) (m := False) (by omega) hu hm)
              unfold powA at hP
              refine ce W 0 rfl rfl (kr) rfl ?_
              generalize run s (n + 1 + j + 1) = k at *
              refine sp W 0 rfl rfl rfl (fun c1 => ?_) (fun c1 => ?_)
              · refine rp W 0 rfl rfl rfl (.no (fun q => (hP.1 q.1).1 (by omega)))
              refine sp W 0 rfl rfl rfl (fun c2 => ?_) (fun c2 => ?_)
              · refine rp W 0 rfl rfl rfl (.no (fun q => by have := (hP.1 q.1).2.1; omega))
              refine sp W 0 rfl rfl rfl (fun c3 => ?_) (fun c3 => ?_)
              · have c3 : s.getD (n + 1 + j + 1) 0 = 48 := by rw [show ((n : Int) + 1 + (j : Int) + 1).toNat = n + 1 + j + 1 by omega] at c3; exact (u8_eq (c := 48)).1 c3
                refine sp W 0 rfl rfl rfl (fun c4 => ?_) (fun c4 => ?_)
                · refine rp W 0 rfl rfl rfl (.no (fun q => (hP.1 q.1).2.2.1 ⟨c3, .inl (by omega)⟩))
                · have f3 : ¬ (s.getD (n + 1 + j + 1) 0 = 48 ∧ (1 < k ∨ False)) := fun q => q.2.elim (fun q => by omega) id
                  refine sp W 0 rfl rfl rfl (fun c6 => ?_) (fun c6 => ?_)
                  · refine sp W 0 rfl rfl rfl (fun c7 => ?_) (fun c7 => ?_)
                    · rw [show ((n : Int) + 1 + (j : Int) + 1).toNat = n + 1 + j + 1 by omega, show (((n : Int) + 1 + (j : Int) + 1) + (k : Int)).toNat = n + 1 + j + 1 + k by omega] at c7
                      refine rp W 0 rfl rfl rfl (.no (fun q => (hP.1 q.1).2.2.2.1 ⟨by omega, c7⟩))
                    · rw [show ((n : Int) + 1 + (j : Int) + 1).toNat = n + 1 + j + 1 by omega, show (((n : Int) + 1 + (j : Int) + 1) + (k : Int)).toNat = n + 1 + j + 1 + k by omega] at c7
                      have f4 : ¬ (k = 3 ∧ ¬ (Op.bytesLess ((s.take (n + 1 + j + 1 + k)).drop (n + 1 + j + 1)) [52, 48, 48] = true ∨ (s.take (n + 1 + j + 1 + k)).drop (n + 1 + j + 1) = [52, 48, 48])) := fun q => c7 q.2
                      refine rp W 0 rfl rfl rfl (.pr ⟨fun e => ⟨hP.2 ⟨by omega, by omega, f3, f4, by omega⟩, by omega⟩, fun q => by have := (hP.1 q.1).2.2.2.2; omega⟩)
                  · have f4 : ¬ (k = 3 ∧ ¬ (Op.bytesLess ((s.take (n + 1 + j + 1 + k)).drop (n + 1 + j + 1)) [52, 48, 48] = true ∨ (s.take (n + 1 + j + 1 + k)).drop (n + 1 + j + 1) = [52, 48, 48])) := fun q => by have := q.1; omega
                    refine rp W 0 rfl rfl rfl (.pr ⟨fun e => ⟨hP.2 ⟨by omega, by omega, f3, f4, by omega⟩, by omega⟩, fun q => by have := (hP.1 q.1).2.2.2.2; omega⟩)
              · have c3 : ¬ s.getD (n + 1 + j + 1) 0 = 48 := fun e => c3 (by rw [show ((n : Int) + 1 + (j : Int) + 1).toNat = n + 1 + j + 1 by omega]; exact (u8_eq (c := 48)).2 e)
                have f3 : ¬ (s.getD (n + 1 + j + 1) 0 = 48 ∧ (1 < k ∨ False)) := fun q => c3 q.1
                refine sp W 0 rfl rfl rfl (fun c6 => ?_) (fun c6 => ?_)
                · refine sp W 0 rfl rfl rfl (fun c7 => ?_) (fun c7 => ?_)
                  · rw [show ((n : Int) + 1 + (j : Int) + 1).toNat = n + 1 + j + 1 by omega, show (((n : Int) + 1 + (j : Int) + 1) + (k : Int)).toNat = n + 1 + j + 1 + k by omega] at c7
                    refine rp W 0 rfl rfl rfl (.no (fun q => (hP.1 q.1).2.2.2.1 ⟨by omega, c7⟩))
                  · rw [show ((n : Int) + 1 + (j : Int) + 1).toNat = n + 1 + j + 1 by omega, show (((n : Int) + 1 + (j : Int) + 1) + (k : Int)).toNat = n + 1 + j + 1 + k by omega] at c7
                    have f4 : ¬ (k = 3 ∧ ¬ (Op.bytesLess ((s.take (n + 1 + j + 1 + k)).drop (n + 1 + j + 1)) [52, 48, 48] = true ∨ (s.take (n + 1 + j + 1 + k)).drop (n + 1 + j + 1) = [52, 48, 48])) := fun q => c7 q.2
                    refine rp W 0 rfl rfl rfl (.pr ⟨fun e => ⟨hP.2 ⟨by omega, by omega, f3, f4, by omega⟩, by omega⟩, fun q => by have := (hP.1 q.1).2.2.2.2; omega⟩)
                · have f4 : ¬ (k = 3 ∧ ¬ (Op.bytesLess ((s.take (n + 1 + j + 1 + k)).drop (n + 1 + j + 1)) [52, 48, 48] = true ∨ (s.take (n + 1 + j + 1 + k)).drop (n + 1 + j + 1) = [52, 48, 48])) := fun q => by have := q.1; omega
                  refine rp W 0 rfl rfl rfl (.pr ⟨fun e => ⟨hP.2 ⟨by omega, by omega, f3, f4, by omega⟩, by omega⟩, fun q => by have := (hP.1 q.1).2.2.2.2; omega⟩)
          · rw [show ((n : Int) + 1 + (j : Int)).toNat = n + 1 + j by omega] at p4
            have hn : ¬ numE s := fun e => powE_no (by omega) (fun e => p4 ((u8_eq (c := 101)).2 e)) (hq.1 e)
            refine rp W 0 rfl rfl rfl (.pr ⟨fun e => by omega, fun e => absurd e.1 hn⟩)
        · have hn : numE s := hq.2 (powE_nil (by omega))
          refine rp W 0 rfl rfl rfl (.pr ⟨fun e => ⟨hn, by omega⟩, fun e => by omega⟩)
      · rw [show (n : Int).toNat = n by omega] at p2
        have hq : numE s ↔ powE (s.drop n) := by
          refine hq0.trans ?_
          rw [← r0, fracE_no fun e => p2 ((u8_eq (c := 46)).2 e)]
        refine sp W 0 rfl rfl rfl (fun p3 => ?_) (fun p3 => ?_)
        · refine sp W 0 rfl rfl rfl (fun p4 => ?_) (fun p4 => ?_)
          · rw [show ((n : Int)).toNat = n by omega] at p4
            have hq2 : numE s ↔ powE1 (s.drop (n + 1)) := hq.trans (powE_yes (by omega) ((u8_eq (c := 101)).1 p4))
            refine sp W 0 rfl rfl rfl (fun m1 => ?_) (fun m1 => ?_)
            · refine sp W 0 rfl rfl rfl (fun m2 => ?_) (fun m2 => ?_)
              · rw [show ((n : Int) + 1).toNat = n + 1 by omega] at m2
                have hu : s.drop (n + 1 + 1) = cutP (s.drop (n + 1)) 45 := cutP_yes (by omega) ((u8_eq (c := 45)).1 m2)
                have hm : True ↔ (s.drop (n + 1)).head? = some 45 := by rw [head_at (by omega)]; exact ⟨fun _ => (u8_eq (c := 45)).1 m2, fun _ => trivial⟩
                rw [← show ((n : Int) + 1).toNat = n + 1 by omega] at m2
                have kr : AFunP Tryd.prog 93 [.str s, .int .i64 ((n : Int) + 1 + 1)] (· = .int .i64 (run s (n + 1 + 1) : Nat)) := by
                  have := l11Run_ok s (n + 1 + 1) (by omega) (by omega)
                  rwa [show ((n + 1 + 1 : Nat) : Int) = (n : Int) + 1 + 1 by omega] at this
                have tr := run_le s (n + 1 + 1) (by omega)
                have hP := hq2.trans (powA_ok (a := n + 1 + 1) (m := True) (by omega) hu hm)
                unfold powA at hP
                refine ce W 0 rfl rfl (kr) rfl ?_
                generalize run s (n + 1 + 1) = k at *
                refine sp W 0 rfl rfl rfl (fun c1 => ?_) (fun c1 => ?_)
                · refine rp W 0 rfl rfl rfl (.no (fun q => (hP.1 q.1).1 (by omega)))
                refine sp W 0 rfl rfl rfl (fun c2 => ?_) (fun c2 => ?_)
                · refine rp W 0 rfl rfl rfl (.no (fun q => by have := (hP.1 q.1).2.1; omega))
                refine sp W 0 rfl rfl rfl (fun c3 => ?_) (fun c3 => ?_)
                · have c3 : s.getD (n + 1 + 1) 0 = 48 := by rw [show ((n : Int) + 1 + 1).toNat = n + 1 + 1 by omega] at c3; exact (u8_eq (c := 48)).1 c3
                  refine sp W 0 rfl rfl rfl (fun c4 => ?_) (fun c4 => ?_)
                  · refine rp W 0 rfl rfl rfl (.no (fun q => (hP.1 q.1).2.2.1 ⟨c3, .inl (by omega)⟩))
                  · refine sp W 0 rfl rfl rfl (fun c5 => ?_) (fun c5 => ?_)
                    · refine rp W 0 rfl rfl rfl (.no (fun q => (hP.1 q.1).2.2.1 ⟨c3, .inr trivial⟩))
                    · exact absurd m2 c5
                · have c3 : ¬ s.getD (n + 1 + 1) 0 = 48 := fun e => c3 (by rw [show ((n : Int) + 1 + 1).toNat = n + 1 + 1 by omega]; exact (u8_eq (c := 48)).2 e)
                  have f3 : ¬ (s.getD (n + 1 + 1) 0 = 48 ∧ (1 < k ∨ True)) := fun q => c3 q.1
                  refine sp W 0 rfl rfl rfl (fun c6 => ?_) (fun c6 => ?_)
                  · refine sp W 0 rfl rfl rfl (fun c7 => ?_) (fun c7 => ?_)
                    · rw [show ((n : Int) + 1 + 1).toNat = n + 1 + 1 by omega, show (((n : Int) + 1 + 1) + (k : Int)).toNat = n + 1 + 1 + k by omega] at c7
                      refine rp W 0 rfl rfl rfl (.no (fun q => (hP.1 q.1).2.2.2.1 ⟨by omega, c7⟩))
                    · rw [show ((n : Int) + 1 + 1).toNat = n + 1 + 1 by omega, show (((n : Int) + 1 + 1) + (k : Int)).toNat = n + 1 + 1 + k by omega] at c7
                      have f4 : ¬ (k = 3 ∧ ¬ (Op.bytesLess ((s.take (n + 1 + 1 + k)).drop (n + 1 + 1)) [52, 48, 48] = true ∨ (s.take (n + 1 + 1 + k)).drop (n + 1 + 1) = [52, 48, 48])) := fun q => c7 q.2
                      refine rp W 0 rfl rfl rfl (.pr ⟨fun e => ⟨hP.2 ⟨by omega, by omega, f3, f4, by omega⟩, by omega⟩, fun q => by have := (hP.1 q.1).2.2.2.2; omega⟩)
                  · have f4 : ¬ (k = 3 ∧ ¬ (Op.bytesLess ((s.take (n + 1 + 1 + k)).drop (n + 1 + 1)) [52, 48, 48] = true ∨ (s.take (n + 1 + 1 + k)).drop (n + 1 + 1) = [52, 48, 48])) := fun q => by have := q.1; omega
                    refine rp W 0 rfl rfl rfl (.pr ⟨fun e => ⟨hP.2 ⟨by omega, by omega, f3, f4, by omega⟩, by omega⟩, fun q => by have := (hP.1 q.1).2.2.2.2; omega⟩)
              · rw [show ((n : Int) + 1).toNat = n + 1 by omega] at m2
                have hu : s.drop (n + 1) = cutP (s.drop (n + 1)) 45 := cutP_no (by omega) fun e => m2 ((u8_eq (c := 45)).2 e)
                have hm : False ↔ (s.drop (n + 1)).head? = some 45 := by rw [head_at (by omega)]; exact ⟨False.elim, fun e => m2 ((u8_eq (c := 45)).2 e)⟩
                rw [← show ((n : Int) + 1).toNat = n + 1 by omega] at m2
                have kr : AFunP Tryd.prog 93 [.str s, .int .i64 ((n : Int) + 1)] (· = .int .i64 (run s (n + 1) : Nat)) := by
                  have := l11Run_ok s (n + 1) (by omega) (by omega)
                  rwa [show ((n + 1 : Nat) : Int) = (n : Int) + 1 by omega] at this
                have tr := run_le s (n + 1) (by omega)
                have hP := hq2.trans (powA_ok (a := n + 1) (m := False) (by omega) hu hm)
                unfold powA at hP
                refine ce W 0 rfl rfl (kr) rfl ?_
                generalize run s (n + 1) = k at *
                refine sp W 0 rfl rfl rfl (fun c1 => ?_) (fun c1 => ?_)
                · refine rp W 0 rfl rfl rfl (.no (fun q => (hP.1 q.1).1 (by omega)))
                refine sp W 0 rfl rfl rfl (fun c2 => ?_) (fun c2 => ?_)
                · refine rp W 0 rfl rfl rfl (.no (fun q => by have := (hP.1 q.1).2.1; omega))
                refine sp W 0 rfl rfl rfl (fun c3 => ?_) (fun c3 => ?_)
                · have c3 : s.getD (n + 1) 0 = 48 := by rw [show ((n : Int) + 1).toNat = n + 1 by omega] at c3; exact (u8_eq (c := 48)).1 c3
                  refine sp W 0 rfl rfl rfl (fun c4 => ?_) (fun c4 => ?_)
                  · refine rp W 0 rfl rfl rfl (.no (fun q => (hP.1 q.1).2.2.1 ⟨c3, .inl (by omega)⟩))
                  · refine sp W 0 rfl rfl rfl (fun c5 => ?_) (fun c5 => ?_)
                    · exact absurd c5 m2
                    · have f3 : ¬ (s.getD (n + 1) 0 = 48 ∧ (1 < k ∨ False)) := fun q => q.2.elim (fun q => by omega) id
                      refine sp W 0 rfl rfl rfl (fun c6 => ?_) (fun c6 => ?_)
                      · refine sp W 0 rfl rfl rfl (fun c7 => ?_) (fun c7 => ?_)
                        · rw [show ((n : Int) + 1).toNat = n + 1 by omega, show (((n : Int) + 1) + (k : Int)).toNat = n + 1 + k by omega] at c7
                          refine rp W 0 rfl rfl rfl (.no (fun q => (hP.1 q.1).2.2.2.1 ⟨by omega, c7⟩))
                        · rw [show ((n : Int) + 1).toNat = n + 1 by omega, show (((n : Int) + 1) + (k : Int)).toNat = n + 1 + k by omega] at c7
                          have f4 : ¬ (k = 3 ∧ ¬ (Op.bytesLess ((s.take (n + 1 + k)).drop (n + 1)) [52, 48, 48] = true ∨ (s.take (n + 1 + k)).drop (n + 1) = [52, 48, 48])) := fun q => c7 q.2
                          refine rp W 0 rfl rfl rfl (.pr ⟨fun e => ⟨hP.2 ⟨by omega, by omega, f3, f4, by omega⟩, by omega⟩, fun q => by have := (hP.1 q.1).2.2.2.2; omega⟩)
                      · have f4 : ¬ (k = 3 ∧ ¬ (Op.bytesLess ((s.take (n + 1 + k)).drop (n + 1)) [52, 48, 48] = true ∨ (s.take (n + 1 + k)).drop (n + 1) = [52, 48, 48])) := fun q => by have := q.1; omega
                        refine rp W 0 rfl rfl rfl (.pr ⟨fun e => ⟨hP.2 ⟨by omega, by omega, f3, f4, by omega⟩, by omega⟩, fun q => by have := (hP.1 q.1).2.2.2.2; omega⟩)
                · have c3 : ¬ s.getD (n + 1) 0 = 48 := fun e => c3 (by rw [show ((n : Int) + 1).toNat = n + 1 by omega]; exact (u8_eq (c := 48)).2 e)
                  have f3 : ¬ (s.getD (n + 1) 0 = 48 ∧ (1 < k ∨ False)) := fun q => c3 q.1
                  refine sp W 0 rfl rfl rfl (fun c6 => ?_) (fun c6 => ?_)
                  · refine sp W 0 rfl rfl rfl (fun c7 => ?_) (fun c7 => ?_)
                    · rw [show ((n : Int) + 1).toNat = n + 1 by omega, show (((n : Int) + 1) + (k : Int)).toNat = n + 1 + k by omega] at c7
                      refine rp W 0 rfl rfl rfl (.no (fun q => (hP.1 q.1).2.2.2.1 ⟨by omega, c7⟩))
                    · rw [show ((n : Int) + 1).toNat = n + 1 by omega, show (((n : Int) + 1) + (k : Int)).toNat = n + 1 + k by omega] at c7
                      have f4 : ¬ (k = 3 ∧ ¬ (Op.bytesLess ((s.take (n + 1 + k)).drop (n + 1)) [52, 48, 48] = true ∨ (s.take (n + 1 + k)).drop (n + 1) = [52, 48, 48])) := fun q => c7 q.2
                      refine rp W 0 rfl rfl rfl (.pr ⟨fun e => ⟨hP.2 ⟨by omega, by omega, f3, f4, by omega⟩, by omega⟩, fun q => by have := (hP.1 q.1).2.2.2.2; omega⟩)
                  · have f4 : ¬ (k = 3 ∧ ¬ (Op.bytesLess ((s.take (n + 1 + k)).drop (n + 1)) [52, 48, 48] = true ∨ (s.take (n + 1 + k)).drop (n + 1) = [52, 48, 48])) := fun q => by have := q.1; omega
                    refine rp W 0 rfl rfl rfl (.pr ⟨fun e => ⟨hP.2 ⟨by omega, by omega, f3, f4, by omega⟩, by omega⟩, fun q => by have := (hP.1 q.1).2.2.2.2; omega⟩)
            · have e0 : s.drop (n + 1) = [] := List.drop_eq_nil_iff.2 (by omega)
              have hu : s.drop (n + 1) = cutP (s.drop (n + 1)) 45 := by rw [e0]; rfl
              have hm : False ↔ (s.drop (n + 1)).head? = some 45 := by rw [e0]; simp
              have kr : AFunP Tryd.prog 93 [.str s, .int .i64 ((n : Int) + 1)] (· = .int .i64 (run s (n + 1) : Nat)) := by
                have := l11Run_ok s (n + 1) (by omega) (by omega)
                rwa [show ((n + 1 : Nat) : Int) = (n : Int) + 1 by omega] at this
              have tr := run_le s (n + 1) (by omega)
              have hP := hq2.trans (powA_ok (a := n + 1) (m := False) (by omega) hu hm)
              unfold powA at hP
              refine ce W 0 rfl rfl (kr) rfl ?_
              generalize run s (n + 1) = k at *
              refine sp W 0 rfl rfl rfl (fun c1 => ?_) (fun c1 => ?_)
              · refine rp W 0 rfl rfl rfl (.no (fun q => (hP.1 q.1).1 (by omega)))
              refine sp W 0 rfl rfl rfl (fun c2 => ?_) (fun c2 => ?_)
              · refine rp W 0 rfl rfl rfl (.no (fun q => by have := (hP.1 q.1).2.1; omega))
              refine sp W 0 rfl rfl rfl (fun c3 => ?_) (fun c3 => ?_)
              · have c3 : s.getD (n + 1) 0 = 48 := by rw [show ((n : Int) + 1).toNat = n + 1 by omega] at c3; exact (u8_eq (c := 48)).1 c3
                refine sp W 0 rfl rfl rfl (fun c4 => ?_) (fun c4 => ?_)
                · refine rp W 0 rfl rfl rfl (.no (fun q => (hP.1 q.1).2.2.1 ⟨c3, .inl (by omega)⟩))
                · have f3 : ¬ (s.getD (n + 1) 0 = 48 ∧ (1 < k ∨ False)) := fun q => q.2.elim (fun q => by omega) id
                  refine sp W 0 rfl rfl rfl (fun c6 => ?_) (fun c6 => ?_)
                  · refine sp W 0 rfl rfl rfl (fun c7 => ?_) (fun c7 => ?_)
                    · rw [show ((n : Int) + 1).toNat = n + 1 by omega, show (((n : Int) + 1) + (k : Int)).toNat = n + 1 + k by omega] at c7
                      refine rp W 0 rfl rfl rfl (.no (fun q => (hP.1 q.1).2.2.2.1 ⟨by omega, c7⟩))
                    · rw [show ((n : Int) + 1).toNat = n + 1 by omega, show (((n : Int) + 1) + (k : Int)).toNat = n + 1 + k by omega] at c7
                      have f4 : ¬ (k = 3 ∧ ¬ (Op.bytesLess ((s.take (n + 1 + k)).drop (n + 1)) [52, 48, 48] = true ∨ (s.take (n + 1 + k)).drop (n + 1) = [52, 48, 48])) := fun q => c7 q.2
                      refine rp W 0 rfl rfl rfl (.pr ⟨fun e => ⟨hP.2 ⟨by omega, by omega, f3, f4, by omega⟩, by omega⟩, fun q => by have := (hP.1 q.1).2.2.2.2; omega⟩)
                  · have f4 : ¬ (k = 3 ∧ ¬ (Op.bytesLess ((s.take (n + 1 + k)).drop (n + 1)) [52, 48, 48] = true ∨ (s.take (n + 1 + k)).drop (n + 1) = [52, 48, 48])) := fun q => by have := q.1; omega
                    refine rp W 0 rfl rfl rfl (.pr ⟨fun e => ⟨hP.2 ⟨by omega, by omega, f3, f4, by omega⟩, by omega⟩, fun q => by have := (hP.1 q.1).2.2.2.2; omega⟩)
              · have c3 : ¬ s.getD (n + 1) 0 = 48 := fun e => c3 (by rw [show ((n : Int) + 1).toNat = n + 1 by omega]; exact (u8_eq (c := 48)).2 e)
                have f3 : ¬ (s.getD (n + 1) 0 = 48 ∧ (1 < k ∨ False)) := fun q => c3 q.1
                refine sp W 0 rfl rfl rfl (fun c6 => ?_) (fun c6 => ?_)
                · refine sp W 0 rfl rfl rfl (fun c7 => ?_) (fun c7 => ?_)
                  · rw [show ((n : Int) + 1).toNat = n + 1 by omega, show (((n : Int) + 1) + (k : Int)).toNat = n + 1 + k by omega] at c7
                    refine rp W 0 rfl rfl rfl (.no (fun q => (hP.1 q.1).2.2.2.1 ⟨by omega, c7⟩))
                  · rw [show ((n : Int) + 1).toNat = n + 1 by omega, show (((n : Int) + 1) + (k : Int)).toNat = n + 1 + k by omega] at c7
                    have f4 : ¬ (k = 3 ∧ ¬ (Op.bytesLess ((s.take (n + 1 + k)).drop (n + 1)) [52, 48, 48] = true ∨ (s.take (n + 1 + k)).drop (n + 1) = [52, 48, 48])) := fun q => c7 q.2
                    refine rp W 0 rfl rfl rfl (.pr ⟨fun e => ⟨hP.2 ⟨by omega, by omega, f3, f4, by omega⟩, by omega⟩, fun q => by have := (hP.1 q.1).2.2.2.2; omega⟩)
                · have f4 : ¬ (k = 3 ∧ ¬ (Op.bytesLess ((s.take (n + 1 + k)).drop (n + 1)) [52, 48, 48] = true ∨ (s.take (n + 1 + k)).drop (n + 1) = [52, 48, 48])) := fun q => by have := q.1; omega
                  refine rp W 0 rfl rfl rfl (.pr ⟨fun e => ⟨hP.2 ⟨by omega, by omega, f3, f4, by omega⟩, by omega⟩, fun q => by have := (hP.1 q.1).2.2.2.2; omega⟩)
          · rw [show ((n : Int)).toNat = n by omega] at p4
            have hn : ¬ numE s := fun e => powE_no (by omega) (fun e => p4 ((u8_eq (c := 101)).2 e)) (hq.1 e)
            refine rp W 0 rfl rfl rfl (.pr ⟨fun e => by omega, fun e => absurd e.1 hn⟩)
        · have hn : numE s := hq.2 (powE_nil (by omega))
          refine rp W 0 rfl rfl rfl (.pr ⟨fun e => ⟨hn, by omega⟩, fun e => by omega⟩)
    · have hq : numE s ↔ powE (s.drop n) := by
        refine hq0.trans ?_
        rw [← r0, show s.drop n = [] from List.drop_eq_nil_iff.2 (by omega)]
        simp [fracE]
      refine sp W 0 rfl rfl rfl (fun p3 => ?_) (fun p3 => ?_)
      · refine sp W 0 rfl rfl rfl (fun p4 => ?_) (fun p4 => ?_)
        · rw [show ((n : Int)).toNat = n by omega] at p4
          have hq2 : numE s ↔ powE1 (s.drop (n + 1)) := hq.trans (powE_yes (by omega) ((u8_eq (c := 101)).1 p4))
          refine sp W 0 rfl rfl rfl (fun m1 => ?_) (fun m1 => ?_)
          · refine sp W 0 rfl rfl rfl (fun m2 => ?_) (fun m2 => ?_)
            · rw [show ((n : Int) + 1).toNat = n + 1 by omega] at m2
              have hu : s.drop (n + 1 + 1) = cutP (s.drop (n + 1)) 45 := cutP_yes (by omega) ((u8_eq (c := 45)).1 m2)
              have hm : True ↔ (s.drop (n + 1)).head? = some 45 := by rw [head_at (by omega)]; exact ⟨fun _ => (u8_eq (c := 45)).1 m2, fun _ => trivial⟩
              rw [← show ((n : Int) + 1).toNat = n + 1 by omega] at m2
              have kr : AFunP Tryd.prog 93 [.str s, .int .i64 ((n : Int) + 1 + 1)] (· = .int .i64 (run s (n + 1 + 1) : Nat)) := by
                have := l11Run_ok s (n + 1 + 1) (by omega) (by omega)
                rwa [show ((n + 1 + 1 : Nat) : Int) = (n : Int) + 1 + 1 by omega] at this
              have tr := run_le s (n + 1 + 1) (by omega)
              have hP := hq2.trans (powA_ok (a := n + 1 + 1) (m := True) (by omega) hu hm)
              unfold powA at hP
              refine ce W 0 rfl rfl (kr) rfl ?_
              generalize run s (n + 1 + 1) = k at *
              refine sp W 0 rfl rfl rfl (fun c1 => ?_) (fun c1 => ?_)
              · refine rp W 0 rfl rfl rfl (.no (fun q => (hP.1 q.1).1 (by omega)))
              refine sp W 0 rfl rfl rfl (fun c2 => ?_) (fun c2 => ?_)
              · refine rp W 0 rfl rfl rfl (.no (fun q => by have := (hP.1 q.1).2.1; omega))
              refine sp W 0 rfl rfl rfl (fun c3 => ?_) (fun c3 => ?_)
              · have c3 : s.getD (n + 1 + 1) 0 = 48 := by rw [show ((n : Int) + 1 + 1).toNat = n + 1 + 1 by omega] at c3; exact (u8_eq (c := 48)).1 c3
                refine sp W 0 rfl rfl rfl (fun c4 => ?_) (fun c4 => ?_)
                · refine rp W 0 rfl rfl rfl (.no (fun q => (hP.1 q.1).2.2.1 ⟨c3, .inl (by omega)⟩))
                · refine sp W 0 rfl rfl rfl (fun c5 => ?_) (fun c5 => ?_)
                  · refine rp W 0 rfl rfl rfl (.no (fun q => (hP.1 q.1).2.2.1 ⟨c3, .inr trivial⟩))
                  · exact absurd m2 c5
              · have c3 : ¬ s.getD (n + 1 + 1) 0 = 48 := fun e => c3 (by rw [show ((n : Int) + 1 + 1).toNat = n + 1 + 1 by omega]; exact (u8_eq (c := 48)).2 e)
                have f3 : ¬ (s.getD (n + 1 + 1) 0 = 48 ∧ (1 < k ∨ True)) := fun q => c3 q.1
                refine sp W 0 rfl rfl rfl (fun c6 => ?_) (fun c6 => ?_)
                · refine sp W 0 rfl rfl rfl (fun c7 => ?_) (fun c7 => ?_)
                  · rw [show ((n : Int) + 1 + 1).toNat = n + 1 + 1 by omega, show (((n : Int) + 1 + 1) + (k : Int)).toNat = n + 1 + 1 + k by omega] at c7
                    refine rp W 0 rfl rfl rfl (.no (fun q => (hP.1 q.1).2.2.2.1 ⟨by omega, c7⟩))
                  · rw [show ((n : Int) + 1 + 1).toNat = n + 1 + 1 by omega, show (((n : Int) + 1 + 1) + (k : Int)).toNat = n + 1 + 1 + k by omega] at c7
                    have f4 : ¬ (k = 3 ∧ ¬ (Op.bytesLess ((s.take (n + 1 + 1 + k)).drop (n + 1 + 1)) [52, 48, 48] = true ∨ (s.take (n + 1 + 1 + k)).drop (n + 1 + 1) = [52, 48, 48])) := fun q => c7 q.2
                    refine rp W 0 rfl rfl rfl (.pr ⟨fun e => ⟨hP.2 ⟨by omega, by omega, f3, f4, by omega⟩, by omega⟩, fun q => by have := (hP.1 q.1).2.2.2.2; omega⟩)
                · have f4 : ¬ (k = 3 ∧ ¬ (Op.bytesLess ((s.take (n + 1 + 1 + k)).drop (n + 1 + 1)) [52, 48, 48] = true ∨ (s.take (n + 1 + 1 + k)).drop (n + 1 + 1) = [52, 48, 48])) := fun q => by have := q.1; omega
                  refine rp W 0 rfl rfl rfl (.pr ⟨fun e => ⟨hP.2 ⟨by omega, by omega, f3, f4, by omega⟩, by omega⟩, fun q => by have := (hP.1 q.1).2.2.2.2; omega⟩)
            · rw [show ((n : Int) + 1).toNat = n + 1 by omega] at m2
              have hu : s.drop (n + 1) = cutP (s.drop (n + 1)) 45 := cutP_no (by omega) fun e => m2 ((u8_eq (c := 45)).2 e)
              have hm : False ↔ (s.drop (n + 1)).head? = some 45 := by rw [head_at (by omega)]; exact ⟨False.elim, fun e => m2 ((u8_eq (c := 45)).2 e)⟩
              rw [← show ((n : Int) + 1).toNat = n + 1 by omega] at m2
              have kr : AFunP Tryd.prog 93 [.str s, .int .i64 ((n : Int) + 1)] (· = .int .i64 (run s (n + 1) : Nat)) := by
                have := l11Run_ok s (n + 1) (by omega) (by omega)
                rwa [show ((n + 1 : Nat) : Int) = (n : Int) + 1 by omega] at this
              have tr := run_le s (n + 1) (by omega)
              have hP := hq2.trans (powA_ok (a := n + 1) (m := False) (by omega) hu hm)
              unfold powA at hP
              refine ce W 0 rfl rfl (kr) rfl ?_
              generalize run s (n + 1) = k at *
              refine sp W 0 rfl rfl rfl (fun c1 => ?_) (fun c1 => ?_)
              · refine rp W 0 rfl rfl rfl (.no (fun q => (hP.1 q.1).1 (by omega)))
              refine sp W 0 rfl rfl rfl (fun c2 => ?_) (fun c2 => ?_)
              · refine rp W 0 rfl rfl rfl (.no (fun q => by have := (hP.1 q.1).2.1; omega))
              refine sp W 0 rfl rfl rfl (fun c3 => ?_) (fun c3 => ?_)
              · have c3 : s.getD (n + 1) 0 = 48 := by rw [show ((n : Int) + 1).toNat = n + 1 by omega] at c3; exact (u8_eq (c := 48)).1 c3
                refine sp W 0 rfl rfl rfl (fun c4 => ?_) (fun c4 => ?_)
                · refine rp W 0 rfl rfl rfl (.no (fun q => (hP.1 q.1).2.2.1 ⟨c3, .inl (by omega)⟩))
                · refine sp W 0 rfl rfl rfl (fun c5 => ?_) (fun c5 => ?_)
                  · exact absurd c5 m2
                  · have f3 : ¬ (s.getD (n + 1) 0 = 48 ∧ (1 < k ∨ False)) := fun q => q.2.elim (fun q => by omega) id
                    refine sp W 0 rfl rfl rfl (fun c6 => ?_) (fun c6 => ?_)
                    · refine sp W 0 rfl rfl rfl (fun c7 => ?_) (fun c7 => ?_)
                      · rw [show ((n : Int) + 1).toNat = n + 1 by omega, show (((n : Int) + 1) + (k : Int)).toNat = n + 1 + k by omega] at c7
                        refine rp W 0 rfl rfl rfl (.no (fun q => (hP.1 q.1).2.2.2.1 ⟨by omega, c7⟩))
                      · rw [show ((n : Int) + 1).toNat = n + 1 by omega, show (((n : Int) + 1) + (k : Int)).toNat = n + 1 + k by omega] at c7
                        have f4 : ¬ (k = 3 ∧ ¬ (Op.bytesLess ((s.take (n + 1 + k)).drop (n + 1)) [52, 48, 48] = true ∨ (s.take (n + 1 + k)).drop (n + 1) = [52, 48, 48])) := fun q => c7 q.2
                        refine rp W 0 rfl rfl rfl (.pr ⟨fun e => ⟨hP.2 ⟨by omega, by omega, f3, f4, by omega⟩, by omega⟩, fun q => by have := (hP.1 q.1).2.2.2.2; omega⟩)
                    · have f4 : ¬ (k = 3 ∧ ¬ (Op.bytesLess ((s.take (n + 1 + k)).drop (n + 1)) [52, 48, 48] = true ∨ (s.take (n + 1 + k)).drop (n + 1) = [52, 48, 48])) := fun q => by have := q.1; omega
                      refine rp W 0 rfl rfl rfl (.pr ⟨fun e => ⟨hP.2 ⟨by omega, by omega, f3, f4, by omega⟩, by omega⟩, fun q => by have := (hP.1 q.1).2.2.2.2; omega⟩)
              · have c3 : ¬ s.getD (n + 1) 0 = 48 := fun e => c3 (by rw [show ((n : Int) + 1).toNat = n + 1 by omega]; exact (u8_eq (c := 48)).2 e)
                have f3 : ¬ (s.getD (n + 1) 0 = 48 ∧ (1 < k ∨ False)) := fun q => c3 q.1
                refine sp W 0 rfl rfl rfl (fun c6 => ?_) (fun c6 => ?_)
                · refine sp W 0 rfl rfl rfl (fun c7 => ?_) (fun c7 => ?_)
                  · rw [show ((n : Int) + 1).toNat = n + 1 by omega, show (((n : Int) + 1) + (k : Int)).toNat = n + 1 + k by omega] at c7
                    refine rp W 0 rfl rfl rfl (.no (fun q => (hP.1 q.1).2.2.2.1 ⟨by omega, c7⟩))
                  · rw [show ((n : Int) + 1).toNat = n + 1 by omega, show (((n : Int) + 1) + (k : Int)).toNat = n + 1 + k by omega] at c7
                    have f4 : ¬ (k = 3 ∧ ¬ (Op.bytesLess ((s.take (n + 1 + k)).drop (n + 1)) [52, 48, 48] = true ∨ (s.take (n + 1 + k)).drop (n + 1) = [52, 48, 48])) := fun q => c7 q.2
                    refine rp W 0 rfl rfl rfl (.pr ⟨fun e => ⟨hP.2 ⟨by omega, by omega, f3, f4, by omega⟩, by omega⟩, fun q => by have := (hP.1 q.1).2.2.2.2; omega⟩)
                · have f4 : ¬ (k = 3 ∧ ¬ (Op.bytesLess ((s.take (n + 1 + k)).drop (n + 1)) [52, 48, 48] = true ∨ (s.take (n + 1 + k)).drop (n + 1) = [52, 48, 48])) := fun q => by have := q.1; omega
                  refine rp W 0 rfl rfl rfl (.pr ⟨fun e => ⟨hP.2 ⟨by omega, by omega, f3, f4, by omega⟩, by omega⟩, fun q => by have := (hP.1 q.1).2.2.2.2; omega⟩)
          · have e0 : s.drop (n + 1) = [] := List.drop_eq_nil_iff.2 (by omega)
            have hu : s.drop (n + 1) = cutP (s.drop (n + 1)) 45 := by rw [e0]; rfl
            have hm : False ↔ (s.drop (n + 1)).head? = some 45 := by rw [e0]; simp
            have kr : AFunP Tryd.prog 93 [.str s, .int .i64 ((n : Int) + 1)] (· = .int .i64 (run s (n + 1) : Nat)) := by
              have := l11Run_ok s (n + 1) (by omega) (by omega)
              rwa [show ((n + 1 : Nat) : Int) = (n : Int) + 1 by omega] at this
            have tr := run_le s (n + 1) (by omega)
            have hP := hq2.trans (powA_ok (a := n + 1) (m := False) (by omega) hu hm)
            unfold powA at hP
            refine ce W 0 rfl rfl (kr) rfl ?_
            generalize run s (n + 1) = k at *
            refine sp W 0 rfl rfl rfl (fun c1 => ?_) (fun c1 => ?_)
            · refine rp W 0 rfl rfl rfl (.no (fun q => (hP.1 q.1).1 (by omega)))
            refine sp W 0 rfl rfl rfl (fun c2 => ?_) (fun c2 => ?_)
            · refine rp W 0 rfl rfl rfl (.no (fun q => by have := (hP.1 q.1).2.1; omega))
            refine sp W 0 rfl rfl rfl (fun c3 => ?_) (fun c3 => ?_)
            · have c3 : s.getD (n + 1) 0 = 48 := by rw [show ((n : Int) + 1).toNat = n + 1 by omega] at c3; exact (u8_eq (c := 48)).1 c3
              refine sp W 0 rfl rfl rfl (fun c4 => ?_) (fun c4 => ?_)
              · refine rp W 0 rfl rfl rfl (.no (fun q => (hP.1 q.1).2.2.1 ⟨c3, .inl (by omega)⟩))
              · have f3 : ¬ (s.getD (n + 1) 0 = 48 ∧ (1 < k ∨ False)) := fun q => q.2.elim (fun q => by omega) id
                refine sp W 0 rfl rfl rfl (fun c6 => ?_) (fun c6 => ?_)
                · refine sp W 0 rfl rfl rfl (fun c7 => ?_) (fun c7 => ?_)
                  · rw [show ((n : Int) + 1).toNat = n + 1 by omega, show (((n : Int) + 1) + (k : Int)).toNat = n + 1 + k by omega] at c7
                    refine rp W 0 rfl rfl rfl (.no (fun q => (hP.1 q.1).2.2.2.1 ⟨by omega, c7⟩))
                  · rw [show ((n : Int) + 1).toNat = n + 1 by omega, show (((n : Int) + 1) + (k : Int)).toNat = n + 1 + k by omega] at c7
                    have f4 : ¬ (k = 3 ∧ ¬ (Op.bytesLess ((s.take (n + 1 + k)).drop (n + 1)) [52, 48, 48] = true ∨ (s.take (n + 1 + k)).drop (n + 1) = [52, 48, 48])) := fun q => c7 q.2
                    refine rp W 0 rfl rfl rfl (.pr ⟨fun e => ⟨hP.2 ⟨by omega, by omega, f3, f4, by omega⟩, by omega⟩, fun q => by have := (hP.1 q.1).2.2.2.2; omega⟩)
                · have f4 : ¬ (k = 3 ∧ ¬ (Op.bytesLess ((s.take (n + 1 + k)).drop (n + 1)) [52, 48, 48] = true ∨ (s.take (n + 1 + k)).drop (n + 1) = [52, 48, 48])) := fun q => by have := q.1; omega
                  refine rp W 0 rfl rfl rfl (.pr ⟨fun e => ⟨hP.2 ⟨by omega, by omega, f3, f4, by omega⟩, by omega⟩, fun q => by have := (hP.1 q.1).2.2.2.2; omega⟩)
            · have c3 : ¬ s.getD (n + 1) 0 = 48 := fun e => c3 (by rw [show ((n : Int) + 1).toNat = n + 1 by omega]; exact (u8_eq (c := 48)).2 e)
              have f3 : ¬ (s.getD (n + 1) 0 = 48 ∧ (1 < k ∨ False)) := fun q => c3 q.1
              refine sp W 0 rfl rfl rfl (fun c6 => ?_) (fun c6 => ?_)
              · refine sp W 0 rfl rfl rfl (fun c7 => ?_) (fun c7 => ?_)
                · rw [show ((n : Int) + 1).toNat = n + 1 by omega, show (((n : Int) + 1) + (k : Int)).toNat = n + 1 + k by omega] at c7
                  refine rp W 0 rfl rfl rfl (.no (fun q => (hP.1 q.1).2.2.2.1 ⟨by omega, c7⟩))
                · rw [show ((n : Int) + 1).toNat = n + 1 by omega, show (((n : Int) + 1) + (k : Int)).toNat = n + 1 + k by omega] at c7
                  have f4 : ¬ (k = 3 ∧ ¬ (Op.bytesLess ((s.take (n + 1 + k)).drop (n + 1)) [52, 48, 48] = true ∨ (s.take (n + 1 + k)).drop (n + 1) = [52, 48, 48])) := fun q => c7 q.2
                  refine rp W 0 rfl rfl rfl (.pr ⟨fun e => ⟨hP.2 ⟨by omega, by omega, f3, f4, by omega⟩, by omega⟩, fun q => by have := (hP.1 q.1).2.2.2.2; omega⟩)
              · have f4 : ¬ (k = 3 ∧ ¬ (Op.bytesLess ((s.take (n + 1 + k)).drop (n + 1)) [52, 48, 48] = true ∨ (s.take (n + 1 + k)).drop (n + 1) = [52, 48, 48])) := fun q => by have := q.1; omega
                refine rp W 0 rfl rfl rfl (.pr ⟨fun e => ⟨hP.2 ⟨by omega, by omega, f3, f4, by omega⟩, by omega⟩, fun q => by have := (hP.1 q.1).2.2.2.2; omega⟩)
        · rw [show ((n : Int)).toNat = n by omega] at p4
          have hn : ¬ numE s := fun e => powE_no (by omega) (fun e => p4 ((u8_eq (c := 101)).2 e)) (hq.1 e)
          refine rp W 0 rfl rfl rfl (.pr ⟨fun e => by omega, fun e => absurd e.1 hn⟩)
      · have hn : numE s := hq.2 (powE_nil (by omega))
        refine rp W 0 rfl rfl rfl (.pr ⟨fun e => ⟨hn, by omega⟩, fun e => by omega⟩)
end Pf
/- How many parts a node has -/
namespace Pf
open Go Go.Proofs
open Classical in
/-- How many parts a node has; -1: it is none. -/
noncomputable def partsZ (k n : Int) (s : List UInt8) : Int :=
  if k = 1 then (if n = 0 ∧ litP s ∧ s.length ≤ 60 then 0 else -1)
  else if k = 2 then (if n = 0 ∧ wordP s ∧ ¬ s ∈ ownW then 0 else -1)
  else if k = 3 ∨ k = 9 ∨ k = 10 then (if n = 0 ∧ s = [] then 1 else -1)
  else if k = 4 ∨ k = 5 ∨ k = 6 ∨ k = 7 ∨ k = 11 ∨ k = 12 then (if n = 0 ∧ s = [] then 2 else -1)
  else if k = 8 then (if 0 ≤ n ∧ n ≤ 8 ∧ s = [] then 1 else -1)
  else if k = 13 then (if 1 ≤ n ∧ n ≤ 6 ∧ wordP s ∧ ¬ s ∈ ownW then n else -1)
  else -1
theorem l12Args_ok (k n : Int) (s : List UInt8) (hl : s.length ≤ 281474976710656) : AFunP Tryd.prog 38 [.agg [.int .i64 k, .int .i64 n, .str s]] (· = .int .i64 (partsZ k n s)) := by
  have k1 := specLangNumOk_ok s hl
  have k2 := specLangNameOk_ok s (by omega)
  refine afun_of Tryd.func38 Tryd.call38 rfl Tryd.ntmps38 rfl ?_
  have W : Walk Tryd.prog TT 38 _ := Walk.of TT_ok Tryd.func38 Tryd.results38
  (repeat' (first | (refine sp W 0 rfl rfl rfl (fun _ => ?_) (fun _ => ?_)) | (refine ce W 0 rfl rfl (k1) rfl ?_) | (refine ce W 0 rfl rfl (k2) rfl ?_))) <;> (first | exact rp W 0 rfl rfl rfl (.int (by clear k1 k2; simp_all [partsZ] <;> intros <;> exfalso <;> omega)))
theorem parts_ok (k n : Int) (s : List UInt8) (hl : s.length ≤ 281474976710656) : AFunP Tryd.prog 40 [.agg [.int .i64 k, .int .i64 n, .str s]] (· = .int .i64 (partsZ k n s)) := by
  have k1 := implLangNumOk_ok s hl
  have k2 := langNameOk_ok s (by omega)
  have k3 := in_ok n 0 8
  have k4 := in_ok n 1 6
  refine afun_of Tryd.func40 Tryd.call40 rfl Tryd.ntmps40 rfl ?_
  have W : Walk Tryd.prog TT 40 _ := Walk.of TT_ok Tryd.func40 Tryd.results40
  (repeat' (first | (refine sp W 0 rfl rfl rfl (fun _ => ?_) (fun _ => ?_)) | (refine ce W 0 rfl rfl (k1) rfl ?_) | (refine ce W 0 rfl rfl (k2) rfl ?_) | (refine ce W 0 rfl rfl (k3) rfl ?_) | (refine ce W 0 rfl rfl (k4) rfl ?_))) <;> (first | exact rp W 0 rfl rfl rfl (.int (by clear k1 k2 k3 k4; simp_all [partsZ] <;> intros <;> exfalso <;> omega)))

end Pf
/- The law of TermOk -/
namespace Pf
open Go Go.Proofs
/-- A node of a term, and terms. -/
abbrev Nd := Int × Int × List UInt8
def nodeV (x : Nd) : AV := .agg [.int .i64 x.1, .int .i64 x.2.1, .str x.2.2]
def nodeR (l : List Nd) (i : Nat) : List AV := [.int .i64 (l.getD i (0, 0, [])).1, .int .i64 (l.getD i (0, 0, [])).2.1, .str (l.getD i (0, 0, [])).2.2]
abbrev termV (l : List Nd) : AV := .agg [.fz l.length (nodeR l)]
noncomputable def pz (x : Nd) : Int := partsZ x.1 x.2.1 x.2.2
/-- How deep the stack is behind the first i nodes; none: a node found too few parts. -/
noncomputable def dep (l : List Nd) : Nat → Option Int
  | 0 => some 0
  | i + 1 => match dep l i with
    | none => none
    | some d => if pz (l.getD i (0, 0, [])) < 0 ∨ d < pz (l.getD i (0, 0, [])) then none else some (d - pz (l.getD i (0, 0, [])) + 1)
def termP (l : List Nd) : Prop := l.length ≤ 100 ∧ dep l l.length = some 1
/-- Each text is no longer than a text may be. -/
def txtOk (l : List Nd) : Prop := ∀ i, i < l.length → (l.getD i (0, 0, [])).2.2.length ≤ 281474976710656
theorem dep_rng {l : List Nd} : ∀ {i : Nat} {d : Int}, dep l i = some d → 0 ≤ d ∧ d ≤ i
  | 0, d, h => by simp only [dep, Option.some.injEq] at h; omega
  | i + 1, d, h => by
    simp only [dep] at h
    split at h
    · cases h
    · rename_i d' hd
      have := dep_rng hd
      split at h
      · cases h
      · cases h
        omega
theorem dep_none {l : List Nd} {i : Nat} (h : dep l i = none) : ∀ {j : Nat}, i ≤ j → dep l j = none := by
  intro j hj
  induction j with
  | zero => rw [show i = 0 by omega] at h; exact h
  | succ j ih =>
    rcases (by omega : i = j + 1 ∨ i ≤ j) with rfl | h2
    · exact h
    · simp only [dep, ih h2]
theorem specTermOk_ok (l : List Nd) (hx : txtOk l) (hl : l.length ≤ 1048576) : AFunP Tryd.prog 10 [termV l] (· = .pr (termP l)) := by
  refine afun_of Tryd.func10 Tryd.call10 rfl Tryd.ntmps10 rfl ?_
  have W : Walk Tryd.prog TT 10 _ := Walk.of TT_ok Tryd.func10 Tryd.results10
  refine sp W 0 rfl rfl rfl (fun h1 => ?_) (fun h1 => ?_)
  · refine rp W 0 rfl rfl rfl (.no (fun k => by have := k.1; omega))
  refine lp W 0 (σ := Nat × Int) (fun s => [(1, .ptr 0 0 0 0), (3, .int .i64 s.2), (4, .int .i64 s.1)]) (fun _ => [.lst 0 [[.fz l.length (nodeR l)]]]) (fun s => l.length - s.1) (fun s => s.1 ≤ l.length ∧ dep l s.1 = some s.2) (0, 0) [1, 3, 4] rfl rfl rfl ⟨Nat.zero_le _, rfl⟩ ?_
  rintro ⟨i, d⟩ ⟨hi, he⟩ ih
  dsimp only at hi he ih ⊢
  have hr := dep_rng he
  refine sp W 0 rfl rfl rfl (fun h2 => ?_) (fun h2 => ?_)
  · have h2 : i < l.length := by omega
    have kp := l12Args_ok (l.getD i (0, 0, [])).1 (l.getD i (0, 0, [])).2.1 (l.getD i (0, 0, [])).2.2 (hx i h2)
    have hd : dep l (i + 1) = if partsZ (l.getD i (0, 0, [])).1 (l.getD i (0, 0, [])).2.1 (l.getD i (0, 0, [])).2.2 < 0 ∨ d < partsZ (l.getD i (0, 0, [])).1 (l.getD i (0, 0, [])).2.1 (l.getD i (0, 0, [])).2.2 then none else some (d - partsZ (l.getD i (0, 0, [])).1 (l.getD i (0, 0, [])).2.1 (l.getD i (0, 0, [])).2.2 + 1) := by
      simp only [dep, he]; rfl
    refine ce W 0 rfl rfl (kp) rfl ?_
    generalize partsZ (l.getD i (0, 0, [])).1 (l.getD i (0, 0, [])).2.1 (l.getD i (0, 0, [])).2.2 = z at *
    refine sp W 0 rfl rfl rfl (fun a1 => ?_) (fun a1 => ?_)
    · have hn := dep_none (hd.trans (if_pos (.inl a1))) (show i + 1 ≤ l.length by omega)
      refine rp W 0 rfl rfl rfl (.no (fun k => by have := k.2; rw [hn] at this; cases this))
    refine sp W 0 rfl rfl rfl (fun a2 => ?_) (fun a2 => ?_)
    · have hn := dep_none (hd.trans (if_pos (.inr a2))) (show i + 1 ≤ l.length by omega)
      refine rp W 0 rfl rfl rfl (.no (fun k => by have := k.2; rw [hn] at this; cases this))
    rw [if_neg (by omega)] at hd
    refine bd W 0 1 [1, 3, 4] rfl rfl rfl rfl rfl (ih (i + 1, d - z + 1) ⟨by dsimp only; omega, hd⟩ (by dsimp only; omega))
  · have hil : i = l.length := by omega
    subst hil
    refine rp W 0 rfl rfl rfl (.pr ⟨fun e => ⟨by omega, by rw [he, e]⟩, fun k => by have := k.2; rw [he] at this; cases this; rfl⟩)
theorem implTermOk_ok (l : List Nd) (hx : txtOk l) (hl : l.length ≤ 1048576) : AFunP Tryd.prog 12 [termV l] (· = .pr (termP l)) := by
  refine afun_of Tryd.func12 Tryd.call12 rfl Tryd.ntmps12 rfl ?_
  have W : Walk Tryd.prog TT 12 _ := Walk.of TT_ok Tryd.func12 Tryd.results12
  refine lp W 0 (σ := Nat × Int) (fun s => [(1, .ptr 0 0 0 0), (3, .int .i64 s.2), (8, .fz l.length (nodeR l)), (9, .int .i64 l.length), (10, .int .i64 s.1)]) (fun _ => [.lst 0 [[.fz l.length (nodeR l)]]]) (fun s => l.length - s.1) (fun s => s.1 ≤ l.length ∧ dep l s.1 = some s.2) (0, 0) [1, 3, 8, 9, 10] rfl rfl rfl ⟨Nat.zero_le _, rfl⟩ ?_
  rintro ⟨i, d⟩ ⟨hi, he⟩ ih
  dsimp only at hi he ih ⊢
  have hr := dep_rng he
  refine sp W 0 rfl rfl rfl (fun h2 => ?_) (fun h2 => ?_)
  · have h2 : i < l.length := by omega
    have kp := parts_ok (l.getD i (0, 0, [])).1 (l.getD i (0, 0, [])).2.1 (l.getD i (0, 0, [])).2.2 (hx i h2)
    have hd : dep l (i + 1) = if partsZ (l.getD i (0, 0, [])).1 (l.getD i (0, 0, [])).2.1 (l.getD i (0, 0, [])).2.2 < 0 ∨ d < partsZ (l.getD i (0, 0, [])).1 (l.getD i (0, 0, [])).2.1 (l.getD i (0, 0, [])).2.2 then none else some (d - partsZ (l.getD i (0, 0, [])).1 (l.getD i (0, 0, [])).2.1 (l.getD i (0, 0, [])).2.2 + 1) := by
      simp only [dep, he]; rfl
    refine ce W 0 rfl rfl (kp) rfl ?_
    generalize partsZ (l.getD i (0, 0, [])).1 (l.getD i (0, 0, [])).2.1 (l.getD i (0, 0, [])).2.2 = z at *
    refine sp W 0 rfl rfl rfl (fun a1 => ?_) (fun a1 => ?_)
    · have hn := dep_none (hd.trans (if_pos (.inl a1))) (show i + 1 ≤ l.length by omega)
      refine rp W 0 rfl rfl rfl (.no (fun k => by have := k.2; rw [hn] at this; cases this))
    refine sp W 0 rfl rfl rfl (fun a2 => ?_) (fun a2 => ?_)
    · have hn := dep_none (hd.trans (if_pos (.inr a2))) (show i + 1 ≤ l.length by omega)
      refine rp W 0 rfl rfl rfl (.no (fun k => by have := k.2; rw [hn] at this; cases this))
    rw [if_neg (by omega)] at hd
    rw [show d - z + 1 = d + (1 - z) by omega] at hd
    refine bd W 0 1 [1, 3, 8, 9, 10] rfl rfl rfl rfl rfl (ih (i + 1, d + (1 - z)) ⟨by dsimp only; omega, hd⟩ (by dsimp only; omega))
  · have hil : i = l.length := by omega
    subst hil
    refine sp W 0 rfl rfl rfl (fun b1 => ?_) (fun b1 => ?_)
    · refine rp W 0 rfl rfl rfl (.pr ⟨fun e => ⟨by omega, by rw [he, b1]⟩, fun k => by have := k.1; omega⟩)
    · refine rp W 0 rfl rfl rfl (.no (fun k => by have := k.2; rw [he] at this; cases this; exact b1 rfl))
theorem szNode_ok (x : Nd) (left : Int) (hl : 0 ≤ left ∧ left ≤ 1048576) (hx : x.2.2.length ≤ 9223372036854775807) : AFunP Tryd.prog 71 [nodeV x, .int .i64 left] (· = .int .i64 (if left < x.2.2.length then -1 else left - x.2.2.length)) := by
  unfold nodeV
  refine afun_of Tryd.func71 Tryd.call71 rfl Tryd.ntmps71 rfl ?_
  have W : Walk Tryd.prog TT 71 _ := Walk.of TT_ok Tryd.func71 Tryd.results71
  refine sp W 0 rfl rfl rfl (fun h1 => ?_) (fun h1 => ?_)
  · refine rp W 0 rfl rfl rfl (.int (by rw [if_pos (by omega)]))
  · refine rp W 0 rfl rfl rfl (.int (by rw [if_neg (by omega)]))
theorem toNode_ok (x : Nd) : AFunP Tryd.prog 74 [nodeV x] (· = nodeV x) := by
  unfold nodeV
  refine afun_of Tryd.func74 Tryd.call74 rfl Tryd.ntmps74 rfl ?_
  have W : Walk Tryd.prog TT 74 _ := Walk.of TT_ok Tryd.func74 Tryd.results74
  refine rp W 0 rfl rfl rfl (.refl)
theorem eqNode_ok (x y : Nd) : AFunP Tryd.prog 77 [nodeV x, nodeV y] (· = .pr (x = y)) := by
  unfold nodeV
  refine afun_of Tryd.func77 Tryd.call77 rfl Tryd.ntmps77 rfl ?_
  have W : Walk Tryd.prog TT 77 _ := Walk.of TT_ok Tryd.func77 Tryd.results77
  refine sp W 0 rfl rfl rfl (fun h1 => ?_) (fun h1 => ?_)
  · refine rp W 0 rfl rfl rfl (.no (fun k => by subst k; exact h1 rfl))
  refine sp W 0 rfl rfl rfl (fun h2 => ?_) (fun h2 => ?_)
  · refine rp W 0 rfl rfl rfl (.no (fun k => by subst k; exact h2 rfl))
  refine sp W 0 rfl rfl rfl (fun h3 => ?_) (fun h3 => ?_)
  · refine rp W 0 rfl rfl rfl (.no (fun k => by subst k; exact h3 rfl))
  · refine rp W 0 rfl rfl rfl (.yes (Prod.ext (Classical.not_not.1 h1) (Prod.ext (Classical.not_not.1 h2) (Classical.not_not.1 h3))))
theorem eqNodeS_ok (l m : List Nd) (hl : l.length ≤ 1048576) (hm : m.length ≤ 1048576) : AFunP Tryd.prog 41 [.fz l.length (nodeR l), .fz m.length (nodeR m)] (· = .pr (l = m)) := by
  refine afun_of Tryd.func41 Tryd.call41 rfl Tryd.ntmps41 rfl ?_
  have W : Walk Tryd.prog TT 41 _ := Walk.of TT_ok Tryd.func41 Tryd.results41
  refine sp W 0 rfl rfl rfl (fun h1 => ?_) (fun h1 => ?_)
  · refine rp W 0 rfl rfl rfl (.no (fun k => by subst k; omega))
  have h1 : l.length = m.length := by omega
  refine lp W 0 (σ := Nat) (fun i => [(0, .fz l.length (nodeR l)), (1, .fz m.length (nodeR m)), (5, .int .i64 i)]) (fun _ => []) (fun i => l.length - i) (fun i => i ≤ l.length ∧ ∀ j, j < i → l.getD j (0, 0, []) = m.getD j (0, 0, [])) 0 [0, 1, 5] rfl rfl rfl ⟨Nat.zero_le _, fun j hj => by omega⟩ ?_
  rintro i ⟨hi, he⟩ ih
  refine sp W 0 rfl rfl rfl (fun h2 => ?_) (fun h2 => ?_)
  · have h2 : i < l.length := by omega
    have kq := eqNode_ok (l.getD i (0, 0, [])) (m.getD i (0, 0, []))
    refine dre W 0 10 [] [.pr (l.getD i (0, 0, []) = m.getD i (0, 0, []))] rfl rfl rfl ⟨kq.at rfl _, trivial⟩ rfl ?_
    refine sp W 0 rfl rfl rfl (fun h3 => ?_) (fun h3 => ?_)
    · refine rp W 0 rfl rfl rfl (.no (fun k => by subst k; exact h3 rfl))
    · refine bd W 0 0 [0, 1, 5] rfl rfl rfl rfl rfl (ih (i + 1) ⟨by omega, fun j hj => ?_⟩ (by omega))
      by_cases hji : j = i
      · subst hji; exact Classical.not_not.1 h3
      · exact he j (by omega)
  · have hfin : l = m := List.ext_getElem h1 fun j h3 h4 => by
      have := he j (by omega)
      simpa [List.getD_eq_getElem?_getD, h3, h4] using this
    refine rp W 0 rfl rfl rfl (.yes hfin)
theorem eqTerm_ok (l m : List Nd) (hl : l.length ≤ 1048576) (hm : m.length ≤ 1048576) : AFunP Tryd.prog 13 [termV l, termV m] (· = .pr (l = m)) := by
  refine afun_of Tryd.func13 Tryd.call13 rfl Tryd.ntmps13 rfl ?_
  have W : Walk Tryd.prog TT 13 _ := Walk.of TT_ok Tryd.func13 Tryd.results13
  refine ce W 0 rfl rfl (eqNodeS_ok l m hl hm) rfl ?_
  refine sp W 0 rfl rfl rfl (fun h1 => ?_) (fun h1 => ?_)
  · refine rp W 0 rfl rfl rfl (.no h1)
  · refine rp W 0 rfl rfl rfl (.yes (Classical.not_not.1 h1))
theorem toNodeS_ok (l : List Nd) (hl : l.length ≤ 1048576) : AFunP Tryd.prog 39 [.fz l.length (nodeR l)] (· = .fz l.length (nodeR l)) := by
  refine afun_of Tryd.func39 Tryd.call39 rfl Tryd.ntmps39 rfl ?_
  have W : Walk Tryd.prog TT 39 _ := Walk.of TT_ok Tryd.func39 Tryd.results39
  refine lp W 0 (σ := Nat × (Nat → Int) × (Nat → Int) × (Nat → List UInt8)) (fun s => [(0, .fz l.length (nodeR l)), (3, .sl 0 0 0 l.length), (4, .int .i64 s.1)]) (fun s => [.tab 0 l.length fun j => [.int .i64 (s.2.1 j), .int .i64 (s.2.2.1 j), .str (s.2.2.2 j)]]) (fun s => l.length - s.1) (fun s => s.1 ≤ l.length ∧ ∀ j, j < s.1 → (s.2.1 j, s.2.2.1 j, s.2.2.2 j) = l.getD j (0, 0, [])) (0, fun _ => 0, fun _ => 0, fun _ => []) [0, 3, 4] rfl rfl rfl ⟨Nat.zero_le _, fun j hj => by omega⟩ ?_
  rintro ⟨i, F, G, S⟩ ⟨hi, he⟩ ih
  dsimp only at hi he ih ⊢
  refine sp W 0 rfl rfl rfl (fun h2 => ?_) (fun h2 => ?_)
  · have h2 : i < l.length := by omega
    refine ce W 0 rfl rfl (toNode_ok (l.getD i (0, 0, []))) rfl ?_
    refine bd W 0 1 [0, 3, 4] rfl rfl rfl rfl rfl (ih (i + 1, fun j => if j = i then (l.getD i (0, 0, [])).1 else F j, fun j => if j = i then (l.getD i (0, 0, [])).2.1 else G j, fun j => if j = i then (l.getD i (0, 0, [])).2.2 else S j) ⟨by dsimp only; omega, fun j hj => ?_⟩ (by dsimp only; omega))
    dsimp only at hj ⊢
    by_cases hji : j = i
    · subst hji; rw [if_pos rfl, if_pos rfl, if_pos rfl]
    · rw [if_neg hji, if_neg hji, if_neg hji]; exact he j (by omega)
  · refine rp W 0 rfl rfl rfl (.fzn rfl fun j hj => ?_)
    show [AV.int .i64 (F j), AV.int .i64 (G j), AV.str (S j)] = nodeR l j
    have e := he j (by omega)
    unfold nodeR
    rw [← e]
theorem toTerm_ok (l : List Nd) (hl : l.length ≤ 1048576) : AFunP Tryd.prog 11 [termV l] (· = termV l) := by
  refine afun_of Tryd.func11 Tryd.call11 rfl Tryd.ntmps11 rfl ?_
  have W : Walk Tryd.prog TT 11 _ := Walk.of TT_ok Tryd.func11 Tryd.results11
  refine ce W 0 rfl rfl (toNodeS_ok l hl) rfl ?_
  refine rp W 0 rfl rfl rfl (.refl)
theorem szNodeS_ok (l : List Nd) (left : Int) (hl : 0 ≤ left ∧ left ≤ 1048576) (hm : l.length ≤ 9223372036854775807) (hx : ∀ i, i < l.length → (l.getD i (0, 0, [])).2.2.length ≤ 9223372036854775807) : AFunP Tryd.prog 37 [.fz l.length (nodeR l), .int .i64 left] (fun u => ∃ n, u = .int .i64 n ∧ (0 ≤ n → l.length ≤ left ∧ ∀ i, i < l.length → ((l.getD i (0, 0, [])).2.2.length : Int) ≤ left)) := by
  refine afun_of Tryd.func37 Tryd.call37 rfl Tryd.ntmps37 rfl ?_
  have W : Walk Tryd.prog TT 37 _ := Walk.of TT_ok Tryd.func37 Tryd.results37
  refine sp W 0 rfl rfl rfl (fun h1 => ?_) (fun h1 => ?_)
  · refine rq W 0 rfl rfl (.int .i64 (-1)) (⟨_, rfl, fun k => by omega⟩) rfl .refl
  refine lp W 0 (σ := Nat × Int) (fun s => [(0, .fz l.length (nodeR l)), (1, .int .i64 s.2), (5, .int .i64 s.1)]) (fun _ => []) (fun s => l.length - s.1) (fun s => s.1 ≤ l.length ∧ (0 ≤ s.2 ∧ s.2 ≤ left) ∧ ∀ j, j < s.1 → ((l.getD j (0, 0, [])).2.2.length : Int) ≤ left) (0, left - l.length) [0, 1, 5] rfl rfl rfl ⟨Nat.zero_le _, ⟨by dsimp only; omega, by dsimp only; omega⟩, fun j hj => by omega⟩ ?_
  rintro ⟨i, d⟩ ⟨hi, hd, he⟩ ih
  dsimp only at hi hd he ih ⊢
  refine sp W 0 rfl rfl rfl (fun h2 => ?_) (fun h2 => ?_)
  · have h2 : i < l.length := by omega
    have hxi := hx i h2
    refine ce W 0 rfl rfl (szNode_ok (l.getD i (0, 0, [])) d ⟨by omega, by omega⟩ hxi) rfl ?_
    refine sp W 0 rfl rfl rfl (fun h3 => ?_) (fun h3 => ?_)
    · refine rq W 0 rfl rfl (.int .i64 (-1)) (⟨_, rfl, fun k => by omega⟩) rfl .refl
    · by_cases h4 : d < (l.getD i (0, 0, [])).2.2.length
      · rw [if_pos h4] at h3; exact absurd (by omega) h3
      · simp only [if_neg h4]
        refine bd W 0 0 [0, 1, 5] rfl rfl rfl rfl rfl (ih (i + 1, d - (l.getD i (0, 0, [])).2.2.length) ⟨by dsimp only; omega, ⟨by dsimp only; omega, by dsimp only; omega⟩, fun j hj => ?_⟩ (by dsimp only; omega))
        by_cases hji : j = i
        · subst hji; omega
        · exact he j (by dsimp only at hj; omega)
  · refine rq W 0 rfl rfl (.int .i64 d) (⟨_, rfl, fun k => ⟨by omega, fun j hj => he j (by omega)⟩⟩) rfl .refl
theorem szTerm_ok (l : List Nd) (hm : l.length ≤ 9223372036854775807) (hx : ∀ i, i < l.length → (l.getD i (0, 0, [])).2.2.length ≤ 9223372036854775807) : AFunP Tryd.prog 9 [termV l, .int .i64 1048576] (fun u => ∃ n, u = .int .i64 n ∧ (0 ≤ n → l.length ≤ 1048576 ∧ txtOk l)) := by
  refine afun_of Tryd.func9 Tryd.call9 rfl Tryd.ntmps9 rfl ?_
  have W : Walk Tryd.prog TT 9 _ := Walk.of TT_ok Tryd.func9 Tryd.results9
  refine cq W 0 rfl rfl (szNodeS_ok l 1048576 ⟨by omega, by omega⟩ hm hx) ?_
  rintro _ ⟨n, rfl, hn⟩
  refine ⟨_, rfl, ?_⟩
  refine sp W 0 rfl rfl rfl (fun h1 => ?_) (fun h1 => ?_)
  · refine rq W 0 rfl rfl (.int .i64 (-1)) (⟨_, rfl, fun k => by omega⟩) rfl .refl
  · refine rq W 0 rfl rfl (.int .i64 n) (⟨_, rfl, fun k => ⟨by have := (hn k).1; omega, fun i hi => by have := (hn k).2 i hi; omega⟩⟩) rfl .refl
theorem fnTermOk_law (l : List Nd) (hm : l.length ≤ 9223372036854775807) (hx : ∀ i, i < l.length → (l.getD i (0, 0, [])).2.2.length ≤ 9223372036854775807) : AFunP Tryd.prog 3 [termV l] (· = .pr True) := by
  refine afun_of Tryd.func3 Tryd.call3 rfl Tryd.ntmps3 rfl ?_
  have W : Walk Tryd.prog TT 3 _ := Walk.of TT_ok Tryd.func3 Tryd.results3
  refine cq W 0 rfl rfl (szTerm_ok l hm hx) ?_
  rintro _ ⟨n, rfl, hn⟩
  refine ⟨_, rfl, ?_⟩
  refine sp W 0 rfl rfl rfl (fun h1 => ?_) (fun h1 => ?_)
  · refine rp W 0 rfl rfl rfl (.yes trivial)
  obtain ⟨hl, ht⟩ := hn (by omega)
  have k1 := toTerm_ok l hl
  refine ce W 0 rfl rfl (k1) rfl ?_
  refine ce W 0 rfl rfl (specTermOk_ok l ht hl) rfl ?_
  refine ce W 0 rfl rfl (k1) rfl ?_
  refine ce W 0 rfl rfl (implTermOk_ok l ht hl) rfl ?_
  refine sp W 0 rfl rfl rfl (fun h2 => ?_) (fun h2 => ?_)
  · exact absurd Iff.rfl h2
  refine dre W 0 5 [] [termV l, .pr (l = l)] rfl rfl rfl ⟨k1.at rfl _, (eqTerm_ok l l hl hl).at rfl _, trivial⟩ rfl ?_
  refine sp W 0 rfl rfl rfl (fun h3 => ?_) (fun h3 => ?_)
  · exact absurd rfl h3
  · refine rp W 0 rfl rfl rfl (.yes trivial)
end Pf
/- What the laid variables hold -/
namespace Pf
open Go Go.Proofs
open Go.RowKit
theorem open_strs {P : Program} {H : Type} {enc : TypeId × Value → H} {w : World} {base : Nat} {spare : Nat → Bool} {held : Bool} {fuel : Nat} {t e : TypeId} {cs : List Value} {p : List MemPlace} (ht : P.underlying t = some (.slice e)) (he : P.underlying e = some .string) (hc : P.cellsOf e = 1)
    {ws : List (List UInt8)} (hw : ws ≠ []) (h : DataW.trod enc P w base spare held fuel t cs = some (.slice (ws.map fun s => .lit (.string s)) [], p)) : VRs (worldFM w) noB [.fz ws.length fun i => [.str (ws.getD i [])]] cs := by
  rcases Go.Deep.open_slice ht h with ⟨_, h2⟩ | ⟨a, len, cap, m, n, D, Pl, rfl, _, hl, hm, hmm, hx, hel⟩
  · cases (Prod.mk.inj h2).1
  have hle : len ≤ m := by rw [hmm]; split <;> omega
  have e1 : ws.map (fun s => (DataW.lit (.string s) : DataW H)) = (List.range len).map D := (DataW.slice.inj (Prod.mk.inj hx).1).1
  have el : ws.length = len := by have := congrArg List.length e1; simpa using this
  have eD : ∀ i, i < len → D i = .lit (.string (ws.getD i [])) := by
    intro i hi
    have := congrArg (fun l => l[i]?) e1
    simp only [List.getElem?_map, List.getElem?_range, hi, Option.map_some] at this
    rw [List.getElem?_eq_getElem (by omega : i < ws.length)] at this
    simp only [Option.map_some, Option.some.injEq] at this
    rw [← this]
    simp [List.getD_eq_getElem?_getD, show i < ws.length by omega]
  have each : ∀ i, i < len → ∃ s : ByteArray, s.data.toList = ws.getD i [] ∧ w.cell? (a.add i) = some (.string s) := by
    intro i hi
    obtain ⟨cs', h1, h2⟩ := hel i (by omega)
    obtain ⟨s, rfl, h3, _⟩ := DataW.trod_string he h2
    obtain ⟨_, _, h6⟩ := World.cells?_some h1
    rw [hc] at h6
    have h7 := h6 0 (by omega)
    rw [Nat.mul_one] at h7
    refine ⟨s, ?_, by simpa [Addr.add] using h7⟩
    have h8 := (Prod.mk.inj h3).1
    rw [eD i hi] at h8
    injection h8 with h9
    injection h9 with h9
    exact h9.symm
  have hpos : 0 < len := by rw [← el]; exact List.length_pos_iff.2 hw
  have ha : a = ⟨a.block, a.off, none⟩ := by
    obtain ⟨s, _, h4⟩ := each 0 hpos
    exact cell_spot (by simpa [Addr.add] using h4)
  rw [el]
  refine .single ?_
  rw [ha]
  let f : Nat → Value := fun i => if h : i < len then .string (each i h).choose else undef
  have hf : ∀ i, i < len → ∃ s : ByteArray, f i = .string s ∧ s.data.toList = ws.getD i [] ∧ w.cell? (a.add i) = some (f i) := fun i hi => by
    have := (each i hi).choose_spec
    simp only [f, dif_pos hi]
    exact ⟨_, rfl, this.1, this.2⟩
  refine .fz (sz := 1) (fun i _ => f i) (by omega) hl (fun i hi => rfl) (fun i j hi hj => ?_) (fun i j hi hj => ?_) (fun i j hi hj => ?_)
  · obtain ⟨s, h1, h2, h3⟩ := hf i hi
    rw [ha, addr_add] at h3
    unfold worldFM
    rw [show j = 0 by omega, Nat.mul_one, Nat.add_zero]
    exact h3
  · obtain ⟨s, h1, h2, h3⟩ := hf i hi
    rw [h1]; rfl
  · obtain ⟨s, h1, h2, h3⟩ := hf i hi
    have : j = 0 := by simpa using hj
    subst this
    rw [h1]
    exact .str h2
theorem var_one {P : Program} {w : World} {n : String} {g : Nat} {cs : Array Value} (hg : P.globalNamed n = some g) (hv : w.var? P n = some cs) {a : AV} (h : VRs (worldFM w) noB [a] cs.toList) : ∃ c, worldFM w g 0 = some c ∧ VR (worldFM w) noB a c := by
  obtain ⟨h1, h2⟩ := h
  have h3 := h2 0 (by simp)
  have hl : 0 < cs.size := by have : 1 = cs.toList.length := h1; simp at this; omega
  refine ⟨cs[0], ?_, ?_⟩
  · show w.cell? ⟨g, 0, none⟩ = _
    rw [World.var?_cell hg hv 0]
    simp [hl]
  · have e : cs.toList.getD 0 undef = cs[0] := by simp [List.getD_eq_getElem?_getD, hl]
    rw [e] at h3
    exact h3
theorem iface_of {P : Program} {H : Type} {enc : TypeId × Value → H} {w : World} {base : Nat} {spare : Nat → Bool} {fuel : Nat} {t : TypeId} {ms : Array (String × TypeId)} {cs : List Value} {nm : String} {d : DataW H} {p : List MemPlace} (ht : P.underlying t = some (.interface ms)) (h : DataW.trod enc P w base spare false fuel t cs = some (.iface nm d, p)) : ∃ u v, cs = [.iface u v] := by
  cases fuel with
  | zero => simp [DataW.trod] at h
  | succ n =>
    unfold DataW.trod at h
    rw [ht] at h
    split at h <;> simp_all
theorem var_iface {P : Program} {w : World} {n : String} {g : Nat} {cs : Array Value} (hg : P.globalNamed n = some g) (hv : w.var? P n = some cs) {u : TypeId} {v : Value} (h : cs.toList = [.iface u v]) : ∃ ev, worldFM w g 0 = some ev ∧ (ev = .nilIface ∨ ∃ te pe, ev = .iface te pe) := by
  refine ⟨.iface u v, ?_, .inr ⟨u, v, rfl⟩⟩
  show w.cell? ⟨g, 0, none⟩ = _
  rw [World.var?_cell hg hv 0]
  obtain ⟨l⟩ := cs
  simp only at h
  subst h
  rfl
end Pf
/- A nil slice in a temporary, as an empty block of its own. -/
namespace Pf
open Go
variable {P : Program} {TT : TypeId → Option TI} {f N n0 : Nat} {k : List Item} {T : Env} {H : AHeap} {R : AV → AHeap → Prop}

/-- The temporary 'd' holds no cells: from here on it is a slice of an empty block, at the heap's end. -/
theorem go_nilT (d : Nat) (blk : ABlk) {v : AV} {rowE : Nat → List AV} {T1 : Env} {H2 : AHeap} (et : getM T d = some v) (en : isNil v = true)
    (eb : blk.view = some (0, 0, rowE)) (e1 : putM d (.sl (lenM H) 0 0 0) T = some T1) (e4 : appM H [blk] = some H2)
    (h : AGo P f N n0 k T1 H2 R) : AGo P f N n0 k T H R := by
  intro FM β bf cs a w a1 a2 a3 a4 hT hH hl
  rw [appM_eq] at e4
  cases e4
  simp only [lenM_eq] at *
  let β1 : BMap := fun b g => if b = H.length ∧ g = 0 then some none else β b g
  have hnone : ∀ g, β H.length g = none := by
    intro g
    cases hb : β H.length g with
    | none => rfl
    | some lo => have := (hH.dom _ _ _ hb).1; omega
  have hβ : ∀ b g lo, β b g = some lo → β1 b g = some lo := by
    intro b g lo hb
    simp only [β1]
    split
    · rename_i h1
      obtain ⟨rfl, rfl⟩ := h1
      rw [hnone] at hb; cases hb
    · exact hb
  have some1 : ∀ {i g : Nat} {L : Loc}, β1 i g = some (some L) → β i g = some (some L) := by
    intro i g L hi
    simp only [β1] at hi
    split at hi
    · cases hi
    · exact hi
  have get : ∀ {i : Nat} {bl : ABlk}, (H ++ [blk])[i]? = some bl → (i < H.length ∧ H[i]? = some bl) ∨ (i = H.length ∧ bl = blk) := by
    intro i bl hi
    rcases Nat.lt_or_ge i H.length with h1 | h1
    · rw [List.getElem?_append_left h1] at hi; exact .inl ⟨h1, hi⟩
    · rw [List.getElem?_append_right h1] at hi
      obtain ⟨h2, h3⟩ := List.getElem?_eq_some_iff.1 hi
      simp at h2
      have : i = H.length := by omega
      subst this
      simp at h3
      exact .inr ⟨rfl, h3.symm⟩
  have hcell : ∀ {cv : Value}, VR FM β v cv → VR FM β1 (.sl H.length 0 0 0) cv := by
    intro cv h0
    have hb : β1 H.length 0 = some none := by simp [β1]
    cases h0 with
    | nils => exact .sl0 hb fun L h => by cases h
    | e0 => exact .sl0 hb fun L h => by cases h
    | _ => cases en
  have hR : RelH FM β1 (H ++ [blk]) w := by
    have hmp : MapsOk β1 (H ++ [blk]) w := hH.mp.keep hβ (fun i vb sh es h => by
      rcases get h with ⟨_, h⟩ | ⟨_, rfl⟩
      · exact h
      · cases eb) fun _ _ _ h => h
    refine ⟨?_, ?_, ?_, hH.fm, ?_, hH.gk, hmp⟩
    · intro i bl g' m rw1 h1 h2
      rcases get h1 with ⟨hi, q1⟩ | ⟨rfl, rfl⟩
      · obtain ⟨lo, p1, p2⟩ := hH.mem i bl g' m rw1 q1 h2
        refine ⟨lo, hβ _ _ _ p1, ?_⟩
        cases lo with
        | none => exact p2
        | some L => exact MemOk.still p2 rfl hβ
      · rw [eb] at h2; cases h2
        exact ⟨none, by simp [β1], rfl⟩
    · intro b1 b2 k1 k2 g1 g2 n1 n2 row1 row2 L1 L2 h1 h2 h3 h4 h5 h6 h7
      have q3 := some1 h3
      have q6 := some1 h6
      rcases get h1 with ⟨_, x1⟩ | ⟨rfl, rfl⟩
      · rcases get h4 with ⟨_, x1'⟩ | ⟨rfl, rfl⟩
        · exact hH.inj b1 b2 k1 k2 g1 g2 n1 n2 row1 row2 L1 L2 x1 h2 q3 x1' h5 q6 h7
        · rw [hnone] at q6; cases q6
      · rw [hnone] at q3; cases q3
    · intro i bl g' m rw1 L h1 h2 h3
      have q3 := some1 h3
      rcases get h1 with ⟨_, x1⟩ | ⟨rfl, rfl⟩
      · exact hH.wid i bl g' m rw1 L x1 h2 q3
      · rw [hnone] at q3; cases q3
    · intro i g' lo hi
      simp only [β1] at hi
      split at hi
      · rename_i h1
        obtain ⟨rfl, rfl⟩ := h1
        exact ⟨by simp, fun _ _ _ _ _ _ => Nat.zero_le _⟩
      · obtain ⟨q1, q2⟩ := hH.dom i g' lo hi
        refine ⟨by simp; omega, fun bl g2 m rw1 h1 h2 => ?_⟩
        rcases get h1 with ⟨_, x1⟩ | ⟨rfl, rfl⟩
        · exact q2 bl g2 m rw1 x1 h2
        · omega
  have hT1 : RelT FM β1 T1 a := by
    intro e u he
    rw [getM_putM e1] at he
    split at he
    · rename_i hde
      subst hde
      cases he
      exact hcell (hT _ _ et)
    · exact (hT e u he).mono (fun _ _ _ h => h) hβ
  obtain ⟨v', w', fr, av, FM', β', H', h1, h2, h3, h4, h5⟩ := h FM β1 bf cs a w a1 a2 a3 a4 hT1 hR (by simp; omega)
  have himg : ∀ cb, cb < w.heap.size → Img β1 (H ++ [blk]) cb → Img β H cb := by
    intro cb _ hi
    obtain ⟨i, bl, g', m, rw1, L, q1, q2, q3, q4⟩ := hi
    have q3 := some1 q3
    rcases get q1 with ⟨_, x1⟩ | ⟨rfl, rfl⟩
    · exact ⟨i, bl, g', m, rw1, L, x1, q2, q3, q4⟩
    · rw [hnone] at q3; cases q3
  have hx : ExtB n0 FM β H w FM β1 (H ++ [blk]) w := ⟨fun _ _ _ h => h, fun b g lo _ e => hβ b g lo e, Nat.le_refl _, himg, fun _ _ _ => rfl, fun _ _ _ h => .inl h, by simp; omega, rfl, rfl, rfl⟩
  exact ⟨v', w', fr, av, FM', β', H', h1, h2, h3, hx.trans h4, h5⟩

end Pf
/- A temporary's value said otherwise. -/
namespace Pf
open Go
variable {P : Program} {TT : TypeId → Option TI} {f N n0 : Nat} {k : List Item} {T : Env} {H : AHeap} {R : AV → AHeap → Prop}
/-- The temporary 'd' is said to hold u, which is so wherever it holds v. -/
theorem go_sub (d : Nat) (u : AV) {v : AV} {T1 : Env} (e : getM T d = some v) (hs : Sub v u) (e1 : putM d u T = some T1) (h : AGo P f N n0 k T1 H R) : AGo P f N n0 k T H R :=
  fun FM β b cs a w a1 a2 a3 a4 hT hH hl => h FM β b cs a w a1 a2 a3 a4 (hT.refine e1 (hs _ _ _ (hT _ _ e))) hH hl
end Pf
/- Where parts begin and end: the model's l12Start, l12Parts -/
namespace Pf
open Go Go.Proofs
/-- Where the parts end that stand ahead of a place. -/
noncomputable def ends (l : List Nd) : Nat → List Nat
  | 0 => []
  | i + 1 => (ends l i).take ((ends l i).length - (pz (l.getD i (0, 0, []))).toNat) ++ [i]
/-- How many parts the node at a place has. -/
noncomputable def pn (l : List Nd) (i : Nat) : Nat := (pz (l.getD i (0, 0, []))).toNat
theorem ends_succ (l : List Nd) (i : Nat) : ends l (i + 1) = (ends l i).take ((ends l i).length - pn l i) ++ [i] := rfl
theorem ends_lt {l : List Nd} : ∀ {i x : Nat}, x ∈ ends l i → x < i
  | 0, x, h => by simp [ends] at h
  | i + 1, x, h => by
    rw [ends_succ] at h
    rcases List.mem_append.1 h with h | h
    · have := ends_lt (List.mem_of_mem_take h); omega
    · simp at h; omega
theorem ends_getD_lt {l : List Nd} {i k : Nat} (h : k < (ends l i).length) : (ends l i).getD k 0 < i := ends_lt (getD_mem h)
/-- Where the part begins that ends at a place. -/
noncomputable def st (l : List Nd) (i : Nat) : Nat :=
  if pn l i = 0 then i else
    if h : (ends l i).getD ((ends l i).length - pn l i) 0 < i then st l ((ends l i).getD ((ends l i).length - pn l i) 0) else i
termination_by i
/-- A term whose first n nodes find their parts. -/
def good (l : List Nd) (n : Nat) : Prop := ∀ i, i < n → 0 ≤ pz (l.getD i (0, 0, [])) ∧ pn l i ≤ (ends l i).length
theorem dep_ends {l : List Nd} : ∀ {n : Nat} {d : Int}, dep l n = some d → d = (ends l n).length ∧ good l n
  | 0, d, h => by
    simp only [dep, Option.some.injEq] at h
    exact ⟨by rw [← h]; rfl, fun i hi => by omega⟩
  | n + 1, d, h => by
    simp only [dep] at h
    split at h
    · cases h
    · rename_i d' hd
      obtain ⟨e, hg⟩ := dep_ends hd
      split at h
      · cases h
      · rename_i hz
        have hz1 : 0 ≤ pz (l.getD n (0, 0, [])) := by omega
        have hz2 : pn l n ≤ (ends l n).length := by unfold pn; omega
        have hz3 : ((pn l n : Nat) : Int) = pz (l.getD n (0, 0, [])) := by unfold pn; omega
        cases h
        refine ⟨?_, fun i hi => ?_⟩
        · rw [ends_succ, List.length_append, List.length_take]
          simp only [List.length_cons, List.length_nil]
          omega
        · rcases (by omega : i < n ∨ i = n) with h1 | rfl
          · exact hg i h1
          · exact ⟨hz1, hz2⟩
theorem ends_len {l : List Nd} {n i : Nat} (h : good l n) (hi : i < n) : (ends l (i + 1)).length = (ends l i).length - pn l i + 1 := by
  rw [ends_succ, List.length_append, List.length_take]
  simp only [List.length_cons, List.length_nil]
  omega
theorem ends_last {l : List Nd} {i : Nat} : (ends l (i + 1)).getD ((ends l (i + 1)).length - 1) 0 = i := by
  rw [ends_succ]
  simp [List.getD_eq_getElem?_getD]
theorem ends_old {l : List Nd} {n i k : Nat} (h : good l n) (hi : i < n) (hk : k < (ends l i).length - pn l i) : (ends l (i + 1)).getD k 0 = (ends l i).getD k 0 := by
  rw [ends_succ]
  simp only [List.getD_eq_getElem?_getD]
  rw [List.getElem?_append_left (by rw [List.length_take]; omega), List.getElem?_take, if_pos hk]
theorem st_leaf {l : List Nd} {i : Nat} (h : pn l i = 0) : st l i = i := by rw [st, if_pos h]
theorem st_node {l : List Nd} {n i : Nat} (hg : good l n) (hi : i < n) (h : pn l i ≠ 0) : st l i = st l ((ends l i).getD ((ends l i).length - pn l i) 0) := by
  have h2 := (hg i hi).2
  rw [st, if_neg h, dif_pos (ends_getD_lt (by omega))]
theorem st_le (l : List Nd) (i : Nat) : st l i ≤ i := by
  induction i using Nat.strongRecOn with
  | ind i ih =>
    rw [st]
    split
    · exact Nat.le_refl _
    · split
      · rename_i h
        have := ih _ h
        omega
      · exact Nat.le_refl _
theorem snoc_getD {B : List Int} {x : Int} {j : Nat} (hB : B.length = j) {i : Nat} (hi : i < j + 1) : (B ++ [x]).getD i 0 = if i < j then B.getD i 0 else x := by
  subst hB
  simp only [List.getD_eq_getElem?_getD]
  split
  · rw [List.getElem?_append_left (by omega)]
  · rw [show i = B.length by omega, List.getElem?_append_right (Nat.le_refl _)]
    simp
/-- Neighbours: a part begins where the one below ends. -/
theorem ends_nb {l : List Nd} {n : Nat} (hg : good l n) : ∀ {i : Nat}, i ≤ n → ∀ k, k + 1 < (ends l i).length → (ends l i).getD k 0 + 1 = st l ((ends l i).getD (k + 1) 0)
  | 0, _, k, hk => by simp [ends] at hk
  | i + 1, hi, k, hk => by
    have hl := ends_len hg (show i < n by omega)
    have h2 := (hg i (by omega)).2
    rw [hl] at hk
    have e0 := ends_old hg (show i < n by omega) (show k < (ends l i).length - pn l i by omega)
    rw [e0]
    rcases (by omega : k + 1 < (ends l i).length - pn l i ∨ k + 1 = (ends l i).length - pn l i) with h3 | h3
    · rw [ends_old hg (show i < n by omega) h3]
      exact ends_nb hg (by omega) k (by omega)
    · have e1 : (ends l (i + 1)).getD (k + 1) 0 = i := by
        have := ends_last (l := l) (i := i)
        rwa [hl, show (ends l i).length - pn l i + 1 - 1 = k + 1 by omega] at this
      rw [e1]
      by_cases hz : pn l i = 0
      · rw [st_leaf hz]
        cases i with
        | zero => simp [ends] at h3
        | succ j =>
          have := ends_last (l := l) (i := j)
          rw [show (ends l (j + 1)).length - 1 = k by omega] at this
          omega
      · rw [st_node hg (by omega) hz, ← h3]
        exact ends_nb hg (by omega) k (by omega)
/-- How deep the part is that ends at a place. -/
noncomputable def deep (l : List Nd) (i : Nat) : Int :=
  ((ends l i).drop ((ends l i).length - pn l i)).attach.foldl (fun m x => max m (deep l x.1)) 0 + 1
termination_by i
decreasing_by exact ends_lt (List.mem_of_mem_drop x.2)
theorem deep_eq (l : List Nd) (i : Nat) : deep l i = ((ends l i).drop ((ends l i).length - pn l i)).foldl (fun m x => max m (deep l x)) 0 + 1 := by
  rw [deep]
  congr 1
  have := List.foldl_map (f := Subtype.val) (g := fun m x => max m (deep l x)) (l := ((ends l i).drop ((ends l i).length - pn l i)).attach) (init := 0)
  rw [List.attach_map_subtype_val] at this
  exact this.symm
theorem ends_le (l : List Nd) : ∀ i, (ends l i).length ≤ i
  | 0 => Nat.le_refl _
  | i + 1 => by
    have := ends_le l i
    rw [ends_succ, List.length_append, List.length_take]
    simp only [List.length_cons, List.length_nil]
    omega
/-- The part that ends at a place begins at a place ahead. -/
theorem start_ok (l : List Nd) (n a : Nat) (hg : good l n) (ha : a < n) (hl : l.length ≤ 1048576) (hn : n ≤ l.length) (hx : txtOk l) : AFunP Tryd.prog 99 [termV l, .int .i64 a] (· = .int .i64 (st l a : Nat)) := by
  refine afun_of Tryd.func99 Tryd.call99 rfl Tryd.ntmps99 rfl ?_
  have W : Walk Tryd.prog TT 99 _ := Walk.of TT_ok Tryd.func99 Tryd.results99
  refine lp W 0 (σ := Int × Int) (fun s => [(2, .ptr 0 0 0 0), (5, .int .i64 s.2), (6, .int .i64 s.1)]) (fun _ => [.lst 0 [[.fz l.length (nodeR l)]]]) (fun s => s.1.toNat) (fun s => (0 ≤ s.1 ∧ s.1 ≤ a) ∧ 0 < s.2 ∧ s.2 ≤ (ends l (s.1.toNat + 1)).length ∧ st l ((ends l (s.1.toNat + 1)).getD ((ends l (s.1.toNat + 1)).length - s.2.toNat) 0) = st l a) ((a : Int), 1) [2, 5, 6] rfl rfl rfl
    ⟨⟨by dsimp only; omega, by dsimp only; omega⟩, by dsimp only; omega, by dsimp only; have := ends_len hg ha; rw [Int.toNat_natCast]; omega, by dsimp only; rw [Int.toNat_natCast, show (1 : Int).toNat = 1 from rfl, ends_last]⟩ ?_
  rintro ⟨iv, mv⟩ ⟨⟨hi0, hi⟩, hm0, hm1, hs⟩ ih
  dsimp only at hi0 hi hm0 hm1 hs ih ⊢
  obtain ⟨i, rfl⟩ : ∃ i : Nat, iv = i := ⟨iv.toNat, by omega⟩
  obtain ⟨m, rfl⟩ : ∃ m : Nat, mv = m := ⟨mv.toNat, by omega⟩
  simp only [Int.toNat_natCast] at hm1 hs
  have hin : i < n := by omega
  obtain ⟨z0, z1⟩ := hg i hin
  have hle := ends_le l i
  have hlen := ends_len hg hin
  have kp := l12Args_ok (l.getD i (0, 0, [])).1 (l.getD i (0, 0, [])).2.1 (l.getD i (0, 0, [])).2.2 (hx i (by omega))
  have hz : partsZ (l.getD i (0, 0, [])).1 (l.getD i (0, 0, [])).2.1 (l.getD i (0, 0, [])).2.2 = (pn l i : Nat) := by unfold pn; unfold pz at z0 ⊢; omega
  rw [hz] at kp
  have hl2 := ends_last (l := l) (i := i)
  refine ce W 0 rfl rfl (kp) rfl ?_
  refine sp W 0 rfl rfl rfl (fun b1 => ?_) (fun b1 => ?_)
  · have e1 : m = 1 := by omega
    have e2 : pn l i = 0 := by omega
    rw [e1, hl2, st_leaf e2] at hs
    refine rp W 0 rfl rfl rfl (.int (by omega))
  · have hpos : 1 ≤ i := by
      rcases (by omega : i = 0 ∨ 1 ≤ i) with rfl | h
      · have : (ends l 0).length = 0 := rfl
        omega
      · exact h
    refine bd W 0 1 [2, 5, 6] rfl rfl rfl rfl rfl (ih ((i : Int) - 1, (m : Int) - 1 + (pn l i : Nat)) ⟨⟨by dsimp only; omega, by dsimp only; omega⟩, by dsimp only; omega, ?_, ?_⟩ (by dsimp only; omega))
    · dsimp only
      rw [show ((i : Int) - 1).toNat + 1 = i by omega]
      omega
    · dsimp only
      rw [show ((i : Int) - 1).toNat + 1 = i by omega, show ((m : Int) - 1 + (pn l i : Nat)).toNat = m - 1 + pn l i by omega]
      rw [← hs]
      by_cases hm : m = 1
      · subst hm
        rw [hl2, st_node hg hin (by omega), Nat.sub_self, Nat.zero_add]
      · rw [ends_old hg hin (by omega)]
        congr 2
        omega
/-- The ends of the parts of a node. -/
noncomputable def parts (l : List Nd) (a : Nat) : List Nat := (ends l a).drop ((ends l a).length - pn l a)
theorem max_ok (x : Nd) (L : List Int) (hL : L.length ≤ 1048576) (hm : ∀ d ∈ L, 0 ≤ d ∧ d ≤ 1048576) : AFunP Tryd.prog 44 [nodeV x, .fi .i64 L] (· = .int .i64 (L.foldl (fun m x => max m x) 0 + 1)) := by
  unfold nodeV
  refine afun_of Tryd.func44 Tryd.call44 rfl Tryd.ntmps44 rfl ?_
  have W : Walk Tryd.prog TT 44 _ := Walk.of TT_ok Tryd.func44 Tryd.results44
  refine lp W 0 (σ := Nat × Int) (fun s => [(5, .int .i64 s.2), (8, .fi .i64 L), (9, .int .i64 L.length), (10, .int .i64 s.1)]) (fun _ => [.lst 0 [[.int .i64 x.1, .int .i64 x.2.1, .str x.2.2]]]) (fun s => L.length - s.1) (fun s => s.1 ≤ L.length ∧ (0 ≤ s.2 ∧ s.2 ≤ 1048576) ∧ s.2 = (L.take s.1).foldl (fun m x => max m x) 0) (0, 0) [5, 8, 9, 10] rfl rfl rfl ⟨Nat.zero_le _, ⟨by dsimp only; omega, by dsimp only; omega⟩, rfl⟩ ?_
  rintro ⟨i, m⟩ ⟨hi, hm0, he⟩ ih
  dsimp only at hi hm0 he ih ⊢
  refine sp W 0 rfl rfl rfl (fun h1 => ?_) (fun h1 => ?_)
  · have h1 : i < L.length := by omega
    have hmi := hm (L.getD i 0) (getD_mem h1)
    have et : L.take (i + 1) = L.take i ++ [L.getD i 0] := by
      rw [← List.take_append_getElem h1]; simp [List.getD_eq_getElem?_getD, h1]
    refine bd W 0 1 [5, 8, 9, 10] rfl rfl rfl rfl rfl (ih (i + 1, max m (L.getD (i : Int).toNat 0)) ⟨by dsimp only; omega, ⟨by dsimp only; rw [Int.toNat_natCast]; omega, by dsimp only; rw [Int.toNat_natCast]; omega⟩, ?_⟩ (by dsimp only; omega))
    dsimp only
    rw [et, List.foldl_append, ← he, Int.toNat_natCast]
    rfl
  · have e : L.take i = L := List.take_of_length_le (by omega)
    rw [e] at he
    refine rp W 0 rfl rfl rfl (.int (by rw [he]))
theorem parts_spec (l : List Nd) (n a : Nat) (hg : good l n) (ha : a < n) (hl : l.length ≤ 1048576) (hn : n ≤ l.length) (hx : txtOk l) : AFunP Tryd.prog 78 [termV l, .int .i64 a] (· = .fi .i64 ((parts l a).map Int.ofNat)) := by
  obtain ⟨z0, z1⟩ := hg a ha
  have hle := ends_le l a
  have kp := l12Args_ok (l.getD a (0, 0, [])).1 (l.getD a (0, 0, [])).2.1 (l.getD a (0, 0, [])).2.2 (hx a (by omega))
  have hz : partsZ (l.getD a (0, 0, [])).1 (l.getD a (0, 0, [])).2.1 (l.getD a (0, 0, [])).2.2 = (pn l a : Nat) := by unfold pn; unfold pz at z0 ⊢; omega
  rw [hz] at kp
  refine afun_of Tryd.func78 Tryd.call78 rfl Tryd.ntmps78 rfl ?_
  have W : Walk Tryd.prog TT 78 _ := Walk.of TT_ok Tryd.func78 Tryd.results78
  refine ce W 0 rfl rfl (kp) rfl ?_
  refine atl W rfl ?_
  refine go_nilT 5 (.ints 0 .i64 []) rfl rfl rfl rfl rfl ?_
  refine lp W 0 (σ := Nat × Int × Int × Nat × List Int) (fun s => [(2, .ptr 0 0 0 0), (5, .sl 1 s.2.2.2.1 0 s.1), (6, .int .i64 s.2.1), (7, .int .i64 s.2.2.1)]) (fun s => [.lst 0 [[.fz l.length (nodeR l)]], .ints s.2.2.2.1 .i64 s.2.2.2.2]) (fun s => pn l a - s.1)
    (fun s => s.1 ≤ pn l a ∧ s.2.2.1 = (pn l a : Int) - s.1 ∧ s.2.2.2.2.length = s.1 ∧ (s.1 < pn l a → s.2.1 = ((ends l a).getD ((ends l a).length - 1 - s.1) 0 : Nat)) ∧ ∀ j, j < s.1 → s.2.2.2.2.getD j 0 = ((ends l a).getD ((ends l a).length - 1 - j) 0 : Nat)) (0, (a : Int) - 1, (pn l a : Int), 0, []) [2, 5, 6, 7] rfl rfl rfl ⟨Nat.zero_le _, by dsimp only; omega, rfl, ?_, fun j hj => by omega⟩ ?_
  · intro h
    dsimp only at h ⊢
    obtain ⟨b, rfl⟩ : ∃ b, a = b + 1 := ⟨a - 1, by omega⟩
    have := ends_last (l := l) (i := b)
    rw [Nat.sub_zero, this]; omega
  rintro ⟨j, ev, kv, g, B⟩ ⟨hj, hk, hB, hev, hb⟩ ih
  dsimp only at hj hk hB hev hb ih ⊢
  refine sp W 0 rfl rfl rfl (fun h1 => ?_) (fun h1 => ?_)
  · have hjp : j < pn l a := by omega
    obtain rfl := hev hjp
    have he := ends_getD_lt (l := l) (i := a) (k := (ends l a).length - 1 - j) (by omega)
    have ks := start_ok l n ((ends l a).getD ((ends l a).length - 1 - j) 0) hg (by omega) hl hn hx
    have nb : j + 1 < pn l a → ((st l ((ends l a).getD ((ends l a).length - 1 - j) 0) : Nat) : Int) - 1 = ((ends l a).getD ((ends l a).length - 1 - (j + 1)) 0 : Nat) := fun h => by
      have := ends_nb hg (show a ≤ n by omega) ((ends l a).length - 1 - (j + 1)) (by omega)
      rw [show (ends l a).length - 1 - (j + 1) + 1 = (ends l a).length - 1 - j by omega] at this
      omega
    have hst : st l ((ends l a).getD ((ends l a).length - 1 - j) 0) ≤ 1048576 := by
      have := st_le l ((ends l a).getD ((ends l a).length - 1 - j) 0)
      omega
    generalize he0 : (ends l a).getD ((ends l a).length - 1 - j) 0 = e at *
    refine ce W 0 rfl rfl (ks) rfl ?_
    refine bd W 0 2 [2, 5, 6, 7] rfl rfl rfl rfl rfl (ih (j + 1, ((st l e : Nat) : Int) - 1, kv - 1, g + 1, B ++ [(e : Int)]) ⟨by dsimp only; omega, by dsimp only; omega, by dsimp only; simp; omega, fun h => nb h, fun i hi => ?_⟩ (by dsimp only; omega))
    dsimp only at hi ⊢
    rw [snoc_getD hB hi]
    split
    · exact hb i (by omega)
    · rw [show i = j by omega, he0]
  · have hjp : j = pn l a := by omega
    subst hjp
    refine atl W rfl ?_
    refine go_nilT 8 (.ints 0 .i64 []) rfl rfl rfl rfl rfl ?_
    refine lp W 0 (σ := Nat × Int × Nat × List Int) (fun s => [(5, .sl 1 g 0 (pn l a)), (8, .sl 2 s.2.2.1 0 s.1), (9, .int .i64 s.2.1)]) (fun s => [.lst 0 [[.fz l.length (nodeR l)]], .ints g .i64 B, .ints s.2.2.1 .i64 s.2.2.2]) (fun s => pn l a - s.1)
      (fun s => s.1 ≤ pn l a ∧ s.2.1 = (pn l a : Int) - 1 - s.1 ∧ s.2.2.2.length = s.1 ∧ ∀ j, j < s.1 → s.2.2.2.getD j 0 = B.getD (pn l a - 1 - j) 0) (0, (pn l a : Int) - 1, 0, []) [5, 8, 9] rfl rfl rfl ⟨Nat.zero_le _, by dsimp only; omega, rfl, fun j hj => by omega⟩ ?_
    rintro ⟨t, iv, g2, O⟩ ⟨ht, hiv, hO, ho⟩ ih2
    dsimp only at ht hiv hO ho ih2 ⊢
    refine sp W 0 rfl rfl rfl (fun h2 => ?_) (fun h2 => ?_)
    · refine bd W 0 3 [5, 8, 9] rfl rfl rfl rfl rfl (ih2 (t + 1, iv - 1, g2 + 1, O ++ [B.getD (addN 0 iv.toNat) 0]) ⟨by dsimp only; omega, by dsimp only; omega, by dsimp only; simp; omega, fun i hi => ?_⟩ (by dsimp only; omega))
      dsimp only at hi ⊢
      rw [snoc_getD hO hi]
      split
      · exact ho i (by omega)
      · rw [show addN 0 iv.toNat = iv.toNat by simp [addN], show iv.toNat = pn l a - 1 - t by omega, show i = t by omega]
    · have htp : t = pn l a := by omega
      subst htp
      have hfin : O = (parts l a).map Int.ofNat := by
        have hpl : (parts l a).length = pn l a := by unfold parts; rw [List.length_drop]; omega
        refine List.ext_getElem (by rw [List.length_map, hpl, hO]) fun i h3 h4 => ?_
        have h5 := ho i (by omega)
        have h6 := hb (pn l a - 1 - i) (by omega)
        rw [h6] at h5
        rw [List.getD_eq_getElem?_getD, List.getElem?_eq_getElem h3] at h5
        simp only [Option.getD_some] at h5
        rw [h5, List.getElem_map]
        unfold parts
        rw [List.getElem_drop, List.getD_eq_getElem?_getD, List.getElem?_eq_getElem (by omega)]
        simp only [Option.getD_some]
        show ((_ : Nat) : Int) = ((_ : Nat) : Int)
        congr 2
        omega
      refine rp W 0 rfl rfl rfl (.fi hfin)
end Pf
/- The model's l12Deep -/
namespace Pf
open Go Go.Proofs
/-- How deep the parts on the stack are. -/
theorem deep_rng (l : List Nd) (i : Nat) : 1 ≤ deep l i ∧ deep l i ≤ i + 1 := by
  induction i using Nat.strongRecOn with
  | ind i ih =>
    rw [deep_eq]
    have : ∀ (L : List Nat) (m : Int), (∀ x ∈ L, x < i) → 0 ≤ m → m ≤ i → 0 ≤ L.foldl (fun m x => max m (deep l x)) m ∧ L.foldl (fun m x => max m (deep l x)) m ≤ i := by
      intro L
      induction L with
      | nil => intro m _ h1 h2; exact ⟨h1, h2⟩
      | cons x L ihL =>
        intro m hL h1 h2
        have hx := ih x (hL x (List.mem_cons_self ..))
        have hxi := hL x (List.mem_cons_self ..)
        simp only [List.foldl_cons]
        exact ihL _ (fun y hy => hL y (List.mem_cons_of_mem _ hy)) (by omega) (by omega)
    have := this ((ends l i).drop ((ends l i).length - pn l i)) 0 (fun x hx => ends_lt (List.mem_of_mem_drop hx)) (by omega) (by omega)
    omega
theorem deep_map (l : List Nd) (i : Nat) : deep l i = ((parts l i).map (deep l)).foldl (fun m x => max m x) 0 + 1 := by
  rw [deep_eq, List.foldl_map]; rfl
/-- The depth of the part that ends at a place. -/
theorem l12Deep_ok (l : List Nd) (n : Nat) (hg : good l n) (hl : l.length ≤ 1048576) (hn : n ≤ l.length) (hx : txtOk l) : ∀ a, a < n → AFunP Tryd.prog 42 [termV l, .int .i64 (a : Nat)] (· = .int .i64 (deep l a)) := by
  intro a
  induction a using Nat.strongRecOn with
  | ind a ih =>
  intro ha
  have kp := parts_spec l n a hg ha hl hn hx
  have hpl : (parts l a).length ≤ a := by unfold parts; rw [List.length_drop]; have := ends_le l a; omega
  have hpm : ∀ x ∈ parts l a, x < a := fun x h => ends_lt (List.mem_of_mem_drop h)
  refine afun_of Tryd.func42 Tryd.call42 rfl Tryd.ntmps42 rfl ?_
  have W : Walk Tryd.prog TT 42 _ := Walk.of TT_ok Tryd.func42 Tryd.results42
  refine ce W 0 rfl rfl (kp) rfl ?_
  refine lp W 0 (σ := Nat × Int) (fun s => [(2, .ptr 0 0 0 0), (5, .fi .i64 ((parts l a).map Int.ofNat)), (6, .int .i64 s.2), (7, .int .i64 s.1)]) (fun _ => [.lst 0 [[.fz l.length (nodeR l)]]]) (fun s => (parts l a).length - s.1) (fun s => s.1 ≤ (parts l a).length ∧ (0 ≤ s.2 ∧ s.2 ≤ a) ∧ s.2 = (((parts l a).map (deep l)).take s.1).foldl (fun m x => max m x) 0) (0, 0) [2, 5, 6, 7] rfl rfl rfl ⟨Nat.zero_le _, ⟨by dsimp only; omega, by dsimp only; omega⟩, rfl⟩ ?_
  rintro ⟨i, m⟩ ⟨hi, hm, he⟩ ih2
  dsimp only at hi hm he ih2 ⊢
  refine sp W 0 rfl rfl rfl (fun h1 => ?_) (fun h1 => ?_)
  · have h1 : i < (parts l a).length := by rw [List.length_map] at h1; omega
    have hp := hpm _ (getD_mem (d := 0) h1)
    have ep : ((parts l a).map Int.ofNat).getD (i : Int).toNat 0 = (((parts l a).getD i 0 : Nat) : Int) := by
      rw [Int.toNat_natCast]; simp [List.getD_eq_getElem?_getD, h1]
    have kd := ih ((parts l a).getD i 0) hp (by omega)
    rw [← ep] at kd
    have dr := deep_rng l ((parts l a).getD i 0)
    have et : ((parts l a).map (deep l)).take (i + 1) = ((parts l a).map (deep l)).take i ++ [deep l ((parts l a).getD i 0)] := by
      rw [← List.take_append_getElem (by rw [List.length_map]; exact h1)]; simp [List.getD_eq_getElem?_getD, h1]
    have hf : max m (deep l ((parts l a).getD i 0)) = (((parts l a).map (deep l)).take (i + 1)).foldl (fun m x => max m x) 0 := by
      rw [et, List.foldl_append, ← he]; rfl
    generalize deep l ((parts l a).getD i 0) = d at *
    refine dre W 0 5 [] [] rfl rfl rfl trivial rfl ?_
    refine ce W 0 rfl rfl (kd) rfl ?_
    refine sp W 0 rfl rfl rfl (fun h2 => ?_) (fun h2 => ?_)
    · rw [Int.max_eq_right (by omega)] at hf
      refine bd W 0 1 [2, 5, 6, 7] rfl rfl rfl rfl rfl (ih2 (i + 1, d) ⟨by dsimp only; omega, ⟨by dsimp only; omega, by dsimp only; omega⟩, hf⟩ (by dsimp only; omega))
    · rw [Int.max_eq_left (by omega)] at hf
      refine bd W 0 1 [2, 5, 6, 7] rfl rfl rfl rfl rfl (ih2 (i + 1, m) ⟨by dsimp only; omega, ⟨by dsimp only; omega, by dsimp only; omega⟩, hf⟩ (by dsimp only; omega))
  · have e : ((parts l a).map (deep l)).take i = (parts l a).map (deep l) := List.take_of_length_le (by rw [List.length_map] at h1 ⊢; omega)
    rw [e] at he
    refine rp W 0 rfl rfl rfl (.int (by rw [deep_map, he]))
end Pf
/- Of a block of whole numbers, the tail is forgotten. -/
namespace Pf
open Go
variable {P : Program} {TT : TypeId → Option TI} {f N n0 : Nat} {k : List Item} {T : Env} {H : AHeap} {R : AV → AHeap → Prop} {nf : Nat} {ops : Array Oper} {past op pend : List Nat} {vs : List (Option Nat × AV)}

theorem shr_back {b m g : Nat} {kk : IntKind} {l : List Int} {H2 : AHeap} (e1 : nthM H b = some (.ints g kk l)) (e2 : setM (.ints g kk (l.take m)) H b = some H2) :
    H2.length = H.length ∧ ∀ b' blk', H2[b']? = some blk' → (b' = b ∧ blk' = .ints g kk (l.take m)) ∨ H[b']? = some blk' := by
  rw [nthM_eq] at e1
  rw [setM_eq] at e2
  split at e2
  · simp only [Option.some.injEq] at e2
    subst e2
    refine ⟨by simp, fun b' blk' h => ?_⟩
    rw [List.getElem?_set] at h
    split at h
    · rename_i hb
      subst hb
      simp only [Option.some.injEq] at h
      exact .inl ⟨rfl, h.symm⟩
    · exact .inr h
  · cases e2
theorem shr_view {b m g : Nat} {kk : IntKind} {l : List Int} {H2 : AHeap} (e1 : nthM H b = some (.ints g kk l)) (e2 : setM (.ints g kk (l.take m)) H b = some H2) {b' g' n' : Nat} {blk' : ABlk} {row' : Nat → List AV}
    (h1 : H2[b']? = some blk') (h2 : blk'.view = some (g', n', row')) : ∃ blk n row, H[b']? = some blk ∧ blk.view = some (g', n, row) ∧ blk'.width = blk.width := by
  rcases (shr_back e1 e2).2 b' blk' h1 with ⟨rfl, rfl⟩ | h
  · rw [nthM_eq] at e1
    simp only [ABlk.view, Option.some.injEq, Prod.mk.injEq] at h2
    obtain ⟨rfl, _, _⟩ := h2
    exact ⟨_, _, _, e1, rfl, rfl⟩
  · exact ⟨_, _, _, h, h2, rfl⟩
theorem shr_img {b m g : Nat} {kk : IntKind} {l : List Int} {H2 : AHeap} {β : BMap} (e1 : nthM H b = some (.ints g kk l)) (e2 : setM (.ints g kk (l.take m)) H b = some H2) {cb : Nat} (h : Img β H2 cb) : Img β H cb := by
  obtain ⟨b', blk', g', n', row', L, h1, h2, h3, h4⟩ := h
  rcases (shr_back e1 e2).2 b' blk' h1 with ⟨rfl, rfl⟩ | h
  · rw [nthM_eq] at e1
    cases h2
    exact ⟨_, _, _, _, _, L, e1, rfl, h3, h4⟩
  · exact ⟨b', blk', g', n', row', L, h, h2, h3, h4⟩
theorem RelH.shr {FM : FMem} {β : BMap} {w : World} (hh : RelH FM β H w) {b m g : Nat} {kk : IntKind} {l : List Int} {H2 : AHeap} (e1 : nthM H b = some (.ints g kk l)) (e2 : setM (.ints g kk (l.take m)) H b = some H2)
    {off len : Nat} {cv : Value} (hv : VR FM β (.sl b g off len) cv) (ho : off ≤ m) : RelH FM β H2 w where
  mem b' blk' g' n' row' h1 h2 := by
    rcases (shr_back e1 e2).2 b' blk' h1 with ⟨rfl, rfl⟩ | h
    · rw [nthM_eq] at e1
      simp only [ABlk.view, Option.some.injEq, Prod.mk.injEq] at h2
      obtain ⟨rfl, rfl, rfl⟩ := h2
      obtain ⟨lo, q1, q2⟩ := hh.mem _ _ _ _ _ e1 rfl
      refine ⟨lo, q1, ?_⟩
      cases lo with
      | none =>
        have : l.length = 0 := q2
        have hl : l = [] := List.length_eq_zero_iff.1 this
        subst hl
        simp [MemAt]
      | some L =>
        have hs : L.sh ≤ off := by
          cases hv with
          | sl h hs hr hc hp => rw [q1] at h; cases h; exact hs
          | sl0 h hs => rw [q1] at h; cases h; exact hs _ rfl
        obtain ⟨z1, z2, z3, ⟨c, el, fr, y1, y2, y3, y4, y5⟩, z5⟩ := q2
        refine ⟨z1, by rw [List.length_take]; omega, by rw [List.length_take]; omega, ⟨c, el, fr, y1, y2, y3, y4, fun r r1 r2 => ?_⟩, z5⟩
        rw [List.length_take] at r2
        have := y5 r r1 (by omega)
        rw [show (l.take m).getD r 0 = l.getD r 0 by simp [List.getD_eq_getElem?_getD, List.getElem?_take, show r < m by omega]]
        exact this
    · exact hh.mem _ _ _ _ _ h h2
  inj b1 b2 blk1 blk2 g1 g2 n1 n2 row1 row2 L1 L2 h1 h2 h3 h4 h5 h6 h7 := by
    obtain ⟨c1, d1, f1, p1, p2, _⟩ := shr_view e1 e2 h1 h2
    obtain ⟨c2, d2, f2, q1, q2, _⟩ := shr_view e1 e2 h4 h5
    exact hh.inj _ _ _ _ _ _ _ _ _ _ _ _ p1 p2 h3 q1 q2 h6 h7
  wid b1 blk1 g1 n1 row1 L h1 h2 h3 := by
    obtain ⟨c1, d1, f1, p1, p2, p3⟩ := shr_view e1 e2 h1 h2
    rw [p3]
    exact hh.wid _ _ _ _ _ _ p1 p2 h3
  fm := hh.fm
  dom b1 g1 lo h := by
    obtain ⟨q1, q2⟩ := hh.dom b1 g1 lo h
    refine ⟨by rw [(shr_back e1 e2).1]; exact q1, fun blk' g' n' row' h1 h2 => ?_⟩
    obtain ⟨c1, d1, f1, p1, p2, _⟩ := shr_view e1 e2 h1 h2
    exact q2 _ _ _ _ p1 p2
  gk := hh.gk
  mp := hh.mp.keep (fun _ _ _ h => h) (fun b' vb sh es h => by
    rcases (shr_back e1 e2).2 b' _ h with ⟨_, h⟩ | h
    · cases h
    · exact h) fun _ _ _ h => h
theorem Ext.shr {FM : FMem} {β : BMap} {w : World} {b m g : Nat} {kk : IntKind} {l : List Int} {H2 : AHeap} (e1 : nthM H b = some (.ints g kk l)) (e2 : setM (.ints g kk (l.take m)) H b = some H2) : Ext FM β H w FM β H2 w where
  fm _ _ _ h := h
  bm _ _ _ h := h
  size := Nat.le_refl _
  img cb _ h := shr_img e1 e2 h
  frame _ _ _ := rfl
  fmn _ _ _ h := .inl h
  len := by rw [(shr_back e1 e2).1]; exact Nat.le_refl _
  os := rfl
  output := rfl
  tape := rfl
/-- The block 'b' is cut behind 'm' (the slot 'd' holds a piece that begins at or ahead of 'm'). -/
theorem go_cut (b m d : Nat) {g : Nat} {kk : IntKind} {l : List Int} {H2 : AHeap} {off len : Nat} (e1 : nthM H b = some (.ints g kk l)) (e2 : setM (.ints g kk (l.take m)) H b = some H2) (e3 : getM T d = some (.sl b g off len))
    (ho : off ≤ m) (h : AGo P f N n0 k T H2 R) : AGo P f N n0 k T H R := by
  intro FM β b cs a w a1 a2 a3 a4 hT hH hn0
  exact Ext.go (Ext.shr e1 e2) hn0 (h FM β b cs a w a1 a2 a3 a4 hT (hH.shr e1 e2 (hT d _ e3) ho)) (b := b) (.refl _ _)
/-- The same within a region. -/
theorem phc (b m d : Nat) {g : Nat} {kk : IntKind} {l : List Int} {H2 : AHeap} {off len : Nat} (W : PW P TT N ops nf) (e1 : nthM H b = some (.ints g kk l)) (e2 : setM (.ints g kk (l.take m)) H b = some H2) (e3 : getM T d = some (.sl b g off len))
    (e4 : hasD d vs = false) (ho : off ≤ m) (h : Ph1 P f N n0 nf ops k T R past pend op vs H2) : Ph1 P f N n0 nf ops k T R past pend op vs H := by
  intro hv
  have hd : distD vs = true := by
    rw [distD_fst hv]
    have hst := W.st
    simp only [stM, Bool.and_eq_true] at hst
    exact hst.1.2
  intro l' done p1 p2 p3 p4 p5 p6
  refine go_cut b m d (off := off) (len := len) e1 e2 ?_ ho (h hv l' done p1 p2 p3 p4 p5 p6)
  rcases TS_get (S := done) (d := d) (T := T) hd with ⟨j, hj, q1, q2, q3⟩ | ⟨q1, q2⟩
  · have := hasD_iff.2 ⟨j, hj, q1⟩
    rw [e4] at this; cases this
  · rw [q2]; exact e3
end Pf
/- TermDepth: the closure on the stack; fold -/
namespace Pf
open Go Go.Proofs
theorem maxM_ok (x : Nd) (S : List Int) (off len : Nat) (h : off + len ≤ S.length) (hS : S.length ≤ 1048576) (hm : ∀ d ∈ S, 0 ≤ d ∧ d ≤ 1048576) : AFunM Tryd.prog 44 [nodeV x, .sl 0 0 off len] [.ints 0 .i64 S] (fun u blks => u = .int .i64 (((S.drop off).take len).foldl (fun m x => max m x) 0 + 1) ∧ blks = [.ints 0 .i64 S]) := by
  unfold nodeV
  refine afun_of Tryd.func44 Tryd.call44 rfl Tryd.ntmps44 rfl ?_
  have W : Walk Tryd.prog TT 44 _ := Walk.of TT_ok Tryd.func44 Tryd.results44
  refine lp W 0 (σ := Nat × Int) (fun s => [(5, .int .i64 s.2), (8, .sl 0 0 off len), (9, .int .i64 len), (10, .int .i64 s.1)]) (fun _ => [.ints 0 .i64 S, .lst 0 [[.int .i64 x.1, .int .i64 x.2.1, .str x.2.2]]]) (fun s => len - s.1) (fun s => s.1 ≤ len ∧ (0 ≤ s.2 ∧ s.2 ≤ 1048576) ∧ s.2 = (((S.drop off).take len).take s.1).foldl (fun m x => max m x) 0) (0, 0) [5, 8, 9, 10] rfl rfl rfl ⟨Nat.zero_le _, ⟨by dsimp only; omega, by dsimp only; omega⟩, rfl⟩ ?_
  rintro ⟨i, m⟩ ⟨hi, hm0, he⟩ ih
  dsimp only at hi hm0 he ih ⊢
  refine sp W 0 rfl rfl rfl (fun h1 => ?_) (fun h1 => ?_)
  · have h1 : i < len := by omega
    have hmi := hm (S.getD (off + i) 0) (getD_mem (by omega))
    have et : ((S.drop off).take len).take (i + 1) = ((S.drop off).take len).take i ++ [S.getD (off + i) 0] := by
      rw [← List.take_append_getElem (by rw [List.length_take, List.length_drop]; omega)]
      simp [List.getD_eq_getElem?_getD, show off + i < S.length by omega]
    have ea : addN off (i : Int).toNat = off + i := by rw [Int.toNat_natCast]; cases off <;> simp [addN]
    have ea2 := ea
    simp only [addN, Int.toNat_natCast] at ea2
    refine bd W 0 2 [5, 8, 9, 10] rfl rfl rfl rfl rfl (ih (i + 1, max m (S.getD (addN off (i : Int).toNat) 0)) ⟨by dsimp only; omega, ⟨by dsimp only; rw [ea]; omega, by dsimp only; rw [ea]; omega⟩, ?_⟩ (by dsimp only; omega))
    dsimp only
    rw [et, List.foldl_append, ← he, ea]
    rfl
  · have e : ((S.drop off).take len).take i = (S.drop off).take len := List.take_of_length_le (by rw [List.length_take, List.length_drop]; omega)
    rw [e] at he
    refine rm W 0 [.ints 0 .i64 S] rfl rfl rfl ⟨rfl, trivial⟩ rfl rfl (.int .i64 (m + 1)) rfl (.refl) (⟨by rw [he], rfl⟩)
theorem fold_ok (l : List Nd) (hd : dep l l.length = some 1) (h100 : l.length ≤ 100) (hx : txtOk l) : AFunP Tryd.prog 43 [termV l, .fn 44 [] []] (· = .int .i64 (deep l (l.length - 1))) := by
  obtain ⟨e1, hg⟩ := dep_ends hd
  refine afun_of Tryd.func43 Tryd.call43 rfl Tryd.ntmps43 rfl ?_
  have W : Walk Tryd.prog TT 43 _ := Walk.of TT_ok Tryd.func43 Tryd.results43
  refine atl W rfl ?_
  refine go_nilT 5 (.ints 0 .i64 []) rfl rfl rfl rfl rfl ?_
  refine lp W 0 (σ := Nat × Nat × Nat × List Int) (fun s => [(1, .fn 44 [] []), (2, .ptr 0 0 0 0), (5, .sl 1 s.2.1 0 s.2.2.1), (10, .fz l.length (nodeR l)), (11, .int .i64 l.length), (12, .int .i64 s.1)]) (fun s => [.lst 0 [[.fz l.length (nodeR l)]], .ints s.2.1 .i64 s.2.2.2]) (fun s => l.length - s.1)
    (fun s => s.1 ≤ l.length ∧ s.2.2.1 = s.2.2.2.length ∧ s.2.2.2 = (ends l s.1).map (deep l)) (0, 0, 0, []) [1, 2, 5, 10, 11, 12] rfl rfl rfl ⟨Nat.zero_le _, rfl, rfl⟩ ?_
  rintro ⟨i, g, n, S⟩ ⟨hi, hn, hS⟩ ih
  dsimp only at hi hn hS ih ⊢
  subst hn
  refine sp W 0 rfl rfl rfl (fun h1 => ?_) (fun h1 => ?_)
  · have h1 : i < l.length := by omega
    obtain ⟨z0, z1⟩ := hg i h1
    have hle := ends_le l i
    have kp := parts_ok (l.getD i (0, 0, [])).1 (l.getD i (0, 0, [])).2.1 (l.getD i (0, 0, [])).2.2 (hx i h1)
    have hz : partsZ (l.getD i (0, 0, [])).1 (l.getD i (0, 0, [])).2.1 (l.getD i (0, 0, [])).2.2 = (pn l i : Nat) := by unfold pn; unfold pz at z0 ⊢; omega
    rw [hz] at kp
    refine ce W 0 rfl rfl (kp) rfl ?_
    have hSl : S.length = (ends l i).length := by rw [hS, List.length_map]
    have ea : addN 0 ((S.length : Int) - (pn l i : Nat)).toNat = S.length - pn l i := by simp only [addN]; omega
    have ea2 : ((S.length : Int) - (pn l i : Nat)).toNat = S.length - pn l i := by omega
    have hv : List.foldl (fun m x => max m x) 0 (List.take (S.length - ((S.length : Int) - (pn l i : Nat)).toNat) (List.drop (addN 0 ((S.length : Int) - (pn l i : Nat)).toNat) S)) + 1 = deep l i := by
      rw [ea, ea2, deep_map, List.take_of_length_le (by rw [List.length_drop]; omega), hSl, hS, ← List.map_drop]
      rfl
    refine phg W 0 10 [8, 9] rfl rfl (fun PW => ?_)
    refine phm PW 0 8 [(1, g)] [] [] rfl rfl trivial rfl (maxM_ok (l.getD i (0, 0, [])) S (addN 0 ((S.length : Int) - (pn l i : Nat)).toNat) (S.length - ((S.length : Int) - (pn l i : Nat)).toNat) ?_ ?_ ?_) ⟨rfl, trivial⟩ rfl (by unfold nodeV; simp [renL, ren, idxM, clo, cloL]; rfl) rfl ?_
    · rw [ea, ea2]; omega
    · omega
    · intro d hdm
      rw [hS] at hdm
      obtain ⟨x, hx1, rfl⟩ := List.mem_map.1 hdm
      have h3 := ends_lt hx1
      have h4 := deep_rng l x
      omega
    rintro _ _ ⟨rfl, rfl⟩
    rw [hv]
    refine ⟨_, _, rfl, rfl, ?_⟩
    refine phc 1 ((S.length : Int) - (pn l i : Nat)).toNat 5 PW rfl rfl rfl rfl (Nat.zero_le _) ?_
    refine pho PW 0 9 [] [] rfl rfl trivial rfl rfl ?_
    refine phe PW 0 [] [] rfl trivial rfl ?_
    refine bd W 0 2 [1, 2, 5, 10, 11, 12] rfl rfl rfl rfl rfl (ih (i + 1, g + 1, ((S.length : Int) - (pn l i : Nat)).toNat + [deep l i].length, List.take ((S.length : Int) - (pn l i : Nat)).toNat S ++ [deep l i]) ⟨by dsimp only; omega, by dsimp only; rw [List.length_append, List.length_take]; omega, ?_⟩ (by dsimp only; omega))
    · dsimp only
      rw [ea2, ends_succ, List.map_append, List.map_take, ← hS, hSl]
      rfl
  · have hil : i = l.length := by omega
    subst hil
    have hpos : 1 ≤ l.length := by
      rcases (by omega : l.length = 0 ∨ 1 ≤ l.length) with h | h
      · rw [h] at hd; simp [dep] at hd
      · exact h
    have hS1 : S.length = 1 := by rw [hS, List.length_map]; omega
    have e0 : S.getD (addN 0 (0 : Int).toNat) 0 = deep l (l.length - 1) := by
      obtain ⟨b, hb⟩ : ∃ b, l.length = b + 1 := ⟨l.length - 1, by omega⟩
      have h2 := ends_last (l := l) (i := b)
      rw [← hb, show (ends l l.length).length - 1 = 0 by omega] at h2
      rw [show addN 0 (0 : Int).toNat = 0 by simp [addN], hS, show l.length - 1 = b by omega, ← h2]
      have h3 : 0 < (ends l l.length).length := by omega
      simp [List.getD_eq_getElem?_getD, h3]
    refine rp W 0 rfl rfl rfl (.int e0)
end Pf
/- TermDepth: both sides and the law -/
namespace Pf
open Go Go.Proofs
/-- The depth of a term; nought, if it is not ok. -/
noncomputable def depthZ (l : List Nd) : Int := by classical exact if termP l then deep l (l.length - 1) else 0
theorem termP_len {l : List Nd} (h : termP l) : 1 ≤ l.length := by
  rcases Nat.eq_zero_or_pos l.length with h0 | h0
  · have := h.2; rw [h0] at this; simp [dep] at this
  · exact h0
theorem specTermDepth_ok (l : List Nd) (hx : txtOk l) (hl : l.length ≤ 1048576) : AFunP Tryd.prog 14 [termV l] (· = .int .i64 (depthZ l)) := by
  refine afun_of Tryd.func14 Tryd.call14 rfl Tryd.ntmps14 rfl ?_
  have W : Walk Tryd.prog TT 14 _ := Walk.of TT_ok Tryd.func14 Tryd.results14
  refine ce W 0 rfl rfl (specTermOk_ok l hx hl) rfl ?_
  refine sp W 0 rfl rfl rfl (fun h1 => ?_) (fun h1 => ?_)
  · have e : depthZ l = 0 := by unfold depthZ; exact if_neg h1
    refine rp W 0 rfl rfl rfl (.int e.symm)
  · have h1 : termP l := Classical.not_not.1 h1
    have hpos := termP_len h1
    have hg := (dep_ends h1.2).2
    have e : depthZ l = deep l (l.length - 1) := by unfold depthZ; exact if_pos h1
    have k := l12Deep_ok l l.length hg hl (Nat.le_refl _) hx (l.length - 1) (by omega)
    rw [show ((l.length - 1 : Nat) : Int) = (l.length : Int) - 1 by omega] at k
    refine ce W 0 rfl rfl (k) rfl ?_
    refine rp W 0 rfl rfl rfl (.int e.symm)
theorem implTermDepth_ok (l : List Nd) (hx : txtOk l) (hl : l.length ≤ 1048576) : AFunP Tryd.prog 15 [termV l] (· = .int .i64 (depthZ l)) := by
  refine afun_of Tryd.func15 Tryd.call15 rfl Tryd.ntmps15 rfl ?_
  have W : Walk Tryd.prog TT 15 _ := Walk.of TT_ok Tryd.func15 Tryd.results15
  refine ce W 0 rfl rfl (implTermOk_ok l hx hl) rfl ?_
  refine sp W 0 rfl rfl rfl (fun h1 => ?_) (fun h1 => ?_)
  · have e : depthZ l = 0 := by unfold depthZ; exact if_neg h1
    refine rp W 0 rfl rfl rfl (.int e.symm)
  · have h1 : termP l := Classical.not_not.1 h1
    have e : depthZ l = deep l (l.length - 1) := by unfold depthZ; exact if_pos h1
    refine ce W 0 rfl rfl (fold_ok l h1.2 h1.1 hx) rfl ?_
    refine rp W 0 rfl rfl rfl (.int e.symm)
theorem fnTermDepth_law (l : List Nd) (hm : l.length ≤ 9223372036854775807) (hx : ∀ i, i < l.length → (l.getD i (0, 0, [])).2.2.length ≤ 9223372036854775807) : AFunP Tryd.prog 4 [termV l] (· = .pr True) := by
  refine afun_of Tryd.func4 Tryd.call4 rfl Tryd.ntmps4 rfl ?_
  have W : Walk Tryd.prog TT 4 _ := Walk.of TT_ok Tryd.func4 Tryd.results4
  refine cq W 0 rfl rfl (szTerm_ok l hm hx) ?_
  rintro _ ⟨n, rfl, hn⟩
  refine ⟨_, rfl, ?_⟩
  refine sp W 0 rfl rfl rfl (fun h1 => ?_) (fun h1 => ?_)
  · refine rp W 0 rfl rfl rfl (.yes trivial)
  obtain ⟨hl, ht⟩ := hn (by omega)
  have k1 := toTerm_ok l hl
  refine ce W 0 rfl rfl (k1) rfl ?_
  refine ce W 0 rfl rfl (specTermDepth_ok l ht hl) rfl ?_
  refine ce W 0 rfl rfl (k1) rfl ?_
  refine ce W 0 rfl rfl (implTermDepth_ok l ht hl) rfl ?_
  refine sp W 0 rfl rfl rfl (fun h2 => ?_) (fun h2 => ?_)
  · exact absurd rfl h2
  refine dre W 0 5 [] [termV l, .pr (l = l)] rfl rfl rfl ⟨k1.at rfl _, (eqTerm_ok l l hl hl).at rfl _, trivial⟩ rfl ?_
  refine sp W 0 rfl rfl rfl (fun h3 => ?_) (fun h3 => ?_)
  · exact absurd rfl h3
  · refine rp W 0 rfl rfl rfl (.yes trivial)
end Pf
/-
  DERIVED: strings.Join's contract laid at this dump, in plain words: written by the shelf's lay-shelf.mjs and lay-plain.mjs.
-/
namespace Go.Proofs
open Go.Shelf
def Tryd.lays156_ren : Go.Shelf.Ren := ⟨fun | 156 => 101 | 165 => 109 | 166 => 110 | 169 => 111 | 240 => 118 | 241 => 119 | 276 => 125 | 277 => 126 | n => n, fun | 31 => 49 | 9 => 9 | 3 => 3 | 4 => 4 | 0 => 0 | 20 => 20 | 72 => 133 | 76 => 137 | 70 => 131 | 37 => 118 | 75 => 136 | 127 => 143 | 164 => 146 | 5 => 5 | 80 => 100 | n => n, fun | n => n⟩
theorem Tryd.lays156 : Go.Proofs.Lays.n156 Tryd.prog Tryd.lays156_ren := {
  mixed := by kernel_rfl
  f156 := Tryd.func101.trans (congrArg some (by kernel_rfl))
  f165 := Tryd.func109.trans (congrArg some (by kernel_rfl))
  f166 := Tryd.func110.trans (congrArg some (by kernel_rfl))
  f169 := Tryd.func111.trans (congrArg some (by kernel_rfl))
  f240 := Tryd.func118.trans (congrArg some (by kernel_rfl))
  f241 := Tryd.func119.trans (congrArg some (by kernel_rfl))
  f276 := Tryd.func125.trans (congrArg some (by kernel_rfl))
  f277 := Tryd.func126.trans (congrArg some (by kernel_rfl))
  t0 := Tryd.underlying0
  a0 := Tryd.isAgg0
  z0 := Tryd.sizeOf0
  v0 := Tryd.zeroValue0
  t3 := Tryd.underlying3
  a3 := Tryd.isAgg3
  z3 := Tryd.sizeOf3
  v3 := Tryd.zeroValue3
  t4 := Tryd.underlying4
  a4 := Tryd.isAgg4
  z4 := Tryd.sizeOf4
  v4 := Tryd.zeroValue4
  t9 := Tryd.underlying9
  a9 := Tryd.isAgg9
  z9 := Tryd.sizeOf9
  v9 := Tryd.zeroValue9
  t20 := Tryd.underlying20
  a20 := Tryd.isAgg20
  z20 := Tryd.sizeOf20
  v20 := Tryd.zeroValue20
  t31 := Tryd.underlying49
  a31 := Tryd.isAgg49
  z31 := Tryd.sizeOf49
  v31 := Tryd.zeroValue49
  t37 := Tryd.underlying118
  a37 := Tryd.isAgg118
  z37 := Tryd.sizeOf118
  v37 := Tryd.zeroValue118
  t70 := Tryd.underlying131
  a70 := Tryd.isAgg131
  z70 := Tryd.sizeOf131
  v70 := Tryd.zeroValue131
  t72 := Tryd.underlying133
  a72 := Tryd.isAgg133
  z72 := Tryd.sizeOf133
  v72 := Tryd.zeroValue133
  t75 := Tryd.underlying136
  a75 := Tryd.isAgg136
  z75 := Tryd.sizeOf136
  v75 := Tryd.zeroValue136
  t76 := Tryd.underlying137
  a76 := Tryd.isAgg137
  z76 := Tryd.sizeOf137
  v76 := Tryd.zeroValue137
  t127 := Tryd.underlying143
  a127 := Tryd.isAgg143
  z127 := Tryd.sizeOf143
  v127 := Tryd.zeroValue143
  t164 := Tryd.underlying146
  a164 := Tryd.isAgg146
  z164 := Tryd.sizeOf146
  v164 := Tryd.zeroValue146 }
theorem Tryd.Builder_Extra_156 : Builder.Extra Tryd.prog Tryd.lays156_ren := {
  sizeBuilder := by kernel_rfl
  liesBuilder := by kernel_rfl
  t5 := Tryd.underlying5
  a5 := Tryd.isAgg5
  z5 := Tryd.sizeOf5
  v5 := Tryd.zeroValue5
  infoByte := by kernel_rfl
  cellsByte := by kernel_rfl
  sizeByte := by kernel_rfl
  neB5 := by decide }
open Go.RowKit in
/-- No element: the empty string; the world is as it was. (Whatever the slice's address and capacity: a nil slice too.) (LAID: no walk: one application.) -/
theorem Tryd.strings_Join_none (a : Option Addr) (c : Nat) (sep : ByteArray) (w : World) :
    Calls Tryd.prog 101 #[.slice a 0 c, .string sep] w fun e w' => e = .returned (.string ⟨#[]⟩) ∧ w' = w := Any.strings_Join_none Tryd.lays156 Tryd.Builder_Extra_156 a c sep w
open Go.RowKit in
/-- strings.Join: "Join concatenates the elements of its first argument to create a single string. The separator string sep is placed between elements in the resulting string.": HOWEVER MANY ELEMENTS. Below the heap's end the world is as it was. (LAID: no walk: one application.) -/
theorem Tryd.strings_Join (bk o c : Nat) (xs : List ByteArray) (sep : ByteArray) (w : World) (hcells : ∀ (j : Nat) x, xs[j]? = some x → w.cell? ⟨bk, o + j, none⟩ = some (.string x)) (hbk : bk < w.heap.size) (hN : xs.length ≤ 140737488355328) (hcap : xs.length ≤ c) (hlen : (Lib.join (xs.map (·.data.toList)) sep.data.toList).length ≤ 140737488355328) :
    Calls Tryd.prog 101 #[.slice (some ⟨bk, o, none⟩) xs.length c, .string sep] w fun e w' => e = .returned (.string ⟨(Lib.join (xs.map (·.data.toList)) sep.data.toList).toArray⟩) ∧ Below w.heap.size w w' := Any.strings_Join Tryd.lays156 Tryd.Builder_Extra_156 bk o c xs sep w hcells hbk hN hcap hlen
end Go.Proofs
/- Texts of terms, plain -/
namespace Pf
open Go Go.Proofs
/-- How tightly a node holds together. -/
def lvl (k : Int) : Int := if k = 4 ∨ k = 5 then 1 else if k = 6 ∨ k = 7 then 2 else if k = 3 then 3 else if k = 8 then 4 else 5
theorem lvl_rng (k : Int) : 1 ≤ lvl k ∧ lvl k ≤ 5 := by unfold lvl; repeat' split <;> omega
/-- A text, in brackets if it does not hold together tightly enough. -/
def brk (w : List UInt8 × Int) (n : Int) : List UInt8 := if w.2 < n then [40] ++ w.1 ++ [41] else w.1
def callT (name : List UInt8) (ps : List (List UInt8 × Int)) : List UInt8 := name ++ [40] ++ Lib.join (ps.map Prod.fst) [44, 32] ++ [41]
def w0 : List UInt8 × Int := ([], 0)
/-- A node's text, out of its parts'. -/
def wr (x : Nd) (ps : List (List UInt8 × Int)) : List UInt8 :=
  if x.1 = 3 then [45] ++ brk (ps.getD 0 w0) 3
  else if x.1 = 4 then brk (ps.getD 0 w0) 1 ++ [32, 43, 32] ++ brk (ps.getD 1 w0) 2
  else if x.1 = 5 then brk (ps.getD 0 w0) 1 ++ [32, 45, 32] ++ brk (ps.getD 1 w0) 2
  else if x.1 = 6 then brk (ps.getD 0 w0) 2 ++ [32, 42, 32] ++ brk (ps.getD 1 w0) 3
  else if x.1 = 7 then brk (ps.getD 0 w0) 2 ++ [32, 47, 32] ++ brk (ps.getD 1 w0) 3
  else if x.1 = 8 then brk (ps.getD 0 w0) 5 ++ [94] ++ [UInt8.ofNat (48 + x.2.1).toNat]
  else if x.1 = 9 then callT [115, 113, 114, 116] ps
  else if x.1 = 10 then callT [97, 98, 115] ps
  else if x.1 = 11 then callT [109, 105, 110] ps
  else if x.1 = 12 then callT [109, 97, 120] ps
  else if x.1 = 13 then callT x.2.2 ps
  else x.2.2
/-- The text of the part that ends at a place. -/
noncomputable def TX (l : List Nd) (i : Nat) : List UInt8 :=
  wr (l.getD i (0, 0, [])) (((ends l i).drop ((ends l i).length - pn l i)).attach.map fun x => (TX l x.1, lvl (l.getD x.1 (0, 0, [])).1))
termination_by i
decreasing_by exact ends_lt (List.mem_of_mem_drop x.2)
/-- A part's text and how tightly it holds together. -/
noncomputable def tw (l : List Nd) (p : Nat) : List UInt8 × Int := (TX l p, lvl (l.getD p (0, 0, [])).1)
theorem TX_eq (l : List Nd) (i : Nat) : TX l i = wr (l.getD i (0, 0, [])) ((parts l i).map (tw l)) := by
  rw [TX]
  congr 1
  have e : (((ends l i).drop ((ends l i).length - pn l i)).attach.map fun x => (TX l x.1, lvl (l.getD x.1 (0, 0, [])).1)) = (((ends l i).drop ((ends l i).length - pn l i)).attach.map Subtype.val).map (tw l) := by
    rw [List.map_map]; rfl
  rw [e, List.attach_map_subtype_val]
  rfl
/-! ### How long texts are -/
def sumL (ps : List (List UInt8 × Int)) : Nat := (ps.map fun p => p.1.length).sum
theorem brk_len (w : List UInt8 × Int) (n : Int) : (brk w n).length ≤ w.1.length + 2 := by
  unfold brk; split <;> simp <;> omega
theorem sumL_two (ps : List (List UInt8 × Int)) : (ps.getD 0 w0).1.length + (ps.getD 1 w0).1.length ≤ sumL ps := by
  match ps with
  | [] => simp [w0]
  | [a] => simp [w0, sumL]
  | a :: b :: r => simp only [List.getD_cons_zero, List.getD_cons_succ, sumL, List.map_cons, List.sum_cons]; omega
theorem lens_eq : ∀ (ps : List (List UInt8 × Int)), Lib.lens (ps.map Prod.fst) = sumL ps
  | [] => rfl
  | p :: ps => by
    have ih := lens_eq ps
    have e : sumL (p :: ps) = p.1.length + sumL ps := by simp [sumL]
    rw [e, ← ih]
    rfl
theorem callT_len (name : List UInt8) (ps : List (List UInt8 × Int)) (h : ps.length ≤ 6) : (callT name ps).length ≤ name.length + sumL ps + 14 := by
  unfold callT
  have hj : (Lib.join (ps.map Prod.fst) [44, 32]).length ≤ sumL ps + 12 := by
    cases ps with
    | nil => simp [Lib.join_nil]
    | cons p ps =>
      have e := lens_eq (p :: ps)
      rw [List.map_cons] at e ⊢
      rw [Lib.join_length, e]
      simp at h ⊢
      omega
  simp only [List.length_append, List.length_cons, List.length_nil]
  omega
theorem wr_len (x : Nd) (ps : List (List UInt8 × Int)) (h : ps.length ≤ 6) : (wr x ps).length ≤ x.2.2.length + sumL ps + 30 := by
  have h2 := sumL_two ps
  have b0 := fun n => brk_len (ps.getD 0 w0) n
  have b1 := fun n => brk_len (ps.getD 1 w0) n
  have c := fun name => callT_len name ps h
  have c1 := c [115, 113, 114, 116]
  have c2 := c [97, 98, 115]
  have c3 := c [109, 105, 110]
  have c4 := c [109, 97, 120]
  have c5 := c x.2.2
  simp only [List.length_cons, List.length_nil] at c1 c2 c3 c4
  have d1 := b0 3; have d2 := b0 1; have d3 := b0 2; have d4 := b0 5; have d5 := b1 2; have d6 := b1 3
  unfold wr
  repeat' split
  all_goals (try simp only [List.length_append, List.length_cons, List.length_nil])
  all_goals omega
/-- Each text is short. -/
def tiny (l : List Nd) : Prop := ∀ i, i < l.length → (l.getD i (0, 0, [])).2.2.length ≤ 1048576
theorem sumL_app (a b : List (List UInt8 × Int)) : sumL (a ++ b) = sumL a + sumL b := by simp [sumL]
theorem pn_le {l : List Nd} {i : Nat} (h : (l.getD i (0, 0, [])).1 = 13 ∨ True) : pn l i ≤ 6 := by
  unfold pn pz partsZ
  repeat' split
  all_goals omega
/-- What lies on the stack is short. -/
theorem stack_len {l : List Nd} {n : Nat} (hg : good l n) (hn : n ≤ l.length) (ht : tiny l) : ∀ i, i ≤ n → sumL ((ends l i).map (tw l)) ≤ i * 1048606
  | 0, _ => by simp [ends, sumL]
  | i + 1, hi => by
    have ih := stack_len hg hn ht i (by omega)
    have hx := ht i (by omega)
    have e1 : (ends l i).map (tw l) = ((ends l i).take ((ends l i).length - pn l i)).map (tw l) ++ (parts l i).map (tw l) := by
      rw [← List.map_append]
      congr 1
      exact (List.take_append_drop _ _).symm
    have e2 : (tw l i).1 = TX l i := rfl
    have hp : ((parts l i).map (tw l)).length ≤ 6 := by
      have := pn_le (l := l) (i := i) (.inr trivial)
      unfold parts
      rw [List.length_map, List.length_drop]
      omega
    have h3 := wr_len (l.getD i (0, 0, [])) ((parts l i).map (tw l)) hp
    rw [← TX_eq] at h3
    rw [e1, sumL_app] at ih
    rw [ends_succ, List.map_append, sumL_app]
    have e3 : sumL (List.map (tw l) [i]) = (TX l i).length := by simp [sumL, tw]
    rw [e3]
    omega
theorem TX_len {l : List Nd} {n : Nat} (hg : good l n) (hn : n ≤ l.length) (ht : tiny l) (h100 : n ≤ 1048576) {i : Nat} (hi : i < n) : (TX l i).length ≤ 1099543085056 := by
  have h := stack_len hg hn ht (i + 1) (by omega)
  rw [ends_succ, List.map_append, sumL_app] at h
  have e3 : sumL (List.map (tw l) [i]) = (TX l i).length := by simp [sumL, tw]
  rw [e3] at h
  omega
end Pf
/- strings.Join -/
namespace Pf
open Go Go.Proofs
theorem bytes_of {b : ByteArray} {s : List UInt8} (h : b.data.toList = s) : b = ⟨s.toArray⟩ := by
  obtain ⟨⟨x⟩⟩ := b
  simp only at h
  subst h
  rfl
def strR (T : List (List UInt8)) (i : Nat) : List AV := [.str (T.getD i [])]
theorem join_ok (N : Nat) (S : Nat → List UInt8) (T : List (List UInt8)) (hNT : T = (List.range N).map S) (sep : List UInt8) (hT : N ≤ 1000000) (hlen : (Lib.join T sep).length ≤ 140737488355328) : AFunP Tryd.prog 101 [.fz N fun j => [.str (S j)], .str sep] (· = .str (Lib.join T sep)) := by
  have hTl : T.length = N := by rw [hNT]; simp
  have hTS : ∀ i, i < N → S i = T.getD i [] := fun i hi => by rw [hNT]; simp [List.getD_eq_getElem?_getD, hi]
  clear hNT
  refine AFunP.of_calls (Enters.of Tryd.func101 (by kernel_rfl) (by kernel_rfl)) fun FM β w cargs hh hv => ?_
  obtain ⟨x, b, rfl, hx, hb⟩ : ∃ (x : Value) (b : ByteArray), cargs = #[x, .string b] ∧ VR FM β (.fz N fun j => [.str (S j)]) x ∧ b.data.toList = sep := by
    obtain ⟨h1, h2⟩ := hv
    have h3 := h2 0 (by simp)
    have h4 := h2 1 (by simp)
    obtain ⟨l⟩ := cargs
    match l, h1, h3, h4 with
    | [x, y], _, h3, h4 =>
      simp only [List.getD_cons_zero, List.getD_cons_succ, List.getElem_cons_zero, List.getElem_cons_succ] at h3 h4
      cases h4 with
      | str hb => exact ⟨x, _, rfl, h3, hb⟩
  have done : ∀ (r : List UInt8) (w' : World), r = Lib.join T sep → RowKit.Below w.heap.size w w' → ∃ v u, Ending.returned (Value.string ⟨r.toArray⟩) = Ending.returned v ∧ RowKit.Below w.heap.size w w' ∧ Pure (· = .str (Lib.join T sep)) u [] ∧ VR FM β u v := by
    rintro r w' rfl hw
    exact ⟨_, _, rfl, hw, pure_of rfl rfl rfl, .str (by simp)⟩
  have nil : ∀ (a : Option Addr) (c : Nat), T = [] → Calls Tryd.prog 101 #[.slice a 0 c, .string b] w fun e w' => ∃ v u, e = .returned v ∧ RowKit.Below w.heap.size w w' ∧ Pure (· = .str (Lib.join T sep)) u [] ∧ VR FM β u v := by
    rintro a c rfl
    refine (Tryd.strings_Join_none a c b w).mono ?_
    rintro e w' ⟨rfl, rfl⟩
    exact ⟨_, .str (Lib.join [] sep), rfl, .refl _ _, pure_of rfl rfl rfl, .str rfl⟩
  generalize hn' : N = n at hx hTS
  have hn : T.length = n := hTl.trans hn'
  cases hx with
  | fz0 => exact nil _ _ (List.length_eq_zero_iff.1 hn)
  | fz cv hz hc hl hm ho hvv =>
    rename_i cb o sz cap
    rcases Nat.eq_zero_or_pos n with h0 | h0
    · subst h0
      exact nil _ _ (List.length_eq_zero_iff.1 hn)
    have hs1 : sz = 1 := (hl 0 h0).symm
    subst hs1
    have cell : ∀ i, i < n → w.cell? ⟨cb, o + i, none⟩ = some (.string ⟨(T.getD i []).toArray⟩) := by
      intro i hi
      have h1 := hh.fm _ _ _ (hm i 0 hi (by omega))
      have h2 := hvv i 0 hi (by simp)
      rw [show o + i * 1 + 0 = o + i by omega] at h1
      rw [h1]
      generalize cv i 0 = c at h2
      simp only [List.getElem_cons_zero] at h2
      rw [hTS i hi] at h2
      cases h2 with
      | str hs => rw [bytes_of hs]
    have hcb : cb < w.heap.size := cell_lt (cell 0 h0)
    have hx1 : (T.map fun s => (⟨s.toArray⟩ : ByteArray)).length = n := by rw [List.length_map, hn]
    have hx2 : (T.map fun s => (⟨s.toArray⟩ : ByteArray)).map (·.data.toList) = T := by
      rw [List.map_map]
      have : ((fun x : ByteArray => x.data.toList) ∘ fun s : List UInt8 => (⟨s.toArray⟩ : ByteArray)) = id := by funext s; simp
      rw [this, List.map_id]
    have key := Tryd.strings_Join cb o cap (T.map fun s => ⟨s.toArray⟩) b w (fun j x hj => by
      rw [List.getElem?_map] at hj
      obtain ⟨s, hs, rfl⟩ := Option.map_eq_some_iff.1 hj
      have hj2 : j < n := by rw [← hn]; exact (List.getElem?_eq_some_iff.1 hs).1
      rw [cell j hj2, List.getD_eq_getElem?_getD, hs]
      rfl) hcb (by rw [hx1]; omega) (by rw [hx1]; exact hc) (by rw [hx2, hb]; exact hlen)
    rw [hx1, hx2, hb] at key
    refine key.mono ?_
    rintro e w' ⟨rfl, hw⟩
    exact done _ _ rfl hw
end Pf
/- Texts of terms: Itoa, written.in, write -/
namespace Pf
open Go Go.Proofs
theorem small_ok (n : Int) (h : 0 ≤ n ∧ n ≤ 8) : AFunP Tryd.prog 127 [.int .i64 n] (· = .str [UInt8.ofNat (48 + n).toNat]) := by
  refine afun_of Tryd.func127 Tryd.call127 rfl Tryd.ntmps127 rfl ?_
  have W : Walk Tryd.prog TT 127 _ := Walk.of TT_ok Tryd.func127 Tryd.results127
  refine sp W 0 rfl rfl rfl (fun h1 => ?_) (fun h1 => ?_)
  · rcases (show n = 0 ∨ n = 1 ∨ n = 2 ∨ n = 3 ∨ n = 4 ∨ n = 5 ∨ n = 6 ∨ n = 7 ∨ n = 8 by omega) with rfl | rfl | rfl | rfl | rfl | rfl | rfl | rfl | rfl
    all_goals (refine rp W 0 rfl rfl rfl (.eq rfl))
  · exfalso; omega
theorem fint_ok (n : Int) (h : 0 ≤ n ∧ n ≤ 8) : AFunP Tryd.prog 120 [.int .i64 n, .int .i64 10] (· = .str [UInt8.ofNat (48 + n).toNat]) := by
  refine afun_of Tryd.func120 Tryd.call120 rfl Tryd.ntmps120 rfl ?_
  have W : Walk Tryd.prog TT 120 _ := Walk.of TT_ok Tryd.func120 Tryd.results120
  refine sp W 0 rfl rfl rfl (fun h1 => ?_) (fun h1 => ?_)
  · refine sp W 0 rfl rfl rfl (fun h2 => ?_) (fun h2 => ?_)
    · refine sp W 0 rfl rfl rfl (fun h3 => ?_) (fun h3 => ?_)
      · refine ce W 0 rfl rfl (small_ok n h) rfl ?_
        refine rp W 0 rfl rfl rfl (.refl)
      · exfalso; omega
    · exfalso; omega
  · exact absurd rfl h1
theorem iitoa_ok (n : Int) (h : 0 ≤ n ∧ n ≤ 8) : AFunP Tryd.prog 112 [.int .i64 n] (· = .str [UInt8.ofNat (48 + n).toNat]) := by
  refine afun_of Tryd.func112 Tryd.call112 rfl Tryd.ntmps112 rfl ?_
  have W : Walk Tryd.prog TT 112 _ := Walk.of TT_ok Tryd.func112 Tryd.results112
  refine ce W 0 rfl rfl (fint_ok n h) rfl ?_
  refine rp W 0 rfl rfl rfl (.refl)
theorem itoa_ok (n : Int) (h : 0 ≤ n ∧ n ≤ 8) : AFunP Tryd.prog 103 [.int .i64 n] (· = .str [UInt8.ofNat (48 + n).toNat]) := by
  refine afun_of Tryd.func103 Tryd.call103 rfl Tryd.ntmps103 rfl ?_
  have W : Walk Tryd.prog TT 103 _ := Walk.of TT_ok Tryd.func103 Tryd.results103
  refine ce W 0 rfl rfl (iitoa_ok n h) rfl ?_
  refine rp W 0 rfl rfl rfl (.refl)
theorem win_ok (s : List UInt8) (lv t : Int) (hs : s.length ≤ 1125899906842624) : AFunP Tryd.prog 102 [.agg [.str s, .int .i64 lv], .int .i64 t] (· = .str (brk (s, lv) t)) := by
  refine afun_of Tryd.func102 Tryd.call102 rfl Tryd.ntmps102 rfl ?_
  have W : Walk Tryd.prog TT 102 _ := Walk.of TT_ok Tryd.func102 Tryd.results102
  refine sp W 0 rfl rfl rfl (fun h1 => ?_) (fun h1 => ?_)
  · refine rp W 0 rfl rfl rfl (.eq (by unfold brk; rw [if_pos h1]))
  · refine rp W 0 rfl rfl rfl (.eq (by unfold brk; rw [if_neg h1]))
theorem level_ok (k n : Int) (s : List UInt8) : AFunP Tryd.prog 90 [.agg [.int .i64 k, .int .i64 n, .str s]] (· = .int .i64 (lvl k)) := by
  refine afun_of Tryd.func90 Tryd.call90 rfl Tryd.ntmps90 rfl ?_
  have W : Walk Tryd.prog TT 90 _ := Walk.of TT_ok Tryd.func90 Tryd.results90
  (repeat' (first | (refine sp W 0 rfl rfl rfl (fun _ => ?_) (fun _ => ?_)) | (refine ce W 0 rfl rfl (in_ok 0 0 0) rfl ?_))) <;> (first | exact rp W 0 rfl rfl rfl (.int (by unfold lvl; repeat' split <;> omega)))
def wrR (ps : List (List UInt8 × Int)) (i : Nat) : List AV := [.str (ps.getD i w0).1, .int .i64 (ps.getD i w0).2]
theorem call_ok (name : List UInt8) (ps : List (List UInt8 × Int)) (hp : ps.length ≤ 6) (hn : name.length ≤ 1048576) (hs : sumL ps ≤ 1099543085056) : AFunP Tryd.prog 100 [.str name, .fptr [.fz ps.length (wrR ps)] 0] (· = .agg [.str (callT name ps), .int .i64 5]) := by
  refine afun_of Tryd.func100 Tryd.call100 rfl Tryd.ntmps100 rfl ?_
  have W : Walk Tryd.prog TT 100 _ := Walk.of TT_ok Tryd.func100 Tryd.results100
  refine atl W rfl ?_
  refine go_nilT 4 (.tab 0 0 fun _ => [.str []]) rfl rfl rfl rfl rfl ?_
  refine lp W 0 (σ := Nat × Nat × (Nat → List UInt8)) (fun s => [(0, .str name), (3, .ptr 0 0 0 0), (4, .sl 1 s.2.1 0 s.1), (7, .fz ps.length (wrR ps)), (8, .int .i64 ps.length), (9, .int .i64 s.1)]) (fun s => [.lst 0 [[.str [], .int .i64 0]], .tab s.2.1 s.1 fun j => [.str (s.2.2 j)]]) (fun s => ps.length - s.1) (fun s => s.1 ≤ ps.length ∧ ∀ j, j < s.1 → s.2.2 j = (ps.getD j w0).1) (0, 0, fun _ => []) [0, 3, 4, 7, 8, 9] rfl rfl rfl ⟨Nat.zero_le _, fun j hj => by omega⟩ ?_
  rintro ⟨i, g, S⟩ ⟨hi, hS⟩ ih
  dsimp only at hi hS ih ⊢
  refine sp W 0 rfl rfl rfl (fun h1 => ?_) (fun h1 => ?_)
  · have h1 : i < ps.length := by omega
    have iN : ((i : Nat) : Int).toNat = i := Int.toNat_natCast i
    refine bd W 0 2 [0, 3, 4, 7, 8, 9] rfl rfl rfl rfl rfl (ih (i + 1, g + 1, fun j => if j < addN 0 i then S j else (ps.getD ((i : Nat) : Int).toNat w0).1) ⟨by dsimp only; omega, fun j hj => ?_⟩ (by dsimp only; omega))
    dsimp only at hj ⊢
    have e0 : addN 0 i = i := by cases i <;> rfl
    rw [e0, iN]
    by_cases hji : j < i
    · rw [if_pos hji]; exact hS j hji
    · rw [if_neg hji, show j = i by omega]
  · have hil : i = ps.length := by omega
    subst hil
    have hT : ps.map Prod.fst = (List.range ps.length).map S := by
      apply List.ext_getElem (by simp)
      intro j h2 h3
      have := hS j (by simpa using h2)
      simp only [List.getElem_map, List.getElem_range]
      rw [this]
      simp [List.getD_eq_getElem?_getD, show j < ps.length by simpa using h2]
    have hj := callT_len name ps hp
    have hj2 : (Lib.join (ps.map Prod.fst) [44, 32]).length ≤ name.length + sumL ps + 14 := by
      unfold callT at hj
      simp only [List.length_append, List.length_cons, List.length_nil] at hj
      omega
    refine cb W 0 rfl rfl rfl rfl (join_ok ps.length S (ps.map Prod.fst) hT [44, 32] (by omega) (by omega)) rfl ?_
    refine rp W 0 rfl rfl rfl (.eq rfl)
theorem part_len (ps : List (List UInt8 × Int)) (i : Nat) : (ps.getD i w0).1.length ≤ sumL ps := by
  induction ps generalizing i with
  | nil => simp [w0]
  | cons p ps ih =>
    have e : sumL (p :: ps) = p.1.length + sumL ps := by simp [sumL]
    cases i with
    | zero => simp only [List.getD_cons_zero]; omega
    | succ i => simp only [List.getD_cons_succ]; have := ih i; omega
theorem write_ok (x : Nd) (ps : List (List UInt8 × Int)) (hz : pz x = ps.length) (hn : x.2.2.length ≤ 1048576) (hs : sumL ps ≤ 1099543085056) : AFunP Tryd.prog 92 [nodeV x, .fz ps.length (wrR ps)] (· = .agg [.str (wr x ps), .int .i64 (lvl x.1)]) := by
  obtain ⟨k, n, s⟩ := x
  have l0 := part_len ps 0
  have l1 := part_len ps 1
  have b0 := fun m => brk_len (ps.getD 0 w0) m
  have b1 := fun m => brk_len (ps.getD 1 w0) m
  have k0 : ∀ m, AFunP Tryd.prog 102 [.agg [.str (ps.getD 0 w0).1, .int .i64 (ps.getD 0 w0).2], .int .i64 m] (· = .str (brk (ps.getD 0 w0) m)) := fun m => win_ok (ps.getD 0 w0).1 (ps.getD 0 w0).2 m (by omega)
  have k1 : ∀ m, AFunP Tryd.prog 102 [.agg [.str (ps.getD 1 w0).1, .int .i64 (ps.getD 1 w0).2], .int .i64 m] (· = .str (brk (ps.getD 1 w0) m)) := fun m => win_ok (ps.getD 1 w0).1 (ps.getD 1 w0).2 m (by omega)
  have hp6 : ps.length ≤ 6 := by
    unfold pz partsZ at hz
    dsimp only at hz
    repeat' split at hz
    all_goals omega
  unfold nodeV
  dsimp only at hz hn ⊢
  refine afun_of Tryd.func92 Tryd.call92 rfl Tryd.ntmps92 rfl ?_
  have W : Walk Tryd.prog TT 92 _ := Walk.of TT_ok Tryd.func92 Tryd.results92
  refine sp W 0 rfl rfl rfl (fun h3 => ?_) (fun h3 => ?_)
  · have e : ps.length = 1 := by unfold pz partsZ at hz; dsimp only at hz; rw [if_neg (by omega), if_neg (by omega), if_pos (by omega)] at hz; split at hz <;> omega
    obtain ⟨B0, hB0, hl0⟩ : ∃ B, B = brk (ps.getD 0 w0) 3 ∧ B.length ≤ sumL ps + 2 := ⟨_, rfl, by have := b0 3; omega⟩
    have kb := k0 3
    rw [← hB0] at kb
    refine ce W 0 rfl rfl (kb) rfl ?_
    refine rp W 0 rfl rfl rfl (.agg ⟨.eq (by unfold wr; rw [if_pos h3, ← hB0] <;> rfl), .int (by unfold lvl; repeat' split <;> omega), trivial⟩)
  refine sp W 0 rfl rfl rfl (fun h4 => ?_) (fun h4 => ?_)
  · have e : ps.length = 2 := by unfold pz partsZ at hz; dsimp only at hz; rw [if_neg (by omega), if_neg (by omega), if_neg (by omega), if_pos (by omega)] at hz; split at hz <;> omega
    obtain ⟨B0, hB0, hl0⟩ : ∃ B, B = brk (ps.getD 0 w0) 1 ∧ B.length ≤ sumL ps + 2 := ⟨_, rfl, by have := b0 1; omega⟩
    obtain ⟨B1, hB1, hl1⟩ : ∃ B, B = brk (ps.getD 1 w0) 2 ∧ B.length ≤ sumL ps + 2 := ⟨_, rfl, by have := b1 2; omega⟩
    have kb := k0 1
    rw [← hB0] at kb
    have kb' := k1 2
    rw [← hB1] at kb'
    refine dre W 0 9 [] [.str B0, .str B1] rfl rfl rfl ⟨kb.at rfl _, kb'.at rfl _, trivial⟩ rfl ?_
    refine rp W 0 rfl rfl rfl (.agg ⟨.eq (by unfold wr; dsimp only; rw [if_neg h3, if_pos h4, ← hB0, ← hB1] <;> rfl), .int (by unfold lvl; repeat' split <;> omega), trivial⟩)
  refine sp W 0 rfl rfl rfl (fun h5 => ?_) (fun h5 => ?_)
  · have e : ps.length = 2 := by unfold pz partsZ at hz; dsimp only at hz; rw [if_neg (by omega), if_neg (by omega), if_neg (by omega), if_pos (by omega)] at hz; split at hz <;> omega
    obtain ⟨B0, hB0, hl0⟩ : ∃ B, B = brk (ps.getD 0 w0) 1 ∧ B.length ≤ sumL ps + 2 := ⟨_, rfl, by have := b0 1; omega⟩
    obtain ⟨B1, hB1, hl1⟩ : ∃ B, B = brk (ps.getD 1 w0) 2 ∧ B.length ≤ sumL ps + 2 := ⟨_, rfl, by have := b1 2; omega⟩
    have kb := k0 1
    rw [← hB0] at kb
    have kb' := k1 2
    rw [← hB1] at kb'
    refine dre W 0 9 [] [.str B0, .str B1] rfl rfl rfl ⟨kb.at rfl _, kb'.at rfl _, trivial⟩ rfl ?_
    refine rp W 0 rfl rfl rfl (.agg ⟨.eq (by unfold wr; dsimp only; rw [if_neg h3, if_neg h4, if_pos h5, ← hB0, ← hB1] <;> rfl), .int (by unfold lvl; repeat' split <;> omega), trivial⟩)
  refine sp W 0 rfl rfl rfl (fun h6 => ?_) (fun h6 => ?_)
  · have e : ps.length = 2 := by unfold pz partsZ at hz; dsimp only at hz; rw [if_neg (by omega), if_neg (by omega), if_neg (by omega), if_pos (by omega)] at hz; split at hz <;> omega
    obtain ⟨B0, hB0, hl0⟩ : ∃ B, B = brk (ps.getD 0 w0) 2 ∧ B.length ≤ sumL ps + 2 := ⟨_, rfl, by have := b0 2; omega⟩
    obtain ⟨B1, hB1, hl1⟩ : ∃ B, B = brk (ps.getD 1 w0) 3 ∧ B.length ≤ sumL ps + 2 := ⟨_, rfl, by have := b1 3; omega⟩
    have kb := k0 2
    rw [← hB0] at kb
    have kb' := k1 3
    rw [← hB1] at kb'
    refine dre W 0 9 [] [.str B0, .str B1] rfl rfl rfl ⟨kb.at rfl _, kb'.at rfl _, trivial⟩ rfl ?_
    refine rp W 0 rfl rfl rfl (.agg ⟨.eq (by unfold wr; dsimp only; rw [if_neg h3, if_neg h4, if_neg h5, if_pos h6, ← hB0, ← hB1] <;> rfl), .int (by unfold lvl; repeat' split <;> omega), trivial⟩)
  refine sp W 0 rfl rfl rfl (fun h7 => ?_) (fun h7 => ?_)
  · have e : ps.length = 2 := by unfold pz partsZ at hz; dsimp only at hz; rw [if_neg (by omega), if_neg (by omega), if_neg (by omega), if_pos (by omega)] at hz; split at hz <;> omega
    obtain ⟨B0, hB0, hl0⟩ : ∃ B, B = brk (ps.getD 0 w0) 2 ∧ B.length ≤ sumL ps + 2 := ⟨_, rfl, by have := b0 2; omega⟩
    obtain ⟨B1, hB1, hl1⟩ : ∃ B, B = brk (ps.getD 1 w0) 3 ∧ B.length ≤ sumL ps + 2 := ⟨_, rfl, by have := b1 3; omega⟩
    have kb := k0 2
    rw [← hB0] at kb
    have kb' := k1 3
    rw [← hB1] at kb'
    refine dre W 0 9 [] [.str B0, .str B1] rfl rfl rfl ⟨kb.at rfl _, kb'.at rfl _, trivial⟩ rfl ?_
    refine rp W 0 rfl rfl rfl (.agg ⟨.eq (by unfold wr; dsimp only; rw [if_neg h3, if_neg h4, if_neg h5, if_neg h6, if_pos h7, ← hB0, ← hB1] <;> rfl), .int (by unfold lvl; repeat' split <;> omega), trivial⟩)
  refine sp W 0 rfl rfl rfl (fun h8 => ?_) (fun h8 => ?_)
  · have e : ps.length = 1 ∧ 0 ≤ n ∧ n ≤ 8 := by unfold pz partsZ at hz; dsimp only at hz; rw [if_neg (by omega), if_neg (by omega), if_neg (by omega), if_neg (by omega), if_pos (by omega)] at hz; split at hz <;> omega
    obtain ⟨B0, hB0, hl0⟩ : ∃ B, B = brk (ps.getD 0 w0) 5 ∧ B.length ≤ sumL ps + 2 := ⟨_, rfl, by have := b0 5; omega⟩
    have kb := k0 5
    rw [← hB0] at kb
    refine dre W 0 9 [] [.str B0, .str [UInt8.ofNat (48 + n).toNat]] rfl rfl rfl ⟨kb.at rfl _, (itoa_ok n e.2).at rfl _, trivial⟩ rfl ?_
    refine rp W 0 rfl rfl rfl (.agg ⟨.eq (by unfold wr; dsimp only; rw [if_neg h3, if_neg h4, if_neg h5, if_neg h6, if_neg h7, if_pos h8, ← hB0] <;> rfl), .int (by unfold lvl; repeat' split <;> omega), trivial⟩)
  refine sp W 0 rfl rfl rfl (fun h9 => ?_) (fun h9 => ?_)
  · refine cb W 0 rfl rfl rfl rfl (call_ok [115, 113, 114, 116] ps hp6 (by simp) hs) rfl ?_
    refine rp W 0 rfl rfl rfl (.agg ⟨.eq (by unfold wr; dsimp only; rw [if_neg h3, if_neg h4, if_neg h5, if_neg h6, if_neg h7, if_neg h8, if_pos h9] <;> rfl), .int (by unfold lvl; repeat' split <;> omega), trivial⟩)
  refine sp W 0 rfl rfl rfl (fun h10 => ?_) (fun h10 => ?_)
  · refine cb W 0 rfl rfl rfl rfl (call_ok [97, 98, 115] ps hp6 (by simp) hs) rfl ?_
    refine rp W 0 rfl rfl rfl (.agg ⟨.eq (by unfold wr; dsimp only; rw [if_neg h3, if_neg h4, if_neg h5, if_neg h6, if_neg h7, if_neg h8, if_neg h9, if_pos h10] <;> rfl), .int (by unfold lvl; repeat' split <;> omega), trivial⟩)
  refine sp W 0 rfl rfl rfl (fun h11 => ?_) (fun h11 => ?_)
  · refine cb W 0 rfl rfl rfl rfl (call_ok [109, 105, 110] ps hp6 (by simp) hs) rfl ?_
    refine rp W 0 rfl rfl rfl (.agg ⟨.eq (by unfold wr; dsimp only; rw [if_neg h3, if_neg h4, if_neg h5, if_neg h6, if_neg h7, if_neg h8, if_neg h9, if_neg h10, if_pos h11] <;> rfl), .int (by unfold lvl; repeat' split <;> omega), trivial⟩)
  refine sp W 0 rfl rfl rfl (fun h12 => ?_) (fun h12 => ?_)
  · refine cb W 0 rfl rfl rfl rfl (call_ok [109, 97, 120] ps hp6 (by simp) hs) rfl ?_
    refine rp W 0 rfl rfl rfl (.agg ⟨.eq (by unfold wr; dsimp only; rw [if_neg h3, if_neg h4, if_neg h5, if_neg h6, if_neg h7, if_neg h8, if_neg h9, if_neg h10, if_neg h11, if_pos h12] <;> rfl), .int (by unfold lvl; repeat' split <;> omega), trivial⟩)
  refine sp W 0 rfl rfl rfl (fun h13 => ?_) (fun h13 => ?_)
  · refine cb W 0 rfl rfl rfl rfl (call_ok s ps hp6 (by omega) hs) rfl ?_
    refine rp W 0 rfl rfl rfl (.agg ⟨.eq (by unfold wr; dsimp only; rw [if_neg h3, if_neg h4, if_neg h5, if_neg h6, if_neg h7, if_neg h8, if_neg h9, if_neg h10, if_neg h11, if_neg h12, if_pos h13] <;> rfl), .int (by unfold lvl; repeat' split <;> omega), trivial⟩)
  refine rp W 0 rfl rfl rfl (.agg ⟨.eq (by unfold wr; dsimp only; rw [if_neg h3, if_neg h4, if_neg h5, if_neg h6, if_neg h7, if_neg h8, if_neg h9, if_neg h10, if_neg h11, if_neg h12, if_neg h13]), .int (by unfold lvl; repeat' split <;> omega), trivial⟩)
end Pf
/- The known variable's cells are read. -/
namespace Pf
open Go
variable {P : Program} {TT : TypeId → Option TI} {f N n0 : Nat} {k : List Item} {T : Env} {H : AHeap} {R : AV → AHeap → Prop}
/-- The address of a cell of the known variable. -/
theorem go_gk (hT : TTok P TT) (ops : Array Oper) {i d t n : Nat} {ty aty e : TypeId} {kd : IntKind} {m : Int} {is : List Nat} {pos : String} {af : Array Edge} {j : TI} {T1 : Env}
    (ho : ops[i]? = some { dst := some d, op := .indexAddr aty (.global 0) (.tmp t), type := ty, pos := pos, after := af, guard := none })
    (hu : P.underlying aty = some (.array n e)) (he : TT e = some j) (hs : j.size = 1) (hn : n = gtab.length) (h2 : 1 < n) (hm : getM T t = some (.int kd m)) (h0 : 0 ≤ m) (h1 : m < n)
    (hd : dstM N (some d) (.fptr [.int .u8 (gtab.getD m.toNat 0)] 0) T = some T1)
    (h : AGo P f N n0 (.inRegion ops is :: k) T1 H R) : AGo P f N n0 (.inRegion ops (i :: is) :: k) T H R := by
  refine AGo.op ops ho hd (fun FM β a _ _ => rfl) (fun FM β a w hr hh => ?_) h
  rw [exec_indexAddr]
  refine SimV.yields ?_
  obtain ⟨info, d', z, ok⟩ := TI.fits_iff (hT _ _ he)
  have hv : VR FM β (.int kd m) (a.eval (.tmp t)) := hr t _ hm
  have e1 : a.eval (.tmp t) = .int kd m := by
    generalize a.eval (.tmp t) = c at hv ⊢
    cases hv; rfl
  have e2 : a.eval (.global 0) = .pointer (some ⟨0, 0, none⟩) := rfl
  rw [e1, e2]
  refine SimV.same (cv := .pointer (some ⟨0, m.toNat, none⟩)) ?_ ?_ hh
  · have : ¬ n ≤ 1 := by omega
    simp [Instr.indexAt, asIntOf, Instr.sureAddr, run_underlying hu, ok.run_size w, hs, h0, h1, addr_add, this]
  · have := VR.fptr (FM := FM) (β := β) (row := [.int .u8 (gtab.getD m.toNat 0)]) (c := 0) (cb := 0) (o := m.toNat) (fun _ => .int .u8 (gtab.getD m.toNat 0)) (fun i hi => by
        have : i = 0 := by simpa using hi
        subst this
        exact hh.gk.tab m.toNat (by omega)) (fun i hi => by
        have : i = 0 := by simpa using hi
        subst this
        exact .int)
    simpa using this
end Pf
/- Graphs: sizes, copies, equality -/
namespace Pf
open Go Go.Proofs
/-- A node of a graph, a relation. -/
structure Gn where
  k : Int
  a : Int
  b : Int
  n : Int
  t : List UInt8
structure Gr where
  k : Int
  l : Int
  r : Int
theorem Gn.eq {x y : Gn} (h1 : x.k = y.k) (h2 : x.a = y.a) (h3 : x.b = y.b) (h4 : x.n = y.n) (h5 : x.t = y.t) : x = y := by
  cases x; cases y; simp only at h1 h2 h3 h4 h5; subst h1; subst h2; subst h3; subst h4; subst h5; rfl
theorem Gr.eq {x y : Gr} (h1 : x.k = y.k) (h2 : x.l = y.l) (h3 : x.r = y.r) : x = y := by
  cases x; cases y; simp only at h1 h2 h3; subst h1; subst h2; subst h3; rfl
def g0 : Gn := ⟨0, 0, 0, 0, []⟩
def r0 : Gr := ⟨0, 0, 0⟩
def gnV (x : Gn) : AV := .agg [.int .i64 x.k, .int .i64 x.a, .int .i64 x.b, .int .i64 x.n, .str x.t]
def grV (x : Gr) : AV := .agg [.int .i64 x.k, .int .i64 x.l, .int .i64 x.r]
def gnR (l : List Gn) (i : Nat) : List AV := [.int .i64 (l.getD i g0).k, .int .i64 (l.getD i g0).a, .int .i64 (l.getD i g0).b, .int .i64 (l.getD i g0).n, .str (l.getD i g0).t]
def grR (l : List Gr) (i : Nat) : List AV := [.int .i64 (l.getD i r0).k, .int .i64 (l.getD i r0).l, .int .i64 (l.getD i r0).r]
abbrev graphV (v : Int) (l : List Gn) (rs : List Gr) : AV := .agg [.int .i64 v, .fz l.length (gnR l), .fz rs.length (grR rs)]
def gtxtOk (l : List Gn) : Prop := ∀ i, i < l.length → (l.getD i g0).t.length ≤ 1048576
theorem list_eq {α : Type} {d : α} {l m : List α} (h1 : l.length = m.length) (he : ∀ j, j < l.length → l.getD j d = m.getD j d) : l = m := List.ext_getElem h1 fun j h3 h4 => by
  have := he j (by omega)
  simpa [List.getD_eq_getElem?_getD, h3, h4] using this
/-! ### Sizes -/
theorem szGraphNode_ok (x : Gn) (left : Int) (hl : 0 ≤ left ∧ left ≤ 1048576) (hx : x.t.length ≤ 9223372036854775807) : AFunP Tryd.prog 79 [gnV x, .int .i64 left] (· = .int .i64 (if left < x.t.length then -1 else left - x.t.length)) := by
  unfold gnV
  refine afun_of Tryd.func79 Tryd.call79 rfl Tryd.ntmps79 rfl ?_
  have W : Walk Tryd.prog TT 79 _ := Walk.of TT_ok Tryd.func79 Tryd.results79
  refine sp W 0 rfl rfl rfl (fun h1 => ?_) (fun h1 => ?_)
  · refine rp W 0 rfl rfl rfl (.int (by rw [if_pos (by omega)]))
  · refine rp W 0 rfl rfl rfl (.int (by rw [if_neg (by omega)]))
theorem szGraphNodeS_ok (l : List Gn) (left : Int) (hl : 0 ≤ left ∧ left ≤ 1048576) (hm : l.length ≤ 9223372036854775807) (hx : ∀ i, i < l.length → (l.getD i g0).t.length ≤ 9223372036854775807) : AFunP Tryd.prog 45 [.fz l.length (gnR l), .int .i64 left] (fun u => ∃ n, u = .int .i64 n ∧ n ≤ left ∧ (0 ≤ n → l.length ≤ left ∧ ∀ i, i < l.length → ((l.getD i g0).t.length : Int) ≤ left)) := by
  refine afun_of Tryd.func45 Tryd.call45 rfl Tryd.ntmps45 rfl ?_
  have W : Walk Tryd.prog TT 45 _ := Walk.of TT_ok Tryd.func45 Tryd.results45
  refine sp W 0 rfl rfl rfl (fun h1 => ?_) (fun h1 => ?_)
  · refine rq W 0 rfl rfl (.int .i64 (-1)) (⟨_, rfl, by omega, fun k => by omega⟩) rfl .refl
  refine lp W 0 (σ := Nat × Int) (fun s => [(0, .fz l.length (gnR l)), (1, .int .i64 s.2), (5, .int .i64 s.1)]) (fun _ => []) (fun s => l.length - s.1) (fun s => s.1 ≤ l.length ∧ (0 ≤ s.2 ∧ s.2 ≤ left) ∧ ∀ j, j < s.1 → ((l.getD j g0).t.length : Int) ≤ left) (0, left - l.length) [0, 1, 5] rfl rfl rfl ⟨Nat.zero_le _, ⟨by dsimp only; omega, by dsimp only; omega⟩, fun j hj => by omega⟩ ?_
  rintro ⟨i, d⟩ ⟨hi, hd, he⟩ ih
  dsimp only at hi hd he ih ⊢
  refine sp W 0 rfl rfl rfl (fun h2 => ?_) (fun h2 => ?_)
  · have h2 : i < l.length := by omega
    have hxi := hx i h2
    refine ce W 0 rfl rfl (szGraphNode_ok (l.getD i g0) d ⟨by omega, by omega⟩ hxi) rfl ?_
    refine sp W 0 rfl rfl rfl (fun h3 => ?_) (fun h3 => ?_)
    · refine rq W 0 rfl rfl (.int .i64 (-1)) (⟨_, rfl, by omega, fun k => by omega⟩) rfl .refl
    · by_cases h4 : d < (l.getD i g0).t.length
      · rw [if_pos h4] at h3; exact absurd (by omega) h3
      · simp only [if_neg h4]
        refine bd W 0 0 [0, 1, 5] rfl rfl rfl rfl rfl (ih (i + 1, d - (l.getD i g0).t.length) ⟨by dsimp only; omega, ⟨by dsimp only; omega, by dsimp only; omega⟩, fun j hj => ?_⟩ (by dsimp only; omega))
        by_cases hji : j = i
        · subst hji; omega
        · exact he j (by dsimp only at hj; omega)
  · refine rq W 0 rfl rfl (.int .i64 d) (⟨_, rfl, by omega, fun k => ⟨by omega, fun j hj => he j (by omega)⟩⟩) rfl .refl
theorem szGraphRelS_ok (l : List Gr) (left : Int) (hl : 0 ≤ left ∧ left ≤ 1048576) (hm : l.length ≤ 9223372036854775807) : AFunP Tryd.prog 46 [.fz l.length (grR l), .int .i64 left] (fun u => ∃ n, u = .int .i64 n ∧ (0 ≤ n → l.length ≤ left)) := by
  refine afun_of Tryd.func46 Tryd.call46 rfl Tryd.ntmps46 rfl ?_
  have W : Walk Tryd.prog TT 46 _ := Walk.of TT_ok Tryd.func46 Tryd.results46
  refine sp W 0 rfl rfl rfl (fun h1 => ?_) (fun h1 => ?_)
  · refine rq W 0 rfl rfl (.int .i64 (-1)) (⟨_, rfl, fun k => by omega⟩) rfl .refl
  · refine rq W 0 rfl rfl (.int .i64 (left - l.length)) (⟨_, rfl, fun k => by omega⟩) rfl .refl
theorem szGraph_ok (v : Int) (l : List Gn) (rs : List Gr) (hm : l.length ≤ 9223372036854775807) (hr : rs.length ≤ 9223372036854775807) (hx : ∀ i, i < l.length → (l.getD i g0).t.length ≤ 9223372036854775807) : AFunP Tryd.prog 16 [graphV v l rs, .int .i64 1048576] (fun u => ∃ n, u = .int .i64 n ∧ (0 ≤ n → l.length ≤ 1048576 ∧ rs.length ≤ 1048576 ∧ gtxtOk l)) := by
  refine afun_of Tryd.func16 Tryd.call16 rfl Tryd.ntmps16 rfl ?_
  have W : Walk Tryd.prog TT 16 _ := Walk.of TT_ok Tryd.func16 Tryd.results16
  refine cq W 0 rfl rfl (szGraphNodeS_ok l 1048576 ⟨by omega, by omega⟩ hm hx) ?_
  rintro _ ⟨n, rfl, hn1, hn⟩
  refine ⟨_, rfl, ?_⟩
  refine sp W 0 rfl rfl rfl (fun h1 => ?_) (fun h1 => ?_)
  · refine rq W 0 rfl rfl (.int .i64 (-1)) (⟨_, rfl, fun k => by omega⟩) rfl .refl
  refine cq W 0 rfl rfl (szGraphRelS_ok rs n ⟨by omega, by omega⟩ hr) ?_
  rintro _ ⟨m, rfl, hm2⟩
  refine ⟨_, rfl, ?_⟩
  refine sp W 0 rfl rfl rfl (fun h2 => ?_) (fun h2 => ?_)
  · refine rq W 0 rfl rfl (.int .i64 (-1)) (⟨_, rfl, fun k => by omega⟩) rfl .refl
  · refine rq W 0 rfl rfl (.int .i64 m) (⟨_, rfl, fun k => ⟨by have := (hn (by omega)).1; omega, by have := hm2 k; omega, fun i hi => by have := (hn (by omega)).2 i hi; omega⟩⟩) rfl .refl
/-! ### Copies -/
theorem toGraphNode_ok (x : Gn) : AFunP Tryd.prog 80 [gnV x] (· = gnV x) := by
  unfold gnV
  refine afun_of Tryd.func80 Tryd.call80 rfl Tryd.ntmps80 rfl ?_
  have W : Walk Tryd.prog TT 80 _ := Walk.of TT_ok Tryd.func80 Tryd.results80
  refine rp W 0 rfl rfl rfl (.refl)
theorem toGraphRel_ok (x : Gr) : AFunP Tryd.prog 81 [grV x] (· = grV x) := by
  unfold grV
  refine afun_of Tryd.func81 Tryd.call81 rfl Tryd.ntmps81 rfl ?_
  have W : Walk Tryd.prog TT 81 _ := Walk.of TT_ok Tryd.func81 Tryd.results81
  refine rp W 0 rfl rfl rfl (.refl)
theorem toGraphNodeS_ok (l : List Gn) (hl : l.length ≤ 1048576) : AFunP Tryd.prog 49 [.fz l.length (gnR l)] (· = .fz l.length (gnR l)) := by
  refine afun_of Tryd.func49 Tryd.call49 rfl Tryd.ntmps49 rfl ?_
  have W : Walk Tryd.prog TT 49 _ := Walk.of TT_ok Tryd.func49 Tryd.results49
  refine lp W 0 (σ := Nat × (Nat → Gn)) (fun s => [(0, .fz l.length (gnR l)), (3, .sl 0 0 0 l.length), (4, .int .i64 s.1)]) (fun s => [.tab 0 l.length fun j => [.int .i64 (s.2 j).k, .int .i64 (s.2 j).a, .int .i64 (s.2 j).b, .int .i64 (s.2 j).n, .str (s.2 j).t]]) (fun s => l.length - s.1) (fun s => s.1 ≤ l.length ∧ ∀ j, j < s.1 → s.2 j = l.getD j g0) (0, fun _ => g0) [0, 3, 4] rfl rfl rfl ⟨Nat.zero_le _, fun j hj => by omega⟩ ?_
  rintro ⟨i, F⟩ ⟨hi, he⟩ ih
  dsimp only at hi he ih ⊢
  refine sp W 0 rfl rfl rfl (fun h2 => ?_) (fun h2 => ?_)
  · have h2 : i < l.length := by omega
    refine ce W 0 rfl rfl (toGraphNode_ok (l.getD i g0)) rfl ?_
    refine bd W 0 1 [0, 3, 4] rfl rfl rfl rfl rfl (ih (i + 1, fun j => ⟨if j = i then (l.getD i g0).k else (F j).k, if j = i then (l.getD i g0).a else (F j).a, if j = i then (l.getD i g0).b else (F j).b, if j = i then (l.getD i g0).n else (F j).n, if j = i then (l.getD i g0).t else (F j).t⟩) ⟨by dsimp only; omega, fun j hj => ?_⟩ (by dsimp only; omega))
    dsimp only at hj ⊢
    by_cases hji : j = i
    · subst hji; simp only [if_true]
    · simp only [if_neg hji]; exact he j (by omega)
  · refine rp W 0 rfl rfl rfl (.fzn rfl fun j hj => ?_)
    show [AV.int .i64 (F j).k, AV.int .i64 (F j).a, AV.int .i64 (F j).b, AV.int .i64 (F j).n, AV.str (F j).t] = gnR l j
    have e := he j (by omega)
    unfold gnR
    rw [← e]
theorem toGraphRelS_ok (l : List Gr) (hl : l.length ≤ 1048576) : AFunP Tryd.prog 50 [.fz l.length (grR l)] (· = .fz l.length (grR l)) := by
  refine afun_of Tryd.func50 Tryd.call50 rfl Tryd.ntmps50 rfl ?_
  have W : Walk Tryd.prog TT 50 _ := Walk.of TT_ok Tryd.func50 Tryd.results50
  refine lp W 0 (σ := Nat × (Nat → Gr)) (fun s => [(0, .fz l.length (grR l)), (3, .sl 0 0 0 l.length), (4, .int .i64 s.1)]) (fun s => [.tab 0 l.length fun j => [.int .i64 (s.2 j).k, .int .i64 (s.2 j).l, .int .i64 (s.2 j).r]]) (fun s => l.length - s.1) (fun s => s.1 ≤ l.length ∧ ∀ j, j < s.1 → s.2 j = l.getD j r0) (0, fun _ => r0) [0, 3, 4] rfl rfl rfl ⟨Nat.zero_le _, fun j hj => by omega⟩ ?_
  rintro ⟨i, F⟩ ⟨hi, he⟩ ih
  dsimp only at hi he ih ⊢
  refine sp W 0 rfl rfl rfl (fun h2 => ?_) (fun h2 => ?_)
  · have h2 : i < l.length := by omega
    refine ce W 0 rfl rfl (toGraphRel_ok (l.getD i r0)) rfl ?_
    refine bd W 0 1 [0, 3, 4] rfl rfl rfl rfl rfl (ih (i + 1, fun j => ⟨if j = i then (l.getD i r0).k else (F j).k, if j = i then (l.getD i r0).l else (F j).l, if j = i then (l.getD i r0).r else (F j).r⟩) ⟨by dsimp only; omega, fun j hj => ?_⟩ (by dsimp only; omega))
    dsimp only at hj ⊢
    by_cases hji : j = i
    · subst hji; simp only [if_true]
    · simp only [if_neg hji]; exact he j (by omega)
  · refine rp W 0 rfl rfl rfl (.fzn rfl fun j hj => ?_)
    show [AV.int .i64 (F j).k, AV.int .i64 (F j).l, AV.int .i64 (F j).r] = grR l j
    have e := he j (by omega)
    unfold grR
    rw [← e]
theorem toGraph_ok (v : Int) (l : List Gn) (rs : List Gr) (hl : l.length ≤ 1048576) (hr : rs.length ≤ 1048576) : AFunP Tryd.prog 18 [graphV v l rs] (· = graphV v l rs) := by
  refine afun_of Tryd.func18 Tryd.call18 rfl Tryd.ntmps18 rfl ?_
  have W : Walk Tryd.prog TT 18 _ := Walk.of TT_ok Tryd.func18 Tryd.results18
  refine ce W 0 rfl rfl (toGraphNodeS_ok l hl) rfl ?_
  refine ce W 0 rfl rfl (toGraphRelS_ok rs hr) rfl ?_
  refine rp W 0 rfl rfl rfl (.refl)
/-! ### Equality -/
theorem eqGraphNode_ok (x y : Gn) : AFunP Tryd.prog 84 [gnV x, gnV y] (· = .pr (x = y)) := by
  unfold gnV
  refine afun_of Tryd.func84 Tryd.call84 rfl Tryd.ntmps84 rfl ?_
  have W : Walk Tryd.prog TT 84 _ := Walk.of TT_ok Tryd.func84 Tryd.results84
  refine sp W 0 rfl rfl rfl (fun h1 => ?_) (fun h1 => ?_)
  · refine rp W 0 rfl rfl rfl (.no (fun k => by subst k; exact h1 rfl))
  refine sp W 0 rfl rfl rfl (fun h2 => ?_) (fun h2 => ?_)
  · refine rp W 0 rfl rfl rfl (.no (fun k => by subst k; exact h2 rfl))
  refine sp W 0 rfl rfl rfl (fun h3 => ?_) (fun h3 => ?_)
  · refine rp W 0 rfl rfl rfl (.no (fun k => by subst k; exact h3 rfl))
  refine sp W 0 rfl rfl rfl (fun h4 => ?_) (fun h4 => ?_)
  · refine rp W 0 rfl rfl rfl (.no (fun k => by subst k; exact h4 rfl))
  refine sp W 0 rfl rfl rfl (fun h5 => ?_) (fun h5 => ?_)
  · refine rp W 0 rfl rfl rfl (.no (fun k => by subst k; exact h5 rfl))
  · refine rp W 0 rfl rfl rfl (.yes (Gn.eq (Classical.not_not.1 h1) (Classical.not_not.1 h2) (Classical.not_not.1 h3) (Classical.not_not.1 h4) (Classical.not_not.1 h5)))
theorem eqGraphRel_ok (x y : Gr) : AFunP Tryd.prog 85 [grV x, grV y] (· = .pr (x = y)) := by
  unfold grV
  refine afun_of Tryd.func85 Tryd.call85 rfl Tryd.ntmps85 rfl ?_
  have W : Walk Tryd.prog TT 85 _ := Walk.of TT_ok Tryd.func85 Tryd.results85
  refine sp W 0 rfl rfl rfl (fun h1 => ?_) (fun h1 => ?_)
  · refine rp W 0 rfl rfl rfl (.no (fun k => by subst k; exact h1 rfl))
  refine sp W 0 rfl rfl rfl (fun h2 => ?_) (fun h2 => ?_)
  · refine rp W 0 rfl rfl rfl (.no (fun k => by subst k; exact h2 rfl))
  refine sp W 0 rfl rfl rfl (fun h3 => ?_) (fun h3 => ?_)
  · refine rp W 0 rfl rfl rfl (.no (fun k => by subst k; exact h3 rfl))
  · refine rp W 0 rfl rfl rfl (.yes (Gr.eq (Classical.not_not.1 h1) (Classical.not_not.1 h2) (Classical.not_not.1 h3)))
theorem eqGraphNodeS_ok (l m : List Gn) (hl : l.length ≤ 1048576) (hm : m.length ≤ 1048576) : AFunP Tryd.prog 57 [.fz l.length (gnR l), .fz m.length (gnR m)] (· = .pr (l = m)) := by
  refine afun_of Tryd.func57 Tryd.call57 rfl Tryd.ntmps57 rfl ?_
  have W : Walk Tryd.prog TT 57 _ := Walk.of TT_ok Tryd.func57 Tryd.results57
  refine sp W 0 rfl rfl rfl (fun h1 => ?_) (fun h1 => ?_)
  · refine rp W 0 rfl rfl rfl (.no (fun k => by subst k; omega))
  have h1 : l.length = m.length := by omega
  refine lp W 0 (σ := Nat) (fun i => [(0, .fz l.length (gnR l)), (1, .fz m.length (gnR m)), (5, .int .i64 i)]) (fun _ => []) (fun i => l.length - i) (fun i => i ≤ l.length ∧ ∀ j, j < i → l.getD j g0 = m.getD j g0) 0 [0, 1, 5] rfl rfl rfl ⟨Nat.zero_le _, fun j hj => by omega⟩ ?_
  rintro i ⟨hi, he⟩ ih
  refine sp W 0 rfl rfl rfl (fun h2 => ?_) (fun h2 => ?_)
  · have h2 : i < l.length := by omega
    have kq := eqGraphNode_ok (l.getD i g0) (m.getD i g0)
    refine dre W 0 10 [] [.pr (l.getD i g0 = m.getD i g0)] rfl rfl rfl ⟨kq.at rfl _, trivial⟩ rfl ?_
    refine sp W 0 rfl rfl rfl (fun h3 => ?_) (fun h3 => ?_)
    · refine rp W 0 rfl rfl rfl (.no (fun k => by subst k; exact h3 rfl))
    · refine bd W 0 0 [0, 1, 5] rfl rfl rfl rfl rfl (ih (i + 1) ⟨by omega, fun j hj => ?_⟩ (by omega))
      by_cases hji : j = i
      · subst hji; exact Classical.not_not.1 h3
      · exact he j (by omega)
  · refine rp W 0 rfl rfl rfl (.yes (list_eq h1 fun j hj => he j (by omega)))
theorem eqGraphRelS_ok (l m : List Gr) (hl : l.length ≤ 1048576) (hm : m.length ≤ 1048576) : AFunP Tryd.prog 58 [.fz l.length (grR l), .fz m.length (grR m)] (· = .pr (l = m)) := by
  refine afun_of Tryd.func58 Tryd.call58 rfl Tryd.ntmps58 rfl ?_
  have W : Walk Tryd.prog TT 58 _ := Walk.of TT_ok Tryd.func58 Tryd.results58
  refine sp W 0 rfl rfl rfl (fun h1 => ?_) (fun h1 => ?_)
  · refine rp W 0 rfl rfl rfl (.no (fun k => by subst k; omega))
  have h1 : l.length = m.length := by omega
  refine lp W 0 (σ := Nat) (fun i => [(0, .fz l.length (grR l)), (1, .fz m.length (grR m)), (5, .int .i64 i)]) (fun _ => []) (fun i => l.length - i) (fun i => i ≤ l.length ∧ ∀ j, j < i → l.getD j r0 = m.getD j r0) 0 [0, 1, 5] rfl rfl rfl ⟨Nat.zero_le _, fun j hj => by omega⟩ ?_
  rintro i ⟨hi, he⟩ ih
  refine sp W 0 rfl rfl rfl (fun h2 => ?_) (fun h2 => ?_)
  · have h2 : i < l.length := by omega
    have kq := eqGraphRel_ok (l.getD i r0) (m.getD i r0)
    refine dre W 0 10 [] [.pr (l.getD i r0 = m.getD i r0)] rfl rfl rfl ⟨kq.at rfl _, trivial⟩ rfl ?_
    refine sp W 0 rfl rfl rfl (fun h3 => ?_) (fun h3 => ?_)
    · refine rp W 0 rfl rfl rfl (.no (fun k => by subst k; exact h3 rfl))
    · refine bd W 0 0 [0, 1, 5] rfl rfl rfl rfl rfl (ih (i + 1) ⟨by omega, fun j hj => ?_⟩ (by omega))
      by_cases hji : j = i
      · subst hji; exact Classical.not_not.1 h3
      · exact he j (by omega)
  · refine rp W 0 rfl rfl rfl (.yes (list_eq h1 fun j hj => he j (by omega)))
theorem eqGraph_ok (v : Int) (l : List Gn) (rs : List Gr) (hl : l.length ≤ 1048576) (hr : rs.length ≤ 1048576) : AFunP Tryd.prog 20 [graphV v l rs, graphV v l rs] (· = .pr True) := by
  refine afun_of Tryd.func20 Tryd.call20 rfl Tryd.ntmps20 rfl ?_
  have W : Walk Tryd.prog TT 20 _ := Walk.of TT_ok Tryd.func20 Tryd.results20
  refine sp W 0 rfl rfl rfl (fun h1 => ?_) (fun h1 => ?_)
  · exact absurd rfl h1
  refine ce W 0 rfl rfl (eqGraphNodeS_ok l l hl hl) rfl ?_
  refine sp W 0 rfl rfl rfl (fun h2 => ?_) (fun h2 => ?_)
  · exact absurd rfl h2
  refine ce W 0 rfl rfl (eqGraphRelS_ok rs rs hr hr) rfl ?_
  refine sp W 0 rfl rfl rfl (fun h3 => ?_) (fun h3 => ?_)
  · exact absurd rfl h3
  · refine rp W 0 rfl rfl rfl (.yes trivial)
end Pf
/- GraphOk: its closures, slices.ContainsFunc -/
namespace Pf
open Go Go.Proofs
theorem getD_in {α : Type} {d : α} {l : List α} {i : Nat} (h : i < l.length) : l.getD i d ∈ l := by
  simp [List.getD_eq_getElem?_getD, h]
theorem getD_all {α : Type} {d : α} {l : List α} {q : α → Prop} (h : ∀ s, s < l.length → q (l.getD s d)) : ∀ x ∈ l, q x := by
  intro x hx
  obtain ⟨s, hs, rfl⟩ := List.getElem_of_mem hx
  have := h s hs
  simpa [List.getD_eq_getElem?_getD, hs] using this
theorem inI_ok (i k : Int) (hi : 0 ≤ i ∧ i ≤ 1048576) : AFunP Tryd.prog 54 [.int .i64 k, .fptr [.int .i64 i] 0] (· = .pr (¬(0 ≤ k ∧ k ≤ i - 1))) := by
  have k1 := in_ok k 0 (i - 1)
  refine afun_of Tryd.func54 Tryd.call54 rfl Tryd.ntmps54 rfl ?_
  have W : Walk Tryd.prog TT 54 _ := Walk.of TT_ok Tryd.func54 Tryd.results54
  refine ce W 0 rfl rfl (k1) rfl ?_
  refine rp W 0 rfl rfl rfl (.refl)
theorem indexInt_ok (i : Int) (hi : 0 ≤ i ∧ i ≤ 1048576) (L : List Int) (hL : L.length ≤ 1048576) : AFunP Tryd.prog 82 [.fi .i64 L, .fn 54 [] [.fptr [.int .i64 i] 0]] (fun u => ∃ n, u = .int .i64 n ∧ (0 ≤ n ↔ ∃ k ∈ L, ¬(0 ≤ k ∧ k ≤ i - 1))) := by
  refine afun_of Tryd.func82 Tryd.call82 rfl Tryd.ntmps82 rfl ?_
  have W : Walk Tryd.prog TT 82 _ := Walk.of TT_ok Tryd.func82 Tryd.results82
  refine lp W 0 (σ := Nat) (fun j => [(0, .fi .i64 L), (1, .fn 54 [] [.fptr [.int .i64 i] 0]), (7, .int .i64 L.length), (8, .int .i64 j)]) (fun _ => []) (fun j => L.length - j) (fun j => j ≤ L.length ∧ ∀ s, s < j → 0 ≤ L.getD s 0 ∧ L.getD s 0 ≤ i - 1) 0 [0, 1, 7, 8] rfl rfl rfl ⟨Nat.zero_le _, fun j hj => by omega⟩ ?_
  rintro j ⟨hj, he⟩ ih
  refine sp W 0 rfl rfl rfl (fun h1 => ?_) (fun h1 => ?_)
  · have h1 : j < L.length := by omega
    have kq := inI_ok i (L.getD j 0) hi
    refine ce W 0 rfl rfl (kq) rfl ?_
    refine sp W 0 rfl rfl rfl (fun h2 => ?_) (fun h2 => ?_)
    · refine rq W 0 rfl rfl (.int .i64 j) (⟨_, rfl, fun _ => ⟨L.getD j 0, getD_in h1, h2⟩, fun _ => by omega⟩) rfl .refl
    · refine bd W 0 0 [0, 1, 7, 8] rfl rfl rfl rfl rfl (ih (j + 1) ⟨by omega, fun s hs => ?_⟩ (by omega))
      by_cases hsj : s = j
      · subst hsj; exact Classical.not_not.1 h2
      · exact he s (by omega)
  · have hall := getD_all (d := 0) (l := L) (q := fun k => 0 ≤ k ∧ k ≤ i - 1) fun s hs => he s (by omega)
    refine rq W 0 rfl rfl (.int .i64 (-1)) (⟨_, rfl, fun h => by omega, fun ⟨k, hk, hn⟩ => absurd (hall k hk) hn⟩) rfl .refl
theorem containsInt_ok (i : Int) (hi : 0 ≤ i ∧ i ≤ 1048576) (L : List Int) (hL : L.length ≤ 1048576) : AFunP Tryd.prog 53 [.fi .i64 L, .fn 54 [] [.fptr [.int .i64 i] 0]] (· = .pr (∃ k ∈ L, ¬(0 ≤ k ∧ k ≤ i - 1))) := by
  refine afun_of Tryd.func53 Tryd.call53 rfl Tryd.ntmps53 rfl ?_
  have W : Walk Tryd.prog TT 53 _ := Walk.of TT_ok Tryd.func53 Tryd.results53
  refine cq W 0 rfl rfl (indexInt_ok i hi L hL) ?_
  rintro _ ⟨n, rfl, hn⟩
  refine ⟨_, rfl, ?_⟩
  refine rp W 0 rfl rfl rfl (.pr hn)
/-- A relation of nodes, of n. -/
def relP (n : Nat) (r : Gr) : Prop := (1 ≤ r.k ∧ r.k ≤ 3) ∧ (0 ≤ r.l ∧ r.l ≤ (n : Int) - 1) ∧ (0 ≤ r.r ∧ r.r ≤ (n : Int) - 1)
theorem inR_ok (v : Int) (l : List Gn) (rs : List Gr) (hl : l.length ≤ 1048576) (x : Gr) : AFunP Tryd.prog 56 [grV x, .fptr [.int .i64 v, .fz l.length (gnR l), .fz rs.length (grR rs)] 0] (· = .pr (¬ relP l.length x)) := by
  have k1 := in_ok x.k 1 3
  have k2 := in_ok x.l 0 ((l.length : Int) - 1)
  have k3 := in_ok x.r 0 ((l.length : Int) - 1)
  unfold grV
  refine afun_of Tryd.func56 Tryd.call56 rfl Tryd.ntmps56 rfl ?_
  have W : Walk Tryd.prog TT 56 _ := Walk.of TT_ok Tryd.func56 Tryd.results56
  refine ce W 0 rfl rfl (k1) rfl ?_
  refine sp W 0 rfl rfl rfl (fun h1 => ?_) (fun h1 => ?_)
  · refine rp W 0 rfl rfl rfl (.yes (fun k => h1 k.1))
  have h1 := Classical.not_not.1 h1
  refine ce W 0 rfl rfl (k2) rfl ?_
  refine sp W 0 rfl rfl rfl (fun h2 => ?_) (fun h2 => ?_)
  · refine rp W 0 rfl rfl rfl (.yes (fun k => h2 k.2.1))
  have h2 := Classical.not_not.1 h2
  refine ce W 0 rfl rfl (k3) rfl ?_
  refine rp W 0 rfl rfl rfl (.pr ⟨fun h k => h k.2.2, fun h k => h ⟨h1, h2, k⟩⟩)
theorem indexRel_ok (v : Int) (l : List Gn) (rs : List Gr) (hl : l.length ≤ 1048576) (hr : rs.length ≤ 1048576) : AFunP Tryd.prog 83 [.fz rs.length (grR rs), .fn 56 [] [.fptr [.int .i64 v, .fz l.length (gnR l), .fz rs.length (grR rs)] 0]] (fun u => ∃ n, u = .int .i64 n ∧ (0 ≤ n ↔ ∃ r ∈ rs, ¬ relP l.length r)) := by
  refine afun_of Tryd.func83 Tryd.call83 rfl Tryd.ntmps83 rfl ?_
  have W : Walk Tryd.prog TT 83 _ := Walk.of TT_ok Tryd.func83 Tryd.results83
  refine lp W 0 (σ := Nat) (fun j => [(0, .fz rs.length (grR rs)), (1, .fn 56 [] [.fptr [.int .i64 v, .fz l.length (gnR l), .fz rs.length (grR rs)] 0]), (7, .int .i64 rs.length), (8, .int .i64 j)]) (fun _ => []) (fun j => rs.length - j) (fun j => j ≤ rs.length ∧ ∀ s, s < j → relP l.length (rs.getD s r0)) 0 [0, 1, 7, 8] rfl rfl rfl ⟨Nat.zero_le _, fun j hj => by omega⟩ ?_
  rintro j ⟨hj, he⟩ ih
  refine sp W 0 rfl rfl rfl (fun h1 => ?_) (fun h1 => ?_)
  · have h1 : j < rs.length := by omega
    refine ce W 0 rfl rfl (inR_ok v l rs hl (rs.getD j r0)) rfl ?_
    refine sp W 0 rfl rfl rfl (fun h2 => ?_) (fun h2 => ?_)
    · refine rq W 0 rfl rfl (.int .i64 j) (⟨_, rfl, fun _ => ⟨rs.getD j r0, getD_in h1, h2⟩, fun _ => by omega⟩) rfl .refl
    · refine bd W 0 0 [0, 1, 7, 8] rfl rfl rfl rfl rfl (ih (j + 1) ⟨by omega, fun s hs => ?_⟩ (by omega))
      by_cases hsj : s = j
      · subst hsj; exact Classical.not_not.1 h2
      · exact he s (by omega)
  · have hall := getD_all (d := r0) (l := rs) (q := fun r => relP l.length r) fun s hs => he s (by omega)
    refine rq W 0 rfl rfl (.int .i64 (-1)) (⟨_, rfl, fun h => by omega, fun ⟨k, hk, hn⟩ => absurd (hall k hk) hn⟩) rfl .refl
theorem containsRel_ok (v : Int) (l : List Gn) (rs : List Gr) (hl : l.length ≤ 1048576) (hr : rs.length ≤ 1048576) : AFunP Tryd.prog 55 [.fz rs.length (grR rs), .fn 56 [] [.fptr [.int .i64 v, .fz l.length (gnR l), .fz rs.length (grR rs)] 0]] (· = .pr (∃ r ∈ rs, ¬ relP l.length r)) := by
  refine afun_of Tryd.func55 Tryd.call55 rfl Tryd.ntmps55 rfl ?_
  have W : Walk Tryd.prog TT 55 _ := Walk.of TT_ok Tryd.func55 Tryd.results55
  refine cq W 0 rfl rfl (indexRel_ok v l rs hl hr) ?_
  rintro _ ⟨n, rfl, hn⟩
  refine ⟨_, rfl, ?_⟩
  refine rp W 0 rfl rfl rfl (.pr hn)
end Pf
/- TermText: both sides and the law -/
namespace Pf
open Go Go.Proofs
theorem AFunP.subs {P : Program} {f : FuncId} {args args' : List AV} {Q : AV → Prop} (h : AFunP P f args Q) (hs : Subs args' args) : AFunP P f args' Q :=
  ⟨h.1, fun FM β cs w cargs hv hh => h.2 FM β cs w cargs ⟨by rw [hs.len]; exact hv.1, fun i hi => hs.get i (by rw [← hs.len]; exact hi) hi _ _ _ (hv.2 i (by rw [← hs.len]; exact hi))⟩ hh⟩
/-- A stack of texts. -/
theorem foldW_ok (l : List Nd) (hd : dep l l.length = some 1) (h100 : l.length ≤ 100) (hx : txtOk l) (ht : tiny l) : AFunP Tryd.prog 91 [termV l, .fn 92 [] []] (· = .agg [.str (tw l (l.length - 1)).1, .int .i64 (tw l (l.length - 1)).2]) := by
  obtain ⟨e1, hg⟩ := dep_ends hd
  refine afun_of Tryd.func91 Tryd.call91 rfl Tryd.ntmps91 rfl ?_
  have W : Walk Tryd.prog TT 91 _ := Walk.of TT_ok Tryd.func91 Tryd.results91
  refine atl W rfl ?_
  refine go_nilT 5 (.tab 0 0 fun _ => [.str [], .int .i64 0]) rfl rfl rfl rfl rfl ?_
  refine lp W 0 (σ := Nat × Nat × Nat × (Nat → List UInt8 × Int)) (fun s => [(1, .fn 92 [] []), (2, .ptr 0 0 0 0), (4, .ptr 1 0 0 0), (5, .sl 2 s.2.1 0 s.2.2.1), (10, .fz l.length (nodeR l)), (11, .int .i64 l.length), (12, .int .i64 s.1)]) (fun s => [.lst 0 [[.fz l.length (nodeR l)]], .lst 0 [[.str [], .int .i64 0]], .tab s.2.1 s.2.2.1 fun j => [.str (s.2.2.2 j).1, .int .i64 (s.2.2.2 j).2]]) (fun s => l.length - s.1)
    (fun s => s.1 ≤ l.length ∧ s.2.2.1 = (ends l s.1).length ∧ ∀ j, j < s.2.2.1 → s.2.2.2 j = tw l ((ends l s.1).getD j 0)) (0, 0, 0, fun _ => ([], 0)) [1, 2, 4, 5, 10, 11, 12] rfl rfl rfl ⟨Nat.zero_le _, rfl, fun j hj => by dsimp only at hj; omega⟩ ?_
  rintro ⟨i, g, n, S⟩ ⟨hi, hn, hS⟩ ih
  dsimp only at hi hn hS ih ⊢
  refine sp W 0 rfl rfl rfl (fun h1 => ?_) (fun h1 => ?_)
  · have h1 : i < l.length := by omega
    obtain ⟨z0, z1⟩ := hg i h1
    have hle := ends_le l i
    have kp := parts_ok (l.getD i (0, 0, [])).1 (l.getD i (0, 0, [])).2.1 (l.getD i (0, 0, [])).2.2 (hx i h1)
    have hz : partsZ (l.getD i (0, 0, [])).1 (l.getD i (0, 0, [])).2.1 (l.getD i (0, 0, [])).2.2 = (pn l i : Nat) := by unfold pn; unfold pz at z0 ⊢; omega
    rw [hz] at kp
    refine ce W 0 rfl rfl (kp) rfl ?_
    have ea : addN 0 ((n : Int) - (pn l i : Nat)).toNat = n - pn l i := by simp only [addN]; omega
    have hpl : ((parts l i).map (tw l)).length = pn l i := by unfold parts; rw [List.length_map, List.length_drop]; omega
    have hsum : sumL ((parts l i).map (tw l)) ≤ 1099543085056 := by
      have h := stack_len hg (Nat.le_refl _) ht i (by omega)
      have e1 : (ends l i).map (tw l) = ((ends l i).take ((ends l i).length - pn l i)).map (tw l) ++ (parts l i).map (tw l) := by
        rw [← List.map_append]
        congr 1
        exact (List.take_append_drop _ _).symm
      rw [e1, sumL_app] at h
      omega
    have kw := write_ok (l.getD i (0, 0, [])) ((parts l i).map (tw l)) (by rw [hpl]; unfold pz; exact hz) (ht i h1) hsum
    rw [← TX_eq] at kw
    refine phg W 0 10 [8, 9] rfl rfl (fun PW => ?_)
    refine phb PW 0 8 [] [] rfl rfl trivial rfl rfl rfl ?_ (kw.subs ⟨.refl, .fzn ?_ ?_, trivial⟩) ?_
    · rintro _ rfl; rfl
    · rw [hpl]; omega
    · intro j hj
      have ea2 : ((n : Int) - (pn l i : Nat)).toNat = n - pn l i := by omega
      have eo : addN (0 + ((n : Int) - (pn l i : Nat)).toNat) j = n - pn l i + j := by rw [ea2]; cases h : 0 + (n - pn l i) <;> simp only [addN] <;> omega
      have hj2 : j < pn l i := by omega
      have hs := hS (n - pn l i + j) (by omega)
      show [AV.str (S (addN (0 + ((n : Int) - (pn l i : Nat)).toNat) j)).1, AV.int .i64 (S (addN (0 + ((n : Int) - (pn l i : Nat)).toNat) j)).2] = wrR ((parts l i).map (tw l)) j
      unfold wrR
      have e2 : ((parts l i).map (tw l)).getD j w0 = tw l ((ends l i).getD (n - pn l i + j) 0) := by
        have h2 : n - pn l i + j < (ends l i).length := by omega
        unfold parts
        simp only [List.getD_eq_getElem?_getD, List.getElem?_map, List.getElem?_drop, ← hn]
        rw [List.getElem?_eq_getElem h2]
        rfl
      rw [eo, hs, e2]
    rintro _ rfl
    refine ⟨_, rfl, ?_⟩
    refine pho PW 0 9 [] [] rfl rfl trivial rfl rfl ?_
    refine phe PW 0 [] [] rfl trivial rfl ?_
    refine bd W 0 3 [1, 2, 4, 5, 10, 11, 12] rfl rfl rfl rfl rfl (ih (i + 1, g + 1, ((n : Int) - (pn l i : Nat)).toNat + 1, fun j => (if j < addN 0 ((n : Int) - (pn l i : Nat)).toNat then (S j).1 else TX l i, if j < addN 0 ((n : Int) - (pn l i : Nat)).toNat then (S j).2 else lvl (l.getD i (0, 0, [])).1)) ⟨by dsimp only; omega, by dsimp only; rw [ends_len hg h1]; omega, fun j hj => ?_⟩ (by dsimp only; omega))
    dsimp only at hj ⊢
    rw [ea]
    by_cases hji : j < n - pn l i
    · rw [if_pos hji, if_pos hji, hS j (by omega), ends_old hg h1 (by omega)]
    · have hj2 : j = (ends l (i + 1)).length - 1 := by rw [ends_len hg h1]; omega
      rw [if_neg hji, if_neg hji, hj2, ends_last]
      rfl
  · have hil : i = l.length := by omega
    subst hil
    have hpos : 1 ≤ l.length := by
      rcases (by omega : l.length = 0 ∨ 1 ≤ l.length) with h | h
      · rw [h] at hd; simp [dep] at hd
      · exact h
    have hn1 : n = 1 := by omega
    have e0 : S (addN 0 (0 : Int).toNat) = tw l (l.length - 1) := by
      obtain ⟨b, hb⟩ : ∃ b, l.length = b + 1 := ⟨l.length - 1, by omega⟩
      have h2 := ends_last (l := l) (i := b)
      rw [← hb, show (ends l l.length).length - 1 = 0 by omega] at h2
      rw [show addN 0 (0 : Int).toNat = 0 by simp [addN], hS 0 (by omega), h2]
      congr 1
      omega
    refine rp W 0 rfl rfl rfl (.agg ⟨.eq (by rw [e0]), .int (by rw [e0]), trivial⟩)
theorem implText_ok (l : List Nd) (hd : termP l) (hx : txtOk l) (ht : tiny l) : AFunP Tryd.prog 70 [termV l] (· = .str (TX l (l.length - 1))) := by
  refine afun_of Tryd.func70 Tryd.call70 rfl Tryd.ntmps70 rfl ?_
  have W : Walk Tryd.prog TT 70 _ := Walk.of TT_ok Tryd.func70 Tryd.results70
  refine ce W 0 rfl rfl (foldW_ok l hd.2 hd.1 hx ht) rfl ?_
  refine rp W 0 rfl rfl rfl (.refl)
open Classical in
noncomputable def textZ (l : List Nd) : List UInt8 := if termP l then TX l (l.length - 1) else []
theorem implTermText_ok (l : List Nd) (hx : txtOk l) (ht : tiny l) (hl : l.length ≤ 1048576) : AFunP Tryd.prog 36 [termV l] (· = .str (textZ l)) := by
  refine afun_of Tryd.func36 Tryd.call36 rfl Tryd.ntmps36 rfl ?_
  have W : Walk Tryd.prog TT 36 _ := Walk.of TT_ok Tryd.func36 Tryd.results36
  refine ce W 0 rfl rfl (implTermOk_ok l hx hl) rfl ?_
  refine sp W 0 rfl rfl rfl (fun h1 => ?_) (fun h1 => ?_)
  · have e : textZ l = [] := by unfold textZ; exact if_neg h1
    refine rp W 0 rfl rfl rfl (.eq (by rw [e] <;> rfl))
  · have h1 : termP l := Classical.not_not.1 h1
    have e : textZ l = TX l (l.length - 1) := by unfold textZ; exact if_pos h1
    refine ce W 0 rfl rfl (implText_ok l h1 hx ht) rfl ?_
    refine rp W 0 rfl rfl rfl (.eq (by rw [e]))
theorem len_one {α : Type} {l : List α} (h : l.length = 1) : ∃ p, l = [p] := by
  match l, h with
  | [p], _ => exact ⟨p, rfl⟩
theorem len_two {α : Type} {l : List α} (h : l.length = 2) : ∃ p q, l = [p, q] := by
  match l, h with
  | [p, q], _ => exact ⟨p, q, rfl⟩
theorem pz_kind {x : Nd} (h : 0 ≤ pz x) : (x.1 = 3 ∨ x.1 = 9 ∨ x.1 = 10 → pz x = 1) ∧ (x.1 = 4 ∨ x.1 = 5 ∨ x.1 = 6 ∨ x.1 = 7 ∨ x.1 = 11 ∨ x.1 = 12 → pz x = 2) ∧ (x.1 = 8 → pz x = 1 ∧ 0 ≤ x.2.1 ∧ x.2.1 ≤ 8) ∧ (1 ≤ x.1 ∧ x.1 ≤ 13) := by
  unfold pz partsZ at h ⊢
  refine ⟨fun k => ?_, fun k => ?_, fun k => ?_, ?_⟩
  all_goals (repeat' split at h)
  all_goals first | omega | (repeat' split) <;> omega
theorem brk_one (l : List Nd) (p : Nat) : brk (tw l p) 1 = TX l p := by
  have := (lvl_rng (l.getD p (0, 0, [])).1).1
  unfold brk tw
  rw [if_neg (by dsimp only; omega)]
theorem sum_le (l : List Nd) (B : Nat) : ∀ (P : List Nat), (∀ p ∈ P, (TX l p).length ≤ B) → Lib.lens (P.map (TX l)) ≤ P.length * B
  | [], _ => Nat.zero_le _
  | p :: P, h => by
    have h1 := h p (List.mem_cons_self ..)
    have h2 := sum_le l B P fun q hq => h q (List.mem_cons_of_mem _ hq)
    have e : Lib.lens ((p :: P).map (TX l)) = (TX l p).length + Lib.lens (P.map (TX l)) := rfl
    rw [e, List.length_cons, Nat.succ_mul]
    omega
theorem join_take {l : List Nd} {n : Nat} (hg : good l n) (hn : n ≤ l.length) (ht : tiny l) (h100 : n ≤ 1048576) {P : List Nat} (h6 : P.length ≤ 6) (hP : ∀ p ∈ P, p < n) (i : Nat) : (Lib.join ((P.take i).map (TX l)) [44, 32]).length ≤ 6597258510348 := by
  have h := sum_le l 1099543085056 (P.take i) fun p hp => TX_len hg hn ht h100 (hP p (List.mem_of_mem_take hp))
  have hl : (P.take i).length ≤ 6 := by rw [List.length_take]; omega
  generalize P.take i = Q at h hl
  cases Q with
  | nil => simp [Lib.join_nil]
  | cons q Q =>
    rw [List.map_cons] at h ⊢
    rw [Lib.join_length]
    simp only [List.length_map, List.length_cons, List.length_nil] at hl ⊢
    have : (Q.length + 1) * 1099543085056 ≤ 6 * 1099543085056 := Nat.mul_le_mul_right _ hl
    rw [List.length_cons] at h
    omega
theorem join_snoc (xs : List (List UInt8)) (y sep : List UInt8) : Lib.join (xs ++ [y]) sep = if xs = [] then y else Lib.join xs sep ++ sep ++ y := by
  cases xs with
  | nil => simp [Lib.join_one]
  | cons x xs =>
    rw [List.cons_append, Lib.join_cons, Lib.join_cons, if_neg (by simp)]
    simp [Lib.joinTail]
theorem map_tw (l : List Nd) (P : List Nat) : (P.map (tw l)).map Prod.fst = P.map (TX l) := by rw [List.map_map]; rfl
/-- Where the parts of a part are. -/
theorem show_ok (l : List Nd) (n : Nat) (hg : good l n) (hl : l.length ≤ 1048576) (hn : n ≤ l.length) (hx : txtOk l) (ht : tiny l) : ∀ a, a < n → ∀ lv : Int, 1 ≤ lv ∧ lv ≤ 5 → AFunP Tryd.prog 69 [termV l, .int .i64 (a : Nat), .int .i64 lv] (· = .str (brk (tw l a) lv)) := by
  intro a
  induction a using Nat.strongRecOn with
  | ind a IH =>
    intro ha
    have hlen := TX_len hg hn ht (by omega) ha
    have kl := level_ok (l.getD a (0, 0, [])).1 (l.getD a (0, 0, [])).2.1 (l.getD a (0, 0, [])).2.2
    have kq := parts_spec l n a hg ha hl hn hx
    have hlv := lvl_rng (l.getD a (0, 0, [])).1
    -- first: where it holds together tightly enough
    have main : ∀ lv : Int, 1 ≤ lv ∧ lv ≤ lvl (l.getD a (0, 0, [])).1 → AFunP Tryd.prog 69 [termV l, .int .i64 (a : Nat), .int .i64 lv] (· = .str (TX l a)) := by
      intro lv hlv2
      refine afun_of Tryd.func69 Tryd.call69 rfl Tryd.ntmps69 rfl ?_
      have W : Walk Tryd.prog TT 69 _ := Walk.of TT_ok Tryd.func69 Tryd.results69
      refine ce W 0 rfl rfl (kl) rfl ?_
      refine sp W 0 rfl rfl rfl (fun h1 => ?_) (fun h1 => ?_)
      · exfalso; omega
      refine ce W 0 rfl rfl (kq) rfl ?_
      have hlt6 : (parts l a).length ≤ 6 := by have := pn_le (l := l) (i := a) (.inr trivial); unfold parts; rw [List.length_drop]; omega
      have hlt : ∀ p ∈ parts l a, p < a := fun p hp => ends_lt (List.mem_of_mem_drop hp)
      have hlen' : (parts l a).length = pn l a := by unfold parts; rw [List.length_drop]; have := (hg a ha).2; omega
      have hpnz : pn l a = (pz (l.getD a (0, 0, []))).toNat := rfl
      have hz0 := (hg a ha).1
      obtain ⟨z1, z2, z8, zz⟩ := pz_kind hz0
      have aN : ((a : Nat) : Int).toNat = a := Int.toNat_natCast a
      rw [aN]
      obtain ⟨x, hxe⟩ : ∃ x, x = l.getD a (0, 0, []) := ⟨_, rfl⟩
      rw [← hxe] at hz0 z1 z2 z8 zz hpnz
      rw [← hxe]
      have hxt : x.2.2.length ≤ 1048576 := by rw [hxe]; exact ht a (by omega)
      have hbt : (bytesT [48 + x.2.1]).length = 1 := rfl
      refine sp W 0 rfl rfl rfl (fun s1 => ?_) (fun s1 => ?_)
      · refine rp W 0 rfl rfl rfl (.eq (by rw [TX_eq, ← hxe]; unfold wr; rw [s1]; rfl))
      refine sp W 0 rfl rfl rfl (fun s2 => ?_) (fun s2 => ?_)
      · refine rp W 0 rfl rfl rfl (.eq (by rw [TX_eq, ← hxe]; unfold wr; rw [s2]; rfl))
      refine sp W 0 rfl rfl rfl (fun s3 => ?_) (fun s3 => ?_)
      · have z := z1 (.inl s3)
        obtain ⟨p, hp⟩ : ∃ p, parts l a = [p] := len_one (by rw [hlen', hpnz]; omega)
        have hpa := hlt p (by rw [hp]; simp)
        rw [hp]
        obtain ⟨B0, hB0, hl0⟩ : ∃ B, B = brk (tw l p) 3 ∧ B.length ≤ 1099543085058 := ⟨_, rfl, by have := brk_len (tw l p) 3; have := TX_len hg hn ht (by omega) (show p < n by omega); unfold tw at *; dsimp only at *; omega⟩
        have kb0 := IH p hpa (by omega) 3 ⟨by omega, by omega⟩
        rw [← hB0] at kb0
        refine dre W 0 5 [] [.str B0] rfl rfl rfl ⟨kb0.at rfl _, trivial⟩ rfl ?_
        refine rp W 0 rfl rfl rfl (.eq (by rw [TX_eq, hp, ← hxe]; unfold wr; simp only [List.map_cons, List.map_nil, List.getD_cons_zero]; rw [if_pos s3, ← hB0] <;> rfl))
      refine sp W 0 rfl rfl rfl (fun s4 => ?_) (fun s4 => ?_)
      · have z := z2 (by omega)
        obtain ⟨p, q, hp⟩ : ∃ p q, parts l a = [p, q] := len_two (by rw [hlen', hpnz]; omega)
        have hpa := hlt p (by rw [hp]; simp)
        have hqa := hlt q (by rw [hp]; simp)
        rw [hp]
        obtain ⟨B0, hB0, hl0⟩ : ∃ B, B = brk (tw l p) 1 ∧ B.length ≤ 1099543085058 := ⟨_, rfl, by have := brk_len (tw l p) 1; have := TX_len hg hn ht (by omega) (show p < n by omega); unfold tw at *; dsimp only at *; omega⟩
        have kb0 := IH p hpa (by omega) 1 ⟨by omega, by omega⟩
        rw [← hB0] at kb0
        obtain ⟨B1, hB1, hl1⟩ : ∃ B, B = brk (tw l q) 2 ∧ B.length ≤ 1099543085058 := ⟨_, rfl, by have := brk_len (tw l q) 2; have := TX_len hg hn ht (by omega) (show q < n by omega); unfold tw at *; dsimp only at *; omega⟩
        have kb1 := IH q hqa (by omega) 2 ⟨by omega, by omega⟩
        rw [← hB1] at kb1
        refine dre W 0 11 [] [.str B0, .str B1] rfl rfl rfl ⟨kb0.at rfl _, kb1.at rfl _, trivial⟩ rfl ?_
        refine rp W 0 rfl rfl rfl (.eq (by rw [TX_eq, hp, ← hxe]; unfold wr; simp only [List.map_cons, List.map_nil, List.getD_cons_zero, List.getD_cons_succ]; rw [if_neg s3, if_pos s4, ← hB0, ← hB1] <;> rfl))
      refine sp W 0 rfl rfl rfl (fun s5 => ?_) (fun s5 => ?_)
      · have z := z2 (by omega)
        obtain ⟨p, q, hp⟩ : ∃ p q, parts l a = [p, q] := len_two (by rw [hlen', hpnz]; omega)
        have hpa := hlt p (by rw [hp]; simp)
        have hqa := hlt q (by rw [hp]; simp)
        rw [hp]
        obtain ⟨B0, hB0, hl0⟩ : ∃ B, B = brk (tw l p) 1 ∧ B.length ≤ 1099543085058 := ⟨_, rfl, by have := brk_len (tw l p) 1; have := TX_len hg hn ht (by omega) (show p < n by omega); unfold tw at *; dsimp only at *; omega⟩
        have kb0 := IH p hpa (by omega) 1 ⟨by omega, by omega⟩
        rw [← hB0] at kb0
        obtain ⟨B1, hB1, hl1⟩ : ∃ B, B = brk (tw l q) 2 ∧ B.length ≤ 1099543085058 := ⟨_, rfl, by have := brk_len (tw l q) 2; have := TX_len hg hn ht (by omega) (show q < n by omega); unfold tw at *; dsimp only at *; omega⟩
        have kb1 := IH q hqa (by omega) 2 ⟨by omega, by omega⟩
        rw [← hB1] at kb1
        refine dre W 0 11 [] [.str B0, .str B1] rfl rfl rfl ⟨kb0.at rfl _, kb1.at rfl _, trivial⟩ rfl ?_
        refine rp W 0 rfl rfl rfl (.eq (by rw [TX_eq, hp, ← hxe]; unfold wr; simp only [List.map_cons, List.map_nil, List.getD_cons_zero, List.getD_cons_succ]; rw [if_neg s3, if_neg s4, if_pos s5, ← hB0, ← hB1] <;> rfl))
      refine sp W 0 rfl rfl rfl (fun s6 => ?_) (fun s6 => ?_)
      · have z := z2 (by omega)
        obtain ⟨p, q, hp⟩ : ∃ p q, parts l a = [p, q] := len_two (by rw [hlen', hpnz]; omega)
        have hpa := hlt p (by rw [hp]; simp)
        have hqa := hlt q (by rw [hp]; simp)
        rw [hp]
        obtain ⟨B0, hB0, hl0⟩ : ∃ B, B = brk (tw l p) 2 ∧ B.length ≤ 1099543085058 := ⟨_, rfl, by have := brk_len (tw l p) 2; have := TX_len hg hn ht (by omega) (show p < n by omega); unfold tw at *; dsimp only at *; omega⟩
        have kb0 := IH p hpa (by omega) 2 ⟨by omega, by omega⟩
        rw [← hB0] at kb0
        obtain ⟨B1, hB1, hl1⟩ : ∃ B, B = brk (tw l q) 3 ∧ B.length ≤ 1099543085058 := ⟨_, rfl, by have := brk_len (tw l q) 3; have := TX_len hg hn ht (by omega) (show q < n by omega); unfold tw at *; dsimp only at *; omega⟩
        have kb1 := IH q hqa (by omega) 3 ⟨by omega, by omega⟩
        rw [← hB1] at kb1
        refine dre W 0 11 [] [.str B0, .str B1] rfl rfl rfl ⟨kb0.at rfl _, kb1.at rfl _, trivial⟩ rfl ?_
        refine rp W 0 rfl rfl rfl (.eq (by rw [TX_eq, hp, ← hxe]; unfold wr; simp only [List.map_cons, List.map_nil, List.getD_cons_zero, List.getD_cons_succ]; rw [if_neg s3, if_neg s4, if_neg s5, if_pos s6, ← hB0, ← hB1] <;> rfl))
      refine sp W 0 rfl rfl rfl (fun s7 => ?_) (fun s7 => ?_)
      · have z := z2 (by omega)
        obtain ⟨p, q, hp⟩ : ∃ p q, parts l a = [p, q] := len_two (by rw [hlen', hpnz]; omega)
        have hpa := hlt p (by rw [hp]; simp)
        have hqa := hlt q (by rw [hp]; simp)
        rw [hp]
        obtain ⟨B0, hB0, hl0⟩ : ∃ B, B = brk (tw l p) 2 ∧ B.length ≤ 1099543085058 := ⟨_, rfl, by have := brk_len (tw l p) 2; have := TX_len hg hn ht (by omega) (show p < n by omega); unfold tw at *; dsimp only at *; omega⟩
        have kb0 := IH p hpa (by omega) 2 ⟨by omega, by omega⟩
        rw [← hB0] at kb0
        obtain ⟨B1, hB1, hl1⟩ : ∃ B, B = brk (tw l q) 3 ∧ B.length ≤ 1099543085058 := ⟨_, rfl, by have := brk_len (tw l q) 3; have := TX_len hg hn ht (by omega) (show q < n by omega); unfold tw at *; dsimp only at *; omega⟩
        have kb1 := IH q hqa (by omega) 3 ⟨by omega, by omega⟩
        rw [← hB1] at kb1
        refine dre W 0 11 [] [.str B0, .str B1] rfl rfl rfl ⟨kb0.at rfl _, kb1.at rfl _, trivial⟩ rfl ?_
        refine rp W 0 rfl rfl rfl (.eq (by rw [TX_eq, hp, ← hxe]; unfold wr; simp only [List.map_cons, List.map_nil, List.getD_cons_zero, List.getD_cons_succ]; rw [if_neg s3, if_neg s4, if_neg s5, if_neg s6, if_pos s7, ← hB0, ← hB1] <;> rfl))
      refine sp W 0 rfl rfl rfl (fun s8 => ?_) (fun s8 => ?_)
      · have z := z8 s8
        obtain ⟨p, hp⟩ : ∃ p, parts l a = [p] := len_one (by rw [hlen', hpnz]; omega)
        have hpa := hlt p (by rw [hp]; simp)
        rw [hp]
        obtain ⟨B0, hB0, hl0⟩ : ∃ B, B = brk (tw l p) 5 ∧ B.length ≤ 1099543085058 := ⟨_, rfl, by have := brk_len (tw l p) 5; have := TX_len hg hn ht (by omega) (show p < n by omega); unfold tw at *; dsimp only at *; omega⟩
        have kb0 := IH p hpa (by omega) 5 ⟨by omega, by omega⟩
        rw [← hB0] at kb0
        refine phg W 0 12 [10] rfl rfl (fun PW => ?_)
        refine pho PW 0 10 [] [.str B0] rfl rfl ⟨kb0.at rfl _, trivial⟩ rfl rfl ?_
        refine phe PW 0 [] [.str B0] rfl ⟨kb0.at rfl _, trivial⟩ rfl ?_
        refine rp W 0 rfl rfl rfl (.eq (by rw [TX_eq, hp, ← hxe]; unfold wr; simp only [List.map_cons, List.map_nil, List.getD_cons_zero]; rw [if_neg s3, if_neg s4, if_neg s5, if_neg s6, if_neg s7, if_pos s8, ← hB0] <;> rfl))
      refine sp W 0 rfl rfl rfl (fun s9 => ?_) (fun s9 => ?_)
      · skip
        refine atl W rfl ?_
        refine lp W 0 (σ := Nat × List UInt8) (fun s => [(3, .ptr 0 0 0 0), (8, .fi .i64 ((parts l a).map Int.ofNat)), (10, .str s.2), (11, .int .i64 s.1)]) (fun _ => [.lst 0 [[.fz l.length (nodeR l)]], .lst 0 [[.int .i64 x.1, .int .i64 x.2.1, .str x.2.2]]]) (fun s => (parts l a).length - s.1) (fun s => s.1 ≤ (parts l a).length ∧ s.2 = [115, 113, 114, 116] ++ [40] ++ Lib.join (((parts l a).take s.1).map (TX l)) [44, 32]) (0, [115, 113, 114, 116] ++ [40]) [3, 8, 10, 11] rfl rfl rfl ⟨Nat.zero_le _, by simp [Lib.join_nil]⟩ ?_
        rintro ⟨i, out⟩ ⟨hi, ho⟩ ih
        dsimp only at hi ho ih ⊢
        have hol : out.length ≤ 1125899906842624 := by
          have h9 := join_take (l := l) (n := n) hg hn ht (by omega) hlt6 (fun p hp => by have := hlt p hp; omega) i
          rw [ho]
          simp only [List.length_append, List.length_cons, List.length_nil]
          omega
        refine sp W 0 rfl rfl rfl (fun c1 => ?_) (fun c1 => ?_)
        · have c1 : i < (parts l a).length := by simpa using c1
          have hpi := hlt ((parts l a).getD i 0) (getD_in c1)
          have ks := IH ((parts l a).getD i 0) hpi (by omega) 1 ⟨by omega, by omega⟩
          rw [show brk (tw l ((parts l a).getD i 0)) 1 = TX l ((parts l a).getD i 0) from brk_one _ _] at ks
          have hTl := TX_len hg hn ht (by omega) (show (parts l a).getD i 0 < n by omega)
          have eP : ((parts l a).map Int.ofNat).getD ((i : Nat) : Int).toNat 0 = (((parts l a).getD i 0 : Nat) : Int) := by rw [Int.toNat_natCast]; simp [List.getD_eq_getElem?_getD, c1]
          have et : ((parts l a).take (i + 1)).map (TX l) = ((parts l a).take i).map (TX l) ++ [TX l ((parts l a).getD i 0)] := by
            rw [← List.take_append_getElem c1, List.map_append]
            simp [List.getD_eq_getElem?_getD, c1]
          generalize hTX : TX l ((parts l a).getD i 0) = X at ks hTl et
          rw [← eP] at ks
          refine sp W 0 rfl rfl rfl (fun c2 => ?_) (fun c2 => ?_)
          · have c2 : 0 < i := by omega
            refine dre W 0 7 [] [.str X] rfl rfl rfl ⟨ks.at rfl _, trivial⟩ rfl ?_
            refine bd W 0 2 [3, 8, 10, 11] rfl rfl rfl rfl rfl (ih (i + 1, out ++ [44, 32] ++ X) ⟨by dsimp only; omega, ?_⟩ (by dsimp only; omega))
            dsimp only
            rw [et, join_snoc, if_neg (by intro h; have := congrArg List.length h; rw [List.length_map, List.length_take, List.length_nil] at this; omega), ho]
            simp only [List.append_assoc]
          · have c2 : i = 0 := by omega
            subst c2
            refine dre W 0 7 [] [.str X] rfl rfl rfl ⟨ks.at rfl _, trivial⟩ rfl ?_
            refine bd W 0 2 [3, 8, 10, 11] rfl rfl rfl rfl rfl (ih (0 + 1, out ++ X) ⟨by dsimp only; omega, ?_⟩ (by dsimp only; omega))
            dsimp only
            rw [et, join_snoc, if_pos (by simp), ho]
            simp [Lib.join_nil]
        · have hil : i = (parts l a).length := by simp at c1; omega
          subst hil
          rw [List.take_length] at ho
          refine rp W 0 rfl rfl rfl (.eq (by rw [TX_eq, ← hxe]; unfold wr; rw [if_neg s3, if_neg s4, if_neg s5, if_neg s6, if_neg s7, if_neg s8, if_pos s9]; unfold callT; rw [map_tw, ho] <;> rfl))
      refine sp W 0 rfl rfl rfl (fun s10 => ?_) (fun s10 => ?_)
      · skip
        refine atl W rfl ?_
        refine lp W 0 (σ := Nat × List UInt8) (fun s => [(3, .ptr 0 0 0 0), (8, .fi .i64 ((parts l a).map Int.ofNat)), (10, .str s.2), (11, .int .i64 s.1)]) (fun _ => [.lst 0 [[.fz l.length (nodeR l)]], .lst 0 [[.int .i64 x.1, .int .i64 x.2.1, .str x.2.2]]]) (fun s => (parts l a).length - s.1) (fun s => s.1 ≤ (parts l a).length ∧ s.2 = [97, 98, 115] ++ [40] ++ Lib.join (((parts l a).take s.1).map (TX l)) [44, 32]) (0, [97, 98, 115] ++ [40]) [3, 8, 10, 11] rfl rfl rfl ⟨Nat.zero_le _, by simp [Lib.join_nil]⟩ ?_
        rintro ⟨i, out⟩ ⟨hi, ho⟩ ih
        dsimp only at hi ho ih ⊢
        have hol : out.length ≤ 1125899906842624 := by
          have h9 := join_take (l := l) (n := n) hg hn ht (by omega) hlt6 (fun p hp => by have := hlt p hp; omega) i
          rw [ho]
          simp only [List.length_append, List.length_cons, List.length_nil]
          omega
        refine sp W 0 rfl rfl rfl (fun c1 => ?_) (fun c1 => ?_)
        · have c1 : i < (parts l a).length := by simpa using c1
          have hpi := hlt ((parts l a).getD i 0) (getD_in c1)
          have ks := IH ((parts l a).getD i 0) hpi (by omega) 1 ⟨by omega, by omega⟩
          rw [show brk (tw l ((parts l a).getD i 0)) 1 = TX l ((parts l a).getD i 0) from brk_one _ _] at ks
          have hTl := TX_len hg hn ht (by omega) (show (parts l a).getD i 0 < n by omega)
          have eP : ((parts l a).map Int.ofNat).getD ((i : Nat) : Int).toNat 0 = (((parts l a).getD i 0 : Nat) : Int) := by rw [Int.toNat_natCast]; simp [List.getD_eq_getElem?_getD, c1]
          have et : ((parts l a).take (i + 1)).map (TX l) = ((parts l a).take i).map (TX l) ++ [TX l ((parts l a).getD i 0)] := by
            rw [← List.take_append_getElem c1, List.map_append]
            simp [List.getD_eq_getElem?_getD, c1]
          generalize hTX : TX l ((parts l a).getD i 0) = X at ks hTl et
          rw [← eP] at ks
          refine sp W 0 rfl rfl rfl (fun c2 => ?_) (fun c2 => ?_)
          · have c2 : 0 < i := by omega
            refine dre W 0 7 [] [.str X] rfl rfl rfl ⟨ks.at rfl _, trivial⟩ rfl ?_
            refine bd W 0 2 [3, 8, 10, 11] rfl rfl rfl rfl rfl (ih (i + 1, out ++ [44, 32] ++ X) ⟨by dsimp only; omega, ?_⟩ (by dsimp only; omega))
            dsimp only
            rw [et, join_snoc, if_neg (by intro h; have := congrArg List.length h; rw [List.length_map, List.length_take, List.length_nil] at this; omega), ho]
            simp only [List.append_assoc]
          · have c2 : i = 0 := by omega
            subst c2
            refine dre W 0 7 [] [.str X] rfl rfl rfl ⟨ks.at rfl _, trivial⟩ rfl ?_
            refine bd W 0 2 [3, 8, 10, 11] rfl rfl rfl rfl rfl (ih (0 + 1, out ++ X) ⟨by dsimp only; omega, ?_⟩ (by dsimp only; omega))
            dsimp only
            rw [et, join_snoc, if_pos (by simp), ho]
            simp [Lib.join_nil]
        · have hil : i = (parts l a).length := by simp at c1; omega
          subst hil
          rw [List.take_length] at ho
          refine rp W 0 rfl rfl rfl (.eq (by rw [TX_eq, ← hxe]; unfold wr; rw [if_neg s3, if_neg s4, if_neg s5, if_neg s6, if_neg s7, if_neg s8, if_neg s9, if_pos s10]; unfold callT; rw [map_tw, ho] <;> rfl))
      refine sp W 0 rfl rfl rfl (fun s11 => ?_) (fun s11 => ?_)
      · skip
        refine atl W rfl ?_
        refine lp W 0 (σ := Nat × List UInt8) (fun s => [(3, .ptr 0 0 0 0), (8, .fi .i64 ((parts l a).map Int.ofNat)), (10, .str s.2), (11, .int .i64 s.1)]) (fun _ => [.lst 0 [[.fz l.length (nodeR l)]], .lst 0 [[.int .i64 x.1, .int .i64 x.2.1, .str x.2.2]]]) (fun s => (parts l a).length - s.1) (fun s => s.1 ≤ (parts l a).length ∧ s.2 = [109, 105, 110] ++ [40] ++ Lib.join (((parts l a).take s.1).map (TX l)) [44, 32]) (0, [109, 105, 110] ++ [40]) [3, 8, 10, 11] rfl rfl rfl ⟨Nat.zero_le _, by simp [Lib.join_nil]⟩ ?_
        rintro ⟨i, out⟩ ⟨hi, ho⟩ ih
        dsimp only at hi ho ih ⊢
        have hol : out.length ≤ 1125899906842624 := by
          have h9 := join_take (l := l) (n := n) hg hn ht (by omega) hlt6 (fun p hp => by have := hlt p hp; omega) i
          rw [ho]
          simp only [List.length_append, List.length_cons, List.length_nil]
          omega
        refine sp W 0 rfl rfl rfl (fun c1 => ?_) (fun c1 => ?_)
        · have c1 : i < (parts l a).length := by simpa using c1
          have hpi := hlt ((parts l a).getD i 0) (getD_in c1)
          have ks := IH ((parts l a).getD i 0) hpi (by omega) 1 ⟨by omega, by omega⟩
          rw [show brk (tw l ((parts l a).getD i 0)) 1 = TX l ((parts l a).getD i 0) from brk_one _ _] at ks
          have hTl := TX_len hg hn ht (by omega) (show (parts l a).getD i 0 < n by omega)
          have eP : ((parts l a).map Int.ofNat).getD ((i : Nat) : Int).toNat 0 = (((parts l a).getD i 0 : Nat) : Int) := by rw [Int.toNat_natCast]; simp [List.getD_eq_getElem?_getD, c1]
          have et : ((parts l a).take (i + 1)).map (TX l) = ((parts l a).take i).map (TX l) ++ [TX l ((parts l a).getD i 0)] := by
            rw [← List.take_append_getElem c1, List.map_append]
            simp [List.getD_eq_getElem?_getD, c1]
          generalize hTX : TX l ((parts l a).getD i 0) = X at ks hTl et
          rw [← eP] at ks
          refine sp W 0 rfl rfl rfl (fun c2 => ?_) (fun c2 => ?_)
          · have c2 : 0 < i := by omega
            refine dre W 0 7 [] [.str X] rfl rfl rfl ⟨ks.at rfl _, trivial⟩ rfl ?_
            refine bd W 0 2 [3, 8, 10, 11] rfl rfl rfl rfl rfl (ih (i + 1, out ++ [44, 32] ++ X) ⟨by dsimp only; omega, ?_⟩ (by dsimp only; omega))
            dsimp only
            rw [et, join_snoc, if_neg (by intro h; have := congrArg List.length h; rw [List.length_map, List.length_take, List.length_nil] at this; omega), ho]
            simp only [List.append_assoc]
          · have c2 : i = 0 := by omega
            subst c2
            refine dre W 0 7 [] [.str X] rfl rfl rfl ⟨ks.at rfl _, trivial⟩ rfl ?_
            refine bd W 0 2 [3, 8, 10, 11] rfl rfl rfl rfl rfl (ih (0 + 1, out ++ X) ⟨by dsimp only; omega, ?_⟩ (by dsimp only; omega))
            dsimp only
            rw [et, join_snoc, if_pos (by simp), ho]
            simp [Lib.join_nil]
        · have hil : i = (parts l a).length := by simp at c1; omega
          subst hil
          rw [List.take_length] at ho
          refine rp W 0 rfl rfl rfl (.eq (by rw [TX_eq, ← hxe]; unfold wr; rw [if_neg s3, if_neg s4, if_neg s5, if_neg s6, if_neg s7, if_neg s8, if_neg s9, if_neg s10, if_pos s11]; unfold callT; rw [map_tw, ho] <;> rfl))
      refine sp W 0 rfl rfl rfl (fun s12 => ?_) (fun s12 => ?_)
      · skip
        refine atl W rfl ?_
        refine lp W 0 (σ := Nat × List UInt8) (fun s => [(3, .ptr 0 0 0 0), (8, .fi .i64 ((parts l a).map Int.ofNat)), (10, .str s.2), (11, .int .i64 s.1)]) (fun _ => [.lst 0 [[.fz l.length (nodeR l)]], .lst 0 [[.int .i64 x.1, .int .i64 x.2.1, .str x.2.2]]]) (fun s => (parts l a).length - s.1) (fun s => s.1 ≤ (parts l a).length ∧ s.2 = [109, 97, 120] ++ [40] ++ Lib.join (((parts l a).take s.1).map (TX l)) [44, 32]) (0, [109, 97, 120] ++ [40]) [3, 8, 10, 11] rfl rfl rfl ⟨Nat.zero_le _, by simp [Lib.join_nil]⟩ ?_
        rintro ⟨i, out⟩ ⟨hi, ho⟩ ih
        dsimp only at hi ho ih ⊢
        have hol : out.length ≤ 1125899906842624 := by
          have h9 := join_take (l := l) (n := n) hg hn ht (by omega) hlt6 (fun p hp => by have := hlt p hp; omega) i
          rw [ho]
          simp only [List.length_append, List.length_cons, List.length_nil]
          omega
        refine sp W 0 rfl rfl rfl (fun c1 => ?_) (fun c1 => ?_)
        · have c1 : i < (parts l a).length := by simpa using c1
          have hpi := hlt ((parts l a).getD i 0) (getD_in c1)
          have ks := IH ((parts l a).getD i 0) hpi (by omega) 1 ⟨by omega, by omega⟩
          rw [show brk (tw l ((parts l a).getD i 0)) 1 = TX l ((parts l a).getD i 0) from brk_one _ _] at ks
          have hTl := TX_len hg hn ht (by omega) (show (parts l a).getD i 0 < n by omega)
          have eP : ((parts l a).map Int.ofNat).getD ((i : Nat) : Int).toNat 0 = (((parts l a).getD i 0 : Nat) : Int) := by rw [Int.toNat_natCast]; simp [List.getD_eq_getElem?_getD, c1]
          have et : ((parts l a).take (i + 1)).map (TX l) = ((parts l a).take i).map (TX l) ++ [TX l ((parts l a).getD i 0)] := by
            rw [← List.take_append_getElem c1, List.map_append]
            simp [List.getD_eq_getElem?_getD, c1]
          generalize hTX : TX l ((parts l a).getD i 0) = X at ks hTl et
          rw [← eP] at ks
          refine sp W 0 rfl rfl rfl (fun c2 => ?_) (fun c2 => ?_)
          · have c2 : 0 < i := by omega
            refine dre W 0 7 [] [.str X] rfl rfl rfl ⟨ks.at rfl _, trivial⟩ rfl ?_
            refine bd W 0 2 [3, 8, 10, 11] rfl rfl rfl rfl rfl (ih (i + 1, out ++ [44, 32] ++ X) ⟨by dsimp only; omega, ?_⟩ (by dsimp only; omega))
            dsimp only
            rw [et, join_snoc, if_neg (by intro h; have := congrArg List.length h; rw [List.length_map, List.length_take, List.length_nil] at this; omega), ho]
            simp only [List.append_assoc]
          · have c2 : i = 0 := by omega
            subst c2
            refine dre W 0 7 [] [.str X] rfl rfl rfl ⟨ks.at rfl _, trivial⟩ rfl ?_
            refine bd W 0 2 [3, 8, 10, 11] rfl rfl rfl rfl rfl (ih (0 + 1, out ++ X) ⟨by dsimp only; omega, ?_⟩ (by dsimp only; omega))
            dsimp only
            rw [et, join_snoc, if_pos (by simp), ho]
            simp [Lib.join_nil]
        · have hil : i = (parts l a).length := by simp at c1; omega
          subst hil
          rw [List.take_length] at ho
          refine rp W 0 rfl rfl rfl (.eq (by rw [TX_eq, ← hxe]; unfold wr; rw [if_neg s3, if_neg s4, if_neg s5, if_neg s6, if_neg s7, if_neg s8, if_neg s9, if_neg s10, if_neg s11, if_pos s12]; unfold callT; rw [map_tw, ho] <;> rfl))
      have s13 : x.1 = 13 := by omega
      refine atl W rfl ?_
      refine lp W 0 (σ := Nat × List UInt8) (fun s => [(3, .ptr 0 0 0 0), (8, .fi .i64 ((parts l a).map Int.ofNat)), (10, .str s.2), (11, .int .i64 s.1)]) (fun _ => [.lst 0 [[.fz l.length (nodeR l)]], .lst 0 [[.int .i64 x.1, .int .i64 x.2.1, .str x.2.2]]]) (fun s => (parts l a).length - s.1) (fun s => s.1 ≤ (parts l a).length ∧ s.2 = x.2.2 ++ [40] ++ Lib.join (((parts l a).take s.1).map (TX l)) [44, 32]) (0, x.2.2 ++ [40]) [3, 8, 10, 11] rfl rfl rfl ⟨Nat.zero_le _, by simp [Lib.join_nil]⟩ ?_
      rintro ⟨i, out⟩ ⟨hi, ho⟩ ih
      dsimp only at hi ho ih ⊢
      have hol : out.length ≤ 1125899906842624 := by
        have h9 := join_take (l := l) (n := n) hg hn ht (by omega) hlt6 (fun p hp => by have := hlt p hp; omega) i
        rw [ho]
        simp only [List.length_append, List.length_cons, List.length_nil]
        omega
      refine sp W 0 rfl rfl rfl (fun c1 => ?_) (fun c1 => ?_)
      · have c1 : i < (parts l a).length := by simpa using c1
        have hpi := hlt ((parts l a).getD i 0) (getD_in c1)
        have ks := IH ((parts l a).getD i 0) hpi (by omega) 1 ⟨by omega, by omega⟩
        rw [show brk (tw l ((parts l a).getD i 0)) 1 = TX l ((parts l a).getD i 0) from brk_one _ _] at ks
        have hTl := TX_len hg hn ht (by omega) (show (parts l a).getD i 0 < n by omega)
        have eP : ((parts l a).map Int.ofNat).getD ((i : Nat) : Int).toNat 0 = (((parts l a).getD i 0 : Nat) : Int) := by rw [Int.toNat_natCast]; simp [List.getD_eq_getElem?_getD, c1]
        have et : ((parts l a).take (i + 1)).map (TX l) = ((parts l a).take i).map (TX l) ++ [TX l ((parts l a).getD i 0)] := by
          rw [← List.take_append_getElem c1, List.map_append]
          simp [List.getD_eq_getElem?_getD, c1]
        generalize hTX : TX l ((parts l a).getD i 0) = X at ks hTl et
        rw [← eP] at ks
        refine sp W 0 rfl rfl rfl (fun c2 => ?_) (fun c2 => ?_)
        · have c2 : 0 < i := by omega
          refine dre W 0 7 [] [.str X] rfl rfl rfl ⟨ks.at rfl _, trivial⟩ rfl ?_
          refine bd W 0 2 [3, 8, 10, 11] rfl rfl rfl rfl rfl (ih (i + 1, out ++ [44, 32] ++ X) ⟨by dsimp only; omega, ?_⟩ (by dsimp only; omega))
          dsimp only
          rw [et, join_snoc, if_neg (by intro h; have := congrArg List.length h; rw [List.length_map, List.length_take, List.length_nil] at this; omega), ho]
          simp only [List.append_assoc]
        · have c2 : i = 0 := by omega
          subst c2
          refine dre W 0 7 [] [.str X] rfl rfl rfl ⟨ks.at rfl _, trivial⟩ rfl ?_
          refine bd W 0 2 [3, 8, 10, 11] rfl rfl rfl rfl rfl (ih (0 + 1, out ++ X) ⟨by dsimp only; omega, ?_⟩ (by dsimp only; omega))
          dsimp only
          rw [et, join_snoc, if_pos (by simp), ho]
          simp [Lib.join_nil]
      · have hil : i = (parts l a).length := by simp at c1; omega
        subst hil
        rw [List.take_length] at ho
        refine rp W 0 rfl rfl rfl (.eq (by rw [TX_eq, ← hxe]; unfold wr; rw [if_neg s3, if_neg s4, if_neg s5, if_neg s6, if_neg s7, if_neg s8, if_neg s9, if_neg s10, if_neg s11, if_neg s12, if_pos s13]; unfold callT; rw [map_tw, ho] <;> rfl))
    intro lv hlv3
    by_cases hb : (tw l a).2 < lv
    · have kb := main 1 ⟨by omega, hlv.1⟩
      refine afun_of Tryd.func69 Tryd.call69 rfl Tryd.ntmps69 rfl ?_
      have W : Walk Tryd.prog TT 69 _ := Walk.of TT_ok Tryd.func69 Tryd.results69
      refine ce W 0 rfl rfl (kl) rfl ?_
      refine sp W 0 rfl rfl rfl (fun h1 => ?_) (fun h1 => ?_)
      · refine ce W 0 rfl rfl (kb) rfl ?_
        refine rp W 0 rfl rfl rfl (.eq (by unfold brk; rw [if_pos hb] <;> rfl))
      · exfalso; unfold tw at hb; dsimp only at hb; omega
    · have := main lv ⟨hlv3.1, by unfold tw at hb; dsimp only at hb; omega⟩
      unfold brk
      rw [if_neg hb]
      exact this
theorem szTerm_tiny (l : List Nd) (hm : l.length ≤ 9223372036854775807) (hx : ∀ i, i < l.length → (l.getD i (0, 0, [])).2.2.length ≤ 9223372036854775807) : AFunP Tryd.prog 9 [termV l, .int .i64 1048576] (fun u => ∃ n, u = .int .i64 n ∧ (0 ≤ n → l.length ≤ 1048576 ∧ tiny l)) := by
  refine afun_of Tryd.func9 Tryd.call9 rfl Tryd.ntmps9 rfl ?_
  have W : Walk Tryd.prog TT 9 _ := Walk.of TT_ok Tryd.func9 Tryd.results9
  refine cq W 0 rfl rfl (szNodeS_ok l 1048576 ⟨by omega, by omega⟩ hm hx) ?_
  rintro _ ⟨n, rfl, hn⟩
  refine ⟨_, rfl, ?_⟩
  refine sp W 0 rfl rfl rfl (fun h1 => ?_) (fun h1 => ?_)
  · refine rq W 0 rfl rfl (.int .i64 (-1)) (⟨_, rfl, fun k => by omega⟩) rfl .refl
  · refine rq W 0 rfl rfl (.int .i64 n) (⟨_, rfl, fun k => ⟨by have := (hn k).1; omega, fun i hi => by have := (hn k).2 i hi; omega⟩⟩) rfl .refl
theorem specTermText_ok (l : List Nd) (hx : txtOk l) (ht : tiny l) (hl : l.length ≤ 1048576) : AFunP Tryd.prog 35 [termV l] (· = .str (textZ l)) := by
  refine afun_of Tryd.func35 Tryd.call35 rfl Tryd.ntmps35 rfl ?_
  have W : Walk Tryd.prog TT 35 _ := Walk.of TT_ok Tryd.func35 Tryd.results35
  refine ce W 0 rfl rfl (specTermOk_ok l hx hl) rfl ?_
  refine sp W 0 rfl rfl rfl (fun h1 => ?_) (fun h1 => ?_)
  · have e : textZ l = [] := by unfold textZ; exact if_neg h1
    refine rp W 0 rfl rfl rfl (.eq (by rw [e] <;> rfl))
  · have h1 : termP l := Classical.not_not.1 h1
    have hpos := termP_len h1
    have hg := (dep_ends h1.2).2
    have e : textZ l = TX l (l.length - 1) := by unfold textZ; exact if_pos h1
    have k := show_ok l l.length hg hl (Nat.le_refl _) hx ht (l.length - 1) (by omega) 1 ⟨by omega, by omega⟩
    rw [show ((l.length - 1 : Nat) : Int) = (l.length : Int) - 1 by omega, brk_one] at k
    refine ce W 0 rfl rfl (k) rfl ?_
    refine rp W 0 rfl rfl rfl (.eq (by rw [e]))
theorem fnTermText_law (l : List Nd) (hm : l.length ≤ 9223372036854775807) (hx : ∀ i, i < l.length → (l.getD i (0, 0, [])).2.2.length ≤ 9223372036854775807) : AFunP Tryd.prog 8 [termV l] (· = .pr True) := by
  refine afun_of Tryd.func8 Tryd.call8 rfl Tryd.ntmps8 rfl ?_
  have W : Walk Tryd.prog TT 8 _ := Walk.of TT_ok Tryd.func8 Tryd.results8
  refine cq W 0 rfl rfl (szTerm_tiny l hm hx) ?_
  rintro _ ⟨n, rfl, hn⟩
  refine ⟨_, rfl, ?_⟩
  refine sp W 0 rfl rfl rfl (fun h1 => ?_) (fun h1 => ?_)
  · refine rp W 0 rfl rfl rfl (.yes trivial)
  obtain ⟨hl, hti⟩ := hn (by omega)
  have ht : txtOk l := fun i hi => by have := hti i hi; omega
  have k1 := toTerm_ok l hl
  refine ce W 0 rfl rfl (k1) rfl ?_
  refine ce W 0 rfl rfl (specTermText_ok l ht hti hl) rfl ?_
  refine ce W 0 rfl rfl (k1) rfl ?_
  refine ce W 0 rfl rfl (implTermText_ok l ht hti hl) rfl ?_
  refine sp W 0 rfl rfl rfl (fun h2 => ?_) (fun h2 => ?_)
  · exact absurd rfl h2
  refine dre W 0 5 [] [termV l, .pr (l = l)] rfl rfl rfl ⟨k1.at rfl _, (eqTerm_ok l l hl hl).at rfl _, trivial⟩ rfl ?_
  refine sp W 0 rfl rfl rfl (fun h3 => ?_) (fun h3 => ?_)
  · exact absurd rfl h3
  · refine rp W 0 rfl rfl rfl (.yes trivial)
end Pf
