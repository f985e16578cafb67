/- Part 3 of the lemmas that the claim rests on: an abstract machine over the model, what it is sound for, and the contracts of the functions that the law reaches. -/
import Derived.Test.YtbodfhbicdciiaaGreatDoorA2
import Derived.Sort.Grow
import Derived.Sort.EncStr
import Derived.Calls
set_option linter.unusedSimpArgs false
set_option linter.unusedVariables false
set_option maxHeartbeats 4000000
/- Literals: the model's side -/
namespace Pf
open Go Go.Proofs
/-- Behind 'e' and its sign: the place a, the sign m. -/
def powA (s : List UInt8) (a : Nat) (m : Prop) : Prop := run s a ≠ 0 ∧ run s a ≤ 3 ∧ ¬ (s.getD a 0 = 48 ∧ (1 < run s a ∨ m)) ∧
  ¬ (run s a = 3 ∧ ¬ (Op.bytesLess ((s.take (a + run s a)).drop a) [52, 48, 48] = true ∨ (s.take (a + run s a)).drop a = [52, 48, 48])) ∧ a + run s a = s.length
theorem run_le (s : List UInt8) (a : Nat) (h : a ≤ s.length) : a + run s a ≤ s.length := by
  have := (List.takeWhile_prefix (l := s.drop a) dB).length_le
  rw [List.length_drop] at this
  have e := run_dg s a
  have : (Dg (s.drop a)).length ≤ s.length - a := this
  omega
theorem powA_ok {s t : List UInt8} {a : Nat} {m : Prop} (ha : a ≤ s.length) (hu : s.drop a = cutP t 45) (hm : m ↔ t.head? = some 45) : powE1 t ↔ powA s a m := by
  have h1 := run_dg s a
  have h2 := drop_rg s a
  have h3 := run_le s a ha
  unfold powE1 powA
  rw [← hu, ← hm]
  have e1 : (s.take (a + run s a)).drop a = Dg (s.drop a) := by
    rw [List.drop_take, Nat.add_sub_cancel_left]
    conv => lhs; rw [← dg_app (s.drop a)]
    rw [h1, List.take_left']
    rfl
  have e2 : (s.drop a).getD 0 0 = s.getD a 0 := by simp [List.getD_eq_getElem?_getD]
  have e3 : Rg (s.drop a) = [] ↔ a + run s a = s.length := by
    rw [← h2, List.drop_eq_nil_iff]
    omega
  have e4 : Dg (s.drop a) ≠ [] ↔ run s a ≠ 0 := by rw [h1, ne_eq, ne_eq, List.length_eq_zero_iff]
  rw [e1, e2, e3, e4, h1]
theorem drop_cons {s : List UInt8} {a : Nat} (h : a < s.length) : s.drop a = s.getD a 0 :: s.drop (a + 1) := by
  rw [List.drop_eq_getElem_cons h, List.getD_eq_getElem?_getD]
  simp [h]
theorem powE_yes {s : List UInt8} {a : Nat} (h : a < s.length) (e : s.getD a 0 = 101) : powE (s.drop a) ↔ powE1 (s.drop (a + 1)) := by
  rw [drop_cons h, e]; simp [powE]
theorem powE_no {s : List UInt8} {a : Nat} (h : a < s.length) (e : ¬ s.getD a 0 = 101) : ¬ powE (s.drop a) := by
  rw [drop_cons h]
  intro k
  have := k.2 (by simpa using e)
  cases this
theorem powE_nil {s : List UInt8} {a : Nat} (h : s.length ≤ a) : powE (s.drop a) := by
  rw [List.drop_eq_nil_iff.2 h]; simp [powE]
theorem fracE_yes {s : List UInt8} {n : Nat} (h : n < s.length) (e : s.getD n 0 = 46) : fracE (s.drop n) ↔ run s (n + 1) ≠ 0 ∧ powE (s.drop (n + 1 + run s (n + 1))) := by
  have h1 := run_dg s (n + 1)
  have h2 := drop_rg s (n + 1)
  rw [drop_cons h, e]
  simp only [fracE, List.head?_cons, List.drop_succ_cons, List.drop_zero, forall_const, ne_eq, not_true_eq_false, false_implies, and_true]
  rw [h2, h1, List.length_eq_zero_iff]
theorem fracE_no {s : List UInt8} {n : Nat} (e : ¬ s.getD n 0 = 46) : fracE (s.drop n) ↔ powE (s.drop n) := by
  have : (s.drop n).head? ≠ some 46 := by
    by_cases h : n < s.length
    · rw [ne_eq, head_at h]; exact e
    · rw [List.drop_eq_nil_iff.2 (by omega)]; simp
  exact ⟨fun k => k.2 this, fun k => ⟨fun e => absurd e this, fun _ => k⟩⟩
theorem cutP_yes {s : List UInt8} {a : Nat} (h : a < s.length) (e : s.getD a 0 = 45) : s.drop (a + 1) = cutP (s.drop a) 45 := by
  unfold cutP
  rw [if_pos ((head_at h 45).2 e), List.drop_drop]
theorem cutP_no {s : List UInt8} {a : Nat} (h : a < s.length) (e : ¬ s.getD a 0 = 45) : s.drop a = cutP (s.drop a) 45 := by
  unfold cutP
  rw [if_neg fun k => e ((head_at h 45).1 k)]
theorem specLangNumOk_ok (s : List UInt8) (hl : s.length ≤ 281474976710656) : AFunP Tryz.prog 60 [.str s] (· = .pr (litP s ∧ s.length ≤ 60)) := by
  rw [← num_ok s]
  have k0 := l11Run_ok s 0 (by omega) (by omega)
  have r0 : s.drop (run s 0) = Rg s := by have := drop_rg s 0; rwa [Nat.zero_add] at this
  have t0 := run_le s 0 (by omega)
  rw [Nat.zero_add] at t0
  have w0 : run s 0 ≠ 0 → (wd (Dg s) ↔ ¬ (1 < run s 0 ∧ s.getD 0 0 = 48)) := by
    intro h
    have d0 : run s 0 = (Dg s).length := rfl
    have e0 : s.getD 0 0 = (Dg s).getD 0 0 := by
      conv => lhs; rw [← dg_app s]
      simp only [List.getD_eq_getElem?_getD]
      rw [List.getElem?_append_left (by omega)]
    rw [d0] at h ⊢
    rw [e0]
    have ha := dg_all s
    unfold wd
    clear e0
    revert h
    match Dg s, ha with
    | [], _ => intro h; exact absurd rfl h
    | [a], ha => intro h; simp at ha; simp [ha]; exact Decidable.em _
    | a :: b :: l, ha => intro h; simp at ha; simp [ha]; exact fun _ => ha.2.2
  have w1 : wd (Dg s) → run s 0 ≠ 0 := fun k => by
    have d0 : run s 0 = (Dg s).length := rfl
    rw [d0, ne_eq, List.length_eq_zero_iff]
    exact k.1.1
  refine afun_of Tryz.func60 Tryz.call60 rfl Tryz.ntmps60 rfl ?_
  have W : Walk Tryz.prog TT 60 _ := Walk.of TT_ok Tryz.func60 Tryz.results60
  refine ce W 0 rfl rfl (k0) rfl ?_
  generalize run s 0 = n at *
  refine sp W 0 rfl rfl rfl (fun h1 => ?_) (fun h1 => ?_)
  · refine rp W 0 rfl rfl rfl (.no (fun k => by have := k.2; omega))
  refine sp W 0 rfl rfl rfl (fun h2 => ?_) (fun h2 => ?_)
  · refine rp W 0 rfl rfl rfl (.no (fun k => w1 k.1.1 (by omega)))
  refine sp W 0 rfl rfl rfl (fun h3 => ?_) (fun h3 => ?_)
  · refine sp W 0 rfl rfl rfl (fun h4 => ?_) (fun h4 => ?_)
    · have h4 := (u8_eq (c := 48)).1 h4
      refine rp W 0 rfl rfl rfl (.no (fun q => (w0 (by omega)).1 q.1.1 ⟨by omega, h4⟩))
    · have hw := (w0 (by omega)).2 fun k => h4 ((u8_eq (c := 48)).2 k.2)
      have hq0 : numE s ↔ fracE (Rg s) := ⟨fun e => e.2, fun e => ⟨hw, e⟩⟩
      refine sp W 0 rfl rfl rfl (fun p1 => ?_) (fun p1 => ?_)
      · refine sp W 0 rfl rfl rfl (fun p2 => ?_) (fun p2 => ?_)
        · rw [show (n : Int).toNat = n by omega] at p2
          have p2 := (u8_eq (c := 46)).1 p2
          have kk : AFunP Tryz.prog 100 [.str s, .int .i64 ((n : Int) + 1)] (· = .int .i64 (run s (n + 1) : Nat)) := l11Run_ok s (n + 1) (by omega) (by omega)
          have tk := run_le s (n + 1) (by omega)
          have hf : numE s ↔ run s (n + 1) ≠ 0 ∧ powE (s.drop (n + 1 + run s (n + 1))) := by
            refine hq0.trans ?_
            rw [← r0, fracE_yes (by omega) p2]
          refine ce W 0 rfl rfl (kk) rfl ?_
          generalize run s (n + 1) = j at *
          refine sp W 0 rfl rfl rfl (fun p5 => ?_) (fun p5 => ?_)
          · refine rp W 0 rfl rfl rfl (.no (fun q => (hf.1 q.1).1 (by omega)))
          have hq : numE s ↔ powE (s.drop (n + 1 + j)) := ⟨fun e => (hf.1 e).2, fun e => hf.2 ⟨by omega, e⟩⟩
          refine sp W 0 rfl rfl rfl (fun p3 => ?_) (fun p3 => ?_)
          · refine sp W 0 rfl rfl rfl (fun p4 => ?_) (fun p4 => ?_)
            · rw [show ((n : Int) + 1 + (j : Int)).toNat = n + 1 + j by omega] at p4
              have hq2 : numE s ↔ powE1 (s.drop (n + 1 + j + 1)) := hq.trans (powE_yes (by omega) ((u8_eq (c := 101)).1 p4))
              refine sp W 0 rfl rfl rfl (fun m1 => ?_) (fun m1 => ?_)
              · refine sp W 0 rfl rfl rfl (fun m2 => ?_) (fun m2 => ?_)
                · rw [show ((n : Int) + 1 + (j : Int) + 1).toNat = n + 1 + j + 1 by omega] at m2
                  have hu : s.drop (n + 1 + j + 1 + 1) = cutP (s.drop (n + 1 + j + 1)) 45 := cutP_yes (by omega) ((u8_eq (c := 45)).1 m2)
                  have hm : True ↔ (s.drop (n + 1 + j + 1)).head? = some 45 := by rw [head_at (by omega)]; exact ⟨fun _ => (u8_eq (c := 45)).1 m2, fun _ => trivial⟩
                  rw [← show ((n : Int) + 1 + (j : Int) + 1).toNat = n + 1 + j + 1 by omega] at m2
                  have kr : AFunP Tryz.prog 100 [.str s, .int .i64 ((n : Int) + 1 + (j : Int) + 1 + 1)] (· = .int .i64 (run s (n + 1 + j + 1 + 1) : Nat)) := by
                    have := l11Run_ok s (n + 1 + j + 1 + 1) (by omega) (by omega)
                    rwa [show ((n + 1 + j + 1 + 1 : Nat) : Int) = (n : Int) + 1 + (j : Int) + 1 + 1 by omega] at this
                  have tr := run_le s (n + 1 + j + 1 + 1) (by omega)
                  have hP := hq2.trans (powA_ok (a := n + 1 + j + 1 + 1) (m := True) (by omega) hu hm)
                  unfold powA at hP
                  refine ce W 0 rfl rfl (kr) rfl ?_
                  generalize run s (n + 1 + j + 1 + 1) = k at *
                  refine sp W 0 rfl rfl rfl (fun c1 => ?_) (fun c1 => ?_)
                  · refine rp W 0 rfl rfl rfl (.no (fun q => (hP.1 q.1).1 (by omega)))
                  refine sp W 0 rfl rfl rfl (fun c2 => ?_) (fun c2 => ?_)
                  · refine rp W 0 rfl rfl rfl (.no (fun q => by have := (hP.1 q.1).2.1; omega))
                  refine sp W 0 rfl rfl rfl (fun c3 => ?_) (fun c3 => ?_)
                  · have c3 : s.getD (n + 1 + j + 1 + 1) 0 = 48 := by rw [show ((n : Int) + 1 + (j : Int) + 1 + 1).toNat = n + 1 + j + 1 + 1 by omega] at c3; exact (u8_eq (c := 48)).1 c3
                    refine sp W 0 rfl rfl rfl (fun c4 => ?_) (fun c4 => ?_)
                    · refine rp W 0 rfl rfl rfl (.no (fun q => (hP.1 q.1).2.2.1 ⟨c3, .inl (by omega)⟩))
                    · refine sp W 0 rfl rfl rfl (fun c5 => ?_) (fun c5 => ?_)
                      · refine rp W 0 rfl rfl rfl (.no (fun q => (hP.1 q.1).2.2.1 ⟨c3, .inr trivial⟩))
                      · exact absurd m2 c5
                  · have c3 : ¬ s.getD (n + 1 + j + 1 + 1) 0 = 48 := fun e => c3 (by rw [show ((n : Int) + 1 + (j : Int) + 1 + 1).toNat = n + 1 + j + 1 + 1 by omega]; exact (u8_eq (c := 48)).2 e)
                    have f3 : ¬ (s.getD (n + 1 + j + 1 + 1) 0 = 48 ∧ (1 < k ∨ True)) := fun q => c3 q.1
                    refine sp W 0 rfl rfl rfl (fun c6 => ?_) (fun c6 => ?_)
                    · refine sp W 0 rfl rfl rfl (fun c7 => ?_) (fun c7 => ?_)
                      · rw [show ((n : Int) + 1 + (j : Int) + 1 + 1).toNat = n + 1 + j + 1 + 1 by omega, show (((n : Int) + 1 + (j : Int) + 1 + 1) + (k : Int)).toNat = n + 1 + j + 1 + 1 + k by omega] at c7
                        refine rp W 0 rfl rfl rfl (.no (fun q => (hP.1 q.1).2.2.2.1 ⟨by omega, c7⟩))
                      · rw [show ((n : Int) + 1 + (j : Int) + 1 + 1).toNat = n + 1 + j + 1 + 1 by omega, show (((n : Int) + 1 + (j : Int) + 1 + 1) + (k : Int)).toNat = n + 1 + j + 1 + 1 + k by omega] at c7
                        have f4 : ¬ (k = 3 ∧ ¬ (Op.bytesLess ((s.take (n + 1 + j + 1 + 1 + k)).drop (n + 1 + j + 1 + 1)) [52, 48, 48] = true ∨ (s.take (n + 1 + j + 1 + 1 + k)).drop (n + 1 + j + 1 + 1) = [52, 48, 48])) := fun q => c7 q.2
                        refine rp W 0 rfl rfl rfl (.pr ⟨fun e => ⟨hP.2 ⟨by omega, by omega, f3, f4, by omega⟩, by omega⟩, fun q => by have := (hP.1 q.1).2.2.2.2; omega⟩)
                    · have f4 : ¬ (k = 3 ∧ ¬ (Op.bytesLess ((s.take (n + 1 + j + 1 + 1 + k)).drop (n + 1 + j + 1 + 1)) [52, 48, 48] = true ∨ (s.take (n + 1 + j + 1 + 1 + k)).drop (n + 1 + j + 1 + 1) = [52, 48, 48])) := fun q => by have := q.1; omega
                      refine rp W 0 rfl rfl rfl (.pr ⟨fun e => ⟨hP.2 ⟨by omega, by omega, f3, f4, by omega⟩, by omega⟩, fun q => by have := (hP.1 q.1).2.2.2.2; omega⟩)
                · rw [show ((n : Int) + 1 + (j : Int) + 1).toNat = n + 1 + j + 1 by omega] at m2
                  have hu : s.drop (n + 1 + j + 1) = cutP (s.drop (n + 1 + j + 1)) 45 := cutP_no (by omega) fun e => m2 ((u8_eq (c := 45)).2 e)
                  have hm : False ↔ (s.drop (n + 1 + j + 1)).head? = some 45 := by rw [head_at (by omega)]; exact ⟨False.elim, fun e => m2 ((u8_eq (c := 45)).2 e)⟩
                  rw [← show ((n : Int) + 1 + (j : Int) + 1).toNat = n + 1 + j + 1 by omega] at m2
                  have kr : AFunP Tryz.prog 100 [.str s, .int .i64 ((n : Int) + 1 + (j : Int) + 1)] (· = .int .i64 (run s (n + 1 + j + 1) : Nat)) := by
                    have := l11Run_ok s (n + 1 + j + 1) (by omega) (by omega)
                    rwa [show ((n + 1 + j + 1 : Nat) : Int) = (n : Int) + 1 + (j : Int) + 1 by omega] at this
                  have tr := run_le s (n + 1 + j + 1) (by omega)
                  have hP := hq2.trans (powA_ok (a := n + 1 + j + 1) (m := False) (by omega) hu hm)
                  unfold powA at hP
                  refine ce W 0 rfl rfl (kr) rfl ?_
                  generalize run s (n + 1 + j + 1) = k at *
                  refine sp W 0 rfl rfl rfl (fun c1 => ?_) (fun c1 => ?_)
                  · refine rp W 0 rfl rfl rfl (.no (fun q => (hP.1 q.1).1 (by omega)))
                  refine sp W 0 rfl rfl rfl (fun c2 => ?_) (fun c2 => ?_)
                  · refine rp W 0 rfl rfl rfl (.no (fun q => by have := (hP.1 q.1).2.1; omega))
                  refine sp W 0 rfl rfl rfl (fun c3 => ?_) (fun c3 => ?_)
                  · have c3 : s.getD (n + 1 + j + 1) 0 = 48 := by rw [show ((n : Int) + 1 + (j : Int) + 1).toNat = n + 1 + j + 1 by omega] at c3; exact (u8_eq (c := 48)).1 c3
                    refine sp W 0 rfl rfl rfl (fun c4 => ?_) (fun c4 => ?_)
                    · refine rp W 0 rfl rfl rfl (.no (fun q => (hP.1 q.1).2.2.1 ⟨c3, .inl (by omega)⟩))
                    · refine sp W 0 rfl rfl rfl (fun c5 => ?_) (fun c5 => ?_)
                      · exact absurd c5 m2
                      · have f3 : ¬ (s.getD (n + 1 + j + 1) 0 = 48 ∧ (1 < k ∨ False)) := fun q => q.2.elim (fun q => by omega) id
                        refine sp W 0 rfl rfl rfl (fun c6 => ?_) (fun c6 => ?_)
                        · refine sp W 0 rfl rfl rfl (fun c7 => ?_) (fun c7 => ?_)
                          · rw [show ((n : Int) + 1 + (j : Int) + 1).toNat = n + 1 + j + 1 by omega, show (((n : Int) + 1 + (j : Int) + 1) + (k : Int)).toNat = n + 1 + j + 1 + k by omega] at c7
                            refine rp W 0 rfl rfl rfl (.no (fun q => (hP.1 q.1).2.2.2.1 ⟨by omega, c7⟩))
                          · rw [show ((n : Int) + 1 + (j : Int) + 1).toNat = n + 1 + j + 1 by omega, show (((n : Int) + 1 + (j : Int) + 1) + (k : Int)).toNat = n + 1 + j + 1 + k by omega] at c7
                            have f4 : ¬ (k = 3 ∧ ¬ (Op.bytesLess ((s.take (n + 1 + j + 1 + k)).drop (n + 1 + j + 1)) [52, 48, 48] = true ∨ (s.take (n + 1 + j + 1 + k)).drop (n + 1 + j + 1) = [52, 48, 48])) := fun q => c7 q.2
                            refine rp W 0 rfl rfl rfl (.pr ⟨fun e => ⟨hP.2 ⟨by omega, by omega, f3, f4, by omega⟩, by omega⟩, fun q => by have := (hP.1 q.1).2.2.2.2; omega⟩)
                        · have f4 : ¬ (k = 3 ∧ ¬ (Op.bytesLess ((s.take (n + 1 + j + 1 + k)).drop (n + 1 + j + 1)) [52, 48, 48] = true ∨ (s.take (n + 1 + j + 1 + k)).drop (n + 1 + j + 1) = [52, 48, 48])) := fun q => by have := q.1; omega
                          refine rp W 0 rfl rfl rfl (.pr ⟨fun e => ⟨hP.2 ⟨by omega, by omega, f3, f4, by omega⟩, by omega⟩, fun q => by have := (hP.1 q.1).2.2.2.2; omega⟩)
                  · have c3 : ¬ s.getD (n + 1 + j + 1) 0 = 48 := fun e => c3 (by rw [show ((n : Int) + 1 + (j : Int) + 1).toNat = n + 1 + j + 1 by omega]; exact (u8_eq (c := 48)).2 e)
                    have f3 : ¬ (s.getD (n + 1 + j + 1) 0 = 48 ∧ (1 < k ∨ False)) := fun q => c3 q.1
                    refine sp W 0 rfl rfl rfl (fun c6 => ?_) (fun c6 => ?_)
                    · refine sp W 0 rfl rfl rfl (fun c7 => ?_) (fun c7 => ?_)
                      · rw [show ((n : Int) + 1 + (j : Int) + 1).toNat = n + 1 + j + 1 by omega, show (((n : Int) + 1 + (j : Int) + 1) + (k : Int)).toNat = n + 1 + j + 1 + k by omega] at c7
                        refine rp W 0 rfl rfl rfl (.no (fun q => (hP.1 q.1).2.2.2.1 ⟨by omega, c7⟩))
                      · rw [show ((n : Int) + 1 + (j : Int) + 1).toNat = n + 1 + j + 1 by omega, show (((n : Int) + 1 + (j : Int) + 1) + (k : Int)).toNat = n + 1 + j + 1 + k by omega] at c7
                        have f4 : ¬ (k = 3 ∧ ¬ (Op.bytesLess ((s.take (n + 1 + j + 1 + k)).drop (n + 1 + j + 1)) [52, 48, 48] = true ∨ (s.take (n + 1 + j + 1 + k)).drop (n + 1 + j + 1) = [52, 48, 48])) := fun q => c7 q.2
                        refine rp W 0 rfl rfl rfl (.pr ⟨fun e => ⟨hP.2 ⟨by omega, by omega, f3, f4, by omega⟩, by omega⟩, fun q => by have := (hP.1 q.1).2.2.2.2; omega⟩)
                    · have f4 : ¬ (k = 3 ∧ ¬ (Op.bytesLess ((s.take (n + 1 + j + 1 + k)).drop (n + 1 + j + 1)) [52, 48, 48] = true ∨ (s.take (n + 1 + j + 1 + k)).drop (n + 1 + j + 1) = [52, 48, 48])) := fun q => by have := q.1; omega
                      refine rp W 0 rfl rfl rfl (.pr ⟨fun e => ⟨hP.2 ⟨by omega, by omega, f3, f4, by omega⟩, by omega⟩, fun q => by have := (hP.1 q.1).2.2.2.2; omega⟩)
              · have e0 : s.drop (n + 1 + j + 1) = [] := List.drop_eq_nil_iff.2 (by omega)
                have hu : s.drop (n + 1 + j + 1) = cutP (s.drop (n + 1 + j + 1)) 45 := by rw [e0]; rfl
                have hm : False ↔ (s.drop (n + 1 + j + 1)).head? = some 45 := by rw [e0]; simp
                have kr : AFunP Tryz.prog 100 [.str s, .int .i64 ((n : Int) + 1 + (j : Int) + 1)] (· = .int .i64 (run s (n + 1 + j + 1) : Nat)) := by
                  have := l11Run_ok s (n + 1 + j + 1) (by omega) (by omega)
                  rwa [show ((n + 1 + j + 1 : Nat) : Int) = (n : Int) + 1 + (j : Int) + 1 by omega] at this
                have tr := run_le s (n + 1 + j + 1) (by omega)
                have hP := hq2.trans (powA_ok (a := n + 1 + j + 1) (m := False) (by omega) hu hm)
                unfold powA at hP
                refine ce W 0 rfl rfl (kr) rfl ?_
                generalize run s (n + 1 + j + 1) = k at *
                refine sp W 0 rfl rfl rfl (fun c1 => ?_) (fun c1 => ?_)
                · refine rp W 0 rfl rfl rfl (.no (fun q => (hP.1 q.1).1 (by omega)))
                refine sp W 0 rfl rfl rfl (fun c2 => ?_) (fun c2 => ?_)
                · refine rp W 0 rfl rfl rfl (.no (fun q => by have := (hP.1 q.1).2.1; omega))
                refine sp W 0 rfl rfl rfl (fun c3 => ?_) (fun c3 => ?_)
                · have c3 : s.getD (n + 1 + j + 1) 0 = 48 := by rw [show ((n : Int) + 1 + (j : Int) + 1).toNat = n + 1 + j + 1 by omega] at c3; exact (u8_eq (c := 48)).1 c3
                  refine sp W 0 rfl rfl rfl (fun c4 => ?_) (fun c4 => ?_)
                  · refine rp W 0 rfl rfl rfl (.no (fun q => (hP.1 q.1).2.2.1 ⟨c3, .inl (by omega)⟩))
                  · have f3 : ¬ (s.getD (n + 1 + j + 1) 0 = 48 ∧ (1 < k ∨ False)) := fun q => q.2.elim (fun q => by omega) id
                    refine sp W 0 rfl rfl rfl (fun c6 => ?_) (fun c6 => ?_)
                    · refine sp W 0 rfl rfl rfl (fun c7 => ?_) (fun c7 => ?_)
                      · rw [show ((n : Int) + 1 + (j : Int) + 1).toNat = n + 1 + j + 1 by omega, show (((n : Int) + 1 + (j : Int) + 1) + (k : Int)).toNat = n + 1 + j + 1 + k by omega] at c7
                        refine rp W 0 rfl rfl rfl (.no (fun q => (hP.1 q.1).2.2.2.1 ⟨by omega, c7⟩))
                      · rw [show ((n : Int) + 1 + (j : Int) + 1).toNat = n + 1 + j + 1 by omega, show (((n : Int) + 1 + (j : Int) + 1) + (k : Int)).toNat = n + 1 + j + 1 + k by omega] at c7
                        have f4 : ¬ (k = 3 ∧ ¬ (Op.bytesLess ((s.take (n + 1 + j + 1 + k)).drop (n + 1 + j + 1)) [52, 48, 48] = true ∨ (s.take (n + 1 + j + 1 + k)).drop (n + 1 + j + 1) = [52, 48, 48])) := fun q => c7 q.2
                        refine rp W 0 rfl rfl rfl (.pr ⟨fun e => ⟨hP.2 ⟨by omega, by omega, f3, f4, by omega⟩, by omega⟩, fun q => by have := (hP.1 q.1).2.2.2.2; omega⟩)
                    · have f4 : ¬ (k = 3 ∧ ¬ (Op.bytesLess ((s.take (n + 1 + j + 1 + k)).drop (n + 1 + j + 1)) [52, 48, 48] = true ∨ (s.take (n + 1 + j + 1 + k)).drop (n + 1 + j + 1) = [52, 48, 48])) := fun q => by have := q.1; omega
                      refine rp W 0 rfl rfl rfl (.pr ⟨fun e => ⟨hP.2 ⟨by omega, by omega, f3, f4, by omega⟩, by omega⟩, fun q => by have := (hP.1 q.1).2.2.2.2; omega⟩)
                · have c3 : ¬ s.getD (n + 1 + j + 1) 0 = 48 := fun e => c3 (by rw [show ((n : Int) + 1 + (j : Int) + 1).toNat = n + 1 + j + 1 by omega]; exact (u8_eq (c := 48)).2 e)
                  have f3 : ¬ (s.getD (n + 1 + j + 1) 0 = 48 ∧ (1 < k ∨ False)) := fun q => c3 q.1
                  refine sp W 0 rfl rfl rfl (fun c6 => ?_) (fun c6 => ?_)
                  · refine sp W 0 rfl rfl rfl (fun c7 => ?_) (fun c7 => ?_)
                    · rw [show ((n : Int) + 1 + (j : Int) + 1).toNat = n + 1 + j + 1 by omega, show (((n : Int) + 1 + (j : Int) + 1) + (k : Int)).toNat = n + 1 + j + 1 + k by omega] at c7
                      refine rp W 0 rfl rfl rfl (.no (fun q => (hP.1 q.1).2.2.2.1 ⟨by omega, c7⟩))
                    · rw [show ((n : Int) + 1 + (j : Int) + 1).toNat = n + 1 + j + 1 by omega, show (((n : Int) + 1 + (j : Int) + 1) + (k : Int)).toNat = n + 1 + j + 1 + k by omega] at c7
                      have f4 : ¬ (k = 3 ∧ ¬ (Op.bytesLess ((s.take (n + 1 + j + 1 + k)).drop (n + 1 + j + 1)) [52, 48, 48] = true ∨ (s.take (n + 1 + j + 1 + k)).drop (n + 1 + j + 1) = [52, 48, 48])) := fun q => c7 q.2
                      refine rp W 0 rfl rfl rfl (.pr ⟨fun e => ⟨hP.2 ⟨by omega, by omega, f3, f4, by omega⟩, by omega⟩, fun q => by have := (hP.1 q.1).2.2.2.2; omega⟩)
                  · have f4 : ¬ (k = 3 ∧ ¬ (Op.bytesLess ((s.take (n + 1 + j + 1 + k)).drop (n + 1 + j + 1)) [52, 48, 48] = true ∨ (s.take (n + 1 + j + 1 + k)).drop (n + 1 + j + 1) = [52, 48, 48])) := fun q => by have := q.1; omega
                    refine rp W 0 rfl rfl rfl (.pr ⟨fun e => ⟨hP.2 ⟨by omega, by omega, f3, f4, by omega⟩, by omega⟩, fun q => by have := (hP.1 q.1).2.2.2.2; omega⟩)
            · rw [show ((n : Int) + 1 + (j : Int)).toNat = n + 1 + j by omega] at p4
              have hn : ¬ numE s := fun e => powE_no (by omega) (fun e => p4 ((u8_eq (c := 101)).2 e)) (hq.1 e)
              refine rp W 0 rfl rfl rfl (.pr ⟨fun e => by omega, fun e => absurd e.1 hn⟩)
          · have hn : numE s := hq.2 (powE_nil (by omega))
            refine rp W 0 rfl rfl rfl (.pr ⟨fun e => ⟨hn, by omega⟩, fun e => by omega⟩)
        · rw [show (n : Int).toNat = n by omega] at p2
          have hq : numE s ↔ powE (s.drop n) := by
            refine hq0.trans ?_
            rw [← r0, fracE_no fun e => p2 ((u8_eq (c := 46)).2 e)]
          refine sp W 0 rfl rfl rfl (fun p3 => ?_) (fun p3 => ?_)
          · refine sp W 0 rfl rfl rfl (fun p4 => ?_) (fun p4 => ?_)
            · rw [show ((n : Int)).toNat = n by omega] at p4
              have hq2 : numE s ↔ powE1 (s.drop (n + 1)) := hq.trans (powE_yes (by omega) ((u8_eq (c := 101)).1 p4))
              refine sp W 0 rfl rfl rfl (fun m1 => ?_) (fun m1 => ?_)
              · refine sp W 0 rfl rfl rfl (fun m2 => ?_) (fun m2 => ?_)
                · rw [show ((n : Int) + 1).toNat = n + 1 by omega] at m2
                  have hu : s.drop (n + 1 + 1) = cutP (s.drop (n + 1)) 45 := cutP_yes (by omega) ((u8_eq (c := 45)).1 m2)
                  have hm : True ↔ (s.drop (n + 1)).head? = some 45 := by rw [head_at (by omega)]; exact ⟨fun _ => (u8_eq (c := 45)).1 m2, fun _ => trivial⟩
                  rw [← show ((n : Int) + 1).toNat = n + 1 by omega] at m2
                  have kr : AFunP Tryz.prog 100 [.str s, .int .i64 ((n : Int) + 1 + 1)] (· = .int .i64 (run s (n + 1 + 1) : Nat)) := by
                    have := l11Run_ok s (n + 1 + 1) (by omega) (by omega)
                    rwa [show ((n + 1 + 1 : Nat) : Int) = (n : Int) + 1 + 1 by omega] at this
                  have tr := run_le s (n + 1 + 1) (by omega)
                  have hP := hq2.trans (powA_ok (a := n + 1 + 1) (m := True) (by omega) hu hm)
                  unfold powA at hP
                  refine ce W 0 rfl rfl (kr) rfl ?_
                  generalize run s (n + 1 + 1) = k at *
                  refine sp W 0 rfl rfl rfl (fun c1 => ?_) (fun c1 => ?_)
                  · refine rp W 0 rfl rfl rfl (.no (fun q => (hP.1 q.1).1 (by omega)))
                  refine sp W 0 rfl rfl rfl (fun c2 => ?_) (fun c2 => ?_)
                  · refine rp W 0 rfl rfl rfl (.no (fun q => by have := (hP.1 q.1).2.1; omega))
                  refine sp W 0 rfl rfl rfl (fun c3 => ?_) (fun c3 => ?_)
                  · have c3 : s.getD (n + 1 + 1) 0 = 48 := by rw [show ((n : Int) + 1 + 1).toNat = n + 1 + 1 by omega] at c3; exact (u8_eq (c := 48)).1 c3
                    refine sp W 0 rfl rfl rfl (fun c4 => ?_) (fun c4 => ?_)
                    · refine rp W 0 rfl rfl rfl (.no (fun q => (hP.1 q.1).2.2.1 ⟨c3, .inl (by omega)⟩))
                    · refine sp W 0 rfl rfl rfl (fun c5 => ?_) (fun c5 => ?_)
                      · refine rp W 0 rfl rfl rfl (.no (fun q => (hP.1 q.1).2.2.1 ⟨c3, .inr trivial⟩))
                      · exact absurd m2 c5
                  · have c3 : ¬ s.getD (n + 1 + 1) 0 = 48 := fun e => c3 (by rw [show ((n : Int) + 1 + 1).toNat = n + 1 + 1 by omega]; exact (u8_eq (c := 48)).2 e)
                    have f3 : ¬ (s.getD (n + 1 + 1) 0 = 48 ∧ (1 < k ∨ True)) := fun q => c3 q.1
                    refine sp W 0 rfl rfl rfl (fun c6 => ?_) (fun c6 => ?_)
                    · refine sp W 0 rfl rfl rfl (fun c7 => ?_) (fun c7 => ?_)
                      · rw [show ((n : Int) + 1 + 1).toNat = n + 1 + 1 by omega, show (((n : Int) + 1 + 1) + (k : Int)).toNat = n + 1 + 1 + k by omega] at c7
                        refine rp W 0 rfl rfl rfl (.no (fun q => (hP.1 q.1).2.2.2.1 ⟨by omega, c7⟩))
                      · rw [show ((n : Int) + 1 + 1).toNat = n + 1 + 1 by omega, show (((n : Int) + 1 + 1) + (k : Int)).toNat = n + 1 + 1 + k by omega] at c7
                        have f4 : ¬ (k = 3 ∧ ¬ (Op.bytesLess ((s.take (n + 1 + 1 + k)).drop (n + 1 + 1)) [52, 48, 48] = true ∨ (s.take (n + 1 + 1 + k)).drop (n + 1 + 1) = [52, 48, 48])) := fun q => c7 q.2
                        refine rp W 0 rfl rfl rfl (.pr ⟨fun e => ⟨hP.2 ⟨by omega, by omega, f3, f4, by omega⟩, by omega⟩, fun q => by have := (hP.1 q.1).2.2.2.2; omega⟩)
                    · have f4 : ¬ (k = 3 ∧ ¬ (Op.bytesLess ((s.take (n + 1 + 1 + k)).drop (n + 1 + 1)) [52, 48, 48] = true ∨ (s.take (n + 1 + 1 + k)).drop (n + 1 + 1) = [52, 48, 48])) := fun q => by have := q.1; omega
                      refine rp W 0 rfl rfl rfl (.pr ⟨fun e => ⟨hP.2 ⟨by omega, by omega, f3, f4, by omega⟩, by omega⟩, fun q => by have := (hP.1 q.1).2.2.2.2; omega⟩)
                · rw [show ((n : Int) + 1).toNat = n + 1 by omega] at m2
                  have hu : s.drop (n + 1) = cutP (s.drop (n + 1)) 45 := cutP_no (by omega) fun e => m2 ((u8_eq (c := 45)).2 e)
                  have hm : False ↔ (s.drop (n + 1)).head? = some 45 := by rw [head_at (by omega)]; exact ⟨False.elim, fun e => m2 ((u8_eq (c := 45)).2 e)⟩
                  rw [← show ((n : Int) + 1).toNat = n + 1 by omega] at m2
                  have kr : AFunP Tryz.prog 100 [.str s, .int .i64 ((n : Int) + 1)] (· = .int .i64 (run s (n + 1) : Nat)) := by
                    have := l11Run_ok s (n + 1) (by omega) (by omega)
                    rwa [show ((n + 1 : Nat) : Int) = (n : Int) + 1 by omega] at this
                  have tr := run_le s (n + 1) (by omega)
                  have hP := hq2.trans (powA_ok (a := n + 1) (m := False) (by omega) hu hm)
                  unfold powA at hP
                  refine ce W 0 rfl rfl (kr) rfl ?_
                  generalize run s (n + 1) = k at *
                  refine sp W 0 rfl rfl rfl (fun c1 => ?_) (fun c1 => ?_)
                  · refine rp W 0 rfl rfl rfl (.no (fun q => (hP.1 q.1).1 (by omega)))
                  refine sp W 0 rfl rfl rfl (fun c2 => ?_) (fun c2 => ?_)
                  · refine rp W 0 rfl rfl rfl (.no (fun q => by have := (hP.1 q.1).2.1; omega))
                  refine sp W 0 rfl rfl rfl (fun c3 => ?_) (fun c3 => ?_)
                  · have c3 : s.getD (n + 1) 0 = 48 := by rw [show ((n : Int) + 1).toNat = n + 1 by omega] at c3; exact (u8_eq (c := 48)).1 c3
                    refine sp W 0 rfl rfl rfl (fun c4 => ?_) (fun c4 => ?_)
                    · refine rp W 0 rfl rfl rfl (.no (fun q => (hP.1 q.1).2.2.1 ⟨c3, .inl (by omega)⟩))
                    · refine sp W 0 rfl rfl rfl (fun c5 => ?_) (fun c5 => ?_)
                      · exact absurd c5 m2
                      · have f3 : ¬ (s.getD (n + 1) 0 = 48 ∧ (1 < k ∨ False)) := fun q => q.2.elim (fun q => by omega) id
                        refine sp W 0 rfl rfl rfl (fun c6 => ?_) (fun c6 => ?_)
                        · refine sp W 0 rfl rfl rfl (fun c7 => ?_) (fun c7 => ?_)
                          · rw [show ((n : Int) + 1).toNat = n + 1 by omega, show (((n : Int) + 1) + (k : Int)).toNat = n + 1 + k by omega] at c7
                            refine rp W 0 rfl rfl rfl (.no (fun q => (hP.1 q.1).2.2.2.1 ⟨by omega, c7⟩))
                          · rw [show ((n : Int) + 1).toNat = n + 1 by omega, show (((n : Int) + 1) + (k : Int)).toNat = n + 1 + k by omega] at c7
                            have f4 : ¬ (k = 3 ∧ ¬ (Op.bytesLess ((s.take (n + 1 + k)).drop (n + 1)) [52, 48, 48] = true ∨ (s.take (n + 1 + k)).drop (n + 1) = [52, 48, 48])) := fun q => c7 q.2
                            refine rp W 0 rfl rfl rfl (.pr ⟨fun e => ⟨hP.2 ⟨by omega, by omega, f3, f4, by omega⟩, by omega⟩, fun q => by have := (hP.1 q.1).2.2.2.2; omega⟩)
                        · have f4 : ¬ (k = 3 ∧ ¬ (Op.bytesLess ((s.take (n + 1 + k)).drop (n + 1)) [52, 48, 48] = true ∨ (s.take (n + 1 + k)).drop (n + 1) = [52, 48, 48])) := fun q => by have := q.1; omega
                          refine rp W 0 rfl rfl rfl (.pr ⟨fun e => ⟨hP.2 ⟨by omega, by omega, f3, f4, by omega⟩, by omega⟩, fun q => by have := (hP.1 q.1).2.2.2.2; omega⟩)
                  · have c3 : ¬ s.getD (n + 1) 0 = 48 := fun e => c3 (by rw [show ((n : Int) + 1).toNat = n + 1 by omega]; exact (u8_eq (c := 48)).2 e)
                    have f3 : ¬ (s.getD (n + 1) 0 = 48 ∧ (1 < k ∨ False)) := fun q => c3 q.1
                    refine sp W 0 rfl rfl rfl (fun c6 => ?_) (fun c6 => ?_)
                    · refine sp W 0 rfl rfl rfl (fun c7 => ?_) (fun c7 => ?_)
                      · rw [show ((n : Int) + 1).toNat = n + 1 by omega, show (((n : Int) + 1) + (k : Int)).toNat = n + 1 + k by omega] at c7
                        refine rp W 0 rfl rfl rfl (.no (fun q => (hP.1 q.1).2.2.2.1 ⟨by omega, c7⟩))
                      · rw [show ((n : Int) + 1).toNat = n + 1 by omega, show (((n : Int) + 1) + (k : Int)).toNat = n + 1 + k by omega] at c7
                        have f4 : ¬ (k = 3 ∧ ¬ (Op.bytesLess ((s.take (n + 1 + k)).drop (n + 1)) [52, 48, 48] = true ∨ (s.take (n + 1 + k)).drop (n + 1) = [52, 48, 48])) := fun q => c7 q.2
                        refine rp W 0 rfl rfl rfl (.pr ⟨fun e => ⟨hP.2 ⟨by omega, by omega, f3, f4, by omega⟩, by omega⟩, fun q => by have := (hP.1 q.1).2.2.2.2; omega⟩)
                    · have f4 : ¬ (k = 3 ∧ ¬ (Op.bytesLess ((s.take (n + 1 + k)).drop (n + 1)) [52, 48, 48] = true ∨ (s.take (n + 1 + k)).drop (n + 1) = [52, 48, 48])) := fun q => by have := q.1; omega
                      refine rp W 0 rfl rfl rfl (.pr ⟨fun e => ⟨hP.2 ⟨by omega, by omega, f3, f4, by omega⟩, by omega⟩, fun q => by have := (hP.1 q.1).2.2.2.2; omega⟩)
              · have e0 : s.drop (n + 1) = [] := List.drop_eq_nil_iff.2 (by omega)
                have hu : s.drop (n + 1) = cutP (s.drop (n + 1)) 45 := by rw [e0]; rfl
                have hm : False ↔ (s.drop (n + 1)).head? = some 45 := by rw [e0]; simp
                have kr : AFunP Tryz.prog 100 [.str s, .int .i64 ((n : Int) + 1)] (· = .int .i64 (run s (n + 1) : Nat)) := by
                  have := l11Run_ok s (n + 1) (by omega) (by omega)
                  rwa [show ((n + 1 : Nat) : Int) = (n : Int) + 1 by omega] at this
                have tr := run_le s (n + 1) (by omega)
                have hP := hq2.trans (powA_ok (a := n + 1) (m := False) (by omega) hu hm)
                unfold powA at hP
                refine ce W 0 rfl rfl (kr) rfl ?_
                generalize run s (n + 1) = k at *
                refine sp W 0 rfl rfl rfl (fun c1 => ?_) (fun c1 => ?_)
                · refine rp W 0 rfl rfl rfl (.no (fun q => (hP.1 q.1).1 (by omega)))
                refine sp W 0 rfl rfl rfl (fun c2 => ?_) (fun c2 => ?_)
                · refine rp W 0 rfl rfl rfl (.no (fun q => by have := (hP.1 q.1).2.1; omega))
                refine sp W 0 rfl rfl rfl (fun c3 => ?_) (fun c3 => ?_)
                · have c3 : s.getD (n + 1) 0 = 48 := by rw [show ((n : Int) + 1).toNat = n + 1 by omega] at c3; exact (u8_eq (c := 48)).1 c3
                  refine sp W 0 rfl rfl rfl (fun c4 => ?_) (fun c4 => ?_)
                  · refine rp W 0 rfl rfl rfl (.no (fun q => (hP.1 q.1).2.2.1 ⟨c3, .inl (by omega)⟩))
                  · have f3 : ¬ (s.getD (n + 1) 0 = 48 ∧ (1 < k ∨ False)) := fun q => q.2.elim (fun q => by omega) id
                    refine sp W 0 rfl rfl rfl (fun c6 => ?_) (fun c6 => ?_)
                    · refine sp W 0 rfl rfl rfl (fun c7 => ?_) (fun c7 => ?_)
                      · rw [show ((n : Int) + 1).toNat = n + 1 by omega, show (((n : Int) + 1) + (k : Int)).toNat = n + 1 + k by omega] at c7
                        refine rp W 0 rfl rfl rfl (.no (fun q => (hP.1 q.1).2.2.2.1 ⟨by omega, c7⟩))
                      · rw [show ((n : Int) + 1).toNat = n + 1 by omega, show (((n : Int) + 1) + (k : Int)).toNat = n + 1 + k by omega] at c7
                        have f4 : ¬ (k = 3 ∧ ¬ (Op.bytesLess ((s.take (n + 1 + k)).drop (n + 1)) [52, 48, 48] = true ∨ (s.take (n + 1 + k)).drop (n + 1) = [52, 48, 48])) := fun q => c7 q.2
                        refine rp W 0 rfl rfl rfl (.pr ⟨fun e => ⟨hP.2 ⟨by omega, by omega, f3, f4, by omega⟩, by omega⟩, fun q => by have := (hP.1 q.1).2.2.2.2; omega⟩)
                    · have f4 : ¬ (k = 3 ∧ ¬ (Op.bytesLess ((s.take (n + 1 + k)).drop (n + 1)) [52, 48, 48] = true ∨ (s.take (n + 1 + k)).drop (n + 1) = [52, 48, 48])) := fun q => by have := q.1; omega
                      refine rp W 0 rfl rfl rfl (.pr ⟨fun e => ⟨hP.2 ⟨by omega, by omega, f3, f4, by omega⟩, by omega⟩, fun q => by have := (hP.1 q.1).2.2.2.2; omega⟩)
                · have c3 : ¬ s.getD (n + 1) 0 = 48 := fun e => c3 (by rw [show ((n : Int) + 1).toNat = n + 1 by omega]; exact (u8_eq (c := 48)).2 e)
                  have f3 : ¬ (s.getD (n + 1) 0 = 48 ∧ (1 < k ∨ False)) := fun q => c3 q.1
                  refine sp W 0 rfl rfl rfl (fun c6 => ?_) (fun c6 => ?_)
                  · refine sp W 0 rfl rfl rfl (fun c7 => ?_) (fun c7 => ?_)
                    · rw [show ((n : Int) + 1).toNat = n + 1 by omega, show (((n : Int) + 1) + (k : Int)).toNat = n + 1 + k by omega] at c7
                      refine rp W 0 rfl rfl rfl (.no (fun q => (hP.1 q.1).2.2.2.1 ⟨by omega, c7⟩))
                    · rw [show ((n : Int) + 1).toNat = n + 1 by omega, show (((n : Int) + 1) + (k : Int)).toNat = n + 1 + k by omega] at c7
                      have f4 : ¬ (k = 3 ∧ ¬ (Op.bytesLess ((s.take (n + 1 + k)).drop (n + 1)) [52, 48, 48] = true ∨ (s.take (n + 1 + k)).drop (n + 1) = [52, 48, 48])) := fun q => c7 q.2
                      refine rp W 0 rfl rfl rfl (.pr ⟨fun e => ⟨hP.2 ⟨by omega, by omega, f3, f4, by omega⟩, by omega⟩, fun q => by have := (hP.1 q.1).2.2.2.2; omega⟩)
                  · have f4 : ¬ (k = 3 ∧ ¬ (Op.bytesLess ((s.take (n + 1 + k)).drop (n + 1)) [52, 48, 48] = true ∨ (s.take (n + 1 + k)).drop (n + 1) = [52, 48, 48])) := fun q => by have := q.1; omega
                    refine rp W 0 rfl rfl rfl (.pr ⟨fun e => ⟨hP.2 ⟨by omega, by omega, f3, f4, by omega⟩, by omega⟩, fun q => by have := (hP.1 q.1).2.2.2.2; omega⟩)
            · rw [show ((n : Int)).toNat = n by omega] at p4
              have hn : ¬ numE s := fun e => powE_no (by omega) (fun e => p4 ((u8_eq (c := 101)).2 e)) (hq.1 e)
              refine rp W 0 rfl rfl rfl (.pr ⟨fun e => by omega, fun e => absurd e.1 hn⟩)
          · have hn : numE s := hq.2 (powE_nil (by omega))
            refine rp W 0 rfl rfl rfl (.pr ⟨fun e => ⟨hn, by omega⟩, fun e => by omega⟩)
      · have hq : numE s ↔ powE (s.drop n) := by
          refine hq0.trans ?_
          rw [← r0, show s.drop n = [] from List.drop_eq_nil_iff.2 (by omega)]
          simp [fracE]
        refine sp W 0 rfl rfl rfl (fun p3 => ?_) (fun p3 => ?_)
        · refine sp W 0 rfl rfl rfl (fun p4 => ?_) (fun p4 => ?_)
          · rw [show ((n : Int)).toNat = n by omega] at p4
            have hq2 : numE s ↔ powE1 (s.drop (n + 1)) := hq.trans (powE_yes (by omega) ((u8_eq (c := 101)).1 p4))
            refine sp W 0 rfl rfl rfl (fun m1 => ?_) (fun m1 => ?_)
            · refine sp W 0 rfl rfl rfl (fun m2 => ?_) (fun m2 => ?_)
              · rw [show ((n : Int) + 1).toNat = n + 1 by omega] at m2
                have hu : s.drop (n + 1 + 1) = cutP (s.drop (n + 1)) 45 := cutP_yes (by omega) ((u8_eq (c := 45)).1 m2)
                have hm : True ↔ (s.drop (n + 1)).head? = some 45 := by rw [head_at (by omega)]; exact ⟨fun _ => (u8_eq (c := 45)).1 m2, fun _ => trivial⟩
                rw [← show ((n : Int) + 1).toNat = n + 1 by omega] at m2
                have kr : AFunP Tryz.prog 100 [.str s, .int .i64 ((n : Int) + 1 + 1)] (· = .int .i64 (run s (n + 1 + 1) : Nat)) := by
                  have := l11Run_ok s (n + 1 + 1) (by omega) (by omega)
                  rwa [show ((n + 1 + 1 : Nat) : Int) = (n : Int) + 1 + 1 by omega] at this
                have tr := run_le s (n + 1 + 1) (by omega)
                have hP := hq2.trans (powA_ok (a := n + 1 + 1) (m := True) (by omega) hu hm)
                unfold powA at hP
                refine ce W 0 rfl rfl (kr) rfl ?_
                generalize run s (n + 1 + 1) = k at *
                refine sp W 0 rfl rfl rfl (fun c1 => ?_) (fun c1 => ?_)
                · refine rp W 0 rfl rfl rfl (.no (fun q => (hP.1 q.1).1 (by omega)))
                refine sp W 0 rfl rfl rfl (fun c2 => ?_) (fun c2 => ?_)
                · refine rp W 0 rfl rfl rfl (.no (fun q => by have := (hP.1 q.1).2.1; omega))
                refine sp W 0 rfl rfl rfl (fun c3 => ?_) (fun c3 => ?_)
                · have c3 : s.getD (n + 1 + 1) 0 = 48 := by rw [show ((n : Int) + 1 + 1).toNat = n + 1 + 1 by omega] at c3; exact (u8_eq (c := 48)).1 c3
                  refine sp W 0 rfl rfl rfl (fun c4 => ?_) (fun c4 => ?_)
                  · refine rp W 0 rfl rfl rfl (.no (fun q => (hP.1 q.1).2.2.1 ⟨c3, .inl (by omega)⟩))
                  · refine sp W 0 rfl rfl rfl (fun c5 => ?_) (fun c5 => ?_)
                    · refine rp W 0 rfl rfl rfl (.no (fun q => (hP.1 q.1).2.2.1 ⟨c3, .inr trivial⟩))
                    · exact absurd m2 c5
                · have c3 : ¬ s.getD (n + 1 + 1) 0 = 48 := fun e => c3 (by rw [show ((n : Int) + 1 + 1).toNat = n + 1 + 1 by omega]; exact (u8_eq (c := 48)).2 e)
                  have f3 : ¬ (s.getD (n + 1 + 1) 0 = 48 ∧ (1 < k ∨ True)) := fun q => c3 q.1
                  refine sp W 0 rfl rfl rfl (fun c6 => ?_) (fun c6 => ?_)
                  · refine sp W 0 rfl rfl rfl (fun c7 => ?_) (fun c7 => ?_)
                    · rw [show ((n : Int) + 1 + 1).toNat = n + 1 + 1 by omega, show (((n : Int) + 1 + 1) + (k : Int)).toNat = n + 1 + 1 + k by omega] at c7
                      refine rp W 0 rfl rfl rfl (.no (fun q => (hP.1 q.1).2.2.2.1 ⟨by omega, c7⟩))
                    · rw [show ((n : Int) + 1 + 1).toNat = n + 1 + 1 by omega, show (((n : Int) + 1 + 1) + (k : Int)).toNat = n + 1 + 1 + k by omega] at c7
                      have f4 : ¬ (k = 3 ∧ ¬ (Op.bytesLess ((s.take (n + 1 + 1 + k)).drop (n + 1 + 1)) [52, 48, 48] = true ∨ (s.take (n + 1 + 1 + k)).drop (n + 1 + 1) = [52, 48, 48])) := fun q => c7 q.2
                      refine rp W 0 rfl rfl rfl (.pr ⟨fun e => ⟨hP.2 ⟨by omega, by omega, f3, f4, by omega⟩, by omega⟩, fun q => by have := (hP.1 q.1).2.2.2.2; omega⟩)
                  · have f4 : ¬ (k = 3 ∧ ¬ (Op.bytesLess ((s.take (n + 1 + 1 + k)).drop (n + 1 + 1)) [52, 48, 48] = true ∨ (s.take (n + 1 + 1 + k)).drop (n + 1 + 1) = [52, 48, 48])) := fun q => by have := q.1; omega
                    refine rp W 0 rfl rfl rfl (.pr ⟨fun e => ⟨hP.2 ⟨by omega, by omega, f3, f4, by omega⟩, by omega⟩, fun q => by have := (hP.1 q.1).2.2.2.2; omega⟩)
              · rw [show ((n : Int) + 1).toNat = n + 1 by omega] at m2
                have hu : s.drop (n + 1) = cutP (s.drop (n + 1)) 45 := cutP_no (by omega) fun e => m2 ((u8_eq (c := 45)).2 e)
                have hm : False ↔ (s.drop (n + 1)).head? = some 45 := by rw [head_at (by omega)]; exact ⟨False.elim, fun e => m2 ((u8_eq (c := 45)).2 e)⟩
                rw [← show ((n : Int) + 1).toNat = n + 1 by omega] at m2
                have kr : AFunP Tryz.prog 100 [.str s, .int .i64 ((n : Int) + 1)] (· = .int .i64 (run s (n + 1) : Nat)) := by
                  have := l11Run_ok s (n + 1) (by omega) (by omega)
                  rwa [show ((n + 1 : Nat) : Int) = (n : Int) + 1 by omega] at this
                have tr := run_le s (n + 1) (by omega)
                have hP := hq2.trans (powA_ok (a := n + 1) (m := False) (by omega) hu hm)
                unfold powA at hP
                refine ce W 0 rfl rfl (kr) rfl ?_
                generalize run s (n + 1) = k at *
                refine sp W 0 rfl rfl rfl (fun c1 => ?_) (fun c1 => ?_)
                · refine rp W 0 rfl rfl rfl (.no (fun q => (hP.1 q.1).1 (by omega)))
                refine sp W 0 rfl rfl rfl (fun c2 => ?_) (fun c2 => ?_)
                · refine rp W 0 rfl rfl rfl (.no (fun q => by have := (hP.1 q.1).2.1; omega))
                refine sp W 0 rfl rfl rfl (fun c3 => ?_) (fun c3 => ?_)
                · have c3 : s.getD (n + 1) 0 = 48 := by rw [show ((n : Int) + 1).toNat = n + 1 by omega] at c3; exact (u8_eq (c := 48)).1 c3
                  refine sp W 0 rfl rfl rfl (fun c4 => ?_) (fun c4 => ?_)
                  · refine rp W 0 rfl rfl rfl (.no (fun q => (hP.1 q.1).2.2.1 ⟨c3, .inl (by omega)⟩))
                  · refine sp W 0 rfl rfl rfl (fun c5 => ?_) (fun c5 => ?_)
                    · exact absurd c5 m2
                    · have f3 : ¬ (s.getD (n + 1) 0 = 48 ∧ (1 < k ∨ False)) := fun q => q.2.elim (fun q => by omega) id
                      refine sp W 0 rfl rfl rfl (fun c6 => ?_) (fun c6 => ?_)
                      · refine sp W 0 rfl rfl rfl (fun c7 => ?_) (fun c7 => ?_)
                        · rw [show ((n : Int) + 1).toNat = n + 1 by omega, show (((n : Int) + 1) + (k : Int)).toNat = n + 1 + k by omega] at c7
                          refine rp W 0 rfl rfl rfl (.no (fun q => (hP.1 q.1).2.2.2.1 ⟨by omega, c7⟩))
                        · rw [show ((n : Int) + 1).toNat = n + 1 by omega, show (((n : Int) + 1) + (k : Int)).toNat = n + 1 + k by omega] at c7
                          have f4 : ¬ (k = 3 ∧ ¬ (Op.bytesLess ((s.take (n + 1 + k)).drop (n + 1)) [52, 48, 48] = true ∨ (s.take (n + 1 + k)).drop (n + 1) = [52, 48, 48])) := fun q => c7 q.2
                          refine rp W 0 rfl rfl rfl (.pr ⟨fun e => ⟨hP.2 ⟨by omega, by omega, f3, f4, by omega⟩, by omega⟩, fun q => by have := (hP.1 q.1).2.2.2.2; omega⟩)
                      · have f4 : ¬ (k = 3 ∧ ¬ (Op.bytesLess ((s.take (n + 1 + k)).drop (n + 1)) [52, 48, 48] = true ∨ (s.take (n + 1 + k)).drop (n + 1) = [52, 48, 48])) := fun q => by have := q.1; omega
                        refine rp W 0 rfl rfl rfl (.pr ⟨fun e => ⟨hP.2 ⟨by omega, by omega, f3, f4, by omega⟩, by omega⟩, fun q => by have := (hP.1 q.1).2.2.2.2; omega⟩)
                · have c3 : ¬ s.getD (n + 1) 0 = 48 := fun e => c3 (by rw [show ((n : Int) + 1).toNat = n + 1 by omega]; exact (u8_eq (c := 48)).2 e)
                  have f3 : ¬ (s.getD (n + 1) 0 = 48 ∧ (1 < k ∨ False)) := fun q => c3 q.1
                  refine sp W 0 rfl rfl rfl (fun c6 => ?_) (fun c6 => ?_)
                  · refine sp W 0 rfl rfl rfl (fun c7 => ?_) (fun c7 => ?_)
                    · rw [show ((n : Int) + 1).toNat = n + 1 by omega, show (((n : Int) + 1) + (k : Int)).toNat = n + 1 + k by omega] at c7
                      refine rp W 0 rfl rfl rfl (.no (fun q => (hP.1 q.1).2.2.2.1 ⟨by omega, c7⟩))
                    · rw [show ((n : Int) + 1).toNat = n + 1 by omega, show (((n : Int) + 1) + (k : Int)).toNat = n + 1 + k by omega] at c7
                      have f4 : ¬ (k = 3 ∧ ¬ (Op.bytesLess ((s.take (n + 1 + k)).drop (n + 1)) [52, 48, 48] = true ∨ (s.take (n + 1 + k)).drop (n + 1) = [52, 48, 48])) := fun q => c7 q.2
                      refine rp W 0 rfl rfl rfl (.pr ⟨fun e => ⟨hP.2 ⟨by omega, by omega, f3, f4, by omega⟩, by omega⟩, fun q => by have := (hP.1 q.1).2.2.2.2; omega⟩)
                  · have f4 : ¬ (k = 3 ∧ ¬ (Op.bytesLess ((s.take (n + 1 + k)).drop (n + 1)) [52, 48, 48] = true ∨ (s.take (n + 1 + k)).drop (n + 1) = [52, 48, 48])) := fun q => by have := q.1; omega
                    refine rp W 0 rfl rfl rfl (.pr ⟨fun e => ⟨hP.2 ⟨by omega, by omega, f3, f4, by omega⟩, by omega⟩, fun q => by have := (hP.1 q.1).2.2.2.2; omega⟩)
            · have e0 : s.drop (n + 1) = [] := List.drop_eq_nil_iff.2 (by omega)
              have hu : s.drop (n + 1) = cutP (s.drop (n + 1)) 45 := by rw [e0]; rfl
              have hm : False ↔ (s.drop (n + 1)).head? = some 45 := by rw [e0]; simp
              have kr : AFunP Tryz.prog 100 [.str s, .int .i64 ((n : Int) + 1)] (· = .int .i64 (run s (n + 1) : Nat)) := by
                have := l11Run_ok s (n + 1) (by omega) (by omega)
                rwa [show ((n + 1 : Nat) : Int) = (n : Int) + 1 by omega] at this
              have tr := run_le s (n + 1) (by omega)
              have hP := hq2.trans (powA_ok (a := n + 1) (m := False) (by omega) hu hm)
              unfold powA at hP
              refine ce W 0 rfl rfl (kr) rfl ?_
              generalize run s (n + 1) = k at *
              refine sp W 0 rfl rfl rfl (fun c1 => ?_) (fun c1 => ?_)
              · refine rp W 0 rfl rfl rfl (.no (fun q => (hP.1 q.1).1 (by omega)))
              refine sp W 0 rfl rfl rfl (fun c2 => ?_) (fun c2 => ?_)
              · refine rp W 0 rfl rfl rfl (.no (fun q => by have := (hP.1 q.1).2.1; omega))
              refine sp W 0 rfl rfl rfl (fun c3 => ?_) (fun c3 => ?_)
              · have c3 : s.getD (n + 1) 0 = 48 := by rw [show ((n : Int) + 1).toNat = n + 1 by omega] at c3; exact (u8_eq (c := 48)).1 c3
                refine sp W 0 rfl rfl rfl (fun c4 => ?_) (fun c4 => ?_)
                · refine rp W 0 rfl rfl rfl (.no (fun q => (hP.1 q.1).2.2.1 ⟨c3, .inl (by omega)⟩))
                · have f3 : ¬ (s.getD (n + 1) 0 = 48 ∧ (1 < k ∨ False)) := fun q => q.2.elim (fun q => by omega) id
                  refine sp W 0 rfl rfl rfl (fun c6 => ?_) (fun c6 => ?_)
                  · refine sp W 0 rfl rfl rfl (fun c7 => ?_) (fun c7 => ?_)
                    · rw [show ((n : Int) + 1).toNat = n + 1 by omega, show (((n : Int) + 1) + (k : Int)).toNat = n + 1 + k by omega] at c7
                      refine rp W 0 rfl rfl rfl (.no (fun q => (hP.1 q.1).2.2.2.1 ⟨by omega, c7⟩))
                    · rw [show ((n : Int) + 1).toNat = n + 1 by omega, show (((n : Int) + 1) + (k : Int)).toNat = n + 1 + k by omega] at c7
                      have f4 : ¬ (k = 3 ∧ ¬ (Op.bytesLess ((s.take (n + 1 + k)).drop (n + 1)) [52, 48, 48] = true ∨ (s.take (n + 1 + k)).drop (n + 1) = [52, 48, 48])) := fun q => c7 q.2
                      refine rp W 0 rfl rfl rfl (.pr ⟨fun e => ⟨hP.2 ⟨by omega, by omega, f3, f4, by omega⟩, by omega⟩, fun q => by have := (hP.1 q.1).2.2.2.2; omega⟩)
                  · have f4 : ¬ (k = 3 ∧ ¬ (Op.bytesLess ((s.take (n + 1 + k)).drop (n + 1)) [52, 48, 48] = true ∨ (s.take (n + 1 + k)).drop (n + 1) = [52, 48, 48])) := fun q => by have := q.1; omega
                    refine rp W 0 rfl rfl rfl (.pr ⟨fun e => ⟨hP.2 ⟨by omega, by omega, f3, f4, by omega⟩, by omega⟩, fun q => by have := (hP.1 q.1).2.2.2.2; omega⟩)
              · have c3 : ¬ s.getD (n + 1) 0 = 48 := fun e => c3 (by rw [show ((n : Int) + 1).toNat = n + 1 by omega]; exact (u8_eq (c := 48)).2 e)
                have f3 : ¬ (s.getD (n + 1) 0 = 48 ∧ (1 < k ∨ False)) := fun q => c3 q.1
                refine sp W 0 rfl rfl rfl (fun c6 => ?_) (fun c6 => ?_)
                · refine sp W 0 rfl rfl rfl (fun c7 => ?_) (fun c7 => ?_)
                  · rw [show ((n : Int) + 1).toNat = n + 1 by omega, show (((n : Int) + 1) + (k : Int)).toNat = n + 1 + k by omega] at c7
                    refine rp W 0 rfl rfl rfl (.no (fun q => (hP.1 q.1).2.2.2.1 ⟨by omega, c7⟩))
                  · rw [show ((n : Int) + 1).toNat = n + 1 by omega, show (((n : Int) + 1) + (k : Int)).toNat = n + 1 + k by omega] at c7
                    have f4 : ¬ (k = 3 ∧ ¬ (Op.bytesLess ((s.take (n + 1 + k)).drop (n + 1)) [52, 48, 48] = true ∨ (s.take (n + 1 + k)).drop (n + 1) = [52, 48, 48])) := fun q => c7 q.2
                    refine rp W 0 rfl rfl rfl (.pr ⟨fun e => ⟨hP.2 ⟨by omega, by omega, f3, f4, by omega⟩, by omega⟩, fun q => by have := (hP.1 q.1).2.2.2.2; omega⟩)
                · have f4 : ¬ (k = 3 ∧ ¬ (Op.bytesLess ((s.take (n + 1 + k)).drop (n + 1)) [52, 48, 48] = true ∨ (s.take (n + 1 + k)).drop (n + 1) = [52, 48, 48])) := fun q => by have := q.1; omega
                  refine rp W 0 rfl rfl rfl (.pr ⟨fun e => ⟨hP.2 ⟨by omega, by omega, f3, f4, by omega⟩, by omega⟩, fun q => by have := (hP.1 q.1).2.2.2.2; omega⟩)
          · rw [show ((n : Int)).toNat = n by omega] at p4
            have hn : ¬ numE s := fun e => powE_no (by omega) (fun e => p4 ((u8_eq (c := 101)).2 e)) (hq.1 e)
            refine rp W 0 rfl rfl rfl (.pr ⟨fun e => by omega, fun e => absurd e.1 hn⟩)
        · have hn : numE s := hq.2 (powE_nil (by omega))
          refine rp W 0 rfl rfl rfl (.pr ⟨fun e => ⟨hn, by omega⟩, fun e => by omega⟩)
  · have hw := (w0 (by omega)).2 fun k => by have := k.1; omega
    have hq0 : numE s ↔ fracE (Rg s) := ⟨fun e => e.2, fun e => ⟨hw, e⟩⟩
    refine sp W 0 rfl rfl rfl (fun p1 => ?_) (fun p1 => ?_)
    · refine sp W 0 rfl rfl rfl (fun p2 => ?_) (fun p2 => ?_)
      · rw [show (n : Int).toNat = n by omega] at p2
        have p2 := (u8_eq (c := 46)).1 p2
        have kk : AFunP Tryz.prog 100 [.str s, .int .i64 ((n : Int) + 1)] (· = .int .i64 (run s (n + 1) : Nat)) := l11Run_ok s (n + 1) (by omega) (by omega)
        have tk := run_le s (n + 1) (by omega)
        have hf : numE s ↔ run s (n + 1) ≠ 0 ∧ powE (s.drop (n + 1 + run s (n + 1))) := by
          refine hq0.trans ?_
          rw [← r0, fracE_yes (by omega) p2]
        refine ce W 0 rfl rfl (kk) rfl ?_
        generalize run s (n + 1) = j at *
        refine sp W 0 rfl rfl rfl (fun p5 => ?_) (fun p5 => ?_)
        · refine rp W 0 rfl rfl rfl (.no (fun q => (hf.1 q.1).1 (by omega)))
        have hq : numE s ↔ powE (s.drop (n + 1 + j)) := ⟨fun e => (hf.1 e).2, fun e => hf.2 ⟨by omega, e⟩⟩
        refine sp W 0 rfl rfl rfl (fun p3 => ?_) (fun p3 => ?_)
        · refine sp W 0 rfl rfl rfl (fun p4 => ?_) (fun p4 => ?_)
          · rw [show ((n : Int) + 1 + (j : Int)).toNat = n + 1 + j by omega] at p4
            have hq2 : numE s ↔ powE1 (s.drop (n + 1 + j + 1)) := hq.trans (powE_yes (by omega) ((u8_eq (c := 101)).1 p4))
            refine sp W 0 rfl rfl rfl (fun m1 => ?_) (fun m1 => ?_)
            · refine sp W 0 rfl rfl rfl (fun m2 => ?_) (fun m2 => ?_)
              · rw [show ((n : Int) + 1 + (j : Int) + 1).toNat = n + 1 + j + 1 by omega] at m2
                have hu : s.drop (n + 1 + j + 1 + 1) = cutP (s.drop (n + 1 + j + 1)) 45 := cutP_yes (by omega) ((u8_eq (c := 45)).1 m2)
                have hm : True ↔ (s.drop (n + 1 + j + 1)).head? = some 45 := by rw [head_at (by omega)]; exact ⟨fun _ => (u8_eq (c := 45)).1 m2, fun _ => trivial⟩
                rw [← show ((n : Int) + 1 + (j : Int) + 1).toNat = n + 1 + j + 1 by omega] at m2
                have kr : AFunP Tryz.prog 100 [.str s, .int .i64 ((n : Int) + 1 + (j : Int) + 1 + 1)] (· = .int .i64 (run s (n + 1 + j + 1 + 1) : Nat)) := by
                  have := l11Run_ok s (n + 1 + j + 1 + 1) (by omega) (by omega)
                  rwa [show ((n + 1 + j + 1 + 1 : Nat) : Int) = (n : Int) + 1 + (j : Int) + 1 + 1 by omega] at this
                have tr := run_le s (n + 1 + j + 1 + 1) (by omega)
                have hP := hq2.trans (powA_ok (a := n + 1 + j + 1 + 1) (m := True) (by omega) hu hm)
                unfold powA at hP
                refine ce W 0 rfl rfl (kr) rfl ?_
                generalize run s (n + 1 + j + 1 + 1) = k at *
                refine sp W 0 rfl rfl rfl (fun c1 => ?_) (fun c1 => ?_)
                · refine rp W 0 rfl rfl rfl (.no (fun q => (hP.1 q.1).1 (by omega)))
                refine sp W 0 rfl rfl rfl (fun c2 => ?_) (fun c2 => ?_)
                · refine rp W 0 rfl rfl rfl (.no (fun q => by have := (hP.1 q.1).2.1; omega))
                refine sp W 0 rfl rfl rfl (fun c3 => ?_) (fun c3 => ?_)
                · have c3 : s.getD (n + 1 + j + 1 + 1) 0 = 48 := by rw [show ((n : Int) + 1 + (j : Int) + 1 + 1).toNat = n + 1 + j + 1 + 1 by omega] at c3; exact (u8_eq (c := 48)).1 c3
                  refine sp W 0 rfl rfl rfl (fun c4 => ?_) (fun c4 => ?_)
                  · refine rp W 0 rfl rfl rfl (.no (fun q => (hP.1 q.1).2.2.1 ⟨c3, .inl (by omega)⟩))
                  · refine sp W 0 rfl rfl rfl (fun c5 => ?_) (fun c5 => ?_)
                    · refine rp W 0 rfl rfl rfl (.no (fun q => (hP.1 q.1).2.2.1 ⟨c3, .inr trivial⟩))
                    · exact absurd m2 c5
                · have c3 : ¬ s.getD (n + 1 + j + 1 + 1) 0 = 48 := fun e => c3 (by rw [show ((n : Int) + 1 + (j : Int) + 1 + 1).toNat = n + 1 + j + 1 + 1 by omega]; exact (u8_eq (c := 48)).2 e)
                  have f3 : ¬ (s.getD (n + 1 + j + 1 + 1) 0 = 48 ∧ (1 < k ∨ True)) := fun q => c3 q.1
                  refine sp W 0 rfl rfl rfl (fun c6 => ?_) (fun c6 => ?_)
                  · refine sp W 0 rfl rfl rfl (fun c7 => ?_) (fun c7 => ?_)
                    · rw [show ((n : Int) + 1 + (j : Int) + 1 + 1).toNat = n + 1 + j + 1 + 1 by omega, show (((n : Int) + 1 + (j : Int) + 1 + 1) + (k : Int)).toNat = n + 1 + j + 1 + 1 + k by omega] at c7
                      refine rp W 0 rfl rfl rfl (.no (fun q => (hP.1 q.1).2.2.2.1 ⟨by omega, c7⟩))
                    · rw [show ((n : Int) + 1 + (j : Int) + 1 + 1).toNat = n + 1 + j + 1 + 1 by omega, show (((n : Int) + 1 + (j : Int) + 1 + 1) + (k : Int)).toNat = n + 1 + j + 1 + 1 + k by omega] at c7
                      have f4 : ¬ (k = 3 ∧ ¬ (Op.bytesLess ((s.take (n + 1 + j + 1 + 1 + k)).drop (n + 1 + j + 1 + 1)) [52, 48, 48] = true ∨ (s.take (n + 1 + j + 1 + 1 + k)).drop (n + 1 + j + 1 + 1) = [52, 48, 48])) := fun q => c7 q.2
                      refine rp W 0 rfl rfl rfl (.pr ⟨fun e => ⟨hP.2 ⟨by omega, by omega, f3, f4, by omega⟩, by omega⟩, fun q => by have := (hP.1 q.1).2.2.2.2; omega⟩)
                  · have f4 : ¬ (k = 3 ∧ ¬ (Op.bytesLess ((s.take (n + 1 + j + 1 + 1 + k)).drop (n + 1 + j + 1 + 1)) [52, 48, 48] = true ∨ (s.take (n + 1 + j + 1 + 1 + k)).drop (n + 1 + j + 1 + 1) = [52, 48, 48])) := fun q => by have := q.1; omega
                    refine rp W 0 rfl rfl rfl (.pr ⟨fun e => ⟨hP.2 ⟨by omega, by omega, f3, f4, by omega⟩, by omega⟩, fun q => by have := (hP.1 q.1).2.2.2.2; omega⟩)
              · rw [show ((n : Int) + 1 + (j : Int) + 1).toNat = n + 1 + j + 1 by omega] at m2
                have hu : s.drop (n + 1 + j + 1) = cutP (s.drop (n + 1 + j + 1)) 45 := cutP_no (by omega) fun e => m2 ((u8_eq (c := 45)).2 e)
                have hm : False ↔ (s.drop (n + 1 + j + 1)).head? = some 45 := by rw [head_at (by omega)]; exact ⟨False.elim, fun e => m2 ((u8_eq (c := 45)).2 e)⟩
                rw [← show ((n : Int) + 1 + (j : Int) + 1).toNat = n + 1 + j + 1 by omega] at m2
                have kr : AFunP Tryz.prog 100 [.str s, .int .i64 ((n : Int) + 1 + (j : Int) + 1)] (· = .int .i64 (run s (n + 1 + j + 1) : Nat)) := by
                  have := l11Run_ok s (n + 1 + j + 1) (by omega) (by omega)
                  rwa [show ((n + 1 + j + 1 : Nat) : Int) = (n : Int) + 1 + (j : Int) + 1 by omega] at this
                have tr := run_le s (n + 1 + j + 1) (by omega)
                have hP := hq2.trans (powA_ok (a := n + 1 + j + 1) (m := False) (by omega) hu hm)
                unfold powA at hP
                refine ce W 0 rfl rfl (kr) rfl ?_
                generalize run s (n + 1 + j + 1) = k at *
                refine sp W 0 rfl rfl rfl (fun c1 => ?_) (fun c1 => ?_)
                · refine rp W 0 rfl rfl rfl (.no (fun q => (hP.1 q.1).1 (by omega)))
                refine sp W 0 rfl rfl rfl (fun c2 => ?_) (fun c2 => ?_)
                · refine rp W 0 rfl rfl rfl (.no (fun q => by have := (hP.1 q.1).2.1; omega))
                refine sp W 0 rfl rfl rfl (fun c3 => ?_) (fun c3 => ?_)
                · have c3 : s.getD (n + 1 + j + 1) 0 = 48 := by rw [show ((n : Int) + 1 + (j : Int) + 1).toNat = n + 1 + j + 1 by omega] at c3; exact (u8_eq (c := 48)).1 c3
                  refine sp W 0 rfl rfl rfl (fun c4 => ?_) (fun c4 => ?_)
                  · refine rp W 0 rfl rfl rfl (.no (fun q => (hP.1 q.1).2.2.1 ⟨c3, .inl (by omega)⟩))
                  · refine sp W 0 rfl rfl rfl (fun c5 => ?_) (fun c5 => ?_)
                    · exact absurd c5 m2
                    · have f3 : ¬ (s.getD (n + 1 + j + 1) 0 = 48 ∧ (1 < k ∨ False)) := fun q => q.2.elim (fun q => by omega) id
                      refine sp W 0 rfl rfl rfl (fun c6 => ?_) (fun c6 => ?_)
                      · refine sp W 0 rfl rfl rfl (fun c7 => ?_) (fun c7 => ?_)
                        · rw [show ((n : Int) + 1 + (j : Int) + 1).toNat = n + 1 + j + 1 by omega, show (((n : Int) + 1 + (j : Int) + 1) + (k : Int)).toNat = n + 1 + j + 1 + k by omega] at c7
                          refine rp W 0 rfl rfl rfl (.no (fun q => (hP.1 q.1).2.2.2.1 ⟨by omega, c7⟩))
                        · rw [show ((n : Int) + 1 + (j : Int) + 1).toNat = n + 1 + j + 1 by omega, show (((n : Int) + 1 + (j : Int) + 1) + (k : Int)).toNat = n + 1 + j + 1 + k by omega] at c7
                          have f4 : ¬ (k = 3 ∧ ¬ (Op.bytesLess ((s.take (n + 1 + j + 1 + k)).drop (n + 1 + j + 1)) [52, 48, 48] = true ∨ (s.take (n + 1 + j + 1 + k)).drop (n + 1 + j + 1) = [52, 48, 48])) := fun q => c7 q.2
                          refine rp W 0 rfl rfl rfl (.pr ⟨fun e => ⟨hP.2 ⟨by omega, by omega, f3, f4, by omega⟩, by omega⟩, fun q => by have := (hP.1 q.1).2.2.2.2; omega⟩)
                      · have f4 : ¬ (k = 3 ∧ ¬ (Op.bytesLess ((s.take (n + 1 + j + 1 + k)).drop (n + 1 + j + 1)) [52, 48, 48] = true ∨ (s.take (n + 1 + j + 1 + k)).drop (n + 1 + j + 1) = [52, 48, 48])) := fun q => by have := q.1; omega
                        refine rp W 0 rfl rfl rfl (.pr ⟨fun e => ⟨hP.2 ⟨by omega, by omega, f3, f4, by omega⟩, by omega⟩, fun q => by have := (hP.1 q.1).2.2.2.2; omega⟩)
                · have c3 : ¬ s.getD (n + 1 + j + 1) 0 = 48 := fun e => c3 (by rw [show ((n : Int) + 1 + (j : Int) + 1).toNat = n + 1 + j + 1 by omega]; exact (u8_eq (c := 48)).2 e)
                  have f3 : ¬ (s.getD (n + 1 + j + 1) 0 = 48 ∧ (1 < k ∨ False)) := fun q => c3 q.1
                  refine sp W 0 rfl rfl rfl (fun c6 => ?_) (fun c6 => ?_)
                  · refine sp W 0 rfl rfl rfl (fun c7 => ?_) (fun c7 => ?_)
                    · rw [show ((n : Int) + 1 + (j : Int) + 1).toNat = n + 1 + j + 1 by omega, show (((n : Int) + 1 + (j : Int) + 1) + (k : Int)).toNat = n + 1 + j + 1 + k by omega] at c7
                      refine rp W 0 rfl rfl rfl (.no (fun q => (hP.1 q.1).2.2.2.1 ⟨by omega, c7⟩))
                    · rw [show ((n : Int) + 1 + (j : Int) + 1).toNat = n + 1 + j + 1 by omega, show (((n : Int) + 1 + (j : Int) + 1) + (k : Int)).toNat = n + 1 + j + 1 + k by omega] at c7
                      have f4 : ¬ (k = 3 ∧ ¬ (Op.bytesLess ((s.take (n + 1 + j + 1 + k)).drop (n + 1 + j + 1)) [52, 48, 48] = true ∨ (s.take (n + 1 + j + 1 + k)).drop (n + 1 + j + 1) = [52, 48, 48])) := fun q => c7 q.2
                      refine rp W 0 rfl rfl rfl (.pr ⟨fun e => ⟨hP.2 ⟨by omega, by omega, f3, f4, by omega⟩, by omega⟩, fun q => by have := (hP.1 q.1).2.2.2.2; omega⟩)
                  · have f4 : ¬ (k = 3 ∧ ¬ (Op.bytesLess ((s.take (n + 1 + j + 1 + k)).drop (n + 1 + j + 1)) [52, 48, 48] = true ∨ (s.take (n + 1 + j + 1 + k)).drop (n + 1 + j + 1) = [52, 48, 48])) := fun q => by have := q.1; omega
                    refine rp W 0 rfl rfl rfl (.pr ⟨fun e => ⟨hP.2 ⟨by omega, by omega, f3, f4, by omega⟩, by omega⟩, fun q => by have := (hP.1 q.1).2.2.2.2; omega⟩)
            · have e0 : s.drop (n + 1 + j + 1) = [] := List.drop_eq_nil_iff.2 (by omega)
              have hu : s.drop (n + 1 + j + 1) = cutP (s.drop (n + 1 + j + 1)) 45 := by rw [e0]; rfl
              have hm : False ↔ (s.drop (n + 1 + j + 1)).head? = some 45 := by rw [e0]; simp
              have kr : AFunP Tryz.prog 100 [.str s, .int .i64 ((n : Int) + 1 + (j : Int) + 1)] (· = .int .i64 (run s (n + 1 + j + 1) : Nat)) := by
                have := l11Run_ok s (n + 1 + j + 1) (by omega) (by omega)
                rwa [show ((n + 1 + j + 1 : Nat) : Int) = (n : Int) + 1 + (j : Int) + 1 by omega] at this
              have tr := run_le s (n + 1 + j + 1) (by omega)
              have hP := hq2.trans (powA_ok (a := n + 1 + j + 1) (m := False) (by omega) hu hm)
              unfold powA at hP
              refine ce W 0 rfl rfl (kr) rfl ?_
              generalize run s (n + 1 + j + 1) = k at *
              refine sp W 0 rfl rfl rfl (fun c1 => ?_) (fun c1 => ?_)
              · refine rp W 0 rfl rfl rfl (.no (fun q => (hP.1 q.1).1 (by omega)))
              refine sp W 0 rfl rfl rfl (fun c2 => ?_) (fun c2 => ?_)
              · refine rp W 0 rfl rfl rfl (.no (fun q => by have := (hP.1 q.1).2.1; omega))
              refine sp W 0 rfl rfl rfl (fun c3 => ?_) (fun c3 => ?_)
              · have c3 : s.getD (n + 1 + j + 1) 0 = 48 := by rw [show ((n : Int) + 1 + (j : Int) + 1).toNat = n + 1 + j + 1 by omega] at c3; exact (u8_eq (c := 48)).1 c3
                refine sp W 0 rfl rfl rfl (fun c4 => ?_) (fun c4 => ?_)
                · refine rp W 0 rfl rfl rfl (.no (fun q => (hP.1 q.1).2.2.1 ⟨c3, .inl (by omega)⟩))
                · have f3 : ¬ (s.getD (n + 1 + j + 1) 0 = 48 ∧ (1 < k ∨ False)) := fun q => q.2.elim (fun q => by omega) id
                  refine sp W 0 rfl rfl rfl (fun c6 => ?_) (fun c6 => ?_)
                  · refine sp W 0 rfl rfl rfl (fun c7 => ?_) (fun c7 => ?_)
                    · rw [show ((n : Int) + 1 + (j : Int) + 1).toNat = n + 1 + j + 1 by omega, show (((n : Int) + 1 + (j : Int) + 1) + (k : Int)).toNat = n + 1 + j + 1 + k by omega] at c7
                      refine rp W 0 rfl rfl rfl (.no (fun q => (hP.1 q.1).2.2.2.1 ⟨by omega, c7⟩))
                    · rw [show ((n : Int) + 1 + (j : Int) + 1).toNat = n + 1 + j + 1 by omega, show (((n : Int) + 1 + (j : Int) + 1) + (k : Int)).toNat = n + 1 + j + 1 + k by omega] at c7
                      have f4 : ¬ (k = 3 ∧ ¬ (Op.bytesLess ((s.take (n + 1 + j + 1 + k)).drop (n + 1 + j + 1)) [52, 48, 48] = true ∨ (s.take (n + 1 + j + 1 + k)).drop (n + 1 + j + 1) = [52, 48, 48])) := fun q => c7 q.2
                      refine rp W 0 rfl rfl rfl (.pr ⟨fun e => ⟨hP.2 ⟨by omega, by omega, f3, f4, by omega⟩, by omega⟩, fun q => by have := (hP.1 q.1).2.2.2.2; omega⟩)
                  · have f4 : ¬ (k = 3 ∧ ¬ (Op.bytesLess ((s.take (n + 1 + j + 1 + k)).drop (n + 1 + j + 1)) [52, 48, 48] = true ∨ (s.take (n + 1 + j + 1 + k)).drop (n + 1 + j + 1) = [52, 48, 48])) := fun q => by have := q.1; omega
                    refine rp W 0 rfl rfl rfl (.pr ⟨fun e => ⟨hP.2 ⟨by omega, by omega, f3, f4, by omega⟩, by omega⟩, fun q => by have := (hP.1 q.1).2.2.2.2; omega⟩)
              · have c3 : ¬ s.getD (n + 1 + j + 1) 0 = 48 := fun e => c3 (by rw [show ((n : Int) + 1 + (j : Int) + 1).toNat = n + 1 + j + 1 by omega]; exact (u8_eq (c := 48)).2 e)
                have f3 : ¬ (s.getD (n + 1 + j + 1) 0 = 48 ∧ (1 < k ∨ False)) := fun q => c3 q.1
                refine sp W 0 rfl rfl rfl (fun c6 => ?_) (fun c6 => ?_)
                · refine sp W 0 rfl rfl rfl (fun c7 => ?_) (fun c7 => ?_)
                  · rw [show ((n : Int) + 1 + (j : Int) + 1).toNat = n + 1 + j + 1 by omega, show (((n : Int) + 1 + (j : Int) + 1) + (k : Int)).toNat = n + 1 + j + 1 + k by omega] at c7
                    refine rp W 0 rfl rfl rfl (.no (fun q => (hP.1 q.1).2.2.2.1 ⟨by omega, c7⟩))
                  · rw [show ((n : Int) + 1 + (j : Int) + 1).toNat = n + 1 + j + 1 by omega, show (((n : Int) + 1 + (j : Int) + 1) + (k : Int)).toNat = n + 1 + j + 1 + k by omega] at c7
                    have f4 : ¬ (k = 3 ∧ ¬ (Op.bytesLess ((s.take (n + 1 + j + 1 + k)).drop (n + 1 + j + 1)) [52, 48, 48] = true ∨ (s.take (n + 1 + j + 1 + k)).drop (n + 1 + j + 1) = [52, 48, 48])) := fun q => c7 q.2
                    refine rp W 0 rfl rfl rfl (.pr ⟨fun e => ⟨hP.2 ⟨by omega, by omega, f3, f4, by omega⟩, by omega⟩, fun q => by have := (hP.1 q.1).2.2.2.2; omega⟩)
                · have f4 : ¬ (k = 3 ∧ ¬ (Op.bytesLess ((s.take (n + 1 + j + 1 + k)).drop (n + 1 + j + 1)) [52, 48, 48] = true ∨ (s.take (n + 1 + j + 1 + k)).drop (n + 1 + j + 1) = [52, 48, 48])) := fun q => by have := q.1; omega
                  refine rp W 0 rfl rfl rfl (.pr ⟨fun e => ⟨hP.2 ⟨by omega, by omega, f3, f4, by omega⟩, by omega⟩, fun q => by have := (hP.1 q.1).2.2.2.2; omega⟩)
          · rw [show ((n : Int) + 1 + (j : Int)).toNat = n + 1 + j by omega] at p4
            have hn : ¬ numE s := fun e => powE_no (by omega) (fun e => p4 ((u8_eq (c := 101)).2 e)) (hq.1 e)
            refine rp W 0 rfl rfl rfl (.pr ⟨fun e => by omega, fun e => absurd e.1 hn⟩)
        · have hn : numE s := hq.2 (powE_nil (by omega))
          refine rp W 0 rfl rfl rfl (.pr ⟨fun e => ⟨hn, by omega⟩, fun e => by omega⟩)
      · rw [show (n : Int).toNat = n by omega] at p2
        have hq : numE s ↔ powE (s.drop n) := by
          refine hq0.trans ?_
          rw [← r0, fracE_no fun e => p2 ((u8_eq (c := 46)).2 e)]
        refine sp W 0 rfl rfl rfl (fun p3 => ?_) (fun p3 => ?_)
        · refine sp W 0 rfl rfl rfl (fun p4 => ?_) (fun p4 => ?_)
          · rw [show ((n : Int)).toNat = n by omega] at p4
            have hq2 : numE s ↔ powE1 (s.drop (n + 1)) := hq.trans (powE_yes (by omega) ((u8_eq (c := 101)).1 p4))
            refine sp W 0 rfl rfl rfl (fun m1 => ?_) (fun m1 => ?_)
            · refine sp W 0 rfl rfl rfl (fun m2 => ?_) (fun m2 => ?_)
              · rw [show ((n : Int) + 1).toNat = n + 1 by omega] at m2
                have hu : s.drop (n + 1 + 1) = cutP (s.drop (n + 1)) 45 := cutP_yes (by omega) ((u8_eq (c := 45)).1 m2)
                have hm : True ↔ (s.drop (n + 1)).head? = some 45 := by rw [head_at (by omega)]; exact ⟨fun _ => (u8_eq (c := 45)).1 m2, fun _ => trivial⟩
                rw [← show ((n : Int) + 1).toNat = n + 1 by omega] at m2
                have kr : AFunP Tryz.prog 100 [.str s, .int .i64 ((n : Int) + 1 + 1)] (· = .int .i64 (run s (n + 1 + 1) : Nat)) := by
                  have := l11Run_ok s (n + 1 + 1) (by omega) (by omega)
                  rwa [show ((n + 1 + 1 : Nat) : Int) = (n : Int) + 1 + 1 by omega] at this
                have tr := run_le s (n + 1 + 1) (by omega)
                have hP := hq2.trans (powA_ok (a := n + 1 + 1) (m := True) (by omega) hu hm)
                unfold powA at hP
                refine ce W 0 rfl rfl (kr) rfl ?_
                generalize run s (n + 1 + 1) = k at *
                refine sp W 0 rfl rfl rfl (fun c1 => ?_) (fun c1 => ?_)
                · refine rp W 0 rfl rfl rfl (.no (fun q => (hP.1 q.1).1 (by omega)))
                refine sp W 0 rfl rfl rfl (fun c2 => ?_) (fun c2 => ?_)
                · refine rp W 0 rfl rfl rfl (.no (fun q => by have := (hP.1 q.1).2.1; omega))
                refine sp W 0 rfl rfl rfl (fun c3 => ?_) (fun c3 => ?_)
                · have c3 : s.getD (n + 1 + 1) 0 = 48 := by rw [show ((n : Int) + 1 + 1).toNat = n + 1 + 1 by omega] at c3; exact (u8_eq (c := 48)).1 c3
                  refine sp W 0 rfl rfl rfl (fun c4 => ?_) (fun c4 => ?_)
                  · refine rp W 0 rfl rfl rfl (.no (fun q => (hP.1 q.1).2.2.1 ⟨c3, .inl (by omega)⟩))
                  · refine sp W 0 rfl rfl rfl (fun c5 => ?_) (fun c5 => ?_)
                    · refine rp W 0 rfl rfl rfl (.no (fun q => (hP.1 q.1).2.2.1 ⟨c3, .inr trivial⟩))
                    · exact absurd m2 c5
                · have c3 : ¬ s.getD (n + 1 + 1) 0 = 48 := fun e => c3 (by rw [show ((n : Int) + 1 + 1).toNat = n + 1 + 1 by omega]; exact (u8_eq (c := 48)).2 e)
                  have f3 : ¬ (s.getD (n + 1 + 1) 0 = 48 ∧ (1 < k ∨ True)) := fun q => c3 q.1
                  refine sp W 0 rfl rfl rfl (fun c6 => ?_) (fun c6 => ?_)
                  · refine sp W 0 rfl rfl rfl (fun c7 => ?_) (fun c7 => ?_)
                    · rw [show ((n : Int) + 1 + 1).toNat = n + 1 + 1 by omega, show (((n : Int) + 1 + 1) + (k : Int)).toNat = n + 1 + 1 + k by omega] at c7
                      refine rp W 0 rfl rfl rfl (.no (fun q => (hP.1 q.1).2.2.2.1 ⟨by omega, c7⟩))
                    · rw [show ((n : Int) + 1 + 1).toNat = n + 1 + 1 by omega, show (((n : Int) + 1 + 1) + (k : Int)).toNat = n + 1 + 1 + k by omega] at c7
                      have f4 : ¬ (k = 3 ∧ ¬ (Op.bytesLess ((s.take (n + 1 + 1 + k)).drop (n + 1 + 1)) [52, 48, 48] = true ∨ (s.take (n + 1 + 1 + k)).drop (n + 1 + 1) = [52, 48, 48])) := fun q => c7 q.2
                      refine rp W 0 rfl rfl rfl (.pr ⟨fun e => ⟨hP.2 ⟨by omega, by omega, f3, f4, by omega⟩, by omega⟩, fun q => by have := (hP.1 q.1).2.2.2.2; omega⟩)
                  · have f4 : ¬ (k = 3 ∧ ¬ (Op.bytesLess ((s.take (n + 1 + 1 + k)).drop (n + 1 + 1)) [52, 48, 48] = true ∨ (s.take (n + 1 + 1 + k)).drop (n + 1 + 1) = [52, 48, 48])) := fun q => by have := q.1; omega
                    refine rp W 0 rfl rfl rfl (.pr ⟨fun e => ⟨hP.2 ⟨by omega, by omega, f3, f4, by omega⟩, by omega⟩, fun q => by have := (hP.1 q.1).2.2.2.2; omega⟩)
              · rw [show ((n : Int) + 1).toNat = n + 1 by omega] at m2
                have hu : s.drop (n + 1) = cutP (s.drop (n + 1)) 45 := cutP_no (by omega) fun e => m2 ((u8_eq (c := 45)).2 e)
                have hm : False ↔ (s.drop (n + 1)).head? = some 45 := by rw [head_at (by omega)]; exact ⟨False.elim, fun e => m2 ((u8_eq (c := 45)).2 e)⟩
                rw [← show ((n : Int) + 1).toNat = n + 1 by omega] at m2
                have kr : AFunP Tryz.prog 100 [.str s, .int .i64 ((n : Int) + 1)] (· = .int .i64 (run s (n + 1) : Nat)) := by
                  have := l11Run_ok s (n + 1) (by omega) (by omega)
                  rwa [show ((n + 1 : Nat) : Int) = (n : Int) + 1 by omega] at this
                have tr := run_le s (n + 1) (by omega)
                have hP := hq2.trans (powA_ok (a := n + 1) (m := False) (by omega) hu hm)
                unfold powA at hP
                refine ce W 0 rfl rfl (kr) rfl ?_
                generalize run s (n + 1) = k at *
                refine sp W 0 rfl rfl rfl (fun c1 => ?_) (fun c1 => ?_)
                · refine rp W 0 rfl rfl rfl (.no (fun q => (hP.1 q.1).1 (by omega)))
                refine sp W 0 rfl rfl rfl (fun c2 => ?_) (fun c2 => ?_)
                · refine rp W 0 rfl rfl rfl (.no (fun q => by have := (hP.1 q.1).2.1; omega))
                refine sp W 0 rfl rfl rfl (fun c3 => ?_) (fun c3 => ?_)
                · have c3 : s.getD (n + 1) 0 = 48 := by rw [show ((n : Int) + 1).toNat = n + 1 by omega] at c3; exact (u8_eq (c := 48)).1 c3
                  refine sp W 0 rfl rfl rfl (fun c4 => ?_) (fun c4 => ?_)
                  · refine rp W 0 rfl rfl rfl (.no (fun q => (hP.1 q.1).2.2.1 ⟨c3, .inl (by omega)⟩))
                  · refine sp W 0 rfl rfl rfl (fun c5 => ?_) (fun c5 => ?_)
                    · exact absurd c5 m2
                    · have f3 : ¬ (s.getD (n + 1) 0 = 48 ∧ (1 < k ∨ False)) := fun q => q.2.elim (fun q => by omega) id
                      refine sp W 0 rfl rfl rfl (fun c6 => ?_) (fun c6 => ?_)
                      · refine sp W 0 rfl rfl rfl (fun c7 => ?_) (fun c7 => ?_)
                        · rw [show ((n : Int) + 1).toNat = n + 1 by omega, show (((n : Int) + 1) + (k : Int)).toNat = n + 1 + k by omega] at c7
                          refine rp W 0 rfl rfl rfl (.no (fun q => (hP.1 q.1).2.2.2.1 ⟨by omega, c7⟩))
                        · rw [show ((n : Int) + 1).toNat = n + 1 by omega, show (((n : Int) + 1) + (k : Int)).toNat = n + 1 + k by omega] at c7
                          have f4 : ¬ (k = 3 ∧ ¬ (Op.bytesLess ((s.take (n + 1 + k)).drop (n + 1)) [52, 48, 48] = true ∨ (s.take (n + 1 + k)).drop (n + 1) = [52, 48, 48])) := fun q => c7 q.2
                          refine rp W 0 rfl rfl rfl (.pr ⟨fun e => ⟨hP.2 ⟨by omega, by omega, f3, f4, by omega⟩, by omega⟩, fun q => by have := (hP.1 q.1).2.2.2.2; omega⟩)
                      · have f4 : ¬ (k = 3 ∧ ¬ (Op.bytesLess ((s.take (n + 1 + k)).drop (n + 1)) [52, 48, 48] = true ∨ (s.take (n + 1 + k)).drop (n + 1) = [52, 48, 48])) := fun q => by have := q.1; omega
                        refine rp W 0 rfl rfl rfl (.pr ⟨fun e => ⟨hP.2 ⟨by omega, by omega, f3, f4, by omega⟩, by omega⟩, fun q => by have := (hP.1 q.1).2.2.2.2; omega⟩)
                · have c3 : ¬ s.getD (n + 1) 0 = 48 := fun e => c3 (by rw [show ((n : Int) + 1).toNat = n + 1 by omega]; exact (u8_eq (c := 48)).2 e)
                  have f3 : ¬ (s.getD (n + 1) 0 = 48 ∧ (1 < k ∨ False)) := fun q => c3 q.1
                  refine sp W 0 rfl rfl rfl (fun c6 => ?_) (fun c6 => ?_)
                  · refine sp W 0 rfl rfl rfl (fun c7 => ?_) (fun c7 => ?_)
                    · rw [show ((n : Int) + 1).toNat = n + 1 by omega, show (((n : Int) + 1) + (k : Int)).toNat = n + 1 + k by omega] at c7
                      refine rp W 0 rfl rfl rfl (.no (fun q => (hP.1 q.1).2.2.2.1 ⟨by omega, c7⟩))
                    · rw [show ((n : Int) + 1).toNat = n + 1 by omega, show (((n : Int) + 1) + (k : Int)).toNat = n + 1 + k by omega] at c7
                      have f4 : ¬ (k = 3 ∧ ¬ (Op.bytesLess ((s.take (n + 1 + k)).drop (n + 1)) [52, 48, 48] = true ∨ (s.take (n + 1 + k)).drop (n + 1) = [52, 48, 48])) := fun q => c7 q.2
                      refine rp W 0 rfl rfl rfl (.pr ⟨fun e => ⟨hP.2 ⟨by omega, by omega, f3, f4, by omega⟩, by omega⟩, fun q => by have := (hP.1 q.1).2.2.2.2; omega⟩)
                  · have f4 : ¬ (k = 3 ∧ ¬ (Op.bytesLess ((s.take (n + 1 + k)).drop (n + 1)) [52, 48, 48] = true ∨ (s.take (n + 1 + k)).drop (n + 1) = [52, 48, 48])) := fun q => by have := q.1; omega
                    refine rp W 0 rfl rfl rfl (.pr ⟨fun e => ⟨hP.2 ⟨by omega, by omega, f3, f4, by omega⟩, by omega⟩, fun q => by have := (hP.1 q.1).2.2.2.2; omega⟩)
            · have e0 : s.drop (n + 1) = [] := List.drop_eq_nil_iff.2 (by omega)
              have hu : s.drop (n + 1) = cutP (s.drop (n + 1)) 45 := by rw [e0]; rfl
              have hm : False ↔ (s.drop (n + 1)).head? = some 45 := by rw [e0]; simp
              have kr : AFunP Tryz.prog 100 [.str s, .int .i64 ((n : Int) + 1)] (· = .int .i64 (run s (n + 1) : Nat)) := by
                have := l11Run_ok s (n + 1) (by omega) (by omega)
                rwa [show ((n + 1 : Nat) : Int) = (n : Int) + 1 by omega] at this
              have tr := run_le s (n + 1) (by omega)
              have hP := hq2.trans (powA_ok (a := n + 1) (m := False) (by omega) hu hm)
              unfold powA at hP
              refine ce W 0 rfl rfl (kr) rfl ?_
              generalize run s (n + 1) = k at *
              refine sp W 0 rfl rfl rfl (fun c1 => ?_) (fun c1 => ?_)
              · refine rp W 0 rfl rfl rfl (.no (fun q => (hP.1 q.1).1 (by omega)))
              refine sp W 0 rfl rfl rfl (fun c2 => ?_) (fun c2 => ?_)
              · refine rp W 0 rfl rfl rfl (.no (fun q => by have := (hP.1 q.1).2.1; omega))
              refine sp W 0 rfl rfl rfl (fun c3 => ?_) (fun c3 => ?_)
              · have c3 : s.getD (n + 1) 0 = 48 := by rw [show ((n : Int) + 1).toNat = n + 1 by omega] at c3; exact (u8_eq (c := 48)).1 c3
                refine sp W 0 rfl rfl rfl (fun c4 => ?_) (fun c4 => ?_)
                · refine rp W 0 rfl rfl rfl (.no (fun q => (hP.1 q.1).2.2.1 ⟨c3, .inl (by omega)⟩))
                · have f3 : ¬ (s.getD (n + 1) 0 = 48 ∧ (1 < k ∨ False)) := fun q => q.2.elim (fun q => by omega) id
                  refine sp W 0 rfl rfl rfl (fun c6 => ?_) (fun c6 => ?_)
                  · refine sp W 0 rfl rfl rfl (fun c7 => ?_) (fun c7 => ?_)
                    · rw [show ((n : Int) + 1).toNat = n + 1 by omega, show (((n : Int) + 1) + (k : Int)).toNat = n + 1 + k by omega] at c7
                      refine rp W 0 rfl rfl rfl (.no (fun q => (hP.1 q.1).2.2.2.1 ⟨by omega, c7⟩))
                    · rw [show ((n : Int) + 1).toNat = n + 1 by omega, show (((n : Int) + 1) + (k : Int)).toNat = n + 1 + k by omega] at c7
                      have f4 : ¬ (k = 3 ∧ ¬ (Op.bytesLess ((s.take (n + 1 + k)).drop (n + 1)) [52, 48, 48] = true ∨ (s.take (n + 1 + k)).drop (n + 1) = [52, 48, 48])) := fun q => c7 q.2
                      refine rp W 0 rfl rfl rfl (.pr ⟨fun e => ⟨hP.2 ⟨by omega, by omega, f3, f4, by omega⟩, by omega⟩, fun q => by have := (hP.1 q.1).2.2.2.2; omega⟩)
                  · have f4 : ¬ (k = 3 ∧ ¬ (Op.bytesLess ((s.take (n + 1 + k)).drop (n + 1)) [52, 48, 48] = true ∨ (s.take (n + 1 + k)).drop (n + 1) = [52, 48, 48])) := fun q => by have := q.1; omega
                    refine rp W 0 rfl rfl rfl (.pr ⟨fun e => ⟨hP.2 ⟨by omega, by omega, f3, f4, by omega⟩, by omega⟩, fun q => by have := (hP.1 q.1).2.2.2.2; omega⟩)
              · have c3 : ¬ s.getD (n + 1) 0 = 48 := fun e => c3 (by rw [show ((n : Int) + 1).toNat = n + 1 by omega]; exact (u8_eq (c := 48)).2 e)
                have f3 : ¬ (s.getD (n + 1) 0 = 48 ∧ (1 < k ∨ False)) := fun q => c3 q.1
                refine sp W 0 rfl rfl rfl (fun c6 => ?_) (fun c6 => ?_)
                · refine sp W 0 rfl rfl rfl (fun c7 => ?_) (fun c7 => ?_)
                  · rw [show ((n : Int) + 1).toNat = n + 1 by omega, show (((n : Int) + 1) + (k : Int)).toNat = n + 1 + k by omega] at c7
                    refine rp W 0 rfl rfl rfl (.no (fun q => (hP.1 q.1).2.2.2.1 ⟨by omega, c7⟩))
                  · rw [show ((n : Int) + 1).toNat = n + 1 by omega, show (((n : Int) + 1) + (k : Int)).toNat = n + 1 + k by omega] at c7
                    have f4 : ¬ (k = 3 ∧ ¬ (Op.bytesLess ((s.take (n + 1 + k)).drop (n + 1)) [52, 48, 48] = true ∨ (s.take (n + 1 + k)).drop (n + 1) = [52, 48, 48])) := fun q => c7 q.2
                    refine rp W 0 rfl rfl rfl (.pr ⟨fun e => ⟨hP.2 ⟨by omega, by omega, f3, f4, by omega⟩, by omega⟩, fun q => by have := (hP.1 q.1).2.2.2.2; omega⟩)
                · have f4 : ¬ (k = 3 ∧ ¬ (Op.bytesLess ((s.take (n + 1 + k)).drop (n + 1)) [52, 48, 48] = true ∨ (s.take (n + 1 + k)).drop (n + 1) = [52, 48, 48])) := fun q => by have := q.1; omega
                  refine rp W 0 rfl rfl rfl (.pr ⟨fun e => ⟨hP.2 ⟨by omega, by omega, f3, f4, by omega⟩, by omega⟩, fun q => by have := (hP.1 q.1).2.2.2.2; omega⟩)
          · rw [show ((n : Int)).toNat = n by omega] at p4
            have hn : ¬ numE s := fun e => powE_no (by omega) (fun e => p4 ((u8_eq (c := 101)).2 e)) (hq.1 e)
            refine rp W 0 rfl rfl rfl (.pr ⟨fun e => by omega, fun e => absurd e.1 hn⟩)
        · have hn : numE s := hq.2 (powE_nil (by omega))
          refine rp W 0 rfl rfl rfl (.pr ⟨fun e => ⟨hn, by omega⟩, fun e => by omega⟩)
    · have hq : numE s ↔ powE (s.drop n) := by
        refine hq0.trans ?_
        rw [← r0, show s.drop n = [] from List.drop_eq_nil_iff.2 (by omega)]
        simp [fracE]
      refine sp W 0 rfl rfl rfl (fun p3 => ?_) (fun p3 => ?_)
      · refine sp W 0 rfl rfl rfl (fun p4 => ?_) (fun p4 => ?_)
        · rw [show ((n : Int)).toNat = n by omega] at p4
          have hq2 : numE s ↔ powE1 (s.drop (n + 1)) := hq.trans (powE_yes (by omega) ((u8_eq (c := 101)).1 p4))
          refine sp W 0 rfl rfl rfl (fun m1 => ?_) (fun m1 => ?_)
          · refine sp W 0 rfl rfl rfl (fun m2 => ?_) (fun m2 => ?_)
            · rw [show ((n : Int) + 1).toNat = n + 1 by omega] at m2
              have hu : s.drop (n + 1 + 1) = cutP (s.drop (n + 1)) 45 := cutP_yes (by omega) ((u8_eq (c := 45)).1 m2)
              have hm : True ↔ (s.drop (n + 1)).head? = some 45 := by rw [head_at (by omega)]; exact ⟨fun _ => (u8_eq (c := 45)).1 m2, fun _ => trivial⟩
              rw [← show ((n : Int) + 1).toNat = n + 1 by omega] at m2
              have kr : AFunP Tryz.prog 100 [.str s, .int .i64 ((n : Int) + 1 + 1)] (· = .int .i64 (run s (n + 1 + 1) : Nat)) := by
                have := l11Run_ok s (n + 1 + 1) (by omega) (by omega)
                rwa [show ((n + 1 + 1 : Nat) : Int) = (n : Int) + 1 + 1 by omega] at this
              have tr := run_le s (n + 1 + 1) (by omega)
              have hP := hq2.trans (powA_ok (a := n + 1 + 1) (m := True) (by omega) hu hm)
              unfold powA at hP
              refine ce W 0 rfl rfl (kr) rfl ?_
              generalize run s (n + 1 + 1) = k at *
              refine sp W 0 rfl rfl rfl (fun c1 => ?_) (fun c1 => ?_)
              · refine rp W 0 rfl rfl rfl (.no (fun q => (hP.1 q.1).1 (by omega)))
              refine sp W 0 rfl rfl rfl (fun c2 => ?_) (fun c2 => ?_)
              · refine rp W 0 rfl rfl rfl (.no (fun q => by have := (hP.1 q.1).2.1; omega))
              refine sp W 0 rfl rfl rfl (fun c3 => ?_) (fun c3 => ?_)
              · have c3 : s.getD (n + 1 + 1) 0 = 48 := by rw [show ((n : Int) + 1 + 1).toNat = n + 1 + 1 by omega] at c3; exact (u8_eq (c := 48)).1 c3
                refine sp W 0 rfl rfl rfl (fun c4 => ?_) (fun c4 => ?_)
                · refine rp W 0 rfl rfl rfl (.no (fun q => (hP.1 q.1).2.2.1 ⟨c3, .inl (by omega)⟩))
                · refine sp W 0 rfl rfl rfl (fun c5 => ?_) (fun c5 => ?_)
                  · refine rp W 0 rfl rfl rfl (.no (fun q => (hP.1 q.1).2.2.1 ⟨c3, .inr trivial⟩))
                  · exact absurd m2 c5
              · have c3 : ¬ s.getD (n + 1 + 1) 0 = 48 := fun e => c3 (by rw [show ((n : Int) + 1 + 1).toNat = n + 1 + 1 by omega]; exact (u8_eq (c := 48)).2 e)
                have f3 : ¬ (s.getD (n + 1 + 1) 0 = 48 ∧ (1 < k ∨ True)) := fun q => c3 q.1
                refine sp W 0 rfl rfl rfl (fun c6 => ?_) (fun c6 => ?_)
                · refine sp W 0 rfl rfl rfl (fun c7 => ?_) (fun c7 => ?_)
                  · rw [show ((n : Int) + 1 + 1).toNat = n + 1 + 1 by omega, show (((n : Int) + 1 + 1) + (k : Int)).toNat = n + 1 + 1 + k by omega] at c7
                    refine rp W 0 rfl rfl rfl (.no (fun q => (hP.1 q.1).2.2.2.1 ⟨by omega, c7⟩))
                  · rw [show ((n : Int) + 1 + 1).toNat = n + 1 + 1 by omega, show (((n : Int) + 1 + 1) + (k : Int)).toNat = n + 1 + 1 + k by omega] at c7
                    have f4 : ¬ (k = 3 ∧ ¬ (Op.bytesLess ((s.take (n + 1 + 1 + k)).drop (n + 1 + 1)) [52, 48, 48] = true ∨ (s.take (n + 1 + 1 + k)).drop (n + 1 + 1) = [52, 48, 48])) := fun q => c7 q.2
                    refine rp W 0 rfl rfl rfl (.pr ⟨fun e => ⟨hP.2 ⟨by omega, by omega, f3, f4, by omega⟩, by omega⟩, fun q => by have := (hP.1 q.1).2.2.2.2; omega⟩)
                · have f4 : ¬ (k = 3 ∧ ¬ (Op.bytesLess ((s.take (n + 1 + 1 + k)).drop (n + 1 + 1)) [52, 48, 48] = true ∨ (s.take (n + 1 + 1 + k)).drop (n + 1 + 1) = [52, 48, 48])) := fun q => by have := q.1; omega
                  refine rp W 0 rfl rfl rfl (.pr ⟨fun e => ⟨hP.2 ⟨by omega, by omega, f3, f4, by omega⟩, by omega⟩, fun q => by have := (hP.1 q.1).2.2.2.2; omega⟩)
            · rw [show ((n : Int) + 1).toNat = n + 1 by omega] at m2
              have hu : s.drop (n + 1) = cutP (s.drop (n + 1)) 45 := cutP_no (by omega) fun e => m2 ((u8_eq (c := 45)).2 e)
              have hm : False ↔ (s.drop (n + 1)).head? = some 45 := by rw [head_at (by omega)]; exact ⟨False.elim, fun e => m2 ((u8_eq (c := 45)).2 e)⟩
              rw [← show ((n : Int) + 1).toNat = n + 1 by omega] at m2
              have kr : AFunP Tryz.prog 100 [.str s, .int .i64 ((n : Int) + 1)] (· = .int .i64 (run s (n + 1) : Nat)) := by
                have := l11Run_ok s (n + 1) (by omega) (by omega)
                rwa [show ((n + 1 : Nat) : Int) = (n : Int) + 1 by omega] at this
              have tr := run_le s (n + 1) (by omega)
              have hP := hq2.trans (powA_ok (a := n + 1) (m := False) (by omega) hu hm)
              unfold powA at hP
              refine ce W 0 rfl rfl (kr) rfl ?_
              generalize run s (n + 1) = k at *
              refine sp W 0 rfl rfl rfl (fun c1 => ?_) (fun c1 => ?_)
              · refine rp W 0 rfl rfl rfl (.no (fun q => (hP.1 q.1).1 (by omega)))
              refine sp W 0 rfl rfl rfl (fun c2 => ?_) (fun c2 => ?_)
              · refine rp W 0 rfl rfl rfl (.no (fun q => by have := (hP.1 q.1).2.1; omega))
              refine sp W 0 rfl rfl rfl (fun c3 => ?_) (fun c3 => ?_)
              · have c3 : s.getD (n + 1) 0 = 48 := by rw [show ((n : Int) + 1).toNat = n + 1 by omega] at c3; exact (u8_eq (c := 48)).1 c3
                refine sp W 0 rfl rfl rfl (fun c4 => ?_) (fun c4 => ?_)
                · refine rp W 0 rfl rfl rfl (.no (fun q => (hP.1 q.1).2.2.1 ⟨c3, .inl (by omega)⟩))
                · refine sp W 0 rfl rfl rfl (fun c5 => ?_) (fun c5 => ?_)
                  · exact absurd c5 m2
                  · have f3 : ¬ (s.getD (n + 1) 0 = 48 ∧ (1 < k ∨ False)) := fun q => q.2.elim (fun q => by omega) id
                    refine sp W 0 rfl rfl rfl (fun c6 => ?_) (fun c6 => ?_)
                    · refine sp W 0 rfl rfl rfl (fun c7 => ?_) (fun c7 => ?_)
                      · rw [show ((n : Int) + 1).toNat = n + 1 by omega, show (((n : Int) + 1) + (k : Int)).toNat = n + 1 + k by omega] at c7
                        refine rp W 0 rfl rfl rfl (.no (fun q => (hP.1 q.1).2.2.2.1 ⟨by omega, c7⟩))
                      · rw [show ((n : Int) + 1).toNat = n + 1 by omega, show (((n : Int) + 1) + (k : Int)).toNat = n + 1 + k by omega] at c7
                        have f4 : ¬ (k = 3 ∧ ¬ (Op.bytesLess ((s.take (n + 1 + k)).drop (n + 1)) [52, 48, 48] = true ∨ (s.take (n + 1 + k)).drop (n + 1) = [52, 48, 48])) := fun q => c7 q.2
                        refine rp W 0 rfl rfl rfl (.pr ⟨fun e => ⟨hP.2 ⟨by omega, by omega, f3, f4, by omega⟩, by omega⟩, fun q => by have := (hP.1 q.1).2.2.2.2; omega⟩)
                    · have f4 : ¬ (k = 3 ∧ ¬ (Op.bytesLess ((s.take (n + 1 + k)).drop (n + 1)) [52, 48, 48] = true ∨ (s.take (n + 1 + k)).drop (n + 1) = [52, 48, 48])) := fun q => by have := q.1; omega
                      refine rp W 0 rfl rfl rfl (.pr ⟨fun e => ⟨hP.2 ⟨by omega, by omega, f3, f4, by omega⟩, by omega⟩, fun q => by have := (hP.1 q.1).2.2.2.2; omega⟩)
              · have c3 : ¬ s.getD (n + 1) 0 = 48 := fun e => c3 (by rw [show ((n : Int) + 1).toNat = n + 1 by omega]; exact (u8_eq (c := 48)).2 e)
                have f3 : ¬ (s.getD (n + 1) 0 = 48 ∧ (1 < k ∨ False)) := fun q => c3 q.1
                refine sp W 0 rfl rfl rfl (fun c6 => ?_) (fun c6 => ?_)
                · refine sp W 0 rfl rfl rfl (fun c7 => ?_) (fun c7 => ?_)
                  · rw [show ((n : Int) + 1).toNat = n + 1 by omega, show (((n : Int) + 1) + (k : Int)).toNat = n + 1 + k by omega] at c7
                    refine rp W 0 rfl rfl rfl (.no (fun q => (hP.1 q.1).2.2.2.1 ⟨by omega, c7⟩))
                  · rw [show ((n : Int) + 1).toNat = n + 1 by omega, show (((n : Int) + 1) + (k : Int)).toNat = n + 1 + k by omega] at c7
                    have f4 : ¬ (k = 3 ∧ ¬ (Op.bytesLess ((s.take (n + 1 + k)).drop (n + 1)) [52, 48, 48] = true ∨ (s.take (n + 1 + k)).drop (n + 1) = [52, 48, 48])) := fun q => c7 q.2
                    refine rp W 0 rfl rfl rfl (.pr ⟨fun e => ⟨hP.2 ⟨by omega, by omega, f3, f4, by omega⟩, by omega⟩, fun q => by have := (hP.1 q.1).2.2.2.2; omega⟩)
                · have f4 : ¬ (k = 3 ∧ ¬ (Op.bytesLess ((s.take (n + 1 + k)).drop (n + 1)) [52, 48, 48] = true ∨ (s.take (n + 1 + k)).drop (n + 1) = [52, 48, 48])) := fun q => by have := q.1; omega
                  refine rp W 0 rfl rfl rfl (.pr ⟨fun e => ⟨hP.2 ⟨by omega, by omega, f3, f4, by omega⟩, by omega⟩, fun q => by have := (hP.1 q.1).2.2.2.2; omega⟩)
          · have e0 : s.drop (n + 1) = [] := List.drop_eq_nil_iff.2 (by omega)
            have hu : s.drop (n + 1) = cutP (s.drop (n + 1)) 45 := by rw [e0]; rfl
            have hm : False ↔ (s.drop (n + 1)).head? = some 45 := by rw [e0]; simp
            have kr : AFunP Tryz.prog 100 [.str s, .int .i64 ((n : Int) + 1)] (· = .int .i64 (run s (n + 1) : Nat)) := by
              have := l11Run_ok s (n + 1) (by omega) (by omega)
              rwa [show ((n + 1 : Nat) : Int) = (n : Int) + 1 by omega] at this
            have tr := run_le s (n + 1) (by omega)
            have hP := hq2.trans (powA_ok (a := n + 1) (m := False) (by omega) hu hm)
            unfold powA at hP
            refine ce W 0 rfl rfl (kr) rfl ?_
            generalize run s (n + 1) = k at *
            refine sp W 0 rfl rfl rfl (fun c1 => ?_) (fun c1 => ?_)
            · refine rp W 0 rfl rfl rfl (.no (fun q => (hP.1 q.1).1 (by omega)))
            refine sp W 0 rfl rfl rfl (fun c2 => ?_) (fun c2 => ?_)
            · refine rp W 0 rfl rfl rfl (.no (fun q => by have := (hP.1 q.1).2.1; omega))
            refine sp W 0 rfl rfl rfl (fun c3 => ?_) (fun c3 => ?_)
            · have c3 : s.getD (n + 1) 0 = 48 := by rw [show ((n : Int) + 1).toNat = n + 1 by omega] at c3; exact (u8_eq (c := 48)).1 c3
              refine sp W 0 rfl rfl rfl (fun c4 => ?_) (fun c4 => ?_)
              · refine rp W 0 rfl rfl rfl (.no (fun q => (hP.1 q.1).2.2.1 ⟨c3, .inl (by omega)⟩))
              · have f3 : ¬ (s.getD (n + 1) 0 = 48 ∧ (1 < k ∨ False)) := fun q => q.2.elim (fun q => by omega) id
                refine sp W 0 rfl rfl rfl (fun c6 => ?_) (fun c6 => ?_)
                · refine sp W 0 rfl rfl rfl (fun c7 => ?_) (fun c7 => ?_)
                  · rw [show ((n : Int) + 1).toNat = n + 1 by omega, show (((n : Int) + 1) + (k : Int)).toNat = n + 1 + k by omega] at c7
                    refine rp W 0 rfl rfl rfl (.no (fun q => (hP.1 q.1).2.2.2.1 ⟨by omega, c7⟩))
                  · rw [show ((n : Int) + 1).toNat = n + 1 by omega, show (((n : Int) + 1) + (k : Int)).toNat = n + 1 + k by omega] at c7
                    have f4 : ¬ (k = 3 ∧ ¬ (Op.bytesLess ((s.take (n + 1 + k)).drop (n + 1)) [52, 48, 48] = true ∨ (s.take (n + 1 + k)).drop (n + 1) = [52, 48, 48])) := fun q => c7 q.2
                    refine rp W 0 rfl rfl rfl (.pr ⟨fun e => ⟨hP.2 ⟨by omega, by omega, f3, f4, by omega⟩, by omega⟩, fun q => by have := (hP.1 q.1).2.2.2.2; omega⟩)
                · have f4 : ¬ (k = 3 ∧ ¬ (Op.bytesLess ((s.take (n + 1 + k)).drop (n + 1)) [52, 48, 48] = true ∨ (s.take (n + 1 + k)).drop (n + 1) = [52, 48, 48])) := fun q => by have := q.1; omega
                  refine rp W 0 rfl rfl rfl (.pr ⟨fun e => ⟨hP.2 ⟨by omega, by omega, f3, f4, by omega⟩, by omega⟩, fun q => by have := (hP.1 q.1).2.2.2.2; omega⟩)
            · have c3 : ¬ s.getD (n + 1) 0 = 48 := fun e => c3 (by rw [show ((n : Int) + 1).toNat = n + 1 by omega]; exact (u8_eq (c := 48)).2 e)
              have f3 : ¬ (s.getD (n + 1) 0 = 48 ∧ (1 < k ∨ False)) := fun q => c3 q.1
              refine sp W 0 rfl rfl rfl (fun c6 => ?_) (fun c6 => ?_)
              · refine sp W 0 rfl rfl rfl (fun c7 => ?_) (fun c7 => ?_)
                · rw [show ((n : Int) + 1).toNat = n + 1 by omega, show (((n : Int) + 1) + (k : Int)).toNat = n + 1 + k by omega] at c7
                  refine rp W 0 rfl rfl rfl (.no (fun q => (hP.1 q.1).2.2.2.1 ⟨by omega, c7⟩))
                · rw [show ((n : Int) + 1).toNat = n + 1 by omega, show (((n : Int) + 1) + (k : Int)).toNat = n + 1 + k by omega] at c7
                  have f4 : ¬ (k = 3 ∧ ¬ (Op.bytesLess ((s.take (n + 1 + k)).drop (n + 1)) [52, 48, 48] = true ∨ (s.take (n + 1 + k)).drop (n + 1) = [52, 48, 48])) := fun q => c7 q.2
                  refine rp W 0 rfl rfl rfl (.pr ⟨fun e => ⟨hP.2 ⟨by omega, by omega, f3, f4, by omega⟩, by omega⟩, fun q => by have := (hP.1 q.1).2.2.2.2; omega⟩)
              · have f4 : ¬ (k = 3 ∧ ¬ (Op.bytesLess ((s.take (n + 1 + k)).drop (n + 1)) [52, 48, 48] = true ∨ (s.take (n + 1 + k)).drop (n + 1) = [52, 48, 48])) := fun q => by have := q.1; omega
                refine rp W 0 rfl rfl rfl (.pr ⟨fun e => ⟨hP.2 ⟨by omega, by omega, f3, f4, by omega⟩, by omega⟩, fun q => by have := (hP.1 q.1).2.2.2.2; omega⟩)
        · rw [show ((n : Int)).toNat = n by omega] at p4
          have hn : ¬ numE s := fun e => powE_no (by omega) (fun e => p4 ((u8_eq (c := 101)).2 e)) (hq.1 e)
          refine rp W 0 rfl rfl rfl (.pr ⟨fun e => by omega, fun e => absurd e.1 hn⟩)
      · have hn : numE s := hq.2 (powE_nil (by omega))
        refine rp W 0 rfl rfl rfl (.pr ⟨fun e => ⟨hn, by omega⟩, fun e => by omega⟩)
end Pf
/- How many parts a node has -/
namespace Pf
open Go Go.Proofs
open Classical in
/-- How many parts a node has; -1: it is none. -/
noncomputable def partsZ (k n : Int) (s : List UInt8) : Int :=
  if k = 1 then (if n = 0 ∧ litP s ∧ s.length ≤ 60 then 0 else -1)
  else if k = 2 then (if n = 0 ∧ wordP s ∧ ¬ s ∈ ownW then 0 else -1)
  else if k = 3 ∨ k = 9 ∨ k = 10 then (if n = 0 ∧ s = [] then 1 else -1)
  else if k = 4 ∨ k = 5 ∨ k = 6 ∨ k = 7 ∨ k = 11 ∨ k = 12 then (if n = 0 ∧ s = [] then 2 else -1)
  else if k = 8 then (if 0 ≤ n ∧ n ≤ 8 ∧ s = [] then 1 else -1)
  else if k = 13 then (if 1 ≤ n ∧ n ≤ 6 ∧ wordP s ∧ ¬ s ∈ ownW then n else -1)
  else -1
theorem parts_ok (k n : Int) (s : List UInt8) (hl : s.length ≤ 281474976710656) : AFunP Tryz.prog 88 [.agg [.int .i64 k, .int .i64 n, .str s]] (· = .int .i64 (partsZ k n s)) := by
  have k1 := implLangNumOk_ok s hl
  have k2 := langNameOk_ok s (by omega)
  have k3 := in_ok n 0 8
  have k4 := in_ok n 1 6
  refine afun_of Tryz.func88 Tryz.call88 rfl Tryz.ntmps88 rfl ?_
  have W : Walk Tryz.prog TT 88 _ := Walk.of TT_ok Tryz.func88 Tryz.results88
  (repeat' (first | (refine sp W 0 rfl rfl rfl (fun _ => ?_) (fun _ => ?_)) | (refine ce W 0 rfl rfl (k1) rfl ?_) | (refine ce W 0 rfl rfl (k2) rfl ?_) | (refine ce W 0 rfl rfl (k3) rfl ?_) | (refine ce W 0 rfl rfl (k4) rfl ?_))) <;> (first | exact rp W 0 rfl rfl rfl (.int (by clear k1 k2 k3 k4; simp_all [partsZ] <;> intros <;> exfalso <;> omega)))

end Pf
/- The law of TermOk -/
namespace Pf
open Go Go.Proofs
/-- A node of a term, and terms. -/
abbrev Nd := Int × Int × List UInt8
def nodeV (x : Nd) : AV := .agg [.int .i64 x.1, .int .i64 x.2.1, .str x.2.2]
def nodeR (l : List Nd) (i : Nat) : List AV := [.int .i64 (l.getD i (0, 0, [])).1, .int .i64 (l.getD i (0, 0, [])).2.1, .str (l.getD i (0, 0, [])).2.2]
abbrev termV (l : List Nd) : AV := .agg [.fz l.length (nodeR l)]
noncomputable def pz (x : Nd) : Int := partsZ x.1 x.2.1 x.2.2
/-- How deep the stack is behind the first i nodes; none: a node found too few parts. -/
noncomputable def dep (l : List Nd) : Nat → Option Int
  | 0 => some 0
  | i + 1 => match dep l i with
    | none => none
    | some d => if pz (l.getD i (0, 0, [])) < 0 ∨ d < pz (l.getD i (0, 0, [])) then none else some (d - pz (l.getD i (0, 0, [])) + 1)
def termP (l : List Nd) : Prop := l.length ≤ 100 ∧ dep l l.length = some 1
/-- Each text is no longer than a text may be. -/
def txtOk (l : List Nd) : Prop := ∀ i, i < l.length → (l.getD i (0, 0, [])).2.2.length ≤ 281474976710656
theorem eqNode_ok (x y : Nd) : AFunP Tryz.prog 73 [nodeV x, nodeV y] (· = .pr (x = y)) := by
  unfold nodeV
  refine afun_of Tryz.func73 Tryz.call73 rfl Tryz.ntmps73 rfl ?_
  have W : Walk Tryz.prog TT 73 _ := Walk.of TT_ok Tryz.func73 Tryz.results73
  refine sp W 0 rfl rfl rfl (fun h1 => ?_) (fun h1 => ?_)
  · refine rp W 0 rfl rfl rfl (.no (fun k => by subst k; exact h1 rfl))
  refine sp W 0 rfl rfl rfl (fun h2 => ?_) (fun h2 => ?_)
  · refine rp W 0 rfl rfl rfl (.no (fun k => by subst k; exact h2 rfl))
  refine sp W 0 rfl rfl rfl (fun h3 => ?_) (fun h3 => ?_)
  · refine rp W 0 rfl rfl rfl (.no (fun k => by subst k; exact h3 rfl))
  · refine rp W 0 rfl rfl rfl (.yes (Prod.ext (Classical.not_not.1 h1) (Prod.ext (Classical.not_not.1 h2) (Classical.not_not.1 h3))))
theorem eqNodeS_ok (l m : List Nd) (hl : l.length ≤ 1048576) (hm : m.length ≤ 1048576) : AFunP Tryz.prog 27 [.fz l.length (nodeR l), .fz m.length (nodeR m)] (· = .pr (l = m)) := by
  refine afun_of Tryz.func27 Tryz.call27 rfl Tryz.ntmps27 rfl ?_
  have W : Walk Tryz.prog TT 27 _ := Walk.of TT_ok Tryz.func27 Tryz.results27
  refine sp W 0 rfl rfl rfl (fun h1 => ?_) (fun h1 => ?_)
  · refine rp W 0 rfl rfl rfl (.no (fun k => by subst k; omega))
  have h1 : l.length = m.length := by omega
  refine lp W 0 (σ := Nat) (fun i => [(0, .fz l.length (nodeR l)), (1, .fz m.length (nodeR m)), (5, .int .i64 i)]) (fun _ => []) (fun i => l.length - i) (fun i => i ≤ l.length ∧ ∀ j, j < i → l.getD j (0, 0, []) = m.getD j (0, 0, [])) 0 [0, 1, 5] rfl rfl rfl ⟨Nat.zero_le _, fun j hj => by omega⟩ ?_
  rintro i ⟨hi, he⟩ ih
  refine sp W 0 rfl rfl rfl (fun h2 => ?_) (fun h2 => ?_)
  · have h2 : i < l.length := by omega
    have kq := eqNode_ok (l.getD i (0, 0, [])) (m.getD i (0, 0, []))
    refine dre W 0 10 [] [.pr (l.getD i (0, 0, []) = m.getD i (0, 0, []))] rfl rfl rfl ⟨kq.at rfl _, trivial⟩ rfl ?_
    refine sp W 0 rfl rfl rfl (fun h3 => ?_) (fun h3 => ?_)
    · refine rp W 0 rfl rfl rfl (.no (fun k => by subst k; exact h3 rfl))
    · refine bd W 0 0 [0, 1, 5] rfl rfl rfl rfl rfl (ih (i + 1) ⟨by omega, fun j hj => ?_⟩ (by omega))
      by_cases hji : j = i
      · subst hji; exact Classical.not_not.1 h3
      · exact he j (by omega)
  · have hfin : l = m := List.ext_getElem h1 fun j h3 h4 => by
      have := he j (by omega)
      simpa [List.getD_eq_getElem?_getD, h3, h4] using this
    refine rp W 0 rfl rfl rfl (.yes hfin)
theorem eqTerm_ok (l m : List Nd) (hl : l.length ≤ 1048576) (hm : m.length ≤ 1048576) : AFunP Tryz.prog 8 [termV l, termV m] (· = .pr (l = m)) := by
  refine afun_of Tryz.func8 Tryz.call8 rfl Tryz.ntmps8 rfl ?_
  have W : Walk Tryz.prog TT 8 _ := Walk.of TT_ok Tryz.func8 Tryz.results8
  refine ce W 0 rfl rfl (eqNodeS_ok l m hl hm) rfl ?_
  refine sp W 0 rfl rfl rfl (fun h1 => ?_) (fun h1 => ?_)
  · refine rp W 0 rfl rfl rfl (.no h1)
  · refine rp W 0 rfl rfl rfl (.yes (Classical.not_not.1 h1))
end Pf
/- What the laid variables hold -/
namespace Pf
open Go Go.Proofs
open Go.RowKit
theorem open_strs {P : Program} {H : Type} {enc : TypeId × Value → H} {w : World} {base : Nat} {spare : Nat → Bool} {held : Bool} {fuel : Nat} {t e : TypeId} {cs : List Value} {p : List MemPlace} (ht : P.underlying t = some (.slice e)) (he : P.underlying e = some .string) (hc : P.cellsOf e = 1)
    {ws : List (List UInt8)} (hw : ws ≠ []) (h : DataW.trod enc P w base spare held fuel t cs = some (.slice (ws.map fun s => .lit (.string s)) [], p)) : VRs (worldFM w) noB [.fz ws.length fun i => [.str (ws.getD i [])]] cs := by
  rcases Go.Deep.open_slice ht h with ⟨_, h2⟩ | ⟨a, len, cap, m, n, D, Pl, rfl, _, hl, hm, hmm, hx, hel⟩
  · cases (Prod.mk.inj h2).1
  have hle : len ≤ m := by rw [hmm]; split <;> omega
  have e1 : ws.map (fun s => (DataW.lit (.string s) : DataW H)) = (List.range len).map D := (DataW.slice.inj (Prod.mk.inj hx).1).1
  have el : ws.length = len := by have := congrArg List.length e1; simpa using this
  have eD : ∀ i, i < len → D i = .lit (.string (ws.getD i [])) := by
    intro i hi
    have := congrArg (fun l => l[i]?) e1
    simp only [List.getElem?_map, List.getElem?_range, hi, Option.map_some] at this
    rw [List.getElem?_eq_getElem (by omega : i < ws.length)] at this
    simp only [Option.map_some, Option.some.injEq] at this
    rw [← this]
    simp [List.getD_eq_getElem?_getD, show i < ws.length by omega]
  have each : ∀ i, i < len → ∃ s : ByteArray, s.data.toList = ws.getD i [] ∧ w.cell? (a.add i) = some (.string s) := by
    intro i hi
    obtain ⟨cs', h1, h2⟩ := hel i (by omega)
    obtain ⟨s, rfl, h3, _⟩ := DataW.trod_string he h2
    obtain ⟨_, _, h6⟩ := World.cells?_some h1
    rw [hc] at h6
    have h7 := h6 0 (by omega)
    rw [Nat.mul_one] at h7
    refine ⟨s, ?_, by simpa [Addr.add] using h7⟩
    have h8 := (Prod.mk.inj h3).1
    rw [eD i hi] at h8
    injection h8 with h9
    injection h9 with h9
    exact h9.symm
  have hpos : 0 < len := by rw [← el]; exact List.length_pos_iff.2 hw
  have ha : a = ⟨a.block, a.off, none⟩ := by
    obtain ⟨s, _, h4⟩ := each 0 hpos
    exact cell_spot (by simpa [Addr.add] using h4)
  rw [el]
  refine .single ?_
  rw [ha]
  let f : Nat → Value := fun i => if h : i < len then .string (each i h).choose else undef
  have hf : ∀ i, i < len → ∃ s : ByteArray, f i = .string s ∧ s.data.toList = ws.getD i [] ∧ w.cell? (a.add i) = some (f i) := fun i hi => by
    have := (each i hi).choose_spec
    simp only [f, dif_pos hi]
    exact ⟨_, rfl, this.1, this.2⟩
  refine .fz (sz := 1) (fun i _ => f i) (by omega) hl (fun i hi => rfl) (fun i j hi hj => ?_) (fun i j hi hj => ?_) (fun i j hi hj => ?_)
  · obtain ⟨s, h1, h2, h3⟩ := hf i hi
    rw [ha, addr_add] at h3
    unfold worldFM
    rw [show j = 0 by omega, Nat.mul_one, Nat.add_zero]
    exact h3
  · obtain ⟨s, h1, h2, h3⟩ := hf i hi
    rw [h1]; rfl
  · obtain ⟨s, h1, h2, h3⟩ := hf i hi
    have : j = 0 := by simpa using hj
    subst this
    rw [h1]
    exact .str h2
theorem var_one {P : Program} {w : World} {n : String} {g : Nat} {cs : Array Value} (hg : P.globalNamed n = some g) (hv : w.var? P n = some cs) {a : AV} (h : VRs (worldFM w) noB [a] cs.toList) : ∃ c, worldFM w g 0 = some c ∧ VR (worldFM w) noB a c := by
  obtain ⟨h1, h2⟩ := h
  have h3 := h2 0 (by simp)
  have hl : 0 < cs.size := by have : 1 = cs.toList.length := h1; simp at this; omega
  refine ⟨cs[0], ?_, ?_⟩
  · show w.cell? ⟨g, 0, none⟩ = _
    rw [World.var?_cell hg hv 0]
    simp [hl]
  · have e : cs.toList.getD 0 undef = cs[0] := by simp [List.getD_eq_getElem?_getD, hl]
    rw [e] at h3
    exact h3
theorem iface_of {P : Program} {H : Type} {enc : TypeId × Value → H} {w : World} {base : Nat} {spare : Nat → Bool} {fuel : Nat} {t : TypeId} {ms : Array (String × TypeId)} {cs : List Value} {nm : String} {d : DataW H} {p : List MemPlace} (ht : P.underlying t = some (.interface ms)) (h : DataW.trod enc P w base spare false fuel t cs = some (.iface nm d, p)) : ∃ u v, cs = [.iface u v] := by
  cases fuel with
  | zero => simp [DataW.trod] at h
  | succ n =>
    unfold DataW.trod at h
    rw [ht] at h
    split at h <;> simp_all
theorem var_iface {P : Program} {w : World} {n : String} {g : Nat} {cs : Array Value} (hg : P.globalNamed n = some g) (hv : w.var? P n = some cs) {u : TypeId} {v : Value} (h : cs.toList = [.iface u v]) : ∃ ev, worldFM w g 0 = some ev ∧ (ev = .nilIface ∨ ∃ te pe, ev = .iface te pe) := by
  refine ⟨.iface u v, ?_, .inr ⟨u, v, rfl⟩⟩
  show w.cell? ⟨g, 0, none⟩ = _
  rw [World.var?_cell hg hv 0]
  obtain ⟨l⟩ := cs
  simp only at h
  subst h
  rfl
end Pf
/- Of a block of whole numbers, the tail is forgotten. -/
namespace Pf
open Go
variable {P : Program} {TT : TypeId → Option TI} {f N n0 : Nat} {k : List Item} {T : Env} {H : AHeap} {R : AV → AHeap → Prop} {nf : Nat} {ops : Array Oper} {past op pend : List Nat} {vs : List (Option Nat × AV)}

theorem shr_back {b m g : Nat} {kk : IntKind} {l : List Int} {H2 : AHeap} (e1 : nthM H b = some (.ints g kk l)) (e2 : setM (.ints g kk (l.take m)) H b = some H2) :
    H2.length = H.length ∧ ∀ b' blk', H2[b']? = some blk' → (b' = b ∧ blk' = .ints g kk (l.take m)) ∨ H[b']? = some blk' := by
  rw [nthM_eq] at e1
  rw [setM_eq] at e2
  split at e2
  · simp only [Option.some.injEq] at e2
    subst e2
    refine ⟨by simp, fun b' blk' h => ?_⟩
    rw [List.getElem?_set] at h
    split at h
    · rename_i hb
      subst hb
      simp only [Option.some.injEq] at h
      exact .inl ⟨rfl, h.symm⟩
    · exact .inr h
  · cases e2
theorem shr_view {b m g : Nat} {kk : IntKind} {l : List Int} {H2 : AHeap} (e1 : nthM H b = some (.ints g kk l)) (e2 : setM (.ints g kk (l.take m)) H b = some H2) {b' g' n' : Nat} {blk' : ABlk} {row' : Nat → List AV}
    (h1 : H2[b']? = some blk') (h2 : blk'.view = some (g', n', row')) : ∃ blk n row, H[b']? = some blk ∧ blk.view = some (g', n, row) ∧ blk'.width = blk.width := by
  rcases (shr_back e1 e2).2 b' blk' h1 with ⟨rfl, rfl⟩ | h
  · rw [nthM_eq] at e1
    simp only [ABlk.view, Option.some.injEq, Prod.mk.injEq] at h2
    obtain ⟨rfl, _, _⟩ := h2
    exact ⟨_, _, _, e1, rfl, rfl⟩
  · exact ⟨_, _, _, h, h2, rfl⟩
theorem shr_img {b m g : Nat} {kk : IntKind} {l : List Int} {H2 : AHeap} {β : BMap} (e1 : nthM H b = some (.ints g kk l)) (e2 : setM (.ints g kk (l.take m)) H b = some H2) {cb : Nat} (h : Img β H2 cb) : Img β H cb := by
  obtain ⟨b', blk', g', n', row', L, h1, h2, h3, h4⟩ := h
  rcases (shr_back e1 e2).2 b' blk' h1 with ⟨rfl, rfl⟩ | h
  · rw [nthM_eq] at e1
    cases h2
    exact ⟨_, _, _, _, _, L, e1, rfl, h3, h4⟩
  · exact ⟨b', blk', g', n', row', L, h, h2, h3, h4⟩
theorem RelH.shr {FM : FMem} {β : BMap} {w : World} (hh : RelH FM β H w) {b m g : Nat} {kk : IntKind} {l : List Int} {H2 : AHeap} (e1 : nthM H b = some (.ints g kk l)) (e2 : setM (.ints g kk (l.take m)) H b = some H2)
    {off len : Nat} {cv : Value} (hv : VR FM β (.sl b g off len) cv) (ho : off ≤ m) : RelH FM β H2 w where
  mem b' blk' g' n' row' h1 h2 := by
    rcases (shr_back e1 e2).2 b' blk' h1 with ⟨rfl, rfl⟩ | h
    · rw [nthM_eq] at e1
      simp only [ABlk.view, Option.some.injEq, Prod.mk.injEq] at h2
      obtain ⟨rfl, rfl, rfl⟩ := h2
      obtain ⟨lo, q1, q2⟩ := hh.mem _ _ _ _ _ e1 rfl
      refine ⟨lo, q1, ?_⟩
      cases lo with
      | none =>
        have : l.length = 0 := q2
        have hl : l = [] := List.length_eq_zero_iff.1 this
        subst hl
        simp [MemAt]
      | some L =>
        have hs : L.sh ≤ off := by
          cases hv with
          | sl h hs hr hc hp => rw [q1] at h; cases h; exact hs
          | sl0 h hs => rw [q1] at h; cases h; exact hs _ rfl
        obtain ⟨z1, z2, z3, ⟨c, el, fr, y1, y2, y3, y4, y5⟩, z5⟩ := q2
        refine ⟨z1, by rw [List.length_take]; omega, by rw [List.length_take]; omega, ⟨c, el, fr, y1, y2, y3, y4, fun r r1 r2 => ?_⟩, z5⟩
        rw [List.length_take] at r2
        have := y5 r r1 (by omega)
        rw [show (l.take m).getD r 0 = l.getD r 0 by simp [List.getD_eq_getElem?_getD, List.getElem?_take, show r < m by omega]]
        exact this
    · exact hh.mem _ _ _ _ _ h h2
  inj b1 b2 blk1 blk2 g1 g2 n1 n2 row1 row2 L1 L2 h1 h2 h3 h4 h5 h6 h7 := by
    obtain ⟨c1, d1, f1, p1, p2, _⟩ := shr_view e1 e2 h1 h2
    obtain ⟨c2, d2, f2, q1, q2, _⟩ := shr_view e1 e2 h4 h5
    exact hh.inj _ _ _ _ _ _ _ _ _ _ _ _ p1 p2 h3 q1 q2 h6 h7
  wid b1 blk1 g1 n1 row1 L h1 h2 h3 := by
    obtain ⟨c1, d1, f1, p1, p2, p3⟩ := shr_view e1 e2 h1 h2
    rw [p3]
    exact hh.wid _ _ _ _ _ _ p1 p2 h3
  fm := hh.fm
  dom b1 g1 lo h := by
    obtain ⟨q1, q2⟩ := hh.dom b1 g1 lo h
    refine ⟨by rw [(shr_back e1 e2).1]; exact q1, fun blk' g' n' row' h1 h2 => ?_⟩
    obtain ⟨c1, d1, f1, p1, p2, _⟩ := shr_view e1 e2 h1 h2
    exact q2 _ _ _ _ p1 p2
  gk := hh.gk
  mp := hh.mp.keep (fun _ _ _ h => h) (fun b' vb sh es h => by
    rcases (shr_back e1 e2).2 b' _ h with ⟨_, h⟩ | h
    · cases h
    · exact h) fun _ _ _ h => h
theorem Ext.shr {FM : FMem} {β : BMap} {w : World} {b m g : Nat} {kk : IntKind} {l : List Int} {H2 : AHeap} (e1 : nthM H b = some (.ints g kk l)) (e2 : setM (.ints g kk (l.take m)) H b = some H2) : Ext FM β H w FM β H2 w where
  fm _ _ _ h := h
  bm _ _ _ h := h
  size := Nat.le_refl _
  img cb _ h := shr_img e1 e2 h
  frame _ _ _ := rfl
  fmn _ _ _ h := .inl h
  len := by rw [(shr_back e1 e2).1]; exact Nat.le_refl _
  os := rfl
  output := rfl
  tape := rfl
end Pf
/- Functions that are lent the blocks at hand and make new ones, of rows of any kind. -/
namespace Pf
open Go
variable {P : Program} {TT : TypeId → Option TI} {f N n0 : Nat} {k : List Item} {T : Env} {H : AHeap} {R : AV → AHeap → Prop}

mutual
/-- Places in blocks, and what says nothing of any memory. -/
def flatN : AV → Bool
  | .agg cs => flatNL cs
  | .tup cs => flatNL cs
  | .ptr _ _ _ _ | .sl _ _ _ _ | .mp _ => true
  | .top | .bool _ | .pr _ | .anyb _ _ | .int _ _ | .str _ | .nilp | .nils | .e0 | .nilf | .nili => true
  | _ => false
def flatNL : List AV → Bool
  | [] => true
  | v :: vs => match flatN v with | true => flatNL vs | false => false
end
theorem flatNL_get : ∀ {vs : List AV} (h : flatNL vs = true) (i : Nat) (hi : i < vs.length), flatN vs[i] = true
  | v :: vs, h, i, hi => by
    simp only [flatNL] at h
    cases hv : flatN v with
    | false => simp [hv] at h
    | true =>
      simp only [hv] at h
      cases i with
      | zero => exact hv
      | succ i => exact flatNL_get h i (by simpa using hi)
theorem VR.shfN {FM FM' : FMem} {β β' : BMap} {d : Nat} (hb : ∀ b g, β' (b + d) g = β b g) {v : AV} {cv : Value} (h : VR FM β v cv) (hf : flatN v = true) : VR FM' β' (Pf.shf d v) cv := by
  induction h with
  | top => exact .top
  | bool => exact .bool
  | pr h => exact .pr h
  | anyb h1 h2 => exact .anyb h1 h2
  | int => exact .int
  | str h => exact .str h
  | nilp => exact .nilp
  | ptr h hs => exact .ptr (by rw [hb]; exact h) hs
  | nils => exact .nils
  | e0 => exact .e0
  | sl h hs hr hc hp => exact .sl (by rw [hb]; exact h) hs hr hc hp
  | sl0 h hs => exact .sl0 (by rw [hb]; exact h) hs
  | nilf => exact .nilf
  | nili => exact .nili
  | mp h => exact .mp (by rw [hb]; exact h)
  | agg h1 hv ih =>
    simp only [Pf.shf, shfL_eq]
    exact .agg (by simpa using h1) (fun i hi => by
      rw [List.getElem_map]
      exact ih i (by simpa using hi) hb (flatNL_get hf i (by simpa using hi)))
  | tup h1 hv ih =>
    simp only [Pf.shf, shfL_eq]
    exact .tup (by simpa using h1) (fun i hi => by
      rw [List.getElem_map]
      exact ih i (by simpa using hi) hb (flatNL_get hf i (by simpa using hi)))
  | _ => simp [flatN] at hf

/-- Blocks whose rows say nothing of any memory. -/
def plainB : ABlk → Prop
  | .lst _ rows => ∀ r, r ∈ rows → nofmL r = true
  | .ints _ _ _ => True
  | .tab _ n row => ∀ i, i < n → nofmL (row i) = true
  | .dead => True
  | _ => False
def plainH : AHeap → Prop
  | [] => True
  | b :: bs => plainB b ∧ plainH bs
theorem plainH_get : ∀ {H : AHeap}, plainH H → ∀ {i : Nat} {blk : ABlk}, H[i]? = some blk → plainB blk
  | b :: bs, h, 0, blk, e => by simp at e; subst e; exact h.1
  | b :: bs, h, i + 1, blk, e => plainH_get h.2 (i := i) (by simpa using e)
  | [], h, i, blk, e => by simp at e
theorem plainB_row {blk : ABlk} (h : plainB blk) {g n : Nat} {row : Nat → List AV} (hv : blk.view = some (g, n, row)) : ∀ i, i < n → nofmL (row i) = true := by
  intro i hi
  cases blk with
  | dead => cases hv
  | mp vb sh es => cases hv
  | lst g' rows =>
    simp only [ABlk.view, Option.some.injEq, Prod.mk.injEq] at hv
    obtain ⟨rfl, rfl, rfl⟩ := hv
    have := h rows[i] (List.getElem_mem hi)
    simpa [List.getD_eq_getElem?_getD, hi] using this
  | ints g' k l =>
    simp only [ABlk.view, Option.some.injEq, Prod.mk.injEq] at hv
    obtain ⟨rfl, rfl, rfl⟩ := hv
    rfl
  | tab g' n' row' =>
    simp only [ABlk.view, Option.some.injEq, Prod.mk.injEq] at hv
    obtain ⟨rfl, rfl, rfl⟩ := hv
    exact h i hi

/-- Blocks made by a function that is lent those at hand: they come behind these. -/
theorem AFun.lent {args args' : List AV} {Q : AV → AHeap → Prop} (h : AFun P f args' [] Q) {ss : List Prop} (e : mapF (frz (fun _ => true) H 9) args = some (ss, args')) (hss : AllC ss) (hc : cloL args' = true) (hfl : ∀ u H2, Q u H2 → flatN u = true ∧ plainH H2) :
    AFun P f args H fun v H1 => ∃ u H2, Q u H2 ∧ v = shf H.length u ∧ H1 = H ++ H2 := by
  refine ⟨h.1, fun FM β cs w cargs hv hh => ?_⟩
  have hF := frzFM_frozen (sel := fun _ => true) hh
  have hv' := hv.frz hh hF e hss
  obtain ⟨v, w', fr, av, FM1, β1, H1, hQ, h1, h2, h3, h4, h5, h6⟩ := h.2 _ noB cs w cargs ⟨hv'.1, fun i hi => (hv'.2 i hi).clo (cloL_get hc i hi) noB⟩ hh.lend
  obtain ⟨f1, f2⟩ := hfl _ _ hQ
  let β' : BMap := fun b g => if b < H.length then β b g else β1 (b - H.length) g
  have hlo : ∀ {b g : Nat}, b < H.length → β' b g = β b g := fun hb => by simp [β', hb]
  have hhi : ∀ b g, β' (b + H.length) g = β1 b g := fun b g => by simp [β', show ¬ b + H.length < H.length by omega]
  have hold : ∀ b g lo, β b g = some lo → β' b g = some lo := fun b g lo hb => by rw [hlo (hh.dom _ _ _ hb).1]; exact hb
  have img1 : ∀ cb, cb < w.heap.size → ¬ Img β1 H1 cb := fun cb hl hi => noImg cb (h3.img cb hl hi)
  have get : ∀ {i : Nat} {bl : ABlk}, (H ++ H1)[i]? = some bl → (i < H.length ∧ H[i]? = some bl) ∨ (∃ j, i = j + H.length ∧ H1[j]? = some bl) := by
    intro i bl hi
    rcases Nat.lt_or_ge i H.length with hl | hl
    · rw [List.getElem?_append_left hl] at hi; exact .inl ⟨hl, hi⟩
    · rw [List.getElem?_append_right hl] at hi
      exact .inr ⟨i - H.length, by omega, hi⟩
  have getm : ∀ (i : Nat) (vb : Bool) (sh : Option (List Bool)) (es : List (MKey × Int)), (H ++ H1)[i]? = some (.mp vb sh es) → H[i]? = some (.mp vb sh es) := by
    intro i vb sh es hi
    rcases get hi with ⟨_, hi⟩ | ⟨j, _, hj⟩
    · exact hi
    · exact (plainH_get f2 hj).elim
  have small : ∀ {b g : Nat} {blk : ABlk} {n : Nat} {row : Nat → List AV} {L : Loc}, H[b]? = some blk → blk.view = some (g, n, row) → β b g = some (some L) → L.cb < w.heap.size := by
    intro b g blk n row L q1 q2 q3
    obtain ⟨lo, p1, p2⟩ := hh.mem b blk g n row q1 q2
    rw [q3] at p1
    cases p1
    exact MemOk.lt p2
  have big : ∀ {b g : Nat} {blk : ABlk} {n : Nat} {row : Nat → List AV} {L : Loc}, H1[b]? = some blk → blk.view = some (g, n, row) → β1 b g = some (some L) → w.heap.size ≤ L.cb := by
    intro b g blk n row L q1 q2 q3
    rcases Nat.lt_or_ge L.cb w.heap.size with hl | hl
    · exact absurd ⟨b, blk, g, n, row, L, q1, ABlk.vw_of q2, q3, rfl⟩ (img1 _ hl)
    · exact hl
  have nofree : ∀ cb o, w.heap.size ≤ cb → FM cb o = none := by
    intro cb o hcb
    cases hx : FM cb o with
    | none => rfl
    | some x => have := cell_lt (hh.fm _ _ _ hx); omega
  refine ⟨v, w', fr, shf H.length av, FM, β', H ++ H1, ⟨av, H1, hQ, rfl, rfl⟩, h1.shfN hhi f1, ?_, ?_, h4, h5, h6⟩
  · have hmp : MapsOk β' (H ++ H1) w' := hh.mp.keep hold getm fun cb es cl h => by rw [h3.frame _ (Array.getElem?_eq_some_iff.1 h).1 (noImg _)]; exact h
    refine ⟨?_, ?_, ?_, fun cb o x hx => h2.fm _ _ _ (h3.fm _ _ _ (hF.1 _ _ _ hx)), ?_, hh.gk.at h2.gk.tabw, hmp⟩
    · intro i bl g n row q1 q2
      rcases get q1 with ⟨hi, q1⟩ | ⟨j, rfl, p1⟩
      · obtain ⟨lo, k1, k2⟩ := hh.mem i bl g n row q1 q2
        refine ⟨lo, by rw [hlo hi]; exact k1, ?_⟩
        cases lo with
        | none => exact k2
        | some L => exact MemOk.still k2 (h3.frame _ (MemOk.lt k2) (noImg _)) hold
      · obtain ⟨lo, k1, k2⟩ := h2.mem j bl g n row p1 q2
        refine ⟨lo, by rw [hhi]; exact k1, ?_⟩
        cases lo with
        | none => exact k2
        | some L =>
          have k2 : MemOk FM1 β1 w' L n row := k2
          obtain ⟨c, e, frr, c1, c2, c3, c4, c5⟩ := k2.cells
          refine ⟨k2.sz, k2.sh, k2.fit, ⟨c, e, frr, c1, c2, c3, c4, fun r hr1 hr2 => ?_⟩, fun o => nofree _ _ (big p1 q2 k1)⟩
          obtain ⟨k3, k4⟩ := c5 r hr1 hr2
          refine ⟨k3, fun j hj => ?_⟩
          obtain ⟨cv, k5, k6⟩ := k4 j hj
          exact ⟨cv, k5, k6.nofm (nofmL_get (plainB_row (plainH_get f2 p1) q2 r hr2) j hj) _ _⟩
    · intro b b' k1 k1' g g' n n' row row' L L' q1 q2 q3 q1' q2' q3' he
      rcases get q1 with ⟨hi, p1⟩ | ⟨j, rfl, p1⟩
      · rcases get q1' with ⟨hi', p1'⟩ | ⟨j', rfl, p1'⟩
        · exact hh.inj b b' k1 k1' g g' n n' row row' L L' p1 q2 (by rw [← hlo hi]; exact q3) p1' q2' (by rw [← hlo hi']; exact q3') he
        · have a := small p1 q2 (by rw [← hlo hi]; exact q3)
          have c := big p1' q2' (by rw [← hhi]; exact q3')
          omega
      · rcases get q1' with ⟨hi', p1'⟩ | ⟨j', rfl, p1'⟩
        · have a := small p1' q2' (by rw [← hlo hi']; exact q3')
          have c := big p1 q2 (by rw [← hhi]; exact q3)
          omega
        · have := h2.inj j j' k1 k1' g g' n n' row row' L L' p1 q2 (by rw [← hhi]; exact q3) p1' q2' (by rw [← hhi]; exact q3') he
          omega
    · intro b bl g n row L q1 q2 q3
      rcases get q1 with ⟨hi, p1⟩ | ⟨j, rfl, p1⟩
      · exact hh.wid b bl g n row L p1 q2 (by rw [← hlo hi]; exact q3)
      · exact h2.wid j bl g n row L p1 q2 (by rw [← hhi]; exact q3)
    · intro b g lo q
      rcases Nat.lt_or_ge b H.length with hi | hi
      · rw [hlo hi] at q
        refine ⟨by simp; omega, fun bl g' n row q1 q2 => ?_⟩
        rcases get q1 with ⟨_, p1⟩ | ⟨j, rfl, _⟩
        · exact (hh.dom b g lo q).2 bl g' n row p1 q2
        · omega
      · obtain ⟨j, rfl⟩ : ∃ j, b = j + H.length := ⟨b - H.length, by omega⟩
        rw [hhi] at q
        obtain ⟨d1, d2⟩ := h2.dom j g lo q
        refine ⟨by simp; omega, fun bl g' n row q1 q2 => ?_⟩
        rcases get q1 with ⟨hlt, _⟩ | ⟨j', he, p1⟩
        · omega
        · have : j' = j := by omega
          subst this
          exact d2 bl g' n row p1 q2
  · refine ⟨fun _ _ _ h => h, hold, h3.size, fun cb hl i => ?_, fun cb hl hi => h3.frame cb hl (noImg cb), fun cb o x hx => .inl hx, by simp, h3.os, h3.output, h3.tape⟩
    obtain ⟨b, bl, g, n, row, L, q1, q2, q3, q4⟩ := i
    cases bl with
    | mp vb sh es =>
      have p1 := getm _ _ _ _ q1
      exact ⟨b, _, g, n, row, L, p1, q2, by rw [← hlo (List.getElem?_eq_some_iff.1 p1).1]; exact q3, q4⟩
    | dead => cases q2
    | _ =>
      rcases get q1 with ⟨hi, p1⟩ | ⟨j, rfl, p1⟩
      · exact ⟨b, _, g, n, row, L, p1, q2, by rw [← hlo hi]; exact q3, q4⟩
      · have := big p1 q2 (by rw [← hhi]; exact q3)
        omega

/-- A call of a function that is lent the blocks and makes new ones. -/
theorem go_callL {rs : List ResultVar} (W : Walk P TT f rs) (m n : Nat) {cs : List Prop} {g : FuncId} {args args' : List AV} {dst : Option Nat} {k' : List Item} {T' : Env} {H' : AHeap} {ss : List Prop} {Q : AV → AHeap → Prop}
    (h : exec TT N rs m n [] k T H = .call cs g args dst k' T' H') (hc : AllC cs) (e : mapF (frz (fun _ => true) H' 9) args = some (ss, args')) (c1 : AllC ss) (hcl : cloL args' = true) (hq : AFun P g args' [] Q) (hfl : ∀ u H2, Q u H2 → flatN u = true ∧ plainH H2)
    (h1 : ∀ u H2, Q u H2 → ∃ T1 H1, dstM N dst (shf (lenM H') u) T' = some T1 ∧ appM H' H2 = some H1 ∧ AGo P f N n0 k' T1 H1 R) : AGo P f N n0 k T H R :=
  go_call W m n h hc (hq.lent e c1 hcl hfl) fun v H1 ⟨u, H2, r1, r2, r3⟩ => by
    obtain ⟨T1, H1', q1, q2, q3⟩ := h1 u H2 r1
    rw [appM_eq] at q2
    rw [lenM_eq] at q1
    cases q2
    subst r2; subst r3
    exact ⟨T1, q1, q3⟩
end Pf
/- A function's contract over some blocks, used where these are some of the blocks at hand: the blocks may be of any kind, lead to each other, and change their generations. -/
namespace Pf
open Go
variable {P : Program} {TT : TypeId → Option TI} {f N n0 : Nat} {k : List Item} {T : Env} {H : AHeap} {R : AV → AHeap → Prop}

/-- Where the callee's block i lies among the caller's: the first are told, new ones come behind. -/
def upI : List Nat → Nat → Nat → Nat
  | [], hl, i => hl + i
  | b :: _, _, 0 => b
  | _ :: ρ, hl, i + 1 => upI ρ hl i
theorem upI_lt : ∀ {ρ : List Nat} {hl i : Nat} (h : i < ρ.length), upI ρ hl i = ρ[i]
  | b :: ρ, hl, 0, h => rfl
  | b :: ρ, hl, i + 1, h => by simp only [upI, List.getElem_cons_succ]; exact upI_lt (by simpa using h)
theorem upI_ge : ∀ {ρ : List Nat} {hl i : Nat}, ρ.length ≤ i → upI ρ hl i = hl + (i - ρ.length)
  | [], hl, i, h => by simp [upI]
  | b :: ρ, hl, 0, h => by simp at h
  | b :: ρ, hl, i + 1, h => by
    simp only [upI, List.length_cons]
    rw [upI_ge (by simpa using h)]
    omega
mutual
def upV (ρ : List Nat) (hl : Nat) : AV → AV
  | .ptr b g r c => .ptr (upI ρ hl b) g r c
  | .sl b g off len => .sl (upI ρ hl b) g off len
  | .mp b => .mp (upI ρ hl b)
  | .agg cs => .agg (upL ρ hl cs)
  | .tup cs => .tup (upL ρ hl cs)
  | .iface t v => .iface t (upV ρ hl v)
  | .fn f fs cs => .fn f (upL ρ hl fs) (upL ρ hl cs)
  | v => v
def upL (ρ : List Nat) (hl : Nat) : List AV → List AV
  | [] => []
  | v :: vs => upV ρ hl v :: upL ρ hl vs
end
theorem upL_eq (ρ : List Nat) (hl : Nat) : ∀ vs, upL ρ hl vs = vs.map (upV ρ hl)
  | [] => rfl
  | v :: vs => by simp [upL, upL_eq ρ hl vs]
theorem VR.up {FM : FMem} {β1 β' : BMap} {ρ : List Nat} {hl : Nat} (hb : ∀ i g, β' (upI ρ hl i) g = β1 i g) {v : AV} {cv : Value} (h : VR FM β1 v cv) : VR FM β' (upV ρ hl v) cv := by
  induction h with
  | top => exact .top
  | bool => exact .bool
  | pr h => exact .pr h
  | anyb h1 h2 => exact .anyb h1 h2
  | int => exact .int
  | str h => exact .str h
  | nilp => exact .nilp
  | ptr h hs => exact .ptr (by rw [hb]; exact h) hs
  | fptr cv hm hv ih => exact .fptr cv hm hv
  | nils => exact .nils
  | e0 => exact .e0
  | fi0 => exact .fi0
  | fi hc hm => exact .fi hc hm
  | fz0 => exact .fz0
  | fz cv hz hc hl hm ho hv ih => exact .fz cv hz hc hl hm ho hv
  | sl h hs hr hc hp => exact .sl (by rw [hb]; exact h) hs hr hc hp
  | sl0 h hs => exact .sl0 (by rw [hb]; exact h) hs
  | fn h1 h2 hv1 hv2 ih1 ih2 =>
    simp only [Pf.upV, upL_eq]
    exact .fn (by simpa using h1) (by simpa using h2) (fun i hi => by rw [List.getElem_map]; exact ih1 i (by simpa using hi) hb) (fun i hi => by rw [List.getElem_map]; exact ih2 i (by simpa using hi) hb)
  | nilf => exact .nilf
  | iface h ih => exact .iface (ih hb)
  | nili => exact .nili
  | mp h => exact .mp (by rw [hb]; exact h)
  | agg h1 hv ih =>
    simp only [Pf.upV, upL_eq]
    exact .agg (by simpa using h1) (fun i hi => by rw [List.getElem_map]; exact ih i (by simpa using hi) hb)
  | tup h1 hv ih =>
    simp only [Pf.upV, upL_eq]
    exact .tup (by simpa using h1) (fun i hi => by rw [List.getElem_map]; exact ih i (by simpa using hi) hb)
/-- And back: what leads to the first blocks only. -/
theorem VR.down {FM : FMem} {β β0 : BMap} {ρ : List Nat} {hl n : Nat} (hb : ∀ i g, i < n → β0 i g = β (upI ρ hl i) g) {x : AV} {cv : Value} (h : VR FM β x cv) : ∀ {v : AV}, x = Pf.upV ρ hl v → Pf.belo n v = true → VR FM β0 v cv := by
  induction h with
  | top => intro v e hv; cases v <;> simp only [Pf.upV, reduceCtorEq] at e; exact .top
  | bool => intro v e hv; cases v <;> simp only [Pf.upV, reduceCtorEq] at e; cases e; exact .bool
  | pr h => intro v e hv; cases v <;> simp only [Pf.upV, reduceCtorEq] at e; cases e; exact .pr h
  | anyb h1 h2 => intro v e hv; cases v <;> simp only [Pf.upV, reduceCtorEq] at e; cases e; exact .anyb h1 h2
  | int => intro v e hv; cases v <;> simp only [Pf.upV, reduceCtorEq] at e; cases e; exact .int
  | str h => intro v e hv; cases v <;> simp only [Pf.upV, reduceCtorEq] at e; cases e; exact .str h
  | nilp => intro v e hv; cases v <;> simp only [Pf.upV, reduceCtorEq] at e; exact .nilp
  | ptr h hs =>
    intro v e hv
    cases v <;> simp only [Pf.upV, reduceCtorEq] at e
    cases e
    simp only [Pf.belo, Nat.blt_eq] at hv
    exact .ptr (by rw [hb _ _ hv]; exact h) hs
  | fptr cv hm hv ih => intro v e _; cases v <;> simp only [Pf.upV, reduceCtorEq] at e; cases e; exact .fptr cv hm hv
  | nils => intro v e hv; cases v <;> simp only [Pf.upV, reduceCtorEq] at e; exact .nils
  | e0 => intro v e hv; cases v <;> simp only [Pf.upV, reduceCtorEq] at e; exact .e0
  | fi0 => intro v e hv; cases v <;> simp only [Pf.upV, reduceCtorEq] at e; cases e; exact .fi0
  | fi hc hm => intro v e hv; cases v <;> simp only [Pf.upV, reduceCtorEq] at e; cases e; exact .fi hc hm
  | fz0 => intro v e hv; cases v <;> simp only [Pf.upV, reduceCtorEq] at e; cases e; exact .fz0
  | fz cv hz hc hl hm ho hv ih => intro v e _; cases v <;> simp only [Pf.upV, reduceCtorEq] at e; cases e; exact .fz cv hz hc hl hm ho hv
  | sl h hs hr hc hp =>
    intro v e hv
    cases v <;> simp only [Pf.upV, reduceCtorEq] at e
    cases e
    simp only [Pf.belo, Nat.blt_eq] at hv
    exact .sl (by rw [hb _ _ hv]; exact h) hs hr hc hp
  | sl0 h hs =>
    intro v e hv
    cases v <;> simp only [Pf.upV, reduceCtorEq] at e
    rename_i b' g' off' len'
    obtain ⟨rfl, rfl, rfl, rfl⟩ : _ ∧ _ ∧ _ ∧ _ := by simpa using e
    simp only [Pf.belo, Nat.blt_eq] at hv
    exact .sl0 (by rw [hb _ _ hv]; exact h) hs
  | fn h1 h2 hv1 hv2 ih1 ih2 =>
    intro v e hv
    cases v <;> simp only [Pf.upV, upL_eq, reduceCtorEq] at e
    cases e
    simp only [Pf.belo] at hv
    split at hv
    · rename_i hf
      exact .fn (by simpa using h1) (by simpa using h2) (fun i hi => ih1 i (by simpa using hi) hb (by rw [List.getElem_map]) (beloL_get hf i hi)) (fun i hi => ih2 i (by simpa using hi) hb (by rw [List.getElem_map]) (beloL_get hv i hi))
    · cases hv
  | nilf => intro v e hv; cases v <;> simp only [Pf.upV, reduceCtorEq] at e; exact .nilf
  | iface h ih => intro v e hv; cases v <;> simp only [Pf.upV, reduceCtorEq] at e; cases e; exact .iface (ih hb rfl hv)
  | nili => intro v e hv; cases v <;> simp only [Pf.upV, reduceCtorEq] at e; exact .nili
  | mp h =>
    intro v e hv
    cases v <;> simp only [Pf.upV, reduceCtorEq] at e
    cases e
    simp only [Pf.belo, Nat.blt_eq] at hv
    exact .mp (by rw [hb _ _ hv]; exact h)
  | agg h1 hv ih =>
    intro v e hv2
    cases v <;> simp only [Pf.upV, upL_eq, reduceCtorEq] at e
    cases e
    exact .agg (by simpa using h1) (fun i hi => ih i (by simpa using hi) hb (by rw [List.getElem_map]) (beloL_get hv2 i hi))
  | tup h1 hv ih =>
    intro v e hv2
    cases v <;> simp only [Pf.upV, upL_eq, reduceCtorEq] at e
    cases e
    exact .tup (by simpa using h1) (fun i hi => ih i (by simpa using hi) hb (by rw [List.getElem_map]) (beloL_get hv2 i hi))
def upB (ρ : List Nat) (hl : Nat) : ABlk → ABlk
  | .lst g rows => .lst g (rows.map fun r => upL ρ hl r)
  | .tab g n row => .tab g n fun i => upL ρ hl (row i)
  | b => b
theorem upB_view {ρ : List Nat} {hl : Nat} {blk : ABlk} {g n : Nat} {row : Nat → List AV} (h : (upB ρ hl blk).view = some (g, n, row)) :
    ∃ row0, blk.view = some (g, n, row0) ∧ (upB ρ hl blk).width = blk.width ∧ ∀ i, i < n → row i = (row0 i).map (upV ρ hl) := by
  cases blk with
  | dead => cases h
  | mp vb sh es => cases h
  | lst g' rows =>
    simp only [upB, ABlk.view, Option.some.injEq, Prod.mk.injEq, List.length_map] at h
    obtain ⟨rfl, rfl, rfl⟩ := h
    refine ⟨_, rfl, ?_, fun i hi => ?_⟩
    · simp only [upB, ABlk.width, List.getD_eq_getElem?_getD, List.getElem?_map]
      cases rows[0]? with
      | none => rfl
      | some r => simp [upL_eq]
    · simp [List.getD_eq_getElem?_getD, hi, upL_eq]
  | ints g' k l =>
    simp only [upB, ABlk.view, Option.some.injEq, Prod.mk.injEq] at h
    obtain ⟨rfl, rfl, rfl⟩ := h
    exact ⟨_, rfl, rfl, fun i hi => rfl⟩
  | tab g' n' row' =>
    simp only [upB, ABlk.view, Option.some.injEq, Prod.mk.injEq] at h
    obtain ⟨rfl, rfl, rfl⟩ := h
    exact ⟨_, rfl, by simp [upB, ABlk.width, upL_eq], fun i hi => upL_eq _ _ _⟩
theorem view_upB {ρ : List Nat} {hl : Nat} {blk : ABlk} {g n : Nat} {row : Nat → List AV} (h : blk.view = some (g, n, row)) :
    ∃ row1, (upB ρ hl blk).view = some (g, n, row1) ∧ (upB ρ hl blk).width = blk.width ∧ ∀ i, i < n → row1 i = (row i).map (upV ρ hl) := by
  have : ∃ row1, (upB ρ hl blk).view = some (g, n, row1) := by
    cases blk with
    | dead => cases h
    | mp vb sh es => cases h
    | _ =>
      simp only [ABlk.view, Option.some.injEq, Prod.mk.injEq] at h
      obtain ⟨rfl, rfl, rfl⟩ := h
      simp [upB, ABlk.view]
  obtain ⟨row1, h1⟩ := this
  obtain ⟨row0, h2, h3, h4⟩ := upB_view h1
  rw [h] at h2
  cases h2
  exact ⟨row1, h1, h3, h4⟩
theorem upB_mp {ρ : List Nat} {hl : Nat} {blk : ABlk} {vb : Bool} {sh : Option (List Bool)} {es : List (MKey × Int)} (h : upB ρ hl blk = .mp vb sh es) : blk = .mp vb sh es := by
  cases blk <;> simp only [upB] at h <;> first | exact h | cases h
/-- The callee's blocks, laid back. -/
def layB (ρ : List Nat) (hl : Nat) : List Nat → AHeap → AHeap → Option AHeap
  | [], H', H => appM H (H'.map (upB ρ hl))
  | b :: bs, c :: H', H => match setM (upB ρ hl c) H b with | some H1 => layB ρ hl bs H' H1 | none => none
  | _ :: _, [], _ => none
theorem layB_get {ρ : List Nat} {hl : Nat} : ∀ {bs : List Nat} {H' H : AHeap}, bs.length ≤ H'.length → (∀ i (h : i < bs.length), bs[i] < H.length) → bs.Nodup →
    ∃ H1, layB ρ hl bs H' H = some H1 ∧ H1.length = H.length + (H'.length - bs.length) ∧ ∀ b k, H1[b]? = some k → (∃ i, ∃ h : i < bs.length, ∃ c, H'[i]? = some c ∧ b = bs[i] ∧ k = upB ρ hl c) ∨ ((∀ i (h : i < bs.length), bs[i] ≠ b) ∧ b < H.length ∧ H[b]? = some k) ∨
      (H.length ≤ b ∧ ∃ c, H'[bs.length + (b - H.length)]? = some c ∧ k = upB ρ hl c)
  | [], H', H, _, _, _ => by
    refine ⟨H ++ H'.map (upB ρ hl), by simp only [layB, appM_eq], by simp, fun b k hk => ?_⟩
    rcases Nat.lt_or_ge b H.length with hb | hb
    · rw [List.getElem?_append_left hb] at hk
      exact .inr (.inl ⟨fun i h => by simp at h, hb, hk⟩)
    · rw [List.getElem?_append_right hb, List.getElem?_map] at hk
      obtain ⟨c, h1, h2⟩ := Option.map_eq_some_iff.1 hk
      exact .inr (.inr ⟨hb, c, by simpa using h1, h2.symm⟩)
  | b0 :: bs, c :: H', H, hl1, hlt, hd => by
    have h0 : b0 < H.length := hlt 0 (by simp)
    have hs : setM (upB ρ hl c) H b0 = some (H.set b0 (upB ρ hl c)) := by rw [setM_eq, if_pos h0]
    have hd' := List.nodup_cons.1 hd
    obtain ⟨H1, h1, h2, h3⟩ := layB_get (ρ := ρ) (hl := hl) (bs := bs) (H' := H') (H := H.set b0 (upB ρ hl c)) (by simpa using hl1) (fun i h => by have := hlt (i + 1) (by simpa using h); rw [List.length_set]; simpa using this) hd'.2
    refine ⟨H1, by simp only [layB, hs]; exact h1, by simpa using h2, fun b k hk => ?_⟩
    rcases h3 b k hk with ⟨i, h4, c', h5, h6, h7⟩ | ⟨h4, h5, h6⟩ | ⟨h4, c', h5, h6⟩
    · exact .inl ⟨i + 1, by simpa using h4, c', by simpa using h5, by simpa using h6, h7⟩
    · rw [List.getElem?_set] at h6
      by_cases hbb : b0 = b
      · subst hbb
        rw [if_pos rfl, if_pos h0] at h6
        exact .inl ⟨0, by simp, c, by simp, rfl, (Option.some.inj h6).symm⟩
      · rw [if_neg hbb] at h6
        refine .inr (.inl ⟨fun i hi => ?_, by simpa using h5, h6⟩)
        cases i with
        | zero => exact hbb
        | succ i => exact h4 i (by simpa using hi)
    · rw [List.length_set] at h4 h5
      refine .inr (.inr ⟨h4, c', ?_, h6⟩)
      rw [List.length_cons, show bs.length + 1 + (b - H.length) = (bs.length + (b - H.length)) + 1 by omega, List.getElem?_cons_succ]
      exact h5
  | _ :: _, [], H, h, _, _ => by simp at h
/-- Rows that lead to the first n blocks only. -/
def inB (n : Nat) : ABlk → Prop
  | .lst _ rows => beloLL n rows = true
  | .tab _ m row => ∀ i, i < m → beloL n (row i) = true
  | _ => True
def inH (n : Nat) : AHeap → Prop
  | [] => True
  | b :: bs => inB n b ∧ inH n bs
theorem inH_get {n : Nat} : ∀ {H : AHeap}, inH n H → ∀ {i : Nat} {blk : ABlk}, H[i]? = some blk → inB n blk
  | b :: bs, h, 0, blk, e => by simp at e; subst e; exact h.1
  | b :: bs, h, i + 1, blk, e => inH_get h.2 (i := i) (by simpa using e)
  | [], h, i, blk, e => by simp at e
theorem inB_row {n : Nat} {blk : ABlk} (h : inB n blk) {g m : Nat} {row : Nat → List AV} (hv : blk.view = some (g, m, row)) : ∀ i, i < m → beloL n (row i) = true := by
  intro i hi
  cases blk with
  | dead => cases hv
  | mp vb sh es => cases hv
  | lst g' rows =>
    simp only [ABlk.view, Option.some.injEq, Prod.mk.injEq] at hv
    obtain ⟨rfl, rfl, rfl⟩ := hv
    have := beloLL_get h i hi
    simpa [List.getD_eq_getElem?_getD, hi] using this
  | ints g' k l =>
    simp only [ABlk.view, Option.some.injEq, Prod.mk.injEq] at hv
    obtain ⟨rfl, rfl, rfl⟩ := hv
    rfl
  | tab g' n' row' =>
    simp only [ABlk.view, Option.some.injEq, Prod.mk.injEq] at hv
    obtain ⟨rfl, rfl, rfl⟩ := hv
    exact h i hi
/-- The blocks handed over are those. -/
def handB (ρ : List Nat) (hl : Nat) : List Nat → AHeap → AHeap → Prop
  | [], [], _ => True
  | b :: bs, c :: cs, H => nthM H b = some (upB ρ hl c) ∧ handB ρ hl bs cs H
  | _, _, _ => False
theorem handB_get {ρ : List Nat} {hl : Nat} {H : AHeap} : ∀ {bs : List Nat} {cs : AHeap}, handB ρ hl bs cs H → bs.length = cs.length ∧ ∀ i (h : i < bs.length) c, cs[i]? = some c → H[bs[i]]? = some (upB ρ hl c)
  | [], [], _ => ⟨rfl, fun i h => by simp at h⟩
  | b :: bs, c :: cs, h => by
    obtain ⟨h1, h2⟩ := handB_get h.2
    refine ⟨by simp [h1], fun i hi c' hc => ?_⟩
    cases i with
    | zero =>
      simp at hc; subst hc
      have := h.1
      rw [nthM_eq] at this
      exact this
    | succ i => exact h2 i (by simpa using hi) c' (by simpa using hc)
  | [], _ :: _, h => h.elim
  | _ :: _, [], h => h.elim
def distR : List Nat → Bool
  | [] => true
  | b :: bs => match memM bs b with | true => false | false => distR bs
theorem distR_iff : ∀ {bs : List Nat}, distR bs = true → bs.Nodup
  | [], _ => List.nodup_nil
  | b :: bs, h => by
    simp only [distR] at h
    split at h
    · cases h
    · rename_i hb
      refine List.nodup_cons.2 ⟨fun hm => ?_, distR_iff h⟩
      rw [memM_iff.2 hm] at hb
      cases hb
theorem nodup_inj {bs : List Nat} (h : bs.Nodup) {i j : Nat} (hi : i < bs.length) (hj : j < bs.length) (e : bs[i] = bs[j]) : i = j := (List.getElem_inj h).1 e
theorem vw_view {k : ABlk} {x : Nat × Nat × (Nat → List AV)} (h : k.vw = some x) : k.view = some x ∨ (∃ vb sh es, k = .mp vb sh es) ∧ x.1 = 0 := by
  cases k with
  | mp vb sh es =>
    simp only [ABlk.vw, Option.some.injEq] at h
    subst h
    exact .inr ⟨⟨_, _, _, rfl⟩, rfl⟩
  | dead => cases h
  | _ => exact .inl h
theorem AFun.sub {args' : List AV} {Hs : AHeap} {ρ : List Nat} {Q : AV → AHeap → Prop} (h : AFun P f args' Hs Q) (hbel : beloL ρ.length args' = true) (hin : inH ρ.length Hs) (hH : handB ρ H.length ρ Hs H) (hd : ρ.Nodup) :
    AFun P f (upL ρ H.length args') H fun v H1 => ∃ u H', Q u H' ∧ v = upV ρ H.length u ∧ layB ρ H.length ρ H' H = some H1 := by
  refine ⟨h.1, fun FM β cs w cargs hv hh => ?_⟩
  obtain ⟨hlen, hget⟩ := handB_get hH
  have hget' : ∀ i (h : i < ρ.length), ∃ c, Hs[i]? = some c ∧ H[ρ[i]]? = some (upB ρ H.length c) := fun i h => by
    have h2 : i < Hs.length := by omega
    exact ⟨Hs[i], by simp [h2], hget i h _ (by simp [h2])⟩
  have hblt : ∀ i (h : i < ρ.length), ρ[i] < H.length := fun i h => by
    obtain ⟨c, _, h2⟩ := hget' i h
    exact (List.getElem?_eq_some_iff.1 h2).1
  let β0 : BMap := fun i g => if i < ρ.length then β (upI ρ H.length i) g else none
  have hβ0 : ∀ i g, i < ρ.length → β0 i g = β (upI ρ H.length i) g := fun i g hi => by simp [β0, hi]
  have hβ0' : ∀ {i g lo}, β0 i g = some lo → ∃ hi : i < ρ.length, β ρ[i] g = some lo := by
    intro i g lo e
    simp only [β0] at e
    split at e
    · rename_i hi
      exact ⟨hi, by rw [upI_lt hi] at e; exact e⟩
    · cases e
  have get0 : ∀ {i : Nat} {c : ABlk}, Hs[i]? = some c → ∃ hi : i < ρ.length, H[ρ[i]]? = some (upB ρ H.length c) := fun {i c} e => by
    have hi : i < ρ.length := by have := (List.getElem?_eq_some_iff.1 e).1; omega
    exact ⟨hi, hget i hi c e⟩
  have r0 : RelH FM β0 Hs w := by
    refine ⟨?_, ?_, ?_, hh.fm, ?_, hh.gk, ⟨?_, ?_⟩⟩
    · intro i c g n row e1 e2
      obtain ⟨hi, e3⟩ := get0 e1
      obtain ⟨row1, e4, e5, e6⟩ := view_upB (ρ := ρ) (hl := H.length) e2
      obtain ⟨lo, q1, q2⟩ := hh.mem _ _ _ _ _ e3 e4
      refine ⟨lo, by rw [hβ0 i g hi, upI_lt hi]; exact q1, ?_⟩
      cases lo with
      | none => exact q2
      | some L =>
        have q2 : MemOk FM β w L n row1 := q2
        obtain ⟨c', ee, fr, c1, c2, c3, c4, c5⟩ := q2.cells
        refine ⟨q2.sz, q2.sh, q2.fit, ⟨c', ee, fr, c1, c2, c3, c4, fun r hr1 hr2 => ?_⟩, q2.free⟩
        obtain ⟨k3, k4⟩ := c5 r hr1 hr2
        rw [e6 r hr2] at k3
        refine ⟨by simpa using k3, fun j hj => ?_⟩
        have hj1 : j < (row1 r).length := by rw [e6 r hr2]; simpa using hj
        obtain ⟨cv, k5, k6⟩ := k4 j hj1
        refine ⟨cv, k5, VR.down hβ0 k6 ?_ (beloL_get (inB_row (inH_get hin e1) e2 r hr2) j hj)⟩
        have : ∀ {l : List AV} (e : row1 r = l) (h1 : j < l.length), (row1 r)[j] = l[j] := by rintro l rfl _; rfl
        rw [this (e6 r hr2) (by simpa using hj), List.getElem_map]
    · intro i1 i2 c1 c2 g1 g2 n1 n2 row1 row2 L1 L2 a1 a2 a3 a4 a5 a6 a7
      obtain ⟨h1, b1⟩ := get0 a1
      obtain ⟨h2, b2⟩ := get0 a4
      obtain ⟨r1, v1, _⟩ := view_upB (ρ := ρ) (hl := H.length) a2
      obtain ⟨r2, v2, _⟩ := view_upB (ρ := ρ) (hl := H.length) a5
      obtain ⟨_, a3⟩ := hβ0' a3
      obtain ⟨_, a6⟩ := hβ0' a6
      exact nodup_inj hd h1 h2 (hh.inj _ _ _ _ _ _ _ _ _ _ L1 L2 b1 v1 a3 b2 v2 a6 a7)
    · intro i c g n row L a1 a2 a3
      obtain ⟨h1, b1⟩ := get0 a1
      obtain ⟨r1, v1, w1, _⟩ := view_upB (ρ := ρ) (hl := H.length) a2
      obtain ⟨_, a3⟩ := hβ0' a3
      rw [← w1]
      exact hh.wid _ _ _ _ _ L b1 v1 a3
    · intro i g lo a1
      obtain ⟨h1, a1⟩ := hβ0' a1
      refine ⟨by omega, fun c g' n row a2 a3 => ?_⟩
      obtain ⟨_, b1⟩ := get0 a2
      obtain ⟨r1, v1, _⟩ := view_upB (ρ := ρ) (hl := H.length) a3
      exact (hh.dom _ _ _ a1).2 _ _ _ _ b1 v1
    · intro i vb sh es a1
      obtain ⟨h1, b1⟩ := get0 a1
      obtain ⟨L, q1, q2⟩ := hh.mp.lies _ _ _ _ b1
      exact ⟨L, by rw [hβ0 i 0 h1, upI_lt h1]; exact q1, q2⟩
    · intro i1 i2 vb vb' sh sh' es es' L L' a1 a2 a3 a4 a5
      obtain ⟨h1, b1⟩ := get0 a1
      obtain ⟨h2, b2⟩ := get0 a3
      obtain ⟨_, a2⟩ := hβ0' a2
      obtain ⟨_, a4⟩ := hβ0' a4
      exact nodup_inj hd h1 h2 (hh.mp.inj _ _ _ _ _ _ _ _ L L' b1 a2 b2 a4 a5)
  have hv0 : VRs FM β0 args' cargs.toList := ⟨by have := hv.1; rw [upL_eq, List.length_map] at this; exact this, fun i hi => by
    have h1 := hv.2 i (by rw [upL_eq, List.length_map]; exact hi)
    refine VR.down hβ0 h1 ?_ (beloL_get hbel i hi)
    simp only [upL_eq, List.getElem_map]⟩
  obtain ⟨v, w', fr, av, FM1, β1, H', hQ, h1, h2, h3, h4, h5, h6⟩ := h.2 FM β0 cs w cargs hv0 r0
  have hHl : ρ.length ≤ H'.length := by have := h3.len; omega
  obtain ⟨H1, l1, l2, l3⟩ := layB_get (ρ := ρ) (hl := H.length) (H := H) hHl hblt hd
  -- what lies where
  let β' : BMap := fun b g => if hb : b ∈ ρ then β1 (ρ.idxOf b) g else if b < H.length then β b g else β1 (ρ.length + (b - H.length)) g
  have hup : ∀ i g, β' (upI ρ H.length i) g = β1 i g := by
    intro i g
    rcases Nat.lt_or_ge i ρ.length with hi | hi
    · rw [upI_lt hi]
      have : ρ[i] ∈ ρ := List.getElem_mem hi
      simp only [β', dif_pos this]
      congr 1
      exact hd.idxOf_getElem i hi
    · rw [upI_ge hi]
      have : H.length + (i - ρ.length) ∉ ρ := fun hm => by
        obtain ⟨j, hj, e⟩ := List.getElem_of_mem hm
        have := hblt j hj
        omega
      simp only [β', dif_neg this, if_neg (show ¬ H.length + (i - ρ.length) < H.length by omega)]
      congr 1
      omega
  have hot : ∀ b g, b < H.length → b ∉ ρ → β' b g = β b g := fun b g hb hn => by simp only [β', dif_neg hn, if_pos hb]
  have hold : ∀ b g lo, β b g = some lo → β' b g = some lo := by
    intro b g lo hb
    have hlt := (hh.dom _ _ _ hb).1
    by_cases hm : b ∈ ρ
    · obtain ⟨i, hi, rfl⟩ := List.getElem_of_mem hm
      rw [← upI_lt (hl := H.length) hi, hup]
      exact h3.bm _ _ _ (by rw [hβ0 i g hi, upI_lt hi]; exact hb)
    · rw [hot b g hlt hm]; exact hb
  have get : ∀ {b : Nat} {k : ABlk}, H1[b]? = some k → (∃ i c, H'[i]? = some c ∧ b = upI ρ H.length i ∧ k = upB ρ H.length c) ∨ (b ∉ ρ ∧ b < H.length ∧ H[b]? = some k) := by
    intro b k hk
    rcases l3 b k hk with ⟨i, hi, c, e1, e2, e3⟩ | ⟨hn, hb, e⟩ | ⟨hb, c, e1, e2⟩
    · exact .inl ⟨i, c, e1, by rw [upI_lt hi]; exact e2, e3⟩
    · refine .inr ⟨fun hm => ?_, hb, e⟩
      obtain ⟨i, hi, e⟩ := List.getElem_of_mem hm
      exact hn i hi e
    · exact .inl ⟨_, c, e1, by rw [upI_ge (by omega)]; omega, e2⟩
  -- an old block that was not handed over
  have sep : ∀ {b : Nat} {k : ABlk} {g n : Nat} {row : Nat → List AV} {L : Loc}, b ∉ ρ → H[b]? = some k → k.vw = some (g, n, row) → β b g = some (some L) → L.cb < w.heap.size ∧ ¬ Img β0 Hs L.cb := by
    intro b k g n row L hn e1 e2 e3
    have obj : ∀ {b : Nat} {k : ABlk} {g n : Nat} {row : Nat → List AV} {L : Loc}, H[b]? = some k → k.vw = some (g, n, row) → β b g = some (some L) → (k.view = some (g, n, row) ∧ ∃ c e fr, w.heap[L.cb]? = some (.cells c e fr)) ∨ ((∃ vb sh es, k = .mp vb sh es) ∧ g = 0 ∧ ∃ es cl, w.heap[L.cb]? = some (.map es cl)) := by
      intro b k g n row L e1 e2 e3
      cases k with
      | mp vb sh es =>
        cases e2
        obtain ⟨L', q1, es', cl, q2, _⟩ := hh.mp.lies _ _ _ _ e1
        rw [e3] at q1
        cases q1
        exact .inr ⟨⟨_, _, _, rfl⟩, rfl, _, _, q2⟩
      | dead => cases e2
      | _ =>
        obtain ⟨lo, q1, q2⟩ := hh.mem _ _ _ _ _ e1 e2
        rw [e3] at q1
        cases q1
        obtain ⟨c, e, fr, c1, _⟩ := MemOk.cells q2
        exact .inl ⟨e2, c, e, fr, c1⟩
    refine ⟨?_, fun hi => ?_⟩
    · rcases obj e1 e2 e3 with ⟨_, c, e, fr, c1⟩ | ⟨_, _, es, cl, c1⟩
      · exact (Array.getElem?_eq_some_iff.1 c1).1
      · exact (Array.getElem?_eq_some_iff.1 c1).1
    · obtain ⟨i, c, g', n', row', L', f1, f2, f3, f4⟩ := hi
      obtain ⟨hi, f5⟩ := get0 f1
      obtain ⟨_, f3⟩ := hβ0' f3
      have f6 : ∃ row'', (upB ρ H.length c).vw = some (g', n', row'') := by
        rcases vw_view f2 with v0 | ⟨⟨vb, sh, es, rfl⟩, _⟩
        · obtain ⟨r1, v1, _⟩ := view_upB (ρ := ρ) (hl := H.length) v0
          exact ⟨r1, ABlk.vw_of v1⟩
        · cases f2; exact ⟨_, rfl⟩
      obtain ⟨row'', f6⟩ := f6
      have hne : ρ[i] ≠ b := fun e => hn (e ▸ List.getElem_mem hi)
      rcases obj e1 e2 e3 with ⟨v1, c1, x1, x2, c2⟩ | ⟨⟨vb, sh, es, rfl⟩, rfl, x1, x2, c2⟩ <;> rcases obj f5 f6 f3 with ⟨v2, c3, x3, x4, c4⟩ | ⟨⟨vb', sh', es', hk⟩, rfl, x3, x4, c4⟩
      · exact hne (hh.inj _ _ _ _ _ _ _ _ _ _ L' L f5 v2 f3 e1 v1 e3 f4)
      · rw [f4, c2] at c4; cases c4
      · rw [f4, c2] at c4; cases c4
      · rw [hk] at f5
        exact hne (hh.mp.inj _ _ _ _ _ _ _ _ L' L f5 f3 e1 e3 f4)
  -- what the callee has lies in its own memory
  have own : ∀ {i : Nat} {c : ABlk} {g n : Nat} {row : Nat → List AV} {L : Loc}, H'[i]? = some c → c.vw = some (g, n, row) → β1 i g = some (some L) → w.heap.size ≤ L.cb ∨ Img β0 Hs L.cb := by
    intro i c g n row L e1 e2 e3
    rcases Nat.lt_or_ge L.cb w.heap.size with hl | hl
    · exact .inr (h3.img _ hl ⟨i, c, g, n, row, L, e1, e2, e3, rfl⟩)
    · exact .inl hl
  refine ⟨v, w', fr, upV ρ H.length av, FM1, β', H1, ⟨av, H', hQ, rfl, l1⟩, h1.up hup, ?_, ?_, h4, h5, h6⟩
  · refine ⟨?_, ?_, ?_, h2.fm, ?_, h2.gk, ⟨?_, ?_⟩⟩
    · intro b k g n row e1 e2
      rcases get e1 with ⟨i, c, q1, rfl, rfl⟩ | ⟨hn, hb, q1⟩
      · obtain ⟨row0, q2, q3, q4⟩ := upB_view e2
        obtain ⟨lo, q5, q6⟩ := h2.mem i c g n row0 q1 q2
        refine ⟨lo, by rw [hup]; exact q5, ?_⟩
        cases lo with
        | none => exact q6
        | some L =>
          have q6 : MemOk FM1 β1 w' L n row0 := q6
          obtain ⟨c', ee, frr, c1, c2, c3, c4, c5⟩ := q6.cells
          refine ⟨q6.sz, q6.sh, q6.fit, ⟨c', ee, frr, c1, c2, c3, c4, fun r hr1 hr2 => ?_⟩, q6.free⟩
          obtain ⟨k3, k4⟩ := c5 r hr1 hr2
          rw [q4 r hr2]
          refine ⟨by simpa using k3, fun j hj => ?_⟩
          obtain ⟨cv, k5, k6⟩ := k4 j (by simpa using hj)
          refine ⟨cv, k5, ?_⟩
          rw [List.getElem_map]
          exact k6.up hup
      · obtain ⟨lo, q2, q3⟩ := hh.mem b k g n row q1 e2
        refine ⟨lo, hold _ _ _ q2, ?_⟩
        cases lo with
        | none => exact q3
        | some L =>
          have q3 : MemOk FM β w L n row := q3
          obtain ⟨s1, s2⟩ := sep hn q1 (ABlk.vw_of e2) q2
          obtain ⟨c', ee, frr, c1, c2, c3, c4, c5⟩ := q3.cells
          refine ⟨q3.sz, q3.sh, q3.fit, ⟨c', ee, frr, by rw [h3.frame _ s1 s2]; exact c1, c2, c3, c4, fun r hr1 hr2 => ?_⟩, fun o => ?_⟩
          · obtain ⟨k3, k4⟩ := c5 r hr1 hr2
            refine ⟨k3, fun j hj => ?_⟩
            obtain ⟨cv, k5, k6⟩ := k4 j hj
            exact ⟨cv, k5, k6.mono h3.fm hold⟩
          · cases hx : FM1 L.cb o with
            | none => rfl
            | some x =>
              rcases h3.fmn _ _ _ hx with hx | hx | hx
              · rw [q3.free o] at hx; cases hx
              · omega
              · exact absurd hx s2
    · intro b1 b2 k1 k2 g1 g2 n1 n2 row1 row2 L1 L2 e1 e2 e3 e4 e5 e6 e7
      rcases get e1 with ⟨i, c, q1, rfl, rfl⟩ | ⟨hn, hb, q1⟩ <;> rcases get e4 with ⟨i', c', q1', rfl, rfl⟩ | ⟨hn', hb', q1'⟩
      · obtain ⟨_, v1, _⟩ := upB_view e2
        obtain ⟨_, v2, _⟩ := upB_view e5
        rw [hup] at e3 e6
        rw [h2.inj _ _ _ _ _ _ _ _ _ _ L1 L2 q1 v1 e3 q1' v2 e6 e7]
      · obtain ⟨_, v1, _⟩ := upB_view e2
        rw [hup] at e3
        rw [hot _ _ hb' hn'] at e6
        obtain ⟨s1, s2⟩ := sep hn' q1' (ABlk.vw_of e5) e6
        rcases own q1 (ABlk.vw_of v1) e3 with o1 | o1
        · omega
        · rw [e7] at o1; exact absurd o1 s2
      · obtain ⟨_, v2, _⟩ := upB_view e5
        rw [hup] at e6
        rw [hot _ _ hb hn] at e3
        obtain ⟨s1, s2⟩ := sep hn q1 (ABlk.vw_of e2) e3
        rcases own q1' (ABlk.vw_of v2) e6 with o1 | o1
        · omega
        · rw [← e7] at o1; exact absurd o1 s2
      · rw [hot _ _ hb hn] at e3
        rw [hot _ _ hb' hn'] at e6
        exact hh.inj _ _ _ _ _ _ _ _ _ _ L1 L2 q1 e2 e3 q1' e5 e6 e7
    · intro b k g n row L e1 e2 e3
      rcases get e1 with ⟨i, c, q1, rfl, rfl⟩ | ⟨hn, hb, q1⟩
      · obtain ⟨_, v1, w1, _⟩ := upB_view e2
        rw [hup] at e3
        rw [w1]
        exact h2.wid _ _ _ _ _ L q1 v1 e3
      · rw [hot _ _ hb hn] at e3
        exact hh.wid _ _ _ _ _ L q1 e2 e3
    · intro b g lo e
      have hdom : ∀ k g' n row, H1[b]? = some k → k.view = some (g', n, row) → g ≤ g' := by
        intro k g' n row q1 q2
        rcases get q1 with ⟨i, c, q3, rfl, rfl⟩ | ⟨hn, hb, q3⟩
        · obtain ⟨_, v1, _⟩ := upB_view q2
          rw [hup] at e
          exact (h2.dom _ _ _ e).2 _ _ _ _ q3 v1
        · rw [hot _ _ hb hn] at e
          exact (hh.dom _ _ _ e).2 _ _ _ _ q3 q2
      refine ⟨?_, fun k g' n row => hdom k g' n row⟩
      rcases Nat.lt_or_ge b H.length with hb | hb
      · omega
      · have hn : b ∉ ρ := fun hm => by
          obtain ⟨j, hj, e⟩ := List.getElem_of_mem hm
          have := hblt j hj
          omega
        simp only [β', dif_neg hn, if_neg (Nat.not_lt.2 hb)] at e
        have := (h2.dom _ _ _ e).1
        omega
    · intro b vb sh es e1
      rcases get e1 with ⟨i, c, q1, rfl, q2⟩ | ⟨hn, hb, q1⟩
      · have := upB_mp q2.symm
        subst this
        obtain ⟨L, q3, q4⟩ := h2.mp.lies _ _ _ _ q1
        exact ⟨L, by rw [hup]; exact q3, q4⟩
      · obtain ⟨L, q3, ents, cl, q4, q5⟩ := hh.mp.lies _ _ _ _ q1
        obtain ⟨s1, s2⟩ := sep hn q1 rfl q3
        exact ⟨L, hold _ _ _ q3, ents, cl, by rw [h3.frame _ s1 s2]; exact q4, q5⟩
    · intro b1 b2 vb vb' sh sh' es es' L L' e1 e2 e3 e4 e5
      rcases get e1 with ⟨i, c, q1, rfl, q2⟩ | ⟨hn, hb, q1⟩ <;> rcases get e3 with ⟨i', c', q1', rfl, q2'⟩ | ⟨hn', hb', q1'⟩
      · have := upB_mp q2.symm; subst this
        have := upB_mp q2'.symm; subst this
        rw [hup] at e2 e4
        rw [h2.mp.inj _ _ _ _ _ _ _ _ L L' q1 e2 q1' e4 e5]
      · have := upB_mp q2.symm; subst this
        rw [hup] at e2
        rw [hot _ _ hb' hn'] at e4
        obtain ⟨s1, s2⟩ := sep hn' q1' rfl e4
        rcases own q1 rfl e2 with o1 | o1
        · omega
        · rw [e5] at o1; exact absurd o1 s2
      · have := upB_mp q2'.symm; subst this
        rw [hup] at e4
        rw [hot _ _ hb hn] at e2
        obtain ⟨s1, s2⟩ := sep hn q1 rfl e2
        rcases own q1' rfl e4 with o1 | o1
        · omega
        · rw [← e5] at o1; exact absurd o1 s2
      · rw [hot _ _ hb hn] at e2
        rw [hot _ _ hb' hn'] at e4
        exact hh.mp.inj _ _ _ _ _ _ _ _ L L' q1 e2 q1' e4 e5
  · have im0 : ∀ cb, Img β0 Hs cb → Img β H cb := by
      rintro cb ⟨i, c, g, n, row, L, e1, e2, e3, e4⟩
      obtain ⟨hi, e5⟩ := get0 e1
      obtain ⟨_, e3⟩ := hβ0' e3
      rcases vw_view e2 with v0 | ⟨⟨vb, sh, es, rfl⟩, _⟩
      · obtain ⟨r1, v1, _⟩ := view_upB (ρ := ρ) (hl := H.length) v0
        exact ⟨_, _, _, _, _, L, e5, ABlk.vw_of v1, e3, e4⟩
      · cases e2; exact ⟨_, _, _, _, _, L, e5, rfl, e3, e4⟩
    refine ⟨h3.fm, hold, h3.size, fun cb hl hi => ?_, fun cb hl hi => h3.frame cb hl fun h => hi (im0 cb h), fun cb o x hx => ?_, by omega, h3.os, h3.output, h3.tape⟩
    · obtain ⟨b, k, g, n, row, L, e1, e2, e3, e4⟩ := hi
      rcases get e1 with ⟨i, c, q1, rfl, rfl⟩ | ⟨hn, hb, q1⟩
      · rw [hup] at e3
        have : ∃ row0, c.vw = some (g, n, row0) := by
          rcases vw_view e2 with v0 | ⟨⟨vb, sh, es, hk⟩, _⟩
          · obtain ⟨r0, v1, _⟩ := upB_view v0
            exact ⟨r0, ABlk.vw_of v1⟩
          · have := upB_mp hk; subst this; cases e2; exact ⟨_, rfl⟩
        obtain ⟨row0, v1⟩ := this
        rcases own q1 v1 e3 with o1 | o1
        · omega
        · rw [e4] at o1; exact im0 cb o1
      · rw [hot _ _ hb hn] at e3
        exact ⟨b, k, g, n, row, L, q1, e2, e3, e4⟩
    · rcases h3.fmn _ _ _ hx with hx | hx | hx
      · exact .inl hx
      · exact .inr (.inl hx)
      · exact .inr (.inr (im0 _ hx))
end Pf
/- Calls of functions whose contract is over some of the blocks (GR), and how such a contract is shown: what is left over is dropped at the end. -/
namespace Pf
open Go
variable {P : Program} {TT : TypeId → Option TI} {f N n0 : Nat} {k : List Item} {T : Env} {H : AHeap} {R : AV → AHeap → Prop} {nf : Nat} {ops : Array Oper} {past op pend pend' : List Nat} {vin ws : List (Option Nat × AV)} {ps : List Prop} {cl : List (FuncId × List AV × AV)}

/-- A call; 'ρ': which blocks are handed over, by the numbers that the callee has for them. -/
theorem go_callS {rs : List ResultVar} (W : Walk P TT f rs) (m n : Nat) (ρ : List Nat) {cs : List Prop} {g : FuncId} {args args' : List AV} {dst : Option Nat} {k' : List Item} {T' : Env} {H' Hs : AHeap} {Q : AV → AHeap → Prop}
    (h : exec TT N rs m n [] k T H = .call cs g args dst k' T' H') (hc : AllC cs) (hq : AFun P g args' Hs Q) (ea : args = upL ρ (lenM H') args') (hbel : beloL (lenM ρ) args' = true) (hin : inH (lenM ρ) Hs) (hH : handB ρ (lenM H') ρ Hs H') (hd : distR ρ = true)
    (h1 : ∀ u H2, Q u H2 → ∃ T1 H1, dstM N dst (upV ρ (lenM H') u) T' = some T1 ∧ layB ρ (lenM H') ρ H2 H' = some H1 ∧ AGo P f N n0 k' T1 H1 R) : AGo P f N n0 k T H R := by
  simp only [lenM_eq] at *
  subst ea
  refine go_call W m n h hc (hq.sub hbel hin hH (distR_iff hd)) fun v H1 ⟨u, H2, r1, r2, r3⟩ => ?_
  obtain ⟨T1, H1', q1, q2, q3⟩ := h1 u H2 r1
  rw [r3] at q2
  cases q2
  subst r2
  exact ⟨T1, q1, q3⟩

/-- What is handed back, the blocks from n on being dropped. -/
def Trim (n : Nat) (Q : AV → AHeap → Prop) (v : AV) (H : AHeap) : Prop := ∃ u cs H1, Sub v u ∧ belo n u = true ∧ dropM n n H = some (cs, H1) ∧ AllC cs ∧ Q u H1
theorem AFun.trim {args : List AV} {Hs : AHeap} {Q : AV → AHeap → Prop} (n : Nat) (h : AFun P f args Hs (Trim n Q)) (hn : Hs.length ≤ n) : AFun P f args Hs Q := by
  refine ⟨h.1, fun FM β cs w cargs hv hh => ?_⟩
  obtain ⟨v, w', fr, av, FM1, β1, H1, ⟨u, cs', H2, hs, hbe, e3, hc, hq⟩, h1, hH, h3, h4, h5, h6⟩ := h.2 FM β cs w cargs hv hh
  obtain ⟨rfl, hle, hbl⟩ := dropM_ok e3 hc
  let β2 : BMap := fun b g => if b < n then β1 b g else none
  have hβ : ∀ b g, b < n → β2 b g = β1 b g := fun b g hb => by simp [β2, hb]
  have get : ∀ {i : Nat} {blk : ABlk}, (H1.take n)[i]? = some blk → i < n ∧ H1[i]? = some blk := by
    intro i blk hi
    rw [List.getElem?_take] at hi
    split at hi
    · rename_i h1; exact ⟨h1, hi⟩
    · cases hi
  have sub : ∀ {i g : Nat} {lo : Option Loc}, β2 i g = some lo → i < n ∧ β1 i g = some lo := by
    intro i g lo hi
    simp only [β2] at hi
    split at hi
    · rename_i h1; exact ⟨h1, hi⟩
    · cases hi
  have hR : RelH FM1 β2 (H1.take n) w' := by
    have hmp : MapsOk β2 (H1.take n) w' := ⟨fun b1 vb sh es h => by
        obtain ⟨hi, h1⟩ := get h
        obtain ⟨L, q1, q2⟩ := hH.mp.lies b1 vb sh es h1
        exact ⟨L, by rw [hβ _ _ hi]; exact q1, q2⟩, fun b1 b2 vb vb' sh sh' es es' L L' h1 h2 h3 h4 h5 => hH.mp.inj b1 b2 vb vb' sh sh' es es' L L' (get h1).2 (sub h2).2 (get h3).2 (sub h4).2 h5⟩
    refine ⟨?_, ?_, ?_, hH.fm, ?_, hH.gk, hmp⟩
    · intro i blk g m row h1 h2
      obtain ⟨hi, h1⟩ := get h1
      obtain ⟨lo, q1, q2⟩ := hH.mem i blk g m row h1 h2
      refine ⟨lo, by rw [hβ _ _ hi]; exact q1, ?_⟩
      cases lo with
      | none => exact q2
      | some L =>
        have q2 : MemOk FM1 β1 w' L m row := q2
        obtain ⟨c, ee, fr, c1, c2, c3, c4, c5⟩ := q2.cells
        refine ⟨q2.sz, q2.sh, q2.fit, ⟨c, ee, fr, c1, c2, c3, c4, fun r hr1 hr2 => ?_⟩, q2.free⟩
        obtain ⟨k3, k4⟩ := c5 r hr1 hr2
        obtain ⟨C, b1, b2⟩ := hbl i blk hi h1
        have hrow := beloB_row b1 b2 h2 r hr2
        refine ⟨k3, fun j hj => ?_⟩
        obtain ⟨cv, k5, k6⟩ := k4 j hj
        exact ⟨cv, k5, k6.belo (n := n) (fun b g hb => hβ b g hb) (beloL_get hrow j hj)⟩
    · intro b1 b2 k1 k2 g1 g2 n1 n2 row1 row2 L1 L2 h1 h2 h3 h4 h5 h6 h7
      exact hH.inj b1 b2 k1 k2 g1 g2 n1 n2 row1 row2 L1 L2 (get h1).2 h2 (sub h3).2 (get h4).2 h5 (sub h6).2 h7
    · intro i blk g m row L h1 h2 h3
      exact hH.wid i blk g m row L (get h1).2 h2 (sub h3).2
    · intro i g lo hi
      obtain ⟨q1, q2⟩ := sub hi
      refine ⟨by rw [List.length_take]; omega, fun blk g' m row h1 h2 => (hH.dom i g lo q2).2 blk g' m row (get h1).2 h2⟩
  refine ⟨v, w', fr, u, FM1, β2, H1.take n, hq, (hs _ _ _ h1).belo (n := n) (fun b g hb => hβ b g hb) hbe, hR, ?_, h4, h5, h6⟩
  exact ⟨h3.fm, fun b g lo e => by rw [hβ _ _ (Nat.lt_of_lt_of_le (hh.dom _ _ _ e).1 hn)]; exact h3.bm _ _ _ e, h3.size, fun cb hl i => by
      obtain ⟨i', blk, g, m, row, L, q1, q2, q3, q4⟩ := i
      exact h3.img cb hl ⟨i', blk, g, m, row, L, (get q1).2, q2, (sub q3).2, q4⟩, h3.frame, h3.fmn, by rw [List.length_take]; omega, h3.os, h3.output, h3.tape⟩
theorem go_retS {rs : List ResultVar} (W : Walk P TT f rs) (m n nb : Nat) {Q : AV → AHeap → Prop} {cs qs : List Prop} {v : AV} {H' H1 : AHeap} (h : exec TT N rs m n [] k T H = .ret cs v H') (hc : AllC cs) (hd : dropM nb nb H' = some (qs, H1)) (hcs : AllC qs)
    (u : AV) (hs : Sub v u) (hb : belo nb u = true) (hq : Q u H1) : AGo P f N n0 k T H (Trim nb Q) :=
  go_ret W m n h hc ⟨u, qs, H1, hs, hb, hd, hcs, hq⟩
end Pf
/- Functions of the library that write the texts of a block (Sort, Compact). -/
namespace Pf
open Go Go.RowKit Go.Sort Go.Proofs
variable {P : Program} {f : FuncId}
/-- Rows of texts. -/
def tbRow (L : List (List UInt8)) (i : Nat) : List AV := [.str (L.getD i [])]
/-- What such a function hands back: nothing, or the slice cut. -/
def tbRes (m : Option Nat) (a : Option Addr) (cap : Nat) : Value := match m with | none => .tuple #[] | some k => .slice a k cap
def tbVal (g : Nat) : Option Nat → AV | none => .tup [] | some k => .sl 0 g 0 k
end Pf
/- Lists of texts in the laws: marks, equality -/
namespace Pf
open Go Go.Proofs
/-- The digits of a number ahead of a text (f: no less than the number). -/
def mtF : Nat → Nat → List UInt8 → List UInt8
  | 0, _, out => out
  | f + 1, k, out => if k = 0 then out else mtF f (k / 10) (bytesT [48 + (k : Int) % 10] ++ out)
/-- The text that marks the place k. -/
def mt (k : Nat) : List UInt8 := [109] ++ mtF k k []
theorem mtF_zero (f : Nat) (out : List UInt8) : mtF f 0 out = out := by cases f <;> simp [mtF]
theorem markText_ok (k : Nat) (h1 : 1 ≤ k) (h2 : k ≤ 1099511627776) : AFunP Tryz.prog 49 [.int .i64 k] (· = .str (mt k)) := by
  refine afun_of Tryz.func49 Tryz.call49 rfl Tryz.ntmps49 rfl ?_
  have W : Walk Tryz.prog TT 49 _ := Walk.of TT_ok Tryz.func49 Tryz.results49
  refine sp W 0 rfl rfl rfl (fun h0 => ?_) (fun h0 => ?_)
  · exfalso; omega
  refine lp W 0 (σ := Nat × Nat × List UInt8) (fun s => [(0, .int .i64 s.2.1), (3, .str s.2.2)]) (fun _ => []) (fun s => s.1) (fun s => s.2.1 ≤ s.1 ∧ s.2.2.length + s.2.1 ≤ k ∧ mtF s.1 s.2.1 s.2.2 = mtF k k []) (k, k, []) [0, 3] rfl rfl rfl ⟨Nat.le_refl _, by simp, rfl⟩ ?_
  rintro ⟨f, j, out⟩ ⟨hf, hj, he⟩ ih
  dsimp only at hf hj he ih ⊢
  refine sp W 0 rfl rfl rfl (fun h3 => ?_) (fun h3 => ?_)
  · have hb : ∀ n : Int, (bytesT [n]).length = 1 := fun n => rfl
    have hj1 : 0 < j := by omega
    have hbl := hb (48 + (j : Int) % 10)
    obtain ⟨f, rfl⟩ : ∃ g, f = g + 1 := ⟨f - 1, by omega⟩
    have e : mtF f (j / 10) (bytesT [48 + (j : Int) % 10] ++ out) = mtF k k [] := by
      rw [← he]
      simp only [mtF]
      rw [if_neg (by omega)]
    refine bd W 0 0 [0, 3] rfl rfl rfl rfl rfl (ih (f, j / 10, bytesT [48 + (j : Int) % 10] ++ out) ⟨by dsimp only; omega, by dsimp only; rw [List.length_append, hb]; omega, e⟩ (by dsimp only; omega))
  · have hj0 : j = 0 := by omega
    subst hj0
    rw [mtF_zero] at he
    refine rp W 0 rfl rfl rfl (.eq (by unfold mt; rw [← he]))
end Pf
/- Rows by a function: another function that says the same below the length; the tail forgotten. -/
namespace Pf
open Go
variable {P : Program} {TT : TypeId → Option TI} {f N n0 : Nat} {k : List Item} {T : Env} {H : AHeap} {R : AV → AHeap → Prop} {nf : Nat} {ops : Array Oper} {past op pend : List Nat} {vs : List (Option Nat × AV)}

theorem tbc_back {b m g : Nat} {n : Nat} {row row2 : Nat → List AV} {H2 : AHeap} (e1 : nthM H b = some (.tab g n row)) (e2 : setM (.tab g m row2) H b = some H2) :
    H2.length = H.length ∧ ∀ b' blk', H2[b']? = some blk' → (b' = b ∧ blk' = .tab g m row2) ∨ H[b']? = some blk' := by
  rw [nthM_eq] at e1
  rw [setM_eq] at e2
  split at e2
  · simp only [Option.some.injEq] at e2
    subst e2
    refine ⟨by simp, fun b' blk' h => ?_⟩
    rw [List.getElem?_set] at h
    split at h
    · rename_i hb
      subst hb
      simp only [Option.some.injEq] at h
      exact .inl ⟨rfl, h.symm⟩
    · exact .inr h
  · cases e2
theorem tbc_view {b m g : Nat} {n : Nat} {row row2 : Nat → List AV} {H2 : AHeap} (e1 : nthM H b = some (.tab g n row)) (e2 : setM (.tab g m row2) H b = some H2) (hwd : (row2 0).length = (row 0).length) {b' g' n' : Nat} {blk' : ABlk} {row' : Nat → List AV}
    (h1 : H2[b']? = some blk') (h2 : blk'.view = some (g', n', row')) : ∃ blk n row, H[b']? = some blk ∧ blk.view = some (g', n, row) ∧ blk'.width = blk.width := by
  rcases (tbc_back e1 e2).2 b' blk' h1 with ⟨rfl, rfl⟩ | h
  · rw [nthM_eq] at e1
    simp only [ABlk.view, Option.some.injEq, Prod.mk.injEq] at h2
    obtain ⟨rfl, _, _⟩ := h2
    exact ⟨_, _, _, e1, rfl, hwd⟩
  · exact ⟨_, _, _, h, h2, rfl⟩
theorem tbc_img {b m g : Nat} {n : Nat} {row row2 : Nat → List AV} {H2 : AHeap} {β : BMap} (e1 : nthM H b = some (.tab g n row)) (e2 : setM (.tab g m row2) H b = some H2) {cb : Nat} (h : Img β H2 cb) : Img β H cb := by
  obtain ⟨b', blk', g', n', row', L, h1, h2, h3, h4⟩ := h
  rcases (tbc_back e1 e2).2 b' blk' h1 with ⟨rfl, rfl⟩ | h
  · rw [nthM_eq] at e1
    cases h2
    exact ⟨_, _, _, _, _, L, e1, rfl, h3, h4⟩
  · exact ⟨b', blk', g', n', row', L, h, h2, h3, h4⟩
theorem RelH.tbc {FM : FMem} {β : BMap} {w : World} (hh : RelH FM β H w) {b m g : Nat} {n : Nat} {row row2 : Nat → List AV} {H2 : AHeap} (e1 : nthM H b = some (.tab g n row)) (e2 : setM (.tab g m row2) H b = some H2)
    (hwd : (row2 0).length = (row 0).length) (hm : m ≤ n) (hr : ∀ i, i < m → row2 i = row i) (hs : m = n ∨ ∃ off len cv, VR FM β (.sl b g off len) cv ∧ off ≤ m) : RelH FM β H2 w where
  mem b' blk' g' n' row' h1 h2 := by
    rcases (tbc_back e1 e2).2 b' blk' h1 with ⟨rfl, rfl⟩ | h
    · rw [nthM_eq] at e1
      simp only [ABlk.view, Option.some.injEq, Prod.mk.injEq] at h2
      obtain ⟨rfl, rfl, rfl⟩ := h2
      obtain ⟨lo, q1, q2⟩ := hh.mem _ _ _ _ _ e1 rfl
      refine ⟨lo, q1, ?_⟩
      cases lo with
      | none =>
        have : n = 0 := q2
        show m = 0
        omega
      | some L =>
        obtain ⟨z1, z2, z3, ⟨c, el, fr, y1, y2, y3, y4, y5⟩, z5⟩ := q2
        have hs : L.sh ≤ m := by
          rcases hs with rfl | ⟨off, len, cv, hv, ho⟩
          · exact z2
          · have : L.sh ≤ off := by
              cases hv with
              | sl h hs hr hc hp => rw [q1] at h; cases h; exact hs
              | sl0 h hs => rw [q1] at h; cases h; exact hs _ rfl
            omega
        refine ⟨z1, hs, by omega, ⟨c, el, fr, y1, y2, y3, y4, fun r r1 r2 => ?_⟩, z5⟩
        have := y5 r r1 (by omega)
        rw [hr r r2]
        exact this
    · exact hh.mem _ _ _ _ _ h h2
  inj b1 b2 blk1 blk2 g1 g2 n1 n2 row1 row2 L1 L2 h1 h2 h3 h4 h5 h6 h7 := by
    obtain ⟨c1, d1, f1, p1, p2, _⟩ := tbc_view e1 e2 hwd h1 h2
    obtain ⟨c2, d2, f2, q1, q2, _⟩ := tbc_view e1 e2 hwd h4 h5
    exact hh.inj _ _ _ _ _ _ _ _ _ _ _ _ p1 p2 h3 q1 q2 h6 h7
  wid b1 blk1 g1 n1 row1 L h1 h2 h3 := by
    obtain ⟨c1, d1, f1, p1, p2, p3⟩ := tbc_view e1 e2 hwd h1 h2
    rw [p3]
    exact hh.wid _ _ _ _ _ _ p1 p2 h3
  fm := hh.fm
  dom b1 g1 lo h := by
    obtain ⟨q1, q2⟩ := hh.dom b1 g1 lo h
    refine ⟨by rw [(tbc_back e1 e2).1]; exact q1, fun blk' g' n' row' h1 h2 => ?_⟩
    obtain ⟨c1, d1, f1, p1, p2, _⟩ := tbc_view e1 e2 hwd h1 h2
    exact q2 _ _ _ _ p1 p2
  gk := hh.gk
  mp := hh.mp.keep (fun _ _ _ h => h) (fun b' vb sh es h => by
    rcases (tbc_back e1 e2).2 b' _ h with ⟨_, h⟩ | h
    · cases h
    · exact h) fun _ _ _ h => h
theorem Ext.tbc {FM : FMem} {β : BMap} {w : World} {b m g : Nat} {n : Nat} {row row2 : Nat → List AV} {H2 : AHeap} (e1 : nthM H b = some (.tab g n row)) (e2 : setM (.tab g m row2) H b = some H2) : Ext FM β H w FM β H2 w where
  fm _ _ _ h := h
  bm _ _ _ h := h
  size := Nat.le_refl _
  img cb _ h := tbc_img e1 e2 h
  frame _ _ _ := rfl
  fmn _ _ _ h := .inl h
  len := by rw [(tbc_back e1 e2).1]; exact Nat.le_refl _
  os := rfl
  output := rfl
  tape := rfl
/-- The rows of the block 'b' are said by another function; its tail may be forgotten (then a slot 'd' holds a piece that begins at or ahead of 'm'). -/
theorem go_tab (b m : Nat) (row2 : Nat → List AV) {g n : Nat} {row : Nat → List AV} {H2 : AHeap} (e1 : nthM H b = some (.tab g n row)) (e2 : setM (.tab g m row2) H b = some H2)
    (hwd : (row2 0).length = (row 0).length) (hm : m ≤ n) (hr : ∀ i, i < m → row2 i = row i) (hs : m = n ∨ ∃ d off len, getM T d = some (.sl b g off len) ∧ off ≤ m) (h : AGo P f N n0 k T H2 R) : AGo P f N n0 k T H R := by
  intro FM β b cs a w a1 a2 a3 a4 hT hH hn0
  refine Ext.go (Ext.tbc e1 e2) hn0 (h FM β b cs a w a1 a2 a3 a4 hT (hH.tbc e1 e2 hwd hm hr ?_)) (b := b) (.refl _ _)
  rcases hs with h | ⟨d, off, len, h1, h2⟩
  · exact .inl h
  · exact .inr ⟨off, len, _, hT d _ h1, h2⟩
/-- A block is forgotten. -/
theorem ded_back {b : Nat} {H2 : AHeap} (e2 : setM ABlk.dead H b = some H2) : H2.length = H.length ∧ ∀ (b' : Nat) (blk' : ABlk), H2[b']? = some blk' → blk' = ABlk.dead ∨ H[b']? = some blk' := by
  rw [setM_eq] at e2
  split at e2
  · simp only [Option.some.injEq] at e2
    subst e2
    refine ⟨by simp, fun b' blk' h => ?_⟩
    rw [List.getElem?_set] at h
    split at h
    · simp only [Option.some.injEq] at h
      exact .inl h.symm
    · exact .inr h
  · cases e2
theorem ded_view {b : Nat} {H2 : AHeap} (e2 : setM ABlk.dead H b = some H2) {b' : Nat} {blk' : ABlk} {x : Nat × Nat × (Nat → List AV)} (h1 : H2[b']? = some blk') (h2 : blk'.view = some x) : H[b']? = some blk' := by
  rcases (ded_back e2).2 b' blk' h1 with rfl | h
  · cases h2
  · exact h
theorem ded_vw {b : Nat} {H2 : AHeap} (e2 : setM ABlk.dead H b = some H2) {b' : Nat} {blk' : ABlk} {x : Nat × Nat × (Nat → List AV)} (h1 : H2[b']? = some blk') (h2 : blk'.vw = some x) : H[b']? = some blk' := by
  rcases (ded_back e2).2 b' blk' h1 with rfl | h
  · cases h2
  · exact h
theorem RelH.ded {FM : FMem} {β : BMap} {w : World} (hh : RelH FM β H w) {b : Nat} {H2 : AHeap} (e2 : setM ABlk.dead H b = some H2) : RelH FM β H2 w where
  mem b' blk' g' n' row' h1 h2 := hh.mem _ _ _ _ _ (ded_view e2 h1 h2) h2
  inj b1 b2 blk1 blk2 g1 g2 n1 n2 row1 row2 L1 L2 h1 h2 h3 h4 h5 h6 h7 := hh.inj _ _ _ _ _ _ _ _ _ _ _ _ (ded_view e2 h1 h2) h2 h3 (ded_view e2 h4 h5) h5 h6 h7
  wid b1 blk1 g1 n1 row1 L h1 h2 h3 := hh.wid _ _ _ _ _ _ (ded_view e2 h1 h2) h2 h3
  fm := hh.fm
  dom b1 g1 lo h := by
    obtain ⟨q1, q2⟩ := hh.dom b1 g1 lo h
    exact ⟨by rw [(ded_back e2).1]; exact q1, fun blk' g' n' row' h1 h2 => q2 _ _ _ _ (ded_view e2 h1 h2) h2⟩
  gk := hh.gk
  mp := hh.mp.keep (fun _ _ _ h => h) (fun b' vb sh es h => by
    rcases (ded_back e2).2 b' _ h with h | h
    · cases h
    · exact h) fun _ _ _ h => h
theorem Ext.ded {FM : FMem} {β : BMap} {w : World} {b : Nat} {H2 : AHeap} (e2 : setM ABlk.dead H b = some H2) : Ext FM β H w FM β H2 w where
  fm _ _ _ h := h
  bm _ _ _ h := h
  size := Nat.le_refl _
  img cb _ h := by
    obtain ⟨b', blk', g', n', row', L, h1, h2, h3, h4⟩ := h
    exact ⟨b', blk', g', n', row', L, ded_vw e2 h1 h2, h2, h3, h4⟩
  frame _ _ _ := rfl
  fmn _ _ _ h := .inl h
  len := by rw [(ded_back e2).1]; exact Nat.le_refl _
  os := rfl
  output := rfl
  tape := rfl
theorem go_dead (b : Nat) {H2 : AHeap} (e2 : setM ABlk.dead H b = some H2) (h : AGo P f N n0 k T H2 R) : AGo P f N n0 k T H R := by
  intro FM β bf cs a w a1 a2 a3 a4 hT hH hn0
  exact Ext.go (Ext.ded e2) hn0 (h FM β bf cs a w a1 a2 a3 a4 hT (hH.ded e2)) (b := bf) (.refl _ _)
end Pf
/- Terms in new memory, and their marks -/
namespace Pf
open Go Go.Proofs
end Pf
/- A nil slice in a temporary, as an empty block of its own. -/
namespace Pf
open Go
variable {P : Program} {TT : TypeId → Option TI} {f N n0 : Nat} {k : List Item} {T : Env} {H : AHeap} {R : AV → AHeap → Prop}

/-- The temporary 'd' holds no cells: from here on it is a slice of an empty block, at the heap's end. -/
theorem go_nilT (d : Nat) (blk : ABlk) {v : AV} {rowE : Nat → List AV} {T1 : Env} {H2 : AHeap} (et : getM T d = some v) (en : isNil v = true)
    (eb : blk.view = some (0, 0, rowE)) (e1 : putM d (.sl (lenM H) 0 0 0) T = some T1) (e4 : appM H [blk] = some H2)
    (h : AGo P f N n0 k T1 H2 R) : AGo P f N n0 k T H R := by
  intro FM β bf cs a w a1 a2 a3 a4 hT hH hl
  rw [appM_eq] at e4
  cases e4
  simp only [lenM_eq] at *
  let β1 : BMap := fun b g => if b = H.length ∧ g = 0 then some none else β b g
  have hnone : ∀ g, β H.length g = none := by
    intro g
    cases hb : β H.length g with
    | none => rfl
    | some lo => have := (hH.dom _ _ _ hb).1; omega
  have hβ : ∀ b g lo, β b g = some lo → β1 b g = some lo := by
    intro b g lo hb
    simp only [β1]
    split
    · rename_i h1
      obtain ⟨rfl, rfl⟩ := h1
      rw [hnone] at hb; cases hb
    · exact hb
  have some1 : ∀ {i g : Nat} {L : Loc}, β1 i g = some (some L) → β i g = some (some L) := by
    intro i g L hi
    simp only [β1] at hi
    split at hi
    · cases hi
    · exact hi
  have get : ∀ {i : Nat} {bl : ABlk}, (H ++ [blk])[i]? = some bl → (i < H.length ∧ H[i]? = some bl) ∨ (i = H.length ∧ bl = blk) := by
    intro i bl hi
    rcases Nat.lt_or_ge i H.length with h1 | h1
    · rw [List.getElem?_append_left h1] at hi; exact .inl ⟨h1, hi⟩
    · rw [List.getElem?_append_right h1] at hi
      obtain ⟨h2, h3⟩ := List.getElem?_eq_some_iff.1 hi
      simp at h2
      have : i = H.length := by omega
      subst this
      simp at h3
      exact .inr ⟨rfl, h3.symm⟩
  have hcell : ∀ {cv : Value}, VR FM β v cv → VR FM β1 (.sl H.length 0 0 0) cv := by
    intro cv h0
    have hb : β1 H.length 0 = some none := by simp [β1]
    cases h0 with
    | nils => exact .sl0 hb fun L h => by cases h
    | e0 => exact .sl0 hb fun L h => by cases h
    | _ => cases en
  have hR : RelH FM β1 (H ++ [blk]) w := by
    have hmp : MapsOk β1 (H ++ [blk]) w := hH.mp.keep hβ (fun i vb sh es h => by
      rcases get h with ⟨_, h⟩ | ⟨_, rfl⟩
      · exact h
      · cases eb) fun _ _ _ h => h
    refine ⟨?_, ?_, ?_, hH.fm, ?_, hH.gk, hmp⟩
    · intro i bl g' m rw1 h1 h2
      rcases get h1 with ⟨hi, q1⟩ | ⟨rfl, rfl⟩
      · obtain ⟨lo, p1, p2⟩ := hH.mem i bl g' m rw1 q1 h2
        refine ⟨lo, hβ _ _ _ p1, ?_⟩
        cases lo with
        | none => exact p2
        | some L => exact MemOk.still p2 rfl hβ
      · rw [eb] at h2; cases h2
        exact ⟨none, by simp [β1], rfl⟩
    · intro b1 b2 k1 k2 g1 g2 n1 n2 row1 row2 L1 L2 h1 h2 h3 h4 h5 h6 h7
      have q3 := some1 h3
      have q6 := some1 h6
      rcases get h1 with ⟨_, x1⟩ | ⟨rfl, rfl⟩
      · rcases get h4 with ⟨_, x1'⟩ | ⟨rfl, rfl⟩
        · exact hH.inj b1 b2 k1 k2 g1 g2 n1 n2 row1 row2 L1 L2 x1 h2 q3 x1' h5 q6 h7
        · rw [hnone] at q6; cases q6
      · rw [hnone] at q3; cases q3
    · intro i bl g' m rw1 L h1 h2 h3
      have q3 := some1 h3
      rcases get h1 with ⟨_, x1⟩ | ⟨rfl, rfl⟩
      · exact hH.wid i bl g' m rw1 L x1 h2 q3
      · rw [hnone] at q3; cases q3
    · intro i g' lo hi
      simp only [β1] at hi
      split at hi
      · rename_i h1
        obtain ⟨rfl, rfl⟩ := h1
        exact ⟨by simp, fun _ _ _ _ _ _ => Nat.zero_le _⟩
      · obtain ⟨q1, q2⟩ := hH.dom i g' lo hi
        refine ⟨by simp; omega, fun bl g2 m rw1 h1 h2 => ?_⟩
        rcases get h1 with ⟨_, x1⟩ | ⟨rfl, rfl⟩
        · exact q2 bl g2 m rw1 x1 h2
        · omega
  have hT1 : RelT FM β1 T1 a := by
    intro e u he
    rw [getM_putM e1] at he
    split at he
    · rename_i hde
      subst hde
      cases he
      exact hcell (hT _ _ et)
    · exact (hT e u he).mono (fun _ _ _ h => h) hβ
  obtain ⟨v', w', fr, av, FM', β', H', h1, h2, h3, h4, h5⟩ := h FM β1 bf cs a w a1 a2 a3 a4 hT1 hR (by simp; omega)
  have himg : ∀ cb, cb < w.heap.size → Img β1 (H ++ [blk]) cb → Img β H cb := by
    intro cb _ hi
    obtain ⟨i, bl, g', m, rw1, L, q1, q2, q3, q4⟩ := hi
    have q3 := some1 q3
    rcases get q1 with ⟨_, x1⟩ | ⟨rfl, rfl⟩
    · exact ⟨i, bl, g', m, rw1, L, x1, q2, q3, q4⟩
    · rw [hnone] at q3; cases q3
  have hx : ExtB n0 FM β H w FM β1 (H ++ [blk]) w := ⟨fun _ _ _ h => h, fun b g lo _ e => hβ b g lo e, Nat.le_refl _, himg, fun _ _ _ => rfl, fun _ _ _ h => .inl h, by simp; omega, rfl, rfl, rfl⟩
  exact ⟨v', w', fr, av, FM', β', H', h1, h2, h3, hx.trans h4, h5⟩

end Pf
/- A temporary's value said otherwise. -/
namespace Pf
open Go
variable {P : Program} {TT : TypeId → Option TI} {f N n0 : Nat} {k : List Item} {T : Env} {H : AHeap} {R : AV → AHeap → Prop}
end Pf
/- Tokens (plain) -/
namespace Pf
open Go Go.Proofs
/-! ### Tokens (plain) -/
abbrev Tk := Int × List UInt8
abbrev k0 : Tk := (0, [])
def tkV (x : Tk) : AV := .agg [.int .i64 x.1, .str x.2]
def tkR (l : List Tk) (i : Nat) : List AV := [.int .i64 (l.getD i k0).1, .str (l.getD i k0).2]
/-- Does a word go on at the place n? -/
def wc (s : List UInt8) (n : Nat) : Prop := n < s.length ∧ (lbB (s.getD n 0) = true ∨ dB (s.getD n 0) = true ∨ s.getD n 0 = 46 ∨ (s.getD n 0 = 45 ∧ dB (s.getD 0 0) = true ∧ s.getD (n - 1) 0 = 101))
open Classical in
noncomputable def wlF (s : List UInt8) : Nat → Nat → Nat
  | 0, n => n
  | f + 1, n => if wc s n then wlF s f (n + 1) else n
/-- How long the word is. -/
noncomputable def wl (s : List UInt8) : Nat := wlF s s.length 0
theorem wlF_of {s : List UInt8} {n : Nat} : ∀ {f m : Nat}, (∀ j, j < m + n → wc s j) → ¬ wc s (m + n) → s.length ≤ f + m → wlF s f m = m + n := by
  induction n with
  | zero =>
    intro f m h1 h2 h3
    cases f with
    | zero => rfl
    | succ f =>
      rw [Nat.add_zero] at h2
      simp only [wlF]
      rw [if_neg h2]
      rfl
  | succ n ih =>
    intro f m h1 h2 h3
    cases f with
    | zero =>
      have := (h1 m (by omega)).1
      omega
    | succ f =>
      simp only [wlF]
      rw [if_pos (h1 m (by omega)), ih (f := f) (m := m + 1) (fun j hj => h1 j (by omega)) (by rw [show m + 1 + n = m + (n + 1) by omega]; exact h2) (by omega)]
      omega
theorem wl_of {s : List UInt8} {n : Nat} (h1 : ∀ j, j < n → wc s j) (h2 : ¬ wc s n) : wl s = n := by
  have := wlF_of (s := s) (n := n) (f := s.length) (m := 0) (fun j hj => h1 j (by omega)) (by rw [Nat.zero_add]; exact h2) (by omega)
  unfold wl
  omega
theorem wlF_ok (s : List UInt8) : ∀ (f m : Nat), m ≤ s.length → s.length ≤ f + m → (∀ j, j < m → wc s j) → (∀ j, j < wlF s f m → wc s j) ∧ ¬ wc s (wlF s f m) ∧ wlF s f m ≤ s.length := by
  intro f
  induction f with
  | zero =>
    intro m hm hf h
    exact ⟨h, fun k => by have := k.1; simp only [wlF] at this; omega, hm⟩
  | succ f ih =>
    intro m hm hf h
    simp only [wlF]
    by_cases hw : wc s m
    · rw [if_pos hw]
      refine ih (m + 1) hw.1 (by omega) fun j hj => ?_
      by_cases hj2 : j = m
      · subst hj2; exact hw
      · exact h j (by omega)
    · rw [if_neg hw]
      exact ⟨h, hw, hm⟩
theorem wl_ok (s : List UInt8) : (∀ j, j < wl s → wc s j) ∧ ¬ wc s (wl s) ∧ wl s ≤ s.length := wlF_ok s _ _ (Nat.zero_le _) (by omega) fun j hj => by omega
theorem wl_pos {s : List UInt8} (h : s ≠ []) (hc : lbB (s.getD 0 0) = true ∨ dB (s.getD 0 0) = true) : 0 < wl s := by
  rcases Nat.eq_zero_or_pos (wl s) with h0 | h0
  · have := (wl_ok s).2.1
    rw [h0] at this
    refine absurd ⟨List.length_pos_iff.2 h, ?_⟩ this
    rcases hc with h | h
    · exact .inl h
    · exact .inr (.inl h)
  · exact h0
/-- How long the sign is with which a text begins; 0, if none is there. -/
def signs : List UInt8 := [43, 45, 42, 47, 94, 40, 41, 44, 61]
open Classical in
noncomputable def sg (s : List UInt8) : Nat := if 2 ≤ s.length ∧ (s.getD 0 0 = 60 ∨ s.getD 0 0 = 62) ∧ s.getD 1 0 = 61 then 2 else if s.getD 0 0 ∈ signs then 1 else 0
open Classical in
/-- The tokens of a text without a remark, and whether a number among them is none; nothing, if a byte is bad. -/
noncomputable def lex : Nat → List UInt8 → Option (List Tk × Bool)
  | 0, _ => some ([], false)
  | f + 1, s => if s = [] then some ([], false) else
      if s.getD 0 0 = 32 then lex f (s.drop 1) else
      if dB (s.getD 0 0) = true then (lex f (s.drop (wl s))).map fun r => ((2, s.take (wl s)) :: r.1, !decide (litP (s.take (wl s)) ∧ (s.take (wl s)).length ≤ 60) || r.2) else
      if lbB (s.getD 0 0) = true then (if wordP (s.take (wl s)) then (lex f (s.drop (wl s))).map fun r => ((1, s.take (wl s)) :: r.1, r.2) else none) else
      if sg s = 0 then none else (lex f (s.drop (sg s))).map fun r => ((3, s.take (sg s)) :: r.1, r.2)
/-- What has been read, and what is yet to come. -/
def lexC (o : List Tk) (b : Bool) (x : Option (List Tk × Bool)) : Option (List Tk × Bool) := x.map fun r => (o ++ r.1, b || r.2)
def lexE : Option (List Tk × Bool) → List Tk × Int
  | none => ([], 2)
  | some (ts, b) => if b = true then ([], 3) else if 300 < ts.length then ([], 5) else (ts, 0)
/-- What LangTokens answers. -/
noncomputable def lexR (s : List UInt8) : List Tk × Int := if 1000 < s.length then ([], 1) else lexE (lex (cutL s 35).length (cutL s 35))
theorem lexC_nil (x : Option (List Tk × Bool)) : lexC [] false x = x := by
  unfold lexC; cases x <;> simp
theorem lexC_cons (o : List Tk) (b c : Bool) (t : Tk) (x : Option (List Tk × Bool)) : lexC o b (x.map fun r => (t :: r.1, c || r.2)) = lexC (o ++ [t]) (b || c) x := by
  unfold lexC; cases x <;> simp [Bool.or_assoc]
theorem lexC_cons0 (o : List Tk) (b : Bool) (t : Tk) (x : Option (List Tk × Bool)) : lexC o b (x.map fun r => (t :: r.1, r.2)) = lexC (o ++ [t]) b x := by
  unfold lexC; cases x <;> simp
theorem lexC_end (o : List Tk) (b : Bool) : lexC o b (some ([], false)) = some (o, b) := by simp [lexC]
theorem cut_get : ∀ {L : List UInt8} {j : Nat}, j < (cutL L 35).length → L.getD j 0 = (cutL L 35).getD j 0 ∧ (cutL L 35).getD j 0 ≠ 35
  | [], j, h => by simp [cutL] at h
  | c :: L, j, h => by
    by_cases hc : c = 35
    · subst hc; simp [cutL] at h
    · have e : cutL (c :: L) 35 = c :: cutL L 35 := by simp [cutL, hc]
      rw [e] at h ⊢
      cases j with
      | zero => exact ⟨rfl, hc⟩
      | succ j =>
        have := cut_get (L := L) (j := j) (by simpa using h)
        simpa using this
theorem cut_end : ∀ {L : List UInt8}, (cutL L 35).length < L.length → L.getD (cutL L 35).length 0 = 35
  | [], h => by simp [cutL] at h
  | c :: L, h => by
    by_cases hc : c = 35
    · subst hc; simp [cutL]
    · have e : cutL (c :: L) 35 = c :: cutL L 35 := by simp [cutL, hc]
      rw [e] at h ⊢
      have := cut_end (L := L) (by simpa using h)
      simpa using this
theorem cut_le (L : List UInt8) : (cutL L 35).length ≤ L.length := (List.takeWhile_prefix _).length_le
theorem drop_get {l : List UInt8} {a j : Nat} : (l.drop a).getD j 0 = l.getD (a + j) 0 := by simp [List.getD_eq_getElem?_getD]
theorem cut_take {L : List UInt8} {a n : Nat} (h : a + n ≤ (cutL L 35).length) : (L.take (a + n)).drop a = ((cutL L 35).drop a).take n := by
  obtain ⟨t, ht⟩ : ∃ t, L = cutL L 35 ++ t := ⟨L.dropWhile (· != 35), (List.takeWhile_append_dropWhile).symm⟩
  generalize cutL L 35 = c at h ht
  subst ht
  rw [List.take_append_of_le_length h, List.drop_take]
  congr 1
  omega
end Pf
/- Reading a term (plain) -/
namespace Pf
open Go Go.Proofs
/-! ### Reading a term (plain) -/
structure RS where
  toks : List Tk
  nodes : List Nd
  bad : Bool
  many : Bool
abbrev RS.hd (s : RS) : Tk := s.toks.getD 0 k0
/-- Is the next token one of these signs? -/
def RS.isAt (s : RS) (w : List (List UInt8)) : Prop := 0 < s.toks.length ∧ s.hd.1 = 3 ∧ s.hd.2 ∈ w
def RS.fail (s : RS) : RS := { s with bad := true }
def RS.put (s : RS) (k n : Int) (t : List UInt8) : RS := { s with nodes := s.nodes ++ [(k, n, t)] }
def RS.next : RS → RS
  | ⟨[], ns, _, m⟩ => ⟨[], ns, true, m⟩
  | ⟨_ :: r, ns, b, m⟩ => ⟨r, ns, b, m⟩
open Classical in
noncomputable def RS.take (s : RS) (w : List UInt8) : RS := if s.hd.1 ≠ 3 ∨ s.hd.2 ≠ w then s.next.fail else s.next
open Classical in
/-- A power's number. -/
noncomputable def RS.pow (s : RS) : RS := if s.hd.1 ≠ 2 ∨ s.hd.2.length ≠ 1 ∨ ¬(Op.bytesLess s.hd.2 [56] = true ∨ s.hd.2 = [56]) then s.next.fail else s.next.put 8 ((s.hd.2.getD 0 0).toNat - 48 : Int) []
abbrev wPlus : List UInt8 := [43]
abbrev wMinus : List UInt8 := [45]
abbrev wTimes : List UInt8 := [42]
abbrev wOver : List UInt8 := [47]
abbrev wCaret : List UInt8 := [94]
abbrev wOpen : List UInt8 := [40]
abbrev wClose : List UInt8 := [41]
abbrev wComma : List UInt8 := [44]
abbrev wSqrt : List UInt8 := [115, 113, 114, 116]
abbrev wAbs : List UInt8 := [97, 98, 115]
abbrev wMin : List UInt8 := [109, 105, 110]
abbrev wMax : List UInt8 := [109, 97, 120]
/-- A function of the language, and how many arguments it has. -/
def fnK (w : List UInt8) : Int := if w = wSqrt then 9 else if w = wAbs then 10 else if w = wMin then 11 else 12
def fnN (w : List UInt8) : Nat := if w = wSqrt ∨ w = wAbs then 1 else 2
inductive Md where
  | sum | sumL | prod | prodL | sgn | atom | args | argsL (n : Nat)
open Classical in
/-- What is read, by fuel; for 'args' how many there are. -/
noncomputable def pI : Nat → Md → RS → Nat × RS
  | 0, _, s => (0, s)
  | f + 1, .sum, s => pI f .sumL (pI f .prod s).2
  | f + 1, .sumL, s => if s.bad = false ∧ s.isAt [wPlus, wMinus] then pI f .sumL ((pI f .prod s.next).2.put (if s.hd.2 = wMinus then 5 else 4) 0 []) else (0, s)
  | f + 1, .prod, s => pI f .prodL (pI f .sgn s).2
  | f + 1, .prodL, s => if s.bad = false ∧ s.isAt [wTimes, wOver] then pI f .prodL ((pI f .sgn s.next).2.put (if s.hd.2 = wOver then 7 else 6) 0 []) else (0, s)
  | f + 1, .sgn, s => if s.isAt [wMinus] then (0, (pI f .sgn s.next).2.put 3 0 []) else
      if (pI f .atom s).2.bad = true ∨ ¬ (pI f .atom s).2.isAt [wCaret] then (0, (pI f .atom s).2) else (0, (pI f .atom s).2.next.pow)
  | f + 1, .args, s => ((pI f (.argsL 0) (s.take wOpen)).1, (pI f (.argsL 0) (s.take wOpen)).2.take wClose)
  | f + 1, .argsL n, s => if s.bad = true then (n, s) else
      if (pI f .sum s).2.isAt [wComma] then pI f (.argsL (n + 1)) (pI f .sum s).2.next else (n + 1, (pI f .sum s).2)
  | f + 1, .atom, s => if s.isAt [wOpen] then (0, if (pI f .args s).1 ≠ 1 then (pI f .args s).2.fail else (pI f .args s).2) else
      if s.hd.1 = 2 then (0, s.next.put 1 0 s.hd.2) else
      if s.hd.1 ≠ 1 then (0, s.next.fail) else
      if s.hd.2 ∈ [wSqrt, wAbs, wMin, wMax] then (0, (if (pI f .args s.next).1 ≠ fnN s.hd.2 then (pI f .args s.next).2.fail else (pI f .args s.next).2).put (fnK s.hd.2) 0 []) else
      if ¬ (wordP s.hd.2 ∧ ¬ s.hd.2 ∈ ownW) then (0, s.next.fail) else
      if s.next.isAt [wOpen] then (0, { (pI f .args s.next).2 with many := (pI f .args s.next).2.many || decide (6 < (pI f .args s.next).1) }.put 13 (pI f .args s.next).1 s.hd.2) else
      (0, s.next.put 2 0 s.hd.2)
def rankM : Md → Nat
  | .sum => 6 | .sumL => 1 | .prod => 5 | .prodL => 1 | .sgn => 4 | .atom => 3 | .args => 2 | .argsL _ => 7
/-- Enough fuel. -/
def need (m : Md) (s : RS) : Nat := 8 * s.toks.length + rankM m
/-- Tokens are taken from the front; each node stands for a token that was taken; what is bad stays bad. -/
structure Shr (s r : RS) : Prop where
  suf : r.toks <:+ s.toks
  cnt : r.nodes.length + r.toks.length ≤ s.nodes.length + s.toks.length
  bad : s.bad = true → r.bad = true
  mon : s.nodes.length ≤ r.nodes.length
theorem Shr.refl (s : RS) : Shr s s := ⟨List.suffix_refl _, Nat.le_refl _, id, Nat.le_refl _⟩
theorem Shr.trans {a b c : RS} (h : Shr a b) (k : Shr b c) : Shr a c := ⟨k.suf.trans h.suf, Nat.le_trans k.cnt h.cnt, fun x => k.bad (h.bad x), Nat.le_trans h.mon k.mon⟩
theorem Shr.len {s r : RS} (h : Shr s r) : r.toks.length ≤ s.toks.length := h.suf.length_le
theorem shr_fail (s : RS) : Shr s s.fail := ⟨List.suffix_refl _, Nat.le_refl _, fun _ => rfl, Nat.le_refl _⟩
theorem shr_next (s : RS) : Shr s s.next := by
  obtain ⟨ts, ns, b, m⟩ := s
  cases ts with
  | nil => exact ⟨List.suffix_refl _, Nat.le_refl _, fun _ => rfl, Nat.le_refl _⟩
  | cons t r => exact ⟨List.suffix_cons _ _, by simp only [RS.next, List.length_cons]; omega, id, Nat.le_refl _⟩
theorem next_len {s : RS} (h : 0 < s.toks.length) : s.next.toks.length + 1 = s.toks.length ∧ s.next.nodes = s.nodes ∧ s.next.bad = s.bad ∧ s.next.many = s.many := by
  obtain ⟨ts, ns, b, m⟩ := s
  cases ts with
  | nil => simp at h
  | cons t r => exact ⟨rfl, rfl, rfl, rfl⟩
theorem shr_take (s : RS) (w : List UInt8) : Shr s (s.take w) := by
  unfold RS.take
  split
  · exact (shr_next s).trans (shr_fail _)
  · exact shr_next s
theorem put_cnt {s r : RS} (h : Shr s r) (hc : r.nodes.length + r.toks.length + 1 ≤ s.nodes.length + s.toks.length) (k n : Int) (t : List UInt8) : Shr s (r.put k n t) :=
  ⟨h.suf, by simp only [RS.put, List.length_append, List.length_singleton]; omega, h.bad, by have := h.mon; simp only [RS.put, List.length_append, List.length_singleton]; omega⟩
theorem shr_put_next {s r : RS} (hp : 0 < s.toks.length) (h : Shr s.next r) (k n : Int) (t : List UInt8) : Shr s (r.put k n t) := by
  obtain ⟨n1, n2, n3, n4⟩ := next_len hp
  refine put_cnt ((shr_next s).trans h) ?_ k n t
  have := h.cnt
  rw [n2] at this
  omega
theorem shr_pow (s : RS) : Shr s s.pow := by
  unfold RS.pow
  split
  · exact (shr_next s).trans (shr_fail _)
  · rename_i h
    refine shr_put_next ?_ (.refl _) _ _ _
    rcases Nat.eq_zero_or_pos s.toks.length with h0 | h0
    · refine absurd (.inl ?_) h
      simp [RS.hd, List.eq_nil_of_length_eq_zero h0]
    · exact h0
theorem hd_pos {s : RS} {k : Int} (h : s.hd.1 = k) (hk : k ≠ 0) : 0 < s.toks.length := by
  rcases Nat.eq_zero_or_pos s.toks.length with h0 | h0
  · exfalso
    simp [RS.hd, List.eq_nil_of_length_eq_zero h0] at h
    exact hk h.symm
  · exact h0
theorem pI_shr : ∀ (f : Nat) (m : Md) (s : RS), Shr s (pI f m s).2 := by
  intro f
  induction f with
  | zero => intro m s; exact .refl _
  | succ f ih =>
    intro m s
    cases m with
    | sum => exact (ih .prod s).trans (ih .sumL _)
    | prod => exact (ih .sgn s).trans (ih .prodL _)
    | sumL =>
      simp only [pI]
      split
      · rename_i h
        exact (shr_put_next h.2.1 (ih .prod s.next) _ _ _).trans (ih .sumL _)
      · exact .refl _
    | prodL =>
      simp only [pI]
      split
      · rename_i h
        exact (shr_put_next h.2.1 (ih .sgn s.next) _ _ _).trans (ih .prodL _)
      · exact .refl _
    | sgn =>
      simp only [pI]
      split
      · rename_i h
        exact shr_put_next h.1 (ih .sgn s.next) _ _ _
      · split
        · exact ih .atom s
        · exact ((ih .atom s).trans (shr_next _)).trans (shr_pow _)
    | args => exact ((shr_take s _).trans (ih (.argsL 0) _)).trans (shr_take _ _)
    | argsL n =>
      simp only [pI]
      split
      · exact .refl _
      · split
        · exact ((ih .sum s).trans (shr_next _)).trans (ih (.argsL (n + 1)) _)
        · exact ih .sum s
    | atom =>
      simp only [pI]
      split
      · split
        · exact (ih .args s).trans (shr_fail _)
        · exact ih .args s
      · split
        · rename_i h
          exact shr_put_next (hd_pos h (by omega)) (.refl _) _ _ _
        · split
          · exact (shr_next s).trans (shr_fail _)
          · rename_i h
            have hp : 0 < s.toks.length := hd_pos (k := 1) (by omega) (by omega)
            split
            · refine shr_put_next hp ?_ _ _ _
              split
              · exact (ih .args _).trans (shr_fail _)
              · exact ih .args _
            · split
              · exact (shr_next s).trans (shr_fail _)
              · split
                · refine shr_put_next hp ?_ _ _ _
                  have := ih .args s.next
                  exact ⟨this.suf, this.cnt, this.bad, this.mon⟩
                · exact shr_put_next hp (.refl _) _ _ _
theorem argsL_two : ∀ (f n : Nat) (s : RS), 2 ≤ n → (pI f (.argsL n) s).1 ≠ 1 := by
  intro f
  induction f with
  | zero => intro n s h; simp [pI]
  | succ f ih =>
    intro n s h
    simp only [pI]
    split
    · show n ≠ 1; omega
    · split
      · exact ih (n + 1) _ (by omega)
      · show n + 1 ≠ 1; omega
theorem argsL_one (f : Nat) (s : RS) (h : s.bad = false) : (pI f (.argsL 1) s).1 ≠ 1 := by
  cases f with
  | zero => simp [pI]
  | succ f =>
    simp only [pI]
    rw [if_neg (by rw [h]; simp)]
    split
    · exact argsL_two f 2 _ (by omega)
    · show 2 ≠ 1; omega
/-- What a token of a line is like. -/
def tokOk (t : Tk) : Prop := ((t.1 = 1 ∧ wordP t.2) ∨ (t.1 = 2 ∧ dB (t.2.getD 0 0) = true) ∨ t.1 = 3) ∧ t.2.length ≤ 1000
def toksOk (l : List Tk) : Prop := ∀ t, t ∈ l → tokOk t
theorem Shr.ok {s r : RS} (h : Shr s r) (k : toksOk s.toks) : toksOk r.toks := fun t ht => k t (h.suf.subset ht)
theorem Shr.good {s r : RS} (h : Shr s r) (k : r.bad = false) : s.bad = false := by
  cases hb : s.bad with
  | false => rfl
  | true => rw [h.bad hb] at k; cases k
/-- A bracket that is there is a token that is taken. -/
theorem take_len {s : RS} {w : List UInt8} (h : (s.take w).bad = false) : (s.take w).toks.length + 1 = s.toks.length := by
  have hp : 0 < s.toks.length := by
    rcases Nat.eq_zero_or_pos s.toks.length with h0 | h0
    · exfalso
      unfold RS.take at h
      rw [if_pos (.inl (by simp [RS.hd, List.eq_nil_of_length_eq_zero h0]))] at h
      cases h
    · exact h0
  unfold RS.take
  split
  · exact (next_len hp).1
  · exact (next_len hp).1
def Md.ne : Md → Bool
  | .sumL | .prodL => false
  | _ => true
/-- What is no error has laid down a node. -/
theorem pI_ne : ∀ (f : Nat) (m : Md) (s : RS), m.ne = true → s.bad = false → need m s ≤ f → (pI f m s).2.bad = false → 0 < (pI f m s).2.nodes.length := by
  intro f
  induction f with
  | zero =>
    intro m s _ _ hn _
    exfalso
    cases m <;> simp only [need, rankM] at hn <;> omega
  | succ f ih =>
    intro m s hm hs hn hb
    have put : ∀ (r : RS) (k n : Int) (t : List UInt8), 0 < (r.put k n t).nodes.length := fun r k n t => by simp [RS.put]
    cases m with
    | sumL => cases hm
    | prodL => cases hm
    | sum =>
      have sh := pI_shr f .sumL (pI f .prod s).2
      exact Nat.lt_of_lt_of_le (ih .prod s rfl hs (by simp only [need, rankM] at *; omega) (sh.good hb)) sh.mon
    | prod =>
      have sh := pI_shr f .prodL (pI f .sgn s).2
      exact Nat.lt_of_lt_of_le (ih .sgn s rfl hs (by simp only [need, rankM] at *; omega) (sh.good hb)) sh.mon
    | sgn =>
      have ha := ih .atom s rfl hs (by simp only [need, rankM] at *; omega)
      simp only [pI] at hb ⊢
      split
      · exact put _ _ _ _
      · rename_i h1
        rw [if_neg h1] at hb
        split
        · rename_i h2
          rw [if_pos h2] at hb
          exact ha hb
        · rename_i h2
          rw [if_neg h2] at hb
          have sh := (shr_next (pI f .atom s).2).trans (shr_pow _)
          exact Nat.lt_of_lt_of_le (ha (sh.good hb)) sh.mon
    | args =>
      have s1 := shr_take (pI f (.argsL 0) (s.take wOpen)).2 wClose
      have s2 := pI_shr f (.argsL 0) (s.take wOpen)
      simp only [pI] at hb ⊢
      have b1 := s1.good hb
      have b2 := s2.good b1
      have hl := take_len b2
      exact Nat.lt_of_lt_of_le (ih (.argsL 0) _ rfl b2 (by simp only [need, rankM] at *; omega) b1) s1.mon
    | argsL n =>
      have ha := ih .sum s rfl hs (by simp only [need, rankM] at *; omega)
      simp only [pI] at hb ⊢
      rw [if_neg (by rw [hs]; simp)] at hb ⊢
      split
      · rename_i h2
        rw [if_pos h2] at hb
        have sh := (shr_next (pI f .sum s).2).trans (pI_shr f (.argsL (n + 1)) _)
        exact Nat.lt_of_lt_of_le (ha (sh.good hb)) sh.mon
      · rename_i h2
        rw [if_neg h2] at hb
        exact ha hb
    | atom =>
      have ha := ih .args s rfl hs (by simp only [need, rankM] at *; omega)
      simp only [pI] at hb ⊢
      split
      · rename_i h1
        rw [if_pos h1] at hb
        split
        · rename_i h2
          rw [if_pos h2] at hb
          cases hb
        · rename_i h2
          rw [if_neg h2] at hb
          exact ha hb
      · rename_i h1
        rw [if_neg h1] at hb
        split
        · exact put _ _ _ _
        · rename_i h2
          rw [if_neg h2] at hb
          split
          · rename_i h3
            rw [if_pos h3] at hb
            cases hb
          · rename_i h3
            rw [if_neg h3] at hb
            split
            · exact put _ _ _ _
            · rename_i h4
              rw [if_neg h4] at hb
              split
              · rename_i h5
                rw [if_pos h5] at hb
                cases hb
              · split
                · exact put _ _ _ _
                · exact put _ _ _ _
end Pf
/- The reader of terms, impl: its small parts -/
namespace Pf
open Go Go.Proofs
theorem AFun.arg2 {P : Program} {f : FuncId} {args args' : List AV} {Hs : AHeap} {Q : AV → AHeap → Prop} (h : AFun P f args Hs Q) (hs : Subs args' args) : AFun P f args' Hs Q :=
  ⟨h.1, fun FM β cs w cargs hv hh => h.2 FM β cs w cargs ⟨by rw [hs.len]; exact hv.1, fun i hi => hs.get i (by rw [← hs.len]; exact hi) hi _ _ _ (hv.2 i _)⟩ hh⟩
/-- The rows of a block of what is handed back are said otherwise. -/
theorem AFun.tab {P : Program} {f : FuncId} {args : List AV} {Hs : AHeap} {Q : AV → AHeap → Prop} (b : Nat)
    (h : AFun P f args Hs fun u H => ∃ (g n : Nat) (row row2 : Nat → List AV) (H2 : AHeap), nthM H b = some (.tab g n row) ∧ setM (.tab g n row2) H b = some H2 ∧ (row2 0).length = (row 0).length ∧ (∀ i, i < n → row2 i = row i) ∧ Q u H2) : AFun P f args Hs Q := by
  refine ⟨h.1, fun FM β cs w cargs hv hh => ?_⟩
  obtain ⟨v, w', fr, av, FM1, β1, H1, ⟨g, n, row, row2, H2, e1, e2, hwd, hr, hq⟩, h1, hH, h3, h4, h5, h6⟩ := h.2 FM β cs w cargs hv hh
  exact ⟨v, w', fr, av, FM1, β1, H2, hq, h1, hH.tbc e1 e2 hwd (Nat.le_refl _) hr (.inl rfl), h3.trans (Ext.tbc e1 e2), h4, h5, h6⟩
theorem nodeR_app (N : List Nd) (x : Nd) (j : Nat) (hj : j < N.length + 1) : mrgL (j < N.length) (nodeR N j) [.int .i64 x.1, .int .i64 x.2.1, .str x.2.2] = nodeR (N ++ [x]) j := by
  unfold nodeR
  by_cases h : j < N.length
  · have e : (N ++ [x]).getD j (0, 0, []) = N.getD j (0, 0, []) := by rw [List.getD_eq_getElem?_getD, List.getElem?_append_left h, ← List.getD_eq_getElem?_getD]
    rw [e]
    simp [mrgL, mrg, h]
  · have hj : j = N.length := by omega
    subst hj
    have e : (N ++ [x]).getD N.length (0, 0, []) = x := by simp [List.getD_eq_getElem?_getD]
    rw [e]
    simp [mrgL, mrg]
theorem addN0 (k : Nat) : addN 0 k = k := by cases k <;> rfl
/-- A reader in memory: itself, its nodes. -/
def LayI (s : RS) (g : Nat) : AHeap := [.lst 0 [[.fz s.toks.length (tkR s.toks), .sl 1 g 0 s.nodes.length, .bool s.bad, .bool s.many]], .tab g s.nodes.length (nodeR s.nodes)]
theorem rNext_ok (s : RS) (g : Nat) : AFun Tryz.prog 110 [.ptr 0 0 0 0] (LayI s g) (fun u H => u = tkV s.hd ∧ H = LayI s.next g) := by
  obtain ⟨ts, ns, b, m⟩ := s
  refine AFun.trim 2 ?_ (by simp [LayI])
  refine afun_of Tryz.func110 Tryz.call110 rfl Tryz.ntmps110 rfl ?_
  have W : Walk Tryz.prog TT 110 _ := Walk.of TT_ok Tryz.func110 Tryz.results110
  refine sp W 0 rfl rfl rfl (fun z1 => ?_) (fun z1 => ?_)
  · have : ts = [] := List.eq_nil_of_length_eq_zero (by dsimp only at z1; omega)
    subst this
    refine go_retS W 0 300 2 rfl (by first | exact True.intro | (simp only [AllC, AllP, addN, Int.toNat_natCast, true_and, and_true, Option.getD, List.length_set, wrapU, pw1, pw7, pw8, pw16, pw23, pw32, pw52, Holds] <;> first | omega | ((repeat' apply And.intro) <;> first | omega | (intros; rfl))) | (simp [AllC, AllP, addN, cloL, clo, mrgL, mrg, wrapU, Holds] <;> omega)) rfl (by first | exact True.intro | (simp only [AllC, AllP, addN, Int.toNat_natCast, true_and, and_true, Option.getD, List.length_set, wrapU, pw1, pw7, pw8, pw16, pw23, pw32, pw52, Holds] <;> first | omega | ((repeat' apply And.intro) <;> first | omega | (intros; rfl))) | (simp [AllC, AllP, addN, cloL, clo, mrgL, mrg, wrapU, Holds] <;> omega)) (tkV k0) .refl rfl ⟨rfl, rfl⟩
  · obtain ⟨t, r, rfl⟩ : ∃ t r, ts = t :: r := by cases ts with
      | nil => exact absurd rfl z1
      | cons t r => exact ⟨t, r, rfl⟩
    refine go_retS W 0 300 2 rfl (by simp only [AllC, List.length_cons, true_and, and_true]; omega) rfl (by first | exact True.intro | (simp only [AllC, AllP, addN, Int.toNat_natCast, true_and, and_true, Option.getD, List.length_set, wrapU, pw1, pw7, pw8, pw16, pw23, pw32, pw52, Holds] <;> first | omega | ((repeat' apply And.intro) <;> first | omega | (intros; rfl))) | (simp [AllC, AllP, addN, cloL, clo, mrgL, mrg, wrapU, Holds] <;> omega)) (tkV t) .refl rfl ⟨rfl, rfl⟩
theorem rTake_ok (s : RS) (g : Nat) (w : List UInt8) : AFun Tryz.prog 163 [.ptr 0 0 0 0, .str w] (LayI s g) (fun u H => u = .tup [] ∧ H = LayI (s.take w) g) := by
  have c := rNext_ok s g
  refine AFun.trim 2 ?_ (by simp [LayI])
  refine afun_of Tryz.func163 Tryz.call163 rfl Tryz.ntmps163 rfl ?_
  have W : Walk Tryz.prog TT 163 _ := Walk.of TT_ok Tryz.func163 Tryz.results163
  refine go_callS W 0 300 [0, 1] rfl (by first | exact True.intro | (simp only [AllC, AllP, addN, Int.toNat_natCast, true_and, and_true, Option.getD, List.length_set, wrapU, pw1, pw7, pw8, pw16, pw23, pw32, pw52, Holds] <;> first | omega | ((repeat' apply And.intro) <;> first | omega | (intros; rfl))) | (simp [AllC, AllP, addN, cloL, clo, mrgL, mrg, wrapU, Holds] <;> omega)) c rfl rfl ⟨rfl, fun _ _ => rfl, trivial⟩ ⟨rfl, rfl, trivial⟩ rfl ?_
  rintro _ _ ⟨rfl, rfl⟩
  refine ⟨_, _, rfl, rfl, ?_⟩
  refine sp W 0 rfl rfl rfl (fun z1 => ?_) (fun z1 => ?_)
  · have e : s.take w = s.next.fail := by unfold RS.take; rw [if_pos (.inl z1)]
    rw [e]
    refine go_retS W 0 300 2 rfl (by first | exact True.intro | (simp only [AllC, AllP, addN, Int.toNat_natCast, true_and, and_true, Option.getD, List.length_set, wrapU, pw1, pw7, pw8, pw16, pw23, pw32, pw52, Holds] <;> first | omega | ((repeat' apply And.intro) <;> first | omega | (intros; rfl))) | (simp [AllC, AllP, addN, cloL, clo, mrgL, mrg, wrapU, Holds] <;> omega)) rfl (by first | exact True.intro | (simp only [AllC, AllP, addN, Int.toNat_natCast, true_and, and_true, Option.getD, List.length_set, wrapU, pw1, pw7, pw8, pw16, pw23, pw32, pw52, Holds] <;> first | omega | ((repeat' apply And.intro) <;> first | omega | (intros; rfl))) | (simp [AllC, AllP, addN, cloL, clo, mrgL, mrg, wrapU, Holds] <;> omega)) (.tup []) .refl rfl ⟨rfl, rfl⟩
  refine sp W 0 rfl rfl rfl (fun z2 => ?_) (fun z2 => ?_)
  · have e : s.take w = s.next.fail := by unfold RS.take; rw [if_pos (.inr z2)]
    rw [e]
    refine go_retS W 0 300 2 rfl (by first | exact True.intro | (simp only [AllC, AllP, addN, Int.toNat_natCast, true_and, and_true, Option.getD, List.length_set, wrapU, pw1, pw7, pw8, pw16, pw23, pw32, pw52, Holds] <;> first | omega | ((repeat' apply And.intro) <;> first | omega | (intros; rfl))) | (simp [AllC, AllP, addN, cloL, clo, mrgL, mrg, wrapU, Holds] <;> omega)) rfl (by first | exact True.intro | (simp only [AllC, AllP, addN, Int.toNat_natCast, true_and, and_true, Option.getD, List.length_set, wrapU, pw1, pw7, pw8, pw16, pw23, pw32, pw52, Holds] <;> first | omega | ((repeat' apply And.intro) <;> first | omega | (intros; rfl))) | (simp [AllC, AllP, addN, cloL, clo, mrgL, mrg, wrapU, Holds] <;> omega)) (.tup []) .refl rfl ⟨rfl, rfl⟩
  · have e : s.take w = s.next := by unfold RS.take; rw [if_neg (fun k => k.elim z1 z2)]
    rw [e]
    refine go_retS W 0 300 2 rfl (by first | exact True.intro | (simp only [AllC, AllP, addN, Int.toNat_natCast, true_and, and_true, Option.getD, List.length_set, wrapU, pw1, pw7, pw8, pw16, pw23, pw32, pw52, Holds] <;> first | omega | ((repeat' apply And.intro) <;> first | omega | (intros; rfl))) | (simp [AllC, AllP, addN, cloL, clo, mrgL, mrg, wrapU, Holds] <;> omega)) rfl (by first | exact True.intro | (simp only [AllC, AllP, addN, Int.toNat_natCast, true_and, and_true, Option.getD, List.length_set, wrapU, pw1, pw7, pw8, pw16, pw23, pw32, pw52, Holds] <;> first | omega | ((repeat' apply And.intro) <;> first | omega | (intros; rfl))) | (simp [AllC, AllP, addN, cloL, clo, mrgL, mrg, wrapU, Holds] <;> omega)) (.tup []) .refl rfl ⟨rfl, rfl⟩
theorem rPut_ok (s : RS) (g : Nat) (k n : Int) (t : List UInt8) (hn : s.nodes.length ≤ 1000000) : AFun Tryz.prog 111 [.ptr 0 0 0 0, .int .i64 k, .int .i64 n, .str t] (LayI s g) (fun u H => u = .tup [] ∧ ∃ g', H = LayI (s.put k n t) g') := by
  refine AFun.tab 1 ?_
  refine AFun.trim 2 ?_ (by simp [LayI])
  refine afun_of Tryz.func111 Tryz.call111 rfl Tryz.ntmps111 rfl ?_
  have W : Walk Tryz.prog TT 111 _ := Walk.of TT_ok Tryz.func111 Tryz.results111
  refine go_retS W 0 300 2 rfl (by simp only [AllC, Nat.zero_add, true_and, and_true]; exact ⟨Nat.le_refl _, by omega, fun i => rfl⟩) rfl (by first | exact True.intro | (simp only [AllC, AllP, addN, Int.toNat_natCast, true_and, and_true, Option.getD, List.length_set, wrapU, pw1, pw7, pw8, pw16, pw23, pw32, pw52, Holds] <;> first | omega | ((repeat' apply And.intro) <;> first | omega | (intros; rfl))) | (simp [AllC, AllP, addN, cloL, clo, mrgL, mrg, wrapU, Holds] <;> omega)) (.tup []) .refl rfl ⟨_, _, _, nodeR (s.put k n t).nodes, _, rfl, rfl, rfl, fun i hi => ?_, rfl, g + 1, ?_⟩
  · rw [addN0] at hi ⊢
    exact (nodeR_app s.nodes (k, n, t) i hi).symm
  · unfold LayI RS.put
    rw [addN0, List.length_append]
    rfl
theorem one_row (w : List UInt8) : ∀ (i : Nat), i < 1 → [[AV.str w]].getD i [] = [AV.str ([w].getD i [])]
  | 0, _ => rfl
  | i + 1, h => by omega
theorem two_row (w z : List UInt8) : ∀ (i : Nat), i < 2 → [[AV.str w], [AV.str z]].getD i [] = [AV.str ([w, z].getD i [])]
  | 0, _ => rfl
  | 1, _ => rfl
  | i + 2, h => by omega
theorem rAt1_ok (s : RS) (g : Nat) (w : List UInt8) : AFun Tryz.prog 109 [.ptr 0 0 0 0, .sl 2 0 0 1] (LayI s g ++ [.lst 0 [[.str w]]]) (fun u H => u = .pr (s.isAt [w]) ∧ H = LayI s g ++ [.lst 0 [[.str w]]]) := by
  have c : AFunP Tryz.prog 86 [.fz 1 fun i => [[AV.str w]].getD i [], .str s.hd.2] (· = .pr (s.hd.2 ∈ [w])) := AFun.arg2 (indexStr_ok [w] s.hd.2 (by simp)) ⟨.fz fun i hi => one_row w i hi, .refl, trivial⟩
  refine AFun.trim 3 ?_ (by simp [LayI])
  refine afun_of Tryz.func109 Tryz.call109 rfl Tryz.ntmps109 rfl ?_
  have W : Walk Tryz.prog TT 109 _ := Walk.of TT_ok Tryz.func109 Tryz.results109
  refine sp W 0 rfl rfl rfl (fun z1 => ?_) (fun z1 => ?_)
  · refine sp W 0 rfl rfl rfl (fun z2 => ?_) (fun z2 => ?_) (hc := by simp only [AllC, Int.toNat_zero, true_and, and_true]; omega)
    · refine cb W 0 rfl rfl rfl rfl (c) rfl ?_
      refine go_retS W 0 300 3 rfl (by first | exact True.intro | (simp only [AllC, AllP, addN, Int.toNat_natCast, true_and, and_true, Option.getD, List.length_set, wrapU, pw1, pw7, pw8, pw16, pw23, pw32, pw52, Holds] <;> first | omega | ((repeat' apply And.intro) <;> first | omega | (intros; rfl))) | (simp [AllC, AllP, addN, cloL, clo, mrgL, mrg, wrapU, Holds] <;> omega)) rfl (by first | exact True.intro | (simp only [AllC, AllP, addN, Int.toNat_natCast, true_and, and_true, Option.getD, List.length_set, wrapU, pw1, pw7, pw8, pw16, pw23, pw32, pw52, Holds] <;> first | omega | ((repeat' apply And.intro) <;> first | omega | (intros; rfl))) | (simp [AllC, AllP, addN, cloL, clo, mrgL, mrg, wrapU, Holds] <;> omega)) (.pr (s.isAt [w])) (.pr ⟨fun k => ⟨by omega, z2, k⟩, fun k => k.2.2⟩) rfl ⟨rfl, rfl⟩
    · refine go_retS W 0 300 3 rfl (by first | exact True.intro | (simp only [AllC, AllP, addN, Int.toNat_natCast, true_and, and_true, Option.getD, List.length_set, wrapU, pw1, pw7, pw8, pw16, pw23, pw32, pw52, Holds] <;> first | omega | ((repeat' apply And.intro) <;> first | omega | (intros; rfl))) | (simp [AllC, AllP, addN, cloL, clo, mrgL, mrg, wrapU, Holds] <;> omega)) rfl (by first | exact True.intro | (simp only [AllC, AllP, addN, Int.toNat_natCast, true_and, and_true, Option.getD, List.length_set, wrapU, pw1, pw7, pw8, pw16, pw23, pw32, pw52, Holds] <;> first | omega | ((repeat' apply And.intro) <;> first | omega | (intros; rfl))) | (simp [AllC, AllP, addN, cloL, clo, mrgL, mrg, wrapU, Holds] <;> omega)) (.pr (s.isAt [w])) (.no fun k => z2 k.2.1) rfl ⟨rfl, rfl⟩
  · refine go_retS W 0 300 3 rfl (by first | exact True.intro | (simp only [AllC, AllP, addN, Int.toNat_natCast, true_and, and_true, Option.getD, List.length_set, wrapU, pw1, pw7, pw8, pw16, pw23, pw32, pw52, Holds] <;> first | omega | ((repeat' apply And.intro) <;> first | omega | (intros; rfl))) | (simp [AllC, AllP, addN, cloL, clo, mrgL, mrg, wrapU, Holds] <;> omega)) rfl (by first | exact True.intro | (simp only [AllC, AllP, addN, Int.toNat_natCast, true_and, and_true, Option.getD, List.length_set, wrapU, pw1, pw7, pw8, pw16, pw23, pw32, pw52, Holds] <;> first | omega | ((repeat' apply And.intro) <;> first | omega | (intros; rfl))) | (simp [AllC, AllP, addN, cloL, clo, mrgL, mrg, wrapU, Holds] <;> omega)) (.pr (s.isAt [w])) (.no fun k => z1 (by have := k.1; omega)) rfl ⟨rfl, rfl⟩
theorem rAt2_ok (s : RS) (g : Nat) (w z : List UInt8) : AFun Tryz.prog 109 [.ptr 0 0 0 0, .sl 2 0 0 2] (LayI s g ++ [.lst 0 [[.str w], [.str z]]]) (fun u H => u = .pr (s.isAt [w, z]) ∧ H = LayI s g ++ [.lst 0 [[.str w], [.str z]]]) := by
  have c : AFunP Tryz.prog 86 [.fz 2 fun i => [[AV.str w], [AV.str z]].getD i [], .str s.hd.2] (· = .pr (s.hd.2 ∈ [w, z])) := AFun.arg2 (indexStr_ok [w, z] s.hd.2 (by simp)) ⟨.fz fun i hi => two_row w z i hi, .refl, trivial⟩
  refine AFun.trim 3 ?_ (by simp [LayI])
  refine afun_of Tryz.func109 Tryz.call109 rfl Tryz.ntmps109 rfl ?_
  have W : Walk Tryz.prog TT 109 _ := Walk.of TT_ok Tryz.func109 Tryz.results109
  refine sp W 0 rfl rfl rfl (fun z1 => ?_) (fun z1 => ?_)
  · refine sp W 0 rfl rfl rfl (fun z2 => ?_) (fun z2 => ?_) (hc := by simp only [AllC, Int.toNat_zero, true_and, and_true]; omega)
    · refine cb W 0 rfl rfl rfl rfl (c) rfl ?_
      refine go_retS W 0 300 3 rfl (by first | exact True.intro | (simp only [AllC, AllP, addN, Int.toNat_natCast, true_and, and_true, Option.getD, List.length_set, wrapU, pw1, pw7, pw8, pw16, pw23, pw32, pw52, Holds] <;> first | omega | ((repeat' apply And.intro) <;> first | omega | (intros; rfl))) | (simp [AllC, AllP, addN, cloL, clo, mrgL, mrg, wrapU, Holds] <;> omega)) rfl (by first | exact True.intro | (simp only [AllC, AllP, addN, Int.toNat_natCast, true_and, and_true, Option.getD, List.length_set, wrapU, pw1, pw7, pw8, pw16, pw23, pw32, pw52, Holds] <;> first | omega | ((repeat' apply And.intro) <;> first | omega | (intros; rfl))) | (simp [AllC, AllP, addN, cloL, clo, mrgL, mrg, wrapU, Holds] <;> omega)) (.pr (s.isAt [w, z])) (.pr ⟨fun k => ⟨by omega, z2, k⟩, fun k => k.2.2⟩) rfl ⟨rfl, rfl⟩
    · refine go_retS W 0 300 3 rfl (by first | exact True.intro | (simp only [AllC, AllP, addN, Int.toNat_natCast, true_and, and_true, Option.getD, List.length_set, wrapU, pw1, pw7, pw8, pw16, pw23, pw32, pw52, Holds] <;> first | omega | ((repeat' apply And.intro) <;> first | omega | (intros; rfl))) | (simp [AllC, AllP, addN, cloL, clo, mrgL, mrg, wrapU, Holds] <;> omega)) rfl (by first | exact True.intro | (simp only [AllC, AllP, addN, Int.toNat_natCast, true_and, and_true, Option.getD, List.length_set, wrapU, pw1, pw7, pw8, pw16, pw23, pw32, pw52, Holds] <;> first | omega | ((repeat' apply And.intro) <;> first | omega | (intros; rfl))) | (simp [AllC, AllP, addN, cloL, clo, mrgL, mrg, wrapU, Holds] <;> omega)) (.pr (s.isAt [w, z])) (.no fun k => z2 k.2.1) rfl ⟨rfl, rfl⟩
  · refine go_retS W 0 300 3 rfl (by first | exact True.intro | (simp only [AllC, AllP, addN, Int.toNat_natCast, true_and, and_true, Option.getD, List.length_set, wrapU, pw1, pw7, pw8, pw16, pw23, pw32, pw52, Holds] <;> first | omega | ((repeat' apply And.intro) <;> first | omega | (intros; rfl))) | (simp [AllC, AllP, addN, cloL, clo, mrgL, mrg, wrapU, Holds] <;> omega)) rfl (by first | exact True.intro | (simp only [AllC, AllP, addN, Int.toNat_natCast, true_and, and_true, Option.getD, List.length_set, wrapU, pw1, pw7, pw8, pw16, pw23, pw32, pw52, Holds] <;> first | omega | ((repeat' apply And.intro) <;> first | omega | (intros; rfl))) | (simp [AllC, AllP, addN, cloL, clo, mrgL, mrg, wrapU, Holds] <;> omega)) (.pr (s.isAt [w, z])) (.no fun k => z1 (by have := k.1; omega)) rfl ⟨rfl, rfl⟩
end Pf
/- The reader of terms, impl: sums, products, signs, arguments -/
namespace Pf
open Go Go.Proofs
/-- What a reader must be like. -/
def RsOk (s : RS) : Prop := toksOk s.toks ∧ s.nodes.length + s.toks.length ≤ 1000
theorem RsOk.shr {s r : RS} (h : RsOk s) (k : Shr s r) : RsOk r := ⟨k.ok h.1, by have := k.cnt; have := h.2; omega⟩
def RdI (s : RS) (u0 u : AV) (H : AHeap) : Prop := u = u0 ∧ ∃ g', H = LayI s g'
/-- What each of impl's functions does. -/
def CI (f : Nat) (m : Md) (s : RS) (g : Nat) : Prop := match m with
  | .sum => AFun Tryz.prog 72 [.ptr 0 0 0 0] (LayI s g) (RdI (pI f .sum s).2 (.tup []))
  | .prod => AFun Tryz.prog 108 [.ptr 0 0 0 0] (LayI s g) (RdI (pI f .prod s).2 (.tup []))
  | .sgn => AFun Tryz.prog 126 [.ptr 0 0 0 0] (LayI s g) (RdI (pI f .sgn s).2 (.tup []))
  | .atom => AFun Tryz.prog 140 [.ptr 0 0 0 0] (LayI s g) (RdI (pI f .atom s).2 (.tup []))
  | .args => AFun Tryz.prog 152 [.ptr 0 0 0 0] (LayI s g) (RdI (pI f .args s).2 (.int .i64 (pI f .args s).1))
  | _ => True
/-- .. with no more fuel than f. -/
def AllI (f : Nat) : Prop := ∀ k, k ≤ f → ∀ (m : Md) (s : RS) (g : Nat), RsOk s → need m s ≤ k → CI k m s g
theorem iSum (f : Nat) (ih : AllI f) (s : RS) (g : Nat) (hs : RsOk s) (hf : need .sum s ≤ f + 1) : CI (f + 1) .sum s g := by
  unfold CI
  refine AFun.trim 2 ?_ (by simp [LayI])
  refine afun_of Tryz.func72 Tryz.call72 rfl Tryz.ntmps72 rfl ?_
  have W : Walk Tryz.prog TT 72 _ := Walk.of TT_ok Tryz.func72 Tryz.results72
  have c1 := ih f (Nat.le_refl _) .prod s g hs (by simp only [need, rankM] at *; omega)
  unfold CI at c1
  refine go_callS W 0 300 [0, 1] rfl (by first | exact True.intro | (simp only [AllC, AllP, addN, Int.toNat_natCast, true_and, and_true, Option.getD, List.length_set, wrapU, pw1, pw7, pw8, pw16, pw23, pw32, pw52, Holds] <;> first | omega | ((repeat' apply And.intro) <;> first | omega | (intros; rfl))) | (simp [AllC, AllP, addN, cloL, clo, mrgL, mrg, wrapU, Holds] <;> omega)) c1 rfl rfl ⟨rfl, fun _ _ => rfl, trivial⟩ ⟨rfl, rfl, trivial⟩ rfl ?_
  rintro _ _ ⟨rfl, g1, rfl⟩
  refine ⟨_, _, rfl, rfl, ?_⟩
  refine lp W 0 (σ := Nat × RS × Nat) (fun t => [(0, .ptr 0 0 0 0)]) (fun t => LayI t.2.1 t.2.2) (fun t => t.2.1.toks.length) (fun t => (t.1 ≤ f ∧ need .sumL t.2.1 ≤ t.1 ∧ RsOk t.2.1) ∧ pI (f + 1) .sum s = pI t.1 .sumL t.2.1) (f, (pI f .prod s).2, g1) [0] rfl rfl rfl ⟨⟨Nat.le_refl _, by have := (pI_shr f .prod s).len; simp only [need, rankM] at *; omega, hs.shr (pI_shr f .prod s)⟩, rfl⟩ ?_
  rintro ⟨k, t, g2⟩ ⟨⟨hk, hn, ht⟩, he⟩ ih2
  dsimp only at hk hn ht he ih2 ⊢
  obtain ⟨k, rfl⟩ : ∃ k', k = k' + 1 := ⟨k - 1, by simp only [need, rankM] at hn; omega⟩
  obtain ⟨ts, ns, b, mn⟩ := t
  rcases b with _ | _
  · refine go_callS W 0 300 [0, 1, 2] rfl (by first | exact True.intro | (simp only [AllC, AllP, addN, Int.toNat_natCast, true_and, and_true, Option.getD, List.length_set, wrapU, pw1, pw7, pw8, pw16, pw23, pw32, pw52, Holds] <;> first | omega | ((repeat' apply And.intro) <;> first | omega | (intros; rfl))) | (simp [AllC, AllP, addN, cloL, clo, mrgL, mrg, wrapU, Holds] <;> omega)) (rAt2_ok ⟨ts, ns, false, mn⟩ g2 wPlus wMinus) rfl rfl ⟨rfl, fun _ _ => rfl, rfl, trivial⟩ ⟨rfl, rfl, rfl, trivial⟩ rfl ?_
    rintro _ _ ⟨rfl, rfl⟩
    refine ⟨_, _, rfl, rfl, ?_⟩
    refine sp W 0 rfl rfl rfl (fun z1 => ?_) (fun z1 => ?_)
    · refine go_callS W 0 300 [0, 1] rfl (by first | exact True.intro | (simp only [AllC, AllP, addN, Int.toNat_natCast, true_and, and_true, Option.getD, List.length_set, wrapU, pw1, pw7, pw8, pw16, pw23, pw32, pw52, Holds] <;> first | omega | ((repeat' apply And.intro) <;> first | omega | (intros; rfl))) | (simp [AllC, AllP, addN, cloL, clo, mrgL, mrg, wrapU, Holds] <;> omega)) (rNext_ok ⟨ts, ns, false, mn⟩ g2) rfl rfl ⟨rfl, fun _ _ => rfl, trivial⟩ ⟨rfl, rfl, trivial⟩ rfl ?_
      rintro _ _ ⟨rfl, rfl⟩
      refine ⟨_, _, rfl, rfl, ?_⟩
      have nl := next_len z1.1
      have sh := pI_shr k .prod (RS.next ⟨ts, ns, false, mn⟩)
      have c2 := ih k (by omega) .prod (RS.next ⟨ts, ns, false, mn⟩) g2 (ht.shr (shr_next _)) (by simp only [need, rankM] at *; omega)
      unfold CI at c2
      have hl := sh.len
      have hc := sh.cnt
      have hg := ht.2
      have hnx := ht.shr ((shr_put_next z1.1 sh (if (RS.hd ⟨ts, ns, false, mn⟩).2 = wMinus then 5 else 4) 0 []))
      have e : pI (k + 1) .sumL ⟨ts, ns, false, mn⟩ = pI k .sumL ((pI k .prod (RS.next ⟨ts, ns, false, mn⟩)).2.put (if (RS.hd ⟨ts, ns, false, mn⟩).2 = wMinus then 5 else 4) 0 []) := by
        rw [pI, if_pos ⟨rfl, z1⟩]
      rw [nl.2.1] at hc
      generalize (pI k .prod (RS.next ⟨ts, ns, false, mn⟩)).2 = q at *
      refine sp W 0 rfl rfl rfl (fun z2 => ?_) (fun z2 => ?_)
      · rw [if_pos z2] at e hnx
        refine go_callS W 0 300 [0, 1] rfl (by first | exact True.intro | (simp only [AllC, AllP, addN, Int.toNat_natCast, true_and, and_true, Option.getD, List.length_set, wrapU, pw1, pw7, pw8, pw16, pw23, pw32, pw52, Holds] <;> first | omega | ((repeat' apply And.intro) <;> first | omega | (intros; rfl))) | (simp [AllC, AllP, addN, cloL, clo, mrgL, mrg, wrapU, Holds] <;> omega)) c2 rfl rfl ⟨rfl, fun _ _ => rfl, trivial⟩ ⟨rfl, rfl, trivial⟩ rfl ?_
        rintro _ _ ⟨rfl, g3, rfl⟩
        refine ⟨_, _, rfl, rfl, ?_⟩
        refine go_callS W 0 300 [0, 1] rfl (by first | exact True.intro | (simp only [AllC, AllP, addN, Int.toNat_natCast, true_and, and_true, Option.getD, List.length_set, wrapU, pw1, pw7, pw8, pw16, pw23, pw32, pw52, Holds] <;> first | omega | ((repeat' apply And.intro) <;> first | omega | (intros; rfl))) | (simp [AllC, AllP, addN, cloL, clo, mrgL, mrg, wrapU, Holds] <;> omega)) (rPut_ok q g3 5 0 [] (by dsimp only at *; omega)) rfl rfl ⟨rfl, fun _ _ => rfl, trivial⟩ ⟨rfl, rfl, trivial⟩ rfl ?_
        rintro _ _ ⟨rfl, g4, rfl⟩
        refine ⟨_, _, rfl, rfl, ?_⟩
        have nx := ih2 (k, q.put 5 0 [], g4) ⟨⟨by dsimp only; omega, by simp only [need, rankM, RS.put] at *; omega, hnx⟩, he.trans e⟩ (by simp only [RS.put] at *; omega)
        dsimp only [LayI] at nx
        refine bd W 0 2 [0] rfl rfl rfl rfl rfl (nx)
      · rw [if_neg z2] at e hnx
        refine go_callS W 0 300 [0, 1] rfl (by first | exact True.intro | (simp only [AllC, AllP, addN, Int.toNat_natCast, true_and, and_true, Option.getD, List.length_set, wrapU, pw1, pw7, pw8, pw16, pw23, pw32, pw52, Holds] <;> first | omega | ((repeat' apply And.intro) <;> first | omega | (intros; rfl))) | (simp [AllC, AllP, addN, cloL, clo, mrgL, mrg, wrapU, Holds] <;> omega)) c2 rfl rfl ⟨rfl, fun _ _ => rfl, trivial⟩ ⟨rfl, rfl, trivial⟩ rfl ?_
        rintro _ _ ⟨rfl, g3, rfl⟩
        refine ⟨_, _, rfl, rfl, ?_⟩
        refine go_callS W 0 300 [0, 1] rfl (by first | exact True.intro | (simp only [AllC, AllP, addN, Int.toNat_natCast, true_and, and_true, Option.getD, List.length_set, wrapU, pw1, pw7, pw8, pw16, pw23, pw32, pw52, Holds] <;> first | omega | ((repeat' apply And.intro) <;> first | omega | (intros; rfl))) | (simp [AllC, AllP, addN, cloL, clo, mrgL, mrg, wrapU, Holds] <;> omega)) (rPut_ok q g3 4 0 [] (by dsimp only at *; omega)) rfl rfl ⟨rfl, fun _ _ => rfl, trivial⟩ ⟨rfl, rfl, trivial⟩ rfl ?_
        rintro _ _ ⟨rfl, g4, rfl⟩
        refine ⟨_, _, rfl, rfl, ?_⟩
        have nx := ih2 (k, q.put 4 0 [], g4) ⟨⟨by dsimp only; omega, by simp only [need, rankM, RS.put] at *; omega, hnx⟩, he.trans e⟩ (by simp only [RS.put] at *; omega)
        dsimp only [LayI] at nx
        refine bd W 0 2 [0] rfl rfl rfl rfl rfl (nx)
    · have e : pI (k + 1) .sumL ⟨ts, ns, false, mn⟩ = (0, ⟨ts, ns, false, mn⟩) := by rw [pI, if_neg (fun k => z1 k.2)]
      rw [he, e]
      refine go_retS W 0 300 2 rfl (by first | exact True.intro | (simp only [AllC, AllP, addN, Int.toNat_natCast, true_and, and_true, Option.getD, List.length_set, wrapU, pw1, pw7, pw8, pw16, pw23, pw32, pw52, Holds] <;> first | omega | ((repeat' apply And.intro) <;> first | omega | (intros; rfl))) | (simp [AllC, AllP, addN, cloL, clo, mrgL, mrg, wrapU, Holds] <;> omega)) rfl (by first | exact True.intro | (simp only [AllC, AllP, addN, Int.toNat_natCast, true_and, and_true, Option.getD, List.length_set, wrapU, pw1, pw7, pw8, pw16, pw23, pw32, pw52, Holds] <;> first | omega | ((repeat' apply And.intro) <;> first | omega | (intros; rfl))) | (simp [AllC, AllP, addN, cloL, clo, mrgL, mrg, wrapU, Holds] <;> omega)) (.tup []) .refl rfl ⟨rfl, g2, rfl⟩
  · have e : pI (k + 1) .sumL ⟨ts, ns, true, mn⟩ = (0, ⟨ts, ns, true, mn⟩) := by rw [pI, if_neg (fun k => by cases k.1)]
    rw [he, e]
    refine go_retS W 0 300 2 rfl (by first | exact True.intro | (simp only [AllC, AllP, addN, Int.toNat_natCast, true_and, and_true, Option.getD, List.length_set, wrapU, pw1, pw7, pw8, pw16, pw23, pw32, pw52, Holds] <;> first | omega | ((repeat' apply And.intro) <;> first | omega | (intros; rfl))) | (simp [AllC, AllP, addN, cloL, clo, mrgL, mrg, wrapU, Holds] <;> omega)) rfl (by first | exact True.intro | (simp only [AllC, AllP, addN, Int.toNat_natCast, true_and, and_true, Option.getD, List.length_set, wrapU, pw1, pw7, pw8, pw16, pw23, pw32, pw52, Holds] <;> first | omega | ((repeat' apply And.intro) <;> first | omega | (intros; rfl))) | (simp [AllC, AllP, addN, cloL, clo, mrgL, mrg, wrapU, Holds] <;> omega)) (.tup []) .refl rfl ⟨rfl, g2, rfl⟩
theorem iProd (f : Nat) (ih : AllI f) (s : RS) (g : Nat) (hs : RsOk s) (hf : need .prod s ≤ f + 1) : CI (f + 1) .prod s g := by
  unfold CI
  refine AFun.trim 2 ?_ (by simp [LayI])
  refine afun_of Tryz.func108 Tryz.call108 rfl Tryz.ntmps108 rfl ?_
  have W : Walk Tryz.prog TT 108 _ := Walk.of TT_ok Tryz.func108 Tryz.results108
  have c1 := ih f (Nat.le_refl _) .sgn s g hs (by simp only [need, rankM] at *; omega)
  unfold CI at c1
  refine go_callS W 0 300 [0, 1] rfl (by first | exact True.intro | (simp only [AllC, AllP, addN, Int.toNat_natCast, true_and, and_true, Option.getD, List.length_set, wrapU, pw1, pw7, pw8, pw16, pw23, pw32, pw52, Holds] <;> first | omega | ((repeat' apply And.intro) <;> first | omega | (intros; rfl))) | (simp [AllC, AllP, addN, cloL, clo, mrgL, mrg, wrapU, Holds] <;> omega)) c1 rfl rfl ⟨rfl, fun _ _ => rfl, trivial⟩ ⟨rfl, rfl, trivial⟩ rfl ?_
  rintro _ _ ⟨rfl, g1, rfl⟩
  refine ⟨_, _, rfl, rfl, ?_⟩
  refine lp W 0 (σ := Nat × RS × Nat) (fun t => [(0, .ptr 0 0 0 0)]) (fun t => LayI t.2.1 t.2.2) (fun t => t.2.1.toks.length) (fun t => (t.1 ≤ f ∧ need .prodL t.2.1 ≤ t.1 ∧ RsOk t.2.1) ∧ pI (f + 1) .prod s = pI t.1 .prodL t.2.1) (f, (pI f .sgn s).2, g1) [0] rfl rfl rfl ⟨⟨Nat.le_refl _, by have := (pI_shr f .sgn s).len; simp only [need, rankM] at *; omega, hs.shr (pI_shr f .sgn s)⟩, rfl⟩ ?_
  rintro ⟨k, t, g2⟩ ⟨⟨hk, hn, ht⟩, he⟩ ih2
  dsimp only at hk hn ht he ih2 ⊢
  obtain ⟨k, rfl⟩ : ∃ k', k = k' + 1 := ⟨k - 1, by simp only [need, rankM] at hn; omega⟩
  obtain ⟨ts, ns, b, mn⟩ := t
  rcases b with _ | _
  · refine go_callS W 0 300 [0, 1, 2] rfl (by first | exact True.intro | (simp only [AllC, AllP, addN, Int.toNat_natCast, true_and, and_true, Option.getD, List.length_set, wrapU, pw1, pw7, pw8, pw16, pw23, pw32, pw52, Holds] <;> first | omega | ((repeat' apply And.intro) <;> first | omega | (intros; rfl))) | (simp [AllC, AllP, addN, cloL, clo, mrgL, mrg, wrapU, Holds] <;> omega)) (rAt2_ok ⟨ts, ns, false, mn⟩ g2 wTimes wOver) rfl rfl ⟨rfl, fun _ _ => rfl, rfl, trivial⟩ ⟨rfl, rfl, rfl, trivial⟩ rfl ?_
    rintro _ _ ⟨rfl, rfl⟩
    refine ⟨_, _, rfl, rfl, ?_⟩
    refine sp W 0 rfl rfl rfl (fun z1 => ?_) (fun z1 => ?_)
    · refine go_callS W 0 300 [0, 1] rfl (by first | exact True.intro | (simp only [AllC, AllP, addN, Int.toNat_natCast, true_and, and_true, Option.getD, List.length_set, wrapU, pw1, pw7, pw8, pw16, pw23, pw32, pw52, Holds] <;> first | omega | ((repeat' apply And.intro) <;> first | omega | (intros; rfl))) | (simp [AllC, AllP, addN, cloL, clo, mrgL, mrg, wrapU, Holds] <;> omega)) (rNext_ok ⟨ts, ns, false, mn⟩ g2) rfl rfl ⟨rfl, fun _ _ => rfl, trivial⟩ ⟨rfl, rfl, trivial⟩ rfl ?_
      rintro _ _ ⟨rfl, rfl⟩
      refine ⟨_, _, rfl, rfl, ?_⟩
      have nl := next_len z1.1
      have sh := pI_shr k .sgn (RS.next ⟨ts, ns, false, mn⟩)
      have c2 := ih k (by omega) .sgn (RS.next ⟨ts, ns, false, mn⟩) g2 (ht.shr (shr_next _)) (by simp only [need, rankM] at *; omega)
      unfold CI at c2
      have hl := sh.len
      have hc := sh.cnt
      have hg := ht.2
      have hnx := ht.shr ((shr_put_next z1.1 sh (if (RS.hd ⟨ts, ns, false, mn⟩).2 = wOver then 7 else 6) 0 []))
      have e : pI (k + 1) .prodL ⟨ts, ns, false, mn⟩ = pI k .prodL ((pI k .sgn (RS.next ⟨ts, ns, false, mn⟩)).2.put (if (RS.hd ⟨ts, ns, false, mn⟩).2 = wOver then 7 else 6) 0 []) := by
        rw [pI, if_pos ⟨rfl, z1⟩]
      rw [nl.2.1] at hc
      generalize (pI k .sgn (RS.next ⟨ts, ns, false, mn⟩)).2 = q at *
      refine sp W 0 rfl rfl rfl (fun z2 => ?_) (fun z2 => ?_)
      · rw [if_pos z2] at e hnx
        refine go_callS W 0 300 [0, 1] rfl (by first | exact True.intro | (simp only [AllC, AllP, addN, Int.toNat_natCast, true_and, and_true, Option.getD, List.length_set, wrapU, pw1, pw7, pw8, pw16, pw23, pw32, pw52, Holds] <;> first | omega | ((repeat' apply And.intro) <;> first | omega | (intros; rfl))) | (simp [AllC, AllP, addN, cloL, clo, mrgL, mrg, wrapU, Holds] <;> omega)) c2 rfl rfl ⟨rfl, fun _ _ => rfl, trivial⟩ ⟨rfl, rfl, trivial⟩ rfl ?_
        rintro _ _ ⟨rfl, g3, rfl⟩
        refine ⟨_, _, rfl, rfl, ?_⟩
        refine go_callS W 0 300 [0, 1] rfl (by first | exact True.intro | (simp only [AllC, AllP, addN, Int.toNat_natCast, true_and, and_true, Option.getD, List.length_set, wrapU, pw1, pw7, pw8, pw16, pw23, pw32, pw52, Holds] <;> first | omega | ((repeat' apply And.intro) <;> first | omega | (intros; rfl))) | (simp [AllC, AllP, addN, cloL, clo, mrgL, mrg, wrapU, Holds] <;> omega)) (rPut_ok q g3 7 0 [] (by dsimp only at *; omega)) rfl rfl ⟨rfl, fun _ _ => rfl, trivial⟩ ⟨rfl, rfl, trivial⟩ rfl ?_
        rintro _ _ ⟨rfl, g4, rfl⟩
        refine ⟨_, _, rfl, rfl, ?_⟩
        have nx := ih2 (k, q.put 7 0 [], g4) ⟨⟨by dsimp only; omega, by simp only [need, rankM, RS.put] at *; omega, hnx⟩, he.trans e⟩ (by simp only [RS.put] at *; omega)
        dsimp only [LayI] at nx
        refine bd W 0 2 [0] rfl rfl rfl rfl rfl (nx)
      · rw [if_neg z2] at e hnx
        refine go_callS W 0 300 [0, 1] rfl (by first | exact True.intro | (simp only [AllC, AllP, addN, Int.toNat_natCast, true_and, and_true, Option.getD, List.length_set, wrapU, pw1, pw7, pw8, pw16, pw23, pw32, pw52, Holds] <;> first | omega | ((repeat' apply And.intro) <;> first | omega | (intros; rfl))) | (simp [AllC, AllP, addN, cloL, clo, mrgL, mrg, wrapU, Holds] <;> omega)) c2 rfl rfl ⟨rfl, fun _ _ => rfl, trivial⟩ ⟨rfl, rfl, trivial⟩ rfl ?_
        rintro _ _ ⟨rfl, g3, rfl⟩
        refine ⟨_, _, rfl, rfl, ?_⟩
        refine go_callS W 0 300 [0, 1] rfl (by first | exact True.intro | (simp only [AllC, AllP, addN, Int.toNat_natCast, true_and, and_true, Option.getD, List.length_set, wrapU, pw1, pw7, pw8, pw16, pw23, pw32, pw52, Holds] <;> first | omega | ((repeat' apply And.intro) <;> first | omega | (intros; rfl))) | (simp [AllC, AllP, addN, cloL, clo, mrgL, mrg, wrapU, Holds] <;> omega)) (rPut_ok q g3 6 0 [] (by dsimp only at *; omega)) rfl rfl ⟨rfl, fun _ _ => rfl, trivial⟩ ⟨rfl, rfl, trivial⟩ rfl ?_
        rintro _ _ ⟨rfl, g4, rfl⟩
        refine ⟨_, _, rfl, rfl, ?_⟩
        have nx := ih2 (k, q.put 6 0 [], g4) ⟨⟨by dsimp only; omega, by simp only [need, rankM, RS.put] at *; omega, hnx⟩, he.trans e⟩ (by simp only [RS.put] at *; omega)
        dsimp only [LayI] at nx
        refine bd W 0 2 [0] rfl rfl rfl rfl rfl (nx)
    · have e : pI (k + 1) .prodL ⟨ts, ns, false, mn⟩ = (0, ⟨ts, ns, false, mn⟩) := by rw [pI, if_neg (fun k => z1 k.2)]
      rw [he, e]
      refine go_retS W 0 300 2 rfl (by first | exact True.intro | (simp only [AllC, AllP, addN, Int.toNat_natCast, true_and, and_true, Option.getD, List.length_set, wrapU, pw1, pw7, pw8, pw16, pw23, pw32, pw52, Holds] <;> first | omega | ((repeat' apply And.intro) <;> first | omega | (intros; rfl))) | (simp [AllC, AllP, addN, cloL, clo, mrgL, mrg, wrapU, Holds] <;> omega)) rfl (by first | exact True.intro | (simp only [AllC, AllP, addN, Int.toNat_natCast, true_and, and_true, Option.getD, List.length_set, wrapU, pw1, pw7, pw8, pw16, pw23, pw32, pw52, Holds] <;> first | omega | ((repeat' apply And.intro) <;> first | omega | (intros; rfl))) | (simp [AllC, AllP, addN, cloL, clo, mrgL, mrg, wrapU, Holds] <;> omega)) (.tup []) .refl rfl ⟨rfl, g2, rfl⟩
  · have e : pI (k + 1) .prodL ⟨ts, ns, true, mn⟩ = (0, ⟨ts, ns, true, mn⟩) := by rw [pI, if_neg (fun k => by cases k.1)]
    rw [he, e]
    refine go_retS W 0 300 2 rfl (by first | exact True.intro | (simp only [AllC, AllP, addN, Int.toNat_natCast, true_and, and_true, Option.getD, List.length_set, wrapU, pw1, pw7, pw8, pw16, pw23, pw32, pw52, Holds] <;> first | omega | ((repeat' apply And.intro) <;> first | omega | (intros; rfl))) | (simp [AllC, AllP, addN, cloL, clo, mrgL, mrg, wrapU, Holds] <;> omega)) rfl (by first | exact True.intro | (simp only [AllC, AllP, addN, Int.toNat_natCast, true_and, and_true, Option.getD, List.length_set, wrapU, pw1, pw7, pw8, pw16, pw23, pw32, pw52, Holds] <;> first | omega | ((repeat' apply And.intro) <;> first | omega | (intros; rfl))) | (simp [AllC, AllP, addN, cloL, clo, mrgL, mrg, wrapU, Holds] <;> omega)) (.tup []) .refl rfl ⟨rfl, g2, rfl⟩
theorem getD_memT {l : List Tk} (h : 0 < l.length) : l.getD 0 k0 ∈ l := by
  cases l with
  | nil => simp at h
  | cons t r => simp
theorem iSgn (f : Nat) (ih : AllI f) (s : RS) (g : Nat) (hs : RsOk s) (hf : need .sgn s ≤ f + 1) : CI (f + 1) .sgn s g := by
  unfold CI
  refine AFun.trim 2 ?_ (by simp [LayI])
  refine afun_of Tryz.func126 Tryz.call126 rfl Tryz.ntmps126 rfl ?_
  have W : Walk Tryz.prog TT 126 _ := Walk.of TT_ok Tryz.func126 Tryz.results126
  refine go_callS W 0 300 [0, 1, 2] rfl (by first | exact True.intro | (simp only [AllC, AllP, addN, Int.toNat_natCast, true_and, and_true, Option.getD, List.length_set, wrapU, pw1, pw7, pw8, pw16, pw23, pw32, pw52, Holds] <;> first | omega | ((repeat' apply And.intro) <;> first | omega | (intros; rfl))) | (simp [AllC, AllP, addN, cloL, clo, mrgL, mrg, wrapU, Holds] <;> omega)) (rAt1_ok s g wMinus) rfl rfl ⟨rfl, fun _ _ => rfl, rfl, trivial⟩ ⟨rfl, rfl, rfl, trivial⟩ rfl ?_
  rintro _ _ ⟨rfl, rfl⟩
  refine ⟨_, _, rfl, rfl, ?_⟩
  refine sp W 0 rfl rfl rfl (fun z1 => ?_) (fun z1 => ?_)
  · have nl := next_len z1.1
    have sh := pI_shr f .sgn s.next
    have c2 := ih f (Nat.le_refl _) .sgn s.next g (hs.shr (shr_next _)) (by simp only [need, rankM] at *; omega)
    unfold CI at c2
    have hc := sh.cnt
    have hg := hs.2
    rw [nl.2.1] at hc
    have e : pI (f + 1) .sgn s = (0, (pI f .sgn s.next).2.put 3 0 []) := by rw [pI, if_pos z1]
    rw [e]
    dsimp only
    generalize (pI f .sgn s.next).2 = q at *
    refine go_callS W 0 300 [0, 1] rfl (by first | exact True.intro | (simp only [AllC, AllP, addN, Int.toNat_natCast, true_and, and_true, Option.getD, List.length_set, wrapU, pw1, pw7, pw8, pw16, pw23, pw32, pw52, Holds] <;> first | omega | ((repeat' apply And.intro) <;> first | omega | (intros; rfl))) | (simp [AllC, AllP, addN, cloL, clo, mrgL, mrg, wrapU, Holds] <;> omega)) (rNext_ok s g) rfl rfl ⟨rfl, fun _ _ => rfl, trivial⟩ ⟨rfl, rfl, trivial⟩ rfl ?_
    rintro _ _ ⟨rfl, rfl⟩
    refine ⟨_, _, rfl, rfl, ?_⟩
    refine go_callS W 0 300 [0, 1] rfl (by first | exact True.intro | (simp only [AllC, AllP, addN, Int.toNat_natCast, true_and, and_true, Option.getD, List.length_set, wrapU, pw1, pw7, pw8, pw16, pw23, pw32, pw52, Holds] <;> first | omega | ((repeat' apply And.intro) <;> first | omega | (intros; rfl))) | (simp [AllC, AllP, addN, cloL, clo, mrgL, mrg, wrapU, Holds] <;> omega)) c2 rfl rfl ⟨rfl, fun _ _ => rfl, trivial⟩ ⟨rfl, rfl, trivial⟩ rfl ?_
    rintro _ _ ⟨rfl, g3, rfl⟩
    refine ⟨_, _, rfl, rfl, ?_⟩
    refine go_callS W 0 300 [0, 1] rfl (by first | exact True.intro | (simp only [AllC, AllP, addN, Int.toNat_natCast, true_and, and_true, Option.getD, List.length_set, wrapU, pw1, pw7, pw8, pw16, pw23, pw32, pw52, Holds] <;> first | omega | ((repeat' apply And.intro) <;> first | omega | (intros; rfl))) | (simp [AllC, AllP, addN, cloL, clo, mrgL, mrg, wrapU, Holds] <;> omega)) (rPut_ok q g3 3 0 [] (by omega)) rfl rfl ⟨rfl, fun _ _ => rfl, trivial⟩ ⟨rfl, rfl, trivial⟩ rfl ?_
    rintro _ _ ⟨rfl, g4, rfl⟩
    refine ⟨_, _, rfl, rfl, ?_⟩
    refine go_retS W 0 300 2 rfl (by first | exact True.intro | (simp only [AllC, AllP, addN, Int.toNat_natCast, true_and, and_true, Option.getD, List.length_set, wrapU, pw1, pw7, pw8, pw16, pw23, pw32, pw52, Holds] <;> first | omega | ((repeat' apply And.intro) <;> first | omega | (intros; rfl))) | (simp [AllC, AllP, addN, cloL, clo, mrgL, mrg, wrapU, Holds] <;> omega)) rfl (by first | exact True.intro | (simp only [AllC, AllP, addN, Int.toNat_natCast, true_and, and_true, Option.getD, List.length_set, wrapU, pw1, pw7, pw8, pw16, pw23, pw32, pw52, Holds] <;> first | omega | ((repeat' apply And.intro) <;> first | omega | (intros; rfl))) | (simp [AllC, AllP, addN, cloL, clo, mrgL, mrg, wrapU, Holds] <;> omega)) (.tup []) .refl rfl ⟨rfl, g4, rfl⟩
  · have sh := pI_shr f .atom s
    have c2 := ih f (Nat.le_refl _) .atom s g hs (by simp only [need, rankM] at *; omega)
    unfold CI at c2
    have hq := hs.shr sh
    have eA : ((pI f .atom s).2.bad = true ∨ ¬ (pI f .atom s).2.isAt [wCaret]) → pI (f + 1) .sgn s = (0, (pI f .atom s).2) := fun h => by rw [pI, if_neg z1, if_pos h]
    have eB : ¬ ((pI f .atom s).2.bad = true ∨ ¬ (pI f .atom s).2.isAt [wCaret]) → pI (f + 1) .sgn s = (0, (pI f .atom s).2.next.pow) := fun h => by rw [pI, if_neg z1, if_neg h]
    generalize (pI f .atom s).2 = q at *
    clear ih sh
    refine go_callS W 0 300 [0, 1] rfl (by first | exact True.intro | (simp only [AllC, AllP, addN, Int.toNat_natCast, true_and, and_true, Option.getD, List.length_set, wrapU, pw1, pw7, pw8, pw16, pw23, pw32, pw52, Holds] <;> first | omega | ((repeat' apply And.intro) <;> first | omega | (intros; rfl))) | (simp [AllC, AllP, addN, cloL, clo, mrgL, mrg, wrapU, Holds] <;> omega)) c2 rfl rfl ⟨rfl, fun _ _ => rfl, trivial⟩ ⟨rfl, rfl, trivial⟩ rfl ?_
    rintro _ _ ⟨rfl, g3, rfl⟩
    refine ⟨_, _, rfl, rfl, ?_⟩
    clear c2
    obtain ⟨ts, ns, b, mn⟩ := q
    rcases b with _ | _
    · refine go_callS W 0 300 [0, 1, 3] rfl (by first | exact True.intro | (simp only [AllC, AllP, addN, Int.toNat_natCast, true_and, and_true, Option.getD, List.length_set, wrapU, pw1, pw7, pw8, pw16, pw23, pw32, pw52, Holds] <;> first | omega | ((repeat' apply And.intro) <;> first | omega | (intros; rfl))) | (simp [AllC, AllP, addN, cloL, clo, mrgL, mrg, wrapU, Holds] <;> omega)) (rAt1_ok ⟨ts, ns, false, mn⟩ g3 wCaret) rfl rfl ⟨rfl, fun _ _ => rfl, rfl, trivial⟩ ⟨rfl, rfl, rfl, trivial⟩ rfl ?_
      rintro _ _ ⟨rfl, rfl⟩
      refine ⟨_, _, rfl, rfl, ?_⟩
      refine sp W 0 rfl rfl rfl (fun z2 => ?_) (fun z2 => ?_)
      · rw [eA (.inr z2)]
        refine go_retS W 0 300 2 rfl (by first | exact True.intro | (simp only [AllC, AllP, addN, Int.toNat_natCast, true_and, and_true, Option.getD, List.length_set, wrapU, pw1, pw7, pw8, pw16, pw23, pw32, pw52, Holds] <;> first | omega | ((repeat' apply And.intro) <;> first | omega | (intros; rfl))) | (simp [AllC, AllP, addN, cloL, clo, mrgL, mrg, wrapU, Holds] <;> omega)) rfl (by first | exact True.intro | (simp only [AllC, AllP, addN, Int.toNat_natCast, true_and, and_true, Option.getD, List.length_set, wrapU, pw1, pw7, pw8, pw16, pw23, pw32, pw52, Holds] <;> first | omega | ((repeat' apply And.intro) <;> first | omega | (intros; rfl))) | (simp [AllC, AllP, addN, cloL, clo, mrgL, mrg, wrapU, Holds] <;> omega)) (.tup []) .refl rfl ⟨rfl, g3, rfl⟩
      · have z2 := Classical.not_not.1 z2
        have nl := next_len z2.1
        have hq1 := hq.shr (shr_next _)
        have hg := hq1.2
        rw [eB (fun h => h.elim (fun h => by cases h) fun h => h z2)]
        refine go_callS W 0 300 [0, 1] rfl (by first | exact True.intro | (simp only [AllC, AllP, addN, Int.toNat_natCast, true_and, and_true, Option.getD, List.length_set, wrapU, pw1, pw7, pw8, pw16, pw23, pw32, pw52, Holds] <;> first | omega | ((repeat' apply And.intro) <;> first | omega | (intros; rfl))) | (simp [AllC, AllP, addN, cloL, clo, mrgL, mrg, wrapU, Holds] <;> omega)) (rNext_ok ⟨ts, ns, false, mn⟩ g3) rfl rfl ⟨rfl, fun _ _ => rfl, trivial⟩ ⟨rfl, rfl, trivial⟩ rfl ?_
        rintro _ _ ⟨rfl, rfl⟩
        refine ⟨_, _, rfl, rfl, ?_⟩
        generalize RS.next ⟨ts, ns, false, mn⟩ = q1 at *
        refine go_callS W 0 300 [0, 1] rfl (by first | exact True.intro | (simp only [AllC, AllP, addN, Int.toNat_natCast, true_and, and_true, Option.getD, List.length_set, wrapU, pw1, pw7, pw8, pw16, pw23, pw32, pw52, Holds] <;> first | omega | ((repeat' apply And.intro) <;> first | omega | (intros; rfl))) | (simp [AllC, AllP, addN, cloL, clo, mrgL, mrg, wrapU, Holds] <;> omega)) (rNext_ok q1 g3) rfl rfl ⟨rfl, fun _ _ => rfl, trivial⟩ ⟨rfl, rfl, trivial⟩ rfl ?_
        rintro _ _ ⟨rfl, rfl⟩
        refine ⟨_, _, rfl, rfl, ?_⟩
        refine sp W 0 rfl rfl rfl (fun z3 => ?_) (fun z3 => ?_)
        · have e : q1.pow = q1.next.fail := by unfold RS.pow; rw [if_pos (.inl z3)]
          rw [e]
          refine go_retS W 0 300 2 rfl (by first | exact True.intro | (simp only [AllC, AllP, addN, Int.toNat_natCast, true_and, and_true, Option.getD, List.length_set, wrapU, pw1, pw7, pw8, pw16, pw23, pw32, pw52, Holds] <;> first | omega | ((repeat' apply And.intro) <;> first | omega | (intros; rfl))) | (simp [AllC, AllP, addN, cloL, clo, mrgL, mrg, wrapU, Holds] <;> omega)) rfl (by first | exact True.intro | (simp only [AllC, AllP, addN, Int.toNat_natCast, true_and, and_true, Option.getD, List.length_set, wrapU, pw1, pw7, pw8, pw16, pw23, pw32, pw52, Holds] <;> first | omega | ((repeat' apply And.intro) <;> first | omega | (intros; rfl))) | (simp [AllC, AllP, addN, cloL, clo, mrgL, mrg, wrapU, Holds] <;> omega)) (.tup []) .refl rfl ⟨rfl, g3, rfl⟩
        refine sp W 0 rfl rfl rfl (fun z4 => ?_) (fun z4 => ?_)
        · have e : q1.pow = q1.next.fail := by unfold RS.pow; rw [if_pos (.inr (.inl (by omega)))]
          rw [e]
          refine go_retS W 0 300 2 rfl (by first | exact True.intro | (simp only [AllC, AllP, addN, Int.toNat_natCast, true_and, and_true, Option.getD, List.length_set, wrapU, pw1, pw7, pw8, pw16, pw23, pw32, pw52, Holds] <;> first | omega | ((repeat' apply And.intro) <;> first | omega | (intros; rfl))) | (simp [AllC, AllP, addN, cloL, clo, mrgL, mrg, wrapU, Holds] <;> omega)) rfl (by first | exact True.intro | (simp only [AllC, AllP, addN, Int.toNat_natCast, true_and, and_true, Option.getD, List.length_set, wrapU, pw1, pw7, pw8, pw16, pw23, pw32, pw52, Holds] <;> first | omega | ((repeat' apply And.intro) <;> first | omega | (intros; rfl))) | (simp [AllC, AllP, addN, cloL, clo, mrgL, mrg, wrapU, Holds] <;> omega)) (.tup []) .refl rfl ⟨rfl, g3, rfl⟩
        refine sp W 0 rfl rfl rfl (fun z5 => ?_) (fun z5 => ?_)
        · have e : q1.pow = q1.next.fail := by unfold RS.pow; rw [if_pos (.inr (.inr z5))]
          rw [e]
          refine go_retS W 0 300 2 rfl (by first | exact True.intro | (simp only [AllC, AllP, addN, Int.toNat_natCast, true_and, and_true, Option.getD, List.length_set, wrapU, pw1, pw7, pw8, pw16, pw23, pw32, pw52, Holds] <;> first | omega | ((repeat' apply And.intro) <;> first | omega | (intros; rfl))) | (simp [AllC, AllP, addN, cloL, clo, mrgL, mrg, wrapU, Holds] <;> omega)) rfl (by first | exact True.intro | (simp only [AllC, AllP, addN, Int.toNat_natCast, true_and, and_true, Option.getD, List.length_set, wrapU, pw1, pw7, pw8, pw16, pw23, pw32, pw52, Holds] <;> first | omega | ((repeat' apply And.intro) <;> first | omega | (intros; rfl))) | (simp [AllC, AllP, addN, cloL, clo, mrgL, mrg, wrapU, Holds] <;> omega)) (.tup []) .refl rfl ⟨rfl, g3, rfl⟩
        · have e : q1.pow = q1.next.put 8 ((q1.hd.2.getD 0 0).toNat - 48 : Int) [] := by unfold RS.pow; rw [if_neg (fun k => k.elim z3 fun k => k.elim (fun k => z4 (by omega)) z5)]
          have z3 : q1.hd.1 = 2 := by omega
          have hp := hd_pos z3 (by omega)
          have hd : dB (q1.hd.2.getD 0 0) = true := by
            have := hq1.1 q1.hd (getD_memT hp)
            rcases this.1 with k | k | k
            · omega
            · exact k.2
            · omega
          have hd2 := dB_iff.1 hd
          have nn := next_len hp
          rw [e]
          refine go_callS W 0 300 [0, 1] rfl (by simp only [AllC, Int.toNat_zero, true_and, and_true]; omega) (rPut_ok q1.next g3 8 ((q1.hd.2.getD 0 0).toNat - 48 : Int) [] (by rw [nn.2.1]; omega)) rfl rfl ⟨rfl, fun _ _ => rfl, trivial⟩ ⟨rfl, rfl, trivial⟩ rfl ?_
          rintro _ _ ⟨rfl, g4, rfl⟩
          refine ⟨_, _, rfl, rfl, ?_⟩
          refine go_retS W 0 300 2 rfl (by first | exact True.intro | (simp only [AllC, AllP, addN, Int.toNat_natCast, true_and, and_true, Option.getD, List.length_set, wrapU, pw1, pw7, pw8, pw16, pw23, pw32, pw52, Holds] <;> first | omega | ((repeat' apply And.intro) <;> first | omega | (intros; rfl))) | (simp [AllC, AllP, addN, cloL, clo, mrgL, mrg, wrapU, Holds] <;> omega)) rfl (by first | exact True.intro | (simp only [AllC, AllP, addN, Int.toNat_natCast, true_and, and_true, Option.getD, List.length_set, wrapU, pw1, pw7, pw8, pw16, pw23, pw32, pw52, Holds] <;> first | omega | ((repeat' apply And.intro) <;> first | omega | (intros; rfl))) | (simp [AllC, AllP, addN, cloL, clo, mrgL, mrg, wrapU, Holds] <;> omega)) (.tup []) .refl rfl ⟨rfl, g4, rfl⟩
    · rw [eA (.inl rfl)]
      refine go_retS W 0 300 2 rfl (by first | exact True.intro | (simp only [AllC, AllP, addN, Int.toNat_natCast, true_and, and_true, Option.getD, List.length_set, wrapU, pw1, pw7, pw8, pw16, pw23, pw32, pw52, Holds] <;> first | omega | ((repeat' apply And.intro) <;> first | omega | (intros; rfl))) | (simp [AllC, AllP, addN, cloL, clo, mrgL, mrg, wrapU, Holds] <;> omega)) rfl (by first | exact True.intro | (simp only [AllC, AllP, addN, Int.toNat_natCast, true_and, and_true, Option.getD, List.length_set, wrapU, pw1, pw7, pw8, pw16, pw23, pw32, pw52, Holds] <;> first | omega | ((repeat' apply And.intro) <;> first | omega | (intros; rfl))) | (simp [AllC, AllP, addN, cloL, clo, mrgL, mrg, wrapU, Holds] <;> omega)) (.tup []) .refl rfl ⟨rfl, g3, rfl⟩
theorem iArgs (f : Nat) (ih : AllI f) (s : RS) (g : Nat) (hs : RsOk s) (hf : need .args s ≤ f + 1) : CI (f + 1) .args s g := by
  unfold CI
  refine AFun.trim 2 ?_ (by simp [LayI])
  refine afun_of Tryz.func152 Tryz.call152 rfl Tryz.ntmps152 rfl ?_
  have W : Walk Tryz.prog TT 152 _ := Walk.of TT_ok Tryz.func152 Tryz.results152
  refine go_callS W 0 300 [0, 1] rfl (by first | exact True.intro | (simp only [AllC, AllP, addN, Int.toNat_natCast, true_and, and_true, Option.getD, List.length_set, wrapU, pw1, pw7, pw8, pw16, pw23, pw32, pw52, Holds] <;> first | omega | ((repeat' apply And.intro) <;> first | omega | (intros; rfl))) | (simp [AllC, AllP, addN, cloL, clo, mrgL, mrg, wrapU, Holds] <;> omega)) (rTake_ok s g wOpen) rfl rfl ⟨rfl, fun _ _ => rfl, trivial⟩ ⟨rfl, rfl, trivial⟩ rfl ?_
  rintro _ _ ⟨rfl, rfl⟩
  refine ⟨_, _, rfl, rfl, ?_⟩
  have h1 := hs.shr (shr_take s wOpen)
  have hn1 : need (.argsL 0) (s.take wOpen) ≤ f ∨ (s.take wOpen).bad = true ∧ 1 ≤ f := by
    have hl := (shr_take s wOpen).len
    by_cases hb : (s.take wOpen).bad = true
    · exact .inr ⟨hb, by simp only [need, rankM] at *; omega⟩
    · refine .inl ?_
      have hp : 0 < s.toks.length := by
        rcases Nat.eq_zero_or_pos s.toks.length with h0 | h0
        · exfalso
          apply hb
          unfold RS.take
          rw [if_pos (.inl (by simp [RS.hd, List.eq_nil_of_length_eq_zero h0]))]
          rfl
        · exact h0
      have : (s.take wOpen).toks.length + 1 = s.toks.length := by
        unfold RS.take
        split
        · exact (next_len hp).1
        · exact (next_len hp).1
      simp only [need, rankM] at *
      omega
  have e0 : pI (f + 1) .args s = ((pI f (.argsL 0) (s.take wOpen)).1, (pI f (.argsL 0) (s.take wOpen)).2.take wClose) := by rw [pI]
  rw [e0]
  generalize s.take wOpen = q at *
  refine lp W 0 (σ := Nat × Nat × RS × Nat) (fun t => [(0, .ptr 0 0 0 0), (3, .int .i64 t.2.1)]) (fun t => LayI t.2.2.1 t.2.2.2) (fun t => t.1) (fun t => (t.1 ≤ f ∧ (need (.argsL 0) t.2.2.1 ≤ t.1 ∨ t.2.2.1.bad = true ∧ 1 ≤ t.1) ∧ RsOk t.2.2.1 ∧ t.2.1 + t.2.2.1.toks.length ≤ 1000) ∧ pI f (.argsL 0) q = pI t.1 (.argsL t.2.1) t.2.2.1) (f, 0, q, g) [0, 3] rfl rfl rfl ⟨⟨Nat.le_refl _, hn1, h1, by have := h1.2; dsimp only; omega⟩, rfl⟩ ?_
  rintro ⟨k, n, t, g2⟩ ⟨⟨hk, hn, ht, hm⟩, he⟩ ih2
  dsimp only at hk hn ht hm he ih2 ⊢
  obtain ⟨k, rfl⟩ : ∃ k', k = k' + 1 := ⟨k - 1, hn.elim (fun h => by simp only [need, rankM] at h; omega) (fun h => by omega)⟩
  obtain ⟨ts, ns, b, mn⟩ := t
  rcases b with _ | _
  · have hn : need (.argsL 0) ⟨ts, ns, false, mn⟩ ≤ k + 1 := hn.elim id fun h => by cases h.1
    have sh := pI_shr k .sum ⟨ts, ns, false, mn⟩
    have c2 := ih k (by omega) .sum ⟨ts, ns, false, mn⟩ g2 ht (by simp only [need, rankM] at *; omega)
    unfold CI at c2
    have hq := ht.shr sh
    have hl := sh.len
    have eA : (pI k .sum ⟨ts, ns, false, mn⟩).2.isAt [wComma] → pI (k + 1) (.argsL n) ⟨ts, ns, false, mn⟩ = pI k (.argsL (n + 1)) (pI k .sum ⟨ts, ns, false, mn⟩).2.next := fun h => by rw [pI, if_neg (by simp), if_pos h]
    have eB : ¬ (pI k .sum ⟨ts, ns, false, mn⟩).2.isAt [wComma] → pI (k + 1) (.argsL n) ⟨ts, ns, false, mn⟩ = (n + 1, (pI k .sum ⟨ts, ns, false, mn⟩).2) := fun h => by rw [pI, if_neg (by simp), if_neg h]
    generalize (pI k .sum ⟨ts, ns, false, mn⟩).2 = q2 at *
    refine go_callS W 0 300 [0, 1] rfl (by first | exact True.intro | (simp only [AllC, AllP, addN, Int.toNat_natCast, true_and, and_true, Option.getD, List.length_set, wrapU, pw1, pw7, pw8, pw16, pw23, pw32, pw52, Holds] <;> first | omega | ((repeat' apply And.intro) <;> first | omega | (intros; rfl))) | (simp [AllC, AllP, addN, cloL, clo, mrgL, mrg, wrapU, Holds] <;> omega)) c2 rfl rfl ⟨rfl, fun _ _ => rfl, trivial⟩ ⟨rfl, rfl, trivial⟩ rfl ?_
    rintro _ _ ⟨rfl, g3, rfl⟩
    refine ⟨_, _, rfl, rfl, ?_⟩
    refine go_callS W 0 300 [0, 1, 2] rfl (by simp only [AllC, true_and, and_true]; omega) (rAt1_ok q2 g3 wComma) rfl rfl ⟨rfl, fun _ _ => rfl, rfl, trivial⟩ ⟨rfl, rfl, rfl, trivial⟩ rfl ?_
    rintro _ _ ⟨rfl, rfl⟩
    refine ⟨_, _, rfl, rfl, ?_⟩
    refine sp W 0 rfl rfl rfl (fun z2 => ?_) (fun z2 => ?_)
    · rw [he, eB z2]
      refine go_callS W 0 300 [0, 1] rfl (by first | exact True.intro | (simp only [AllC, AllP, addN, Int.toNat_natCast, true_and, and_true, Option.getD, List.length_set, wrapU, pw1, pw7, pw8, pw16, pw23, pw32, pw52, Holds] <;> first | omega | ((repeat' apply And.intro) <;> first | omega | (intros; rfl))) | (simp [AllC, AllP, addN, cloL, clo, mrgL, mrg, wrapU, Holds] <;> omega)) (rTake_ok q2 g3 wClose) rfl rfl ⟨rfl, fun _ _ => rfl, trivial⟩ ⟨rfl, rfl, trivial⟩ rfl ?_
      rintro _ _ ⟨rfl, rfl⟩
      refine ⟨_, _, rfl, rfl, ?_⟩
      refine go_retS W 0 300 2 rfl (by first | exact True.intro | (simp only [AllC, AllP, addN, Int.toNat_natCast, true_and, and_true, Option.getD, List.length_set, wrapU, pw1, pw7, pw8, pw16, pw23, pw32, pw52, Holds] <;> first | omega | ((repeat' apply And.intro) <;> first | omega | (intros; rfl))) | (simp [AllC, AllP, addN, cloL, clo, mrgL, mrg, wrapU, Holds] <;> omega)) rfl (by first | exact True.intro | (simp only [AllC, AllP, addN, Int.toNat_natCast, true_and, and_true, Option.getD, List.length_set, wrapU, pw1, pw7, pw8, pw16, pw23, pw32, pw52, Holds] <;> first | omega | ((repeat' apply And.intro) <;> first | omega | (intros; rfl))) | (simp [AllC, AllP, addN, cloL, clo, mrgL, mrg, wrapU, Holds] <;> omega)) (.int .i64 (n + 1 : Nat)) (.int (by omega)) rfl ⟨rfl, g3, rfl⟩
    · have z2 := Classical.not_not.1 z2
      have nl := next_len z2.1
      refine go_callS W 0 300 [0, 1] rfl (by first | exact True.intro | (simp only [AllC, AllP, addN, Int.toNat_natCast, true_and, and_true, Option.getD, List.length_set, wrapU, pw1, pw7, pw8, pw16, pw23, pw32, pw52, Holds] <;> first | omega | ((repeat' apply And.intro) <;> first | omega | (intros; rfl))) | (simp [AllC, AllP, addN, cloL, clo, mrgL, mrg, wrapU, Holds] <;> omega)) (rNext_ok q2 g3) rfl rfl ⟨rfl, fun _ _ => rfl, trivial⟩ ⟨rfl, rfl, trivial⟩ rfl ?_
      rintro _ _ ⟨rfl, rfl⟩
      refine ⟨_, _, rfl, rfl, ?_⟩
      have nx := ih2 (k, n + 1, q2.next, g3) ⟨⟨by dsimp only; omega, .inl (by simp only [need, rankM] at *; omega), hq.shr (shr_next _), by dsimp only at *; omega⟩, he.trans (eA z2)⟩ (by dsimp only; omega)
      dsimp only [LayI] at nx
      refine bd W 0 2 [0, 3] rfl rfl rfl rfl rfl (nx)
  · have e : pI (k + 1) (.argsL n) ⟨ts, ns, true, mn⟩ = (n, ⟨ts, ns, true, mn⟩) := by rw [pI, if_pos rfl]
    rw [he, e]
    refine go_callS W 0 300 [0, 1] rfl (by first | exact True.intro | (simp only [AllC, AllP, addN, Int.toNat_natCast, true_and, and_true, Option.getD, List.length_set, wrapU, pw1, pw7, pw8, pw16, pw23, pw32, pw52, Holds] <;> first | omega | ((repeat' apply And.intro) <;> first | omega | (intros; rfl))) | (simp [AllC, AllP, addN, cloL, clo, mrgL, mrg, wrapU, Holds] <;> omega)) (rTake_ok ⟨ts, ns, true, mn⟩ g2 wClose) rfl rfl ⟨rfl, fun _ _ => rfl, trivial⟩ ⟨rfl, rfl, trivial⟩ rfl ?_
    rintro _ _ ⟨rfl, rfl⟩
    refine ⟨_, _, rfl, rfl, ?_⟩
    refine go_retS W 0 300 2 rfl (by first | exact True.intro | (simp only [AllC, AllP, addN, Int.toNat_natCast, true_and, and_true, Option.getD, List.length_set, wrapU, pw1, pw7, pw8, pw16, pw23, pw32, pw52, Holds] <;> first | omega | ((repeat' apply And.intro) <;> first | omega | (intros; rfl))) | (simp [AllC, AllP, addN, cloL, clo, mrgL, mrg, wrapU, Holds] <;> omega)) rfl (by first | exact True.intro | (simp only [AllC, AllP, addN, Int.toNat_natCast, true_and, and_true, Option.getD, List.length_set, wrapU, pw1, pw7, pw8, pw16, pw23, pw32, pw52, Holds] <;> first | omega | ((repeat' apply And.intro) <;> first | omega | (intros; rfl))) | (simp [AllC, AllP, addN, cloL, clo, mrgL, mrg, wrapU, Holds] <;> omega)) (.int .i64 (n : Nat)) .refl rfl ⟨rfl, g2, rfl⟩
end Pf
/- What a block holds is said more weakly. -/
namespace Pf
open Go
variable {P : Program} {TT : TypeId → Option TI} {f N n0 : Nat} {k : List Item} {T : Env} {H : AHeap} {R : AV → AHeap → Prop}

theorem lsr_back {b g : Nat} {rows rows2 : List (List AV)} {H2 : AHeap} (e1 : nthM H b = some (.lst g rows)) (e2 : setM (.lst g rows2) H b = some H2) :
    H2.length = H.length ∧ ∀ b' blk', H2[b']? = some blk' → (b' = b ∧ blk' = .lst g rows2) ∨ H[b']? = some blk' := by
  rw [nthM_eq] at e1
  rw [setM_eq] at e2
  split at e2
  · simp only [Option.some.injEq] at e2
    subst e2
    refine ⟨by simp, fun b' blk' h => ?_⟩
    rw [List.getElem?_set] at h
    split at h
    · rename_i hb
      subst hb
      simp only [Option.some.injEq] at h
      exact .inl ⟨rfl, h.symm⟩
    · exact .inr h
  · cases e2
theorem lsr_view {b g : Nat} {rows rows2 : List (List AV)} {H2 : AHeap} (e1 : nthM H b = some (.lst g rows)) (e2 : setM (.lst g rows2) H b = some H2) (hw : (ABlk.lst g rows2).width = (ABlk.lst g rows).width) {b' g' n' : Nat} {blk' : ABlk} {row' : Nat → List AV}
    (h1 : H2[b']? = some blk') (h2 : blk'.view = some (g', n', row')) : ∃ blk n row, H[b']? = some blk ∧ blk.view = some (g', n, row) ∧ blk'.width = blk.width := by
  rcases (lsr_back e1 e2).2 b' blk' h1 with ⟨rfl, rfl⟩ | h
  · rw [nthM_eq] at e1
    simp only [ABlk.view, Option.some.injEq, Prod.mk.injEq] at h2
    obtain ⟨rfl, _, _⟩ := h2
    exact ⟨_, _, _, e1, rfl, hw⟩
  · exact ⟨_, _, _, h, h2, rfl⟩
theorem lsr_img {b g : Nat} {rows rows2 : List (List AV)} {H2 : AHeap} {β : BMap} (e1 : nthM H b = some (.lst g rows)) (e2 : setM (.lst g rows2) H b = some H2) {cb : Nat} (h : Img β H2 cb) : Img β H cb := by
  obtain ⟨b', blk', g', n', row', L, h1, h2, h3, h4⟩ := h
  rcases (lsr_back e1 e2).2 b' blk' h1 with ⟨rfl, rfl⟩ | h
  · rw [nthM_eq] at e1
    cases h2
    exact ⟨_, _, _, _, _, L, e1, rfl, h3, h4⟩
  · exact ⟨b', blk', g', n', row', L, h, h2, h3, h4⟩
theorem RelH.lsr {FM : FMem} {β : BMap} {w : World} (hh : RelH FM β H w) {b g : Nat} {rows rows2 : List (List AV)} {H2 : AHeap} (e1 : nthM H b = some (.lst g rows)) (e2 : setM (.lst g rows2) H b = some H2)
    (hw : (ABlk.lst g rows2).width = (ABlk.lst g rows).width) (hl : rows2.length = rows.length) (hs : ∀ i, i < rows.length → Subs (rows.getD i []) (rows2.getD i [])) : RelH FM β H2 w where
  mem b' blk' g' n' row' h1 h2 := by
    rcases (lsr_back e1 e2).2 b' blk' h1 with ⟨rfl, rfl⟩ | h
    · rw [nthM_eq] at e1
      simp only [ABlk.view, Option.some.injEq, Prod.mk.injEq] at h2
      obtain ⟨rfl, rfl, rfl⟩ := h2
      obtain ⟨lo, q1, q2⟩ := hh.mem _ _ _ _ _ e1 rfl
      refine ⟨lo, q1, ?_⟩
      cases lo with
      | none =>
        have : rows.length = 0 := q2
        show rows2.length = 0
        omega
      | some L =>
        obtain ⟨z1, z2, z3, ⟨c, el, fr, y1, y2, y3, y4, y5⟩, z5⟩ := q2
        refine ⟨z1, by omega, by omega, ⟨c, el, fr, y1, y2, y3, y4, fun r r1 r2 => ?_⟩, z5⟩
        have hr : r < rows.length := by omega
        obtain ⟨x1, x2⟩ := y5 r r1 hr
        have s := hs r hr
        refine ⟨s.len.trans x1, fun j hj => ?_⟩
        obtain ⟨cv, v1, v2⟩ := x2 j (by rw [← s.len]; exact hj)
        exact ⟨cv, v1, s.get j (by rw [← s.len]; exact hj) hj _ _ _ v2⟩
    · exact hh.mem _ _ _ _ _ h h2
  inj b1 b2 blk1 blk2 g1 g2 n1 n2 row1 row2 L1 L2 h1 h2 h3 h4 h5 h6 h7 := by
    obtain ⟨c1, d1, f1, p1, p2, _⟩ := lsr_view e1 e2 hw h1 h2
    obtain ⟨c2, d2, f2, q1, q2, _⟩ := lsr_view e1 e2 hw h4 h5
    exact hh.inj _ _ _ _ _ _ _ _ _ _ _ _ p1 p2 h3 q1 q2 h6 h7
  wid b1 blk1 g1 n1 row1 L h1 h2 h3 := by
    obtain ⟨c1, d1, f1, p1, p2, p3⟩ := lsr_view e1 e2 hw h1 h2
    rw [p3]
    exact hh.wid _ _ _ _ _ _ p1 p2 h3
  fm := hh.fm
  dom b1 g1 lo h := by
    obtain ⟨q1, q2⟩ := hh.dom b1 g1 lo h
    refine ⟨by rw [(lsr_back e1 e2).1]; exact q1, fun blk' g' n' row' h1 h2 => ?_⟩
    obtain ⟨c1, d1, f1, p1, p2, _⟩ := lsr_view e1 e2 hw h1 h2
    exact q2 _ _ _ _ p1 p2
  gk := hh.gk
  mp := hh.mp.keep (fun _ _ _ h => h) (fun b' vb sh es h => by
    rcases (lsr_back e1 e2).2 b' _ h with ⟨_, h⟩ | h
    · cases h
    · exact h) fun _ _ _ h => h
theorem Ext.lsr {FM : FMem} {β : BMap} {w : World} {b g : Nat} {rows rows2 : List (List AV)} {H2 : AHeap} (e1 : nthM H b = some (.lst g rows)) (e2 : setM (.lst g rows2) H b = some H2) : Ext FM β H w FM β H2 w where
  fm _ _ _ h := h
  bm _ _ _ h := h
  size := Nat.le_refl _
  img cb _ h := lsr_img e1 e2 h
  frame _ _ _ := rfl
  fmn _ _ _ h := .inl h
  len := by rw [(lsr_back e1 e2).1]; exact Nat.le_refl _
  os := rfl
  output := rfl
  tape := rfl
/-- The block 'b' is said to hold rows2, which is so wherever it holds its rows. -/
theorem go_lst (b : Nat) (rows2 : List (List AV)) {g : Nat} {rows : List (List AV)} {H2 : AHeap} (e1 : nthM H b = some (.lst g rows)) (e2 : setM (.lst g rows2) H b = some H2)
    (hw : (ABlk.lst g rows2).width = (ABlk.lst g rows).width) (hl : rows2.length = rows.length) (hs : ∀ i, i < rows.length → Subs (rows.getD i []) (rows2.getD i [])) (h : AGo P f N n0 k T H2 R) : AGo P f N n0 k T H R := by
  intro FM β bf cs a w a1 a2 a3 a4 hT hH hn0
  exact Ext.go (Ext.lsr e1 e2) hn0 (h FM β bf cs a w a1 a2 a3 a4 hT (hH.lsr e1 e2 hw hl hs)) (b := bf) (.refl _ _)
end Pf
