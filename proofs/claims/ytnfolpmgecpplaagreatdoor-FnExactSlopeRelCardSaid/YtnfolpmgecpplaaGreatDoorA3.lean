/- Part 3 of the lemmas that the claim rests on: an abstract machine over the model, what it is sound for, and the contracts of the functions that the law reaches. -/
import Derived.Test.YtnfolpmgecpplaaGreatDoorA2
import Derived.Sort.Grow
import Derived.Sort.EncStr
import Derived.Calls
import Derived.Lib.ItoaNum
set_option linter.unusedSimpArgs false
set_option linter.unusedVariables false
set_option maxHeartbeats 4000000
/- Literals: the model's side -/
namespace Pf
open Go Go.Proofs
/-- Behind 'e' and its sign: the place a, the sign m. -/
def powA (s : List UInt8) (a : Nat) (m : Prop) : Prop := run s a ≠ 0 ∧ run s a ≤ 3 ∧ ¬ (s.getD a 0 = 48 ∧ (1 < run s a ∨ m)) ∧
  ¬ (run s a = 3 ∧ ¬ (Op.bytesLess ((s.take (a + run s a)).drop a) [52, 48, 48] = true ∨ (s.take (a + run s a)).drop a = [52, 48, 48])) ∧ a + run s a = s.length
theorem run_le (s : List UInt8) (a : Nat) (h : a ≤ s.length) : a + run s a ≤ s.length := by
  have := (List.takeWhile_prefix (l := s.drop a) dB).length_le
  rw [List.length_drop] at this
  have e := run_dg s a
  have : (Dg (s.drop a)).length ≤ s.length - a := this
  omega
theorem powA_ok {s t : List UInt8} {a : Nat} {m : Prop} (ha : a ≤ s.length) (hu : s.drop a = cutP t 45) (hm : m ↔ t.head? = some 45) : powE1 t ↔ powA s a m := by
  have h1 := run_dg s a
  have h2 := drop_rg s a
  have h3 := run_le s a ha
  unfold powE1 powA
  rw [← hu, ← hm]
  have e1 : (s.take (a + run s a)).drop a = Dg (s.drop a) := by
    rw [List.drop_take, Nat.add_sub_cancel_left]
    conv => lhs; rw [← dg_app (s.drop a)]
    rw [h1, List.take_left']
    rfl
  have e2 : (s.drop a).getD 0 0 = s.getD a 0 := by simp [List.getD_eq_getElem?_getD]
  have e3 : Rg (s.drop a) = [] ↔ a + run s a = s.length := by
    rw [← h2, List.drop_eq_nil_iff]
    omega
  have e4 : Dg (s.drop a) ≠ [] ↔ run s a ≠ 0 := by rw [h1, ne_eq, ne_eq, List.length_eq_zero_iff]
  rw [e1, e2, e3, e4, h1]
theorem drop_cons {s : List UInt8} {a : Nat} (h : a < s.length) : s.drop a = s.getD a 0 :: s.drop (a + 1) := by
  rw [List.drop_eq_getElem_cons h, List.getD_eq_getElem?_getD]
  simp [h]
theorem powE_yes {s : List UInt8} {a : Nat} (h : a < s.length) (e : s.getD a 0 = 101) : powE (s.drop a) ↔ powE1 (s.drop (a + 1)) := by
  rw [drop_cons h, e]; simp [powE]
theorem powE_no {s : List UInt8} {a : Nat} (h : a < s.length) (e : ¬ s.getD a 0 = 101) : ¬ powE (s.drop a) := by
  rw [drop_cons h]
  intro k
  have := k.2 (by simpa using e)
  cases this
theorem powE_nil {s : List UInt8} {a : Nat} (h : s.length ≤ a) : powE (s.drop a) := by
  rw [List.drop_eq_nil_iff.2 h]; simp [powE]
theorem fracE_yes {s : List UInt8} {n : Nat} (h : n < s.length) (e : s.getD n 0 = 46) : fracE (s.drop n) ↔ run s (n + 1) ≠ 0 ∧ powE (s.drop (n + 1 + run s (n + 1))) := by
  have h1 := run_dg s (n + 1)
  have h2 := drop_rg s (n + 1)
  rw [drop_cons h, e]
  simp only [fracE, List.head?_cons, List.drop_succ_cons, List.drop_zero, forall_const, ne_eq, not_true_eq_false, false_implies, and_true]
  rw [h2, h1, List.length_eq_zero_iff]
theorem fracE_no {s : List UInt8} {n : Nat} (e : ¬ s.getD n 0 = 46) : fracE (s.drop n) ↔ powE (s.drop n) := by
  have : (s.drop n).head? ≠ some 46 := by
    by_cases h : n < s.length
    · rw [ne_eq, head_at h]; exact e
    · rw [List.drop_eq_nil_iff.2 (by omega)]; simp
  exact ⟨fun k => k.2 this, fun k => ⟨fun e => absurd e this, fun _ => k⟩⟩
theorem cutP_yes {s : List UInt8} {a : Nat} (h : a < s.length) (e : s.getD a 0 = 45) : s.drop (a + 1) = cutP (s.drop a) 45 := by
  unfold cutP
  rw [if_pos ((head_at h 45).2 e), List.drop_drop]
theorem cutP_no {s : List UInt8} {a : Nat} (h : a < s.length) (e : ¬ s.getD a 0 = 45) : s.drop a = cutP (s.drop a) 45 := by
  unfold cutP
  rw [if_neg fun k => e ((head_at h 45).1 k)]
theorem specLangNumOk_ok (s : List UInt8) (hl : s.length ≤ 281474976710656) : AFunP Tryz.prog 85 [.str s] (· = .pr (litP s ∧ s.length ≤ 60)) := by
  rw [← num_ok s]
  have k0 := l11Run_ok s 0 (by omega) (by omega)
  have r0 : s.drop (run s 0) = Rg s := by have := drop_rg s 0; rwa [Nat.zero_add] at this
  have t0 := run_le s 0 (by omega)
  rw [Nat.zero_add] at t0
  have w0 : run s 0 ≠ 0 → (wd (Dg s) ↔ ¬ (1 < run s 0 ∧ s.getD 0 0 = 48)) := by
    intro h
    have d0 : run s 0 = (Dg s).length := rfl
    have e0 : s.getD 0 0 = (Dg s).getD 0 0 := by
      conv => lhs; rw [← dg_app s]
      simp only [List.getD_eq_getElem?_getD]
      rw [List.getElem?_append_left (by omega)]
    rw [d0] at h ⊢
    rw [e0]
    have ha := dg_all s
    unfold wd
    clear e0
    revert h
    match Dg s, ha with
    | [], _ => intro h; exact absurd rfl h
    | [a], ha => intro h; simp at ha; simp [ha]; exact Decidable.em _
    | a :: b :: l, ha => intro h; simp at ha; simp [ha]; exact fun _ => ha.2.2
  have w1 : wd (Dg s) → run s 0 ≠ 0 := fun k => by
    have d0 : run s 0 = (Dg s).length := rfl
    rw [d0, ne_eq, List.length_eq_zero_iff]
    exact k.1.1
  refine afun_of Tryz.func85 Tryz.call85 rfl Tryz.ntmps85 rfl ?_
  have W : Walk Tryz.prog TT 85 _ := Walk.of TT_ok Tryz.func85 Tryz.results85
  refine ce W 0 rfl rfl (k0) rfl ?_
  generalize run s 0 = n at *
  refine sp W 0 rfl rfl rfl (fun h1 => ?_) (fun h1 => ?_)
  · refine rp W 0 rfl rfl rfl (.no (fun k => by have := k.2; omega))
  refine sp W 0 rfl rfl rfl (fun h2 => ?_) (fun h2 => ?_)
  · refine rp W 0 rfl rfl rfl (.no (fun k => w1 k.1.1 (by omega)))
  refine sp W 0 rfl rfl rfl (fun h3 => ?_) (fun h3 => ?_)
  · refine sp W 0 rfl rfl rfl (fun h4 => ?_) (fun h4 => ?_)
    · have h4 := (u8_eq (c := 48)).1 h4
      refine rp W 0 rfl rfl rfl (.no (fun q => (w0 (by omega)).1 q.1.1 ⟨by omega, h4⟩))
    · have hw := (w0 (by omega)).2 fun k => h4 ((u8_eq (c := 48)).2 k.2)
      have hq0 : numE s ↔ fracE (Rg s) := ⟨fun e => e.2, fun e => ⟨hw, e⟩⟩
      refine sp W 0 rfl rfl rfl (fun p1 => ?_) (fun p1 => ?_)
      · refine sp W 0 rfl rfl rfl (fun p2 => ?_) (fun p2 => ?_)
        · rw [show (n : Int).toNat = n by omega] at p2
          have p2 := (u8_eq (c := 46)).1 p2
          have kk : AFunP Tryz.prog 94 [.str s, .int .i64 ((n : Int) + 1)] (· = .int .i64 (run s (n + 1) : Nat)) := l11Run_ok s (n + 1) (by omega) (by omega)
          have tk := run_le s (n + 1) (by omega)
          have hf : numE s ↔ run s (n + 1) ≠ 0 ∧ powE (s.drop (n + 1 + run s (n + 1))) := by
            refine hq0.trans ?_
            rw [← r0, fracE_yes (by omega) p2]
          refine ce W 0 rfl rfl (kk) rfl ?_
          generalize run s (n + 1) = j at *
          refine sp W 0 rfl rfl rfl (fun p5 => ?_) (fun p5 => ?_)
          · refine rp W 0 rfl rfl rfl (.no (fun q => (hf.1 q.1).1 (by omega)))
          have hq : numE s ↔ powE (s.drop (n + 1 + j)) := ⟨fun e => (hf.1 e).2, fun e => hf.2 ⟨by omega, e⟩⟩
          refine sp W 0 rfl rfl rfl (fun p3 => ?_) (fun p3 => ?_)
          · refine sp W 0 rfl rfl rfl (fun p4 => ?_) (fun p4 => ?_)
            · rw [show ((n : Int) + 1 + (j : Int)).toNat = n + 1 + j by omega] at p4
              have hq2 : numE s ↔ powE1 (s.drop (n + 1 + j + 1)) := hq.trans (powE_yes (by omega) ((u8_eq (c := 101)).1 p4))
              refine sp W 0 rfl rfl rfl (fun m1 => ?_) (fun m1 => ?_)
              · refine sp W 0 rfl rfl rfl (fun m2 => ?_) (fun m2 => ?_)
                · rw [show ((n : Int) + 1 + (j : Int) + 1).toNat = n + 1 + j + 1 by omega] at m2
                  have hu : s.drop (n + 1 + j + 1 + 1) = cutP (s.drop (n + 1 + j + 1)) 45 := cutP_yes (by omega) ((u8_eq (c := 45)).1 m2)
                  have hm : True ↔ (s.drop (n + 1 + j + 1)).head? = some 45 := by rw [head_at (by omega)]; exact ⟨fun _ => (u8_eq (c := 45)).1 m2, fun _ => trivial⟩
                  rw [← show ((n : Int) + 1 + (j : Int) + 1).toNat = n + 1 + j + 1 by omega] at m2
                  have kr : AFunP Tryz.prog 94 [.str s, .int .i64 ((n : Int) + 1 + (j : Int) + 1 + 1)] (· = .int .i64 (run s (n + 1 + j + 1 + 1) : Nat)) := by
                    have := l11Run_ok s (n + 1 + j + 1 + 1) (by omega) (by omega)
                    rwa [show ((n + 1 + j + 1 + 1 : Nat) : Int) = (n : Int) + 1 + (j : Int) + 1 + 1 by omega] at this
                  have tr := run_le s (n + 1 + j + 1 + 1) (by omega)
                  have hP := hq2.trans (powA_ok (a := n + 1 + j + 1 + 1) (m := True) (by omega) hu hm)
                  unfold powA at hP
                  refine ce W 0 rfl rfl (kr) rfl ?_
                  generalize run s (n + 1 + j + 1 + 1) = k at *
                  refine sp W 0 rfl rfl rfl (fun c1 => ?_) (fun c1 => ?_)
                  · refine rp W 0 rfl rfl rfl (.no (fun q => (hP.1 q.1).1 (by omega)))
                  refine sp W 0 rfl rfl rfl (fun c2 => ?_) (fun c2 => ?_)
                  · refine rp W 0 rfl rfl rfl (.no (fun q => by have := (hP.1 q.1).2.1; omega))
                  refine sp W 0 rfl rfl rfl (fun c3 => ?_) (fun c3 => ?_)
                  · have c3 : s.getD (n + 1 + j + 1 + 1) 0 = 48 := by rw [show ((n : Int) + 1 + (j : Int) + 1 + 1).toNat = n + 1 + j + 1 + 1 by omega] at c3; exact (u8_eq (c := 48)).1 c3
                    refine sp W 0 rfl rfl rfl (fun c4 => ?_) (fun c4 => ?_)
                    · refine rp W 0 rfl rfl rfl (.no (fun q => (hP.1 q.1).2.2.1 ⟨c3, .inl (by omega)⟩))
                    · refine sp W 0 rfl rfl rfl (fun c5 => ?_) (fun c5 => ?_)
                      · refine rp W 0 rfl rfl rfl (.no (fun q => (hP.1 q.1).2.2.1 ⟨c3, .inr trivial⟩))
                      · exact absurd m2 c5
                  · have c3 : ¬ s.getD (n + 1 + j + 1 + 1) 0 = 48 := fun e => c3 (by rw [show ((n : Int) + 1 + (j : Int) + 1 + 1).toNat = n + 1 + j + 1 + 1 by omega]; exact (u8_eq (c := 48)).2 e)
                    have f3 : ¬ (s.getD (n + 1 + j + 1 + 1) 0 = 48 ∧ (1 < k ∨ True)) := fun q => c3 q.1
                    refine sp W 0 rfl rfl rfl (fun c6 => ?_) (fun c6 => ?_)
                    · refine sp W 0 rfl rfl rfl (fun c7 => ?_) (fun c7 => ?_)
                      · rw [show ((n : Int) + 1 + (j : Int) + 1 + 1).toNat = n + 1 + j + 1 + 1 by omega, show (((n : Int) + 1 + (j : Int) + 1 + 1) + (k : Int)).toNat = n + 1 + j + 1 + 1 + k by omega] at c7
                        refine rp W 0 rfl rfl rfl (.no (fun q => (hP.1 q.1).2.2.2.1 ⟨by omega, c7⟩))
                      · rw [show ((n : Int) + 1 + (j : Int) + 1 + 1).toNat = n + 1 + j + 1 + 1 by omega, show (((n : Int) + 1 + (j : Int) + 1 + 1) + (k : Int)).toNat = n + 1 + j + 1 + 1 + k by omega] at c7
                        have f4 : ¬ (k = 3 ∧ ¬ (Op.bytesLess ((s.take (n + 1 + j + 1 + 1 + k)).drop (n + 1 + j + 1 + 1)) [52, 48, 48] = true ∨ (s.take (n + 1 + j + 1 + 1 + k)).drop (n + 1 + j + 1 + 1) = [52, 48, 48])) := fun q => c7 q.2
                        refine rp W 0 rfl rfl rfl (.pr ⟨fun e => ⟨hP.2 ⟨by omega, by omega, f3, f4, by omega⟩, by omega⟩, fun q => by have := (hP.1 q.1).2.2.2.2; omega⟩)
                    · have f4 : ¬ (k = 3 ∧ ¬ (Op.bytesLess ((s.take (n + 1 + j + 1 + 1 + k)).drop (n + 1 + j + 1 + 1)) [52, 48, 48] = true ∨ (s.take (n + 1 + j + 1 + 1 + k)).drop (n + 1 + j + 1 + 1) = [52, 48, 48])) := fun q => by have := q.1; omega
                      refine rp W 0 rfl rfl rfl (.pr ⟨fun e => ⟨hP.2 ⟨by omega, by omega, f3, f4, by omega⟩, by omega⟩, fun q => by have := (hP.1 q.1).2.2.2.2; omega⟩)
                · rw [show ((n : Int) + 1 + (j : Int) + 1).toNat = n + 1 + j + 1 by omega] at m2
                  have hu : s.drop (n + 1 + j + 1) = cutP (s.drop (n + 1 + j + 1)) 45 := cutP_no (by omega) fun e => m2 ((u8_eq (c := 45)).2 e)
                  have hm : False ↔ (s.drop (n + 1 + j + 1)).head? = some 45 := by rw [head_at (by omega)]; exact ⟨False.elim, fun e => m2 ((u8_eq (c := 45)).2 e)⟩
                  rw [← show ((n : Int) + 1 + (j : Int) + 1).toNat = n + 1 + j + 1 by omega] at m2
                  have kr : AFunP Tryz.prog 94 [.str s, .int .i64 ((n : Int) + 1 + (j : Int) + 1)] (· = .int .i64 (run s (n + 1 + j + 1) : Nat)) := by
                    have := l11Run_ok s (n + 1 + j + 1) (by omega) (by omega)
                    rwa [show ((n + 1 + j + 1 : Nat) : Int) = (n : Int) + 1 + (j : Int) + 1 by omega] at this
                  have tr := run_le s (n + 1 + j + 1) (by omega)
                  have hP := hq2.trans (powA_ok (a := n + 1 + j + 1) (m := False) (by omega) hu hm)
                  unfold powA at hP
                  refine ce W 0 rfl rfl (kr) rfl ?_
                  generalize run s (n + 1 + j + 1) = k at *
                  refine sp W 0 rfl rfl rfl (fun c1 => ?_) (fun c1 => ?_)
                  · refine rp W 0 rfl rfl rfl (.no (fun q => (hP.1 q.1).1 (by omega)))
                  refine sp W 0 rfl rfl rfl (fun c2 => ?_) (fun c2 => ?_)
                  · refine rp W 0 rfl rfl rfl (.no (fun q => by have := (hP.1 q.1).2.1; omega))
                  refine sp W 0 rfl rfl rfl (fun c3 => ?_) (fun c3 => ?_)
                  · have c3 : s.getD (n + 1 + j + 1) 0 = 48 := by rw [show ((n : Int) + 1 + (j : Int) + 1).toNat = n + 1 + j + 1 by omega] at c3; exact (u8_eq (c := 48)).1 c3
                    refine sp W 0 rfl rfl rfl (fun c4 => ?_) (fun c4 => ?_)
                    · refine rp W 0 rfl rfl rfl (.no (fun q => (hP.1 q.1).2.2.1 ⟨c3, .inl (by omega)⟩))
                    · refine sp W 0 rfl rfl rfl (fun c5 => ?_) (fun c5 => ?_)
                      · exact absurd c5 m2
                      · have f3 : ¬ (s.getD (n + 1 + j + 1) 0 = 48 ∧ (1 < k ∨ False)) := fun q => q.2.elim (fun q => by omega) id
                        refine sp W 0 rfl rfl rfl (fun c6 => ?_) (fun c6 => ?_)
                        · refine sp W 0 rfl rfl rfl (fun c7 => ?_) (fun c7 => ?_)
                          · rw [show ((n : Int) + 1 + (j : Int) + 1).toNat = n + 1 + j + 1 by omega, show (((n : Int) + 1 + (j : Int) + 1) + (k : Int)).toNat = n + 1 + j + 1 + k by omega] at c7
                            refine rp W 0 rfl rfl rfl (.no (fun q => (hP.1 q.1).2.2.2.1 ⟨by omega, c7⟩))
                          · rw [show ((n : Int) + 1 + (j : Int) + 1).toNat = n + 1 + j + 1 by omega, show (((n : Int) + 1 + (j : Int) + 1) + (k : Int)).toNat = n + 1 + j + 1 + k by omega] at c7
                            have f4 : ¬ (k = 3 ∧ ¬ (Op.bytesLess ((s.take (n + 1 + j + 1 + k)).drop (n + 1 + j + 1)) [52, 48, 48] = true ∨ (s.take (n + 1 + j + 1 + k)).drop (n + 1 + j + 1) = [52, 48, 48])) := fun q => c7 q.2
                            refine rp W 0 rfl rfl rfl (.pr ⟨fun e => ⟨hP.2 ⟨by omega, by omega, f3, f4, by omega⟩, by omega⟩, fun q => by have := (hP.1 q.1).2.2.2.2; omega⟩)
                        · have f4 : ¬ (k = 3 ∧ ¬ (Op.bytesLess ((s.take (n + 1 + j + 1 + k)).drop (n + 1 + j + 1)) [52, 48, 48] = true ∨ (s.take (n + 1 + j + 1 + k)).drop (n + 1 + j + 1) = [52, 48, 48])) := fun q => by have := q.1; omega
                          refine rp W 0 rfl rfl rfl (.pr ⟨fun e => ⟨hP.2 ⟨by omega, by omega, f3, f4, by omega⟩, by omega⟩, fun q => by have := (hP.1 q.1).2.2.2.2; omega⟩)
                  · have c3 : ¬ s.getD (n + 1 + j + 1) 0 = 48 := fun e => c3 (by rw [show ((n : Int) + 1 + (j : Int) + 1).toNat = n + 1 + j + 1 by omega]; exact (u8_eq (c := 48)).2 e)
                    have f3 : ¬ (s.getD (n + 1 + j + 1) 0 = 48 ∧ (1 < k ∨ False)) := fun q => c3 q.1
                    refine sp W 0 rfl rfl rfl (fun c6 => ?_) (fun c6 => ?_)
                    · refine sp W 0 rfl rfl rfl (fun c7 => ?_) (fun c7 => ?_)
                      · rw [show ((n : Int) + 1 + (j : Int) + 1).toNat = n + 1 + j + 1 by omega, show (((n : Int) + 1 + (j : Int) + 1) + (k : Int)).toNat = n + 1 + j + 1 + k by omega] at c7
                        refine rp W 0 rfl rfl rfl (.no (fun q => (hP.1 q.1).2.2.2.1 ⟨by omega, c7⟩))
                      · rw [show ((n : Int) + 1 + (j : Int) + 1).toNat = n + 1 + j + 1 by omega, show (((n : Int) + 1 + (j : Int) + 1) + (k : Int)).toNat = n + 1 + j + 1 + k by omega] at c7
                        have f4 : ¬ (k = 3 ∧ ¬ (Op.bytesLess ((s.take (n + 1 + j + 1 + k)).drop (n + 1 + j + 1)) [52, 48, 48] = true ∨ (s.take (n + 1 + j + 1 + k)).drop (n + 1 + j + 1) = [52, 48, 48])) := fun q => c7 q.2
                        refine rp W 0 rfl rfl rfl (.pr ⟨fun e => ⟨hP.2 ⟨by omega, by omega, f3, f4, by omega⟩, by omega⟩, fun q => by have := (hP.1 q.1).2.2.2.2; omega⟩)
                    · have f4 : ¬ (k = 3 ∧ ¬ (Op.bytesLess ((s.take (n + 1 + j + 1 + k)).drop (n + 1 + j + 1)) [52, 48, 48] = true ∨ (s.take (n + 1 + j + 1 + k)).drop (n + 1 + j + 1) = [52, 48, 48])) := fun q => by have := q.1; omega
                      refine rp W 0 rfl rfl rfl (.pr ⟨fun e => ⟨hP.2 ⟨by omega, by omega, f3, f4, by omega⟩, by omega⟩, fun q => by have := (hP.1 q.1).2.2.2.2; omega⟩)
              · have e0 : s.drop (n + 1 + j + 1) = [] := List.drop_eq_nil_iff.2 (by omega)
                have hu : s.drop (n + 1 + j + 1) = cutP (s.drop (n + 1 + j + 1)) 45 := by rw [e0]; rfl
                have hm : False ↔ (s.drop (n + 1 + j + 1)).head? = some 45 := by rw [e0]; simp
                have kr : AFunP Tryz.prog 94 [.str s, .int .i64 ((n : Int) + 1 + (j : Int) + 1)] (· = .int .i64 (run s (n + 1 + j + 1) : Nat)) := by
                  have := l11Run_ok s (n + 1 + j + 1) (by omega) (by omega)
                  rwa [show ((n + 1 + j + 1 : Nat) : Int) = (n : Int) + 1 + (j : Int) + 1 by omega] at this
                have tr := run_le s (n + 1 + j + 1) (by omega)
                have hP := hq2.trans (powA_ok (a := n + 1 + j + 1) (m := False) (by omega) hu hm)
                unfold powA at hP
                refine ce W 0 rfl rfl (kr) rfl ?_
                generalize run s (n + 1 + j + 1) = k at *
                refine sp W 0 rfl rfl rfl (fun c1 => ?_) (fun c1 => ?_)
                · refine rp W 0 rfl rfl rfl (.no (fun q => (hP.1 q.1).1 (by omega)))
                refine sp W 0 rfl rfl rfl (fun c2 => ?_) (fun c2 => ?_)
                · refine rp W 0 rfl rfl rfl (.no (fun q => by have := (hP.1 q.1).2.1; omega))
                refine sp W 0 rfl rfl rfl (fun c3 => ?_) (fun c3 => ?_)
                · have c3 : s.getD (n + 1 + j + 1) 0 = 48 := by rw [show ((n : Int) + 1 + (j : Int) + 1).toNat = n + 1 + j + 1 by omega] at c3; exact (u8_eq (c := 48)).1 c3
                  refine sp W 0 rfl rfl rfl (fun c4 => ?_) (fun c4 => ?_)
                  · refine rp W 0 rfl rfl rfl (.no (fun q => (hP.1 q.1).2.2.1 ⟨c3, .inl (by omega)⟩))
                  · have f3 : ¬ (s.getD (n + 1 + j + 1) 0 = 48 ∧ (1 < k ∨ False)) := fun q => q.2.elim (fun q => by omega) id
                    refine sp W 0 rfl rfl rfl (fun c6 => ?_) (fun c6 => ?_)
                    · refine sp W 0 rfl rfl rfl (fun c7 => ?_) (fun c7 => ?_)
                      · rw [show ((n : Int) + 1 + (j : Int) + 1).toNat = n + 1 + j + 1 by omega, show (((n : Int) + 1 + (j : Int) + 1) + (k : Int)).toNat = n + 1 + j + 1 + k by omega] at c7
                        refine rp W 0 rfl rfl rfl (.no (fun q => (hP.1 q.1).2.2.2.1 ⟨by omega, c7⟩))
                      · rw [show ((n : Int) + 1 + (j : Int) + 1).toNat = n + 1 + j + 1 by omega, show (((n : Int) + 1 + (j : Int) + 1) + (k : Int)).toNat = n + 1 + j + 1 + k by omega] at c7
                        have f4 : ¬ (k = 3 ∧ ¬ (Op.bytesLess ((s.take (n + 1 + j + 1 + k)).drop (n + 1 + j + 1)) [52, 48, 48] = true ∨ (s.take (n + 1 + j + 1 + k)).drop (n + 1 + j + 1) = [52, 48, 48])) := fun q => c7 q.2
                        refine rp W 0 rfl rfl rfl (.pr ⟨fun e => ⟨hP.2 ⟨by omega, by omega, f3, f4, by omega⟩, by omega⟩, fun q => by have := (hP.1 q.1).2.2.2.2; omega⟩)
                    · have f4 : ¬ (k = 3 ∧ ¬ (Op.bytesLess ((s.take (n + 1 + j + 1 + k)).drop (n + 1 + j + 1)) [52, 48, 48] = true ∨ (s.take (n + 1 + j + 1 + k)).drop (n + 1 + j + 1) = [52, 48, 48])) := fun q => by have := q.1; omega
                      refine rp W 0 rfl rfl rfl (.pr ⟨fun e => ⟨hP.2 ⟨by omega, by omega, f3, f4, by omega⟩, by omega⟩, fun q => by have := (hP.1 q.1).2.2.2.2; omega⟩)
                · have c3 : ¬ s.getD (n + 1 + j + 1) 0 = 48 := fun e => c3 (by rw [show ((n : Int) + 1 + (j : Int) + 1).toNat = n + 1 + j + 1 by omega]; exact (u8_eq (c := 48)).2 e)
                  have f3 : ¬ (s.getD (n + 1 + j + 1) 0 = 48 ∧ (1 < k ∨ False)) := fun q => c3 q.1
                  refine sp W 0 rfl rfl rfl (fun c6 => ?_) (fun c6 => ?_)
                  · refine sp W 0 rfl rfl rfl (fun c7 => ?_) (fun c7 => ?_)
                    · rw [show ((n : Int) + 1 + (j : Int) + 1).toNat = n + 1 + j + 1 by omega, show (((n : Int) + 1 + (j : Int) + 1) + (k : Int)).toNat = n + 1 + j + 1 + k by omega] at c7
                      refine rp W 0 rfl rfl rfl (.no (fun q => (hP.1 q.1).2.2.2.1 ⟨by omega, c7⟩))
                    · rw [show ((n : Int) + 1 + (j : Int) + 1).toNat = n + 1 + j + 1 by omega, show (((n : Int) + 1 + (j : Int) + 1) + (k : Int)).toNat = n + 1 + j + 1 + k by omega] at c7
                      have f4 : ¬ (k = 3 ∧ ¬ (Op.bytesLess ((s.take (n + 1 + j + 1 + k)).drop (n + 1 + j + 1)) [52, 48, 48] = true ∨ (s.take (n + 1 + j + 1 + k)).drop (n + 1 + j + 1) = [52, 48, 48])) := fun q => c7 q.2
                      refine rp W 0 rfl rfl rfl (.pr ⟨fun e => ⟨hP.2 ⟨by omega, by omega, f3, f4, by omega⟩, by omega⟩, fun q => by have := (hP.1 q.1).2.2.2.2; omega⟩)
                  · have f4 : ¬ (k = 3 ∧ ¬ (Op.bytesLess ((s.take (n + 1 + j + 1 + k)).drop (n + 1 + j + 1)) [52, 48, 48] = true ∨ (s.take (n + 1 + j + 1 + k)).drop (n + 1 + j + 1) = [52, 48, 48])) := fun q => by have := q.1; omega
                    refine rp W 0 rfl rfl rfl (.pr ⟨fun e => ⟨hP.2 ⟨by omega, by omega, f3, f4, by omega⟩, by omega⟩, fun q => by have := (hP.1 q.1).2.2.2.2; omega⟩)
            · rw [show ((n : Int) + 1 + (j : Int)).toNat = n + 1 + j by omega] at p4
              have hn : ¬ numE s := fun e => powE_no (by omega) (fun e => p4 ((u8_eq (c := 101)).2 e)) (hq.1 e)
              refine rp W 0 rfl rfl rfl (.pr ⟨fun e => by omega, fun e => absurd e.1 hn⟩)
          · have hn : numE s := hq.2 (powE_nil (by omega))
            refine rp W 0 rfl rfl rfl (.pr ⟨fun e => ⟨hn, by omega⟩, fun e => by omega⟩)
        · rw [show (n : Int).toNat = n by omega] at p2
          have hq : numE s ↔ powE (s.drop n) := by
            refine hq0.trans ?_
            rw [← r0, fracE_no fun e => p2 ((u8_eq (c := 46)).2 e)]
          refine sp W 0 rfl rfl rfl (fun p3 => ?_) (fun p3 => ?_)
          · refine sp W 0 rfl rfl rfl (fun p4 => ?_) (fun p4 => ?_)
            · rw [show ((n : Int)).toNat = n by omega] at p4
              have hq2 : numE s ↔ powE1 (s.drop (n + 1)) := hq.trans (powE_yes (by omega) ((u8_eq (c := 101)).1 p4))
              refine sp W 0 rfl rfl rfl (fun m1 => ?_) (fun m1 => ?_)
              · refine sp W 0 rfl rfl rfl (fun m2 => ?_) (fun m2 => ?_)
                · rw [show ((n : Int) + 1).toNat = n + 1 by omega] at m2
                  have hu : s.drop (n + 1 + 1) = cutP (s.drop (n + 1)) 45 := cutP_yes (by omega) ((u8_eq (c := 45)).1 m2)
                  have hm : True ↔ (s.drop (n + 1)).head? = some 45 := by rw [head_at (by omega)]; exact ⟨fun _ => (u8_eq (c := 45)).1 m2, fun _ => trivial⟩
                  rw [← show ((n : Int) + 1).toNat = n + 1 by omega] at m2
                  have kr : AFunP Tryz.prog 94 [.str s, .int .i64 ((n : Int) + 1 + 1)] (· = .int .i64 (run s (n + 1 + 1) : Nat)) := by
                    have := l11Run_ok s (n + 1 + 1) (by omega) (by omega)
                    rwa [show ((n + 1 + 1 : Nat) : Int) = (n : Int) + 1 + 1 by omega] at this
                  have tr := run_le s (n + 1 + 1) (by omega)
                  have hP := hq2.trans (powA_ok (a := n + 1 + 1) (m := True) (by omega) hu hm)
                  unfold powA at hP
                  refine ce W 0 rfl rfl (kr) rfl ?_
                  generalize run s (n + 1 + 1) = k at *
                  refine sp W 0 rfl rfl rfl (fun c1 => ?_) (fun c1 => ?_)
                  · refine rp W 0 rfl rfl rfl (.no (fun q => (hP.1 q.1).1 (by omega)))
                  refine sp W 0 rfl rfl rfl (fun c2 => ?_) (fun c2 => ?_)
                  · refine rp W 0 rfl rfl rfl (.no (fun q => by have := (hP.1 q.1).2.1; omega))
                  refine sp W 0 rfl rfl rfl (fun c3 => ?_) (fun c3 => ?_)
                  · have c3 : s.getD (n + 1 + 1) 0 = 48 := by rw [show ((n : Int) + 1 + 1).toNat = n + 1 + 1 by omega] at c3; exact (u8_eq (c := 48)).1 c3
                    refine sp W 0 rfl rfl rfl (fun c4 => ?_) (fun c4 => ?_)
                    · refine rp W 0 rfl rfl rfl (.no (fun q => (hP.1 q.1).2.2.1 ⟨c3, .inl (by omega)⟩))
                    · refine sp W 0 rfl rfl rfl (fun c5 => ?_) (fun c5 => ?_)
                      · refine rp W 0 rfl rfl rfl (.no (fun q => (hP.1 q.1).2.2.1 ⟨c3, .inr trivial⟩))
                      · exact absurd m2 c5
                  · have c3 : ¬ s.getD (n + 1 + 1) 0 = 48 := fun e => c3 (by rw [show ((n : Int) + 1 + 1).toNat = n + 1 + 1 by omega]; exact (u8_eq (c := 48)).2 e)
                    have f3 : ¬ (s.getD (n + 1 + 1) 0 = 48 ∧ (1 < k ∨ True)) := fun q => c3 q.1
                    refine sp W 0 rfl rfl rfl (fun c6 => ?_) (fun c6 => ?_)
                    · refine sp W 0 rfl rfl rfl (fun c7 => ?_) (fun c7 => ?_)
                      · rw [show ((n : Int) + 1 + 1).toNat = n + 1 + 1 by omega, show (((n : Int) + 1 + 1) + (k : Int)).toNat = n + 1 + 1 + k by omega] at c7
                        refine rp W 0 rfl rfl rfl (.no (fun q => (hP.1 q.1).2.2.2.1 ⟨by omega, c7⟩))
                      · rw [show ((n : Int) + 1 + 1).toNat = n + 1 + 1 by omega, show (((n : Int) + 1 + 1) + (k : Int)).toNat = n + 1 + 1 + k by omega] at c7
                        have f4 : ¬ (k = 3 ∧ ¬ (Op.bytesLess ((s.take (n + 1 + 1 + k)).drop (n + 1 + 1)) [52, 48, 48] = true ∨ (s.take (n + 1 + 1 + k)).drop (n + 1 + 1) = [52, 48, 48])) := fun q => c7 q.2
                        refine rp W 0 rfl rfl rfl (.pr ⟨fun e => ⟨hP.2 ⟨by omega, by omega, f3, f4, by omega⟩, by omega⟩, fun q => by have := (hP.1 q.1).2.2.2.2; omega⟩)
                    · have f4 : ¬ (k = 3 ∧ ¬ (Op.bytesLess ((s.take (n + 1 + 1 + k)).drop (n + 1 + 1)) [52, 48, 48] = true ∨ (s.take (n + 1 + 1 + k)).drop (n + 1 + 1) = [52, 48, 48])) := fun q => by have := q.1; omega
                      refine rp W 0 rfl rfl rfl (.pr ⟨fun e => ⟨hP.2 ⟨by omega, by omega, f3, f4, by omega⟩, by omega⟩, fun q => by have := (hP.1 q.1).2.2.2.2; omega⟩)
                · rw [show ((n : Int) + 1).toNat = n + 1 by omega] at m2
                  have hu : s.drop (n + 1) = cutP (s.drop (n + 1)) 45 := cutP_no (by omega) fun e => m2 ((u8_eq (c := 45)).2 e)
                  have hm : False ↔ (s.drop (n + 1)).head? = some 45 := by rw [head_at (by omega)]; exact ⟨False.elim, fun e => m2 ((u8_eq (c := 45)).2 e)⟩
                  rw [← show ((n : Int) + 1).toNat = n + 1 by omega] at m2
                  have kr : AFunP Tryz.prog 94 [.str s, .int .i64 ((n : Int) + 1)] (· = .int .i64 (run s (n + 1) : Nat)) := by
                    have := l11Run_ok s (n + 1) (by omega) (by omega)
                    rwa [show ((n + 1 : Nat) : Int) = (n : Int) + 1 by omega] at this
                  have tr := run_le s (n + 1) (by omega)
                  have hP := hq2.trans (powA_ok (a := n + 1) (m := False) (by omega) hu hm)
                  unfold powA at hP
                  refine ce W 0 rfl rfl (kr) rfl ?_
                  generalize run s (n + 1) = k at *
                  refine sp W 0 rfl rfl rfl (fun c1 => ?_) (fun c1 => ?_)
                  · refine rp W 0 rfl rfl rfl (.no (fun q => (hP.1 q.1).1 (by omega)))
                  refine sp W 0 rfl rfl rfl (fun c2 => ?_) (fun c2 => ?_)
                  · refine rp W 0 rfl rfl rfl (.no (fun q => by have := (hP.1 q.1).2.1; omega))
                  refine sp W 0 rfl rfl rfl (fun c3 => ?_) (fun c3 => ?_)
                  · have c3 : s.getD (n + 1) 0 = 48 := by rw [show ((n : Int) + 1).toNat = n + 1 by omega] at c3; exact (u8_eq (c := 48)).1 c3
                    refine sp W 0 rfl rfl rfl (fun c4 => ?_) (fun c4 => ?_)
                    · refine rp W 0 rfl rfl rfl (.no (fun q => (hP.1 q.1).2.2.1 ⟨c3, .inl (by omega)⟩))
                    · refine sp W 0 rfl rfl rfl (fun c5 => ?_) (fun c5 => ?_)
                      · exact absurd c5 m2
                      · have f3 : ¬ (s.getD (n + 1) 0 = 48 ∧ (1 < k ∨ False)) := fun q => q.2.elim (fun q => by omega) id
                        refine sp W 0 rfl rfl rfl (fun c6 => ?_) (fun c6 => ?_)
                        · refine sp W 0 rfl rfl rfl (fun c7 => ?_) (fun c7 => ?_)
                          · rw [show ((n : Int) + 1).toNat = n + 1 by omega, show (((n : Int) + 1) + (k : Int)).toNat = n + 1 + k by omega] at c7
                            refine rp W 0 rfl rfl rfl (.no (fun q => (hP.1 q.1).2.2.2.1 ⟨by omega, c7⟩))
                          · rw [show ((n : Int) + 1).toNat = n + 1 by omega, show (((n : Int) + 1) + (k : Int)).toNat = n + 1 + k by omega] at c7
                            have f4 : ¬ (k = 3 ∧ ¬ (Op.bytesLess ((s.take (n + 1 + k)).drop (n + 1)) [52, 48, 48] = true ∨ (s.take (n + 1 + k)).drop (n + 1) = [52, 48, 48])) := fun q => c7 q.2
                            refine rp W 0 rfl rfl rfl (.pr ⟨fun e => ⟨hP.2 ⟨by omega, by omega, f3, f4, by omega⟩, by omega⟩, fun q => by have := (hP.1 q.1).2.2.2.2; omega⟩)
                        · have f4 : ¬ (k = 3 ∧ ¬ (Op.bytesLess ((s.take (n + 1 + k)).drop (n + 1)) [52, 48, 48] = true ∨ (s.take (n + 1 + k)).drop (n + 1) = [52, 48, 48])) := fun q => by have := q.1; omega
                          refine rp W 0 rfl rfl rfl (.pr ⟨fun e => ⟨hP.2 ⟨by omega, by omega, f3, f4, by omega⟩, by omega⟩, fun q => by have := (hP.1 q.1).2.2.2.2; omega⟩)
                  · have c3 : ¬ s.getD (n + 1) 0 = 48 := fun e => c3 (by rw [show ((n : Int) + 1).toNat = n + 1 by omega]; exact (u8_eq (c := 48)).2 e)
                    have f3 : ¬ (s.getD (n + 1) 0 = 48 ∧ (1 < k ∨ False)) := fun q => c3 q.1
                    refine sp W 0 rfl rfl rfl (fun c6 => ?_) (fun c6 => ?_)
                    · refine sp W 0 rfl rfl rfl (fun c7 => ?_) (fun c7 => ?_)
                      · rw [show ((n : Int) + 1).toNat = n + 1 by omega, show (((n : Int) + 1) + (k : Int)).toNat = n + 1 + k by omega] at c7
                        refine rp W 0 rfl rfl rfl (.no (fun q => (hP.1 q.1).2.2.2.1 ⟨by omega, c7⟩))
                      · rw [show ((n : Int) + 1).toNat = n + 1 by omega, show (((n : Int) + 1) + (k : Int)).toNat = n + 1 + k by omega] at c7
                        have f4 : ¬ (k = 3 ∧ ¬ (Op.bytesLess ((s.take (n + 1 + k)).drop (n + 1)) [52, 48, 48] = true ∨ (s.take (n + 1 + k)).drop (n + 1) = [52, 48, 48])) := fun q => c7 q.2
                        refine rp W 0 rfl rfl rfl (.pr ⟨fun e => ⟨hP.2 ⟨by omega, by omega, f3, f4, by omega⟩, by omega⟩, fun q => by have := (hP.1 q.1).2.2.2.2; omega⟩)
                    · have f4 : ¬ (k = 3 ∧ ¬ (Op.bytesLess ((s.take (n + 1 + k)).drop (n + 1)) [52, 48, 48] = true ∨ (s.take (n + 1 + k)).drop (n + 1) = [52, 48, 48])) := fun q => by have := q.1; omega
                      refine rp W 0 rfl rfl rfl (.pr ⟨fun e => ⟨hP.2 ⟨by omega, by omega, f3, f4, by omega⟩, by omega⟩, fun q => by have := (hP.1 q.1).2.2.2.2; omega⟩)
              · have e0 : s.drop (n + 1) = [] := List.drop_eq_nil_iff.2 (by omega)
                have hu : s.drop (n + 1) = cutP (s.drop (n + 1)) 45 := by rw [e0]; rfl
                have hm : False ↔ (s.drop (n + 1)).head? = some 45 := by rw [e0]; simp
                have kr : AFunP Tryz.prog 94 [.str s, .int .i64 ((n : Int) + 1)] (· = .int .i64 (run s (n + 1) : Nat)) := by
                  have := l11Run_ok s (n + 1) (by omega) (by omega)
                  rwa [show ((n + 1 : Nat) : Int) = (n : Int) + 1 by omega] at this
                have tr := run_le s (n + 1) (by omega)
                have hP := hq2.trans (powA_ok (a := n + 1) (m := False) (by omega) hu hm)
                unfold powA at hP
                refine ce W 0 rfl rfl (kr) rfl ?_
                generalize run s (n + 1) = k at *
                refine sp W 0 rfl rfl rfl (fun c1 => ?_) (fun c1 => ?_)
                · refine rp W 0 rfl rfl rfl (.no (fun q => (hP.1 q.1).1 (by omega)))
                refine sp W 0 rfl rfl rfl (fun c2 => ?_) (fun c2 => ?_)
                · refine rp W 0 rfl rfl rfl (.no (fun q => by have := (hP.1 q.1).2.1; omega))
                refine sp W 0 rfl rfl rfl (fun c3 => ?_) (fun c3 => ?_)
                · have c3 : s.getD (n + 1) 0 = 48 := by rw [show ((n : Int) + 1).toNat = n + 1 by omega] at c3; exact (u8_eq (c := 48)).1 c3
                  refine sp W 0 rfl rfl rfl (fun c4 => ?_) (fun c4 => ?_)
                  · refine rp W 0 rfl rfl rfl (.no (fun q => (hP.1 q.1).2.2.1 ⟨c3, .inl (by omega)⟩))
                  · have f3 : ¬ (s.getD (n + 1) 0 = 48 ∧ (1 < k ∨ False)) := fun q => q.2.elim (fun q => by omega) id
                    refine sp W 0 rfl rfl rfl (fun c6 => ?_) (fun c6 => ?_)
                    · refine sp W 0 rfl rfl rfl (fun c7 => ?_) (fun c7 => ?_)
                      · rw [show ((n : Int) + 1).toNat = n + 1 by omega, show (((n : Int) + 1) + (k : Int)).toNat = n + 1 + k by omega] at c7
                        refine rp W 0 rfl rfl rfl (.no (fun q => (hP.1 q.1).2.2.2.1 ⟨by omega, c7⟩))
                      · rw [show ((n : Int) + 1).toNat = n + 1 by omega, show (((n : Int) + 1) + (k : Int)).toNat = n + 1 + k by omega] at c7
                        have f4 : ¬ (k = 3 ∧ ¬ (Op.bytesLess ((s.take (n + 1 + k)).drop (n + 1)) [52, 48, 48] = true ∨ (s.take (n + 1 + k)).drop (n + 1) = [52, 48, 48])) := fun q => c7 q.2
                        refine rp W 0 rfl rfl rfl (.pr ⟨fun e => ⟨hP.2 ⟨by omega, by omega, f3, f4, by omega⟩, by omega⟩, fun q => by have := (hP.1 q.1).2.2.2.2; omega⟩)
                    · have f4 : ¬ (k = 3 ∧ ¬ (Op.bytesLess ((s.take (n + 1 + k)).drop (n + 1)) [52, 48, 48] = true ∨ (s.take (n + 1 + k)).drop (n + 1) = [52, 48, 48])) := fun q => by have := q.1; omega
                      refine rp W 0 rfl rfl rfl (.pr ⟨fun e => ⟨hP.2 ⟨by omega, by omega, f3, f4, by omega⟩, by omega⟩, fun q => by have := (hP.1 q.1).2.2.2.2; omega⟩)
                · have c3 : ¬ s.getD (n + 1) 0 = 48 := fun e => c3 (by rw [show ((n : Int) + 1).toNat = n + 1 by omega]; exact (u8_eq (c := 48)).2 e)
                  have f3 : ¬ (s.getD (n + 1) 0 = 48 ∧ (1 < k ∨ False)) := fun q => c3 q.1
                  refine sp W 0 rfl rfl rfl (fun c6 => ?_) (fun c6 => ?_)
                  · refine sp W 0 rfl rfl rfl (fun c7 => ?_) (fun c7 => ?_)
                    · rw [show ((n : Int) + 1).toNat = n + 1 by omega, show (((n : Int) + 1) + (k : Int)).toNat = n + 1 + k by omega] at c7
                      refine rp W 0 rfl rfl rfl (.no (fun q => (hP.1 q.1).2.2.2.1 ⟨by omega, c7⟩))
                    · rw [show ((n : Int) + 1).toNat = n + 1 by omega, show (((n : Int) + 1) + (k : Int)).toNat = n + 1 + k by omega] at c7
                      have f4 : ¬ (k = 3 ∧ ¬ (Op.bytesLess ((s.take (n + 1 + k)).drop (n + 1)) [52, 48, 48] = true ∨ (s.take (n + 1 + k)).drop (n + 1) = [52, 48, 48])) := fun q => c7 q.2
                      refine rp W 0 rfl rfl rfl (.pr ⟨fun e => ⟨hP.2 ⟨by omega, by omega, f3, f4, by omega⟩, by omega⟩, fun q => by have := (hP.1 q.1).2.2.2.2; omega⟩)
                  · have f4 : ¬ (k = 3 ∧ ¬ (Op.bytesLess ((s.take (n + 1 + k)).drop (n + 1)) [52, 48, 48] = true ∨ (s.take (n + 1 + k)).drop (n + 1) = [52, 48, 48])) := fun q => by have := q.1; omega
                    refine rp W 0 rfl rfl rfl (.pr ⟨fun e => ⟨hP.2 ⟨by omega, by omega, f3, f4, by omega⟩, by omega⟩, fun q => by have := (hP.1 q.1).2.2.2.2; omega⟩)
            · rw [show ((n : Int)).toNat = n by omega] at p4
              have hn : ¬ numE s := fun e => powE_no (by omega) (fun e => p4 ((u8_eq (c := 101)).2 e)) (hq.1 e)
              refine rp W 0 rfl rfl rfl (.pr ⟨fun e => by omega, fun e => absurd e.1 hn⟩)
          · have hn : numE s := hq.2 (powE_nil (by omega))
            refine rp W 0 rfl rfl rfl (.pr ⟨fun e => ⟨hn, by omega⟩, fun e => by omega⟩)
      · have hq : numE s ↔ powE (s.drop n) := by
          refine hq0.trans ?_
          rw [← r0, show s.drop n = [] from List.drop_eq_nil_iff.2 (by omega)]
          simp [fracE]
        refine sp W 0 rfl rfl rfl (fun p3 => ?_) (fun p3 => ?_)
        · refine sp W 0 rfl rfl rfl (fun p4 => ?_) (fun p4 => ?_)
          · rw [show ((n : Int)).toNat = n by omega] at p4
            have hq2 : numE s ↔ powE1 (s.drop (n + 1)) := hq.trans (powE_yes (by omega) ((u8_eq (c := 101)).1 p4))
            refine sp W 0 rfl rfl rfl (fun m1 => ?_) (fun m1 => ?_)
            · refine sp W 0 rfl rfl rfl (fun m2 => ?_) (fun m2 => ?_)
              · rw [show ((n : Int) + 1).toNat = n + 1 by omega] at m2
                have hu : s.drop (n + 1 + 1) = cutP (s.drop (n + 1)) 45 := cutP_yes (by omega) ((u8_eq (c := 45)).1 m2)
                have hm : True ↔ (s.drop (n + 1)).head? = some 45 := by rw [head_at (by omega)]; exact ⟨fun _ => (u8_eq (c := 45)).1 m2, fun _ => trivial⟩
                rw [← show ((n : Int) + 1).toNat = n + 1 by omega] at m2
                have kr : AFunP Tryz.prog 94 [.str s, .int .i64 ((n : Int) + 1 + 1)] (· = .int .i64 (run s (n + 1 + 1) : Nat)) := by
                  have := l11Run_ok s (n + 1 + 1) (by omega) (by omega)
                  rwa [show ((n + 1 + 1 : Nat) : Int) = (n : Int) + 1 + 1 by omega] at this
                have tr := run_le s (n + 1 + 1) (by omega)
                have hP := hq2.trans (powA_ok (a := n + 1 + 1) (m := True) (by omega) hu hm)
                unfold powA at hP
                refine ce W 0 rfl rfl (kr) rfl ?_
                generalize run s (n + 1 + 1) = k at *
                refine sp W 0 rfl rfl rfl (fun c1 => ?_) (fun c1 => ?_)
                · refine rp W 0 rfl rfl rfl (.no (fun q => (hP.1 q.1).1 (by omega)))
                refine sp W 0 rfl rfl rfl (fun c2 => ?_) (fun c2 => ?_)
                · refine rp W 0 rfl rfl rfl (.no (fun q => by have := (hP.1 q.1).2.1; omega))
                refine sp W 0 rfl rfl rfl (fun c3 => ?_) (fun c3 => ?_)
                · have c3 : s.getD (n + 1 + 1) 0 = 48 := by rw [show ((n : Int) + 1 + 1).toNat = n + 1 + 1 by omega] at c3; exact (u8_eq (c := 48)).1 c3
                  refine sp W 0 rfl rfl rfl (fun c4 => ?_) (fun c4 => ?_)
                  · refine rp W 0 rfl rfl rfl (.no (fun q => (hP.1 q.1).2.2.1 ⟨c3, .inl (by omega)⟩))
                  · refine sp W 0 rfl rfl rfl (fun c5 => ?_) (fun c5 => ?_)
                    · refine rp W 0 rfl rfl rfl (.no (fun q => (hP.1 q.1).2.2.1 ⟨c3, .inr trivial⟩))
                    · exact absurd m2 c5
                · have c3 : ¬ s.getD (n + 1 + 1) 0 = 48 := fun e => c3 (by rw [show ((n : Int) + 1 + 1).toNat = n + 1 + 1 by omega]; exact (u8_eq (c := 48)).2 e)
                  have f3 : ¬ (s.getD (n + 1 + 1) 0 = 48 ∧ (1 < k ∨ True)) := fun q => c3 q.1
                  refine sp W 0 rfl rfl rfl (fun c6 => ?_) (fun c6 => ?_)
                  · refine sp W 0 rfl rfl rfl (fun c7 => ?_) (fun c7 => ?_)
                    · rw [show ((n : Int) + 1 + 1).toNat = n + 1 + 1 by omega, show (((n : Int) + 1 + 1) + (k : Int)).toNat = n + 1 + 1 + k by omega] at c7
                      refine rp W 0 rfl rfl rfl (.no (fun q => (hP.1 q.1).2.2.2.1 ⟨by omega, c7⟩))
                    · rw [show ((n : Int) + 1 + 1).toNat = n + 1 + 1 by omega, show (((n : Int) + 1 + 1) + (k : Int)).toNat = n + 1 + 1 + k by omega] at c7
                      have f4 : ¬ (k = 3 ∧ ¬ (Op.bytesLess ((s.take (n + 1 + 1 + k)).drop (n + 1 + 1)) [52, 48, 48] = true ∨ (s.take (n + 1 + 1 + k)).drop (n + 1 + 1) = [52, 48, 48])) := fun q => c7 q.2
                      refine rp W 0 rfl rfl rfl (.pr ⟨fun e => ⟨hP.2 ⟨by omega, by omega, f3, f4, by omega⟩, by omega⟩, fun q => by have := (hP.1 q.1).2.2.2.2; omega⟩)
                  · have f4 : ¬ (k = 3 ∧ ¬ (Op.bytesLess ((s.take (n + 1 + 1 + k)).drop (n + 1 + 1)) [52, 48, 48] = true ∨ (s.take (n + 1 + 1 + k)).drop (n + 1 + 1) = [52, 48, 48])) := fun q => by have := q.1; omega
                    refine rp W 0 rfl rfl rfl (.pr ⟨fun e => ⟨hP.2 ⟨by omega, by omega, f3, f4, by omega⟩, by omega⟩, fun q => by have := (hP.1 q.1).2.2.2.2; omega⟩)
              · rw [show ((n : Int) + 1).toNat = n + 1 by omega] at m2
                have hu : s.drop (n + 1) = cutP (s.drop (n + 1)) 45 := cutP_no (by omega) fun e => m2 ((u8_eq (c := 45)).2 e)
                have hm : False ↔ (s.drop (n + 1)).head? = some 45 := by rw [head_at (by omega)]; exact ⟨False.elim, fun e => m2 ((u8_eq (c := 45)).2 e)⟩
                rw [← show ((n : Int) + 1).toNat = n + 1 by omega] at m2
                have kr : AFunP Tryz.prog 94 [.str s, .int .i64 ((n : Int) + 1)] (· = .int .i64 (run s (n + 1) : Nat)) := by
                  have := l11Run_ok s (n + 1) (by omega) (by omega)
                  rwa [show ((n + 1 : Nat) : Int) = (n : Int) + 1 by omega] at this
                have tr := run_le s (n + 1) (by omega)
                have hP := hq2.trans (powA_ok (a := n + 1) (m := False) (by omega) hu hm)
                unfold powA at hP
                refine ce W 0 rfl rfl (kr) rfl ?_
                generalize run s (n + 1) = k at *
                refine sp W 0 rfl rfl rfl (fun c1 => ?_) (fun c1 => ?_)
                · refine rp W 0 rfl rfl rfl (.no (fun q => (hP.1 q.1).1 (by omega)))
                refine sp W 0 rfl rfl rfl (fun c2 => ?_) (fun c2 => ?_)
                · refine rp W 0 rfl rfl rfl (.no (fun q => by have := (hP.1 q.1).2.1; omega))
                refine sp W 0 rfl rfl rfl (fun c3 => ?_) (fun c3 => ?_)
                · have c3 : s.getD (n + 1) 0 = 48 := by rw [show ((n : Int) + 1).toNat = n + 1 by omega] at c3; exact (u8_eq (c := 48)).1 c3
                  refine sp W 0 rfl rfl rfl (fun c4 => ?_) (fun c4 => ?_)
                  · refine rp W 0 rfl rfl rfl (.no (fun q => (hP.1 q.1).2.2.1 ⟨c3, .inl (by omega)⟩))
                  · refine sp W 0 rfl rfl rfl (fun c5 => ?_) (fun c5 => ?_)
                    · exact absurd c5 m2
                    · have f3 : ¬ (s.getD (n + 1) 0 = 48 ∧ (1 < k ∨ False)) := fun q => q.2.elim (fun q => by omega) id
                      refine sp W 0 rfl rfl rfl (fun c6 => ?_) (fun c6 => ?_)
                      · refine sp W 0 rfl rfl rfl (fun c7 => ?_) (fun c7 => ?_)
                        · rw [show ((n : Int) + 1).toNat = n + 1 by omega, show (((n : Int) + 1) + (k : Int)).toNat = n + 1 + k by omega] at c7
                          refine rp W 0 rfl rfl rfl (.no (fun q => (hP.1 q.1).2.2.2.1 ⟨by omega, c7⟩))
                        · rw [show ((n : Int) + 1).toNat = n + 1 by omega, show (((n : Int) + 1) + (k : Int)).toNat = n + 1 + k by omega] at c7
                          have f4 : ¬ (k = 3 ∧ ¬ (Op.bytesLess ((s.take (n + 1 + k)).drop (n + 1)) [52, 48, 48] = true ∨ (s.take (n + 1 + k)).drop (n + 1) = [52, 48, 48])) := fun q => c7 q.2
                          refine rp W 0 rfl rfl rfl (.pr ⟨fun e => ⟨hP.2 ⟨by omega, by omega, f3, f4, by omega⟩, by omega⟩, fun q => by have := (hP.1 q.1).2.2.2.2; omega⟩)
                      · have f4 : ¬ (k = 3 ∧ ¬ (Op.bytesLess ((s.take (n + 1 + k)).drop (n + 1)) [52, 48, 48] = true ∨ (s.take (n + 1 + k)).drop (n + 1) = [52, 48, 48])) := fun q => by have := q.1; omega
                        refine rp W 0 rfl rfl rfl (.pr ⟨fun e => ⟨hP.2 ⟨by omega, by omega, f3, f4, by omega⟩, by omega⟩, fun q => by have := (hP.1 q.1).2.2.2.2; omega⟩)
                · have c3 : ¬ s.getD (n + 1) 0 = 48 := fun e => c3 (by rw [show ((n : Int) + 1).toNat = n + 1 by omega]; exact (u8_eq (c := 48)).2 e)
                  have f3 : ¬ (s.getD (n + 1) 0 = 48 ∧ (1 < k ∨ False)) := fun q => c3 q.1
                  refine sp W 0 rfl rfl rfl (fun c6 => ?_) (fun c6 => ?_)
                  · refine sp W 0 rfl rfl rfl (fun c7 => ?_) (fun c7 => ?_)
                    · rw [show ((n : Int) + 1).toNat = n + 1 by omega, show (((n : Int) + 1) + (k : Int)).toNat = n + 1 + k by omega] at c7
                      refine rp W 0 rfl rfl rfl (.no (fun q => (hP.1 q.1).2.2.2.1 ⟨by omega, c7⟩))
                    · rw [show ((n : Int) + 1).toNat = n + 1 by omega, show (((n : Int) + 1) + (k : Int)).toNat = n + 1 + k by omega] at c7
                      have f4 : ¬ (k = 3 ∧ ¬ (Op.bytesLess ((s.take (n + 1 + k)).drop (n + 1)) [52, 48, 48] = true ∨ (s.take (n + 1 + k)).drop (n + 1) = [52, 48, 48])) := fun q => c7 q.2
                      refine rp W 0 rfl rfl rfl (.pr ⟨fun e => ⟨hP.2 ⟨by omega, by omega, f3, f4, by omega⟩, by omega⟩, fun q => by have := (hP.1 q.1).2.2.2.2; omega⟩)
                  · have f4 : ¬ (k = 3 ∧ ¬ (Op.bytesLess ((s.take (n + 1 + k)).drop (n + 1)) [52, 48, 48] = true ∨ (s.take (n + 1 + k)).drop (n + 1) = [52, 48, 48])) := fun q => by have := q.1; omega
                    refine rp W 0 rfl rfl rfl (.pr ⟨fun e => ⟨hP.2 ⟨by omega, by omega, f3, f4, by omega⟩, by omega⟩, fun q => by have := (hP.1 q.1).2.2.2.2; omega⟩)
            · have e0 : s.drop (n + 1) = [] := List.drop_eq_nil_iff.2 (by omega)
              have hu : s.drop (n + 1) = cutP (s.drop (n + 1)) 45 := by rw [e0]; rfl
              have hm : False ↔ (s.drop (n + 1)).head? = some 45 := by rw [e0]; simp
              have kr : AFunP Tryz.prog 94 [.str s, .int .i64 ((n : Int) + 1)] (· = .int .i64 (run s (n + 1) : Nat)) := by
                have := l11Run_ok s (n + 1) (by omega) (by omega)
                rwa [show ((n + 1 : Nat) : Int) = (n : Int) + 1 by omega] at this
              have tr := run_le s (n + 1) (by omega)
              have hP := hq2.trans (powA_ok (a := n + 1) (m := False) (by omega) hu hm)
              unfold powA at hP
              refine ce W 0 rfl rfl (kr) rfl ?_
              generalize run s (n + 1) = k at *
              refine sp W 0 rfl rfl rfl (fun c1 => ?_) (fun c1 => ?_)
              · refine rp W 0 rfl rfl rfl (.no (fun q => (hP.1 q.1).1 (by omega)))
              refine sp W 0 rfl rfl rfl (fun c2 => ?_) (fun c2 => ?_)
              · refine rp W 0 rfl rfl rfl (.no (fun q => by have := (hP.1 q.1).2.1; omega))
              refine sp W 0 rfl rfl rfl (fun c3 => ?_) (fun c3 => ?_)
              · have c3 : s.getD (n + 1) 0 = 48 := by rw [show ((n : Int) + 1).toNat = n + 1 by omega] at c3; exact (u8_eq (c := 48)).1 c3
                refine sp W 0 rfl rfl rfl (fun c4 => ?_) (fun c4 => ?_)
                · refine rp W 0 rfl rfl rfl (.no (fun q => (hP.1 q.1).2.2.1 ⟨c3, .inl (by omega)⟩))
                · have f3 : ¬ (s.getD (n + 1) 0 = 48 ∧ (1 < k ∨ False)) := fun q => q.2.elim (fun q => by omega) id
                  refine sp W 0 rfl rfl rfl (fun c6 => ?_) (fun c6 => ?_)
                  · refine sp W 0 rfl rfl rfl (fun c7 => ?_) (fun c7 => ?_)
                    · rw [show ((n : Int) + 1).toNat = n + 1 by omega, show (((n : Int) + 1) + (k : Int)).toNat = n + 1 + k by omega] at c7
                      refine rp W 0 rfl rfl rfl (.no (fun q => (hP.1 q.1).2.2.2.1 ⟨by omega, c7⟩))
                    · rw [show ((n : Int) + 1).toNat = n + 1 by omega, show (((n : Int) + 1) + (k : Int)).toNat = n + 1 + k by omega] at c7
                      have f4 : ¬ (k = 3 ∧ ¬ (Op.bytesLess ((s.take (n + 1 + k)).drop (n + 1)) [52, 48, 48] = true ∨ (s.take (n + 1 + k)).drop (n + 1) = [52, 48, 48])) := fun q => c7 q.2
                      refine rp W 0 rfl rfl rfl (.pr ⟨fun e => ⟨hP.2 ⟨by omega, by omega, f3, f4, by omega⟩, by omega⟩, fun q => by have := (hP.1 q.1).2.2.2.2; omega⟩)
                  · have f4 : ¬ (k = 3 ∧ ¬ (Op.bytesLess ((s.take (n + 1 + k)).drop (n + 1)) [52, 48, 48] = true ∨ (s.take (n + 1 + k)).drop (n + 1) = [52, 48, 48])) := fun q => by have := q.1; omega
                    refine rp W 0 rfl rfl rfl (.pr ⟨fun e => ⟨hP.2 ⟨by omega, by omega, f3, f4, by omega⟩, by omega⟩, fun q => by have := (hP.1 q.1).2.2.2.2; omega⟩)
              · have c3 : ¬ s.getD (n + 1) 0 = 48 := fun e => c3 (by rw [show ((n : Int) + 1).toNat = n + 1 by omega]; exact (u8_eq (c := 48)).2 e)
                have f3 : ¬ (s.getD (n + 1) 0 = 48 ∧ (1 < k ∨ False)) := fun q => c3 q.1
                refine sp W 0 rfl rfl rfl (fun c6 => ?_) (fun c6 => ?_)
                · refine sp W 0 rfl rfl rfl (fun c7 => ?_) (fun c7 => ?_)
                  · rw [show ((n : Int) + 1).toNat = n + 1 by omega, show (((n : Int) + 1) + (k : Int)).toNat = n + 1 + k by omega] at c7
                    refine rp W 0 rfl rfl rfl (.no (fun q => (hP.1 q.1).2.2.2.1 ⟨by omega, c7⟩))
                  · rw [show ((n : Int) + 1).toNat = n + 1 by omega, show (((n : Int) + 1) + (k : Int)).toNat = n + 1 + k by omega] at c7
                    have f4 : ¬ (k = 3 ∧ ¬ (Op.bytesLess ((s.take (n + 1 + k)).drop (n + 1)) [52, 48, 48] = true ∨ (s.take (n + 1 + k)).drop (n + 1) = [52, 48, 48])) := fun q => c7 q.2
                    refine rp W 0 rfl rfl rfl (.pr ⟨fun e => ⟨hP.2 ⟨by omega, by omega, f3, f4, by omega⟩, by omega⟩, fun q => by have := (hP.1 q.1).2.2.2.2; omega⟩)
                · have f4 : ¬ (k = 3 ∧ ¬ (Op.bytesLess ((s.take (n + 1 + k)).drop (n + 1)) [52, 48, 48] = true ∨ (s.take (n + 1 + k)).drop (n + 1) = [52, 48, 48])) := fun q => by have := q.1; omega
                  refine rp W 0 rfl rfl rfl (.pr ⟨fun e => ⟨hP.2 ⟨by omega, by omega, f3, f4, by omega⟩, by omega⟩, fun q => by have := (hP.1 q.1).2.2.2.2; omega⟩)
          · rw [show ((n : Int)).toNat = n by omega] at p4
            have hn : ¬ numE s := fun e => powE_no (by omega) (fun e => p4 ((u8_eq (c := 101)).2 e)) (hq.1 e)
            refine rp W 0 rfl rfl rfl (.pr ⟨fun e => by omega, fun e => absurd e.1 hn⟩)
        · have hn : numE s := hq.2 (powE_nil (by omega))
          refine rp W 0 rfl rfl rfl (.pr ⟨fun e => ⟨hn, by omega⟩, fun e => by omega⟩)
  · have hw := (w0 (by omega)).2 fun k => by have := k.1; omega
    have hq0 : numE s ↔ fracE (Rg s) := ⟨fun e => e.2, fun e => ⟨hw, e⟩⟩
    refine sp W 0 rfl rfl rfl (fun p1 => ?_) (fun p1 => ?_)
    · refine sp W 0 rfl rfl rfl (fun p2 => ?_) (fun p2 => ?_)
      · rw [show (n : Int).toNat = n by omega] at p2
        have p2 := (u8_eq (c := 46)).1 p2
        have kk : AFunP Tryz.prog 94 [.str s, .int .i64 ((n : Int) + 1)] (· = .int .i64 (run s (n + 1) : Nat)) := l11Run_ok s (n + 1) (by omega) (by omega)
        have tk := run_le s (n + 1) (by omega)
        have hf : numE s ↔ run s (n + 1) ≠ 0 ∧ powE (s.drop (n + 1 + run s (n + 1))) := by
          refine hq0.trans ?_
          rw [← r0, fracE_yes (by omega) p2]
        refine ce W 0 rfl rfl (kk) rfl ?_
        generalize run s (n + 1) = j at *
        refine sp W 0 rfl rfl rfl (fun p5 => ?_) (fun p5 => ?_)
        · refine rp W 0 rfl rfl rfl (.no (fun q => (hf.1 q.1).1 (by omega)))
        have hq : numE s ↔ powE (s.drop (n + 1 + j)) := ⟨fun e => (hf.1 e).2, fun e => hf.2 ⟨by omega, e⟩⟩
        refine sp W 0 rfl rfl rfl (fun p3 => ?_) (fun p3 => ?_)
        · refine sp W 0 rfl rfl rfl (fun p4 => ?_) (fun p4 => ?_)
          · rw [show ((n : Int) + 1 + (j : Int)).toNat = n + 1 + j by omega] at p4
            have hq2 : numE s ↔ powE1 (s.drop (n + 1 + j + 1)) := hq.trans (powE_yes (by omega) ((u8_eq (c := 101)).1 p4))
            refine sp W 0 rfl rfl rfl (fun m1 => ?_) (fun m1 => ?_)
            · refine sp W 0 rfl rfl rfl (fun m2 => ?_) (fun m2 => ?_)
              · rw [show ((n : Int) + 1 + (j : Int) + 1).toNat = n + 1 + j + 1 by omega] at m2
                have hu : s.drop (n + 1 + j + 1 + 1) = cutP (s.drop (n + 1 + j + 1)) 45 := cutP_yes (by omega) ((u8_eq (c := 45)).1 m2)
                have hm : True ↔ (s.drop (n + 1 + j + 1)).head? = some 45 := by rw [head_at (by omega)]; exact ⟨fun _ => (u8_eq (c := 45)).1 m2, fun _ => trivial⟩
                rw [← show ((n : Int) + 1 + (j : Int) + 1).toNat = n + 1 + j + 1 by omega] at m2
                have kr : AFunP Tryz.prog 94 [.str s, .int .i64 ((n : Int) + 1 + (j : Int) + 1 + 1)] (· = .int .i64 (run s (n + 1 + j + 1 + 1) : Nat)) := by
                  have := l11Run_ok s (n + 1 + j + 1 + 1) (by omega) (by omega)
                  rwa [show ((n + 1 + j + 1 + 1 : Nat) : Int) = (n : Int) + 1 + (j : Int) + 1 + 1 by omega] at this
                have tr := run_le s (n + 1 + j + 1 + 1) (by omega)
                have hP := hq2.trans (powA_ok (a := n + 1 + j + 1 + 1) (m := True) (by omega) hu hm)
                unfold powA at hP
                refine ce W 0 rfl rfl (kr) rfl ?_
                generalize run s (n + 1 + j + 1 + 1) = k at *
                refine sp W 0 rfl rfl rfl (fun c1 => ?_) (fun c1 => ?_)
                · refine rp W 0 rfl rfl rfl (.no (fun q => (hP.1 q.1).1 (by omega)))
                refine sp W 0 rfl rfl rfl (fun c2 => ?_) (fun c2 => ?_)
                · refine rp W 0 rfl rfl rfl (.no (fun q => by have := (hP.1 q.1).2.1; omega))
                refine sp W 0 rfl rfl rfl (fun c3 => ?_) (fun c3 => ?_)
                · have c3 : s.getD (n + 1 + j + 1 + 1) 0 = 48 := by rw [show ((n : Int) + 1 + (j : Int) + 1 + 1).toNat = n + 1 + j + 1 + 1 by omega] at c3; exact (u8_eq (c := 48)).1 c3
                  refine sp W 0 rfl rfl rfl (fun c4 => ?_) (fun c4 => ?_)
                  · refine rp W 0 rfl rfl rfl (.no (fun q => (hP.1 q.1).2.2.1 ⟨c3, .inl (by omega)⟩))
                  · refine sp W 0 rfl rfl rfl (fun c5 => ?_) (fun c5 => ?_)
                    · refine rp W 0 rfl rfl rfl (.no (fun q => (hP.1 q.1).2.2.1 ⟨c3, .inr trivial⟩))
                    · exact absurd m2 c5
                · have c3 : ¬ s.getD (n + 1 + j + 1 + 1) 0 = 48 := fun e => c3 (by rw [show ((n : Int) + 1 + (j : Int) + 1 + 1).toNat = n + 1 + j + 1 + 1 by omega]; exact (u8_eq (c := 48)).2 e)
                  have f3 : ¬ (s.getD (n + 1 + j + 1 + 1) 0 = 48 ∧ (1 < k ∨ True)) := fun q => c3 q.1
                  refine sp W 0 rfl rfl rfl (fun c6 => ?_) (fun c6 => ?_)
                  · refine sp W 0 rfl rfl rfl (fun c7 => ?_) (fun c7 => ?_)
                    · rw [show ((n : Int) + 1 + (j : Int) + 1 + 1).toNat = n + 1 + j + 1 + 1 by omega, show (((n : Int) + 1 + (j : Int) + 1 + 1) + (k : Int)).toNat = n + 1 + j + 1 + 1 + k by omega] at c7
                      refine rp W 0 rfl rfl rfl (.no (fun q => (hP.1 q.1).2.2.2.1 ⟨by omega, c7⟩))
                    · rw [show ((n : Int) + 1 + (j : Int) + 1 + 1).toNat = n + 1 + j + 1 + 1 by omega, show (((n : Int) + 1 + (j : Int) + 1 + 1) + (k : Int)).toNat = n + 1 + j + 1 + 1 + k by omega] at c7
                      have f4 : ¬ (k = 3 ∧ ¬ (Op.bytesLess ((s.take (n + 1 + j + 1 + 1 + k)).drop (n + 1 + j + 1 + 1)) [52, 48, 48] = true ∨ (s.take (n + 1 + j + 1 + 1 + k)).drop (n + 1 + j + 1 + 1) = [52, 48, 48])) := fun q => c7 q.2
                      refine rp W 0 rfl rfl rfl (.pr ⟨fun e => ⟨hP.2 ⟨by omega, by omega, f3, f4, by omega⟩, by omega⟩, fun q => by have := (hP.1 q.1).2.2.2.2; omega⟩)
                  · have f4 : ¬ (k = 3 ∧ ¬ (Op.bytesLess ((s.take (n + 1 + j + 1 + 1 + k)).drop (n + 1 + j + 1 + 1)) [52, 48, 48] = true ∨ (s.take (n + 1 + j + 1 + 1 + k)).drop (n + 1 + j + 1 + 1) = [52, 48, 48])) := fun q => by have := q.1; omega
                    refine rp W 0 rfl rfl rfl (.pr ⟨fun e => ⟨hP.2 ⟨by omega, by omega, f3, f4, by omega⟩, by omega⟩, fun q => by have := (hP.1 q.1).2.2.2.2; omega⟩)
              · rw [show ((n : Int) + 1 + (j : Int) + 1).toNat = n + 1 + j + 1 by omega] at m2
                have hu : s.drop (n + 1 + j + 1) = cutP (s.drop (n + 1 + j + 1)) 45 := cutP_no (by omega) fun e => m2 ((u8_eq (c := 45)).2 e)
                have hm : False ↔ (s.drop (n + 1 + j + 1)).head? = some 45 := by rw [head_at (by omega)]; exact ⟨False.elim, fun e => m2 ((u8_eq (c := 45)).2 e)⟩
                rw [← show ((n : Int) + 1 + (j : Int) + 1).toNat = n + 1 + j + 1 by omega] at m2
                have kr : AFunP Tryz.prog 94 [.str s, .int .i64 ((n : Int) + 1 + (j : Int) + 1)] (· = .int .i64 (run s (n + 1 + j + 1) : Nat)) := by
                  have := l11Run_ok s (n + 1 + j + 1) (by omega) (by omega)
                  rwa [show ((n + 1 + j + 1 : Nat) : Int) = (n : Int) + 1 + (j : Int) + 1 by omega] at this
                have tr := run_le s (n + 1 + j + 1) (by omega)
                have hP := hq2.trans (powA_ok (a := n + 1 + j + 1) (m := False) (by omega) hu hm)
                unfold powA at hP
                refine ce W 0 rfl rfl (kr) rfl ?_
                generalize run s (n + 1 + j + 1) = k at *
                refine sp W 0 rfl rfl rfl (fun c1 => ?_) (fun c1 => ?_)
                · refine rp W 0 rfl rfl rfl (.no (fun q => (hP.1 q.1).1 (by omega)))
                refine sp W 0 rfl rfl rfl (fun c2 => ?_) (fun c2 => ?_)
                · refine rp W 0 rfl rfl rfl (.no (fun q => by have := (hP.1 q.1).2.1; omega))
                refine sp W 0 rfl rfl rfl (fun c3 => ?_) (fun c3 => ?_)
                · have c3 : s.getD (n + 1 + j + 1) 0 = 48 := by rw [show ((n : Int) + 1 + (j : Int) + 1).toNat = n + 1 + j + 1 by omega] at c3; exact (u8_eq (c := 48)).1 c3
                  refine sp W 0 rfl rfl rfl (fun c4 => ?_) (fun c4 => ?_)
                  · refine rp W 0 rfl rfl rfl (.no (fun q => (hP.1 q.1).2.2.1 ⟨c3, .inl (by omega)⟩))
                  · refine sp W 0 rfl rfl rfl (fun c5 => ?_) (fun c5 => ?_)
                    · exact absurd c5 m2
                    · have f3 : ¬ (s.getD (n + 1 + j + 1) 0 = 48 ∧ (1 < k ∨ False)) := fun q => q.2.elim (fun q => by omega) id
                      refine sp W 0 rfl rfl rfl (fun c6 => ?_) (fun c6 => ?_)
                      · refine sp W 0 rfl rfl rfl (fun c7 => ?_) (fun c7 => ?_)
                        · rw [show ((n : Int) + 1 + (j : Int) + 1).toNat = n + 1 + j + 1 by omega, show (((n : Int) + 1 + (j : Int) + 1) + (k : Int)).toNat = n + 1 + j + 1 + k by omega] at c7
                          refine rp W 0 rfl rfl rfl (.no (fun q => (hP.1 q.1).2.2.2.1 ⟨by omega, c7⟩))
                        · rw [show ((n : Int) + 1 + (j : Int) + 1).toNat = n + 1 + j + 1 by omega, show (((n : Int) + 1 + (j : Int) + 1) + (k : Int)).toNat = n + 1 + j + 1 + k by omega] at c7
                          have f4 : ¬ (k = 3 ∧ ¬ (Op.bytesLess ((s.take (n + 1 + j + 1 + k)).drop (n + 1 + j + 1)) [52, 48, 48] = true ∨ (s.take (n + 1 + j + 1 + k)).drop (n + 1 + j + 1) = [52, 48, 48])) := fun q => c7 q.2
                          refine rp W 0 rfl rfl rfl (.pr ⟨fun e => ⟨hP.2 ⟨by omega, by omega, f3, f4, by omega⟩, by omega⟩, fun q => by have := (hP.1 q.1).2.2.2.2; omega⟩)
                      · have f4 : ¬ (k = 3 ∧ ¬ (Op.bytesLess ((s.take (n + 1 + j + 1 + k)).drop (n + 1 + j + 1)) [52, 48, 48] = true ∨ (s.take (n + 1 + j + 1 + k)).drop (n + 1 + j + 1) = [52, 48, 48])) := fun q => by have := q.1; omega
                        refine rp W 0 rfl rfl rfl (.pr ⟨fun e => ⟨hP.2 ⟨by omega, by omega, f3, f4, by omega⟩, by omega⟩, fun q => by have := (hP.1 q.1).2.2.2.2; omega⟩)
                · have c3 : ¬ s.getD (n + 1 + j + 1) 0 = 48 := fun e => c3 (by rw [show ((n : Int) + 1 + (j : Int) + 1).toNat = n + 1 + j + 1 by omega]; exact (u8_eq (c := 48)).2 e)
                  have f3 : ¬ (s.getD (n + 1 + j + 1) 0 = 48 ∧ (1 < k ∨ False)) := fun q => c3 q.1
                  refine sp W 0 rfl rfl rfl (fun c6 => ?_) (fun c6 => ?_)
                  · refine sp W 0 rfl rfl rfl (fun c7 => ?_) (fun c7 => ?_)
                    · rw [show ((n : Int) + 1 + (j : Int) + 1).toNat = n + 1 + j + 1 by omega, show (((n : Int) + 1 + (j : Int) + 1) + (k : Int)).toNat = n + 1 + j + 1 + k by omega] at c7
                      refine rp W 0 rfl rfl rfl (.no (fun q => (hP.1 q.1).2.2.2.1 ⟨by omega, c7⟩))
                    · rw [show ((n : Int) + 1 + (j : Int) + 1).toNat = n + 1 + j + 1 by omega, show (((n : Int) + 1 + (j : Int) + 1) + (k : Int)).toNat = n + 1 + j + 1 + k by omega] at c7
                      have f4 : ¬ (k = 3 ∧ ¬ (Op.bytesLess ((s.take (n + 1 + j + 1 + k)).drop (n + 1 + j + 1)) [52, 48, 48] = true ∨ (s.take (n + 1 + j + 1 + k)).drop (n + 1 + j + 1) = [52, 48, 48])) := fun q => c7 q.2
                      refine rp W 0 rfl rfl rfl (.pr ⟨fun e => ⟨hP.2 ⟨by omega, by omega, f3, f4, by omega⟩, by omega⟩, fun q => by have := (hP.1 q.1).2.2.2.2; omega⟩)
                  · have f4 : ¬ (k = 3 ∧ ¬ (Op.bytesLess ((s.take (n + 1 + j + 1 + k)).drop (n + 1 + j + 1)) [52, 48, 48] = true ∨ (s.take (n + 1 + j + 1 + k)).drop (n + 1 + j + 1) = [52, 48, 48])) := fun q => by have := q.1; omega
                    refine rp W 0 rfl rfl rfl (.pr ⟨fun e => ⟨hP.2 ⟨by omega, by omega, f3, f4, by omega⟩, by omega⟩, fun q => by have := (hP.1 q.1).2.2.2.2; omega⟩)
            · have e0 : s.drop (n + 1 + j + 1) = [] := List.drop_eq_nil_iff.2 (by omega)
              have hu : s.drop (n + 1 + j + 1) = cutP (s.drop (n + 1 + j + 1)) 45 := by rw [e0]; rfl
              have hm : False ↔ (s.drop (n + 1 + j + 1)).head? = some 45 := by rw [e0]; simp
              have kr : AFunP Tryz.prog 94 [.str s, .int .i64 ((n : Int) + 1 + (j : Int) + 1)] (· = .int .i64 (run s (n + 1 + j + 1) : Nat)) := by
                have := l11Run_ok s (n + 1 + j + 1) (by omega) (by omega)
                rwa [show ((n + 1 + j + 1 : Nat) : Int) = (n : Int) + 1 + (j : Int) + 1 by omega] at this
              have tr := run_le s (n + 1 + j + 1) (by omega)
              have hP := hq2.trans (powA_ok (a := n + 1 + j + 1) (m := False) (by omega) hu hm)
              unfold powA at hP
              refine ce W 0 rfl rfl (kr) rfl ?_
              generalize run s (n + 1 + j + 1) = k at *
              refine sp W 0 rfl rfl rfl (fun c1 => ?_) (fun c1 => ?_)
              · refine rp W 0 rfl rfl rfl (.no (fun q => (hP.1 q.1).1 (by omega)))
              refine sp W 0 rfl rfl rfl (fun c2 => ?_) (fun c2 => ?_)
              · refine rp W 0 rfl rfl rfl (.no (fun q => by have := (hP.1 q.1).2.1; omega))
              refine sp W 0 rfl rfl rfl (fun c3 => ?_) (fun c3 => ?_)
              · have c3 : s.getD (n + 1 + j + 1) 0 = 48 := by rw [show ((n : Int) + 1 + (j : Int) + 1).toNat = n + 1 + j + 1 by omega] at c3; exact (u8_eq (c := 48)).1 c3
                refine sp W 0 rfl rfl rfl (fun c4 => ?_) (fun c4 => ?_)
                · refine rp W 0 rfl rfl rfl (.no (fun q => (hP.1 q.1).2.2.1 ⟨c3, .inl (by omega)⟩))
                · have f3 : ¬ (s.getD (n + 1 + j + 1) 0 = 48 ∧ (1 < k ∨ False)) := fun q => q.2.elim (fun q => by omega) id
                  refine sp W 0 rfl rfl rfl (fun c6 => ?_) (fun c6 => ?_)
                  · refine sp W 0 rfl rfl rfl (fun c7 => ?_) (fun c7 => ?_)
                    · rw [show ((n : Int) + 1 + (j : Int) + 1).toNat = n + 1 + j + 1 by omega, show (((n : Int) + 1 + (j : Int) + 1) + (k : Int)).toNat = n + 1 + j + 1 + k by omega] at c7
                      refine rp W 0 rfl rfl rfl (.no (fun q => (hP.1 q.1).2.2.2.1 ⟨by omega, c7⟩))
                    · rw [show ((n : Int) + 1 + (j : Int) + 1).toNat = n + 1 + j + 1 by omega, show (((n : Int) + 1 + (j : Int) + 1) + (k : Int)).toNat = n + 1 + j + 1 + k by omega] at c7
                      have f4 : ¬ (k = 3 ∧ ¬ (Op.bytesLess ((s.take (n + 1 + j + 1 + k)).drop (n + 1 + j + 1)) [52, 48, 48] = true ∨ (s.take (n + 1 + j + 1 + k)).drop (n + 1 + j + 1) = [52, 48, 48])) := fun q => c7 q.2
                      refine rp W 0 rfl rfl rfl (.pr ⟨fun e => ⟨hP.2 ⟨by omega, by omega, f3, f4, by omega⟩, by omega⟩, fun q => by have := (hP.1 q.1).2.2.2.2; omega⟩)
                  · have f4 : ¬ (k = 3 ∧ ¬ (Op.bytesLess ((s.take (n + 1 + j + 1 + k)).drop (n + 1 + j + 1)) [52, 48, 48] = true ∨ (s.take (n + 1 + j + 1 + k)).drop (n + 1 + j + 1) = [52, 48, 48])) := fun q => by have := q.1; omega
                    refine rp W 0 rfl rfl rfl (.pr ⟨fun e => ⟨hP.2 ⟨by omega, by omega, f3, f4, by omega⟩, by omega⟩, fun q => by have := (hP.1 q.1).2.2.2.2; omega⟩)
              · have c3 : ¬ s.getD (n + 1 + j + 1) 0 = 48 := fun e => c3 (by rw [show ((n : Int) + 1 + (j : Int) + 1).toNat = n + 1 + j + 1 by omega]; exact (u8_eq (c := 48)).2 e)
                have f3 : ¬ (s.getD (n + 1 + j + 1) 0 = 48 ∧ (1 < k ∨ False)) := fun q => c3 q.1
                refine sp W 0 rfl rfl rfl (fun c6 => ?_) (fun c6 => ?_)
                · refine sp W 0 rfl rfl rfl (fun c7 => ?_) (fun c7 => ?_)
                  · rw [show ((n : Int) + 1 + (j : Int) + 1).toNat = n + 1 + j + 1 by omega, show (((n : Int) + 1 + (j : Int) + 1) + (k : Int)).toNat = n + 1 + j + 1 + k by omega] at c7
                    refine rp W 0 rfl rfl rfl (.no (fun q => (hP.1 q.1).2.2.2.1 ⟨by omega, c7⟩))
                  · rw [show ((n : Int) + 1 + (j : Int) + 1).toNat = n + 1 + j + 1 by omega, show (((n : Int) + 1 + (j : Int) + 1) + (k : Int)).toNat = n + 1 + j + 1 + k by omega] at c7
                    have f4 : ¬ (k = 3 ∧ ¬ (Op.bytesLess ((s.take (n + 1 + j + 1 + k)).drop (n + 1 + j + 1)) [52, 48, 48] = true ∨ (s.take (n + 1 + j + 1 + k)).drop (n + 1 + j + 1) = [52, 48, 48])) := fun q => c7 q.2
                    refine rp W 0 rfl rfl rfl (.pr ⟨fun e => ⟨hP.2 ⟨by omega, by omega, f3, f4, by omega⟩, by omega⟩, fun q => by have := (hP.1 q.1).2.2.2.2; omega⟩)
                · have f4 : ¬ (k = 3 ∧ ¬ (Op.bytesLess ((s.take (n + 1 + j + 1 + k)).drop (n + 1 + j + 1)) [52, 48, 48] = true ∨ (s.take (n + 1 + j + 1 + k)).drop (n + 1 + j + 1) = [52, 48, 48])) := fun q => by have := q.1; omega
                  refine rp W 0 rfl rfl rfl (.pr ⟨fun e => ⟨hP.2 ⟨by omega, by omega, f3, f4, by omega⟩, by omega⟩, fun q => by have := (hP.1 q.1).2.2.2.2; omega⟩)
          · rw [show ((n : Int) + 1 + (j : Int)).toNat = n + 1 + j by omega] at p4
            have hn : ¬ numE s := fun e => powE_no (by omega) (fun e => p4 ((u8_eq (c := 101)).2 e)) (hq.1 e)
            refine rp W 0 rfl rfl rfl (.pr ⟨fun e => by omega, fun e => absurd e.1 hn⟩)
        · have hn : numE s := hq.2 (powE_nil (by omega))
          refine rp W 0 rfl rfl rfl (.pr ⟨fun e => ⟨hn, by omega⟩, fun e => by omega⟩)
      · rw [show (n : Int).toNat = n by omega] at p2
        have hq : numE s ↔ powE (s.drop n) := by
          refine hq0.trans ?_
          rw [← r0, fracE_no fun e => p2 ((u8_eq (c := 46)).2 e)]
        refine sp W 0 rfl rfl rfl (fun p3 => ?_) (fun p3 => ?_)
        · refine sp W 0 rfl rfl rfl (fun p4 => ?_) (fun p4 => ?_)
          · rw [show ((n : Int)).toNat = n by omega] at p4
            have hq2 : numE s ↔ powE1 (s.drop (n + 1)) := hq.trans (powE_yes (by omega) ((u8_eq (c := 101)).1 p4))
            refine sp W 0 rfl rfl rfl (fun m1 => ?_) (fun m1 => ?_)
            · refine sp W 0 rfl rfl rfl (fun m2 => ?_) (fun m2 => ?_)
              · rw [show ((n : Int) + 1).toNat = n + 1 by omega] at m2
                have hu : s.drop (n + 1 + 1) = cutP (s.drop (n + 1)) 45 := cutP_yes (by omega) ((u8_eq (c := 45)).1 m2)
                have hm : True ↔ (s.drop (n + 1)).head? = some 45 := by rw [head_at (by omega)]; exact ⟨fun _ => (u8_eq (c := 45)).1 m2, fun _ => trivial⟩
                rw [← show ((n : Int) + 1).toNat = n + 1 by omega] at m2
                have kr : AFunP Tryz.prog 94 [.str s, .int .i64 ((n : Int) + 1 + 1)] (· = .int .i64 (run s (n + 1 + 1) : Nat)) := by
                  have := l11Run_ok s (n + 1 + 1) (by omega) (by omega)
                  rwa [show ((n + 1 + 1 : Nat) : Int) = (n : Int) + 1 + 1 by omega] at this
                have tr := run_le s (n + 1 + 1) (by omega)
                have hP := hq2.trans (powA_ok (a := n + 1 + 1) (m := True) (by omega) hu hm)
                unfold powA at hP
                refine ce W 0 rfl rfl (kr) rfl ?_
                generalize run s (n + 1 + 1) = k at *
                refine sp W 0 rfl rfl rfl (fun c1 => ?_) (fun c1 => ?_)
                · refine rp W 0 rfl rfl rfl (.no (fun q => (hP.1 q.1).1 (by omega)))
                refine sp W 0 rfl rfl rfl (fun c2 => ?_) (fun c2 => ?_)
                · refine rp W 0 rfl rfl rfl (.no (fun q => by have := (hP.1 q.1).2.1; omega))
                refine sp W 0 rfl rfl rfl (fun c3 => ?_) (fun c3 => ?_)
                · have c3 : s.getD (n + 1 + 1) 0 = 48 := by rw [show ((n : Int) + 1 + 1).toNat = n + 1 + 1 by omega] at c3; exact (u8_eq (c := 48)).1 c3
                  refine sp W 0 rfl rfl rfl (fun c4 => ?_) (fun c4 => ?_)
                  · refine rp W 0 rfl rfl rfl (.no (fun q => (hP.1 q.1).2.2.1 ⟨c3, .inl (by omega)⟩))
                  · refine sp W 0 rfl rfl rfl (fun c5 => ?_) (fun c5 => ?_)
                    · refine rp W 0 rfl rfl rfl (.no (fun q => (hP.1 q.1).2.2.1 ⟨c3, .inr trivial⟩))
                    · exact absurd m2 c5
                · have c3 : ¬ s.getD (n + 1 + 1) 0 = 48 := fun e => c3 (by rw [show ((n : Int) + 1 + 1).toNat = n + 1 + 1 by omega]; exact (u8_eq (c := 48)).2 e)
                  have f3 : ¬ (s.getD (n + 1 + 1) 0 = 48 ∧ (1 < k ∨ True)) := fun q => c3 q.1
                  refine sp W 0 rfl rfl rfl (fun c6 => ?_) (fun c6 => ?_)
                  · refine sp W 0 rfl rfl rfl (fun c7 => ?_) (fun c7 => ?_)
                    · rw [show ((n : Int) + 1 + 1).toNat = n + 1 + 1 by omega, show (((n : Int) + 1 + 1) + (k : Int)).toNat = n + 1 + 1 + k by omega] at c7
                      refine rp W 0 rfl rfl rfl (.no (fun q => (hP.1 q.1).2.2.2.1 ⟨by omega, c7⟩))
                    · rw [show ((n : Int) + 1 + 1).toNat = n + 1 + 1 by omega, show (((n : Int) + 1 + 1) + (k : Int)).toNat = n + 1 + 1 + k by omega] at c7
                      have f4 : ¬ (k = 3 ∧ ¬ (Op.bytesLess ((s.take (n + 1 + 1 + k)).drop (n + 1 + 1)) [52, 48, 48] = true ∨ (s.take (n + 1 + 1 + k)).drop (n + 1 + 1) = [52, 48, 48])) := fun q => c7 q.2
                      refine rp W 0 rfl rfl rfl (.pr ⟨fun e => ⟨hP.2 ⟨by omega, by omega, f3, f4, by omega⟩, by omega⟩, fun q => by have := (hP.1 q.1).2.2.2.2; omega⟩)
                  · have f4 : ¬ (k = 3 ∧ ¬ (Op.bytesLess ((s.take (n + 1 + 1 + k)).drop (n + 1 + 1)) [52, 48, 48] = true ∨ (s.take (n + 1 + 1 + k)).drop (n + 1 + 1) = [52, 48, 48])) := fun q => by have := q.1; omega
                    refine rp W 0 rfl rfl rfl (.pr ⟨fun e => ⟨hP.2 ⟨by omega, by omega, f3, f4, by omega⟩, by omega⟩, fun q => by have := (hP.1 q.1).2.2.2.2; omega⟩)
              · rw [show ((n : Int) + 1).toNat = n + 1 by omega] at m2
                have hu : s.drop (n + 1) = cutP (s.drop (n + 1)) 45 := cutP_no (by omega) fun e => m2 ((u8_eq (c := 45)).2 e)
                have hm : False ↔ (s.drop (n + 1)).head? = some 45 := by rw [head_at (by omega)]; exact ⟨False.elim, fun e => m2 ((u8_eq (c := 45)).2 e)⟩
                rw [← show ((n : Int) + 1).toNat = n + 1 by omega] at m2
                have kr : AFunP Tryz.prog 94 [.str s, .int .i64 ((n : Int) + 1)] (· = .int .i64 (run s (n + 1) : Nat)) := by
                  have := l11Run_ok s (n + 1) (by omega) (by omega)
                  rwa [show ((n + 1 : Nat) : Int) = (n : Int) + 1 by omega] at this
                have tr := run_le s (n + 1) (by omega)
                have hP := hq2.trans (powA_ok (a := n + 1) (m := False) (by omega) hu hm)
                unfold powA at hP
                refine ce W 0 rfl rfl (kr) rfl ?_
                generalize run s (n + 1) = k at *
                refine sp W 0 rfl rfl rfl (fun c1 => ?_) (fun c1 => ?_)
                · refine rp W 0 rfl rfl rfl (.no (fun q => (hP.1 q.1).1 (by omega)))
                refine sp W 0 rfl rfl rfl (fun c2 => ?_) (fun c2 => ?_)
                · refine rp W 0 rfl rfl rfl (.no (fun q => by have := (hP.1 q.1).2.1; omega))
                refine sp W 0 rfl rfl rfl (fun c3 => ?_) (fun c3 => ?_)
                · have c3 : s.getD (n + 1) 0 = 48 := by rw [show ((n : Int) + 1).toNat = n + 1 by omega] at c3; exact (u8_eq (c := 48)).1 c3
                  refine sp W 0 rfl rfl rfl (fun c4 => ?_) (fun c4 => ?_)
                  · refine rp W 0 rfl rfl rfl (.no (fun q => (hP.1 q.1).2.2.1 ⟨c3, .inl (by omega)⟩))
                  · refine sp W 0 rfl rfl rfl (fun c5 => ?_) (fun c5 => ?_)
                    · exact absurd c5 m2
                    · have f3 : ¬ (s.getD (n + 1) 0 = 48 ∧ (1 < k ∨ False)) := fun q => q.2.elim (fun q => by omega) id
                      refine sp W 0 rfl rfl rfl (fun c6 => ?_) (fun c6 => ?_)
                      · refine sp W 0 rfl rfl rfl (fun c7 => ?_) (fun c7 => ?_)
                        · rw [show ((n : Int) + 1).toNat = n + 1 by omega, show (((n : Int) + 1) + (k : Int)).toNat = n + 1 + k by omega] at c7
                          refine rp W 0 rfl rfl rfl (.no (fun q => (hP.1 q.1).2.2.2.1 ⟨by omega, c7⟩))
                        · rw [show ((n : Int) + 1).toNat = n + 1 by omega, show (((n : Int) + 1) + (k : Int)).toNat = n + 1 + k by omega] at c7
                          have f4 : ¬ (k = 3 ∧ ¬ (Op.bytesLess ((s.take (n + 1 + k)).drop (n + 1)) [52, 48, 48] = true ∨ (s.take (n + 1 + k)).drop (n + 1) = [52, 48, 48])) := fun q => c7 q.2
                          refine rp W 0 rfl rfl rfl (.pr ⟨fun e => ⟨hP.2 ⟨by omega, by omega, f3, f4, by omega⟩, by omega⟩, fun q => by have := (hP.1 q.1).2.2.2.2; omega⟩)
                      · have f4 : ¬ (k = 3 ∧ ¬ (Op.bytesLess ((s.take (n + 1 + k)).drop (n + 1)) [52, 48, 48] = true ∨ (s.take (n + 1 + k)).drop (n + 1) = [52, 48, 48])) := fun q => by have := q.1; omega
                        refine rp W 0 rfl rfl rfl (.pr ⟨fun e => ⟨hP.2 ⟨by omega, by omega, f3, f4, by omega⟩, by omega⟩, fun q => by have := (hP.1 q.1).2.2.2.2; omega⟩)
                · have c3 : ¬ s.getD (n + 1) 0 = 48 := fun e => c3 (by rw [show ((n : Int) + 1).toNat = n + 1 by omega]; exact (u8_eq (c := 48)).2 e)
                  have f3 : ¬ (s.getD (n + 1) 0 = 48 ∧ (1 < k ∨ False)) := fun q => c3 q.1
                  refine sp W 0 rfl rfl rfl (fun c6 => ?_) (fun c6 => ?_)
                  · refine sp W 0 rfl rfl rfl (fun c7 => ?_) (fun c7 => ?_)
                    · rw [show ((n : Int) + 1).toNat = n + 1 by omega, show (((n : Int) + 1) + (k : Int)).toNat = n + 1 + k by omega] at c7
                      refine rp W 0 rfl rfl rfl (.no (fun q => (hP.1 q.1).2.2.2.1 ⟨by omega, c7⟩))
                    · rw [show ((n : Int) + 1).toNat = n + 1 by omega, show (((n : Int) + 1) + (k : Int)).toNat = n + 1 + k by omega] at c7
                      have f4 : ¬ (k = 3 ∧ ¬ (Op.bytesLess ((s.take (n + 1 + k)).drop (n + 1)) [52, 48, 48] = true ∨ (s.take (n + 1 + k)).drop (n + 1) = [52, 48, 48])) := fun q => c7 q.2
                      refine rp W 0 rfl rfl rfl (.pr ⟨fun e => ⟨hP.2 ⟨by omega, by omega, f3, f4, by omega⟩, by omega⟩, fun q => by have := (hP.1 q.1).2.2.2.2; omega⟩)
                  · have f4 : ¬ (k = 3 ∧ ¬ (Op.bytesLess ((s.take (n + 1 + k)).drop (n + 1)) [52, 48, 48] = true ∨ (s.take (n + 1 + k)).drop (n + 1) = [52, 48, 48])) := fun q => by have := q.1; omega
                    refine rp W 0 rfl rfl rfl (.pr ⟨fun e => ⟨hP.2 ⟨by omega, by omega, f3, f4, by omega⟩, by omega⟩, fun q => by have := (hP.1 q.1).2.2.2.2; omega⟩)
            · have e0 : s.drop (n + 1) = [] := List.drop_eq_nil_iff.2 (by omega)
              have hu : s.drop (n + 1) = cutP (s.drop (n + 1)) 45 := by rw [e0]; rfl
              have hm : False ↔ (s.drop (n + 1)).head? = some 45 := by rw [e0]; simp
              have kr : AFunP Tryz.prog 94 [.str s, .int .i64 ((n : Int) + 1)] (· = .int .i64 (run s (n + 1) : Nat)) := by
                have := l11Run_ok s (n + 1) (by omega) (by omega)
                rwa [show ((n + 1 : Nat) : Int) = (n : Int) + 1 by omega] at this
              have tr := run_le s (n + 1) (by omega)
              have hP := hq2.trans (powA_ok (a := n + 1) (m := False) (by omega) hu hm)
              unfold powA at hP
              refine ce W 0 rfl rfl (kr) rfl ?_
              generalize run s (n + 1) = k at *
              refine sp W 0 rfl rfl rfl (fun c1 => ?_) (fun c1 => ?_)
              · refine rp W 0 rfl rfl rfl (.no (fun q => (hP.1 q.1).1 (by omega)))
              refine sp W 0 rfl rfl rfl (fun c2 => ?_) (fun c2 => ?_)
              · refine rp W 0 rfl rfl rfl (.no (fun q => by have := (hP.1 q.1).2.1; omega))
              refine sp W 0 rfl rfl rfl (fun c3 => ?_) (fun c3 => ?_)
              · have c3 : s.getD (n + 1) 0 = 48 := by rw [show ((n : Int) + 1).toNat = n + 1 by omega] at c3; exact (u8_eq (c := 48)).1 c3
                refine sp W 0 rfl rfl rfl (fun c4 => ?_) (fun c4 => ?_)
                · refine rp W 0 rfl rfl rfl (.no (fun q => (hP.1 q.1).2.2.1 ⟨c3, .inl (by omega)⟩))
                · have f3 : ¬ (s.getD (n + 1) 0 = 48 ∧ (1 < k ∨ False)) := fun q => q.2.elim (fun q => by omega) id
                  refine sp W 0 rfl rfl rfl (fun c6 => ?_) (fun c6 => ?_)
                  · refine sp W 0 rfl rfl rfl (fun c7 => ?_) (fun c7 => ?_)
                    · rw [show ((n : Int) + 1).toNat = n + 1 by omega, show (((n : Int) + 1) + (k : Int)).toNat = n + 1 + k by omega] at c7
                      refine rp W 0 rfl rfl rfl (.no (fun q => (hP.1 q.1).2.2.2.1 ⟨by omega, c7⟩))
                    · rw [show ((n : Int) + 1).toNat = n + 1 by omega, show (((n : Int) + 1) + (k : Int)).toNat = n + 1 + k by omega] at c7
                      have f4 : ¬ (k = 3 ∧ ¬ (Op.bytesLess ((s.take (n + 1 + k)).drop (n + 1)) [52, 48, 48] = true ∨ (s.take (n + 1 + k)).drop (n + 1) = [52, 48, 48])) := fun q => c7 q.2
                      refine rp W 0 rfl rfl rfl (.pr ⟨fun e => ⟨hP.2 ⟨by omega, by omega, f3, f4, by omega⟩, by omega⟩, fun q => by have := (hP.1 q.1).2.2.2.2; omega⟩)
                  · have f4 : ¬ (k = 3 ∧ ¬ (Op.bytesLess ((s.take (n + 1 + k)).drop (n + 1)) [52, 48, 48] = true ∨ (s.take (n + 1 + k)).drop (n + 1) = [52, 48, 48])) := fun q => by have := q.1; omega
                    refine rp W 0 rfl rfl rfl (.pr ⟨fun e => ⟨hP.2 ⟨by omega, by omega, f3, f4, by omega⟩, by omega⟩, fun q => by have := (hP.1 q.1).2.2.2.2; omega⟩)
              · have c3 : ¬ s.getD (n + 1) 0 = 48 := fun e => c3 (by rw [show ((n : Int) + 1).toNat = n + 1 by omega]; exact (u8_eq (c := 48)).2 e)
                have f3 : ¬ (s.getD (n + 1) 0 = 48 ∧ (1 < k ∨ False)) := fun q => c3 q.1
                refine sp W 0 rfl rfl rfl (fun c6 => ?_) (fun c6 => ?_)
                · refine sp W 0 rfl rfl rfl (fun c7 => ?_) (fun c7 => ?_)
                  · rw [show ((n : Int) + 1).toNat = n + 1 by omega, show (((n : Int) + 1) + (k : Int)).toNat = n + 1 + k by omega] at c7
                    refine rp W 0 rfl rfl rfl (.no (fun q => (hP.1 q.1).2.2.2.1 ⟨by omega, c7⟩))
                  · rw [show ((n : Int) + 1).toNat = n + 1 by omega, show (((n : Int) + 1) + (k : Int)).toNat = n + 1 + k by omega] at c7
                    have f4 : ¬ (k = 3 ∧ ¬ (Op.bytesLess ((s.take (n + 1 + k)).drop (n + 1)) [52, 48, 48] = true ∨ (s.take (n + 1 + k)).drop (n + 1) = [52, 48, 48])) := fun q => c7 q.2
                    refine rp W 0 rfl rfl rfl (.pr ⟨fun e => ⟨hP.2 ⟨by omega, by omega, f3, f4, by omega⟩, by omega⟩, fun q => by have := (hP.1 q.1).2.2.2.2; omega⟩)
                · have f4 : ¬ (k = 3 ∧ ¬ (Op.bytesLess ((s.take (n + 1 + k)).drop (n + 1)) [52, 48, 48] = true ∨ (s.take (n + 1 + k)).drop (n + 1) = [52, 48, 48])) := fun q => by have := q.1; omega
                  refine rp W 0 rfl rfl rfl (.pr ⟨fun e => ⟨hP.2 ⟨by omega, by omega, f3, f4, by omega⟩, by omega⟩, fun q => by have := (hP.1 q.1).2.2.2.2; omega⟩)
          · rw [show ((n : Int)).toNat = n by omega] at p4
            have hn : ¬ numE s := fun e => powE_no (by omega) (fun e => p4 ((u8_eq (c := 101)).2 e)) (hq.1 e)
            refine rp W 0 rfl rfl rfl (.pr ⟨fun e => by omega, fun e => absurd e.1 hn⟩)
        · have hn : numE s := hq.2 (powE_nil (by omega))
          refine rp W 0 rfl rfl rfl (.pr ⟨fun e => ⟨hn, by omega⟩, fun e => by omega⟩)
    · have hq : numE s ↔ powE (s.drop n) := by
        refine hq0.trans ?_
        rw [← r0, show s.drop n = [] from List.drop_eq_nil_iff.2 (by omega)]
        simp [fracE]
      refine sp W 0 rfl rfl rfl (fun p3 => ?_) (fun p3 => ?_)
      · refine sp W 0 rfl rfl rfl (fun p4 => ?_) (fun p4 => ?_)
        · rw [show ((n : Int)).toNat = n by omega] at p4
          have hq2 : numE s ↔ powE1 (s.drop (n + 1)) := hq.trans (powE_yes (by omega) ((u8_eq (c := 101)).1 p4))
          refine sp W 0 rfl rfl rfl (fun m1 => ?_) (fun m1 => ?_)
          · refine sp W 0 rfl rfl rfl (fun m2 => ?_) (fun m2 => ?_)
            · rw [show ((n : Int) + 1).toNat = n + 1 by omega] at m2
              have hu : s.drop (n + 1 + 1) = cutP (s.drop (n + 1)) 45 := cutP_yes (by omega) ((u8_eq (c := 45)).1 m2)
              have hm : True ↔ (s.drop (n + 1)).head? = some 45 := by rw [head_at (by omega)]; exact ⟨fun _ => (u8_eq (c := 45)).1 m2, fun _ => trivial⟩
              rw [← show ((n : Int) + 1).toNat = n + 1 by omega] at m2
              have kr : AFunP Tryz.prog 94 [.str s, .int .i64 ((n : Int) + 1 + 1)] (· = .int .i64 (run s (n + 1 + 1) : Nat)) := by
                have := l11Run_ok s (n + 1 + 1) (by omega) (by omega)
                rwa [show ((n + 1 + 1 : Nat) : Int) = (n : Int) + 1 + 1 by omega] at this
              have tr := run_le s (n + 1 + 1) (by omega)
              have hP := hq2.trans (powA_ok (a := n + 1 + 1) (m := True) (by omega) hu hm)
              unfold powA at hP
              refine ce W 0 rfl rfl (kr) rfl ?_
              generalize run s (n + 1 + 1) = k at *
              refine sp W 0 rfl rfl rfl (fun c1 => ?_) (fun c1 => ?_)
              · refine rp W 0 rfl rfl rfl (.no (fun q => (hP.1 q.1).1 (by omega)))
              refine sp W 0 rfl rfl rfl (fun c2 => ?_) (fun c2 => ?_)
              · refine rp W 0 rfl rfl rfl (.no (fun q => by have := (hP.1 q.1).2.1; omega))
              refine sp W 0 rfl rfl rfl (fun c3 => ?_) (fun c3 => ?_)
              · have c3 : s.getD (n + 1 + 1) 0 = 48 := by rw [show ((n : Int) + 1 + 1).toNat = n + 1 + 1 by omega] at c3; exact (u8_eq (c := 48)).1 c3
                refine sp W 0 rfl rfl rfl (fun c4 => ?_) (fun c4 => ?_)
                · refine rp W 0 rfl rfl rfl (.no (fun q => (hP.1 q.1).2.2.1 ⟨c3, .inl (by omega)⟩))
                · refine sp W 0 rfl rfl rfl (fun c5 => ?_) (fun c5 => ?_)
                  · refine rp W 0 rfl rfl rfl (.no (fun q => (hP.1 q.1).2.2.1 ⟨c3, .inr trivial⟩))
                  · exact absurd m2 c5
              · have c3 : ¬ s.getD (n + 1 + 1) 0 = 48 := fun e => c3 (by rw [show ((n : Int) + 1 + 1).toNat = n + 1 + 1 by omega]; exact (u8_eq (c := 48)).2 e)
                have f3 : ¬ (s.getD (n + 1 + 1) 0 = 48 ∧ (1 < k ∨ True)) := fun q => c3 q.1
                refine sp W 0 rfl rfl rfl (fun c6 => ?_) (fun c6 => ?_)
                · refine sp W 0 rfl rfl rfl (fun c7 => ?_) (fun c7 => ?_)
                  · rw [show ((n : Int) + 1 + 1).toNat = n + 1 + 1 by omega, show (((n : Int) + 1 + 1) + (k : Int)).toNat = n + 1 + 1 + k by omega] at c7
                    refine rp W 0 rfl rfl rfl (.no (fun q => (hP.1 q.1).2.2.2.1 ⟨by omega, c7⟩))
                  · rw [show ((n : Int) + 1 + 1).toNat = n + 1 + 1 by omega, show (((n : Int) + 1 + 1) + (k : Int)).toNat = n + 1 + 1 + k by omega] at c7
                    have f4 : ¬ (k = 3 ∧ ¬ (Op.bytesLess ((s.take (n + 1 + 1 + k)).drop (n + 1 + 1)) [52, 48, 48] = true ∨ (s.take (n + 1 + 1 + k)).drop (n + 1 + 1) = [52, 48, 48])) := fun q => c7 q.2
                    refine rp W 0 rfl rfl rfl (.pr ⟨fun e => ⟨hP.2 ⟨by omega, by omega, f3, f4, by omega⟩, by omega⟩, fun q => by have := (hP.1 q.1).2.2.2.2; omega⟩)
                · have f4 : ¬ (k = 3 ∧ ¬ (Op.bytesLess ((s.take (n + 1 + 1 + k)).drop (n + 1 + 1)) [52, 48, 48] = true ∨ (s.take (n + 1 + 1 + k)).drop (n + 1 + 1) = [52, 48, 48])) := fun q => by have := q.1; omega
                  refine rp W 0 rfl rfl rfl (.pr ⟨fun e => ⟨hP.2 ⟨by omega, by omega, f3, f4, by omega⟩, by omega⟩, fun q => by have := (hP.1 q.1).2.2.2.2; omega⟩)
            · rw [show ((n : Int) + 1).toNat = n + 1 by omega] at m2
              have hu : s.drop (n + 1) = cutP (s.drop (n + 1)) 45 := cutP_no (by omega) fun e => m2 ((u8_eq (c := 45)).2 e)
              have hm : False ↔ (s.drop (n + 1)).head? = some 45 := by rw [head_at (by omega)]; exact ⟨False.elim, fun e => m2 ((u8_eq (c := 45)).2 e)⟩
              rw [← show ((n : Int) + 1).toNat = n + 1 by omega] at m2
              have kr : AFunP Tryz.prog 94 [.str s, .int .i64 ((n : Int) + 1)] (· = .int .i64 (run s (n + 1) : Nat)) := by
                have := l11Run_ok s (n + 1) (by omega) (by omega)
                rwa [show ((n + 1 : Nat) : Int) = (n : Int) + 1 by omega] at this
              have tr := run_le s (n + 1) (by omega)
              have hP := hq2.trans (powA_ok (a := n + 1) (m := False) (by omega) hu hm)
              unfold powA at hP
              refine ce W 0 rfl rfl (kr) rfl ?_
              generalize run s (n + 1) = k at *
              refine sp W 0 rfl rfl rfl (fun c1 => ?_) (fun c1 => ?_)
              · refine rp W 0 rfl rfl rfl (.no (fun q => (hP.1 q.1).1 (by omega)))
              refine sp W 0 rfl rfl rfl (fun c2 => ?_) (fun c2 => ?_)
              · refine rp W 0 rfl rfl rfl (.no (fun q => by have := (hP.1 q.1).2.1; omega))
              refine sp W 0 rfl rfl rfl (fun c3 => ?_) (fun c3 => ?_)
              · have c3 : s.getD (n + 1) 0 = 48 := by rw [show ((n : Int) + 1).toNat = n + 1 by omega] at c3; exact (u8_eq (c := 48)).1 c3
                refine sp W 0 rfl rfl rfl (fun c4 => ?_) (fun c4 => ?_)
                · refine rp W 0 rfl rfl rfl (.no (fun q => (hP.1 q.1).2.2.1 ⟨c3, .inl (by omega)⟩))
                · refine sp W 0 rfl rfl rfl (fun c5 => ?_) (fun c5 => ?_)
                  · exact absurd c5 m2
                  · have f3 : ¬ (s.getD (n + 1) 0 = 48 ∧ (1 < k ∨ False)) := fun q => q.2.elim (fun q => by omega) id
                    refine sp W 0 rfl rfl rfl (fun c6 => ?_) (fun c6 => ?_)
                    · refine sp W 0 rfl rfl rfl (fun c7 => ?_) (fun c7 => ?_)
                      · rw [show ((n : Int) + 1).toNat = n + 1 by omega, show (((n : Int) + 1) + (k : Int)).toNat = n + 1 + k by omega] at c7
                        refine rp W 0 rfl rfl rfl (.no (fun q => (hP.1 q.1).2.2.2.1 ⟨by omega, c7⟩))
                      · rw [show ((n : Int) + 1).toNat = n + 1 by omega, show (((n : Int) + 1) + (k : Int)).toNat = n + 1 + k by omega] at c7
                        have f4 : ¬ (k = 3 ∧ ¬ (Op.bytesLess ((s.take (n + 1 + k)).drop (n + 1)) [52, 48, 48] = true ∨ (s.take (n + 1 + k)).drop (n + 1) = [52, 48, 48])) := fun q => c7 q.2
                        refine rp W 0 rfl rfl rfl (.pr ⟨fun e => ⟨hP.2 ⟨by omega, by omega, f3, f4, by omega⟩, by omega⟩, fun q => by have := (hP.1 q.1).2.2.2.2; omega⟩)
                    · have f4 : ¬ (k = 3 ∧ ¬ (Op.bytesLess ((s.take (n + 1 + k)).drop (n + 1)) [52, 48, 48] = true ∨ (s.take (n + 1 + k)).drop (n + 1) = [52, 48, 48])) := fun q => by have := q.1; omega
                      refine rp W 0 rfl rfl rfl (.pr ⟨fun e => ⟨hP.2 ⟨by omega, by omega, f3, f4, by omega⟩, by omega⟩, fun q => by have := (hP.1 q.1).2.2.2.2; omega⟩)
              · have c3 : ¬ s.getD (n + 1) 0 = 48 := fun e => c3 (by rw [show ((n : Int) + 1).toNat = n + 1 by omega]; exact (u8_eq (c := 48)).2 e)
                have f3 : ¬ (s.getD (n + 1) 0 = 48 ∧ (1 < k ∨ False)) := fun q => c3 q.1
                refine sp W 0 rfl rfl rfl (fun c6 => ?_) (fun c6 => ?_)
                · refine sp W 0 rfl rfl rfl (fun c7 => ?_) (fun c7 => ?_)
                  · rw [show ((n : Int) + 1).toNat = n + 1 by omega, show (((n : Int) + 1) + (k : Int)).toNat = n + 1 + k by omega] at c7
                    refine rp W 0 rfl rfl rfl (.no (fun q => (hP.1 q.1).2.2.2.1 ⟨by omega, c7⟩))
                  · rw [show ((n : Int) + 1).toNat = n + 1 by omega, show (((n : Int) + 1) + (k : Int)).toNat = n + 1 + k by omega] at c7
                    have f4 : ¬ (k = 3 ∧ ¬ (Op.bytesLess ((s.take (n + 1 + k)).drop (n + 1)) [52, 48, 48] = true ∨ (s.take (n + 1 + k)).drop (n + 1) = [52, 48, 48])) := fun q => c7 q.2
                    refine rp W 0 rfl rfl rfl (.pr ⟨fun e => ⟨hP.2 ⟨by omega, by omega, f3, f4, by omega⟩, by omega⟩, fun q => by have := (hP.1 q.1).2.2.2.2; omega⟩)
                · have f4 : ¬ (k = 3 ∧ ¬ (Op.bytesLess ((s.take (n + 1 + k)).drop (n + 1)) [52, 48, 48] = true ∨ (s.take (n + 1 + k)).drop (n + 1) = [52, 48, 48])) := fun q => by have := q.1; omega
                  refine rp W 0 rfl rfl rfl (.pr ⟨fun e => ⟨hP.2 ⟨by omega, by omega, f3, f4, by omega⟩, by omega⟩, fun q => by have := (hP.1 q.1).2.2.2.2; omega⟩)
          · have e0 : s.drop (n + 1) = [] := List.drop_eq_nil_iff.2 (by omega)
            have hu : s.drop (n + 1) = cutP (s.drop (n + 1)) 45 := by rw [e0]; rfl
            have hm : False ↔ (s.drop (n + 1)).head? = some 45 := by rw [e0]; simp
            have kr : AFunP Tryz.prog 94 [.str s, .int .i64 ((n : Int) + 1)] (· = .int .i64 (run s (n + 1) : Nat)) := by
              have := l11Run_ok s (n + 1) (by omega) (by omega)
              rwa [show ((n + 1 : Nat) : Int) = (n : Int) + 1 by omega] at this
            have tr := run_le s (n + 1) (by omega)
            have hP := hq2.trans (powA_ok (a := n + 1) (m := False) (by omega) hu hm)
            unfold powA at hP
            refine ce W 0 rfl rfl (kr) rfl ?_
            generalize run s (n + 1) = k at *
            refine sp W 0 rfl rfl rfl (fun c1 => ?_) (fun c1 => ?_)
            · refine rp W 0 rfl rfl rfl (.no (fun q => (hP.1 q.1).1 (by omega)))
            refine sp W 0 rfl rfl rfl (fun c2 => ?_) (fun c2 => ?_)
            · refine rp W 0 rfl rfl rfl (.no (fun q => by have := (hP.1 q.1).2.1; omega))
            refine sp W 0 rfl rfl rfl (fun c3 => ?_) (fun c3 => ?_)
            · have c3 : s.getD (n + 1) 0 = 48 := by rw [show ((n : Int) + 1).toNat = n + 1 by omega] at c3; exact (u8_eq (c := 48)).1 c3
              refine sp W 0 rfl rfl rfl (fun c4 => ?_) (fun c4 => ?_)
              · refine rp W 0 rfl rfl rfl (.no (fun q => (hP.1 q.1).2.2.1 ⟨c3, .inl (by omega)⟩))
              · have f3 : ¬ (s.getD (n + 1) 0 = 48 ∧ (1 < k ∨ False)) := fun q => q.2.elim (fun q => by omega) id
                refine sp W 0 rfl rfl rfl (fun c6 => ?_) (fun c6 => ?_)
                · refine sp W 0 rfl rfl rfl (fun c7 => ?_) (fun c7 => ?_)
                  · rw [show ((n : Int) + 1).toNat = n + 1 by omega, show (((n : Int) + 1) + (k : Int)).toNat = n + 1 + k by omega] at c7
                    refine rp W 0 rfl rfl rfl (.no (fun q => (hP.1 q.1).2.2.2.1 ⟨by omega, c7⟩))
                  · rw [show ((n : Int) + 1).toNat = n + 1 by omega, show (((n : Int) + 1) + (k : Int)).toNat = n + 1 + k by omega] at c7
                    have f4 : ¬ (k = 3 ∧ ¬ (Op.bytesLess ((s.take (n + 1 + k)).drop (n + 1)) [52, 48, 48] = true ∨ (s.take (n + 1 + k)).drop (n + 1) = [52, 48, 48])) := fun q => c7 q.2
                    refine rp W 0 rfl rfl rfl (.pr ⟨fun e => ⟨hP.2 ⟨by omega, by omega, f3, f4, by omega⟩, by omega⟩, fun q => by have := (hP.1 q.1).2.2.2.2; omega⟩)
                · have f4 : ¬ (k = 3 ∧ ¬ (Op.bytesLess ((s.take (n + 1 + k)).drop (n + 1)) [52, 48, 48] = true ∨ (s.take (n + 1 + k)).drop (n + 1) = [52, 48, 48])) := fun q => by have := q.1; omega
                  refine rp W 0 rfl rfl rfl (.pr ⟨fun e => ⟨hP.2 ⟨by omega, by omega, f3, f4, by omega⟩, by omega⟩, fun q => by have := (hP.1 q.1).2.2.2.2; omega⟩)
            · have c3 : ¬ s.getD (n + 1) 0 = 48 := fun e => c3 (by rw [show ((n : Int) + 1).toNat = n + 1 by omega]; exact (u8_eq (c := 48)).2 e)
              have f3 : ¬ (s.getD (n + 1) 0 = 48 ∧ (1 < k ∨ False)) := fun q => c3 q.1
              refine sp W 0 rfl rfl rfl (fun c6 => ?_) (fun c6 => ?_)
              · refine sp W 0 rfl rfl rfl (fun c7 => ?_) (fun c7 => ?_)
                · rw [show ((n : Int) + 1).toNat = n + 1 by omega, show (((n : Int) + 1) + (k : Int)).toNat = n + 1 + k by omega] at c7
                  refine rp W 0 rfl rfl rfl (.no (fun q => (hP.1 q.1).2.2.2.1 ⟨by omega, c7⟩))
                · rw [show ((n : Int) + 1).toNat = n + 1 by omega, show (((n : Int) + 1) + (k : Int)).toNat = n + 1 + k by omega] at c7
                  have f4 : ¬ (k = 3 ∧ ¬ (Op.bytesLess ((s.take (n + 1 + k)).drop (n + 1)) [52, 48, 48] = true ∨ (s.take (n + 1 + k)).drop (n + 1) = [52, 48, 48])) := fun q => c7 q.2
                  refine rp W 0 rfl rfl rfl (.pr ⟨fun e => ⟨hP.2 ⟨by omega, by omega, f3, f4, by omega⟩, by omega⟩, fun q => by have := (hP.1 q.1).2.2.2.2; omega⟩)
              · have f4 : ¬ (k = 3 ∧ ¬ (Op.bytesLess ((s.take (n + 1 + k)).drop (n + 1)) [52, 48, 48] = true ∨ (s.take (n + 1 + k)).drop (n + 1) = [52, 48, 48])) := fun q => by have := q.1; omega
                refine rp W 0 rfl rfl rfl (.pr ⟨fun e => ⟨hP.2 ⟨by omega, by omega, f3, f4, by omega⟩, by omega⟩, fun q => by have := (hP.1 q.1).2.2.2.2; omega⟩)
        · rw [show ((n : Int)).toNat = n by omega] at p4
          have hn : ¬ numE s := fun e => powE_no (by omega) (fun e => p4 ((u8_eq (c := 101)).2 e)) (hq.1 e)
          refine rp W 0 rfl rfl rfl (.pr ⟨fun e => by omega, fun e => absurd e.1 hn⟩)
      · have hn : numE s := hq.2 (powE_nil (by omega))
        refine rp W 0 rfl rfl rfl (.pr ⟨fun e => ⟨hn, by omega⟩, fun e => by omega⟩)
end Pf
/- How many parts a node has -/
namespace Pf
open Go Go.Proofs
open Classical in
/-- How many parts a node has; -1: it is none. -/
noncomputable def partsZ (k n : Int) (s : List UInt8) : Int :=
  if k = 1 then (if n = 0 ∧ litP s ∧ s.length ≤ 60 then 0 else -1)
  else if k = 2 then (if n = 0 ∧ wordP s ∧ ¬ s ∈ ownW then 0 else -1)
  else if k = 3 ∨ k = 9 ∨ k = 10 then (if n = 0 ∧ s = [] then 1 else -1)
  else if k = 4 ∨ k = 5 ∨ k = 6 ∨ k = 7 ∨ k = 11 ∨ k = 12 then (if n = 0 ∧ s = [] then 2 else -1)
  else if k = 8 then (if 0 ≤ n ∧ n ≤ 8 ∧ s = [] then 1 else -1)
  else if k = 13 then (if 1 ≤ n ∧ n ≤ 6 ∧ wordP s ∧ ¬ s ∈ ownW then n else -1)
  else -1
theorem l12Args_ok (k n : Int) (s : List UInt8) (hl : s.length ≤ 281474976710656) : AFunP Tryz.prog 63 [.agg [.int .i64 k, .int .i64 n, .str s]] (· = .int .i64 (partsZ k n s)) := by
  have k1 := specLangNumOk_ok s hl
  have k2 := specLangNameOk_ok s (by omega)
  refine afun_of Tryz.func63 Tryz.call63 rfl Tryz.ntmps63 rfl ?_
  have W : Walk Tryz.prog TT 63 _ := Walk.of TT_ok Tryz.func63 Tryz.results63
  (repeat' (first | (refine sp W 0 rfl rfl rfl (fun _ => ?_) (fun _ => ?_)) | (refine ce W 0 rfl rfl (k1) rfl ?_) | (refine ce W 0 rfl rfl (k2) rfl ?_))) <;> (first | exact rp W 0 rfl rfl rfl (.int (by clear k1 k2; simp_all [partsZ] <;> intros <;> exfalso <;> omega)))
theorem parts_ok (k n : Int) (s : List UInt8) (hl : s.length ≤ 281474976710656) : AFunP Tryz.prog 82 [.agg [.int .i64 k, .int .i64 n, .str s]] (· = .int .i64 (partsZ k n s)) := by
  have k1 := implLangNumOk_ok s hl
  have k2 := langNameOk_ok s (by omega)
  have k3 := in_ok n 0 8
  have k4 := in_ok n 1 6
  refine afun_of Tryz.func82 Tryz.call82 rfl Tryz.ntmps82 rfl ?_
  have W : Walk Tryz.prog TT 82 _ := Walk.of TT_ok Tryz.func82 Tryz.results82
  (repeat' (first | (refine sp W 0 rfl rfl rfl (fun _ => ?_) (fun _ => ?_)) | (refine ce W 0 rfl rfl (k1) rfl ?_) | (refine ce W 0 rfl rfl (k2) rfl ?_) | (refine ce W 0 rfl rfl (k3) rfl ?_) | (refine ce W 0 rfl rfl (k4) rfl ?_))) <;> (first | exact rp W 0 rfl rfl rfl (.int (by clear k1 k2 k3 k4; simp_all [partsZ] <;> intros <;> exfalso <;> omega)))

end Pf
/- The law of TermOk -/
namespace Pf
open Go Go.Proofs
/-- A node of a term, and terms. -/
abbrev Nd := Int × Int × List UInt8
def nodeV (x : Nd) : AV := .agg [.int .i64 x.1, .int .i64 x.2.1, .str x.2.2]
def nodeR (l : List Nd) (i : Nat) : List AV := [.int .i64 (l.getD i (0, 0, [])).1, .int .i64 (l.getD i (0, 0, [])).2.1, .str (l.getD i (0, 0, [])).2.2]
abbrev termV (l : List Nd) : AV := .agg [.fz l.length (nodeR l)]
noncomputable def pz (x : Nd) : Int := partsZ x.1 x.2.1 x.2.2
/-- How deep the stack is behind the first i nodes; none: a node found too few parts. -/
noncomputable def dep (l : List Nd) : Nat → Option Int
  | 0 => some 0
  | i + 1 => match dep l i with
    | none => none
    | some d => if pz (l.getD i (0, 0, [])) < 0 ∨ d < pz (l.getD i (0, 0, [])) then none else some (d - pz (l.getD i (0, 0, [])) + 1)
def termP (l : List Nd) : Prop := l.length ≤ 100 ∧ dep l l.length = some 1
/-- Each text is no longer than a text may be. -/
def txtOk (l : List Nd) : Prop := ∀ i, i < l.length → (l.getD i (0, 0, [])).2.2.length ≤ 281474976710656
end Pf
/- What the laid variables hold -/
namespace Pf
open Go Go.Proofs
open Go.RowKit
theorem open_strs {P : Program} {H : Type} {enc : TypeId × Value → H} {w : World} {base : Nat} {spare : Nat → Bool} {held : Bool} {fuel : Nat} {t e : TypeId} {cs : List Value} {p : List MemPlace} (ht : P.underlying t = some (.slice e)) (he : P.underlying e = some .string) (hc : P.cellsOf e = 1)
    {ws : List (List UInt8)} (hw : ws ≠ []) (h : DataW.trod enc P w base spare held fuel t cs = some (.slice (ws.map fun s => .lit (.string s)) [], p)) : VRs (worldFM w) noB [.fz ws.length fun i => [.str (ws.getD i [])]] cs := by
  rcases Go.Deep.open_slice ht h with ⟨_, h2⟩ | ⟨a, len, cap, m, n, D, Pl, rfl, _, hl, hm, hmm, hx, hel⟩
  · cases (Prod.mk.inj h2).1
  have hle : len ≤ m := by rw [hmm]; split <;> omega
  have e1 : ws.map (fun s => (DataW.lit (.string s) : DataW H)) = (List.range len).map D := (DataW.slice.inj (Prod.mk.inj hx).1).1
  have el : ws.length = len := by have := congrArg List.length e1; simpa using this
  have eD : ∀ i, i < len → D i = .lit (.string (ws.getD i [])) := by
    intro i hi
    have := congrArg (fun l => l[i]?) e1
    simp only [List.getElem?_map, List.getElem?_range, hi, Option.map_some] at this
    rw [List.getElem?_eq_getElem (by omega : i < ws.length)] at this
    simp only [Option.map_some, Option.some.injEq] at this
    rw [← this]
    simp [List.getD_eq_getElem?_getD, show i < ws.length by omega]
  have each : ∀ i, i < len → ∃ s : ByteArray, s.data.toList = ws.getD i [] ∧ w.cell? (a.add i) = some (.string s) := by
    intro i hi
    obtain ⟨cs', h1, h2⟩ := hel i (by omega)
    obtain ⟨s, rfl, h3, _⟩ := DataW.trod_string he h2
    obtain ⟨_, _, h6⟩ := World.cells?_some h1
    rw [hc] at h6
    have h7 := h6 0 (by omega)
    rw [Nat.mul_one] at h7
    refine ⟨s, ?_, by simpa [Addr.add] using h7⟩
    have h8 := (Prod.mk.inj h3).1
    rw [eD i hi] at h8
    injection h8 with h9
    injection h9 with h9
    exact h9.symm
  have hpos : 0 < len := by rw [← el]; exact List.length_pos_iff.2 hw
  have ha : a = ⟨a.block, a.off, none⟩ := by
    obtain ⟨s, _, h4⟩ := each 0 hpos
    exact cell_spot (by simpa [Addr.add] using h4)
  rw [el]
  refine .single ?_
  rw [ha]
  let f : Nat → Value := fun i => if h : i < len then .string (each i h).choose else undef
  have hf : ∀ i, i < len → ∃ s : ByteArray, f i = .string s ∧ s.data.toList = ws.getD i [] ∧ w.cell? (a.add i) = some (f i) := fun i hi => by
    have := (each i hi).choose_spec
    simp only [f, dif_pos hi]
    exact ⟨_, rfl, this.1, this.2⟩
  refine .fz (sz := 1) (fun i _ => f i) (by omega) hl (fun i hi => rfl) (fun i j hi hj => ?_) (fun i j hi hj => ?_) (fun i j hi hj => ?_)
  · obtain ⟨s, h1, h2, h3⟩ := hf i hi
    rw [ha, addr_add] at h3
    unfold worldFM
    rw [show j = 0 by omega, Nat.mul_one, Nat.add_zero]
    exact h3
  · obtain ⟨s, h1, h2, h3⟩ := hf i hi
    rw [h1]; rfl
  · obtain ⟨s, h1, h2, h3⟩ := hf i hi
    have : j = 0 := by simpa using hj
    subst this
    rw [h1]
    exact .str h2
theorem var_one {P : Program} {w : World} {n : String} {g : Nat} {cs : Array Value} (hg : P.globalNamed n = some g) (hv : w.var? P n = some cs) {a : AV} (h : VRs (worldFM w) noB [a] cs.toList) : ∃ c, worldFM w g 0 = some c ∧ VR (worldFM w) noB a c := by
  obtain ⟨h1, h2⟩ := h
  have h3 := h2 0 (by simp)
  have hl : 0 < cs.size := by have : 1 = cs.toList.length := h1; simp at this; omega
  refine ⟨cs[0], ?_, ?_⟩
  · show w.cell? ⟨g, 0, none⟩ = _
    rw [World.var?_cell hg hv 0]
    simp [hl]
  · have e : cs.toList.getD 0 undef = cs[0] := by simp [List.getD_eq_getElem?_getD, hl]
    rw [e] at h3
    exact h3
theorem iface_of {P : Program} {H : Type} {enc : TypeId × Value → H} {w : World} {base : Nat} {spare : Nat → Bool} {fuel : Nat} {t : TypeId} {ms : Array (String × TypeId)} {cs : List Value} {nm : String} {d : DataW H} {p : List MemPlace} (ht : P.underlying t = some (.interface ms)) (h : DataW.trod enc P w base spare false fuel t cs = some (.iface nm d, p)) : ∃ u v, cs = [.iface u v] := by
  cases fuel with
  | zero => simp [DataW.trod] at h
  | succ n =>
    unfold DataW.trod at h
    rw [ht] at h
    split at h <;> simp_all
theorem var_iface {P : Program} {w : World} {n : String} {g : Nat} {cs : Array Value} (hg : P.globalNamed n = some g) (hv : w.var? P n = some cs) {u : TypeId} {v : Value} (h : cs.toList = [.iface u v]) : ∃ ev, worldFM w g 0 = some ev ∧ (ev = .nilIface ∨ ∃ te pe, ev = .iface te pe) := by
  refine ⟨.iface u v, ?_, .inr ⟨u, v, rfl⟩⟩
  show w.cell? ⟨g, 0, none⟩ = _
  rw [World.var?_cell hg hv 0]
  obtain ⟨l⟩ := cs
  simp only at h
  subst h
  rfl
end Pf
/- Of a block of whole numbers, the tail is forgotten. -/
namespace Pf
open Go
variable {P : Program} {TT : TypeId → Option TI} {f N n0 : Nat} {k : List Item} {T : Env} {H : AHeap} {R : AV → AHeap → Prop} {nf : Nat} {ops : Array Oper} {past op pend : List Nat} {vs : List (Option Nat × AV)}

theorem shr_back {b m g : Nat} {kk : IntKind} {l : List Int} {H2 : AHeap} (e1 : nthM H b = some (.ints g kk l)) (e2 : setM (.ints g kk (l.take m)) H b = some H2) :
    H2.length = H.length ∧ ∀ b' blk', H2[b']? = some blk' → (b' = b ∧ blk' = .ints g kk (l.take m)) ∨ H[b']? = some blk' := by
  rw [nthM_eq] at e1
  rw [setM_eq] at e2
  split at e2
  · simp only [Option.some.injEq] at e2
    subst e2
    refine ⟨by simp, fun b' blk' h => ?_⟩
    rw [List.getElem?_set] at h
    split at h
    · rename_i hb
      subst hb
      simp only [Option.some.injEq] at h
      exact .inl ⟨rfl, h.symm⟩
    · exact .inr h
  · cases e2
theorem shr_view {b m g : Nat} {kk : IntKind} {l : List Int} {H2 : AHeap} (e1 : nthM H b = some (.ints g kk l)) (e2 : setM (.ints g kk (l.take m)) H b = some H2) {b' g' n' : Nat} {blk' : ABlk} {row' : Nat → List AV}
    (h1 : H2[b']? = some blk') (h2 : blk'.view = some (g', n', row')) : ∃ blk n row, H[b']? = some blk ∧ blk.view = some (g', n, row) ∧ blk'.width = blk.width := by
  rcases (shr_back e1 e2).2 b' blk' h1 with ⟨rfl, rfl⟩ | h
  · rw [nthM_eq] at e1
    simp only [ABlk.view, Option.some.injEq, Prod.mk.injEq] at h2
    obtain ⟨rfl, _, _⟩ := h2
    exact ⟨_, _, _, e1, rfl, rfl⟩
  · exact ⟨_, _, _, h, h2, rfl⟩
theorem shr_img {b m g : Nat} {kk : IntKind} {l : List Int} {H2 : AHeap} {β : BMap} (e1 : nthM H b = some (.ints g kk l)) (e2 : setM (.ints g kk (l.take m)) H b = some H2) {cb : Nat} (h : Img β H2 cb) : Img β H cb := by
  obtain ⟨b', blk', g', n', row', L, h1, h2, h3, h4⟩ := h
  rcases (shr_back e1 e2).2 b' blk' h1 with ⟨rfl, rfl⟩ | h
  · rw [nthM_eq] at e1
    cases h2
    exact ⟨_, _, _, _, _, L, e1, rfl, h3, h4⟩
  · exact ⟨b', blk', g', n', row', L, h, h2, h3, h4⟩
theorem RelH.shr {FM : FMem} {β : BMap} {w : World} (hh : RelH FM β H w) {b m g : Nat} {kk : IntKind} {l : List Int} {H2 : AHeap} (e1 : nthM H b = some (.ints g kk l)) (e2 : setM (.ints g kk (l.take m)) H b = some H2)
    {off len : Nat} {cv : Value} (hv : VR FM β (.sl b g off len) cv) (ho : off ≤ m) : RelH FM β H2 w where
  mem b' blk' g' n' row' h1 h2 := by
    rcases (shr_back e1 e2).2 b' blk' h1 with ⟨rfl, rfl⟩ | h
    · rw [nthM_eq] at e1
      simp only [ABlk.view, Option.some.injEq, Prod.mk.injEq] at h2
      obtain ⟨rfl, rfl, rfl⟩ := h2
      obtain ⟨lo, q1, q2⟩ := hh.mem _ _ _ _ _ e1 rfl
      refine ⟨lo, q1, ?_⟩
      cases lo with
      | none =>
        have : l.length = 0 := q2
        have hl : l = [] := List.length_eq_zero_iff.1 this
        subst hl
        simp [MemAt]
      | some L =>
        have hs : L.sh ≤ off := by
          cases hv with
          | sl h hs hr hc hp => rw [q1] at h; cases h; exact hs
          | sl0 h hs => rw [q1] at h; cases h; exact hs _ rfl
        obtain ⟨z1, z2, z3, ⟨c, el, fr, y1, y2, y3, y4, y5⟩, z5⟩ := q2
        refine ⟨z1, by rw [List.length_take]; omega, by rw [List.length_take]; omega, ⟨c, el, fr, y1, y2, y3, y4, fun r r1 r2 => ?_⟩, z5⟩
        rw [List.length_take] at r2
        have := y5 r r1 (by omega)
        rw [show (l.take m).getD r 0 = l.getD r 0 by simp [List.getD_eq_getElem?_getD, List.getElem?_take, show r < m by omega]]
        exact this
    · exact hh.mem _ _ _ _ _ h h2
  inj b1 b2 blk1 blk2 g1 g2 n1 n2 row1 row2 L1 L2 h1 h2 h3 h4 h5 h6 h7 := by
    obtain ⟨c1, d1, f1, p1, p2, _⟩ := shr_view e1 e2 h1 h2
    obtain ⟨c2, d2, f2, q1, q2, _⟩ := shr_view e1 e2 h4 h5
    exact hh.inj _ _ _ _ _ _ _ _ _ _ _ _ p1 p2 h3 q1 q2 h6 h7
  wid b1 blk1 g1 n1 row1 L h1 h2 h3 := by
    obtain ⟨c1, d1, f1, p1, p2, p3⟩ := shr_view e1 e2 h1 h2
    rw [p3]
    exact hh.wid _ _ _ _ _ _ p1 p2 h3
  fm := hh.fm
  dom b1 g1 lo h := by
    obtain ⟨q1, q2⟩ := hh.dom b1 g1 lo h
    refine ⟨by rw [(shr_back e1 e2).1]; exact q1, fun blk' g' n' row' h1 h2 => ?_⟩
    obtain ⟨c1, d1, f1, p1, p2, _⟩ := shr_view e1 e2 h1 h2
    exact q2 _ _ _ _ p1 p2
  gk := hh.gk
  mp := hh.mp.keep (fun _ _ _ h => h) (fun b' vb sh es h => by
    rcases (shr_back e1 e2).2 b' _ h with ⟨_, h⟩ | h
    · cases h
    · exact h) fun _ _ _ h => h
theorem Ext.shr {FM : FMem} {β : BMap} {w : World} {b m g : Nat} {kk : IntKind} {l : List Int} {H2 : AHeap} (e1 : nthM H b = some (.ints g kk l)) (e2 : setM (.ints g kk (l.take m)) H b = some H2) : Ext FM β H w FM β H2 w where
  fm _ _ _ h := h
  bm _ _ _ h := h
  size := Nat.le_refl _
  img cb _ h := shr_img e1 e2 h
  frame _ _ _ := rfl
  fmn _ _ _ h := .inl h
  len := by rw [(shr_back e1 e2).1]; exact Nat.le_refl _
  os := rfl
  output := rfl
  tape := rfl
end Pf
/- Functions that are lent the blocks at hand and make new ones, of rows of any kind. -/
namespace Pf
open Go
variable {P : Program} {TT : TypeId → Option TI} {f N n0 : Nat} {k : List Item} {T : Env} {H : AHeap} {R : AV → AHeap → Prop}

mutual
/-- Places in blocks, and what says nothing of any memory. -/
def flatN : AV → Bool
  | .agg cs => flatNL cs
  | .tup cs => flatNL cs
  | .ptr _ _ _ _ | .sl _ _ _ _ | .mp _ => true
  | .top | .bool _ | .pr _ | .anyb _ _ | .int _ _ | .str _ | .nilp | .nils | .e0 | .nilf | .nili => true
  | _ => false
def flatNL : List AV → Bool
  | [] => true
  | v :: vs => match flatN v with | true => flatNL vs | false => false
end
theorem flatNL_get : ∀ {vs : List AV} (h : flatNL vs = true) (i : Nat) (hi : i < vs.length), flatN vs[i] = true
  | v :: vs, h, i, hi => by
    simp only [flatNL] at h
    cases hv : flatN v with
    | false => simp [hv] at h
    | true =>
      simp only [hv] at h
      cases i with
      | zero => exact hv
      | succ i => exact flatNL_get h i (by simpa using hi)
theorem VR.shfN {FM FM' : FMem} {β β' : BMap} {d : Nat} (hb : ∀ b g, β' (b + d) g = β b g) {v : AV} {cv : Value} (h : VR FM β v cv) (hf : flatN v = true) : VR FM' β' (Pf.shf d v) cv := by
  induction h with
  | top => exact .top
  | bool => exact .bool
  | pr h => exact .pr h
  | anyb h1 h2 => exact .anyb h1 h2
  | int => exact .int
  | str h => exact .str h
  | nilp => exact .nilp
  | ptr h hs => exact .ptr (by rw [hb]; exact h) hs
  | nils => exact .nils
  | e0 => exact .e0
  | sl h hs hr hc hp => exact .sl (by rw [hb]; exact h) hs hr hc hp
  | sl0 h hs => exact .sl0 (by rw [hb]; exact h) hs
  | nilf => exact .nilf
  | nili => exact .nili
  | mp h => exact .mp (by rw [hb]; exact h)
  | agg h1 hv ih =>
    simp only [Pf.shf, shfL_eq]
    exact .agg (by simpa using h1) (fun i hi => by
      rw [List.getElem_map]
      exact ih i (by simpa using hi) hb (flatNL_get hf i (by simpa using hi)))
  | tup h1 hv ih =>
    simp only [Pf.shf, shfL_eq]
    exact .tup (by simpa using h1) (fun i hi => by
      rw [List.getElem_map]
      exact ih i (by simpa using hi) hb (flatNL_get hf i (by simpa using hi)))
  | _ => simp [flatN] at hf

/-- Blocks whose rows say nothing of any memory. -/
def plainB : ABlk → Prop
  | .lst _ rows => ∀ r, r ∈ rows → nofmL r = true
  | .ints _ _ _ => True
  | .tab _ n row => ∀ i, i < n → nofmL (row i) = true
  | .dead => True
  | _ => False
def plainH : AHeap → Prop
  | [] => True
  | b :: bs => plainB b ∧ plainH bs
theorem plainH_get : ∀ {H : AHeap}, plainH H → ∀ {i : Nat} {blk : ABlk}, H[i]? = some blk → plainB blk
  | b :: bs, h, 0, blk, e => by simp at e; subst e; exact h.1
  | b :: bs, h, i + 1, blk, e => plainH_get h.2 (i := i) (by simpa using e)
  | [], h, i, blk, e => by simp at e
theorem plainB_row {blk : ABlk} (h : plainB blk) {g n : Nat} {row : Nat → List AV} (hv : blk.view = some (g, n, row)) : ∀ i, i < n → nofmL (row i) = true := by
  intro i hi
  cases blk with
  | dead => cases hv
  | mp vb sh es => cases hv
  | lst g' rows =>
    simp only [ABlk.view, Option.some.injEq, Prod.mk.injEq] at hv
    obtain ⟨rfl, rfl, rfl⟩ := hv
    have := h rows[i] (List.getElem_mem hi)
    simpa [List.getD_eq_getElem?_getD, hi] using this
  | ints g' k l =>
    simp only [ABlk.view, Option.some.injEq, Prod.mk.injEq] at hv
    obtain ⟨rfl, rfl, rfl⟩ := hv
    rfl
  | tab g' n' row' =>
    simp only [ABlk.view, Option.some.injEq, Prod.mk.injEq] at hv
    obtain ⟨rfl, rfl, rfl⟩ := hv
    exact h i hi

/-- Blocks made by a function that is lent those at hand: they come behind these. -/
theorem AFun.lent {args args' : List AV} {Q : AV → AHeap → Prop} (h : AFun P f args' [] Q) {ss : List Prop} (e : mapF (frz (fun _ => true) H 9) args = some (ss, args')) (hss : AllC ss) (hc : cloL args' = true) (hfl : ∀ u H2, Q u H2 → flatN u = true ∧ plainH H2) :
    AFun P f args H fun v H1 => ∃ u H2, Q u H2 ∧ v = shf H.length u ∧ H1 = H ++ H2 := by
  refine ⟨h.1, fun FM β cs w cargs hv hh => ?_⟩
  have hF := frzFM_frozen (sel := fun _ => true) hh
  have hv' := hv.frz hh hF e hss
  obtain ⟨v, w', fr, av, FM1, β1, H1, hQ, h1, h2, h3, h4, h5, h6⟩ := h.2 _ noB cs w cargs ⟨hv'.1, fun i hi => (hv'.2 i hi).clo (cloL_get hc i hi) noB⟩ hh.lend
  obtain ⟨f1, f2⟩ := hfl _ _ hQ
  let β' : BMap := fun b g => if b < H.length then β b g else β1 (b - H.length) g
  have hlo : ∀ {b g : Nat}, b < H.length → β' b g = β b g := fun hb => by simp [β', hb]
  have hhi : ∀ b g, β' (b + H.length) g = β1 b g := fun b g => by simp [β', show ¬ b + H.length < H.length by omega]
  have hold : ∀ b g lo, β b g = some lo → β' b g = some lo := fun b g lo hb => by rw [hlo (hh.dom _ _ _ hb).1]; exact hb
  have img1 : ∀ cb, cb < w.heap.size → ¬ Img β1 H1 cb := fun cb hl hi => noImg cb (h3.img cb hl hi)
  have get : ∀ {i : Nat} {bl : ABlk}, (H ++ H1)[i]? = some bl → (i < H.length ∧ H[i]? = some bl) ∨ (∃ j, i = j + H.length ∧ H1[j]? = some bl) := by
    intro i bl hi
    rcases Nat.lt_or_ge i H.length with hl | hl
    · rw [List.getElem?_append_left hl] at hi; exact .inl ⟨hl, hi⟩
    · rw [List.getElem?_append_right hl] at hi
      exact .inr ⟨i - H.length, by omega, hi⟩
  have getm : ∀ (i : Nat) (vb : Bool) (sh : Option (List Bool)) (es : List (MKey × Int)), (H ++ H1)[i]? = some (.mp vb sh es) → H[i]? = some (.mp vb sh es) := by
    intro i vb sh es hi
    rcases get hi with ⟨_, hi⟩ | ⟨j, _, hj⟩
    · exact hi
    · exact (plainH_get f2 hj).elim
  have small : ∀ {b g : Nat} {blk : ABlk} {n : Nat} {row : Nat → List AV} {L : Loc}, H[b]? = some blk → blk.view = some (g, n, row) → β b g = some (some L) → L.cb < w.heap.size := by
    intro b g blk n row L q1 q2 q3
    obtain ⟨lo, p1, p2⟩ := hh.mem b blk g n row q1 q2
    rw [q3] at p1
    cases p1
    exact MemOk.lt p2
  have big : ∀ {b g : Nat} {blk : ABlk} {n : Nat} {row : Nat → List AV} {L : Loc}, H1[b]? = some blk → blk.view = some (g, n, row) → β1 b g = some (some L) → w.heap.size ≤ L.cb := by
    intro b g blk n row L q1 q2 q3
    rcases Nat.lt_or_ge L.cb w.heap.size with hl | hl
    · exact absurd ⟨b, blk, g, n, row, L, q1, ABlk.vw_of q2, q3, rfl⟩ (img1 _ hl)
    · exact hl
  have nofree : ∀ cb o, w.heap.size ≤ cb → FM cb o = none := by
    intro cb o hcb
    cases hx : FM cb o with
    | none => rfl
    | some x => have := cell_lt (hh.fm _ _ _ hx); omega
  refine ⟨v, w', fr, shf H.length av, FM, β', H ++ H1, ⟨av, H1, hQ, rfl, rfl⟩, h1.shfN hhi f1, ?_, ?_, h4, h5, h6⟩
  · have hmp : MapsOk β' (H ++ H1) w' := hh.mp.keep hold getm fun cb es cl h => by rw [h3.frame _ (Array.getElem?_eq_some_iff.1 h).1 (noImg _)]; exact h
    refine ⟨?_, ?_, ?_, fun cb o x hx => h2.fm _ _ _ (h3.fm _ _ _ (hF.1 _ _ _ hx)), ?_, hh.gk.at h2.gk.tabw, hmp⟩
    · intro i bl g n row q1 q2
      rcases get q1 with ⟨hi, q1⟩ | ⟨j, rfl, p1⟩
      · obtain ⟨lo, k1, k2⟩ := hh.mem i bl g n row q1 q2
        refine ⟨lo, by rw [hlo hi]; exact k1, ?_⟩
        cases lo with
        | none => exact k2
        | some L => exact MemOk.still k2 (h3.frame _ (MemOk.lt k2) (noImg _)) hold
      · obtain ⟨lo, k1, k2⟩ := h2.mem j bl g n row p1 q2
        refine ⟨lo, by rw [hhi]; exact k1, ?_⟩
        cases lo with
        | none => exact k2
        | some L =>
          have k2 : MemOk FM1 β1 w' L n row := k2
          obtain ⟨c, e, frr, c1, c2, c3, c4, c5⟩ := k2.cells
          refine ⟨k2.sz, k2.sh, k2.fit, ⟨c, e, frr, c1, c2, c3, c4, fun r hr1 hr2 => ?_⟩, fun o => nofree _ _ (big p1 q2 k1)⟩
          obtain ⟨k3, k4⟩ := c5 r hr1 hr2
          refine ⟨k3, fun j hj => ?_⟩
          obtain ⟨cv, k5, k6⟩ := k4 j hj
          exact ⟨cv, k5, k6.nofm (nofmL_get (plainB_row (plainH_get f2 p1) q2 r hr2) j hj) _ _⟩
    · intro b b' k1 k1' g g' n n' row row' L L' q1 q2 q3 q1' q2' q3' he
      rcases get q1 with ⟨hi, p1⟩ | ⟨j, rfl, p1⟩
      · rcases get q1' with ⟨hi', p1'⟩ | ⟨j', rfl, p1'⟩
        · exact hh.inj b b' k1 k1' g g' n n' row row' L L' p1 q2 (by rw [← hlo hi]; exact q3) p1' q2' (by rw [← hlo hi']; exact q3') he
        · have a := small p1 q2 (by rw [← hlo hi]; exact q3)
          have c := big p1' q2' (by rw [← hhi]; exact q3')
          omega
      · rcases get q1' with ⟨hi', p1'⟩ | ⟨j', rfl, p1'⟩
        · have a := small p1' q2' (by rw [← hlo hi']; exact q3')
          have c := big p1 q2 (by rw [← hhi]; exact q3)
          omega
        · have := h2.inj j j' k1 k1' g g' n n' row row' L L' p1 q2 (by rw [← hhi]; exact q3) p1' q2' (by rw [← hhi]; exact q3') he
          omega
    · intro b bl g n row L q1 q2 q3
      rcases get q1 with ⟨hi, p1⟩ | ⟨j, rfl, p1⟩
      · exact hh.wid b bl g n row L p1 q2 (by rw [← hlo hi]; exact q3)
      · exact h2.wid j bl g n row L p1 q2 (by rw [← hhi]; exact q3)
    · intro b g lo q
      rcases Nat.lt_or_ge b H.length with hi | hi
      · rw [hlo hi] at q
        refine ⟨by simp; omega, fun bl g' n row q1 q2 => ?_⟩
        rcases get q1 with ⟨_, p1⟩ | ⟨j, rfl, _⟩
        · exact (hh.dom b g lo q).2 bl g' n row p1 q2
        · omega
      · obtain ⟨j, rfl⟩ : ∃ j, b = j + H.length := ⟨b - H.length, by omega⟩
        rw [hhi] at q
        obtain ⟨d1, d2⟩ := h2.dom j g lo q
        refine ⟨by simp; omega, fun bl g' n row q1 q2 => ?_⟩
        rcases get q1 with ⟨hlt, _⟩ | ⟨j', he, p1⟩
        · omega
        · have : j' = j := by omega
          subst this
          exact d2 bl g' n row p1 q2
  · refine ⟨fun _ _ _ h => h, hold, h3.size, fun cb hl i => ?_, fun cb hl hi => h3.frame cb hl (noImg cb), fun cb o x hx => .inl hx, by simp, h3.os, h3.output, h3.tape⟩
    obtain ⟨b, bl, g, n, row, L, q1, q2, q3, q4⟩ := i
    cases bl with
    | mp vb sh es =>
      have p1 := getm _ _ _ _ q1
      exact ⟨b, _, g, n, row, L, p1, q2, by rw [← hlo (List.getElem?_eq_some_iff.1 p1).1]; exact q3, q4⟩
    | dead => cases q2
    | _ =>
      rcases get q1 with ⟨hi, p1⟩ | ⟨j, rfl, p1⟩
      · exact ⟨b, _, g, n, row, L, p1, q2, by rw [← hlo hi]; exact q3, q4⟩
      · have := big p1 q2 (by rw [← hhi]; exact q3)
        omega

/-- A call of a function that is lent the blocks and makes new ones. -/
theorem go_callL {rs : List ResultVar} (W : Walk P TT f rs) (m n : Nat) {cs : List Prop} {g : FuncId} {args args' : List AV} {dst : Option Nat} {k' : List Item} {T' : Env} {H' : AHeap} {ss : List Prop} {Q : AV → AHeap → Prop}
    (h : exec TT N rs m n [] k T H = .call cs g args dst k' T' H') (hc : AllC cs) (e : mapF (frz (fun _ => true) H' 9) args = some (ss, args')) (c1 : AllC ss) (hcl : cloL args' = true) (hq : AFun P g args' [] Q) (hfl : ∀ u H2, Q u H2 → flatN u = true ∧ plainH H2)
    (h1 : ∀ u H2, Q u H2 → ∃ T1 H1, dstM N dst (shf (lenM H') u) T' = some T1 ∧ appM H' H2 = some H1 ∧ AGo P f N n0 k' T1 H1 R) : AGo P f N n0 k T H R :=
  go_call W m n h hc (hq.lent e c1 hcl hfl) fun v H1 ⟨u, H2, r1, r2, r3⟩ => by
    obtain ⟨T1, H1', q1, q2, q3⟩ := h1 u H2 r1
    rw [appM_eq] at q2
    rw [lenM_eq] at q1
    cases q2
    subst r2; subst r3
    exact ⟨T1, q1, q3⟩
end Pf
/- A function's contract over some blocks, used where these are some of the blocks at hand: the blocks may be of any kind, lead to each other, and change their generations. -/
namespace Pf
open Go
variable {P : Program} {TT : TypeId → Option TI} {f N n0 : Nat} {k : List Item} {T : Env} {H : AHeap} {R : AV → AHeap → Prop}

/-- Where the callee's block i lies among the caller's: the first are told, new ones come behind. -/
def upI : List Nat → Nat → Nat → Nat
  | [], hl, i => hl + i
  | b :: _, _, 0 => b
  | _ :: ρ, hl, i + 1 => upI ρ hl i
theorem upI_lt : ∀ {ρ : List Nat} {hl i : Nat} (h : i < ρ.length), upI ρ hl i = ρ[i]
  | b :: ρ, hl, 0, h => rfl
  | b :: ρ, hl, i + 1, h => by simp only [upI, List.getElem_cons_succ]; exact upI_lt (by simpa using h)
theorem upI_ge : ∀ {ρ : List Nat} {hl i : Nat}, ρ.length ≤ i → upI ρ hl i = hl + (i - ρ.length)
  | [], hl, i, h => by simp [upI]
  | b :: ρ, hl, 0, h => by simp at h
  | b :: ρ, hl, i + 1, h => by
    simp only [upI, List.length_cons]
    rw [upI_ge (by simpa using h)]
    omega
mutual
def upV (ρ : List Nat) (hl : Nat) : AV → AV
  | .ptr b g r c => .ptr (upI ρ hl b) g r c
  | .sl b g off len => .sl (upI ρ hl b) g off len
  | .mp b => .mp (upI ρ hl b)
  | .agg cs => .agg (upL ρ hl cs)
  | .tup cs => .tup (upL ρ hl cs)
  | .iface t v => .iface t (upV ρ hl v)
  | .fn f fs cs => .fn f (upL ρ hl fs) (upL ρ hl cs)
  | v => v
def upL (ρ : List Nat) (hl : Nat) : List AV → List AV
  | [] => []
  | v :: vs => upV ρ hl v :: upL ρ hl vs
end
theorem upL_eq (ρ : List Nat) (hl : Nat) : ∀ vs, upL ρ hl vs = vs.map (upV ρ hl)
  | [] => rfl
  | v :: vs => by simp [upL, upL_eq ρ hl vs]
theorem VR.up {FM : FMem} {β1 β' : BMap} {ρ : List Nat} {hl : Nat} (hb : ∀ i g, β' (upI ρ hl i) g = β1 i g) {v : AV} {cv : Value} (h : VR FM β1 v cv) : VR FM β' (upV ρ hl v) cv := by
  induction h with
  | top => exact .top
  | bool => exact .bool
  | pr h => exact .pr h
  | anyb h1 h2 => exact .anyb h1 h2
  | int => exact .int
  | str h => exact .str h
  | nilp => exact .nilp
  | ptr h hs => exact .ptr (by rw [hb]; exact h) hs
  | fptr cv hm hv ih => exact .fptr cv hm hv
  | nils => exact .nils
  | e0 => exact .e0
  | fi0 => exact .fi0
  | fi hc hm => exact .fi hc hm
  | fz0 => exact .fz0
  | fz cv hz hc hl hm ho hv ih => exact .fz cv hz hc hl hm ho hv
  | sl h hs hr hc hp => exact .sl (by rw [hb]; exact h) hs hr hc hp
  | sl0 h hs => exact .sl0 (by rw [hb]; exact h) hs
  | fn h1 h2 hv1 hv2 ih1 ih2 =>
    simp only [Pf.upV, upL_eq]
    exact .fn (by simpa using h1) (by simpa using h2) (fun i hi => by rw [List.getElem_map]; exact ih1 i (by simpa using hi) hb) (fun i hi => by rw [List.getElem_map]; exact ih2 i (by simpa using hi) hb)
  | nilf => exact .nilf
  | iface h ih => exact .iface (ih hb)
  | nili => exact .nili
  | mp h => exact .mp (by rw [hb]; exact h)
  | agg h1 hv ih =>
    simp only [Pf.upV, upL_eq]
    exact .agg (by simpa using h1) (fun i hi => by rw [List.getElem_map]; exact ih i (by simpa using hi) hb)
  | tup h1 hv ih =>
    simp only [Pf.upV, upL_eq]
    exact .tup (by simpa using h1) (fun i hi => by rw [List.getElem_map]; exact ih i (by simpa using hi) hb)
/-- And back: what leads to the first blocks only. -/
theorem VR.down {FM : FMem} {β β0 : BMap} {ρ : List Nat} {hl n : Nat} (hb : ∀ i g, i < n → β0 i g = β (upI ρ hl i) g) {x : AV} {cv : Value} (h : VR FM β x cv) : ∀ {v : AV}, x = Pf.upV ρ hl v → Pf.belo n v = true → VR FM β0 v cv := by
  induction h with
  | top => intro v e hv; cases v <;> simp only [Pf.upV, reduceCtorEq] at e; exact .top
  | bool => intro v e hv; cases v <;> simp only [Pf.upV, reduceCtorEq] at e; cases e; exact .bool
  | pr h => intro v e hv; cases v <;> simp only [Pf.upV, reduceCtorEq] at e; cases e; exact .pr h
  | anyb h1 h2 => intro v e hv; cases v <;> simp only [Pf.upV, reduceCtorEq] at e; cases e; exact .anyb h1 h2
  | int => intro v e hv; cases v <;> simp only [Pf.upV, reduceCtorEq] at e; cases e; exact .int
  | str h => intro v e hv; cases v <;> simp only [Pf.upV, reduceCtorEq] at e; cases e; exact .str h
  | nilp => intro v e hv; cases v <;> simp only [Pf.upV, reduceCtorEq] at e; exact .nilp
  | ptr h hs =>
    intro v e hv
    cases v <;> simp only [Pf.upV, reduceCtorEq] at e
    cases e
    simp only [Pf.belo, Nat.blt_eq] at hv
    exact .ptr (by rw [hb _ _ hv]; exact h) hs
  | fptr cv hm hv ih => intro v e _; cases v <;> simp only [Pf.upV, reduceCtorEq] at e; cases e; exact .fptr cv hm hv
  | nils => intro v e hv; cases v <;> simp only [Pf.upV, reduceCtorEq] at e; exact .nils
  | e0 => intro v e hv; cases v <;> simp only [Pf.upV, reduceCtorEq] at e; exact .e0
  | fi0 => intro v e hv; cases v <;> simp only [Pf.upV, reduceCtorEq] at e; cases e; exact .fi0
  | fi hc hm => intro v e hv; cases v <;> simp only [Pf.upV, reduceCtorEq] at e; cases e; exact .fi hc hm
  | fz0 => intro v e hv; cases v <;> simp only [Pf.upV, reduceCtorEq] at e; cases e; exact .fz0
  | fz cv hz hc hl hm ho hv ih => intro v e _; cases v <;> simp only [Pf.upV, reduceCtorEq] at e; cases e; exact .fz cv hz hc hl hm ho hv
  | sl h hs hr hc hp =>
    intro v e hv
    cases v <;> simp only [Pf.upV, reduceCtorEq] at e
    cases e
    simp only [Pf.belo, Nat.blt_eq] at hv
    exact .sl (by rw [hb _ _ hv]; exact h) hs hr hc hp
  | sl0 h hs =>
    intro v e hv
    cases v <;> simp only [Pf.upV, reduceCtorEq] at e
    rename_i b' g' off' len'
    obtain ⟨rfl, rfl, rfl, rfl⟩ : _ ∧ _ ∧ _ ∧ _ := by simpa using e
    simp only [Pf.belo, Nat.blt_eq] at hv
    exact .sl0 (by rw [hb _ _ hv]; exact h) hs
  | fn h1 h2 hv1 hv2 ih1 ih2 =>
    intro v e hv
    cases v <;> simp only [Pf.upV, upL_eq, reduceCtorEq] at e
    cases e
    simp only [Pf.belo] at hv
    split at hv
    · rename_i hf
      exact .fn (by simpa using h1) (by simpa using h2) (fun i hi => ih1 i (by simpa using hi) hb (by rw [List.getElem_map]) (beloL_get hf i hi)) (fun i hi => ih2 i (by simpa using hi) hb (by rw [List.getElem_map]) (beloL_get hv i hi))
    · cases hv
  | nilf => intro v e hv; cases v <;> simp only [Pf.upV, reduceCtorEq] at e; exact .nilf
  | iface h ih => intro v e hv; cases v <;> simp only [Pf.upV, reduceCtorEq] at e; cases e; exact .iface (ih hb rfl hv)
  | nili => intro v e hv; cases v <;> simp only [Pf.upV, reduceCtorEq] at e; exact .nili
  | mp h =>
    intro v e hv
    cases v <;> simp only [Pf.upV, reduceCtorEq] at e
    cases e
    simp only [Pf.belo, Nat.blt_eq] at hv
    exact .mp (by rw [hb _ _ hv]; exact h)
  | agg h1 hv ih =>
    intro v e hv2
    cases v <;> simp only [Pf.upV, upL_eq, reduceCtorEq] at e
    cases e
    exact .agg (by simpa using h1) (fun i hi => ih i (by simpa using hi) hb (by rw [List.getElem_map]) (beloL_get hv2 i hi))
  | tup h1 hv ih =>
    intro v e hv2
    cases v <;> simp only [Pf.upV, upL_eq, reduceCtorEq] at e
    cases e
    exact .tup (by simpa using h1) (fun i hi => ih i (by simpa using hi) hb (by rw [List.getElem_map]) (beloL_get hv2 i hi))
def upB (ρ : List Nat) (hl : Nat) : ABlk → ABlk
  | .lst g rows => .lst g (rows.map fun r => upL ρ hl r)
  | .tab g n row => .tab g n fun i => upL ρ hl (row i)
  | b => b
theorem upB_view {ρ : List Nat} {hl : Nat} {blk : ABlk} {g n : Nat} {row : Nat → List AV} (h : (upB ρ hl blk).view = some (g, n, row)) :
    ∃ row0, blk.view = some (g, n, row0) ∧ (upB ρ hl blk).width = blk.width ∧ ∀ i, i < n → row i = (row0 i).map (upV ρ hl) := by
  cases blk with
  | dead => cases h
  | mp vb sh es => cases h
  | lst g' rows =>
    simp only [upB, ABlk.view, Option.some.injEq, Prod.mk.injEq, List.length_map] at h
    obtain ⟨rfl, rfl, rfl⟩ := h
    refine ⟨_, rfl, ?_, fun i hi => ?_⟩
    · simp only [upB, ABlk.width, List.getD_eq_getElem?_getD, List.getElem?_map]
      cases rows[0]? with
      | none => rfl
      | some r => simp [upL_eq]
    · simp [List.getD_eq_getElem?_getD, hi, upL_eq]
  | ints g' k l =>
    simp only [upB, ABlk.view, Option.some.injEq, Prod.mk.injEq] at h
    obtain ⟨rfl, rfl, rfl⟩ := h
    exact ⟨_, rfl, rfl, fun i hi => rfl⟩
  | tab g' n' row' =>
    simp only [upB, ABlk.view, Option.some.injEq, Prod.mk.injEq] at h
    obtain ⟨rfl, rfl, rfl⟩ := h
    exact ⟨_, rfl, by simp [upB, ABlk.width, upL_eq], fun i hi => upL_eq _ _ _⟩
theorem view_upB {ρ : List Nat} {hl : Nat} {blk : ABlk} {g n : Nat} {row : Nat → List AV} (h : blk.view = some (g, n, row)) :
    ∃ row1, (upB ρ hl blk).view = some (g, n, row1) ∧ (upB ρ hl blk).width = blk.width ∧ ∀ i, i < n → row1 i = (row i).map (upV ρ hl) := by
  have : ∃ row1, (upB ρ hl blk).view = some (g, n, row1) := by
    cases blk with
    | dead => cases h
    | mp vb sh es => cases h
    | _ =>
      simp only [ABlk.view, Option.some.injEq, Prod.mk.injEq] at h
      obtain ⟨rfl, rfl, rfl⟩ := h
      simp [upB, ABlk.view]
  obtain ⟨row1, h1⟩ := this
  obtain ⟨row0, h2, h3, h4⟩ := upB_view h1
  rw [h] at h2
  cases h2
  exact ⟨row1, h1, h3, h4⟩
theorem upB_mp {ρ : List Nat} {hl : Nat} {blk : ABlk} {vb : Bool} {sh : Option (List Bool)} {es : List (MKey × Int)} (h : upB ρ hl blk = .mp vb sh es) : blk = .mp vb sh es := by
  cases blk <;> simp only [upB] at h <;> first | exact h | cases h
/-- The callee's blocks, laid back. -/
def layB (ρ : List Nat) (hl : Nat) : List Nat → AHeap → AHeap → Option AHeap
  | [], H', H => appM H (H'.map (upB ρ hl))
  | b :: bs, c :: H', H => match setM (upB ρ hl c) H b with | some H1 => layB ρ hl bs H' H1 | none => none
  | _ :: _, [], _ => none
theorem layB_get {ρ : List Nat} {hl : Nat} : ∀ {bs : List Nat} {H' H : AHeap}, bs.length ≤ H'.length → (∀ i (h : i < bs.length), bs[i] < H.length) → bs.Nodup →
    ∃ H1, layB ρ hl bs H' H = some H1 ∧ H1.length = H.length + (H'.length - bs.length) ∧ ∀ b k, H1[b]? = some k → (∃ i, ∃ h : i < bs.length, ∃ c, H'[i]? = some c ∧ b = bs[i] ∧ k = upB ρ hl c) ∨ ((∀ i (h : i < bs.length), bs[i] ≠ b) ∧ b < H.length ∧ H[b]? = some k) ∨
      (H.length ≤ b ∧ ∃ c, H'[bs.length + (b - H.length)]? = some c ∧ k = upB ρ hl c)
  | [], H', H, _, _, _ => by
    refine ⟨H ++ H'.map (upB ρ hl), by simp only [layB, appM_eq], by simp, fun b k hk => ?_⟩
    rcases Nat.lt_or_ge b H.length with hb | hb
    · rw [List.getElem?_append_left hb] at hk
      exact .inr (.inl ⟨fun i h => by simp at h, hb, hk⟩)
    · rw [List.getElem?_append_right hb, List.getElem?_map] at hk
      obtain ⟨c, h1, h2⟩ := Option.map_eq_some_iff.1 hk
      exact .inr (.inr ⟨hb, c, by simpa using h1, h2.symm⟩)
  | b0 :: bs, c :: H', H, hl1, hlt, hd => by
    have h0 : b0 < H.length := hlt 0 (by simp)
    have hs : setM (upB ρ hl c) H b0 = some (H.set b0 (upB ρ hl c)) := by rw [setM_eq, if_pos h0]
    have hd' := List.nodup_cons.1 hd
    obtain ⟨H1, h1, h2, h3⟩ := layB_get (ρ := ρ) (hl := hl) (bs := bs) (H' := H') (H := H.set b0 (upB ρ hl c)) (by simpa using hl1) (fun i h => by have := hlt (i + 1) (by simpa using h); rw [List.length_set]; simpa using this) hd'.2
    refine ⟨H1, by simp only [layB, hs]; exact h1, by simpa using h2, fun b k hk => ?_⟩
    rcases h3 b k hk with ⟨i, h4, c', h5, h6, h7⟩ | ⟨h4, h5, h6⟩ | ⟨h4, c', h5, h6⟩
    · exact .inl ⟨i + 1, by simpa using h4, c', by simpa using h5, by simpa using h6, h7⟩
    · rw [List.getElem?_set] at h6
      by_cases hbb : b0 = b
      · subst hbb
        rw [if_pos rfl, if_pos h0] at h6
        exact .inl ⟨0, by simp, c, by simp, rfl, (Option.some.inj h6).symm⟩
      · rw [if_neg hbb] at h6
        refine .inr (.inl ⟨fun i hi => ?_, by simpa using h5, h6⟩)
        cases i with
        | zero => exact hbb
        | succ i => exact h4 i (by simpa using hi)
    · rw [List.length_set] at h4 h5
      refine .inr (.inr ⟨h4, c', ?_, h6⟩)
      rw [List.length_cons, show bs.length + 1 + (b - H.length) = (bs.length + (b - H.length)) + 1 by omega, List.getElem?_cons_succ]
      exact h5
  | _ :: _, [], H, h, _, _ => by simp at h
/-- Rows that lead to the first n blocks only. -/
def inB (n : Nat) : ABlk → Prop
  | .lst _ rows => beloLL n rows = true
  | .tab _ m row => ∀ i, i < m → beloL n (row i) = true
  | _ => True
def inH (n : Nat) : AHeap → Prop
  | [] => True
  | b :: bs => inB n b ∧ inH n bs
theorem inH_get {n : Nat} : ∀ {H : AHeap}, inH n H → ∀ {i : Nat} {blk : ABlk}, H[i]? = some blk → inB n blk
  | b :: bs, h, 0, blk, e => by simp at e; subst e; exact h.1
  | b :: bs, h, i + 1, blk, e => inH_get h.2 (i := i) (by simpa using e)
  | [], h, i, blk, e => by simp at e
theorem inB_row {n : Nat} {blk : ABlk} (h : inB n blk) {g m : Nat} {row : Nat → List AV} (hv : blk.view = some (g, m, row)) : ∀ i, i < m → beloL n (row i) = true := by
  intro i hi
  cases blk with
  | dead => cases hv
  | mp vb sh es => cases hv
  | lst g' rows =>
    simp only [ABlk.view, Option.some.injEq, Prod.mk.injEq] at hv
    obtain ⟨rfl, rfl, rfl⟩ := hv
    have := beloLL_get h i hi
    simpa [List.getD_eq_getElem?_getD, hi] using this
  | ints g' k l =>
    simp only [ABlk.view, Option.some.injEq, Prod.mk.injEq] at hv
    obtain ⟨rfl, rfl, rfl⟩ := hv
    rfl
  | tab g' n' row' =>
    simp only [ABlk.view, Option.some.injEq, Prod.mk.injEq] at hv
    obtain ⟨rfl, rfl, rfl⟩ := hv
    exact h i hi
/-- The blocks handed over are those. -/
def handB (ρ : List Nat) (hl : Nat) : List Nat → AHeap → AHeap → Prop
  | [], [], _ => True
  | b :: bs, c :: cs, H => nthM H b = some (upB ρ hl c) ∧ handB ρ hl bs cs H
  | _, _, _ => False
theorem handB_get {ρ : List Nat} {hl : Nat} {H : AHeap} : ∀ {bs : List Nat} {cs : AHeap}, handB ρ hl bs cs H → bs.length = cs.length ∧ ∀ i (h : i < bs.length) c, cs[i]? = some c → H[bs[i]]? = some (upB ρ hl c)
  | [], [], _ => ⟨rfl, fun i h => by simp at h⟩
  | b :: bs, c :: cs, h => by
    obtain ⟨h1, h2⟩ := handB_get h.2
    refine ⟨by simp [h1], fun i hi c' hc => ?_⟩
    cases i with
    | zero =>
      simp at hc; subst hc
      have := h.1
      rw [nthM_eq] at this
      exact this
    | succ i => exact h2 i (by simpa using hi) c' (by simpa using hc)
  | [], _ :: _, h => h.elim
  | _ :: _, [], h => h.elim
def distR : List Nat → Bool
  | [] => true
  | b :: bs => match memM bs b with | true => false | false => distR bs
theorem distR_iff : ∀ {bs : List Nat}, distR bs = true → bs.Nodup
  | [], _ => List.nodup_nil
  | b :: bs, h => by
    simp only [distR] at h
    split at h
    · cases h
    · rename_i hb
      refine List.nodup_cons.2 ⟨fun hm => ?_, distR_iff h⟩
      rw [memM_iff.2 hm] at hb
      cases hb
theorem nodup_inj {bs : List Nat} (h : bs.Nodup) {i j : Nat} (hi : i < bs.length) (hj : j < bs.length) (e : bs[i] = bs[j]) : i = j := (List.getElem_inj h).1 e
theorem vw_view {k : ABlk} {x : Nat × Nat × (Nat → List AV)} (h : k.vw = some x) : k.view = some x ∨ (∃ vb sh es, k = .mp vb sh es) ∧ x.1 = 0 := by
  cases k with
  | mp vb sh es =>
    simp only [ABlk.vw, Option.some.injEq] at h
    subst h
    exact .inr ⟨⟨_, _, _, rfl⟩, rfl⟩
  | dead => cases h
  | _ => exact .inl h
theorem AFun.sub {args' : List AV} {Hs : AHeap} {ρ : List Nat} {Q : AV → AHeap → Prop} (h : AFun P f args' Hs Q) (hbel : beloL ρ.length args' = true) (hin : inH ρ.length Hs) (hH : handB ρ H.length ρ Hs H) (hd : ρ.Nodup) :
    AFun P f (upL ρ H.length args') H fun v H1 => ∃ u H', Q u H' ∧ v = upV ρ H.length u ∧ layB ρ H.length ρ H' H = some H1 := by
  refine ⟨h.1, fun FM β cs w cargs hv hh => ?_⟩
  obtain ⟨hlen, hget⟩ := handB_get hH
  have hget' : ∀ i (h : i < ρ.length), ∃ c, Hs[i]? = some c ∧ H[ρ[i]]? = some (upB ρ H.length c) := fun i h => by
    have h2 : i < Hs.length := by omega
    exact ⟨Hs[i], by simp [h2], hget i h _ (by simp [h2])⟩
  have hblt : ∀ i (h : i < ρ.length), ρ[i] < H.length := fun i h => by
    obtain ⟨c, _, h2⟩ := hget' i h
    exact (List.getElem?_eq_some_iff.1 h2).1
  let β0 : BMap := fun i g => if i < ρ.length then β (upI ρ H.length i) g else none
  have hβ0 : ∀ i g, i < ρ.length → β0 i g = β (upI ρ H.length i) g := fun i g hi => by simp [β0, hi]
  have hβ0' : ∀ {i g lo}, β0 i g = some lo → ∃ hi : i < ρ.length, β ρ[i] g = some lo := by
    intro i g lo e
    simp only [β0] at e
    split at e
    · rename_i hi
      exact ⟨hi, by rw [upI_lt hi] at e; exact e⟩
    · cases e
  have get0 : ∀ {i : Nat} {c : ABlk}, Hs[i]? = some c → ∃ hi : i < ρ.length, H[ρ[i]]? = some (upB ρ H.length c) := fun {i c} e => by
    have hi : i < ρ.length := by have := (List.getElem?_eq_some_iff.1 e).1; omega
    exact ⟨hi, hget i hi c e⟩
  have r0 : RelH FM β0 Hs w := by
    refine ⟨?_, ?_, ?_, hh.fm, ?_, hh.gk, ⟨?_, ?_⟩⟩
    · intro i c g n row e1 e2
      obtain ⟨hi, e3⟩ := get0 e1
      obtain ⟨row1, e4, e5, e6⟩ := view_upB (ρ := ρ) (hl := H.length) e2
      obtain ⟨lo, q1, q2⟩ := hh.mem _ _ _ _ _ e3 e4
      refine ⟨lo, by rw [hβ0 i g hi, upI_lt hi]; exact q1, ?_⟩
      cases lo with
      | none => exact q2
      | some L =>
        have q2 : MemOk FM β w L n row1 := q2
        obtain ⟨c', ee, fr, c1, c2, c3, c4, c5⟩ := q2.cells
        refine ⟨q2.sz, q2.sh, q2.fit, ⟨c', ee, fr, c1, c2, c3, c4, fun r hr1 hr2 => ?_⟩, q2.free⟩
        obtain ⟨k3, k4⟩ := c5 r hr1 hr2
        rw [e6 r hr2] at k3
        refine ⟨by simpa using k3, fun j hj => ?_⟩
        have hj1 : j < (row1 r).length := by rw [e6 r hr2]; simpa using hj
        obtain ⟨cv, k5, k6⟩ := k4 j hj1
        refine ⟨cv, k5, VR.down hβ0 k6 ?_ (beloL_get (inB_row (inH_get hin e1) e2 r hr2) j hj)⟩
        have : ∀ {l : List AV} (e : row1 r = l) (h1 : j < l.length), (row1 r)[j] = l[j] := by rintro l rfl _; rfl
        rw [this (e6 r hr2) (by simpa using hj), List.getElem_map]
    · intro i1 i2 c1 c2 g1 g2 n1 n2 row1 row2 L1 L2 a1 a2 a3 a4 a5 a6 a7
      obtain ⟨h1, b1⟩ := get0 a1
      obtain ⟨h2, b2⟩ := get0 a4
      obtain ⟨r1, v1, _⟩ := view_upB (ρ := ρ) (hl := H.length) a2
      obtain ⟨r2, v2, _⟩ := view_upB (ρ := ρ) (hl := H.length) a5
      obtain ⟨_, a3⟩ := hβ0' a3
      obtain ⟨_, a6⟩ := hβ0' a6
      exact nodup_inj hd h1 h2 (hh.inj _ _ _ _ _ _ _ _ _ _ L1 L2 b1 v1 a3 b2 v2 a6 a7)
    · intro i c g n row L a1 a2 a3
      obtain ⟨h1, b1⟩ := get0 a1
      obtain ⟨r1, v1, w1, _⟩ := view_upB (ρ := ρ) (hl := H.length) a2
      obtain ⟨_, a3⟩ := hβ0' a3
      rw [← w1]
      exact hh.wid _ _ _ _ _ L b1 v1 a3
    · intro i g lo a1
      obtain ⟨h1, a1⟩ := hβ0' a1
      refine ⟨by omega, fun c g' n row a2 a3 => ?_⟩
      obtain ⟨_, b1⟩ := get0 a2
      obtain ⟨r1, v1, _⟩ := view_upB (ρ := ρ) (hl := H.length) a3
      exact (hh.dom _ _ _ a1).2 _ _ _ _ b1 v1
    · intro i vb sh es a1
      obtain ⟨h1, b1⟩ := get0 a1
      obtain ⟨L, q1, q2⟩ := hh.mp.lies _ _ _ _ b1
      exact ⟨L, by rw [hβ0 i 0 h1, upI_lt h1]; exact q1, q2⟩
    · intro i1 i2 vb vb' sh sh' es es' L L' a1 a2 a3 a4 a5
      obtain ⟨h1, b1⟩ := get0 a1
      obtain ⟨h2, b2⟩ := get0 a3
      obtain ⟨_, a2⟩ := hβ0' a2
      obtain ⟨_, a4⟩ := hβ0' a4
      exact nodup_inj hd h1 h2 (hh.mp.inj _ _ _ _ _ _ _ _ L L' b1 a2 b2 a4 a5)
  have hv0 : VRs FM β0 args' cargs.toList := ⟨by have := hv.1; rw [upL_eq, List.length_map] at this; exact this, fun i hi => by
    have h1 := hv.2 i (by rw [upL_eq, List.length_map]; exact hi)
    refine VR.down hβ0 h1 ?_ (beloL_get hbel i hi)
    simp only [upL_eq, List.getElem_map]⟩
  obtain ⟨v, w', fr, av, FM1, β1, H', hQ, h1, h2, h3, h4, h5, h6⟩ := h.2 FM β0 cs w cargs hv0 r0
  have hHl : ρ.length ≤ H'.length := by have := h3.len; omega
  obtain ⟨H1, l1, l2, l3⟩ := layB_get (ρ := ρ) (hl := H.length) (H := H) hHl hblt hd
  -- what lies where
  let β' : BMap := fun b g => if hb : b ∈ ρ then β1 (ρ.idxOf b) g else if b < H.length then β b g else β1 (ρ.length + (b - H.length)) g
  have hup : ∀ i g, β' (upI ρ H.length i) g = β1 i g := by
    intro i g
    rcases Nat.lt_or_ge i ρ.length with hi | hi
    · rw [upI_lt hi]
      have : ρ[i] ∈ ρ := List.getElem_mem hi
      simp only [β', dif_pos this]
      congr 1
      exact hd.idxOf_getElem i hi
    · rw [upI_ge hi]
      have : H.length + (i - ρ.length) ∉ ρ := fun hm => by
        obtain ⟨j, hj, e⟩ := List.getElem_of_mem hm
        have := hblt j hj
        omega
      simp only [β', dif_neg this, if_neg (show ¬ H.length + (i - ρ.length) < H.length by omega)]
      congr 1
      omega
  have hot : ∀ b g, b < H.length → b ∉ ρ → β' b g = β b g := fun b g hb hn => by simp only [β', dif_neg hn, if_pos hb]
  have hold : ∀ b g lo, β b g = some lo → β' b g = some lo := by
    intro b g lo hb
    have hlt := (hh.dom _ _ _ hb).1
    by_cases hm : b ∈ ρ
    · obtain ⟨i, hi, rfl⟩ := List.getElem_of_mem hm
      rw [← upI_lt (hl := H.length) hi, hup]
      exact h3.bm _ _ _ (by rw [hβ0 i g hi, upI_lt hi]; exact hb)
    · rw [hot b g hlt hm]; exact hb
  have get : ∀ {b : Nat} {k : ABlk}, H1[b]? = some k → (∃ i c, H'[i]? = some c ∧ b = upI ρ H.length i ∧ k = upB ρ H.length c) ∨ (b ∉ ρ ∧ b < H.length ∧ H[b]? = some k) := by
    intro b k hk
    rcases l3 b k hk with ⟨i, hi, c, e1, e2, e3⟩ | ⟨hn, hb, e⟩ | ⟨hb, c, e1, e2⟩
    · exact .inl ⟨i, c, e1, by rw [upI_lt hi]; exact e2, e3⟩
    · refine .inr ⟨fun hm => ?_, hb, e⟩
      obtain ⟨i, hi, e⟩ := List.getElem_of_mem hm
      exact hn i hi e
    · exact .inl ⟨_, c, e1, by rw [upI_ge (by omega)]; omega, e2⟩
  -- an old block that was not handed over
  have sep : ∀ {b : Nat} {k : ABlk} {g n : Nat} {row : Nat → List AV} {L : Loc}, b ∉ ρ → H[b]? = some k → k.vw = some (g, n, row) → β b g = some (some L) → L.cb < w.heap.size ∧ ¬ Img β0 Hs L.cb := by
    intro b k g n row L hn e1 e2 e3
    have obj : ∀ {b : Nat} {k : ABlk} {g n : Nat} {row : Nat → List AV} {L : Loc}, H[b]? = some k → k.vw = some (g, n, row) → β b g = some (some L) → (k.view = some (g, n, row) ∧ ∃ c e fr, w.heap[L.cb]? = some (.cells c e fr)) ∨ ((∃ vb sh es, k = .mp vb sh es) ∧ g = 0 ∧ ∃ es cl, w.heap[L.cb]? = some (.map es cl)) := by
      intro b k g n row L e1 e2 e3
      cases k with
      | mp vb sh es =>
        cases e2
        obtain ⟨L', q1, es', cl, q2, _⟩ := hh.mp.lies _ _ _ _ e1
        rw [e3] at q1
        cases q1
        exact .inr ⟨⟨_, _, _, rfl⟩, rfl, _, _, q2⟩
      | dead => cases e2
      | _ =>
        obtain ⟨lo, q1, q2⟩ := hh.mem _ _ _ _ _ e1 e2
        rw [e3] at q1
        cases q1
        obtain ⟨c, e, fr, c1, _⟩ := MemOk.cells q2
        exact .inl ⟨e2, c, e, fr, c1⟩
    refine ⟨?_, fun hi => ?_⟩
    · rcases obj e1 e2 e3 with ⟨_, c, e, fr, c1⟩ | ⟨_, _, es, cl, c1⟩
      · exact (Array.getElem?_eq_some_iff.1 c1).1
      · exact (Array.getElem?_eq_some_iff.1 c1).1
    · obtain ⟨i, c, g', n', row', L', f1, f2, f3, f4⟩ := hi
      obtain ⟨hi, f5⟩ := get0 f1
      obtain ⟨_, f3⟩ := hβ0' f3
      have f6 : ∃ row'', (upB ρ H.length c).vw = some (g', n', row'') := by
        rcases vw_view f2 with v0 | ⟨⟨vb, sh, es, rfl⟩, _⟩
        · obtain ⟨r1, v1, _⟩ := view_upB (ρ := ρ) (hl := H.length) v0
          exact ⟨r1, ABlk.vw_of v1⟩
        · cases f2; exact ⟨_, rfl⟩
      obtain ⟨row'', f6⟩ := f6
      have hne : ρ[i] ≠ b := fun e => hn (e ▸ List.getElem_mem hi)
      rcases obj e1 e2 e3 with ⟨v1, c1, x1, x2, c2⟩ | ⟨⟨vb, sh, es, rfl⟩, rfl, x1, x2, c2⟩ <;> rcases obj f5 f6 f3 with ⟨v2, c3, x3, x4, c4⟩ | ⟨⟨vb', sh', es', hk⟩, rfl, x3, x4, c4⟩
      · exact hne (hh.inj _ _ _ _ _ _ _ _ _ _ L' L f5 v2 f3 e1 v1 e3 f4)
      · rw [f4, c2] at c4; cases c4
      · rw [f4, c2] at c4; cases c4
      · rw [hk] at f5
        exact hne (hh.mp.inj _ _ _ _ _ _ _ _ L' L f5 f3 e1 e3 f4)
  -- what the callee has lies in its own memory
  have own : ∀ {i : Nat} {c : ABlk} {g n : Nat} {row : Nat → List AV} {L : Loc}, H'[i]? = some c → c.vw = some (g, n, row) → β1 i g = some (some L) → w.heap.size ≤ L.cb ∨ Img β0 Hs L.cb := by
    intro i c g n row L e1 e2 e3
    rcases Nat.lt_or_ge L.cb w.heap.size with hl | hl
    · exact .inr (h3.img _ hl ⟨i, c, g, n, row, L, e1, e2, e3, rfl⟩)
    · exact .inl hl
  refine ⟨v, w', fr, upV ρ H.length av, FM1, β', H1, ⟨av, H', hQ, rfl, l1⟩, h1.up hup, ?_, ?_, h4, h5, h6⟩
  · refine ⟨?_, ?_, ?_, h2.fm, ?_, h2.gk, ⟨?_, ?_⟩⟩
    · intro b k g n row e1 e2
      rcases get e1 with ⟨i, c, q1, rfl, rfl⟩ | ⟨hn, hb, q1⟩
      · obtain ⟨row0, q2, q3, q4⟩ := upB_view e2
        obtain ⟨lo, q5, q6⟩ := h2.mem i c g n row0 q1 q2
        refine ⟨lo, by rw [hup]; exact q5, ?_⟩
        cases lo with
        | none => exact q6
        | some L =>
          have q6 : MemOk FM1 β1 w' L n row0 := q6
          obtain ⟨c', ee, frr, c1, c2, c3, c4, c5⟩ := q6.cells
          refine ⟨q6.sz, q6.sh, q6.fit, ⟨c', ee, frr, c1, c2, c3, c4, fun r hr1 hr2 => ?_⟩, q6.free⟩
          obtain ⟨k3, k4⟩ := c5 r hr1 hr2
          rw [q4 r hr2]
          refine ⟨by simpa using k3, fun j hj => ?_⟩
          obtain ⟨cv, k5, k6⟩ := k4 j (by simpa using hj)
          refine ⟨cv, k5, ?_⟩
          rw [List.getElem_map]
          exact k6.up hup
      · obtain ⟨lo, q2, q3⟩ := hh.mem b k g n row q1 e2
        refine ⟨lo, hold _ _ _ q2, ?_⟩
        cases lo with
        | none => exact q3
        | some L =>
          have q3 : MemOk FM β w L n row := q3
          obtain ⟨s1, s2⟩ := sep hn q1 (ABlk.vw_of e2) q2
          obtain ⟨c', ee, frr, c1, c2, c3, c4, c5⟩ := q3.cells
          refine ⟨q3.sz, q3.sh, q3.fit, ⟨c', ee, frr, by rw [h3.frame _ s1 s2]; exact c1, c2, c3, c4, fun r hr1 hr2 => ?_⟩, fun o => ?_⟩
          · obtain ⟨k3, k4⟩ := c5 r hr1 hr2
            refine ⟨k3, fun j hj => ?_⟩
            obtain ⟨cv, k5, k6⟩ := k4 j hj
            exact ⟨cv, k5, k6.mono h3.fm hold⟩
          · cases hx : FM1 L.cb o with
            | none => rfl
            | some x =>
              rcases h3.fmn _ _ _ hx with hx | hx | hx
              · rw [q3.free o] at hx; cases hx
              · omega
              · exact absurd hx s2
    · intro b1 b2 k1 k2 g1 g2 n1 n2 row1 row2 L1 L2 e1 e2 e3 e4 e5 e6 e7
      rcases get e1 with ⟨i, c, q1, rfl, rfl⟩ | ⟨hn, hb, q1⟩ <;> rcases get e4 with ⟨i', c', q1', rfl, rfl⟩ | ⟨hn', hb', q1'⟩
      · obtain ⟨_, v1, _⟩ := upB_view e2
        obtain ⟨_, v2, _⟩ := upB_view e5
        rw [hup] at e3 e6
        rw [h2.inj _ _ _ _ _ _ _ _ _ _ L1 L2 q1 v1 e3 q1' v2 e6 e7]
      · obtain ⟨_, v1, _⟩ := upB_view e2
        rw [hup] at e3
        rw [hot _ _ hb' hn'] at e6
        obtain ⟨s1, s2⟩ := sep hn' q1' (ABlk.vw_of e5) e6
        rcases own q1 (ABlk.vw_of v1) e3 with o1 | o1
        · omega
        · rw [e7] at o1; exact absurd o1 s2
      · obtain ⟨_, v2, _⟩ := upB_view e5
        rw [hup] at e6
        rw [hot _ _ hb hn] at e3
        obtain ⟨s1, s2⟩ := sep hn q1 (ABlk.vw_of e2) e3
        rcases own q1' (ABlk.vw_of v2) e6 with o1 | o1
        · omega
        · rw [← e7] at o1; exact absurd o1 s2
      · rw [hot _ _ hb hn] at e3
        rw [hot _ _ hb' hn'] at e6
        exact hh.inj _ _ _ _ _ _ _ _ _ _ L1 L2 q1 e2 e3 q1' e5 e6 e7
    · intro b k g n row L e1 e2 e3
      rcases get e1 with ⟨i, c, q1, rfl, rfl⟩ | ⟨hn, hb, q1⟩
      · obtain ⟨_, v1, w1, _⟩ := upB_view e2
        rw [hup] at e3
        rw [w1]
        exact h2.wid _ _ _ _ _ L q1 v1 e3
      · rw [hot _ _ hb hn] at e3
        exact hh.wid _ _ _ _ _ L q1 e2 e3
    · intro b g lo e
      have hdom : ∀ k g' n row, H1[b]? = some k → k.view = some (g', n, row) → g ≤ g' := by
        intro k g' n row q1 q2
        rcases get q1 with ⟨i, c, q3, rfl, rfl⟩ | ⟨hn, hb, q3⟩
        · obtain ⟨_, v1, _⟩ := upB_view q2
          rw [hup] at e
          exact (h2.dom _ _ _ e).2 _ _ _ _ q3 v1
        · rw [hot _ _ hb hn] at e
          exact (hh.dom _ _ _ e).2 _ _ _ _ q3 q2
      refine ⟨?_, fun k g' n row => hdom k g' n row⟩
      rcases Nat.lt_or_ge b H.length with hb | hb
      · omega
      · have hn : b ∉ ρ := fun hm => by
          obtain ⟨j, hj, e⟩ := List.getElem_of_mem hm
          have := hblt j hj
          omega
        simp only [β', dif_neg hn, if_neg (Nat.not_lt.2 hb)] at e
        have := (h2.dom _ _ _ e).1
        omega
    · intro b vb sh es e1
      rcases get e1 with ⟨i, c, q1, rfl, q2⟩ | ⟨hn, hb, q1⟩
      · have := upB_mp q2.symm
        subst this
        obtain ⟨L, q3, q4⟩ := h2.mp.lies _ _ _ _ q1
        exact ⟨L, by rw [hup]; exact q3, q4⟩
      · obtain ⟨L, q3, ents, cl, q4, q5⟩ := hh.mp.lies _ _ _ _ q1
        obtain ⟨s1, s2⟩ := sep hn q1 rfl q3
        exact ⟨L, hold _ _ _ q3, ents, cl, by rw [h3.frame _ s1 s2]; exact q4, q5⟩
    · intro b1 b2 vb vb' sh sh' es es' L L' e1 e2 e3 e4 e5
      rcases get e1 with ⟨i, c, q1, rfl, q2⟩ | ⟨hn, hb, q1⟩ <;> rcases get e3 with ⟨i', c', q1', rfl, q2'⟩ | ⟨hn', hb', q1'⟩
      · have := upB_mp q2.symm; subst this
        have := upB_mp q2'.symm; subst this
        rw [hup] at e2 e4
        rw [h2.mp.inj _ _ _ _ _ _ _ _ L L' q1 e2 q1' e4 e5]
      · have := upB_mp q2.symm; subst this
        rw [hup] at e2
        rw [hot _ _ hb' hn'] at e4
        obtain ⟨s1, s2⟩ := sep hn' q1' rfl e4
        rcases own q1 rfl e2 with o1 | o1
        · omega
        · rw [e5] at o1; exact absurd o1 s2
      · have := upB_mp q2'.symm; subst this
        rw [hup] at e4
        rw [hot _ _ hb hn] at e2
        obtain ⟨s1, s2⟩ := sep hn q1 rfl e2
        rcases own q1' rfl e4 with o1 | o1
        · omega
        · rw [← e5] at o1; exact absurd o1 s2
      · rw [hot _ _ hb hn] at e2
        rw [hot _ _ hb' hn'] at e4
        exact hh.mp.inj _ _ _ _ _ _ _ _ L L' q1 e2 q1' e4 e5
  · have im0 : ∀ cb, Img β0 Hs cb → Img β H cb := by
      rintro cb ⟨i, c, g, n, row, L, e1, e2, e3, e4⟩
      obtain ⟨hi, e5⟩ := get0 e1
      obtain ⟨_, e3⟩ := hβ0' e3
      rcases vw_view e2 with v0 | ⟨⟨vb, sh, es, rfl⟩, _⟩
      · obtain ⟨r1, v1, _⟩ := view_upB (ρ := ρ) (hl := H.length) v0
        exact ⟨_, _, _, _, _, L, e5, ABlk.vw_of v1, e3, e4⟩
      · cases e2; exact ⟨_, _, _, _, _, L, e5, rfl, e3, e4⟩
    refine ⟨h3.fm, hold, h3.size, fun cb hl hi => ?_, fun cb hl hi => h3.frame cb hl fun h => hi (im0 cb h), fun cb o x hx => ?_, by omega, h3.os, h3.output, h3.tape⟩
    · obtain ⟨b, k, g, n, row, L, e1, e2, e3, e4⟩ := hi
      rcases get e1 with ⟨i, c, q1, rfl, rfl⟩ | ⟨hn, hb, q1⟩
      · rw [hup] at e3
        have : ∃ row0, c.vw = some (g, n, row0) := by
          rcases vw_view e2 with v0 | ⟨⟨vb, sh, es, hk⟩, _⟩
          · obtain ⟨r0, v1, _⟩ := upB_view v0
            exact ⟨r0, ABlk.vw_of v1⟩
          · have := upB_mp hk; subst this; cases e2; exact ⟨_, rfl⟩
        obtain ⟨row0, v1⟩ := this
        rcases own q1 v1 e3 with o1 | o1
        · omega
        · rw [e4] at o1; exact im0 cb o1
      · rw [hot _ _ hb hn] at e3
        exact ⟨b, k, g, n, row, L, q1, e2, e3, e4⟩
    · rcases h3.fmn _ _ _ hx with hx | hx | hx
      · exact .inl hx
      · exact .inr (.inl hx)
      · exact .inr (.inr (im0 _ hx))
end Pf
/- Calls of functions whose contract is over some of the blocks (GR), and how such a contract is shown: what is left over is dropped at the end. -/
namespace Pf
open Go
variable {P : Program} {TT : TypeId → Option TI} {f N n0 : Nat} {k : List Item} {T : Env} {H : AHeap} {R : AV → AHeap → Prop} {nf : Nat} {ops : Array Oper} {past op pend pend' : List Nat} {vin ws : List (Option Nat × AV)} {ps : List Prop} {cl : List (FuncId × List AV × AV)}

/-- A call; 'ρ': which blocks are handed over, by the numbers that the callee has for them. -/
theorem go_callS {rs : List ResultVar} (W : Walk P TT f rs) (m n : Nat) (ρ : List Nat) {cs : List Prop} {g : FuncId} {args args' : List AV} {dst : Option Nat} {k' : List Item} {T' : Env} {H' Hs : AHeap} {Q : AV → AHeap → Prop}
    (h : exec TT N rs m n [] k T H = .call cs g args dst k' T' H') (hc : AllC cs) (hq : AFun P g args' Hs Q) (ea : args = upL ρ (lenM H') args') (hbel : beloL (lenM ρ) args' = true) (hin : inH (lenM ρ) Hs) (hH : handB ρ (lenM H') ρ Hs H') (hd : distR ρ = true)
    (h1 : ∀ u H2, Q u H2 → ∃ T1 H1, dstM N dst (upV ρ (lenM H') u) T' = some T1 ∧ layB ρ (lenM H') ρ H2 H' = some H1 ∧ AGo P f N n0 k' T1 H1 R) : AGo P f N n0 k T H R := by
  simp only [lenM_eq] at *
  subst ea
  refine go_call W m n h hc (hq.sub hbel hin hH (distR_iff hd)) fun v H1 ⟨u, H2, r1, r2, r3⟩ => ?_
  obtain ⟨T1, H1', q1, q2, q3⟩ := h1 u H2 r1
  rw [r3] at q2
  cases q2
  subst r2
  exact ⟨T1, q1, q3⟩

/-- What is handed back, the blocks from n on being dropped. -/
def Trim (n : Nat) (Q : AV → AHeap → Prop) (v : AV) (H : AHeap) : Prop := ∃ u cs H1, Sub v u ∧ belo n u = true ∧ dropM n n H = some (cs, H1) ∧ AllC cs ∧ Q u H1
theorem AFun.trim {args : List AV} {Hs : AHeap} {Q : AV → AHeap → Prop} (n : Nat) (h : AFun P f args Hs (Trim n Q)) (hn : Hs.length ≤ n) : AFun P f args Hs Q := by
  refine ⟨h.1, fun FM β cs w cargs hv hh => ?_⟩
  obtain ⟨v, w', fr, av, FM1, β1, H1, ⟨u, cs', H2, hs, hbe, e3, hc, hq⟩, h1, hH, h3, h4, h5, h6⟩ := h.2 FM β cs w cargs hv hh
  obtain ⟨rfl, hle, hbl⟩ := dropM_ok e3 hc
  let β2 : BMap := fun b g => if b < n then β1 b g else none
  have hβ : ∀ b g, b < n → β2 b g = β1 b g := fun b g hb => by simp [β2, hb]
  have get : ∀ {i : Nat} {blk : ABlk}, (H1.take n)[i]? = some blk → i < n ∧ H1[i]? = some blk := by
    intro i blk hi
    rw [List.getElem?_take] at hi
    split at hi
    · rename_i h1; exact ⟨h1, hi⟩
    · cases hi
  have sub : ∀ {i g : Nat} {lo : Option Loc}, β2 i g = some lo → i < n ∧ β1 i g = some lo := by
    intro i g lo hi
    simp only [β2] at hi
    split at hi
    · rename_i h1; exact ⟨h1, hi⟩
    · cases hi
  have hR : RelH FM1 β2 (H1.take n) w' := by
    have hmp : MapsOk β2 (H1.take n) w' := ⟨fun b1 vb sh es h => by
        obtain ⟨hi, h1⟩ := get h
        obtain ⟨L, q1, q2⟩ := hH.mp.lies b1 vb sh es h1
        exact ⟨L, by rw [hβ _ _ hi]; exact q1, q2⟩, fun b1 b2 vb vb' sh sh' es es' L L' h1 h2 h3 h4 h5 => hH.mp.inj b1 b2 vb vb' sh sh' es es' L L' (get h1).2 (sub h2).2 (get h3).2 (sub h4).2 h5⟩
    refine ⟨?_, ?_, ?_, hH.fm, ?_, hH.gk, hmp⟩
    · intro i blk g m row h1 h2
      obtain ⟨hi, h1⟩ := get h1
      obtain ⟨lo, q1, q2⟩ := hH.mem i blk g m row h1 h2
      refine ⟨lo, by rw [hβ _ _ hi]; exact q1, ?_⟩
      cases lo with
      | none => exact q2
      | some L =>
        have q2 : MemOk FM1 β1 w' L m row := q2
        obtain ⟨c, ee, fr, c1, c2, c3, c4, c5⟩ := q2.cells
        refine ⟨q2.sz, q2.sh, q2.fit, ⟨c, ee, fr, c1, c2, c3, c4, fun r hr1 hr2 => ?_⟩, q2.free⟩
        obtain ⟨k3, k4⟩ := c5 r hr1 hr2
        obtain ⟨C, b1, b2⟩ := hbl i blk hi h1
        have hrow := beloB_row b1 b2 h2 r hr2
        refine ⟨k3, fun j hj => ?_⟩
        obtain ⟨cv, k5, k6⟩ := k4 j hj
        exact ⟨cv, k5, k6.belo (n := n) (fun b g hb => hβ b g hb) (beloL_get hrow j hj)⟩
    · intro b1 b2 k1 k2 g1 g2 n1 n2 row1 row2 L1 L2 h1 h2 h3 h4 h5 h6 h7
      exact hH.inj b1 b2 k1 k2 g1 g2 n1 n2 row1 row2 L1 L2 (get h1).2 h2 (sub h3).2 (get h4).2 h5 (sub h6).2 h7
    · intro i blk g m row L h1 h2 h3
      exact hH.wid i blk g m row L (get h1).2 h2 (sub h3).2
    · intro i g lo hi
      obtain ⟨q1, q2⟩ := sub hi
      refine ⟨by rw [List.length_take]; omega, fun blk g' m row h1 h2 => (hH.dom i g lo q2).2 blk g' m row (get h1).2 h2⟩
  refine ⟨v, w', fr, u, FM1, β2, H1.take n, hq, (hs _ _ _ h1).belo (n := n) (fun b g hb => hβ b g hb) hbe, hR, ?_, h4, h5, h6⟩
  exact ⟨h3.fm, fun b g lo e => by rw [hβ _ _ (Nat.lt_of_lt_of_le (hh.dom _ _ _ e).1 hn)]; exact h3.bm _ _ _ e, h3.size, fun cb hl i => by
      obtain ⟨i', blk, g, m, row, L, q1, q2, q3, q4⟩ := i
      exact h3.img cb hl ⟨i', blk, g, m, row, L, (get q1).2, q2, (sub q3).2, q4⟩, h3.frame, h3.fmn, by rw [List.length_take]; omega, h3.os, h3.output, h3.tape⟩
theorem go_retS {rs : List ResultVar} (W : Walk P TT f rs) (m n nb : Nat) {Q : AV → AHeap → Prop} {cs qs : List Prop} {v : AV} {H' H1 : AHeap} (h : exec TT N rs m n [] k T H = .ret cs v H') (hc : AllC cs) (hd : dropM nb nb H' = some (qs, H1)) (hcs : AllC qs)
    (u : AV) (hs : Sub v u) (hb : belo nb u = true) (hq : Q u H1) : AGo P f N n0 k T H (Trim nb Q) :=
  go_ret W m n h hc ⟨u, qs, H1, hs, hb, hd, hcs, hq⟩
end Pf
/- Functions of the library that write the texts of a block (Sort, Compact). -/
namespace Pf
open Go Go.RowKit Go.Sort Go.Proofs
variable {P : Program} {f : FuncId}
/-- Rows of texts. -/
def tbRow (L : List (List UInt8)) (i : Nat) : List AV := [.str (L.getD i [])]
/-- What such a function hands back: nothing, or the slice cut. -/
def tbRes (m : Option Nat) (a : Option Addr) (cap : Nat) : Value := match m with | none => .tuple #[] | some k => .slice a k cap
def tbVal (g : Nat) : Option Nat → AV | none => .tup [] | some k => .sl 0 g 0 k
end Pf
/- Lists of texts in the laws: marks, equality -/
namespace Pf
open Go Go.Proofs
/-- The digits of a number ahead of a text (f: no less than the number). -/
def mtF : Nat → Nat → List UInt8 → List UInt8
  | 0, _, out => out
  | f + 1, k, out => if k = 0 then out else mtF f (k / 10) (bytesT [48 + (k : Int) % 10] ++ out)
/-- The text that marks the place k. -/
def mt (k : Nat) : List UInt8 := [109] ++ mtF k k []
theorem mtF_zero (f : Nat) (out : List UInt8) : mtF f 0 out = out := by cases f <;> simp [mtF]
theorem markText_ok (k : Nat) (h1 : 1 ≤ k) (h2 : k ≤ 1099511627776) : AFunP Tryz.prog 51 [.int .i64 k] (· = .str (mt k)) := by
  refine afun_of Tryz.func51 Tryz.call51 rfl Tryz.ntmps51 rfl ?_
  have W : Walk Tryz.prog TT 51 _ := Walk.of TT_ok Tryz.func51 Tryz.results51
  refine sp W 0 rfl rfl rfl (fun h0 => ?_) (fun h0 => ?_)
  · exfalso; omega
  refine lp W 0 (σ := Nat × Nat × List UInt8) (fun s => [(0, .int .i64 s.2.1), (3, .str s.2.2)]) (fun _ => []) (fun s => s.1) (fun s => s.2.1 ≤ s.1 ∧ s.2.2.length + s.2.1 ≤ k ∧ mtF s.1 s.2.1 s.2.2 = mtF k k []) (k, k, []) [0, 3] rfl rfl rfl ⟨Nat.le_refl _, by simp, rfl⟩ ?_
  rintro ⟨f, j, out⟩ ⟨hf, hj, he⟩ ih
  dsimp only at hf hj he ih ⊢
  refine sp W 0 rfl rfl rfl (fun h3 => ?_) (fun h3 => ?_)
  · have hb : ∀ n : Int, (bytesT [n]).length = 1 := fun n => rfl
    have hj1 : 0 < j := by omega
    have hbl := hb (48 + (j : Int) % 10)
    obtain ⟨f, rfl⟩ : ∃ g, f = g + 1 := ⟨f - 1, by omega⟩
    have e : mtF f (j / 10) (bytesT [48 + (j : Int) % 10] ++ out) = mtF k k [] := by
      rw [← he]
      simp only [mtF]
      rw [if_neg (by omega)]
    refine bd W 0 0 [0, 3] rfl rfl rfl rfl rfl (ih (f, j / 10, bytesT [48 + (j : Int) % 10] ++ out) ⟨by dsimp only; omega, by dsimp only; rw [List.length_append, hb]; omega, e⟩ (by dsimp only; omega))
  · have hj0 : j = 0 := by omega
    subst hj0
    rw [mtF_zero] at he
    refine rp W 0 rfl rfl rfl (.eq (by unfold mt; rw [← he]))
end Pf
/- Rows by a function: another function that says the same below the length; the tail forgotten. -/
namespace Pf
open Go
variable {P : Program} {TT : TypeId → Option TI} {f N n0 : Nat} {k : List Item} {T : Env} {H : AHeap} {R : AV → AHeap → Prop} {nf : Nat} {ops : Array Oper} {past op pend : List Nat} {vs : List (Option Nat × AV)}

theorem tbc_back {b m g : Nat} {n : Nat} {row row2 : Nat → List AV} {H2 : AHeap} (e1 : nthM H b = some (.tab g n row)) (e2 : setM (.tab g m row2) H b = some H2) :
    H2.length = H.length ∧ ∀ b' blk', H2[b']? = some blk' → (b' = b ∧ blk' = .tab g m row2) ∨ H[b']? = some blk' := by
  rw [nthM_eq] at e1
  rw [setM_eq] at e2
  split at e2
  · simp only [Option.some.injEq] at e2
    subst e2
    refine ⟨by simp, fun b' blk' h => ?_⟩
    rw [List.getElem?_set] at h
    split at h
    · rename_i hb
      subst hb
      simp only [Option.some.injEq] at h
      exact .inl ⟨rfl, h.symm⟩
    · exact .inr h
  · cases e2
theorem tbc_view {b m g : Nat} {n : Nat} {row row2 : Nat → List AV} {H2 : AHeap} (e1 : nthM H b = some (.tab g n row)) (e2 : setM (.tab g m row2) H b = some H2) (hwd : (row2 0).length = (row 0).length) {b' g' n' : Nat} {blk' : ABlk} {row' : Nat → List AV}
    (h1 : H2[b']? = some blk') (h2 : blk'.view = some (g', n', row')) : ∃ blk n row, H[b']? = some blk ∧ blk.view = some (g', n, row) ∧ blk'.width = blk.width := by
  rcases (tbc_back e1 e2).2 b' blk' h1 with ⟨rfl, rfl⟩ | h
  · rw [nthM_eq] at e1
    simp only [ABlk.view, Option.some.injEq, Prod.mk.injEq] at h2
    obtain ⟨rfl, _, _⟩ := h2
    exact ⟨_, _, _, e1, rfl, hwd⟩
  · exact ⟨_, _, _, h, h2, rfl⟩
theorem tbc_img {b m g : Nat} {n : Nat} {row row2 : Nat → List AV} {H2 : AHeap} {β : BMap} (e1 : nthM H b = some (.tab g n row)) (e2 : setM (.tab g m row2) H b = some H2) {cb : Nat} (h : Img β H2 cb) : Img β H cb := by
  obtain ⟨b', blk', g', n', row', L, h1, h2, h3, h4⟩ := h
  rcases (tbc_back e1 e2).2 b' blk' h1 with ⟨rfl, rfl⟩ | h
  · rw [nthM_eq] at e1
    cases h2
    exact ⟨_, _, _, _, _, L, e1, rfl, h3, h4⟩
  · exact ⟨b', blk', g', n', row', L, h, h2, h3, h4⟩
theorem RelH.tbc {FM : FMem} {β : BMap} {w : World} (hh : RelH FM β H w) {b m g : Nat} {n : Nat} {row row2 : Nat → List AV} {H2 : AHeap} (e1 : nthM H b = some (.tab g n row)) (e2 : setM (.tab g m row2) H b = some H2)
    (hwd : (row2 0).length = (row 0).length) (hm : m ≤ n) (hr : ∀ i, i < m → row2 i = row i) (hs : m = n ∨ ∃ off len cv, VR FM β (.sl b g off len) cv ∧ off ≤ m) : RelH FM β H2 w where
  mem b' blk' g' n' row' h1 h2 := by
    rcases (tbc_back e1 e2).2 b' blk' h1 with ⟨rfl, rfl⟩ | h
    · rw [nthM_eq] at e1
      simp only [ABlk.view, Option.some.injEq, Prod.mk.injEq] at h2
      obtain ⟨rfl, rfl, rfl⟩ := h2
      obtain ⟨lo, q1, q2⟩ := hh.mem _ _ _ _ _ e1 rfl
      refine ⟨lo, q1, ?_⟩
      cases lo with
      | none =>
        have : n = 0 := q2
        show m = 0
        omega
      | some L =>
        obtain ⟨z1, z2, z3, ⟨c, el, fr, y1, y2, y3, y4, y5⟩, z5⟩ := q2
        have hs : L.sh ≤ m := by
          rcases hs with rfl | ⟨off, len, cv, hv, ho⟩
          · exact z2
          · have : L.sh ≤ off := by
              cases hv with
              | sl h hs hr hc hp => rw [q1] at h; cases h; exact hs
              | sl0 h hs => rw [q1] at h; cases h; exact hs _ rfl
            omega
        refine ⟨z1, hs, by omega, ⟨c, el, fr, y1, y2, y3, y4, fun r r1 r2 => ?_⟩, z5⟩
        have := y5 r r1 (by omega)
        rw [hr r r2]
        exact this
    · exact hh.mem _ _ _ _ _ h h2
  inj b1 b2 blk1 blk2 g1 g2 n1 n2 row1 row2 L1 L2 h1 h2 h3 h4 h5 h6 h7 := by
    obtain ⟨c1, d1, f1, p1, p2, _⟩ := tbc_view e1 e2 hwd h1 h2
    obtain ⟨c2, d2, f2, q1, q2, _⟩ := tbc_view e1 e2 hwd h4 h5
    exact hh.inj _ _ _ _ _ _ _ _ _ _ _ _ p1 p2 h3 q1 q2 h6 h7
  wid b1 blk1 g1 n1 row1 L h1 h2 h3 := by
    obtain ⟨c1, d1, f1, p1, p2, p3⟩ := tbc_view e1 e2 hwd h1 h2
    rw [p3]
    exact hh.wid _ _ _ _ _ _ p1 p2 h3
  fm := hh.fm
  dom b1 g1 lo h := by
    obtain ⟨q1, q2⟩ := hh.dom b1 g1 lo h
    refine ⟨by rw [(tbc_back e1 e2).1]; exact q1, fun blk' g' n' row' h1 h2 => ?_⟩
    obtain ⟨c1, d1, f1, p1, p2, _⟩ := tbc_view e1 e2 hwd h1 h2
    exact q2 _ _ _ _ p1 p2
  gk := hh.gk
  mp := hh.mp.keep (fun _ _ _ h => h) (fun b' vb sh es h => by
    rcases (tbc_back e1 e2).2 b' _ h with ⟨_, h⟩ | h
    · cases h
    · exact h) fun _ _ _ h => h
theorem Ext.tbc {FM : FMem} {β : BMap} {w : World} {b m g : Nat} {n : Nat} {row row2 : Nat → List AV} {H2 : AHeap} (e1 : nthM H b = some (.tab g n row)) (e2 : setM (.tab g m row2) H b = some H2) : Ext FM β H w FM β H2 w where
  fm _ _ _ h := h
  bm _ _ _ h := h
  size := Nat.le_refl _
  img cb _ h := tbc_img e1 e2 h
  frame _ _ _ := rfl
  fmn _ _ _ h := .inl h
  len := by rw [(tbc_back e1 e2).1]; exact Nat.le_refl _
  os := rfl
  output := rfl
  tape := rfl
/-- The rows of the block 'b' are said by another function; its tail may be forgotten (then a slot 'd' holds a piece that begins at or ahead of 'm'). -/
theorem go_tab (b m : Nat) (row2 : Nat → List AV) {g n : Nat} {row : Nat → List AV} {H2 : AHeap} (e1 : nthM H b = some (.tab g n row)) (e2 : setM (.tab g m row2) H b = some H2)
    (hwd : (row2 0).length = (row 0).length) (hm : m ≤ n) (hr : ∀ i, i < m → row2 i = row i) (hs : m = n ∨ ∃ d off len, getM T d = some (.sl b g off len) ∧ off ≤ m) (h : AGo P f N n0 k T H2 R) : AGo P f N n0 k T H R := by
  intro FM β b cs a w a1 a2 a3 a4 hT hH hn0
  refine Ext.go (Ext.tbc e1 e2) hn0 (h FM β b cs a w a1 a2 a3 a4 hT (hH.tbc e1 e2 hwd hm hr ?_)) (b := b) (.refl _ _)
  rcases hs with h | ⟨d, off, len, h1, h2⟩
  · exact .inl h
  · exact .inr ⟨off, len, _, hT d _ h1, h2⟩
/-- A block is forgotten. -/
theorem ded_back {b : Nat} {H2 : AHeap} (e2 : setM ABlk.dead H b = some H2) : H2.length = H.length ∧ ∀ (b' : Nat) (blk' : ABlk), H2[b']? = some blk' → blk' = ABlk.dead ∨ H[b']? = some blk' := by
  rw [setM_eq] at e2
  split at e2
  · simp only [Option.some.injEq] at e2
    subst e2
    refine ⟨by simp, fun b' blk' h => ?_⟩
    rw [List.getElem?_set] at h
    split at h
    · simp only [Option.some.injEq] at h
      exact .inl h.symm
    · exact .inr h
  · cases e2
theorem ded_view {b : Nat} {H2 : AHeap} (e2 : setM ABlk.dead H b = some H2) {b' : Nat} {blk' : ABlk} {x : Nat × Nat × (Nat → List AV)} (h1 : H2[b']? = some blk') (h2 : blk'.view = some x) : H[b']? = some blk' := by
  rcases (ded_back e2).2 b' blk' h1 with rfl | h
  · cases h2
  · exact h
theorem ded_vw {b : Nat} {H2 : AHeap} (e2 : setM ABlk.dead H b = some H2) {b' : Nat} {blk' : ABlk} {x : Nat × Nat × (Nat → List AV)} (h1 : H2[b']? = some blk') (h2 : blk'.vw = some x) : H[b']? = some blk' := by
  rcases (ded_back e2).2 b' blk' h1 with rfl | h
  · cases h2
  · exact h
theorem RelH.ded {FM : FMem} {β : BMap} {w : World} (hh : RelH FM β H w) {b : Nat} {H2 : AHeap} (e2 : setM ABlk.dead H b = some H2) : RelH FM β H2 w where
  mem b' blk' g' n' row' h1 h2 := hh.mem _ _ _ _ _ (ded_view e2 h1 h2) h2
  inj b1 b2 blk1 blk2 g1 g2 n1 n2 row1 row2 L1 L2 h1 h2 h3 h4 h5 h6 h7 := hh.inj _ _ _ _ _ _ _ _ _ _ _ _ (ded_view e2 h1 h2) h2 h3 (ded_view e2 h4 h5) h5 h6 h7
  wid b1 blk1 g1 n1 row1 L h1 h2 h3 := hh.wid _ _ _ _ _ _ (ded_view e2 h1 h2) h2 h3
  fm := hh.fm
  dom b1 g1 lo h := by
    obtain ⟨q1, q2⟩ := hh.dom b1 g1 lo h
    exact ⟨by rw [(ded_back e2).1]; exact q1, fun blk' g' n' row' h1 h2 => q2 _ _ _ _ (ded_view e2 h1 h2) h2⟩
  gk := hh.gk
  mp := hh.mp.keep (fun _ _ _ h => h) (fun b' vb sh es h => by
    rcases (ded_back e2).2 b' _ h with h | h
    · cases h
    · exact h) fun _ _ _ h => h
theorem Ext.ded {FM : FMem} {β : BMap} {w : World} {b : Nat} {H2 : AHeap} (e2 : setM ABlk.dead H b = some H2) : Ext FM β H w FM β H2 w where
  fm _ _ _ h := h
  bm _ _ _ h := h
  size := Nat.le_refl _
  img cb _ h := by
    obtain ⟨b', blk', g', n', row', L, h1, h2, h3, h4⟩ := h
    exact ⟨b', blk', g', n', row', L, ded_vw e2 h1 h2, h2, h3, h4⟩
  frame _ _ _ := rfl
  fmn _ _ _ h := .inl h
  len := by rw [(ded_back e2).1]; exact Nat.le_refl _
  os := rfl
  output := rfl
  tape := rfl
theorem go_dead (b : Nat) {H2 : AHeap} (e2 : setM ABlk.dead H b = some H2) (h : AGo P f N n0 k T H2 R) : AGo P f N n0 k T H R := by
  intro FM β bf cs a w a1 a2 a3 a4 hT hH hn0
  exact Ext.go (Ext.ded e2) hn0 (h FM β bf cs a w a1 a2 a3 a4 hT (hH.ded e2)) (b := bf) (.refl _ _)
end Pf
/- A nil slice in a temporary, as an empty block of its own. -/
namespace Pf
open Go
variable {P : Program} {TT : TypeId → Option TI} {f N n0 : Nat} {k : List Item} {T : Env} {H : AHeap} {R : AV → AHeap → Prop}

/-- The temporary 'd' holds no cells: from here on it is a slice of an empty block, at the heap's end. -/
theorem go_nilT (d : Nat) (blk : ABlk) {v : AV} {rowE : Nat → List AV} {T1 : Env} {H2 : AHeap} (et : getM T d = some v) (en : isNil v = true)
    (eb : blk.view = some (0, 0, rowE)) (e1 : putM d (.sl (lenM H) 0 0 0) T = some T1) (e4 : appM H [blk] = some H2)
    (h : AGo P f N n0 k T1 H2 R) : AGo P f N n0 k T H R := by
  intro FM β bf cs a w a1 a2 a3 a4 hT hH hl
  rw [appM_eq] at e4
  cases e4
  simp only [lenM_eq] at *
  let β1 : BMap := fun b g => if b = H.length ∧ g = 0 then some none else β b g
  have hnone : ∀ g, β H.length g = none := by
    intro g
    cases hb : β H.length g with
    | none => rfl
    | some lo => have := (hH.dom _ _ _ hb).1; omega
  have hβ : ∀ b g lo, β b g = some lo → β1 b g = some lo := by
    intro b g lo hb
    simp only [β1]
    split
    · rename_i h1
      obtain ⟨rfl, rfl⟩ := h1
      rw [hnone] at hb; cases hb
    · exact hb
  have some1 : ∀ {i g : Nat} {L : Loc}, β1 i g = some (some L) → β i g = some (some L) := by
    intro i g L hi
    simp only [β1] at hi
    split at hi
    · cases hi
    · exact hi
  have get : ∀ {i : Nat} {bl : ABlk}, (H ++ [blk])[i]? = some bl → (i < H.length ∧ H[i]? = some bl) ∨ (i = H.length ∧ bl = blk) := by
    intro i bl hi
    rcases Nat.lt_or_ge i H.length with h1 | h1
    · rw [List.getElem?_append_left h1] at hi; exact .inl ⟨h1, hi⟩
    · rw [List.getElem?_append_right h1] at hi
      obtain ⟨h2, h3⟩ := List.getElem?_eq_some_iff.1 hi
      simp at h2
      have : i = H.length := by omega
      subst this
      simp at h3
      exact .inr ⟨rfl, h3.symm⟩
  have hcell : ∀ {cv : Value}, VR FM β v cv → VR FM β1 (.sl H.length 0 0 0) cv := by
    intro cv h0
    have hb : β1 H.length 0 = some none := by simp [β1]
    cases h0 with
    | nils => exact .sl0 hb fun L h => by cases h
    | e0 => exact .sl0 hb fun L h => by cases h
    | _ => cases en
  have hR : RelH FM β1 (H ++ [blk]) w := by
    have hmp : MapsOk β1 (H ++ [blk]) w := hH.mp.keep hβ (fun i vb sh es h => by
      rcases get h with ⟨_, h⟩ | ⟨_, rfl⟩
      · exact h
      · cases eb) fun _ _ _ h => h
    refine ⟨?_, ?_, ?_, hH.fm, ?_, hH.gk, hmp⟩
    · intro i bl g' m rw1 h1 h2
      rcases get h1 with ⟨hi, q1⟩ | ⟨rfl, rfl⟩
      · obtain ⟨lo, p1, p2⟩ := hH.mem i bl g' m rw1 q1 h2
        refine ⟨lo, hβ _ _ _ p1, ?_⟩
        cases lo with
        | none => exact p2
        | some L => exact MemOk.still p2 rfl hβ
      · rw [eb] at h2; cases h2
        exact ⟨none, by simp [β1], rfl⟩
    · intro b1 b2 k1 k2 g1 g2 n1 n2 row1 row2 L1 L2 h1 h2 h3 h4 h5 h6 h7
      have q3 := some1 h3
      have q6 := some1 h6
      rcases get h1 with ⟨_, x1⟩ | ⟨rfl, rfl⟩
      · rcases get h4 with ⟨_, x1'⟩ | ⟨rfl, rfl⟩
        · exact hH.inj b1 b2 k1 k2 g1 g2 n1 n2 row1 row2 L1 L2 x1 h2 q3 x1' h5 q6 h7
        · rw [hnone] at q6; cases q6
      · rw [hnone] at q3; cases q3
    · intro i bl g' m rw1 L h1 h2 h3
      have q3 := some1 h3
      rcases get h1 with ⟨_, x1⟩ | ⟨rfl, rfl⟩
      · exact hH.wid i bl g' m rw1 L x1 h2 q3
      · rw [hnone] at q3; cases q3
    · intro i g' lo hi
      simp only [β1] at hi
      split at hi
      · rename_i h1
        obtain ⟨rfl, rfl⟩ := h1
        exact ⟨by simp, fun _ _ _ _ _ _ => Nat.zero_le _⟩
      · obtain ⟨q1, q2⟩ := hH.dom i g' lo hi
        refine ⟨by simp; omega, fun bl g2 m rw1 h1 h2 => ?_⟩
        rcases get h1 with ⟨_, x1⟩ | ⟨rfl, rfl⟩
        · exact q2 bl g2 m rw1 x1 h2
        · omega
  have hT1 : RelT FM β1 T1 a := by
    intro e u he
    rw [getM_putM e1] at he
    split at he
    · rename_i hde
      subst hde
      cases he
      exact hcell (hT _ _ et)
    · exact (hT e u he).mono (fun _ _ _ h => h) hβ
  obtain ⟨v', w', fr, av, FM', β', H', h1, h2, h3, h4, h5⟩ := h FM β1 bf cs a w a1 a2 a3 a4 hT1 hR (by simp; omega)
  have himg : ∀ cb, cb < w.heap.size → Img β1 (H ++ [blk]) cb → Img β H cb := by
    intro cb _ hi
    obtain ⟨i, bl, g', m, rw1, L, q1, q2, q3, q4⟩ := hi
    have q3 := some1 q3
    rcases get q1 with ⟨_, x1⟩ | ⟨rfl, rfl⟩
    · exact ⟨i, bl, g', m, rw1, L, x1, q2, q3, q4⟩
    · rw [hnone] at q3; cases q3
  have hx : ExtB n0 FM β H w FM β1 (H ++ [blk]) w := ⟨fun _ _ _ h => h, fun b g lo _ e => hβ b g lo e, Nat.le_refl _, himg, fun _ _ _ => rfl, fun _ _ _ h => .inl h, by simp; omega, rfl, rfl, rfl⟩
  exact ⟨v', w', fr, av, FM', β', H', h1, h2, h3, hx.trans h4, h5⟩

end Pf
/- A temporary's value said otherwise. -/
namespace Pf
open Go
variable {P : Program} {TT : TypeId → Option TI} {f N n0 : Nat} {k : List Item} {T : Env} {H : AHeap} {R : AV → AHeap → Prop}
end Pf
/- The known variable's cells are read. -/
namespace Pf
open Go
variable {P : Program} {TT : TypeId → Option TI} {f N n0 : Nat} {k : List Item} {T : Env} {H : AHeap} {R : AV → AHeap → Prop}
end Pf
/- Graphs: sizes, copies, equality -/
namespace Pf
open Go Go.Proofs
/-- A node of a graph, a relation. -/
structure Gn where
  k : Int
  a : Int
  b : Int
  n : Int
  t : List UInt8
structure Gr where
  k : Int
  l : Int
  r : Int
theorem Gn.eq {x y : Gn} (h1 : x.k = y.k) (h2 : x.a = y.a) (h3 : x.b = y.b) (h4 : x.n = y.n) (h5 : x.t = y.t) : x = y := by
  cases x; cases y; simp only at h1 h2 h3 h4 h5; subst h1; subst h2; subst h3; subst h4; subst h5; rfl
theorem Gr.eq {x y : Gr} (h1 : x.k = y.k) (h2 : x.l = y.l) (h3 : x.r = y.r) : x = y := by
  cases x; cases y; simp only at h1 h2 h3; subst h1; subst h2; subst h3; rfl
def g0 : Gn := ⟨0, 0, 0, 0, []⟩
def r0 : Gr := ⟨0, 0, 0⟩
def gnV (x : Gn) : AV := .agg [.int .i64 x.k, .int .i64 x.a, .int .i64 x.b, .int .i64 x.n, .str x.t]
def grV (x : Gr) : AV := .agg [.int .i64 x.k, .int .i64 x.l, .int .i64 x.r]
def gnR (l : List Gn) (i : Nat) : List AV := [.int .i64 (l.getD i g0).k, .int .i64 (l.getD i g0).a, .int .i64 (l.getD i g0).b, .int .i64 (l.getD i g0).n, .str (l.getD i g0).t]
def grR (l : List Gr) (i : Nat) : List AV := [.int .i64 (l.getD i r0).k, .int .i64 (l.getD i r0).l, .int .i64 (l.getD i r0).r]
abbrev graphV (v : Int) (l : List Gn) (rs : List Gr) : AV := .agg [.int .i64 v, .fz l.length (gnR l), .fz rs.length (grR rs)]
def gtxtOk (l : List Gn) : Prop := ∀ i, i < l.length → (l.getD i g0).t.length ≤ 1048576
theorem list_eq {α : Type} {d : α} {l m : List α} (h1 : l.length = m.length) (he : ∀ j, j < l.length → l.getD j d = m.getD j d) : l = m := List.ext_getElem h1 fun j h3 h4 => by
  have := he j (by omega)
  simpa [List.getD_eq_getElem?_getD, h3, h4] using this
/-! ### Sizes -/
theorem szGraphNode_ok (x : Gn) (left : Int) (hl : 0 ≤ left ∧ left ≤ 1048576) (hx : x.t.length ≤ 9223372036854775807) : AFunP Tryz.prog 42 [gnV x, .int .i64 left] (· = .int .i64 (if left < x.t.length then -1 else left - x.t.length)) := by
  unfold gnV
  refine afun_of Tryz.func42 Tryz.call42 rfl Tryz.ntmps42 rfl ?_
  have W : Walk Tryz.prog TT 42 _ := Walk.of TT_ok Tryz.func42 Tryz.results42
  refine sp W 0 rfl rfl rfl (fun h1 => ?_) (fun h1 => ?_)
  · refine rp W 0 rfl rfl rfl (.int (by rw [if_pos (by omega)]))
  · refine rp W 0 rfl rfl rfl (.int (by rw [if_neg (by omega)]))
theorem szGraphNodeS_ok (l : List Gn) (left : Int) (hl : 0 ≤ left ∧ left ≤ 1048576) (hm : l.length ≤ 9223372036854775807) (hx : ∀ i, i < l.length → (l.getD i g0).t.length ≤ 9223372036854775807) : AFunP Tryz.prog 17 [.fz l.length (gnR l), .int .i64 left] (fun u => ∃ n, u = .int .i64 n ∧ n ≤ left ∧ (0 ≤ n → l.length ≤ left ∧ ∀ i, i < l.length → ((l.getD i g0).t.length : Int) ≤ left)) := by
  refine afun_of Tryz.func17 Tryz.call17 rfl Tryz.ntmps17 rfl ?_
  have W : Walk Tryz.prog TT 17 _ := Walk.of TT_ok Tryz.func17 Tryz.results17
  refine sp W 0 rfl rfl rfl (fun h1 => ?_) (fun h1 => ?_)
  · refine rq W 0 rfl rfl (.int .i64 (-1)) (⟨_, rfl, by omega, fun k => by omega⟩) rfl .refl
  refine lp W 0 (σ := Nat × Int) (fun s => [(0, .fz l.length (gnR l)), (1, .int .i64 s.2), (5, .int .i64 s.1)]) (fun _ => []) (fun s => l.length - s.1) (fun s => s.1 ≤ l.length ∧ (0 ≤ s.2 ∧ s.2 ≤ left) ∧ ∀ j, j < s.1 → ((l.getD j g0).t.length : Int) ≤ left) (0, left - l.length) [0, 1, 5] rfl rfl rfl ⟨Nat.zero_le _, ⟨by dsimp only; omega, by dsimp only; omega⟩, fun j hj => by omega⟩ ?_
  rintro ⟨i, d⟩ ⟨hi, hd, he⟩ ih
  dsimp only at hi hd he ih ⊢
  refine sp W 0 rfl rfl rfl (fun h2 => ?_) (fun h2 => ?_)
  · have h2 : i < l.length := by omega
    have hxi := hx i h2
    refine ce W 0 rfl rfl (szGraphNode_ok (l.getD i g0) d ⟨by omega, by omega⟩ hxi) rfl ?_
    refine sp W 0 rfl rfl rfl (fun h3 => ?_) (fun h3 => ?_)
    · refine rq W 0 rfl rfl (.int .i64 (-1)) (⟨_, rfl, by omega, fun k => by omega⟩) rfl .refl
    · by_cases h4 : d < (l.getD i g0).t.length
      · rw [if_pos h4] at h3; exact absurd (by omega) h3
      · simp only [if_neg h4]
        refine bd W 0 0 [0, 1, 5] rfl rfl rfl rfl rfl (ih (i + 1, d - (l.getD i g0).t.length) ⟨by dsimp only; omega, ⟨by dsimp only; omega, by dsimp only; omega⟩, fun j hj => ?_⟩ (by dsimp only; omega))
        by_cases hji : j = i
        · subst hji; omega
        · exact he j (by dsimp only at hj; omega)
  · refine rq W 0 rfl rfl (.int .i64 d) (⟨_, rfl, by omega, fun k => ⟨by omega, fun j hj => he j (by omega)⟩⟩) rfl .refl
theorem szGraphRelS_ok (l : List Gr) (left : Int) (hl : 0 ≤ left ∧ left ≤ 1048576) (hm : l.length ≤ 9223372036854775807) : AFunP Tryz.prog 18 [.fz l.length (grR l), .int .i64 left] (fun u => ∃ n, u = .int .i64 n ∧ (0 ≤ n → l.length ≤ left)) := by
  refine afun_of Tryz.func18 Tryz.call18 rfl Tryz.ntmps18 rfl ?_
  have W : Walk Tryz.prog TT 18 _ := Walk.of TT_ok Tryz.func18 Tryz.results18
  refine sp W 0 rfl rfl rfl (fun h1 => ?_) (fun h1 => ?_)
  · refine rq W 0 rfl rfl (.int .i64 (-1)) (⟨_, rfl, fun k => by omega⟩) rfl .refl
  · refine rq W 0 rfl rfl (.int .i64 (left - l.length)) (⟨_, rfl, fun k => by omega⟩) rfl .refl
theorem szGraph_ok (v : Int) (l : List Gn) (rs : List Gr) (hm : l.length ≤ 9223372036854775807) (hr : rs.length ≤ 9223372036854775807) (hx : ∀ i, i < l.length → (l.getD i g0).t.length ≤ 9223372036854775807) : AFunP Tryz.prog 5 [graphV v l rs, .int .i64 1048576] (fun u => ∃ n, u = .int .i64 n ∧ (0 ≤ n → l.length ≤ 1048576 ∧ rs.length ≤ 1048576 ∧ gtxtOk l)) := by
  refine afun_of Tryz.func5 Tryz.call5 rfl Tryz.ntmps5 rfl ?_
  have W : Walk Tryz.prog TT 5 _ := Walk.of TT_ok Tryz.func5 Tryz.results5
  refine cq W 0 rfl rfl (szGraphNodeS_ok l 1048576 ⟨by omega, by omega⟩ hm hx) ?_
  rintro _ ⟨n, rfl, hn1, hn⟩
  refine ⟨_, rfl, ?_⟩
  refine sp W 0 rfl rfl rfl (fun h1 => ?_) (fun h1 => ?_)
  · refine rq W 0 rfl rfl (.int .i64 (-1)) (⟨_, rfl, fun k => by omega⟩) rfl .refl
  refine cq W 0 rfl rfl (szGraphRelS_ok rs n ⟨by omega, by omega⟩ hr) ?_
  rintro _ ⟨m, rfl, hm2⟩
  refine ⟨_, rfl, ?_⟩
  refine sp W 0 rfl rfl rfl (fun h2 => ?_) (fun h2 => ?_)
  · refine rq W 0 rfl rfl (.int .i64 (-1)) (⟨_, rfl, fun k => by omega⟩) rfl .refl
  · refine rq W 0 rfl rfl (.int .i64 m) (⟨_, rfl, fun k => ⟨by have := (hn (by omega)).1; omega, by have := hm2 k; omega, fun i hi => by have := (hn (by omega)).2 i hi; omega⟩⟩) rfl .refl
/-! ### Copies -/
theorem toGraphNode_ok (x : Gn) : AFunP Tryz.prog 45 [gnV x] (· = gnV x) := by
  unfold gnV
  refine afun_of Tryz.func45 Tryz.call45 rfl Tryz.ntmps45 rfl ?_
  have W : Walk Tryz.prog TT 45 _ := Walk.of TT_ok Tryz.func45 Tryz.results45
  refine rp W 0 rfl rfl rfl (.refl)
theorem toGraphRel_ok (x : Gr) : AFunP Tryz.prog 46 [grV x] (· = grV x) := by
  unfold grV
  refine afun_of Tryz.func46 Tryz.call46 rfl Tryz.ntmps46 rfl ?_
  have W : Walk Tryz.prog TT 46 _ := Walk.of TT_ok Tryz.func46 Tryz.results46
  refine rp W 0 rfl rfl rfl (.refl)
theorem toGraphNodeS_ok (l : List Gn) (hl : l.length ≤ 1048576) : AFunP Tryz.prog 22 [.fz l.length (gnR l)] (· = .fz l.length (gnR l)) := by
  refine afun_of Tryz.func22 Tryz.call22 rfl Tryz.ntmps22 rfl ?_
  have W : Walk Tryz.prog TT 22 _ := Walk.of TT_ok Tryz.func22 Tryz.results22
  refine lp W 0 (σ := Nat × (Nat → Gn)) (fun s => [(0, .fz l.length (gnR l)), (3, .sl 0 0 0 l.length), (4, .int .i64 s.1)]) (fun s => [.tab 0 l.length fun j => [.int .i64 (s.2 j).k, .int .i64 (s.2 j).a, .int .i64 (s.2 j).b, .int .i64 (s.2 j).n, .str (s.2 j).t]]) (fun s => l.length - s.1) (fun s => s.1 ≤ l.length ∧ ∀ j, j < s.1 → s.2 j = l.getD j g0) (0, fun _ => g0) [0, 3, 4] rfl rfl rfl ⟨Nat.zero_le _, fun j hj => by omega⟩ ?_
  rintro ⟨i, F⟩ ⟨hi, he⟩ ih
  dsimp only at hi he ih ⊢
  refine sp W 0 rfl rfl rfl (fun h2 => ?_) (fun h2 => ?_)
  · have h2 : i < l.length := by omega
    refine ce W 0 rfl rfl (toGraphNode_ok (l.getD i g0)) rfl ?_
    refine bd W 0 1 [0, 3, 4] rfl rfl rfl rfl rfl (ih (i + 1, fun j => ⟨if j = i then (l.getD i g0).k else (F j).k, if j = i then (l.getD i g0).a else (F j).a, if j = i then (l.getD i g0).b else (F j).b, if j = i then (l.getD i g0).n else (F j).n, if j = i then (l.getD i g0).t else (F j).t⟩) ⟨by dsimp only; omega, fun j hj => ?_⟩ (by dsimp only; omega))
    dsimp only at hj ⊢
    by_cases hji : j = i
    · subst hji; simp only [if_true]
    · simp only [if_neg hji]; exact he j (by omega)
  · refine rp W 0 rfl rfl rfl (.fzn rfl fun j hj => ?_)
    show [AV.int .i64 (F j).k, AV.int .i64 (F j).a, AV.int .i64 (F j).b, AV.int .i64 (F j).n, AV.str (F j).t] = gnR l j
    have e := he j (by omega)
    unfold gnR
    rw [← e]
theorem toGraphRelS_ok (l : List Gr) (hl : l.length ≤ 1048576) : AFunP Tryz.prog 23 [.fz l.length (grR l)] (· = .fz l.length (grR l)) := by
  refine afun_of Tryz.func23 Tryz.call23 rfl Tryz.ntmps23 rfl ?_
  have W : Walk Tryz.prog TT 23 _ := Walk.of TT_ok Tryz.func23 Tryz.results23
  refine lp W 0 (σ := Nat × (Nat → Gr)) (fun s => [(0, .fz l.length (grR l)), (3, .sl 0 0 0 l.length), (4, .int .i64 s.1)]) (fun s => [.tab 0 l.length fun j => [.int .i64 (s.2 j).k, .int .i64 (s.2 j).l, .int .i64 (s.2 j).r]]) (fun s => l.length - s.1) (fun s => s.1 ≤ l.length ∧ ∀ j, j < s.1 → s.2 j = l.getD j r0) (0, fun _ => r0) [0, 3, 4] rfl rfl rfl ⟨Nat.zero_le _, fun j hj => by omega⟩ ?_
  rintro ⟨i, F⟩ ⟨hi, he⟩ ih
  dsimp only at hi he ih ⊢
  refine sp W 0 rfl rfl rfl (fun h2 => ?_) (fun h2 => ?_)
  · have h2 : i < l.length := by omega
    refine ce W 0 rfl rfl (toGraphRel_ok (l.getD i r0)) rfl ?_
    refine bd W 0 1 [0, 3, 4] rfl rfl rfl rfl rfl (ih (i + 1, fun j => ⟨if j = i then (l.getD i r0).k else (F j).k, if j = i then (l.getD i r0).l else (F j).l, if j = i then (l.getD i r0).r else (F j).r⟩) ⟨by dsimp only; omega, fun j hj => ?_⟩ (by dsimp only; omega))
    dsimp only at hj ⊢
    by_cases hji : j = i
    · subst hji; simp only [if_true]
    · simp only [if_neg hji]; exact he j (by omega)
  · refine rp W 0 rfl rfl rfl (.fzn rfl fun j hj => ?_)
    show [AV.int .i64 (F j).k, AV.int .i64 (F j).l, AV.int .i64 (F j).r] = grR l j
    have e := he j (by omega)
    unfold grR
    rw [← e]
theorem toGraph_ok (v : Int) (l : List Gn) (rs : List Gr) (hl : l.length ≤ 1048576) (hr : rs.length ≤ 1048576) : AFunP Tryz.prog 7 [graphV v l rs] (· = graphV v l rs) := by
  refine afun_of Tryz.func7 Tryz.call7 rfl Tryz.ntmps7 rfl ?_
  have W : Walk Tryz.prog TT 7 _ := Walk.of TT_ok Tryz.func7 Tryz.results7
  refine ce W 0 rfl rfl (toGraphNodeS_ok l hl) rfl ?_
  refine ce W 0 rfl rfl (toGraphRelS_ok rs hr) rfl ?_
  refine rp W 0 rfl rfl rfl (.refl)
/-! ### Equality -/
theorem eqGraphNode_ok (x y : Gn) : AFunP Tryz.prog 49 [gnV x, gnV y] (· = .pr (x = y)) := by
  unfold gnV
  refine afun_of Tryz.func49 Tryz.call49 rfl Tryz.ntmps49 rfl ?_
  have W : Walk Tryz.prog TT 49 _ := Walk.of TT_ok Tryz.func49 Tryz.results49
  refine sp W 0 rfl rfl rfl (fun h1 => ?_) (fun h1 => ?_)
  · refine rp W 0 rfl rfl rfl (.no (fun k => by subst k; exact h1 rfl))
  refine sp W 0 rfl rfl rfl (fun h2 => ?_) (fun h2 => ?_)
  · refine rp W 0 rfl rfl rfl (.no (fun k => by subst k; exact h2 rfl))
  refine sp W 0 rfl rfl rfl (fun h3 => ?_) (fun h3 => ?_)
  · refine rp W 0 rfl rfl rfl (.no (fun k => by subst k; exact h3 rfl))
  refine sp W 0 rfl rfl rfl (fun h4 => ?_) (fun h4 => ?_)
  · refine rp W 0 rfl rfl rfl (.no (fun k => by subst k; exact h4 rfl))
  refine sp W 0 rfl rfl rfl (fun h5 => ?_) (fun h5 => ?_)
  · refine rp W 0 rfl rfl rfl (.no (fun k => by subst k; exact h5 rfl))
  · refine rp W 0 rfl rfl rfl (.yes (Gn.eq (Classical.not_not.1 h1) (Classical.not_not.1 h2) (Classical.not_not.1 h3) (Classical.not_not.1 h4) (Classical.not_not.1 h5)))
theorem eqGraphRel_ok (x y : Gr) : AFunP Tryz.prog 50 [grV x, grV y] (· = .pr (x = y)) := by
  unfold grV
  refine afun_of Tryz.func50 Tryz.call50 rfl Tryz.ntmps50 rfl ?_
  have W : Walk Tryz.prog TT 50 _ := Walk.of TT_ok Tryz.func50 Tryz.results50
  refine sp W 0 rfl rfl rfl (fun h1 => ?_) (fun h1 => ?_)
  · refine rp W 0 rfl rfl rfl (.no (fun k => by subst k; exact h1 rfl))
  refine sp W 0 rfl rfl rfl (fun h2 => ?_) (fun h2 => ?_)
  · refine rp W 0 rfl rfl rfl (.no (fun k => by subst k; exact h2 rfl))
  refine sp W 0 rfl rfl rfl (fun h3 => ?_) (fun h3 => ?_)
  · refine rp W 0 rfl rfl rfl (.no (fun k => by subst k; exact h3 rfl))
  · refine rp W 0 rfl rfl rfl (.yes (Gr.eq (Classical.not_not.1 h1) (Classical.not_not.1 h2) (Classical.not_not.1 h3)))
theorem eqGraphNodeS_ok (l m : List Gn) (hl : l.length ≤ 1048576) (hm : m.length ≤ 1048576) : AFunP Tryz.prog 27 [.fz l.length (gnR l), .fz m.length (gnR m)] (· = .pr (l = m)) := by
  refine afun_of Tryz.func27 Tryz.call27 rfl Tryz.ntmps27 rfl ?_
  have W : Walk Tryz.prog TT 27 _ := Walk.of TT_ok Tryz.func27 Tryz.results27
  refine sp W 0 rfl rfl rfl (fun h1 => ?_) (fun h1 => ?_)
  · refine rp W 0 rfl rfl rfl (.no (fun k => by subst k; omega))
  have h1 : l.length = m.length := by omega
  refine lp W 0 (σ := Nat) (fun i => [(0, .fz l.length (gnR l)), (1, .fz m.length (gnR m)), (5, .int .i64 i)]) (fun _ => []) (fun i => l.length - i) (fun i => i ≤ l.length ∧ ∀ j, j < i → l.getD j g0 = m.getD j g0) 0 [0, 1, 5] rfl rfl rfl ⟨Nat.zero_le _, fun j hj => by omega⟩ ?_
  rintro i ⟨hi, he⟩ ih
  refine sp W 0 rfl rfl rfl (fun h2 => ?_) (fun h2 => ?_)
  · have h2 : i < l.length := by omega
    have kq := eqGraphNode_ok (l.getD i g0) (m.getD i g0)
    refine dre W 0 10 [] [.pr (l.getD i g0 = m.getD i g0)] rfl rfl rfl ⟨kq.at rfl _, trivial⟩ rfl ?_
    refine sp W 0 rfl rfl rfl (fun h3 => ?_) (fun h3 => ?_)
    · refine rp W 0 rfl rfl rfl (.no (fun k => by subst k; exact h3 rfl))
    · refine bd W 0 0 [0, 1, 5] rfl rfl rfl rfl rfl (ih (i + 1) ⟨by omega, fun j hj => ?_⟩ (by omega))
      by_cases hji : j = i
      · subst hji; exact Classical.not_not.1 h3
      · exact he j (by omega)
  · refine rp W 0 rfl rfl rfl (.yes (list_eq h1 fun j hj => he j (by omega)))
theorem eqGraphRelS_ok (l m : List Gr) (hl : l.length ≤ 1048576) (hm : m.length ≤ 1048576) : AFunP Tryz.prog 28 [.fz l.length (grR l), .fz m.length (grR m)] (· = .pr (l = m)) := by
  refine afun_of Tryz.func28 Tryz.call28 rfl Tryz.ntmps28 rfl ?_
  have W : Walk Tryz.prog TT 28 _ := Walk.of TT_ok Tryz.func28 Tryz.results28
  refine sp W 0 rfl rfl rfl (fun h1 => ?_) (fun h1 => ?_)
  · refine rp W 0 rfl rfl rfl (.no (fun k => by subst k; omega))
  have h1 : l.length = m.length := by omega
  refine lp W 0 (σ := Nat) (fun i => [(0, .fz l.length (grR l)), (1, .fz m.length (grR m)), (5, .int .i64 i)]) (fun _ => []) (fun i => l.length - i) (fun i => i ≤ l.length ∧ ∀ j, j < i → l.getD j r0 = m.getD j r0) 0 [0, 1, 5] rfl rfl rfl ⟨Nat.zero_le _, fun j hj => by omega⟩ ?_
  rintro i ⟨hi, he⟩ ih
  refine sp W 0 rfl rfl rfl (fun h2 => ?_) (fun h2 => ?_)
  · have h2 : i < l.length := by omega
    have kq := eqGraphRel_ok (l.getD i r0) (m.getD i r0)
    refine dre W 0 10 [] [.pr (l.getD i r0 = m.getD i r0)] rfl rfl rfl ⟨kq.at rfl _, trivial⟩ rfl ?_
    refine sp W 0 rfl rfl rfl (fun h3 => ?_) (fun h3 => ?_)
    · refine rp W 0 rfl rfl rfl (.no (fun k => by subst k; exact h3 rfl))
    · refine bd W 0 0 [0, 1, 5] rfl rfl rfl rfl rfl (ih (i + 1) ⟨by omega, fun j hj => ?_⟩ (by omega))
      by_cases hji : j = i
      · subst hji; exact Classical.not_not.1 h3
      · exact he j (by omega)
  · refine rp W 0 rfl rfl rfl (.yes (list_eq h1 fun j hj => he j (by omega)))
theorem eqGraph_ok (v : Int) (l : List Gn) (rs : List Gr) (hl : l.length ≤ 1048576) (hr : rs.length ≤ 1048576) : AFunP Tryz.prog 9 [graphV v l rs, graphV v l rs] (· = .pr True) := by
  refine afun_of Tryz.func9 Tryz.call9 rfl Tryz.ntmps9 rfl ?_
  have W : Walk Tryz.prog TT 9 _ := Walk.of TT_ok Tryz.func9 Tryz.results9
  refine sp W 0 rfl rfl rfl (fun h1 => ?_) (fun h1 => ?_)
  · exact absurd rfl h1
  refine ce W 0 rfl rfl (eqGraphNodeS_ok l l hl hl) rfl ?_
  refine sp W 0 rfl rfl rfl (fun h2 => ?_) (fun h2 => ?_)
  · exact absurd rfl h2
  refine ce W 0 rfl rfl (eqGraphRelS_ok rs rs hr hr) rfl ?_
  refine sp W 0 rfl rfl rfl (fun h3 => ?_) (fun h3 => ?_)
  · exact absurd rfl h3
  · refine rp W 0 rfl rfl rfl (.yes trivial)
end Pf
/- GraphOk: its closures, slices.ContainsFunc -/
namespace Pf
open Go Go.Proofs
theorem getD_in {α : Type} {d : α} {l : List α} {i : Nat} (h : i < l.length) : l.getD i d ∈ l := by
  simp [List.getD_eq_getElem?_getD, h]
theorem getD_all {α : Type} {d : α} {l : List α} {q : α → Prop} (h : ∀ s, s < l.length → q (l.getD s d)) : ∀ x ∈ l, q x := by
  intro x hx
  obtain ⟨s, hs, rfl⟩ := List.getElem_of_mem hx
  have := h s hs
  simpa [List.getD_eq_getElem?_getD, hs] using this
theorem inI_ok (i k : Int) (hi : 0 ≤ i ∧ i ≤ 1048576) : AFunP Tryz.prog 56 [.int .i64 k, .fptr [.int .i64 i] 0] (· = .pr (¬(0 ≤ k ∧ k ≤ i - 1))) := by
  have k1 := in_ok k 0 (i - 1)
  refine afun_of Tryz.func56 Tryz.call56 rfl Tryz.ntmps56 rfl ?_
  have W : Walk Tryz.prog TT 56 _ := Walk.of TT_ok Tryz.func56 Tryz.results56
  refine ce W 0 rfl rfl (k1) rfl ?_
  refine rp W 0 rfl rfl rfl (.refl)
theorem indexIntG_ok (i : Int) (hi : 0 ≤ i ∧ i ≤ 1048576) (L : List Int) (hL : L.length ≤ 1048576) : AFunP Tryz.prog 83 [.fi .i64 L, .fn 56 [] [.fptr [.int .i64 i] 0]] (fun u => ∃ n, u = .int .i64 n ∧ (0 ≤ n ↔ ∃ k ∈ L, ¬(0 ≤ k ∧ k ≤ i - 1))) := by
  refine afun_of Tryz.func83 Tryz.call83 rfl Tryz.ntmps83 rfl ?_
  have W : Walk Tryz.prog TT 83 _ := Walk.of TT_ok Tryz.func83 Tryz.results83
  refine lp W 0 (σ := Nat) (fun j => [(0, .fi .i64 L), (1, .fn 56 [] [.fptr [.int .i64 i] 0]), (7, .int .i64 L.length), (8, .int .i64 j)]) (fun _ => []) (fun j => L.length - j) (fun j => j ≤ L.length ∧ ∀ s, s < j → 0 ≤ L.getD s 0 ∧ L.getD s 0 ≤ i - 1) 0 [0, 1, 7, 8] rfl rfl rfl ⟨Nat.zero_le _, fun j hj => by omega⟩ ?_
  rintro j ⟨hj, he⟩ ih
  refine sp W 0 rfl rfl rfl (fun h1 => ?_) (fun h1 => ?_)
  · have h1 : j < L.length := by omega
    have kq := inI_ok i (L.getD j 0) hi
    refine ce W 0 rfl rfl (kq) rfl ?_
    refine sp W 0 rfl rfl rfl (fun h2 => ?_) (fun h2 => ?_)
    · refine rq W 0 rfl rfl (.int .i64 j) (⟨_, rfl, fun _ => ⟨L.getD j 0, getD_in h1, h2⟩, fun _ => by omega⟩) rfl .refl
    · refine bd W 0 0 [0, 1, 7, 8] rfl rfl rfl rfl rfl (ih (j + 1) ⟨by omega, fun s hs => ?_⟩ (by omega))
      by_cases hsj : s = j
      · subst hsj; exact Classical.not_not.1 h2
      · exact he s (by omega)
  · have hall := getD_all (d := 0) (l := L) (q := fun k => 0 ≤ k ∧ k ≤ i - 1) fun s hs => he s (by omega)
    refine rq W 0 rfl rfl (.int .i64 (-1)) (⟨_, rfl, fun h => by omega, fun ⟨k, hk, hn⟩ => absurd (hall k hk) hn⟩) rfl .refl
theorem containsIntG_ok (i : Int) (hi : 0 ≤ i ∧ i ≤ 1048576) (L : List Int) (hL : L.length ≤ 1048576) : AFunP Tryz.prog 55 [.fi .i64 L, .fn 56 [] [.fptr [.int .i64 i] 0]] (· = .pr (∃ k ∈ L, ¬(0 ≤ k ∧ k ≤ i - 1))) := by
  refine afun_of Tryz.func55 Tryz.call55 rfl Tryz.ntmps55 rfl ?_
  have W : Walk Tryz.prog TT 55 _ := Walk.of TT_ok Tryz.func55 Tryz.results55
  refine cq W 0 rfl rfl (indexIntG_ok i hi L hL) ?_
  rintro _ ⟨n, rfl, hn⟩
  refine ⟨_, rfl, ?_⟩
  refine rp W 0 rfl rfl rfl (.pr hn)
/-- A relation of nodes, of n. -/
def relP (n : Nat) (r : Gr) : Prop := (1 ≤ r.k ∧ r.k ≤ 3) ∧ (0 ≤ r.l ∧ r.l ≤ (n : Int) - 1) ∧ (0 ≤ r.r ∧ r.r ≤ (n : Int) - 1)
theorem inR_ok (v : Int) (l : List Gn) (rs : List Gr) (hl : l.length ≤ 1048576) (x : Gr) : AFunP Tryz.prog 58 [grV x, .fptr [.int .i64 v, .fz l.length (gnR l), .fz rs.length (grR rs)] 0] (· = .pr (¬ relP l.length x)) := by
  have k1 := in_ok x.k 1 3
  have k2 := in_ok x.l 0 ((l.length : Int) - 1)
  have k3 := in_ok x.r 0 ((l.length : Int) - 1)
  unfold grV
  refine afun_of Tryz.func58 Tryz.call58 rfl Tryz.ntmps58 rfl ?_
  have W : Walk Tryz.prog TT 58 _ := Walk.of TT_ok Tryz.func58 Tryz.results58
  refine ce W 0 rfl rfl (k1) rfl ?_
  refine sp W 0 rfl rfl rfl (fun h1 => ?_) (fun h1 => ?_)
  · refine rp W 0 rfl rfl rfl (.yes (fun k => h1 k.1))
  have h1 := Classical.not_not.1 h1
  refine ce W 0 rfl rfl (k2) rfl ?_
  refine sp W 0 rfl rfl rfl (fun h2 => ?_) (fun h2 => ?_)
  · refine rp W 0 rfl rfl rfl (.yes (fun k => h2 k.2.1))
  have h2 := Classical.not_not.1 h2
  refine ce W 0 rfl rfl (k3) rfl ?_
  refine rp W 0 rfl rfl rfl (.pr ⟨fun h k => h k.2.2, fun h k => h ⟨h1, h2, k⟩⟩)
theorem indexRel_ok (v : Int) (l : List Gn) (rs : List Gr) (hl : l.length ≤ 1048576) (hr : rs.length ≤ 1048576) : AFunP Tryz.prog 84 [.fz rs.length (grR rs), .fn 58 [] [.fptr [.int .i64 v, .fz l.length (gnR l), .fz rs.length (grR rs)] 0]] (fun u => ∃ n, u = .int .i64 n ∧ (0 ≤ n ↔ ∃ r ∈ rs, ¬ relP l.length r)) := by
  refine afun_of Tryz.func84 Tryz.call84 rfl Tryz.ntmps84 rfl ?_
  have W : Walk Tryz.prog TT 84 _ := Walk.of TT_ok Tryz.func84 Tryz.results84
  refine lp W 0 (σ := Nat) (fun j => [(0, .fz rs.length (grR rs)), (1, .fn 58 [] [.fptr [.int .i64 v, .fz l.length (gnR l), .fz rs.length (grR rs)] 0]), (7, .int .i64 rs.length), (8, .int .i64 j)]) (fun _ => []) (fun j => rs.length - j) (fun j => j ≤ rs.length ∧ ∀ s, s < j → relP l.length (rs.getD s r0)) 0 [0, 1, 7, 8] rfl rfl rfl ⟨Nat.zero_le _, fun j hj => by omega⟩ ?_
  rintro j ⟨hj, he⟩ ih
  refine sp W 0 rfl rfl rfl (fun h1 => ?_) (fun h1 => ?_)
  · have h1 : j < rs.length := by omega
    refine ce W 0 rfl rfl (inR_ok v l rs hl (rs.getD j r0)) rfl ?_
    refine sp W 0 rfl rfl rfl (fun h2 => ?_) (fun h2 => ?_)
    · refine rq W 0 rfl rfl (.int .i64 j) (⟨_, rfl, fun _ => ⟨rs.getD j r0, getD_in h1, h2⟩, fun _ => by omega⟩) rfl .refl
    · refine bd W 0 0 [0, 1, 7, 8] rfl rfl rfl rfl rfl (ih (j + 1) ⟨by omega, fun s hs => ?_⟩ (by omega))
      by_cases hsj : s = j
      · subst hsj; exact Classical.not_not.1 h2
      · exact he s (by omega)
  · have hall := getD_all (d := r0) (l := rs) (q := fun r => relP l.length r) fun s hs => he s (by omega)
    refine rq W 0 rfl rfl (.int .i64 (-1)) (⟨_, rfl, fun h => by omega, fun ⟨k, hk, hn⟩ => absurd (hall k hk) hn⟩) rfl .refl
theorem containsRel_ok (v : Int) (l : List Gn) (rs : List Gr) (hl : l.length ≤ 1048576) (hr : rs.length ≤ 1048576) : AFunP Tryz.prog 57 [.fz rs.length (grR rs), .fn 58 [] [.fptr [.int .i64 v, .fz l.length (gnR l), .fz rs.length (grR rs)] 0]] (· = .pr (∃ r ∈ rs, ¬ relP l.length r)) := by
  refine afun_of Tryz.func57 Tryz.call57 rfl Tryz.ntmps57 rfl ?_
  have W : Walk Tryz.prog TT 57 _ := Walk.of TT_ok Tryz.func57 Tryz.results57
  refine cq W 0 rfl rfl (indexRel_ok v l rs hl hr) ?_
  rintro _ ⟨n, rfl, hn⟩
  refine ⟨_, rfl, ?_⟩
  refine rp W 0 rfl rfl rfl (.pr hn)
end Pf
/- Graphs: parts of nodes, may a node stand at a place -/
namespace Pf
open Go Go.Proofs
noncomputable def pzG (x : Gn) : Int := partsZ x.k x.n x.t
open Classical in
/-- The parts of a node that is no variable. -/
noncomputable def plG (x : Gn) : List Int := if x.k = 2 ∨ x.k = 13 then [] else if pzG x = 1 then [x.a] else if pzG x = 2 then [x.a, x.b] else []
def ppG (x : Gn) : Prop := ¬(x.k = 2 ∨ x.k = 13) ∧ (pzG x = 0 ∧ x.a = 0 ∧ x.b = 0 ∨ pzG x = 1 ∧ x.b = 0 ∨ pzG x = 2)
def okG (x : Gn) (i : Nat) : Prop := ppG x ∧ ∀ k ∈ plG x, 0 ≤ k ∧ k ≤ (i : Int) - 1
theorem pzG_le {x : Gn} (h : x.k ≠ 13) : -1 ≤ pzG x ∧ pzG x ≤ 2 := by
  unfold pzG partsZ
  repeat' split
  all_goals first | omega | contradiction
theorem Sub.nilsF {k : IntKind} {l : List Int} (h : l = []) : Sub .nils (.fi k l) := by subst h; exact .nils_fi
theorem gparts_ok (x : Gn) (h : x.t.length ≤ 1048576) : AFunP Tryz.prog 54 [gnV x] (· = .tup [.fi .i64 (plG x), .pr (ppG x)]) := by
  have kp := parts_ok x.k x.n x.t (by omega)
  rw [show partsZ x.k x.n x.t = pzG x from rfl] at kp
  unfold gnV
  have no : ¬ ppG x → Sub (.bool false) (.pr (ppG x)) := fun h => .no h
  refine afun_of Tryz.func54 Tryz.call54 rfl Tryz.ntmps54 rfl ?_
  have W : Walk Tryz.prog TT 54 _ := Walk.of TT_ok Tryz.func54 Tryz.results54
  refine sp W 0 rfl rfl rfl (fun h1 => ?_) (fun h1 => ?_)
  · have e : plG x = [] := by unfold plG; rw [if_pos (.inl h1)]
    refine rp W 0 rfl rfl rfl (.tup ⟨.nilsF e, .no fun k => k.1 (.inl h1), trivial⟩)
  refine sp W 0 rfl rfl rfl (fun h2 => ?_) (fun h2 => ?_)
  · have e : plG x = [] := by unfold plG; rw [if_pos (.inr h2)]
    refine rp W 0 rfl rfl rfl (.tup ⟨.nilsF e, .no fun k => k.1 (.inr h2), trivial⟩)
  have h12 : ¬(x.k = 2 ∨ x.k = 13) := fun h => h.elim h1 h2
  refine ce W 0 rfl rfl (kp) rfl ?_
  refine sp W 0 rfl rfl rfl (fun h3 => ?_) (fun h3 => ?_)
  · have e : plG x = [] := by unfold plG; rw [if_neg h12, if_neg (by omega), if_neg (by omega)]
    by_cases ha : x.a = 0
    · refine dre W 0 9 [(25, true)] [] rfl rfl rfl trivial rfl ?_
      refine rp W 0 rfl rfl rfl (.tup ⟨.nilsF e, .pr ⟨fun k => ⟨h12, .inl ⟨h3, ha, k⟩⟩, fun k => by have := k.2; omega⟩, trivial⟩)
    · refine dre W 0 9 [(25, false)] [] rfl rfl rfl trivial rfl ?_
      refine rp W 0 rfl rfl rfl (.tup ⟨.nilsF e, .no fun k => by have := k.2; omega, trivial⟩)
  refine sp W 0 rfl rfl rfl (fun h4 => ?_) (fun h4 => ?_)
  · have e : plG x = [x.a] := by unfold plG; rw [if_neg h12, if_pos h4]
    refine phg W 0 7 [2] rfl rfl (fun PW => ?_)
    refine pho PW 0 2 [] [] rfl rfl trivial rfl rfl ?_
    refine phe PW 0 [] [] rfl trivial rfl ?_
    refine rp W 0 rfl rfl rfl (.tup ⟨.fi e.symm, .pr ⟨fun k => ⟨h12, .inr (.inl ⟨h4, k⟩)⟩, fun k => by have := k.2; omega⟩, trivial⟩)
  refine sp W 0 rfl rfl rfl (fun h5 => ?_) (fun h5 => ?_)
  · have e : plG x = [x.a, x.b] := by unfold plG; rw [if_neg h12, if_neg (by omega), if_pos h5]
    refine rp W 0 rfl rfl rfl (.tup ⟨.fi e.symm, .yes ⟨h12, .inr (.inr h5)⟩, trivial⟩)
  · have e : plG x = [] := by unfold plG; rw [if_neg h12, if_neg h4, if_neg h5]
    refine rp W 0 rfl rfl rfl (.tup ⟨.nilsF e, .no fun k => by have := k.2; omega, trivial⟩)
theorem okG_iff {x : Gn} {i : Nat} (h : ¬(x.k = 2 ∨ x.k = 13)) (h0 : 0 ≤ pzG x) : okG x i ↔ (0 < pzG x → 0 ≤ x.a ∧ x.a < i) ∧ (1 < pzG x → 0 ≤ x.b ∧ x.b < i) ∧ (pzG x < 1 → x.a = 0) ∧ (pzG x < 2 → x.b = 0) := by
  have h2 := pzG_le (x := x) fun k => h (.inr k)
  unfold okG ppG plG
  rw [if_neg h]
  rcases (show pzG x = 0 ∨ pzG x = 1 ∨ pzG x = 2 by omega) with e | e | e
  · rw [if_neg (by omega), if_neg (by omega)]
    simp only [List.not_mem_nil, false_imp_iff, implies_true, and_true]
    omega
  · rw [if_pos e]
    simp only [List.mem_singleton, forall_eq]
    omega
  · rw [if_neg (by omega), if_pos e]
    simp only [List.mem_cons, List.not_mem_nil, or_false, forall_eq_or_imp, forall_eq]
    omega
/-- May a node stand at a place? -/
def nodeP (v : Int) (l : List Gn) (i : Nat) : Prop := ((i : Int) < v → l.getD i g0 = ⟨2, 0, 0, i, []⟩) ∧ (¬(i : Int) < v → okG (l.getD i g0) i ∧ ∀ j, j < i → l.getD j g0 ≠ l.getD i g0)
theorem l15Node_ok (v : Int) (l : List Gn) (rs : List Gr) (i : Nat) (hi : i < l.length) (hl : l.length ≤ 1048576) (hx : gtxtOk l) : AFunP Tryz.prog 52 [graphV v l rs, .int .i64 i] (· = .pr (nodeP v l i)) := by
  have kp := l12Args_ok (l.getD i g0).k (l.getD i g0).n (l.getD i g0).t (by have := hx i hi; omega)
  rw [show partsZ (l.getD i g0).k (l.getD i g0).n (l.getD i g0).t = pzG (l.getD i g0) from rfl] at kp
  have ek : ∀ y z : Gn, ([Sum.inl y.k, Sum.inl y.a, Sum.inl y.b, Sum.inl y.n, Sum.inr y.t] : MKey) = [Sum.inl z.k, Sum.inl z.a, Sum.inl z.b, Sum.inl z.n, Sum.inr z.t] ↔ y = z := fun y z => by
    constructor
    · intro h
      simp only [List.cons.injEq, Sum.inl.injEq, Sum.inr.injEq, and_true] at h
      exact Gn.eq h.1 h.2.1 h.2.2.1 h.2.2.2.1 h.2.2.2.2
    · rintro rfl; rfl
  refine afun_of Tryz.func52 Tryz.call52 rfl Tryz.ntmps52 rfl ?_
  have W : Walk Tryz.prog TT 52 _ := Walk.of TT_ok Tryz.func52 Tryz.results52
  refine sp W 0 rfl rfl rfl (fun h1 => ?_) (fun h1 => ?_)
  · refine rp W 0 rfl rfl rfl (.pr ⟨fun k => ⟨fun _ => (ek (l.getD i g0) ⟨2, 0, 0, i, []⟩).1 k, fun h => absurd h1 h⟩, fun k => (ek (l.getD i g0) ⟨2, 0, 0, i, []⟩).2 (k.1 h1)⟩)
  · refine ce W 0 rfl rfl (kp) rfl ?_
    have hno : ¬ okG (l.getD i g0) i → ¬ nodeP v l i := fun h k => h (k.2 h1).1
    refine sp W 0 rfl rfl rfl (fun h2 => ?_) (fun h2 => ?_)
    · refine rp W 0 rfl rfl rfl (.no (hno fun k => by have := k.1.2; omega))
    refine sp W 0 rfl rfl rfl (fun h3 => ?_) (fun h3 => ?_)
    · refine rp W 0 rfl rfl rfl (.no (hno fun k => k.1.1 (.inl h3)))
    refine sp W 0 rfl rfl rfl (fun h4 => ?_) (fun h4 => ?_)
    · refine rp W 0 rfl rfl rfl (.no (hno fun k => k.1.1 (.inr h4)))
    have hle := pzG_le (x := l.getD i g0) h4
    have iN : ((i : Nat) : Int).toNat = i := Int.toNat_natCast i
    have hok := okG_iff (x := l.getD i g0) (i := i) (fun k => k.elim h3 h4) (show 0 ≤ pzG (l.getD i g0) by omega)
    refine sp W 0 rfl rfl rfl (fun a1 => ?_) (fun a1 => ?_)
    · refine sp W 0 rfl rfl rfl (fun a2 => ?_) (fun a2 => ?_)
      · refine rp W 0 rfl rfl rfl (.no (hno fun k => by have := (hok.1 k).1 a1; rw [iN] at a2; omega))
      refine sp W 0 rfl rfl rfl (fun a3 => ?_) (fun a3 => ?_)
      · refine rp W 0 rfl rfl rfl (.no (hno fun k => by have := (hok.1 k).1 a1; rw [iN] at a3; omega))
      refine sp W 0 rfl rfl rfl (fun a4 => ?_) (fun a4 => ?_)
      · refine sp W 0 rfl rfl rfl (fun a5 => ?_) (fun a5 => ?_)
        · refine rp W 0 rfl rfl rfl (.no (hno fun k => by have := (hok.1 k).2.1 a4; rw [iN] at a5; omega))
        refine sp W 0 rfl rfl rfl (fun a6 => ?_) (fun a6 => ?_)
        · refine rp W 0 rfl rfl rfl (.no (hno fun k => by have := (hok.1 k).2.1 a4; rw [iN] at a6; omega))
        refine sp W 0 rfl rfl rfl (fun a7 => ?_) (fun a7 => ?_)
        · exfalso; omega
        refine sp W 0 rfl rfl rfl (fun a8 => ?_) (fun a8 => ?_)
        · exfalso; omega
        have ho : okG (l.getD i g0) i := hok.2 ⟨fun _ => by rw [iN] at a2 a3; omega, fun _ => by rw [iN] at a5 a6; omega, fun _ => by omega, fun _ => by omega⟩
        refine atl W rfl ?_
        refine lp W 0 (σ := Nat) (fun j => [(1, .int .i64 i), (2, .ptr 0 0 0 0), (5, .ptr 1 0 0 0), (7, .int .i64 j)]) (fun _ => [.lst 0 [[.int .i64 v, .fz l.length (gnR l), .fz rs.length (grR rs)]], .lst 0 [[.int .i64 (l.getD i g0).k, .int .i64 (l.getD i g0).a, .int .i64 (l.getD i g0).b, .int .i64 (l.getD i g0).n, .str (l.getD i g0).t]]]) (fun j => i - j) (fun j => j ≤ i ∧ ∀ s, s < j → l.getD s g0 ≠ l.getD i g0) 0 [1, 2, 5, 7] rfl rfl rfl ⟨Nat.zero_le _, fun j hj => by omega⟩ ?_
        rintro j ⟨hj, he⟩ ih
        refine sp W 0 rfl rfl rfl (fun h5 => ?_) (fun h5 => ?_)
        · refine dre W 0 7 [] [] rfl rfl rfl trivial rfl ?_
          refine sp W 0 rfl rfl rfl (fun h6 => ?_) (fun h6 => ?_)
          · refine rp W 0 rfl rfl rfl (.no (fun k => (k.2 h1).2 j (by omega) ((ek (l.getD j g0) (l.getD i g0)).1 h6)))
          · refine bd W 0 2 [1, 2, 5, 7] rfl rfl rfl rfl rfl (ih (j + 1) ⟨by omega, fun s hs => ?_⟩ (by omega))
            by_cases hsj : s = j
            · subst hsj; exact fun e => h6 ((ek (l.getD s g0) (l.getD i g0)).2 e)
            · exact he s (by omega)
        · refine rp W 0 rfl rfl rfl (.yes ⟨fun h => absurd h h1, fun _ => ⟨ho, fun s hs => he s (by omega)⟩⟩)
      refine sp W 0 rfl rfl rfl (fun a7 => ?_) (fun a7 => ?_)
      · exfalso; omega
      refine sp W 0 rfl rfl rfl (fun a8 => ?_) (fun a8 => ?_)
      · refine sp W 0 rfl rfl rfl (fun a9 => ?_) (fun a9 => ?_)
        · refine rp W 0 rfl rfl rfl (.no (hno fun k => by have := (hok.1 k).2.2.2 a8; rw [iN] at a9; omega))
        have ho : okG (l.getD i g0) i := hok.2 ⟨fun _ => by rw [iN] at a2 a3; omega, fun _ => by omega, fun _ => by omega, fun _ => by rw [iN] at a9; omega⟩
        refine atl W rfl ?_
        refine lp W 0 (σ := Nat) (fun j => [(1, .int .i64 i), (2, .ptr 0 0 0 0), (5, .ptr 1 0 0 0), (7, .int .i64 j)]) (fun _ => [.lst 0 [[.int .i64 v, .fz l.length (gnR l), .fz rs.length (grR rs)]], .lst 0 [[.int .i64 (l.getD i g0).k, .int .i64 (l.getD i g0).a, .int .i64 (l.getD i g0).b, .int .i64 (l.getD i g0).n, .str (l.getD i g0).t]]]) (fun j => i - j) (fun j => j ≤ i ∧ ∀ s, s < j → l.getD s g0 ≠ l.getD i g0) 0 [1, 2, 5, 7] rfl rfl rfl ⟨Nat.zero_le _, fun j hj => by omega⟩ ?_
        rintro j ⟨hj, he⟩ ih
        refine sp W 0 rfl rfl rfl (fun h5 => ?_) (fun h5 => ?_)
        · refine dre W 0 7 [] [] rfl rfl rfl trivial rfl ?_
          refine sp W 0 rfl rfl rfl (fun h6 => ?_) (fun h6 => ?_)
          · refine rp W 0 rfl rfl rfl (.no (fun k => (k.2 h1).2 j (by omega) ((ek (l.getD j g0) (l.getD i g0)).1 h6)))
          · refine bd W 0 2 [1, 2, 5, 7] rfl rfl rfl rfl rfl (ih (j + 1) ⟨by omega, fun s hs => ?_⟩ (by omega))
            by_cases hsj : s = j
            · subst hsj; exact fun e => h6 ((ek (l.getD s g0) (l.getD i g0)).2 e)
            · exact he s (by omega)
        · refine rp W 0 rfl rfl rfl (.yes ⟨fun h => absurd h h1, fun _ => ⟨ho, fun s hs => he s (by omega)⟩⟩)
      exfalso; omega
    refine sp W 0 rfl rfl rfl (fun a4 => ?_) (fun a4 => ?_)
    · exfalso; omega
    refine sp W 0 rfl rfl rfl (fun a7 => ?_) (fun a7 => ?_)
    · refine sp W 0 rfl rfl rfl (fun a10 => ?_) (fun a10 => ?_)
      · refine rp W 0 rfl rfl rfl (.no (hno fun k => by have := (hok.1 k).2.2.1 a7; rw [iN] at a10; omega))
      refine sp W 0 rfl rfl rfl (fun a8 => ?_) (fun a8 => ?_)
      · refine sp W 0 rfl rfl rfl (fun a9 => ?_) (fun a9 => ?_)
        · refine rp W 0 rfl rfl rfl (.no (hno fun k => by have := (hok.1 k).2.2.2 a8; rw [iN] at a9; omega))
        have ho : okG (l.getD i g0) i := hok.2 ⟨fun _ => by omega, fun _ => by omega, fun _ => by rw [iN] at a10; omega, fun _ => by rw [iN] at a9; omega⟩
        refine atl W rfl ?_
        refine lp W 0 (σ := Nat) (fun j => [(1, .int .i64 i), (2, .ptr 0 0 0 0), (5, .ptr 1 0 0 0), (7, .int .i64 j)]) (fun _ => [.lst 0 [[.int .i64 v, .fz l.length (gnR l), .fz rs.length (grR rs)]], .lst 0 [[.int .i64 (l.getD i g0).k, .int .i64 (l.getD i g0).a, .int .i64 (l.getD i g0).b, .int .i64 (l.getD i g0).n, .str (l.getD i g0).t]]]) (fun j => i - j) (fun j => j ≤ i ∧ ∀ s, s < j → l.getD s g0 ≠ l.getD i g0) 0 [1, 2, 5, 7] rfl rfl rfl ⟨Nat.zero_le _, fun j hj => by omega⟩ ?_
        rintro j ⟨hj, he⟩ ih
        refine sp W 0 rfl rfl rfl (fun h5 => ?_) (fun h5 => ?_)
        · refine dre W 0 7 [] [] rfl rfl rfl trivial rfl ?_
          refine sp W 0 rfl rfl rfl (fun h6 => ?_) (fun h6 => ?_)
          · refine rp W 0 rfl rfl rfl (.no (fun k => (k.2 h1).2 j (by omega) ((ek (l.getD j g0) (l.getD i g0)).1 h6)))
          · refine bd W 0 2 [1, 2, 5, 7] rfl rfl rfl rfl rfl (ih (j + 1) ⟨by omega, fun s hs => ?_⟩ (by omega))
            by_cases hsj : s = j
            · subst hsj; exact fun e => h6 ((ek (l.getD s g0) (l.getD i g0)).2 e)
            · exact he s (by omega)
        · refine rp W 0 rfl rfl rfl (.yes ⟨fun h => absurd h h1, fun _ => ⟨ho, fun s hs => he s (by omega)⟩⟩)
      exfalso; omega
    exfalso; omega
def graphP (v : Int) (l : List Gn) (rs : List Gr) : Prop := ((1 ≤ v ∧ v ≤ 6) ∧ (v ≤ l.length ∧ l.length ≤ 120) ∧ (1 ≤ rs.length ∧ rs.length ≤ 12)) ∧ (∀ i, i < l.length → nodeP v l i) ∧ ∀ r ∈ rs, relP l.length r
end Pf
/- GraphOk: both sides and the law -/
namespace Pf
open Go Go.Proofs
theorem l13Kind_ok (k : Int) : AFunP Tryz.prog 53 [.int .i64 k] (· = .pr (1 ≤ k ∧ k ≤ 3)) := by
  refine afun_of Tryz.func53 Tryz.call53 rfl Tryz.ntmps53 rfl ?_
  have W : Walk Tryz.prog TT 53 _ := Walk.of TT_ok Tryz.func53 Tryz.results53
  refine sp W 0 rfl rfl rfl (fun h1 => ?_) (fun h1 => ?_)
  · refine rp W 0 rfl rfl rfl (.yes (by omega))
  refine sp W 0 rfl rfl rfl (fun h2 => ?_) (fun h2 => ?_)
  · refine rp W 0 rfl rfl rfl (.yes (by omega))
  · refine rp W 0 rfl rfl rfl (.pr (by omega))
theorem relP_of {n : Nat} {r : Gr} (h1 : 1 ≤ r.k ∧ r.k ≤ 3) (h2 : ¬ r.l < 0) (h3 : ¬ (n : Int) ≤ r.l) (h4 : ¬ r.r < 0) (h5 : ¬ (n : Int) ≤ r.r) : relP n r := ⟨h1, by omega, by omega⟩
theorem specGraphOk_ok (v : Int) (l : List Gn) (rs : List Gr) (hl : l.length ≤ 1048576) (hr : rs.length ≤ 1048576) (hx : gtxtOk l) : AFunP Tryz.prog 33 [graphV v l rs] (· = .pr (graphP v l rs)) := by
  refine afun_of Tryz.func33 Tryz.call33 rfl Tryz.ntmps33 rfl ?_
  have W : Walk Tryz.prog TT 33 _ := Walk.of TT_ok Tryz.func33 Tryz.results33
  refine sp W 0 rfl rfl rfl (fun h1 => ?_) (fun h1 => ?_)
  · refine rp W 0 rfl rfl rfl (.no (fun k => by have := k.1; omega))
  refine sp W 0 rfl rfl rfl (fun h2 => ?_) (fun h2 => ?_)
  · refine rp W 0 rfl rfl rfl (.no (fun k => by have := k.1; omega))
  refine sp W 0 rfl rfl rfl (fun h3 => ?_) (fun h3 => ?_)
  · refine rp W 0 rfl rfl rfl (.no (fun k => by have := k.1; omega))
  refine sp W 0 rfl rfl rfl (fun h4 => ?_) (fun h4 => ?_)
  · refine rp W 0 rfl rfl rfl (.no (fun k => by have := k.1; omega))
  refine sp W 0 rfl rfl rfl (fun h5 => ?_) (fun h5 => ?_)
  · refine rp W 0 rfl rfl rfl (.no (fun k => by have := k.1; omega))
  refine sp W 0 rfl rfl rfl (fun h6 => ?_) (fun h6 => ?_)
  · refine rp W 0 rfl rfl rfl (.no (fun k => by have := k.1; omega))
  refine lp W 0 (σ := Nat) (fun i => [(1, .ptr 0 0 0 0), (3, .int .i64 i)]) (fun _ => [.lst 0 [[.int .i64 v, .fz l.length (gnR l), .fz rs.length (grR rs)]]]) (fun i => l.length - i) (fun i => i ≤ l.length ∧ ∀ s, s < i → nodeP v l s) 0 [1, 3] rfl rfl rfl ⟨Nat.zero_le _, fun j hj => by omega⟩ ?_
  rintro i ⟨hi, he⟩ ih
  refine sp W 0 rfl rfl rfl (fun a1 => ?_) (fun a1 => ?_)
  · have a1 : i < l.length := by omega
    have kn := l15Node_ok v l rs i a1 hl hx
    refine ce W 0 rfl rfl (kn) rfl ?_
    refine sp W 0 rfl rfl rfl (fun a2 => ?_) (fun a2 => ?_)
    · refine rp W 0 rfl rfl rfl (.no (fun k => a2 (k.2.1 i a1)))
    · refine bd W 0 1 [1, 3] rfl rfl rfl rfl rfl (ih (i + 1) ⟨by omega, fun s hs => ?_⟩ (by omega))
      by_cases hsi : s = i
      · subst hsi; exact Classical.not_not.1 a2
      · exact he s (by omega)
  · have hn : ∀ i, i < l.length → nodeP v l i := fun s hs => he s (by omega)
    refine lp W 0 (σ := Nat) (fun i => [(1, .ptr 0 0 0 0), (4, .int .i64 i)]) (fun _ => [.lst 0 [[.int .i64 v, .fz l.length (gnR l), .fz rs.length (grR rs)]]]) (fun i => rs.length - i) (fun i => i ≤ rs.length ∧ ∀ s, s < i → relP l.length (rs.getD s r0)) 0 [1, 4] rfl rfl rfl ⟨Nat.zero_le _, fun j hj => by omega⟩ ?_
    rintro j ⟨hj, hej⟩ ihj
    refine sp W 0 rfl rfl rfl (fun b1 => ?_) (fun b1 => ?_)
    · have b1 : j < rs.length := by omega
      have kk := l13Kind_ok (rs.getD j r0).k
      have no : ¬ relP l.length (rs.getD j r0) → ¬ graphP v l rs := fun h k => h (k.2.2 _ (getD_in b1))
      refine ce W 0 rfl rfl (kk) rfl ?_
      have iN : ((j : Nat) : Int).toNat = j := Int.toNat_natCast j
      refine sp W 0 rfl rfl rfl (fun b2 => ?_) (fun b2 => ?_)
      · refine rp W 0 rfl rfl rfl (.no (no fun k => b2 k.1))
      have b2 := Classical.not_not.1 b2
      refine sp W 0 rfl rfl rfl (fun b3 => ?_) (fun b3 => ?_)
      · refine rp W 0 rfl rfl rfl (.no (no fun k => by have := k.2.1; rw [iN] at b3; omega))
      refine sp W 0 rfl rfl rfl (fun b4 => ?_) (fun b4 => ?_)
      · refine rp W 0 rfl rfl rfl (.no (no fun k => by have := k.2.1; rw [iN] at b4; omega))
      refine sp W 0 rfl rfl rfl (fun b5 => ?_) (fun b5 => ?_)
      · refine rp W 0 rfl rfl rfl (.no (no fun k => by have := k.2.2; rw [iN] at b5; omega))
      refine sp W 0 rfl rfl rfl (fun b6 => ?_) (fun b6 => ?_)
      · refine rp W 0 rfl rfl rfl (.no (no fun k => by have := k.2.2; rw [iN] at b6; omega))
      rw [iN] at b3 b4 b5 b6
      refine bd W 0 1 [1, 4] rfl rfl rfl rfl rfl (ihj (j + 1) ⟨by omega, fun s hs => ?_⟩ (by omega))
      by_cases hsj : s = j
      · subst hsj; exact relP_of b2 b3 b4 b5 b6
      · exact hej s (by omega)
    · refine rp W 0 rfl rfl rfl (.yes ⟨by omega, hn, getD_all fun s hs => hej s (by omega)⟩)
/-- A node as a key. -/
abbrev gk (x : Gn) : MKey := [.inl x.k, .inl x.a, .inl x.b, .inl x.n, .inr x.t]
theorem gk_inj {x y : Gn} (h : gk x = gk y) : x = y := by
  simp only [gk, List.cons.injEq, Sum.inl.injEq, Sum.inr.injEq, and_true] at h
  exact Gn.eq h.1 h.2.1 h.2.2.1 h.2.2.2.1 h.2.2.2.2
/-- The nodes met. -/
def mps (m : List Gn) : List (MKey × Int) := m.map fun y => (gk y, 1)
theorem mget_mps {x : Gn} : ∀ {m : List Gn}, mget (mps m) (gk x) ≠ 0 ↔ x ∈ m
  | [] => by simp [mps, mget]
  | y :: m => by
    have ih := mget_mps (x := x) (m := m)
    simp only [mps, List.map_cons, mget, List.mem_cons] at ih ⊢
    by_cases h : gk x = gk y
    · rw [if_pos h]
      exact ⟨fun _ => .inl (gk_inj h), fun _ => by decide⟩
    · rw [if_neg h, ih]
      exact ⟨.inr, fun q => q.resolve_left fun e => h (by rw [e])⟩
theorem mput_mps {x : Gn} : ∀ {m : List Gn}, x ∉ m → mput (mps m) (gk x) 1 = mps (m ++ [x])
  | [], _ => rfl
  | y :: m, hx => by
    have ih := mput_mps (x := x) (m := m) fun h => hx (List.mem_cons_of_mem _ h)
    simp only [mps, List.map_cons, List.cons_append, mput] at ih ⊢
    rw [if_neg fun h => hx (by rw [gk_inj h]; exact List.mem_cons_self ..), ih]
theorem fresh_node {v : Int} {l : List Gn} {i : Nat} (h : nodeP v l i) (he : ∀ s, s < i → nodeP v l s) : l.getD i g0 ∉ l.take i := by
  intro hm
  obtain ⟨s, hs, e⟩ := List.getElem_of_mem hm
  have hsi : s < i := by rw [List.length_take] at hs; omega
  have hsl : s < l.length := by rw [List.length_take] at hs; omega
  have e' : l.getD s g0 = l.getD i g0 := by
    rw [← e]
    simp [List.getD_eq_getElem?_getD, hsl]
  by_cases hv : (i : Int) < v
  · have h1 := h.1 hv
    have h2 := (he s hsi).1 (by omega)
    rw [h1, h2] at e'
    have := congrArg Gn.n e'
    simp only at this
    omega
  · exact (h.2 hv).2 s hsi e'
theorem take_mem {l : List Gn} {s i : Nat} (h : s < i) (hi : i < l.length) : l.getD s g0 ∈ l.take i := by
  have : s < (l.take i).length := by rw [List.length_take]; omega
  rw [List.getD_eq_getElem?_getD, List.getElem?_eq_getElem (by omega), Option.getD_some, ← List.getElem_take (h := this)]
  exact List.getElem_mem this
theorem plG_len (x : Gn) : (plG x).length ≤ 2 := by
  unfold plG
  split
  · simp
  · split
    · simp
    · split <;> simp
theorem implGraphOk_ok (v : Int) (l : List Gn) (rs : List Gr) (hl : l.length ≤ 1048576) (hr : rs.length ≤ 1048576) (hx : gtxtOk l) : AFunP Tryz.prog 35 [graphV v l rs] (· = .pr (graphP v l rs)) := by
  have k1 := in_ok v 1 6
  have k2 := in_ok l.length v 120
  have k3 := in_ok rs.length 1 12
  refine afun_of Tryz.func35 Tryz.call35 rfl Tryz.ntmps35 rfl ?_
  have W : Walk Tryz.prog TT 35 _ := Walk.of TT_ok Tryz.func35 Tryz.results35
  refine ce W 0 rfl rfl (k1) rfl ?_
  refine sp W 0 rfl rfl rfl (fun h1 => ?_) (fun h1 => ?_)
  · refine rp W 0 rfl rfl rfl (.no (fun k => h1 k.1.1))
  have h1 := Classical.not_not.1 h1
  refine ce W 0 rfl rfl (k2) rfl ?_
  refine sp W 0 rfl rfl rfl (fun h2 => ?_) (fun h2 => ?_)
  · refine rp W 0 rfl rfl rfl (.no (fun k => by have := k.1.2.1; omega))
  refine ce W 0 rfl rfl (k3) rfl ?_
  refine sp W 0 rfl rfl rfl (fun h3 => ?_) (fun h3 => ?_)
  · refine rp W 0 rfl rfl rfl (.no (fun k => by have := k.1.2.2; omega))
  refine lp W 0 (σ := Nat) (fun i => [(1, .ptr 0 0 0 0), (3, .mp 1), (30, .fz l.length (gnR l)), (31, .int .i64 l.length), (32, .int .i64 i)]) (fun i => [.lst 0 [[.int .i64 v, .fz l.length (gnR l), .fz rs.length (grR rs)]], .mp true (some [false, false, false, false, true]) (mps (l.take i))]) (fun i => l.length - i) (fun i => i ≤ l.length ∧ ∀ s, s < i → nodeP v l s) 0 [1, 3, 30, 31, 32] rfl rfl rfl ⟨Nat.zero_le _, fun j hj => by omega⟩ ?_
  rintro i ⟨hi, he⟩ ih
  refine sp W 0 rfl rfl rfl (fun a1 => ?_) (fun a1 => ?_)
  · have a1 : i < l.length := by omega
    have iN : ((i : Nat) : Int).toNat = i := Int.toNat_natCast i
    have hfr : nodeP v l i → l.getD i g0 ∉ l.take i := fun h => fresh_node h he
    refine sp W 0 rfl rfl rfl (fun a2 => ?_) (fun a2 => ?_)
    · refine rp W 0 rfl rfl rfl (.no (fun k => hfr (k.2.1 i a1) (mget_mps.1 a2)))
    have a2 : l.getD i g0 ∉ l.take i := fun h => a2 (mget_mps.2 h)
    have em : mput (mps (l.take i)) (gk (l.getD i g0)) 1 = mps (l.take (i + 1)) := by
      rw [mput_mps a2]
      congr 1
      rw [← List.take_append_getElem a1]
      simp [List.getD_eq_getElem?_getD, a1]
    rw [iN]
    refine sp W 0 rfl rfl rfl (fun a3 => ?_) (fun a3 => ?_)
    · rw [em]
      refine sp W 0 rfl rfl rfl (fun a4 => ?_) (fun a4 => ?_)
      · refine rp W 0 rfl rfl rfl (.no (fun k => a4 (by have := (k.2.1 i a1).1 a3; rw [this])))
      have a4 : l.getD i g0 = ⟨2, 0, 0, i, []⟩ := gk_inj (y := ⟨2, 0, 0, i, []⟩) (Classical.not_not.1 a4)
      refine bd W 0 2 [1, 3, 30, 31, 32] rfl rfl rfl rfl rfl (ih (i + 1) ⟨by omega, fun s hs => ?_⟩ (by omega))
      by_cases hsi : s = i
      · subst hsi; exact ⟨fun _ => a4, fun h => absurd a3 h⟩
      · exact he s (by omega)
    rw [em]
    refine ce W 0 rfl rfl (gparts_ok (l.getD i g0) (hx i a1)) rfl ?_
    refine sp W 0 rfl rfl rfl (fun a5 => ?_) (fun a5 => ?_)
    · refine rp W 0 rfl rfl rfl (.no (fun k => a5 ((k.2.1 i a1).2 a3).1.1))
    have a5 := Classical.not_not.1 a5
    have hpl : (plG (l.getD i g0)).length ≤ 1048576 := by have := plG_len (l.getD i g0); omega
    refine cb W 0 rfl rfl rfl rfl (containsIntG_ok i ⟨by omega, by omega⟩ (plG (l.getD i g0)) hpl) rfl ?_
    refine sp W 0 rfl rfl rfl (fun a6 => ?_) (fun a6 => ?_)
    · obtain ⟨k, hk1, hk2⟩ := a6
      refine rp W 0 rfl rfl rfl (.no (fun k' => hk2 (((k'.2.1 i a1).2 a3).1.2 k hk1)))
    have hn : nodeP v l i := ⟨fun h => absurd h a3, fun _ => ⟨⟨a5, fun k hk => Classical.byContradiction fun h => a6 ⟨k, hk, h⟩⟩, fun s hs e => a2 (by rw [← e]; exact take_mem hs a1)⟩⟩
    refine bd W 0 2 [1, 3, 30, 31, 32] rfl rfl rfl rfl rfl (ih (i + 1) ⟨by omega, fun s hs => ?_⟩ (by omega))
    by_cases hsi : s = i
    · subst hsi; exact hn
    · exact he s (by omega)
  · have hn : ∀ i, i < l.length → nodeP v l i := fun s hs => he s (by omega)
    refine cb W 0 rfl rfl rfl rfl (containsRel_ok v l rs hl hr) rfl ?_
    refine rp W 0 rfl rfl rfl (.pr ⟨fun k => ⟨by omega, hn, fun r hr => Classical.byContradiction fun h => k ⟨r, hr, h⟩⟩, fun k ⟨r, hr, h⟩ => h (k.2.2 r hr)⟩)
end Pf
/- SlopeSmooth: both sides and the law -/
namespace Pf
open Go Go.Proofs
/-- The nodes that a node is made of. -/
inductive reachG (v : Int) (l : List Gn) (a : Nat) : Nat → Prop
  | start : reachG v l a a
  | step {i : Nat} {k : Int} (h : reachG v l a i) (hv : ¬(i : Int) < v) (hk : k ∈ plG (l.getD i g0)) : reachG v l a k.toNat
theorem reach_le {v : Int} {l : List Gn} {a : Nat} (hn : ∀ i, i < l.length → nodeP v l i) (ha : a < l.length) {i : Nat} (h : reachG v l a i) : i ≤ a := by
  induction h with
  | start => exact Nat.le_refl _
  | step h hv hk ih =>
    have := ((hn _ (by omega)).2 hv).1.2 _ hk
    omega
/-- What is marked when the nodes above i are done. -/
structure Mark (v : Int) (l : List Gn) (a : Nat) (i : Int) (F : Nat → Prop) : Prop where
  sub : ∀ j, F j → reachG v l a j
  top : F a
  done : ∀ (s : Nat), i < (s : Int) → F s → ¬(s : Int) < v → ∀ k ∈ plG (l.getD s g0), F k.toNat
theorem Mark.all {v : Int} {l : List Gn} {a : Nat} {i : Int} {F : Nat → Prop} (h : Mark v l a i F) (hi : i < v) (h0 : i < 0 ∨ 0 ≤ v) : F = reachG v l a := by
  funext j
  refine propext ⟨h.sub j, fun hr => ?_⟩
  induction hr with
  | start => exact h.top
  | step _ hv hk ih => exact h.done _ (by omega) ih hv _ hk
/-- A node that is not marked, or no node made of others, is done. -/
theorem Mark.skip {v : Int} {l : List Gn} {a : Nat} {i : Int} {F : Nat → Prop} (h : Mark v l a i F) (h0 : 0 ≤ i) (hs : F i.toNat → ¬ i < v → ∀ k ∈ plG (l.getD i.toNat g0), F k.toNat) : Mark v l a (i - 1) F :=
  ⟨h.sub, h.top, fun s h1 h2 h3 k hk => by
    by_cases e : (s : Int) = i
    · have e' : s = i.toNat := by omega
      subst e'
      exact hs h2 (by omega) k hk
    · exact h.done s (by omega) h2 h3 k hk⟩
/-- Its parts are marked. -/
theorem Mark.add {v : Int} {l : List Gn} {a : Nat} {i : Int} {F F' : Nat → Prop} (h : Mark v l a i F) (h0 : 0 ≤ i) (hF : F i.toNat) (hv : ¬ i < v) (hlt : ∀ k ∈ plG (l.getD i.toNat g0), 0 ≤ k ∧ k < i)
    (h' : ∀ j, F' j ↔ F j ∨ ∃ k ∈ plG (l.getD i.toNat g0), k.toNat = j) : Mark v l a (i - 1) F' :=
  ⟨fun j hj => by
    rcases (h' j).1 hj with hj | ⟨k, hk, rfl⟩
    · exact h.sub j hj
    · exact .step (h.sub _ hF) (by omega) hk, (h' a).2 (.inl h.top), fun s h1 h2 h3 k hk => by
    by_cases e : (s : Int) = i
    · have e' : s = i.toNat := by omega
      subst e'
      exact (h' _).2 (.inr ⟨k, hk, rfl⟩)
    · rcases (h' s).1 h2 with hs | ⟨k', hk', e2⟩
      · exact (h' _).2 (.inl (h.done s (by omega) hs h3 k hk))
      · have := hlt k' hk'
        omega⟩
theorem Mark.start {v : Int} {l : List Gn} {a : Nat} {i : Int} (h : (a : Int) ≤ i) {F : Nat → Prop} (hF : ∀ j, F j ↔ j = a) : Mark v l a i F :=
  ⟨fun j hj => by rw [(hF j).1 hj]; exact .start, (hF a).2 rfl, fun s h1 h2 => by have := (hF s).1 h2; omega⟩
theorem node_parts {v : Int} {l : List Gn} {i : Nat} (h : nodeP v l i) (hv : ¬(i : Int) < v) : (0 ≤ pzG (l.getD i g0) ∧ pzG (l.getD i g0) ≤ 2) ∧ (pzG (l.getD i g0) = 0 → plG (l.getD i g0) = []) ∧ (pzG (l.getD i g0) = 1 → plG (l.getD i g0) = [(l.getD i g0).a]) ∧ (pzG (l.getD i g0) = 2 → plG (l.getD i g0) = [(l.getD i g0).a, (l.getD i g0).b]) ∧ ∀ k ∈ plG (l.getD i g0), 0 ≤ k ∧ k < i := by
  obtain ⟨⟨h1, h2⟩, h3⟩ := (h.2 hv).1
  have hk : (l.getD i g0).k ≠ 13 := fun e => h1 (.inr e)
  have hle := pzG_le hk
  refine ⟨⟨by omega, hle.2⟩, fun e => ?_, fun e => ?_, fun e => ?_, fun k hk => by have := h3 k hk; omega⟩
  · unfold plG; rw [if_neg h1, if_neg (by omega), if_neg (by omega)]
  · unfold plG; rw [if_neg h1, if_pos e]
  · unfold plG; rw [if_neg h1, if_neg (by omega), if_pos e]
theorem mark2 (F : Nat → Prop) (a b : Int) (j : Nat) : (if j = b.toNat then true = true else if j = a.toNat then true = true else F j) ↔ F j ∨ ∃ k ∈ [a, b], k.toNat = j := by
  by_cases e1 : j = b.toNat
  · rw [if_pos e1]
    exact ⟨fun _ => .inr ⟨b, by simp, e1.symm⟩, fun _ => rfl⟩
  · rw [if_neg e1]
    by_cases e2 : j = a.toNat
    · rw [if_pos e2]
      exact ⟨fun _ => .inr ⟨a, by simp, e2.symm⟩, fun _ => rfl⟩
    · rw [if_neg e2]
      refine ⟨.inl, fun h => h.resolve_right ?_⟩
      rintro ⟨k, hk, e⟩
      simp only [List.mem_cons, List.not_mem_nil, or_false] at hk
      rcases hk with rfl | rfl
      · exact e2 e.symm
      · exact e1 e.symm
theorem needs_ok (v : Int) (l : List Gn) (rs : List Gr) (a : Nat) (ha : a < l.length) (hl : l.length ≤ 1048576) (hx : gtxtOk l) (hv0 : 1 ≤ v) (hn : ∀ i, i < l.length → nodeP v l i) : AFunP Tryz.prog 43 [graphV v l rs, .int .i64 a] (· = .fz l.length fun j => [.pr (reachG v l a j)]) := by
  refine afun_of Tryz.func43 Tryz.call43 rfl Tryz.ntmps43 rfl ?_
  have W : Walk Tryz.prog TT 43 _ := Walk.of TT_ok Tryz.func43 Tryz.results43
  refine lp W 0 (σ := Int × (Nat → Prop)) (fun s => [(2, .ptr 0 0 0 0), (5, .sl 1 0 0 l.length), (6, .int .i64 s.1)]) (fun s => [.lst 0 [[.int .i64 v, .fz l.length (gnR l), .fz rs.length (grR rs)]], .tab 0 l.length fun j => [.pr (s.2 j)]]) (fun s => (s.1 + 1).toNat) (fun s => (-1 ≤ s.1 ∧ s.1 ≤ a) ∧ Mark v l a s.1 s.2) ((a : Int), fun j => if j = a then true = true else false = true) [2, 5, 6] rfl rfl rfl ⟨⟨by dsimp only; omega, by dsimp only; omega⟩, Mark.start (Int.le_refl _) fun j => by by_cases h : j = a <;> simp [h]⟩ ?_
  rintro ⟨i, F⟩ ⟨⟨hi0, hi⟩, hm⟩ ih
  dsimp only at hi0 hi hm ih ⊢
  refine sp W 0 rfl rfl rfl (fun h1 => ?_) (fun h1 => ?_)
  · obtain ⟨m, rfl⟩ : ∃ m : Nat, i = m := ⟨i.toNat, by omega⟩
    have mN : ((m : Nat) : Int).toNat = m := Int.toNat_natCast m
    have kp := l12Args_ok (l.getD m g0).k (l.getD m g0).n (l.getD m g0).t (by have := hx m (by omega); omega)
    rw [show partsZ (l.getD m g0).k (l.getD m g0).n (l.getD m g0).t = pzG (l.getD m g0) from rfl] at kp
    have eN : addN 0 ((m : Nat) : Int).toNat = m := by rw [mN]; cases m <;> rfl
    refine sp W 0 rfl rfl rfl (fun h2 => ?_) (fun h2 => ?_)
    · have h2' : ¬ F m := by rw [eN] at h2; exact h2
      refine bd W 0 2 [2, 5, 6] rfl rfl rfl rfl rfl (ih ((m : Int) - 1, F) ⟨⟨by dsimp only; omega, by dsimp only; omega⟩, hm.skip (by omega) fun h => absurd h h2'⟩ (by dsimp only; omega))
    have h2' : F m := by rw [eN] at h2; exact Classical.not_not.1 h2
    refine ce W 0 rfl rfl (kp) rfl ?_
    rw [mN]
    refine sp W 0 rfl rfl rfl (fun h3 => ?_) (fun h3 => ?_)
    · have hv : ¬ (m : Int) < v := by omega
      obtain ⟨hz, q0, q1, q2, hlt⟩ := node_parts (hn m (by omega)) hv
      refine sp W 0 rfl rfl rfl (fun h4 => ?_) (fun h4 => ?_)
      · have hA : 0 ≤ (l.getD m g0).a ∧ (l.getD m g0).a < m := by
          rcases (show pzG (l.getD m g0) = 1 ∨ pzG (l.getD m g0) = 2 by omega) with e | e
          · exact hlt _ (by rw [q1 e]; simp)
          · exact hlt _ (by rw [q2 e]; simp)
        have eA : addN 0 (l.getD m g0).a.toNat = (l.getD m g0).a.toNat := by cases (l.getD m g0).a.toNat <;> rfl
        refine sp W 0 rfl rfl rfl (fun h5 => ?_) (fun h5 => ?_)
        · refine sp W 0 rfl rfl rfl (fun h6 => ?_) (fun h6 => ?_)
          · have e : pzG (l.getD m g0) = 2 := by omega
            have hB : 0 ≤ (l.getD m g0).b ∧ (l.getD m g0).b < m := hlt _ (by rw [q2 e]; simp)
            have eB : addN 0 (l.getD m g0).b.toNat = (l.getD m g0).b.toNat := by cases (l.getD m g0).b.toNat <;> rfl
            refine bd W 0 2 [2, 5, 6] rfl rfl rfl rfl rfl (ih ((m : Int) - 1, fun j => if j = addN 0 (l.getD m g0).b.toNat then true = true else if j = addN 0 (l.getD m g0).a.toNat then true = true else F j) ⟨⟨by dsimp only; omega, by dsimp only; omega⟩, hm.add (by omega) h2' hv hlt fun j => ?_⟩ (by dsimp only; omega))
            rw [mN, q2 e, eA, eB]
            exact mark2 F _ _ j
          · have e : pzG (l.getD m g0) = 1 := by omega
            refine bd W 0 2 [2, 5, 6] rfl rfl rfl rfl rfl (ih ((m : Int) - 1, fun j => if j = addN 0 (l.getD m g0).a.toNat then true = true else F j) ⟨⟨by dsimp only; omega, by dsimp only; omega⟩, hm.add (by omega) h2' hv hlt fun j => ?_⟩ (by dsimp only; omega))
            rw [mN, q1 e, eA]
            by_cases e2 : j = (l.getD m g0).a.toNat
            · simp [e2]
            · simp only [e2, if_false, List.mem_singleton, exists_eq_left]
              exact ⟨.inl, fun h => h.resolve_right fun h => e2 h.symm⟩
        · exfalso; omega
      · have e : pzG (l.getD m g0) = 0 := by omega
        refine sp W 0 rfl rfl rfl (fun h5 => ?_) (fun h5 => ?_)
        · refine sp W 0 rfl rfl rfl (fun h6 => ?_) (fun h6 => ?_)
          · exfalso; omega
          · refine bd W 0 2 [2, 5, 6] rfl rfl rfl rfl rfl (ih ((m : Int) - 1, F) ⟨⟨by dsimp only; omega, by dsimp only; omega⟩, hm.skip (by omega) fun _ _ k hk => by rw [mN, q0 e] at hk; simp at hk⟩ (by dsimp only; omega))
        · exfalso; omega
    · refine sp W 0 rfl rfl rfl (fun h5 => ?_) (fun h5 => ?_)
      · exfalso; omega
      · refine bd W 0 2 [2, 5, 6] rfl rfl rfl rfl rfl (ih ((m : Int) - 1, F) ⟨⟨by dsimp only; omega, by dsimp only; omega⟩, hm.skip (by omega) fun _ h => absurd (by omega) h⟩ (by dsimp only; omega))
  · have hF := hm.all (by omega) (.inl (by omega))
    refine rp W 0 rfl rfl rfl (.fzn rfl fun j _ => ?_)
    show [AV.pr (F j)] = [AV.pr (reachG v l a j)]
    rw [hF]
theorem madeOf_ok (v : Int) (l : List Gn) (rs : List Gr) (a : Nat) (ha : a < l.length) (hl : l.length ≤ 1048576) (hx : gtxtOk l) (hv0 : 1 ≤ v) (hn : ∀ i, i < l.length → nodeP v l i) : AFunP Tryz.prog 47 [graphV v l rs, .fi .i64 [(a : Int)]] (· = .fz l.length fun j => [.pr (reachG v l a j)]) := by
  refine afun_of Tryz.func47 Tryz.call47 rfl Tryz.ntmps47 rfl ?_
  have W : Walk Tryz.prog TT 47 _ := Walk.of TT_ok Tryz.func47 Tryz.results47
  refine lp W 0 (σ := Nat) (fun k => [(2, .ptr 0 0 0 0), (5, .sl 1 0 0 l.length), (17, .fi .i64 [(a : Int)]), (18, .int .i64 1), (19, .int .i64 k)]) (fun k => [.lst 0 [[.int .i64 v, .fz l.length (gnR l), .fz rs.length (grR rs)]], match k with | 0 => .tab 0 l.length fun _ => [.bool false] | _ + 1 => .tab 0 l.length fun j => [.pr (if j = a then true = true else false = true)]]) (fun k => 1 - k) (fun k => k ≤ 1) 0 [2, 5, 17, 18, 19] rfl rfl rfl (Nat.zero_le _) ?_
  intro k hk ih
  rcases (show k = 0 ∨ k = 1 by omega) with rfl | rfl
  · refine sp W 0 rfl rfl rfl (fun h1 => ?_) (fun h1 => ?_)
    · refine bd W 0 2 [2, 5, 17, 18, 19] rfl rfl rfl rfl rfl (ih 1 (Nat.le_refl _) (by omega))
    · exfalso; omega
  refine sp W 0 rfl rfl rfl (fun h1 => ?_) (fun h1 => ?_)
  · exfalso; omega
  refine lp W 0 (σ := Int × (Nat → Prop)) (fun s => [(2, .ptr 0 0 0 0), (5, .sl 1 0 0 l.length), (8, .int .i64 s.1)]) (fun s => [.lst 0 [[.int .i64 v, .fz l.length (gnR l), .fz rs.length (grR rs)]], .tab 0 l.length fun j => [.pr (s.2 j)]]) (fun s => (s.1 + 1).toNat) (fun s => (-1 ≤ s.1 ∧ s.1 < l.length) ∧ Mark v l a s.1 s.2) ((l.length : Int) - 1, fun j => if j = a then true = true else false = true) [2, 5, 8] rfl rfl rfl ⟨⟨by dsimp only; omega, by dsimp only; omega⟩, Mark.start (by dsimp only; omega) fun j => by by_cases h : j = a <;> simp [h]⟩ ?_
  rintro ⟨i, F⟩ ⟨⟨hi0, hi⟩, hm⟩ ih
  dsimp only at hi0 hi hm ih ⊢
  refine sp W 0 rfl rfl rfl (fun h1 => ?_) (fun h1 => ?_)
  · obtain ⟨m, rfl⟩ : ∃ m : Nat, i = m := ⟨i.toNat, by omega⟩
    have mN : ((m : Nat) : Int).toNat = m := Int.toNat_natCast m
    have hmn : m < l.length := by omega
    have hv : ¬ (m : Int) < v := by omega
    obtain ⟨hz, q0, q1, q2, hlt⟩ := node_parts (hn m hmn) hv
    have eN : addN 0 ((m : Nat) : Int).toNat = m := by rw [mN]; cases m <;> rfl
    refine ce W 0 rfl rfl (gparts_ok (l.getD m g0) (hx m hmn)) rfl ?_
    refine sp W 0 rfl rfl rfl (fun h2 => ?_) (fun h2 => ?_)
    · have h2' : F m := by rw [eN] at h2; exact h2
      have hL : (plG (l.getD m g0)).length ≤ 2 := plG_len _
      generalize hLe : plG (l.getD m g0) = L at *
      refine lp W 0 (σ := Nat × (Nat → Prop)) (fun s => [(2, .ptr 0 0 0 0), (5, .sl 1 0 0 l.length), (8, .int .i64 (m : Nat)), (50, .fi .i64 L), (51, .int .i64 L.length), (52, .int .i64 s.1)]) (fun s => [.lst 0 [[.int .i64 v, .fz l.length (gnR l), .fz rs.length (grR rs)]], .tab 0 l.length fun j => [.pr (s.2 j)]]) (fun s => L.length - s.1) (fun s => s.1 ≤ L.length ∧ ∀ j, s.2 j ↔ F j ∨ ∃ k ∈ L.take s.1, k.toNat = j) (0, F) [2, 5, 8, 50, 51, 52] rfl rfl rfl ⟨Nat.zero_le _, fun j => by simp⟩ ?_
      rintro ⟨s, G⟩ ⟨hs, hG⟩ ih2
      dsimp only at hs hG ih2 ⊢
      refine sp W 0 rfl rfl rfl (fun b1 => ?_) (fun b1 => ?_)
      · have b1 : s < L.length := by omega
        have hk := hlt (L.getD s 0) (getD_in b1)
        have sN : ((s : Nat) : Int).toNat = s := Int.toNat_natCast s
        have eK : addN 0 (L.getD s 0).toNat = (L.getD s 0).toNat := by cases (L.getD s 0).toNat <;> rfl
        refine bd W 0 2 [2, 5, 8, 50, 51, 52] rfl rfl rfl rfl rfl (ih2 (s + 1, fun j => if j = addN 0 (L.getD s 0).toNat then true = true else G j) ⟨by dsimp only; omega, fun j => ?_⟩ (by dsimp only; omega))
        dsimp only
        rw [eK]
        have et : L.take (s + 1) = L.take s ++ [L.getD s 0] := by
          rw [← List.take_append_getElem b1]
          simp [List.getD_eq_getElem?_getD, b1]
        rw [et]
        by_cases e : j = (L.getD s 0).toNat
        · rw [if_pos e]
          exact ⟨fun _ => .inr ⟨L.getD s 0, by simp, e.symm⟩, fun _ => rfl⟩
        · rw [if_neg e, hG j]
          constructor
          · rintro (h | ⟨k, hk, h⟩)
            · exact .inl h
            · exact .inr ⟨k, List.mem_append_left _ hk, h⟩
          · rintro (h | ⟨k, hk, h⟩)
            · exact .inl h
            · rcases List.mem_append.1 hk with hk | hk
              · exact .inr ⟨k, hk, h⟩
              · rw [List.mem_singleton.1 hk] at h
                exact absurd h.symm e
      · have hsL : s = L.length := by omega
        subst hsL
        rw [List.take_length] at hG
        refine bd W 0 2 [2, 5, 8] rfl rfl rfl rfl rfl (ih ((m : Int) - 1, G) ⟨⟨by dsimp only; omega, by dsimp only; omega⟩, hm.add (by omega) h2' hv (by rw [mN, hLe]; exact hlt) (by rw [mN, hLe]; exact hG)⟩ (by dsimp only; omega))
    · have h2' : ¬ F m := by rw [eN] at h2; exact h2
      refine bd W 0 2 [2, 5, 8] rfl rfl rfl rfl rfl (ih ((m : Int) - 1, F) ⟨⟨by dsimp only; omega, by dsimp only; omega⟩, hm.skip (by omega) fun h => absurd h h2'⟩ (by dsimp only; omega))
  · have hF := hm.all (by omega) (.inr (by omega))
    refine rp W 0 rfl rfl rfl (.fzn rfl fun j _ => ?_)
    show [AV.pr (F j)] = [AV.pr (reachG v l a j)]
    rw [hF]
/-- A node made of smooth ones. -/
def smoothP (v : Int) (l : List Gn) (a : Nat) : Prop := ∀ i, reachG v l a i → ¬((l.getD i g0).k = 10 ∨ (l.getD i g0).k = 11 ∨ (l.getD i g0).k = 12)
def slopeP (v : Int) (l : List Gn) (rs : List Gr) (a : Int) : Prop := graphP v l rs ∧ (0 ≤ a ∧ a ≤ (l.length : Int) - 1) ∧ smoothP v l a.toNat
theorem smooth_ok (v : Int) (l : List Gn) (rs : List Gr) (a : Nat) (ha : a < l.length) (hl : l.length ≤ 1048576) (hx : gtxtOk l) (hv0 : 1 ≤ v) (hn : ∀ i, i < l.length → nodeP v l i) : AFunP Tryz.prog 36 [graphV v l rs, .int .i64 a] (· = .pr (smoothP v l a)) := by
  have km := madeOf_ok v l rs a ha hl hx hv0 hn
  refine afun_of Tryz.func36 Tryz.call36 rfl Tryz.ntmps36 rfl ?_
  have W : Walk Tryz.prog TT 36 _ := Walk.of TT_ok Tryz.func36 Tryz.results36
  refine cf W 0 [1] [2] rfl rfl rfl rfl rfl rfl (km) rfl ?_
  refine lp W 0 (σ := Nat) (fun i => [(2, .ptr 0 0 0 0), (11, .fz l.length fun j => [.pr (reachG v l a j)]), (12, .int .i64 l.length), (13, .int .i64 i)]) (fun _ => [.lst 0 [[.int .i64 v, .fz l.length (gnR l), .fz rs.length (grR rs)]], .dead]) (fun i => l.length - i) (fun i => i ≤ l.length ∧ ∀ s, s < i → reachG v l a s → ¬((l.getD s g0).k = 10 ∨ (l.getD s g0).k = 11 ∨ (l.getD s g0).k = 12)) 0 [2, 11, 12, 13] rfl rfl rfl ⟨Nat.zero_le _, fun j hj => by omega⟩ ?_
  rintro i ⟨hi, he⟩ ih
  refine sp W 0 rfl rfl rfl (fun b1 => ?_) (fun b1 => ?_)
  · have b1 : i < l.length := by omega
    have iN : ((i : Nat) : Int).toNat = i := Int.toNat_natCast i
    refine sp W 0 rfl rfl rfl (fun b2 => ?_) (fun b2 => ?_)
    · have hr : reachG v l a i := by rw [iN] at b2; exact b2
      refine sp W 0 rfl rfl rfl (fun b3 => ?_) (fun b3 => ?_)
      · refine rp W 0 rfl rfl rfl (.no (fun k => k i hr (.inl (by rw [iN] at b3; exact b3))))
      refine sp W 0 rfl rfl rfl (fun b4 => ?_) (fun b4 => ?_)
      · refine rp W 0 rfl rfl rfl (.no (fun k => k i hr (.inr (.inl (by rw [iN] at b4; exact b4)))))
      refine sp W 0 rfl rfl rfl (fun b5 => ?_) (fun b5 => ?_)
      · refine rp W 0 rfl rfl rfl (.no (fun k => k i hr (.inr (.inr (by rw [iN] at b5; exact b5)))))
      rw [iN] at b3 b4 b5
      refine bd W 0 2 [2, 11, 12, 13] rfl rfl rfl rfl rfl (ih (i + 1) ⟨by omega, fun s hs => ?_⟩ (by omega))
      by_cases hsi : s = i
      · subst hsi; exact fun _ h => h.elim b3 fun h => h.elim b4 b5
      · exact he s (by omega)
    · have hr : ¬ reachG v l a i := by rw [iN] at b2; exact b2
      refine bd W 0 2 [2, 11, 12, 13] rfl rfl rfl rfl rfl (ih (i + 1) ⟨by omega, fun s hs => ?_⟩ (by omega))
      by_cases hsi : s = i
      · subst hsi; exact fun h => absurd h hr
      · exact he s (by omega)
  · have hs : smoothP v l a := fun s hr => he s (by have := reach_le hn ha hr; omega) hr
    refine rp W 0 rfl rfl rfl (.yes hs)
theorem specSmooth_ok (v : Int) (l : List Gn) (rs : List Gr) (a : Int) (hl : l.length ≤ 1048576) (hr : rs.length ≤ 1048576) (hx : gtxtOk l) : AFunP Tryz.prog 19 [graphV v l rs, .int .i64 a] (· = .pr (slopeP v l rs a)) := by
  refine afun_of Tryz.func19 Tryz.call19 rfl Tryz.ntmps19 rfl ?_
  have W : Walk Tryz.prog TT 19 _ := Walk.of TT_ok Tryz.func19 Tryz.results19
  refine ce W 0 rfl rfl (specGraphOk_ok v l rs hl hr hx) rfl ?_
  refine sp W 0 rfl rfl rfl (fun h1 => ?_) (fun h1 => ?_)
  · refine rp W 0 rfl rfl rfl (.no (fun k => h1 k.1))
  have h1 := Classical.not_not.1 h1
  refine sp W 0 rfl rfl rfl (fun h2 => ?_) (fun h2 => ?_)
  · refine rp W 0 rfl rfl rfl (.no (fun k => by have := k.2.1; omega))
  refine sp W 0 rfl rfl rfl (fun h3 => ?_) (fun h3 => ?_)
  · refine rp W 0 rfl rfl rfl (.no (fun k => by have := k.2.1; omega))
  obtain ⟨m, rfl⟩ : ∃ m : Nat, a = m := ⟨a.toNat, by omega⟩
  refine ce W 0 rfl rfl (needs_ok v l rs m (by omega) hl hx h1.1.1.1 h1.2.1) rfl ?_
  refine lp W 0 (σ := Nat) (fun i => [(1, .int .i64 (m : Nat)), (2, .ptr 0 0 0 0), (5, .fz l.length fun j => [.pr (reachG v l m j)]), (6, .int .i64 i)]) (fun _ => [.lst 0 [[.int .i64 v, .fz l.length (gnR l), .fz rs.length (grR rs)]]]) (fun i => m + 1 - i) (fun i => i ≤ m + 1 ∧ ∀ s, s < i → reachG v l m s → ¬((l.getD s g0).k = 10 ∨ (l.getD s g0).k = 11 ∨ (l.getD s g0).k = 12)) 0 [1, 2, 5, 6] rfl rfl rfl ⟨Nat.zero_le _, fun j hj => by omega⟩ ?_
  rintro i ⟨hi, he⟩ ih
  refine sp W 0 rfl rfl rfl (fun b1 => ?_) (fun b1 => ?_)
  · have iN : ((i : Nat) : Int).toNat = i := Int.toNat_natCast i
    refine sp W 0 rfl rfl rfl (fun b2 => ?_) (fun b2 => ?_)
    · have hr : reachG v l m i := by rw [iN] at b2; exact b2
      have no : ((l.getD i g0).k = 10 ∨ (l.getD i g0).k = 11 ∨ (l.getD i g0).k = 12) → ¬ slopeP v l rs (m : Nat) := fun h k => k.2.2 i (by rw [Int.toNat_natCast]; exact hr) h
      refine sp W 0 rfl rfl rfl (fun b3 => ?_) (fun b3 => ?_)
      · refine rp W 0 rfl rfl rfl (.no (no (.inl (by rw [iN] at b3; exact b3))))
      refine sp W 0 rfl rfl rfl (fun b4 => ?_) (fun b4 => ?_)
      · refine rp W 0 rfl rfl rfl (.no (no (.inr (.inl (by rw [iN] at b4; exact b4)))))
      refine sp W 0 rfl rfl rfl (fun b5 => ?_) (fun b5 => ?_)
      · refine rp W 0 rfl rfl rfl (.no (no (.inr (.inr (by rw [iN] at b5; exact b5)))))
      rw [iN] at b3 b4 b5
      refine bd W 0 1 [1, 2, 5, 6] rfl rfl rfl rfl rfl (ih (i + 1) ⟨by omega, fun s hs => ?_⟩ (by omega))
      by_cases hsi : s = i
      · subst hsi; exact fun _ h => h.elim b3 fun h => h.elim b4 b5
      · exact he s (by omega)
    · have hr : ¬ reachG v l m i := by rw [iN] at b2; exact b2
      refine bd W 0 1 [1, 2, 5, 6] rfl rfl rfl rfl rfl (ih (i + 1) ⟨by omega, fun s hs => ?_⟩ (by omega))
      by_cases hsi : s = i
      · subst hsi; exact fun h => absurd h hr
      · exact he s (by omega)
  · have hs : smoothP v l m := fun s hr => he s (by have := reach_le h1.2.1 (by omega) hr; omega) hr
    refine rp W 0 rfl rfl rfl (.yes ⟨h1, ⟨by omega, by omega⟩, by rw [Int.toNat_natCast]; exact hs⟩)
end Pf
/- Slopes: what is laid down, as programs (plain) -/
namespace Pf
open Go Go.Proofs
/-- What lays nodes down: each step asks for a node's place, or whether a node is a number. -/
inductive Pg where
  | ret (v : Int)
  | put (x : Gn) (k : Int → Pg)
  | is (a : Int) (s : List UInt8) (k : Bool → Pg)
def Pg.bind : Pg → (Int → Pg) → Pg
  | .ret v, f => f v
  | .put x k, f => .put x fun i => (k i).bind f
  | .is a s k, f => .is a s fun t => (k t).bind f
abbrev numG (s : List UInt8) : Gn := ⟨1, 0, 0, 0, s⟩
open Classical in
/-- The place of the first node like x. -/
noncomputable def idxG : List Gn → Gn → Nat
  | [], _ => 0
  | y :: l, x => if y = x then 0 else idxG l x + 1
theorem idxG_get {x : Gn} : ∀ {l : List Gn}, x ∈ l → idxG l x < l.length ∧ l.getD (idxG l x) g0 = x
  | [], h => by simp at h
  | y :: l, h => by
    unfold idxG
    by_cases e : y = x
    · rw [if_pos e]; simp [e]
    · rw [if_neg e]
      have hm : x ∈ l := by
        rcases List.mem_cons.1 h with h | h
        · exact absurd h.symm e
        · exact h
      obtain ⟨h1, h2⟩ := idxG_get hm
      exact ⟨by simp; omega, by simpa using h2⟩
theorem idxG_first {x : Gn} : ∀ {l : List Gn} {i : Nat}, i < l.length → l.getD i g0 = x → (∀ j, j < i → l.getD j g0 ≠ x) → idxG l x = i
  | [], i, h, _, _ => by simp at h
  | y :: l, 0, _, h, _ => by
    unfold idxG
    rw [if_pos (by simpa using h)]
  | y :: l, i + 1, h, h1, h2 => by
    unfold idxG
    rw [if_neg (by have := h2 0 (by omega); simpa using this)]
    rw [idxG_first (i := i) (by simpa using h) (by simpa using h1) fun j hj => by have := h2 (j + 1) (by omega); simpa using this]
open Classical in
noncomputable def runS : Pg → List Gn → Int × List Gn
  | .ret v, N => (v, N)
  | .put x k, N => if x ∈ N then runS (k (idxG N x)) N else runS (k N.length) (N ++ [x])
  | .is a s k, N => runS (k (decide (N.getD a.toNat g0 = numG s))) N
open Classical in
noncomputable def runI : Pg → List Gn → Bool → Int × List Gn × Bool
  | .ret v, N, F => (v, N, F)
  | .put x k, N, F => if x ∈ N then runI (k (idxG N x)) N F else if N.length = 120 then runI (k 0) N true else runI (k N.length) (N ++ [x]) F
  | .is a s k, N, F => runI (k (decide (a < N.length ∧ N.getD a.toNat g0 = numG s))) N F
theorem runS_bind (P : Pg) (f : Int → Pg) : ∀ N, runS (P.bind f) N = runS (f (runS P N).1) (runS P N).2 := by
  induction P with
  | ret v => intro N; rfl
  | put x k ih =>
    intro N
    simp only [Pg.bind, runS]
    split
    · rw [ih]
    · rw [ih]
  | is a s k ih => intro N; simp only [Pg.bind, runS]; rw [ih]
theorem runI_bind (P : Pg) (f : Int → Pg) : ∀ N F, runI (P.bind f) N F = runI (f (runI P N F).1) (runI P N F).2.1 (runI P N F).2.2 := by
  induction P with
  | ret v => intro N F; rfl
  | put x k ih =>
    intro N F
    simp only [Pg.bind, runI]
    split
    · rw [ih]
    · split
      · rw [ih]
      · rw [ih]
  | is a s k ih => intro N F; simp only [Pg.bind, runI]; rw [ih]
theorem runS_len (P : Pg) : ∀ N, N.length ≤ (runS P N).2.length := by
  induction P with
  | ret v => intro N; exact Nat.le_refl _
  | put x k ih =>
    intro N
    simp only [runS]
    split
    · exact ih _ _
    · have := ih N.length (N ++ [x])
      rw [List.length_append] at this
      simp only [List.length_cons, List.length_nil] at this
      omega
  | is a s k ih => intro N; simp only [runS]; exact ih _ _
theorem runI_full (P : Pg) : ∀ N, (runI P N true).2.2 = true := by
  induction P with
  | ret v => intro N; rfl
  | put x k ih =>
    intro N
    simp only [runI]
    split
    · exact ih _ _
    · split
      · exact ih _ _
      · exact ih _ _
  | is a s k ih => intro N; simp only [runI]; exact ih _ _
theorem runI_len (P : Pg) : ∀ N F, N.length ≤ 120 → (runI P N F).2.1.length ≤ 120 := by
  induction P with
  | ret v => intro N F h; exact h
  | put x k ih =>
    intro N F h
    simp only [runI]
    split
    · exact ih _ _ _ h
    · split
      · exact ih _ _ _ h
      · exact ih _ _ _ (by simp; omega)
  | is a s k ih => intro N F h; simp only [runI]; exact ih _ _ _ h
open Classical in
/-- As long as there are not too many nodes both do the same; if there are, the one is full. -/
theorem lock (P : Pg) : ∀ N, N.length ≤ 120 → ((runS P N).2.length ≤ 120 → runI P N false = ((runS P N).1, (runS P N).2, false)) ∧ (120 < (runS P N).2.length → (runI P N false).2.2 = true) := by
  induction P with
  | ret v => intro N h; exact ⟨fun _ => rfl, fun k => by simp only [runS] at k; omega⟩
  | put x k ih =>
    intro N h
    simp only [runS, runI]
    by_cases hx : x ∈ N
    · rw [if_pos hx, if_pos hx]
      exact ih _ _ h
    · rw [if_neg hx, if_neg hx]
      by_cases hl : N.length = 120
      · rw [if_pos hl]
        have := runS_len (k N.length) (N ++ [x])
        rw [List.length_append] at this
        simp only [List.length_cons, List.length_nil] at this
        exact ⟨fun q => by omega, fun _ => runI_full _ _⟩
      · rw [if_neg hl]
        exact ih _ _ (by simp; omega)
  | is a s k ih =>
    intro N h
    simp only [runS, runI]
    have e : decide (a < N.length ∧ N.getD a.toNat g0 = numG s) = decide (N.getD a.toNat g0 = numG s) := by
      by_cases ha : a < N.length
      · simp [ha]
      · have e2 : N.getD a.toNat g0 = g0 := by
          rw [List.getD_eq_getElem?_getD, List.getElem?_eq_none (by omega)]; rfl
        rw [e2]
        have : ¬ g0 = numG s := fun q => by have := congrArg Gn.k q; simp [g0] at this
        simp [this]
    rw [e]
    exact ih _ _ h
/-! ### The programs -/
abbrev t0 : List UInt8 := [48]
abbrev t1 : List UInt8 := [49]
def numP (s : List UInt8) : Pg := .put (numG s) .ret
def negP (a : Int) : Pg := .is a t0 fun t => if t then .ret a else .put ⟨3, a, 0, 0, []⟩ .ret
def sumP' (a b : Int) : Pg := .is a t0 fun t => if t then .ret b else .is b t0 fun t => if t then .ret a else .put ⟨4, a, b, 0, []⟩ .ret
def lessP (a b : Int) : Pg := .is b t0 fun t => if t then .ret a else .is a t0 fun t => if t then negP b else .put ⟨5, a, b, 0, []⟩ .ret
def timesP (a b : Int) : Pg := .is a t0 fun t => if t then .ret a else .is b t1 fun t => if t then .ret a else .is b t0 fun t => if t then .ret b else .is a t1 fun t => if t then .ret b else .put ⟨6, a, b, 0, []⟩ .ret
def byP (a b : Int) : Pg := .is a t0 fun t => if t then .ret a else .put ⟨7, a, b, 0, []⟩ .ret
def raisedP (a n : Int) : Pg := if n = 1 then .ret a else .put ⟨8, a, 0, n, []⟩ .ret
/-- The slope of the node at a place, by the slopes of its parts. -/
def slopeG (at' : Int) (x : Gn) (v : Int) (of : Int → Int) : Pg :=
  if x.k = 2 then (if x.n = v then numP t1 else numP t0)
  else if x.k = 3 then negP (of x.a)
  else if x.k = 4 then sumP' (of x.a) (of x.b)
  else if x.k = 5 then lessP (of x.a) (of x.b)
  else if x.k = 6 then (timesP (of x.a) x.b).bind fun l => (timesP x.a (of x.b)).bind fun r => sumP' l r
  else if x.k = 7 then (timesP (of x.a) x.b).bind fun l => (timesP x.a (of x.b)).bind fun r => (lessP l r).bind fun u => .is u t0 fun t => if t then .ret u else (raisedP x.b 2).bind fun q => byP u q
  else if x.k = 8 then (if x.n = 0 then numP t0 else if x.n = 1 then .ret (of x.a) else .is (of x.a) t0 fun t => if t then .ret (of x.a) else
    (numP (Lib.decDigits x.n.toNat)).bind fun f => (raisedP x.a (x.n - 1)).bind fun r => (timesP f r).bind fun y => timesP y (of x.a))
  else if x.k = 9 then .is (of x.a) t0 fun t => if t then .ret (of x.a) else (numP [50]).bind fun w => (timesP w at').bind fun y => byP (of x.a) y
  else numP t0
end Pf
/- Decimals: digits and the numbers that they write -/
namespace Pf
open Go Go.Proofs
/-- The number that digits write. -/
def dval (s : List UInt8) : Nat := s.foldl (fun a c => a * 10 + (c.toNat - 48)) 0
theorem dec_small {u : Nat} (h : u < 10) : Lib.decDigits u = [UInt8.ofNat (48 + u)] := by rw [Lib.decDigits, dif_pos h]
theorem dec_big {u : Nat} (h : ¬ u < 10) : Lib.decDigits u = Lib.decDigits (u / 10) ++ [UInt8.ofNat (48 + u % 10)] := by rw [Lib.decDigits, dif_neg h]
theorem dec_len (u : Nat) : (Lib.decDigits u).length = Lib.nDigits u := Lib.decDigits_length u
theorem nDig_le : ∀ {k u : Nat}, u < 10 ^ k → 1 ≤ k → Lib.nDigits u ≤ k := by
  intro k
  induction k with
  | zero => intro u _ h; omega
  | succ k ih =>
    intro u hu _
    by_cases h : u < 10
    · rw [Lib.nDigits_small h]; omega
    · rw [Lib.nDigits_big h]
      rw [Nat.pow_succ] at hu
      have h1 : u / 10 < 10 ^ k := by omega
      have h2 : 1 ≤ k := by
        cases k with
        | zero => simp at hu; omega
        | succ k => omega
      have := ih h1 h2
      omega
/-- A number in k digits. -/
def padD (k r : Nat) : List UInt8 := List.replicate (k - (Lib.decDigits r).length) 48 ++ Lib.decDigits r
/-- The text of q over 10 ^ n. -/
def decT (n q : Nat) : List UInt8 :=
  if n = 0 then Lib.decDigits q else (padD (n + 1) q).take ((padD (n + 1) q).length - n) ++ 46 :: (padD (n + 1) q).drop ((padD (n + 1) q).length - n)
/-- The parts of a literal: ahead of the point, behind it, the power. -/
def litA (s : List UInt8) : List UInt8 := cutL (cutL s 101) 46
def litB (s : List UInt8) : List UInt8 := cutR (cutL s 101) 46
def atoiV (w : List UInt8) : Int := match Lib.atoiAll w with | .ok v => v | _ => 0
open Classical in
noncomputable def litN (s : List UInt8) : Int :=
  if 101 ∈ s then (if (cutR s 101).head? = some 45 then -(atoiV (cutP (cutR s 101) 45)) else atoiV (cutP (cutR s 101) 45)) else 0
end Pf
/- The library's layings at this dump: see TS. -/
/- The library's Itoa and Repeat -/
namespace Pf
open Go Go.Proofs
theorem tabIs {FM : FMem} {β : BMap} {H : AHeap} {w : World} (hh : RelH FM β H w) : Lib.TabIs Tryz.prog w "internal/strconv.uint64pow10" .u64 Lib.pow10Tab := by
  obtain ⟨cs, el, fr, h1, h2⟩ := hh.gk.tabw rfl
  have hg : Tryz.prog.globalNamed "internal/strconv.uint64pow10" = some 1 := by kernel_rfl
  unfold Lib.TabIs World.var?
  rw [hg]
  simp only [Option.bind_some, h1, Option.some.injEq]
  have e : gtab = Lib.pow10Tab := by decide
  refine Array.ext (by rw [h2, e]; simp) fun i hi1 hi2 => ?_
  have hi : i < gtab.length := by omega
  have h3 := hh.fm _ _ _ (hh.gk.tab i hi)
  simp only [World.cell?, h1] at h3
  have h4 : cs[i]? = some (Value.int .u64 (gtab.getD i 0)) := by simpa using h3
  rw [Array.getElem?_eq_getElem hi1, Option.some.injEq] at h4
  rw [h4, List.getD_eq_getElem?_getD, List.getElem?_eq_getElem hi]
  simp [e]
theorem int_arg {FM : FMem} {β : BMap} {n : Int} {k : IntKind} {cargs : Array Value} (h : VRs FM β [.int k n] cargs.toList) : cargs = #[.int k n] := by
  obtain ⟨h1, h2⟩ := h
  have h3 := h2 0 (by simp)
  obtain ⟨l⟩ := cargs
  match l, h1, h3 with
  | [x], _, h3 =>
    simp only [List.getD_cons_zero, List.getElem_cons_zero] at h3
    cases h3; rfl
theorem itoaAll_ok (n : Int) (h0 : 0 ≤ n) (h1 : n ≤ 9223372036854775807) : AFunP Tryz.prog 91 [.int .i64 n] (· = .str (Lib.decDigits n.toNat)) := by
  refine AFunP.of_calls (Enters.of Tryz.func91 (by kernel_rfl) (by kernel_rfl)) fun FM β w cargs hh hv => ?_
  obtain rfl := int_arg hv
  refine (Any.strconv_Itoa Tryz.lays171 n (by omega) h1 w (tabIs hh)).mono ?_
  rintro e w' ⟨rfl, k, os, rfl⟩
  have e1 : Lib.itoa n = Lib.decDigits n.toNat := by unfold Lib.itoa; rw [if_neg (by omega)]
  refine ⟨_, .str (Lib.decDigits n.toNat), rfl, ⟨rfl, rfl, rfl, by show w.heap.size ≤ (w.heap ++ os).size; rw [Array.size_append]; omega, fun j hj => by show (w.heap ++ os)[j]? = w.heap[j]?; rw [Array.getElem?_append_left hj]⟩, pure_of rfl rfl rfl, ?_⟩
  rw [e1]
  exact .str rfl
end Pf
/- Slopes: the layer's methods -/
namespace Pf
open Go Go.Proofs
/-- The places of nodes, as a map. -/
def mpK : Nat → List Gn → List (MKey × Int)
  | _, [] => []
  | k, y :: l => (gk y, (k : Int)) :: mpK (k + 1) l
def mpi (N : List Gn) : List (MKey × Int) := mpK 0 N
theorem mpK_get {x : Gn} : ∀ {l : List Gn} {k : Nat}, x ∈ l → mget (mpK k l) (gk x) = ((k + idxG l x : Nat) : Int)
  | [], _, h => by simp at h
  | y :: l, k, h => by
    simp only [mpK, mget, idxG]
    by_cases e : y = x
    · subst e; simp
    · have e2 : ¬ gk x = gk y := fun q => e (gk_inj q).symm
      rw [if_neg e2, if_neg e]
      have hm : x ∈ l := by
        rcases List.mem_cons.1 h with h | h
        · exact absurd h.symm e
        · exact h
      rw [mpK_get hm]
      congr 1; omega
theorem mpK_mem {x : Gn} : ∀ {l : List Gn} {k : Nat}, gk x ∈ (mpK k l).map Prod.fst ↔ x ∈ l
  | [], _ => by simp [mpK]
  | y :: l, k => by
    simp only [mpK, List.map_cons, List.mem_cons]
    rw [mpK_mem]
    constructor
    · rintro (h | h)
      · exact .inl (gk_inj h)
      · exact .inr h
    · rintro (h | h)
      · exact .inl (by rw [h])
      · exact .inr h
theorem mpK_put {x : Gn} : ∀ {l : List Gn} {k : Nat}, x ∉ l → mput (mpK k l) (gk x) ((k + l.length : Nat) : Int) = mpK k (l ++ [x])
  | [], k, _ => by simp [mpK, mput]
  | y :: l, k, h => by
    simp only [mpK, mput, List.cons_append]
    rw [if_neg fun q => h (by rw [gk_inj q]; exact List.mem_cons_self ..)]
    have := mpK_put (x := x) (l := l) (k := k + 1) fun q => h (List.mem_cons_of_mem _ q)
    rw [← this, List.length_cons]
    congr 2; omega
theorem mpi_get {x : Gn} {N : List Gn} (h : x ∈ N) : mget (mpi N) (gk x) = (idxG N x : Nat) := by
  unfold mpi; rw [mpK_get h]; congr 1; omega
theorem mpi_mem {x : Gn} {N : List Gn} : gk x ∈ (mpi N).map Prod.fst ↔ x ∈ N := mpK_mem
theorem mpi_put {x : Gn} {N : List Gn} (h : x ∉ N) : mput (mpi N) (gk x) (N.length : Nat) = mpi (N ++ [x]) := by
  have := mpK_put (k := 0) h
  rw [Nat.zero_add] at this
  exact this
theorem addNz (k : Nat) : addN 0 k = k := by cases k <;> rfl
theorem gnR_app (N : List Gn) (x : Gn) (j : Nat) (hj : j < N.length + 1) : mrgL (j < N.length) (gnR N j) [.int .i64 x.k, .int .i64 x.a, .int .i64 x.b, .int .i64 x.n, .str x.t] = gnR (N ++ [x]) j := by
  unfold gnR
  by_cases h : j < N.length
  · have e : (N ++ [x]).getD j g0 = N.getD j g0 := by rw [List.getD_eq_getElem?_getD, List.getElem?_append_left h, ← List.getD_eq_getElem?_getD]
    rw [e]
    simp [mrgL, mrg, h]
  · have hj : j = N.length := by omega
    subst hj
    have e : (N ++ [x]).getD N.length g0 = x := by simp [List.getD_eq_getElem?_getD]
    rw [e]
    simp [mrgL, mrg]
/-- A layer in memory: itself, its nodes, their places. -/
abbrev shG : Option (List Bool) := some [false, false, false, false, true]
def LayS (N : List Gn) (F : Bool) (g : Nat) : AHeap := [.lst 0 [[.sl 1 g 0 N.length, .mp 2, .bool F]], .tab g N.length (gnR N), .mp false shG (mpi N)]
def LayQ (r : Int × List Gn × Bool) (u : AV) (H : AHeap) : Prop := ∃ g', u = .int .i64 r.1 ∧ H = LayS r.2.1 r.2.2 g'
theorem is_ok (a : Int) (s : List UInt8) (N : List Gn) (F : Bool) (g : Nat) (ha : 0 ≤ a) (hN : N.length ≤ 120) : AFun Tryz.prog 79 [.ptr 0 0 0 0, .int .i64 a, .str s] (LayS N F g) (fun u H => u = .pr (a < N.length ∧ N.getD a.toNat g0 = numG s) ∧ H = LayS N F g) := by
  refine AFun.trim 3 ?_ (by simp [LayS])
  refine afun_of Tryz.func79 Tryz.call79 rfl Tryz.ntmps79 rfl ?_
  have W : Walk Tryz.prog TT 79 _ := Walk.of TT_ok Tryz.func79 Tryz.results79
  refine sp W 0 rfl rfl rfl (fun h1 => ?_) (fun h1 => ?_)
  · refine go_retS W 0 300 3 rfl (by first | exact True.intro | (simp only [AllC, AllP, addN, Int.toNat_natCast, true_and, and_true, Option.getD, List.length_set, wrapU, pw1, pw7, pw8, pw16, pw23, pw32, pw52, Holds] <;> first | omega | ((repeat' apply And.intro) <;> first | omega | (intros; rfl))) | (simp [AllC, AllP, addN, cloL, clo, mrgL, mrg, wrapU, Holds] <;> omega)) rfl (by first | exact True.intro | (simp only [AllC, AllP, addN, Int.toNat_natCast, true_and, and_true, Option.getD, List.length_set, wrapU, pw1, pw7, pw8, pw16, pw23, pw32, pw52, Holds] <;> first | omega | ((repeat' apply And.intro) <;> first | omega | (intros; rfl))) | (simp [AllC, AllP, addN, cloL, clo, mrgL, mrg, wrapU, Holds] <;> omega)) (.pr (a < N.length ∧ N.getD a.toNat g0 = numG s)) (.pr ?_) rfl ⟨rfl, rfl⟩
    rw [addNz]
    constructor
    · intro h; exact ⟨h1, gk_inj (y := numG s) h⟩
    · intro h; rw [h.2]
  · refine go_retS W 0 300 3 rfl (by first | exact True.intro | (simp only [AllC, AllP, addN, Int.toNat_natCast, true_and, and_true, Option.getD, List.length_set, wrapU, pw1, pw7, pw8, pw16, pw23, pw32, pw52, Holds] <;> first | omega | ((repeat' apply And.intro) <;> first | omega | (intros; rfl))) | (simp [AllC, AllP, addN, cloL, clo, mrgL, mrg, wrapU, Holds] <;> omega)) rfl (by first | exact True.intro | (simp only [AllC, AllP, addN, Int.toNat_natCast, true_and, and_true, Option.getD, List.length_set, wrapU, pw1, pw7, pw8, pw16, pw23, pw32, pw52, Holds] <;> first | omega | ((repeat' apply And.intro) <;> first | omega | (intros; rfl))) | (simp [AllC, AllP, addN, cloL, clo, mrgL, mrg, wrapU, Holds] <;> omega)) (.pr (a < N.length ∧ N.getD a.toNat g0 = numG s)) (.no (fun k => h1 k.1)) rfl ⟨rfl, rfl⟩
theorem lay_ok (x : Gn) (N : List Gn) (F : Bool) (g : Nat) (hN : N.length ≤ 120) : AFun Tryz.prog 38 [.ptr 0 0 0 0, gnV x] (LayS N F g) (LayQ (runI (.put x .ret) N F)) := by
  unfold gnV
  refine AFun.trim 3 ?_ (by simp [LayS])
  refine afun_of Tryz.func38 Tryz.call38 rfl Tryz.ntmps38 rfl ?_
  have W : Walk Tryz.prog TT 38 _ := Walk.of TT_ok Tryz.func38 Tryz.results38
  refine dre W 0 10 [] [] rfl rfl rfl trivial rfl ?_
  refine sp W 0 rfl rfl rfl (fun h1 => ?_) (fun h1 => ?_)
  · have hx : x ∈ N := mpi_mem.1 h1
    have e : runI (.put x .ret) N F = (((idxG N x : Nat) : Int), N, F) := by simp only [runI]; rw [if_pos hx]
    rw [e]
    refine go_retS W 0 300 3 rfl (by first | exact True.intro | (simp only [AllC, AllP, addN, Int.toNat_natCast, true_and, and_true, Option.getD, List.length_set, wrapU, pw1, pw7, pw8, pw16, pw23, pw32, pw52, Holds] <;> first | omega | ((repeat' apply And.intro) <;> first | omega | (intros; rfl))) | (simp [AllC, AllP, addN, cloL, clo, mrgL, mrg, wrapU, Holds] <;> omega)) rfl (by first | exact True.intro | (simp only [AllC, AllP, addN, Int.toNat_natCast, true_and, and_true, Option.getD, List.length_set, wrapU, pw1, pw7, pw8, pw16, pw23, pw32, pw52, Holds] <;> first | omega | ((repeat' apply And.intro) <;> first | omega | (intros; rfl))) | (simp [AllC, AllP, addN, cloL, clo, mrgL, mrg, wrapU, Holds] <;> omega)) (.int .i64 (idxG N x : Nat)) (.int (mpi_get hx)) rfl ⟨g, rfl, rfl⟩
  have hx : x ∉ N := fun k => h1 (mpi_mem.2 k)
  refine sp W 0 rfl rfl rfl (fun h2 => ?_) (fun h2 => ?_)
  · have e : runI (.put x .ret) N F = (0, N, true) := by simp only [runI]; rw [if_neg hx, if_pos (by omega)]
    rw [e]
    refine go_retS W 0 300 3 rfl (by first | exact True.intro | (simp only [AllC, AllP, addN, Int.toNat_natCast, true_and, and_true, Option.getD, List.length_set, wrapU, pw1, pw7, pw8, pw16, pw23, pw32, pw52, Holds] <;> first | omega | ((repeat' apply And.intro) <;> first | omega | (intros; rfl))) | (simp [AllC, AllP, addN, cloL, clo, mrgL, mrg, wrapU, Holds] <;> omega)) rfl (by first | exact True.intro | (simp only [AllC, AllP, addN, Int.toNat_natCast, true_and, and_true, Option.getD, List.length_set, wrapU, pw1, pw7, pw8, pw16, pw23, pw32, pw52, Holds] <;> first | omega | ((repeat' apply And.intro) <;> first | omega | (intros; rfl))) | (simp [AllC, AllP, addN, cloL, clo, mrgL, mrg, wrapU, Holds] <;> omega)) (.int .i64 0) .refl rfl ⟨g, rfl, rfl⟩
  · have e : runI (.put x .ret) N F = (((N.length : Nat) : Int), N ++ [x], F) := by simp only [runI]; rw [if_neg hx, if_neg (by omega)]
    rw [e]
    refine phg W 0 8 [6, 7] rfl rfl (fun PW => ?_)
    refine pho PW 0 6 [] [] rfl rfl trivial rfl rfl ?_
    refine pho PW 0 7 [] [] rfl rfl trivial rfl rfl ?_
    refine phe PW 0 [] [] rfl trivial rfl ?_
    refine go_tab 1 (N.length + 1) (gnR (N ++ [x])) rfl rfl rfl (by rw [addNz]; exact Nat.le_refl _) (fun j hj => ?_) (.inl rfl) ?_
    · rw [addNz]
      exact (gnR_app N x j hj).symm
    refine dre W 0 11 [] [] rfl rfl rfl trivial rfl ?_
    have e2 : ((N.length + 1 : Nat) : Int) - 1 = (N.length : Nat) := by omega
    refine go_retS W 0 300 3 rfl (by first | exact True.intro | (simp only [AllC, AllP, addN, Int.toNat_natCast, true_and, and_true, Option.getD, List.length_set, wrapU, pw1, pw7, pw8, pw16, pw23, pw32, pw52, Holds] <;> first | omega | ((repeat' apply And.intro) <;> first | omega | (intros; rfl))) | (simp [AllC, AllP, addN, cloL, clo, mrgL, mrg, wrapU, Holds] <;> omega)) rfl (by first | exact True.intro | (simp only [AllC, AllP, addN, Int.toNat_natCast, true_and, and_true, Option.getD, List.length_set, wrapU, pw1, pw7, pw8, pw16, pw23, pw32, pw52, Holds] <;> first | omega | ((repeat' apply And.intro) <;> first | omega | (intros; rfl))) | (simp [AllC, AllP, addN, cloL, clo, mrgL, mrg, wrapU, Holds] <;> omega)) (.int .i64 (N.length : Nat)) (.int e2) rfl ⟨g + 1, rfl, ?_⟩
    unfold LayS
    rw [e2, List.length_append, ← mpi_put hx]
    rfl
open Classical in
theorem runI_t {a : Int} {s : List UInt8} {p q : Pg} {N : List Gn} {F : Bool} (h : a < N.length ∧ N.getD a.toNat g0 = numG s) : runI (.is a s fun t => if t then p else q) N F = runI p N F := by
  simp only [runI]; rw [decide_eq_true h]; rfl
open Classical in
theorem runI_f {a : Int} {s : List UInt8} {p q : Pg} {N : List Gn} {F : Bool} (h : ¬ (a < N.length ∧ N.getD a.toNat g0 = numG s)) : runI (.is a s fun t => if t then p else q) N F = runI q N F := by
  simp only [runI]; rw [decide_eq_false h]; rfl
theorem neg_ok (a : Int) (N : List Gn) (F : Bool) (g : Nat) (ha : 0 ≤ a) (hN : N.length ≤ 120) : AFun Tryz.prog 75 [.ptr 0 0 0 0, .int .i64 a] (LayS N F g) (LayQ (runI (negP a) N F)) := by
  refine afun_of Tryz.func75 Tryz.call75 rfl Tryz.ntmps75 rfl ?_
  have W : Walk Tryz.prog TT 75 _ := Walk.of TT_ok Tryz.func75 Tryz.results75
  refine go_call W 0 300 rfl (by first | exact True.intro | (simp only [AllC, AllP, addN, Int.toNat_natCast, true_and, and_true, Option.getD, List.length_set, wrapU, pw1, pw7, pw8, pw16, pw23, pw32, pw52, Holds] <;> first | omega | ((repeat' apply And.intro) <;> first | omega | (intros; rfl))) | (simp [AllC, AllP, addN, cloL, clo, mrgL, mrg, wrapU, Holds] <;> omega)) (is_ok a t0 N F g ha hN) ?_
  rintro _ _ ⟨rfl, rfl⟩
  refine ⟨_, rfl, ?_⟩
  refine sp W 0 rfl rfl rfl (fun h1 => ?_) (fun h1 => ?_)
  · rw [negP, runI_t h1]
    refine rg W 0 rfl (⟨g, rfl, rfl⟩)
  · rw [negP, runI_f h1]
    refine go_call W 0 300 rfl (by first | exact True.intro | (simp only [AllC, AllP, addN, Int.toNat_natCast, true_and, and_true, Option.getD, List.length_set, wrapU, pw1, pw7, pw8, pw16, pw23, pw32, pw52, Holds] <;> first | omega | ((repeat' apply And.intro) <;> first | omega | (intros; rfl))) | (simp [AllC, AllP, addN, cloL, clo, mrgL, mrg, wrapU, Holds] <;> omega)) (lay_ok ⟨3, a, 0, 0, []⟩ N F g hN) ?_
    rintro _ _ ⟨g', rfl, rfl⟩
    refine ⟨_, rfl, ?_⟩
    refine rg W 0 rfl (⟨g', rfl, rfl⟩)
theorem sum_ok (a b : Int) (N : List Gn) (F : Bool) (g : Nat) (ha : 0 ≤ a) (hb : 0 ≤ b) (hN : N.length ≤ 120) : AFun Tryz.prog 76 [.ptr 0 0 0 0, .int .i64 a, .int .i64 b] (LayS N F g) (LayQ (runI (sumP' a b) N F)) := by
  refine afun_of Tryz.func76 Tryz.call76 rfl Tryz.ntmps76 rfl ?_
  have W : Walk Tryz.prog TT 76 _ := Walk.of TT_ok Tryz.func76 Tryz.results76
  unfold sumP'
  refine go_call W 0 300 rfl (by first | exact True.intro | (simp only [AllC, AllP, addN, Int.toNat_natCast, true_and, and_true, Option.getD, List.length_set, wrapU, pw1, pw7, pw8, pw16, pw23, pw32, pw52, Holds] <;> first | omega | ((repeat' apply And.intro) <;> first | omega | (intros; rfl))) | (simp [AllC, AllP, addN, cloL, clo, mrgL, mrg, wrapU, Holds] <;> omega)) (is_ok a t0 N F g ha hN) ?_
  rintro _ _ ⟨rfl, rfl⟩
  refine ⟨_, rfl, ?_⟩
  refine sp W 0 rfl rfl rfl (fun z2 => ?_) (fun z2 => ?_)
  · rw [runI_t z2]
    refine rg W 0 rfl (⟨g, rfl, rfl⟩)
  · rw [runI_f z2]
    refine go_call W 0 300 rfl (by first | exact True.intro | (simp only [AllC, AllP, addN, Int.toNat_natCast, true_and, and_true, Option.getD, List.length_set, wrapU, pw1, pw7, pw8, pw16, pw23, pw32, pw52, Holds] <;> first | omega | ((repeat' apply And.intro) <;> first | omega | (intros; rfl))) | (simp [AllC, AllP, addN, cloL, clo, mrgL, mrg, wrapU, Holds] <;> omega)) (is_ok b t0 N F g hb hN) ?_
    rintro _ _ ⟨rfl, rfl⟩
    refine ⟨_, rfl, ?_⟩
    refine sp W 0 rfl rfl rfl (fun z1 => ?_) (fun z1 => ?_)
    · rw [runI_t z1]
      refine rg W 0 rfl (⟨g, rfl, rfl⟩)
    · rw [runI_f z1]
      refine go_call W 0 300 rfl (by first | exact True.intro | (simp only [AllC, AllP, addN, Int.toNat_natCast, true_and, and_true, Option.getD, List.length_set, wrapU, pw1, pw7, pw8, pw16, pw23, pw32, pw52, Holds] <;> first | omega | ((repeat' apply And.intro) <;> first | omega | (intros; rfl))) | (simp [AllC, AllP, addN, cloL, clo, mrgL, mrg, wrapU, Holds] <;> omega)) (lay_ok ⟨4, a, b, 0, []⟩ N F g hN) ?_
      rintro _ _ ⟨g', rfl, rfl⟩
      refine ⟨_, rfl, ?_⟩
      refine rg W 0 rfl (⟨g', rfl, rfl⟩)
theorem less_ok (a b : Int) (N : List Gn) (F : Bool) (g : Nat) (ha : 0 ≤ a) (hb : 0 ≤ b) (hN : N.length ≤ 120) : AFun Tryz.prog 77 [.ptr 0 0 0 0, .int .i64 a, .int .i64 b] (LayS N F g) (LayQ (runI (lessP a b) N F)) := by
  refine afun_of Tryz.func77 Tryz.call77 rfl Tryz.ntmps77 rfl ?_
  have W : Walk Tryz.prog TT 77 _ := Walk.of TT_ok Tryz.func77 Tryz.results77
  unfold lessP
  refine go_call W 0 300 rfl (by first | exact True.intro | (simp only [AllC, AllP, addN, Int.toNat_natCast, true_and, and_true, Option.getD, List.length_set, wrapU, pw1, pw7, pw8, pw16, pw23, pw32, pw52, Holds] <;> first | omega | ((repeat' apply And.intro) <;> first | omega | (intros; rfl))) | (simp [AllC, AllP, addN, cloL, clo, mrgL, mrg, wrapU, Holds] <;> omega)) (is_ok b t0 N F g hb hN) ?_
  rintro _ _ ⟨rfl, rfl⟩
  refine ⟨_, rfl, ?_⟩
  refine sp W 0 rfl rfl rfl (fun z2 => ?_) (fun z2 => ?_)
  · rw [runI_t z2]
    refine rg W 0 rfl (⟨g, rfl, rfl⟩)
  · rw [runI_f z2]
    refine go_call W 0 300 rfl (by first | exact True.intro | (simp only [AllC, AllP, addN, Int.toNat_natCast, true_and, and_true, Option.getD, List.length_set, wrapU, pw1, pw7, pw8, pw16, pw23, pw32, pw52, Holds] <;> first | omega | ((repeat' apply And.intro) <;> first | omega | (intros; rfl))) | (simp [AllC, AllP, addN, cloL, clo, mrgL, mrg, wrapU, Holds] <;> omega)) (is_ok a t0 N F g ha hN) ?_
    rintro _ _ ⟨rfl, rfl⟩
    refine ⟨_, rfl, ?_⟩
    refine sp W 0 rfl rfl rfl (fun z1 => ?_) (fun z1 => ?_)
    · rw [runI_t z1]
      refine go_call W 0 300 rfl (by first | exact True.intro | (simp only [AllC, AllP, addN, Int.toNat_natCast, true_and, and_true, Option.getD, List.length_set, wrapU, pw1, pw7, pw8, pw16, pw23, pw32, pw52, Holds] <;> first | omega | ((repeat' apply And.intro) <;> first | omega | (intros; rfl))) | (simp [AllC, AllP, addN, cloL, clo, mrgL, mrg, wrapU, Holds] <;> omega)) (neg_ok b N F g hb hN) ?_
      rintro _ _ ⟨g', rfl, rfl⟩
      refine ⟨_, rfl, ?_⟩
      refine rg W 0 rfl (⟨g', rfl, rfl⟩)
    · rw [runI_f z1]
      refine go_call W 0 300 rfl (by first | exact True.intro | (simp only [AllC, AllP, addN, Int.toNat_natCast, true_and, and_true, Option.getD, List.length_set, wrapU, pw1, pw7, pw8, pw16, pw23, pw32, pw52, Holds] <;> first | omega | ((repeat' apply And.intro) <;> first | omega | (intros; rfl))) | (simp [AllC, AllP, addN, cloL, clo, mrgL, mrg, wrapU, Holds] <;> omega)) (lay_ok ⟨5, a, b, 0, []⟩ N F g hN) ?_
      rintro _ _ ⟨g', rfl, rfl⟩
      refine ⟨_, rfl, ?_⟩
      refine rg W 0 rfl (⟨g', rfl, rfl⟩)
theorem times_ok (a b : Int) (N : List Gn) (F : Bool) (g : Nat) (ha : 0 ≤ a) (hb : 0 ≤ b) (hN : N.length ≤ 120) : AFun Tryz.prog 78 [.ptr 0 0 0 0, .int .i64 a, .int .i64 b] (LayS N F g) (LayQ (runI (timesP a b) N F)) := by
  refine afun_of Tryz.func78 Tryz.call78 rfl Tryz.ntmps78 rfl ?_
  have W : Walk Tryz.prog TT 78 _ := Walk.of TT_ok Tryz.func78 Tryz.results78
  unfold timesP
  refine go_call W 0 300 rfl (by first | exact True.intro | (simp only [AllC, AllP, addN, Int.toNat_natCast, true_and, and_true, Option.getD, List.length_set, wrapU, pw1, pw7, pw8, pw16, pw23, pw32, pw52, Holds] <;> first | omega | ((repeat' apply And.intro) <;> first | omega | (intros; rfl))) | (simp [AllC, AllP, addN, cloL, clo, mrgL, mrg, wrapU, Holds] <;> omega)) (is_ok a t0 N F g ha hN) ?_
  rintro _ _ ⟨rfl, rfl⟩
  refine ⟨_, rfl, ?_⟩
  refine sp W 0 rfl rfl rfl (fun z4 => ?_) (fun z4 => ?_)
  · rw [runI_t z4]
    refine rg W 0 rfl (⟨g, rfl, rfl⟩)
  · rw [runI_f z4]
    refine go_call W 0 300 rfl (by first | exact True.intro | (simp only [AllC, AllP, addN, Int.toNat_natCast, true_and, and_true, Option.getD, List.length_set, wrapU, pw1, pw7, pw8, pw16, pw23, pw32, pw52, Holds] <;> first | omega | ((repeat' apply And.intro) <;> first | omega | (intros; rfl))) | (simp [AllC, AllP, addN, cloL, clo, mrgL, mrg, wrapU, Holds] <;> omega)) (is_ok b t1 N F g hb hN) ?_
    rintro _ _ ⟨rfl, rfl⟩
    refine ⟨_, rfl, ?_⟩
    refine sp W 0 rfl rfl rfl (fun z3 => ?_) (fun z3 => ?_)
    · rw [runI_t z3]
      refine rg W 0 rfl (⟨g, rfl, rfl⟩)
    · rw [runI_f z3]
      refine go_call W 0 300 rfl (by first | exact True.intro | (simp only [AllC, AllP, addN, Int.toNat_natCast, true_and, and_true, Option.getD, List.length_set, wrapU, pw1, pw7, pw8, pw16, pw23, pw32, pw52, Holds] <;> first | omega | ((repeat' apply And.intro) <;> first | omega | (intros; rfl))) | (simp [AllC, AllP, addN, cloL, clo, mrgL, mrg, wrapU, Holds] <;> omega)) (is_ok b t0 N F g hb hN) ?_
      rintro _ _ ⟨rfl, rfl⟩
      refine ⟨_, rfl, ?_⟩
      refine sp W 0 rfl rfl rfl (fun z2 => ?_) (fun z2 => ?_)
      · rw [runI_t z2]
        refine rg W 0 rfl (⟨g, rfl, rfl⟩)
      · rw [runI_f z2]
        refine go_call W 0 300 rfl (by first | exact True.intro | (simp only [AllC, AllP, addN, Int.toNat_natCast, true_and, and_true, Option.getD, List.length_set, wrapU, pw1, pw7, pw8, pw16, pw23, pw32, pw52, Holds] <;> first | omega | ((repeat' apply And.intro) <;> first | omega | (intros; rfl))) | (simp [AllC, AllP, addN, cloL, clo, mrgL, mrg, wrapU, Holds] <;> omega)) (is_ok a t1 N F g ha hN) ?_
        rintro _ _ ⟨rfl, rfl⟩
        refine ⟨_, rfl, ?_⟩
        refine sp W 0 rfl rfl rfl (fun z1 => ?_) (fun z1 => ?_)
        · rw [runI_t z1]
          refine rg W 0 rfl (⟨g, rfl, rfl⟩)
        · rw [runI_f z1]
          refine go_call W 0 300 rfl (by first | exact True.intro | (simp only [AllC, AllP, addN, Int.toNat_natCast, true_and, and_true, Option.getD, List.length_set, wrapU, pw1, pw7, pw8, pw16, pw23, pw32, pw52, Holds] <;> first | omega | ((repeat' apply And.intro) <;> first | omega | (intros; rfl))) | (simp [AllC, AllP, addN, cloL, clo, mrgL, mrg, wrapU, Holds] <;> omega)) (lay_ok ⟨6, a, b, 0, []⟩ N F g hN) ?_
          rintro _ _ ⟨g', rfl, rfl⟩
          refine ⟨_, rfl, ?_⟩
          refine rg W 0 rfl (⟨g', rfl, rfl⟩)
theorem by_ok (a b : Int) (N : List Gn) (F : Bool) (g : Nat) (ha : 0 ≤ a) (hb : 0 ≤ b) (hN : N.length ≤ 120) : AFun Tryz.prog 80 [.ptr 0 0 0 0, .int .i64 a, .int .i64 b] (LayS N F g) (LayQ (runI (byP a b) N F)) := by
  refine afun_of Tryz.func80 Tryz.call80 rfl Tryz.ntmps80 rfl ?_
  have W : Walk Tryz.prog TT 80 _ := Walk.of TT_ok Tryz.func80 Tryz.results80
  unfold byP
  refine go_call W 0 300 rfl (by first | exact True.intro | (simp only [AllC, AllP, addN, Int.toNat_natCast, true_and, and_true, Option.getD, List.length_set, wrapU, pw1, pw7, pw8, pw16, pw23, pw32, pw52, Holds] <;> first | omega | ((repeat' apply And.intro) <;> first | omega | (intros; rfl))) | (simp [AllC, AllP, addN, cloL, clo, mrgL, mrg, wrapU, Holds] <;> omega)) (is_ok a t0 N F g ha hN) ?_
  rintro _ _ ⟨rfl, rfl⟩
  refine ⟨_, rfl, ?_⟩
  refine sp W 0 rfl rfl rfl (fun z1 => ?_) (fun z1 => ?_)
  · rw [runI_t z1]
    refine rg W 0 rfl (⟨g, rfl, rfl⟩)
  · rw [runI_f z1]
    refine go_call W 0 300 rfl (by first | exact True.intro | (simp only [AllC, AllP, addN, Int.toNat_natCast, true_and, and_true, Option.getD, List.length_set, wrapU, pw1, pw7, pw8, pw16, pw23, pw32, pw52, Holds] <;> first | omega | ((repeat' apply And.intro) <;> first | omega | (intros; rfl))) | (simp [AllC, AllP, addN, cloL, clo, mrgL, mrg, wrapU, Holds] <;> omega)) (lay_ok ⟨7, a, b, 0, []⟩ N F g hN) ?_
    rintro _ _ ⟨g', rfl, rfl⟩
    refine ⟨_, rfl, ?_⟩
    refine rg W 0 rfl (⟨g', rfl, rfl⟩)

theorem raised_ok (a n : Int) (N : List Gn) (F : Bool) (g : Nat) (hN : N.length ≤ 120) : AFun Tryz.prog 81 [.ptr 0 0 0 0, .int .i64 a, .int .i64 n] (LayS N F g) (LayQ (runI (raisedP a n) N F)) := by
  refine afun_of Tryz.func81 Tryz.call81 rfl Tryz.ntmps81 rfl ?_
  have W : Walk Tryz.prog TT 81 _ := Walk.of TT_ok Tryz.func81 Tryz.results81
  unfold raisedP
  refine sp W 0 rfl rfl rfl (fun h1 => ?_) (fun h1 => ?_)
  · rw [if_pos h1]
    refine rg W 0 rfl (⟨g, rfl, rfl⟩)
  · rw [if_neg h1]
    refine go_call W 0 300 rfl (by first | exact True.intro | (simp only [AllC, AllP, addN, Int.toNat_natCast, true_and, and_true, Option.getD, List.length_set, wrapU, pw1, pw7, pw8, pw16, pw23, pw32, pw52, Holds] <;> first | omega | ((repeat' apply And.intro) <;> first | omega | (intros; rfl))) | (simp [AllC, AllP, addN, cloL, clo, mrgL, mrg, wrapU, Holds] <;> omega)) (lay_ok ⟨8, a, 0, n, []⟩ N F g hN) ?_
    rintro _ _ ⟨g', rfl, rfl⟩
    refine ⟨_, rfl, ?_⟩
    refine rg W 0 rfl (⟨g', rfl, rfl⟩)
theorem number_ok (n : Int) (N : List Gn) (F : Bool) (g : Nat) (h0 : 0 ≤ n) (h1 : n ≤ 1000000) (hN : N.length ≤ 120) : AFun Tryz.prog 74 [.ptr 0 0 0 0, .int .i64 n] (LayS N F g) (LayQ (runI (numP (Lib.decDigits n.toNat)) N F)) := by
  refine afun_of Tryz.func74 Tryz.call74 rfl Tryz.ntmps74 rfl ?_
  have W : Walk Tryz.prog TT 74 _ := Walk.of TT_ok Tryz.func74 Tryz.results74
  refine ce W 0 rfl rfl (itoaAll_ok n h0 (by omega)) rfl ?_
  refine go_call W 0 300 rfl (by first | exact True.intro | (simp only [AllC, AllP, addN, Int.toNat_natCast, true_and, and_true, Option.getD, List.length_set, wrapU, pw1, pw7, pw8, pw16, pw23, pw32, pw52, Holds] <;> first | omega | ((repeat' apply And.intro) <;> first | omega | (intros; rfl))) | (simp [AllC, AllP, addN, cloL, clo, mrgL, mrg, wrapU, Holds] <;> omega)) (lay_ok (numG (Lib.decDigits n.toNat)) N F g hN) ?_
  rintro _ _ ⟨g', rfl, rfl⟩
  refine ⟨_, rfl, ?_⟩
  refine rg W 0 rfl (⟨g', rfl, rfl⟩)
end Pf
