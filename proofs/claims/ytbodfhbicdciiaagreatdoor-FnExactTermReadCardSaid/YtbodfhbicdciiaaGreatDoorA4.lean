/- Part 4 of the lemmas that the claim rests on: an abstract machine over the model, what it is sound for, and the contracts of the functions that the law reaches. -/
import Derived.Test.YtbodfhbicdciiaaGreatDoorA3
set_option linter.unusedSimpArgs false
set_option linter.unusedVariables false
set_option maxHeartbeats 4000000
/- The reader of terms, impl: atoms; all of it -/
namespace Pf
open Go Go.Proofs
abbrev kM (w : List UInt8) : Int := mget (mput (mput (mput (mput [] [Sum.inr wSqrt] 9) [Sum.inr wAbs] 10) [Sum.inr wMin] 11) [Sum.inr wMax] 12) [Sum.inr w]
theorem kindK {w : List UInt8} (h : w ∈ [wSqrt, wAbs, wMin, wMax]) : kM w = fnK w := by
  simp only [List.mem_cons, List.not_mem_nil, or_false] at h
  rcases h with rfl | rfl | rfl | rfl <;> decide
theorem partsK {w : List UInt8} (h : w ∈ [wSqrt, wAbs, wMin, wMax]) : partsZ (fnK w) 0 [] = (fnN w : Nat) := by
  simp only [List.mem_cons, List.not_mem_nil, or_false] at h
  rcases h with rfl | rfl | rfl | rfl <;> simp [fnK, fnN, partsZ]
theorem rPutK_ok (s : RS) (g : Nat) {w : List UInt8} (h : w ∈ [wSqrt, wAbs, wMin, wMax]) (hn : s.nodes.length ≤ 1000000) : AFun Tryz.prog 111 [.ptr 0 0 0 0, .int .i64 (kM w), .int .i64 0, .str []] (LayI s g) (fun u H => u = .tup [] ∧ ∃ g', H = LayI (s.put (fnK w) 0 []) g') := by
  rw [kindK h]
  exact rPut_ok s g _ 0 [] hn
theorem pr_bool {p : Prop} {b : Bool} (h : p ↔ b = true) : Sub (.pr p) (.bool b) := fun _ _ _ h' => by
  cases h' with
  | @pr _ _ b' hb =>
    have : b' = b := by cases b <;> cases b' <;> simp_all
    subst this
    exact .bool
/-- .. whatever is known of 'many'. -/
theorem rPutP_ok (s : RS) (g : Nat) (k n : Int) (t : List UInt8) (p : Prop) (hn : s.nodes.length ≤ 1000000) : AFun Tryz.prog 111 [.ptr 0 0 0 0, .int .i64 k, .int .i64 n, .str t] [.lst 0 [[.fz s.toks.length (tkR s.toks), .sl 1 g 0 s.nodes.length, .bool s.bad, .pr p]], .tab g s.nodes.length (nodeR s.nodes)]
    (fun u H => u = .tup [] ∧ ∃ g', H = [.lst 0 [[.fz s.toks.length (tkR s.toks), .sl 1 g' 0 (s.put k n t).nodes.length, .bool s.bad, .pr p]], .tab g' (s.put k n t).nodes.length (nodeR (s.put k n t).nodes)]) := by
  refine AFun.tab 1 ?_
  refine AFun.trim 2 ?_ (by simp)
  refine afun_of Tryz.func111 Tryz.call111 rfl Tryz.ntmps111 rfl ?_
  have W : Walk Tryz.prog TT 111 _ := Walk.of TT_ok Tryz.func111 Tryz.results111
  refine go_retS W 0 300 2 rfl (by simp only [AllC, Nat.zero_add, true_and, and_true]; exact ⟨Nat.le_refl _, by omega, fun i => rfl⟩) rfl (by first | exact True.intro | (simp only [AllC, AllP, addN, Int.toNat_natCast, true_and, and_true, Option.getD, List.length_set, wrapU, pw1, pw7, pw8, pw16, pw23, pw32, pw52, Holds] <;> first | omega | ((repeat' apply And.intro) <;> first | omega | (intros; rfl))) | (simp [AllC, AllP, addN, cloL, clo, mrgL, mrg, wrapU, Holds] <;> omega)) (.tup []) .refl rfl ⟨_, _, _, nodeR (s.put k n t).nodes, _, rfl, rfl, rfl, fun i hi => ?_, rfl, g + 1, ?_⟩
  · rw [addN0] at hi ⊢
    exact (nodeR_app s.nodes (k, n, t) i hi).symm
  · unfold RS.put
    rw [addN0, List.length_append]
    rfl
theorem iAtom (f : Nat) (ih : AllI f) (s : RS) (g : Nat) (hs : RsOk s) (hf : need .atom s ≤ f + 1) : CI (f + 1) .atom s g := by
  unfold CI
  refine AFun.trim 2 ?_ (by simp [LayI])
  refine afun_of Tryz.func140 Tryz.call140 rfl Tryz.ntmps140 rfl ?_
  have W : Walk Tryz.prog TT 140 _ := Walk.of TT_ok Tryz.func140 Tryz.results140
  refine go_callS W 0 300 [0, 1, 2] rfl (by first | exact True.intro | (simp only [AllC, AllP, addN, Int.toNat_natCast, true_and, and_true, Option.getD, List.length_set, wrapU, pw1, pw7, pw8, pw16, pw23, pw32, pw52, Holds] <;> first | omega | ((repeat' apply And.intro) <;> first | omega | (intros; rfl))) | (simp [AllC, AllP, addN, cloL, clo, mrgL, mrg, wrapU, Holds] <;> omega)) (rAt1_ok s g wOpen) rfl rfl ⟨rfl, fun _ _ => rfl, rfl, trivial⟩ ⟨rfl, rfl, rfl, trivial⟩ rfl ?_
  rintro _ _ ⟨rfl, rfl⟩
  refine ⟨_, _, rfl, rfl, ?_⟩
  have hg := hs.2
  refine sp W 0 rfl rfl rfl (fun z1 => ?_) (fun z1 => ?_)
  · have c2 := ih f (Nat.le_refl _) .args s g hs (by simp only [need, rankM] at *; omega)
    unfold CI at c2
    have e : pI (f + 1) .atom s = (0, if (pI f .args s).1 ≠ 1 then (pI f .args s).2.fail else (pI f .args s).2) := by rw [pI, if_pos z1]
    rw [e]
    generalize pI f .args s = q at *
    refine go_callS W 0 300 [0, 1] rfl (by first | exact True.intro | (simp only [AllC, AllP, addN, Int.toNat_natCast, true_and, and_true, Option.getD, List.length_set, wrapU, pw1, pw7, pw8, pw16, pw23, pw32, pw52, Holds] <;> first | omega | ((repeat' apply And.intro) <;> first | omega | (intros; rfl))) | (simp [AllC, AllP, addN, cloL, clo, mrgL, mrg, wrapU, Holds] <;> omega)) c2 rfl rfl ⟨rfl, fun _ _ => rfl, trivial⟩ ⟨rfl, rfl, trivial⟩ rfl ?_
    rintro _ _ ⟨rfl, g3, rfl⟩
    refine ⟨_, _, rfl, rfl, ?_⟩
    refine sp W 0 rfl rfl rfl (fun z2 => ?_) (fun z2 => ?_)
    · rw [if_pos (by omega)]
      refine go_retS W 0 300 2 rfl (by first | exact True.intro | (simp only [AllC, AllP, addN, Int.toNat_natCast, true_and, and_true, Option.getD, List.length_set, wrapU, pw1, pw7, pw8, pw16, pw23, pw32, pw52, Holds] <;> first | omega | ((repeat' apply And.intro) <;> first | omega | (intros; rfl))) | (simp [AllC, AllP, addN, cloL, clo, mrgL, mrg, wrapU, Holds] <;> omega)) rfl (by first | exact True.intro | (simp only [AllC, AllP, addN, Int.toNat_natCast, true_and, and_true, Option.getD, List.length_set, wrapU, pw1, pw7, pw8, pw16, pw23, pw32, pw52, Holds] <;> first | omega | ((repeat' apply And.intro) <;> first | omega | (intros; rfl))) | (simp [AllC, AllP, addN, cloL, clo, mrgL, mrg, wrapU, Holds] <;> omega)) (.tup []) .refl rfl ⟨rfl, g3, rfl⟩
    · rw [if_neg (by omega)]
      refine go_retS W 0 300 2 rfl (by first | exact True.intro | (simp only [AllC, AllP, addN, Int.toNat_natCast, true_and, and_true, Option.getD, List.length_set, wrapU, pw1, pw7, pw8, pw16, pw23, pw32, pw52, Holds] <;> first | omega | ((repeat' apply And.intro) <;> first | omega | (intros; rfl))) | (simp [AllC, AllP, addN, cloL, clo, mrgL, mrg, wrapU, Holds] <;> omega)) rfl (by first | exact True.intro | (simp only [AllC, AllP, addN, Int.toNat_natCast, true_and, and_true, Option.getD, List.length_set, wrapU, pw1, pw7, pw8, pw16, pw23, pw32, pw52, Holds] <;> first | omega | ((repeat' apply And.intro) <;> first | omega | (intros; rfl))) | (simp [AllC, AllP, addN, cloL, clo, mrgL, mrg, wrapU, Holds] <;> omega)) (.tup []) .refl rfl ⟨rfl, g3, rfl⟩
  refine go_callS W 0 300 [0, 1] rfl (by first | exact True.intro | (simp only [AllC, AllP, addN, Int.toNat_natCast, true_and, and_true, Option.getD, List.length_set, wrapU, pw1, pw7, pw8, pw16, pw23, pw32, pw52, Holds] <;> first | omega | ((repeat' apply And.intro) <;> first | omega | (intros; rfl))) | (simp [AllC, AllP, addN, cloL, clo, mrgL, mrg, wrapU, Holds] <;> omega)) (rNext_ok s g) rfl rfl ⟨rfl, fun _ _ => rfl, trivial⟩ ⟨rfl, rfl, trivial⟩ rfl ?_
  rintro _ _ ⟨rfl, rfl⟩
  refine ⟨_, _, rfl, rfl, ?_⟩
  have hq := hs.shr (shr_next s)
  have hg2 := hq.2
  refine sp W 0 rfl rfl rfl (fun z2 => ?_) (fun z2 => ?_)
  · have e : pI (f + 1) .atom s = (0, s.next.put 1 0 s.hd.2) := by rw [pI, if_neg z1, if_pos z2]
    rw [e]
    refine go_callS W 0 300 [0, 1] rfl (by first | exact True.intro | (simp only [AllC, AllP, addN, Int.toNat_natCast, true_and, and_true, Option.getD, List.length_set, wrapU, pw1, pw7, pw8, pw16, pw23, pw32, pw52, Holds] <;> first | omega | ((repeat' apply And.intro) <;> first | omega | (intros; rfl))) | (simp [AllC, AllP, addN, cloL, clo, mrgL, mrg, wrapU, Holds] <;> omega)) (rPut_ok s.next g 1 0 s.hd.2 (by omega)) rfl rfl ⟨rfl, fun _ _ => rfl, trivial⟩ ⟨rfl, rfl, trivial⟩ rfl ?_
    rintro _ _ ⟨rfl, g4, rfl⟩
    refine ⟨_, _, rfl, rfl, ?_⟩
    refine go_retS W 0 300 2 rfl (by first | exact True.intro | (simp only [AllC, AllP, addN, Int.toNat_natCast, true_and, and_true, Option.getD, List.length_set, wrapU, pw1, pw7, pw8, pw16, pw23, pw32, pw52, Holds] <;> first | omega | ((repeat' apply And.intro) <;> first | omega | (intros; rfl))) | (simp [AllC, AllP, addN, cloL, clo, mrgL, mrg, wrapU, Holds] <;> omega)) rfl (by first | exact True.intro | (simp only [AllC, AllP, addN, Int.toNat_natCast, true_and, and_true, Option.getD, List.length_set, wrapU, pw1, pw7, pw8, pw16, pw23, pw32, pw52, Holds] <;> first | omega | ((repeat' apply And.intro) <;> first | omega | (intros; rfl))) | (simp [AllC, AllP, addN, cloL, clo, mrgL, mrg, wrapU, Holds] <;> omega)) (.tup []) .refl rfl ⟨rfl, g4, rfl⟩
  refine sp W 0 rfl rfl rfl (fun z3 => ?_) (fun z3 => ?_)
  · have e : pI (f + 1) .atom s = (0, s.next.fail) := by rw [pI, if_neg z1, if_neg z2, if_pos z3]
    rw [e]
    refine go_retS W 0 300 2 rfl (by first | exact True.intro | (simp only [AllC, AllP, addN, Int.toNat_natCast, true_and, and_true, Option.getD, List.length_set, wrapU, pw1, pw7, pw8, pw16, pw23, pw32, pw52, Holds] <;> first | omega | ((repeat' apply And.intro) <;> first | omega | (intros; rfl))) | (simp [AllC, AllP, addN, cloL, clo, mrgL, mrg, wrapU, Holds] <;> omega)) rfl (by first | exact True.intro | (simp only [AllC, AllP, addN, Int.toNat_natCast, true_and, and_true, Option.getD, List.length_set, wrapU, pw1, pw7, pw8, pw16, pw23, pw32, pw52, Holds] <;> first | omega | ((repeat' apply And.intro) <;> first | omega | (intros; rfl))) | (simp [AllC, AllP, addN, cloL, clo, mrgL, mrg, wrapU, Holds] <;> omega)) (.tup []) .refl rfl ⟨rfl, g, rfl⟩
  have z3 : s.hd.1 = 1 := by omega
  have hp := hd_pos z3 (by omega)
  have nn := next_len hp
  have c2 := ih f (Nat.le_refl _) .args s.next g hq (by simp only [need, rankM] at *; omega)
  unfold CI at c2
  have shA := pI_shr f .args s.next
  have hcA := shA.cnt
  have eW : s.hd.2 ∈ [wSqrt, wAbs, wMin, wMax] → pI (f + 1) .atom s = (0, (if (pI f .args s.next).1 ≠ fnN s.hd.2 then (pI f .args s.next).2.fail else (pI f .args s.next).2).put (fnK s.hd.2) 0 []) := fun h => by rw [pI, if_neg z1, if_neg z2, if_neg (by omega), if_pos h]
  have eN : ¬ s.hd.2 ∈ [wSqrt, wAbs, wMin, wMax] → ¬ (wordP s.hd.2 ∧ ¬ s.hd.2 ∈ ownW) → pI (f + 1) .atom s = (0, s.next.fail) := fun h k => by rw [pI, if_neg z1, if_neg z2, if_neg (by omega), if_neg h, if_pos k]
  have eC : ¬ s.hd.2 ∈ [wSqrt, wAbs, wMin, wMax] → (wordP s.hd.2 ∧ ¬ s.hd.2 ∈ ownW) → s.next.isAt [wOpen] → pI (f + 1) .atom s = (0, { (pI f .args s.next).2 with many := (pI f .args s.next).2.many || decide (6 < (pI f .args s.next).1) }.put 13 (pI f .args s.next).1 s.hd.2) := fun h k m => by rw [pI, if_neg z1, if_neg z2, if_neg (by omega), if_neg h, if_neg (fun x => x k), if_pos m]
  have eD : ¬ s.hd.2 ∈ [wSqrt, wAbs, wMin, wMax] → (wordP s.hd.2 ∧ ¬ s.hd.2 ∈ ownW) → ¬ s.next.isAt [wOpen] → pI (f + 1) .atom s = (0, s.next.put 2 0 s.hd.2) := fun h k m => by rw [pI, if_neg z1, if_neg z2, if_neg (by omega), if_neg h, if_neg (fun x => x k), if_neg m]
  have hqA := hq.shr shA
  generalize pI f .args s.next = q at *
  refine sp W 0 rfl rfl rfl (fun a1 => ?_) (fun a1 => ?_)
  · have hw : s.hd.2 ∈ [wSqrt, wAbs, wMin, wMax] := by rw [a1]; simp
    rw [eW hw]
    refine go_callS W 0 300 [0, 1] rfl (by first | exact True.intro | (simp only [AllC, AllP, addN, Int.toNat_natCast, true_and, and_true, Option.getD, List.length_set, wrapU, pw1, pw7, pw8, pw16, pw23, pw32, pw52, Holds] <;> first | omega | ((repeat' apply And.intro) <;> first | omega | (intros; rfl))) | (simp [AllC, AllP, addN, cloL, clo, mrgL, mrg, wrapU, Holds] <;> omega)) c2 rfl rfl ⟨rfl, fun _ _ => rfl, trivial⟩ ⟨rfl, rfl, trivial⟩ rfl ?_
    rintro _ _ ⟨rfl, g3, rfl⟩
    refine ⟨_, _, rfl, rfl, ?_⟩
    have cp : AFunP Tryz.prog 88 [.agg [.int .i64 (kM s.hd.2), .int .i64 0, .str []]] (· = .int .i64 (fnN s.hd.2 : Nat)) := by
      rw [kindK hw, ← partsK hw]
      exact parts_ok _ 0 [] (by simp)
    refine ce W 0 rfl rfl (cp) rfl ?_
    refine sp W 0 rfl rfl rfl (fun b1 => ?_) (fun b1 => ?_)
    · have e2 : (if q.1 ≠ fnN s.hd.2 then q.2.fail else q.2) = q.2.fail := if_pos (by omega)
      rw [e2]
      refine go_callS W 0 300 [0, 1] rfl (by first | exact True.intro | (simp only [AllC, AllP, addN, Int.toNat_natCast, true_and, and_true, Option.getD, List.length_set, wrapU, pw1, pw7, pw8, pw16, pw23, pw32, pw52, Holds] <;> first | omega | ((repeat' apply And.intro) <;> first | omega | (intros; rfl))) | (simp [AllC, AllP, addN, cloL, clo, mrgL, mrg, wrapU, Holds] <;> omega)) (rPutK_ok q.2.fail g3 hw (by simp only [RS.fail]; omega)) rfl rfl ⟨rfl, fun _ _ => rfl, trivial⟩ ⟨rfl, rfl, trivial⟩ rfl ?_
      rintro _ _ ⟨rfl, g4, rfl⟩
      refine ⟨_, _, rfl, rfl, ?_⟩
      refine go_retS W 0 300 2 rfl (by first | exact True.intro | (simp only [AllC, AllP, addN, Int.toNat_natCast, true_and, and_true, Option.getD, List.length_set, wrapU, pw1, pw7, pw8, pw16, pw23, pw32, pw52, Holds] <;> first | omega | ((repeat' apply And.intro) <;> first | omega | (intros; rfl))) | (simp [AllC, AllP, addN, cloL, clo, mrgL, mrg, wrapU, Holds] <;> omega)) rfl (by first | exact True.intro | (simp only [AllC, AllP, addN, Int.toNat_natCast, true_and, and_true, Option.getD, List.length_set, wrapU, pw1, pw7, pw8, pw16, pw23, pw32, pw52, Holds] <;> first | omega | ((repeat' apply And.intro) <;> first | omega | (intros; rfl))) | (simp [AllC, AllP, addN, cloL, clo, mrgL, mrg, wrapU, Holds] <;> omega)) (.tup []) .refl rfl ⟨rfl, g4, rfl⟩
    · have e2 : (if q.1 ≠ fnN s.hd.2 then q.2.fail else q.2) = q.2 := if_neg (by omega)
      rw [e2]
      refine go_callS W 0 300 [0, 1] rfl (by first | exact True.intro | (simp only [AllC, AllP, addN, Int.toNat_natCast, true_and, and_true, Option.getD, List.length_set, wrapU, pw1, pw7, pw8, pw16, pw23, pw32, pw52, Holds] <;> first | omega | ((repeat' apply And.intro) <;> first | omega | (intros; rfl))) | (simp [AllC, AllP, addN, cloL, clo, mrgL, mrg, wrapU, Holds] <;> omega)) (rPutK_ok q.2 g3 hw (by omega)) rfl rfl ⟨rfl, fun _ _ => rfl, trivial⟩ ⟨rfl, rfl, trivial⟩ rfl ?_
      rintro _ _ ⟨rfl, g4, rfl⟩
      refine ⟨_, _, rfl, rfl, ?_⟩
      refine go_retS W 0 300 2 rfl (by first | exact True.intro | (simp only [AllC, AllP, addN, Int.toNat_natCast, true_and, and_true, Option.getD, List.length_set, wrapU, pw1, pw7, pw8, pw16, pw23, pw32, pw52, Holds] <;> first | omega | ((repeat' apply And.intro) <;> first | omega | (intros; rfl))) | (simp [AllC, AllP, addN, cloL, clo, mrgL, mrg, wrapU, Holds] <;> omega)) rfl (by first | exact True.intro | (simp only [AllC, AllP, addN, Int.toNat_natCast, true_and, and_true, Option.getD, List.length_set, wrapU, pw1, pw7, pw8, pw16, pw23, pw32, pw52, Holds] <;> first | omega | ((repeat' apply And.intro) <;> first | omega | (intros; rfl))) | (simp [AllC, AllP, addN, cloL, clo, mrgL, mrg, wrapU, Holds] <;> omega)) (.tup []) .refl rfl ⟨rfl, g4, rfl⟩
  refine sp W 0 rfl rfl rfl (fun a2 => ?_) (fun a2 => ?_)
  · have hw : s.hd.2 ∈ [wSqrt, wAbs, wMin, wMax] := by rw [a2]; simp
    rw [eW hw]
    refine go_callS W 0 300 [0, 1] rfl (by first | exact True.intro | (simp only [AllC, AllP, addN, Int.toNat_natCast, true_and, and_true, Option.getD, List.length_set, wrapU, pw1, pw7, pw8, pw16, pw23, pw32, pw52, Holds] <;> first | omega | ((repeat' apply And.intro) <;> first | omega | (intros; rfl))) | (simp [AllC, AllP, addN, cloL, clo, mrgL, mrg, wrapU, Holds] <;> omega)) c2 rfl rfl ⟨rfl, fun _ _ => rfl, trivial⟩ ⟨rfl, rfl, trivial⟩ rfl ?_
    rintro _ _ ⟨rfl, g3, rfl⟩
    refine ⟨_, _, rfl, rfl, ?_⟩
    have cp : AFunP Tryz.prog 88 [.agg [.int .i64 (kM s.hd.2), .int .i64 0, .str []]] (· = .int .i64 (fnN s.hd.2 : Nat)) := by
      rw [kindK hw, ← partsK hw]
      exact parts_ok _ 0 [] (by simp)
    refine ce W 0 rfl rfl (cp) rfl ?_
    refine sp W 0 rfl rfl rfl (fun b1 => ?_) (fun b1 => ?_)
    · have e2 : (if q.1 ≠ fnN s.hd.2 then q.2.fail else q.2) = q.2.fail := if_pos (by omega)
      rw [e2]
      refine go_callS W 0 300 [0, 1] rfl (by first | exact True.intro | (simp only [AllC, AllP, addN, Int.toNat_natCast, true_and, and_true, Option.getD, List.length_set, wrapU, pw1, pw7, pw8, pw16, pw23, pw32, pw52, Holds] <;> first | omega | ((repeat' apply And.intro) <;> first | omega | (intros; rfl))) | (simp [AllC, AllP, addN, cloL, clo, mrgL, mrg, wrapU, Holds] <;> omega)) (rPutK_ok q.2.fail g3 hw (by simp only [RS.fail]; omega)) rfl rfl ⟨rfl, fun _ _ => rfl, trivial⟩ ⟨rfl, rfl, trivial⟩ rfl ?_
      rintro _ _ ⟨rfl, g4, rfl⟩
      refine ⟨_, _, rfl, rfl, ?_⟩
      refine go_retS W 0 300 2 rfl (by first | exact True.intro | (simp only [AllC, AllP, addN, Int.toNat_natCast, true_and, and_true, Option.getD, List.length_set, wrapU, pw1, pw7, pw8, pw16, pw23, pw32, pw52, Holds] <;> first | omega | ((repeat' apply And.intro) <;> first | omega | (intros; rfl))) | (simp [AllC, AllP, addN, cloL, clo, mrgL, mrg, wrapU, Holds] <;> omega)) rfl (by first | exact True.intro | (simp only [AllC, AllP, addN, Int.toNat_natCast, true_and, and_true, Option.getD, List.length_set, wrapU, pw1, pw7, pw8, pw16, pw23, pw32, pw52, Holds] <;> first | omega | ((repeat' apply And.intro) <;> first | omega | (intros; rfl))) | (simp [AllC, AllP, addN, cloL, clo, mrgL, mrg, wrapU, Holds] <;> omega)) (.tup []) .refl rfl ⟨rfl, g4, rfl⟩
    · have e2 : (if q.1 ≠ fnN s.hd.2 then q.2.fail else q.2) = q.2 := if_neg (by omega)
      rw [e2]
      refine go_callS W 0 300 [0, 1] rfl (by first | exact True.intro | (simp only [AllC, AllP, addN, Int.toNat_natCast, true_and, and_true, Option.getD, List.length_set, wrapU, pw1, pw7, pw8, pw16, pw23, pw32, pw52, Holds] <;> first | omega | ((repeat' apply And.intro) <;> first | omega | (intros; rfl))) | (simp [AllC, AllP, addN, cloL, clo, mrgL, mrg, wrapU, Holds] <;> omega)) (rPutK_ok q.2 g3 hw (by omega)) rfl rfl ⟨rfl, fun _ _ => rfl, trivial⟩ ⟨rfl, rfl, trivial⟩ rfl ?_
      rintro _ _ ⟨rfl, g4, rfl⟩
      refine ⟨_, _, rfl, rfl, ?_⟩
      refine go_retS W 0 300 2 rfl (by first | exact True.intro | (simp only [AllC, AllP, addN, Int.toNat_natCast, true_and, and_true, Option.getD, List.length_set, wrapU, pw1, pw7, pw8, pw16, pw23, pw32, pw52, Holds] <;> first | omega | ((repeat' apply And.intro) <;> first | omega | (intros; rfl))) | (simp [AllC, AllP, addN, cloL, clo, mrgL, mrg, wrapU, Holds] <;> omega)) rfl (by first | exact True.intro | (simp only [AllC, AllP, addN, Int.toNat_natCast, true_and, and_true, Option.getD, List.length_set, wrapU, pw1, pw7, pw8, pw16, pw23, pw32, pw52, Holds] <;> first | omega | ((repeat' apply And.intro) <;> first | omega | (intros; rfl))) | (simp [AllC, AllP, addN, cloL, clo, mrgL, mrg, wrapU, Holds] <;> omega)) (.tup []) .refl rfl ⟨rfl, g4, rfl⟩
  refine sp W 0 rfl rfl rfl (fun a3 => ?_) (fun a3 => ?_)
  · have hw : s.hd.2 ∈ [wSqrt, wAbs, wMin, wMax] := by rw [a3]; simp
    rw [eW hw]
    refine go_callS W 0 300 [0, 1] rfl (by first | exact True.intro | (simp only [AllC, AllP, addN, Int.toNat_natCast, true_and, and_true, Option.getD, List.length_set, wrapU, pw1, pw7, pw8, pw16, pw23, pw32, pw52, Holds] <;> first | omega | ((repeat' apply And.intro) <;> first | omega | (intros; rfl))) | (simp [AllC, AllP, addN, cloL, clo, mrgL, mrg, wrapU, Holds] <;> omega)) c2 rfl rfl ⟨rfl, fun _ _ => rfl, trivial⟩ ⟨rfl, rfl, trivial⟩ rfl ?_
    rintro _ _ ⟨rfl, g3, rfl⟩
    refine ⟨_, _, rfl, rfl, ?_⟩
    have cp : AFunP Tryz.prog 88 [.agg [.int .i64 (kM s.hd.2), .int .i64 0, .str []]] (· = .int .i64 (fnN s.hd.2 : Nat)) := by
      rw [kindK hw, ← partsK hw]
      exact parts_ok _ 0 [] (by simp)
    refine ce W 0 rfl rfl (cp) rfl ?_
    refine sp W 0 rfl rfl rfl (fun b1 => ?_) (fun b1 => ?_)
    · have e2 : (if q.1 ≠ fnN s.hd.2 then q.2.fail else q.2) = q.2.fail := if_pos (by omega)
      rw [e2]
      refine go_callS W 0 300 [0, 1] rfl (by first | exact True.intro | (simp only [AllC, AllP, addN, Int.toNat_natCast, true_and, and_true, Option.getD, List.length_set, wrapU, pw1, pw7, pw8, pw16, pw23, pw32, pw52, Holds] <;> first | omega | ((repeat' apply And.intro) <;> first | omega | (intros; rfl))) | (simp [AllC, AllP, addN, cloL, clo, mrgL, mrg, wrapU, Holds] <;> omega)) (rPutK_ok q.2.fail g3 hw (by simp only [RS.fail]; omega)) rfl rfl ⟨rfl, fun _ _ => rfl, trivial⟩ ⟨rfl, rfl, trivial⟩ rfl ?_
      rintro _ _ ⟨rfl, g4, rfl⟩
      refine ⟨_, _, rfl, rfl, ?_⟩
      refine go_retS W 0 300 2 rfl (by first | exact True.intro | (simp only [AllC, AllP, addN, Int.toNat_natCast, true_and, and_true, Option.getD, List.length_set, wrapU, pw1, pw7, pw8, pw16, pw23, pw32, pw52, Holds] <;> first | omega | ((repeat' apply And.intro) <;> first | omega | (intros; rfl))) | (simp [AllC, AllP, addN, cloL, clo, mrgL, mrg, wrapU, Holds] <;> omega)) rfl (by first | exact True.intro | (simp only [AllC, AllP, addN, Int.toNat_natCast, true_and, and_true, Option.getD, List.length_set, wrapU, pw1, pw7, pw8, pw16, pw23, pw32, pw52, Holds] <;> first | omega | ((repeat' apply And.intro) <;> first | omega | (intros; rfl))) | (simp [AllC, AllP, addN, cloL, clo, mrgL, mrg, wrapU, Holds] <;> omega)) (.tup []) .refl rfl ⟨rfl, g4, rfl⟩
    · have e2 : (if q.1 ≠ fnN s.hd.2 then q.2.fail else q.2) = q.2 := if_neg (by omega)
      rw [e2]
      refine go_callS W 0 300 [0, 1] rfl (by first | exact True.intro | (simp only [AllC, AllP, addN, Int.toNat_natCast, true_and, and_true, Option.getD, List.length_set, wrapU, pw1, pw7, pw8, pw16, pw23, pw32, pw52, Holds] <;> first | omega | ((repeat' apply And.intro) <;> first | omega | (intros; rfl))) | (simp [AllC, AllP, addN, cloL, clo, mrgL, mrg, wrapU, Holds] <;> omega)) (rPutK_ok q.2 g3 hw (by omega)) rfl rfl ⟨rfl, fun _ _ => rfl, trivial⟩ ⟨rfl, rfl, trivial⟩ rfl ?_
      rintro _ _ ⟨rfl, g4, rfl⟩
      refine ⟨_, _, rfl, rfl, ?_⟩
      refine go_retS W 0 300 2 rfl (by first | exact True.intro | (simp only [AllC, AllP, addN, Int.toNat_natCast, true_and, and_true, Option.getD, List.length_set, wrapU, pw1, pw7, pw8, pw16, pw23, pw32, pw52, Holds] <;> first | omega | ((repeat' apply And.intro) <;> first | omega | (intros; rfl))) | (simp [AllC, AllP, addN, cloL, clo, mrgL, mrg, wrapU, Holds] <;> omega)) rfl (by first | exact True.intro | (simp only [AllC, AllP, addN, Int.toNat_natCast, true_and, and_true, Option.getD, List.length_set, wrapU, pw1, pw7, pw8, pw16, pw23, pw32, pw52, Holds] <;> first | omega | ((repeat' apply And.intro) <;> first | omega | (intros; rfl))) | (simp [AllC, AllP, addN, cloL, clo, mrgL, mrg, wrapU, Holds] <;> omega)) (.tup []) .refl rfl ⟨rfl, g4, rfl⟩
  refine sp W 0 rfl rfl rfl (fun a4 => ?_) (fun a4 => ?_)
  · have hw : s.hd.2 ∈ [wSqrt, wAbs, wMin, wMax] := by rw [a4]; simp
    rw [eW hw]
    refine go_callS W 0 300 [0, 1] rfl (by first | exact True.intro | (simp only [AllC, AllP, addN, Int.toNat_natCast, true_and, and_true, Option.getD, List.length_set, wrapU, pw1, pw7, pw8, pw16, pw23, pw32, pw52, Holds] <;> first | omega | ((repeat' apply And.intro) <;> first | omega | (intros; rfl))) | (simp [AllC, AllP, addN, cloL, clo, mrgL, mrg, wrapU, Holds] <;> omega)) c2 rfl rfl ⟨rfl, fun _ _ => rfl, trivial⟩ ⟨rfl, rfl, trivial⟩ rfl ?_
    rintro _ _ ⟨rfl, g3, rfl⟩
    refine ⟨_, _, rfl, rfl, ?_⟩
    have cp : AFunP Tryz.prog 88 [.agg [.int .i64 (kM s.hd.2), .int .i64 0, .str []]] (· = .int .i64 (fnN s.hd.2 : Nat)) := by
      rw [kindK hw, ← partsK hw]
      exact parts_ok _ 0 [] (by simp)
    refine ce W 0 rfl rfl (cp) rfl ?_
    refine sp W 0 rfl rfl rfl (fun b1 => ?_) (fun b1 => ?_)
    · have e2 : (if q.1 ≠ fnN s.hd.2 then q.2.fail else q.2) = q.2.fail := if_pos (by omega)
      rw [e2]
      refine go_callS W 0 300 [0, 1] rfl (by first | exact True.intro | (simp only [AllC, AllP, addN, Int.toNat_natCast, true_and, and_true, Option.getD, List.length_set, wrapU, pw1, pw7, pw8, pw16, pw23, pw32, pw52, Holds] <;> first | omega | ((repeat' apply And.intro) <;> first | omega | (intros; rfl))) | (simp [AllC, AllP, addN, cloL, clo, mrgL, mrg, wrapU, Holds] <;> omega)) (rPutK_ok q.2.fail g3 hw (by simp only [RS.fail]; omega)) rfl rfl ⟨rfl, fun _ _ => rfl, trivial⟩ ⟨rfl, rfl, trivial⟩ rfl ?_
      rintro _ _ ⟨rfl, g4, rfl⟩
      refine ⟨_, _, rfl, rfl, ?_⟩
      refine go_retS W 0 300 2 rfl (by first | exact True.intro | (simp only [AllC, AllP, addN, Int.toNat_natCast, true_and, and_true, Option.getD, List.length_set, wrapU, pw1, pw7, pw8, pw16, pw23, pw32, pw52, Holds] <;> first | omega | ((repeat' apply And.intro) <;> first | omega | (intros; rfl))) | (simp [AllC, AllP, addN, cloL, clo, mrgL, mrg, wrapU, Holds] <;> omega)) rfl (by first | exact True.intro | (simp only [AllC, AllP, addN, Int.toNat_natCast, true_and, and_true, Option.getD, List.length_set, wrapU, pw1, pw7, pw8, pw16, pw23, pw32, pw52, Holds] <;> first | omega | ((repeat' apply And.intro) <;> first | omega | (intros; rfl))) | (simp [AllC, AllP, addN, cloL, clo, mrgL, mrg, wrapU, Holds] <;> omega)) (.tup []) .refl rfl ⟨rfl, g4, rfl⟩
    · have e2 : (if q.1 ≠ fnN s.hd.2 then q.2.fail else q.2) = q.2 := if_neg (by omega)
      rw [e2]
      refine go_callS W 0 300 [0, 1] rfl (by first | exact True.intro | (simp only [AllC, AllP, addN, Int.toNat_natCast, true_and, and_true, Option.getD, List.length_set, wrapU, pw1, pw7, pw8, pw16, pw23, pw32, pw52, Holds] <;> first | omega | ((repeat' apply And.intro) <;> first | omega | (intros; rfl))) | (simp [AllC, AllP, addN, cloL, clo, mrgL, mrg, wrapU, Holds] <;> omega)) (rPutK_ok q.2 g3 hw (by omega)) rfl rfl ⟨rfl, fun _ _ => rfl, trivial⟩ ⟨rfl, rfl, trivial⟩ rfl ?_
      rintro _ _ ⟨rfl, g4, rfl⟩
      refine ⟨_, _, rfl, rfl, ?_⟩
      refine go_retS W 0 300 2 rfl (by first | exact True.intro | (simp only [AllC, AllP, addN, Int.toNat_natCast, true_and, and_true, Option.getD, List.length_set, wrapU, pw1, pw7, pw8, pw16, pw23, pw32, pw52, Holds] <;> first | omega | ((repeat' apply And.intro) <;> first | omega | (intros; rfl))) | (simp [AllC, AllP, addN, cloL, clo, mrgL, mrg, wrapU, Holds] <;> omega)) rfl (by first | exact True.intro | (simp only [AllC, AllP, addN, Int.toNat_natCast, true_and, and_true, Option.getD, List.length_set, wrapU, pw1, pw7, pw8, pw16, pw23, pw32, pw52, Holds] <;> first | omega | ((repeat' apply And.intro) <;> first | omega | (intros; rfl))) | (simp [AllC, AllP, addN, cloL, clo, mrgL, mrg, wrapU, Holds] <;> omega)) (.tup []) .refl rfl ⟨rfl, g4, rfl⟩
  have hnw : ¬ s.hd.2 ∈ [wSqrt, wAbs, wMin, wMax] := by
    simp only [List.mem_cons, List.not_mem_nil, or_false]
    rintro (k | k | k | k)
    · exact a1 k
    · exact a2 k
    · exact a3 k
    · exact a4 k
  have hlen : s.hd.2.length ≤ 1000 := (hs.1 s.hd (getD_memT hp)).2
  refine ce W 0 rfl rfl (langNameOk_ok s.hd.2 (by omega)) rfl ?_
  refine sp W 0 rfl rfl rfl (fun b2 => ?_) (fun b2 => ?_)
  · rw [eN hnw b2]
    refine go_retS W 0 300 2 rfl (by first | exact True.intro | (simp only [AllC, AllP, addN, Int.toNat_natCast, true_and, and_true, Option.getD, List.length_set, wrapU, pw1, pw7, pw8, pw16, pw23, pw32, pw52, Holds] <;> first | omega | ((repeat' apply And.intro) <;> first | omega | (intros; rfl))) | (simp [AllC, AllP, addN, cloL, clo, mrgL, mrg, wrapU, Holds] <;> omega)) rfl (by first | exact True.intro | (simp only [AllC, AllP, addN, Int.toNat_natCast, true_and, and_true, Option.getD, List.length_set, wrapU, pw1, pw7, pw8, pw16, pw23, pw32, pw52, Holds] <;> first | omega | ((repeat' apply And.intro) <;> first | omega | (intros; rfl))) | (simp [AllC, AllP, addN, cloL, clo, mrgL, mrg, wrapU, Holds] <;> omega)) (.tup []) .refl rfl ⟨rfl, g, rfl⟩
  have b2 := Classical.not_not.1 b2
  refine go_callS W 0 300 [0, 1, 4] rfl (by first | exact True.intro | (simp only [AllC, AllP, addN, Int.toNat_natCast, true_and, and_true, Option.getD, List.length_set, wrapU, pw1, pw7, pw8, pw16, pw23, pw32, pw52, Holds] <;> first | omega | ((repeat' apply And.intro) <;> first | omega | (intros; rfl))) | (simp [AllC, AllP, addN, cloL, clo, mrgL, mrg, wrapU, Holds] <;> omega)) (rAt1_ok s.next g wOpen) rfl rfl ⟨rfl, fun _ _ => rfl, rfl, trivial⟩ ⟨rfl, rfl, rfl, trivial⟩ rfl ?_
  rintro _ _ ⟨rfl, rfl⟩
  refine ⟨_, _, rfl, rfl, ?_⟩
  refine sp W 0 rfl rfl rfl (fun c1 => ?_) (fun c1 => ?_)
  · rw [eC hnw b2 c1]
    refine go_callS W 0 300 [0, 1] rfl (by first | exact True.intro | (simp only [AllC, AllP, addN, Int.toNat_natCast, true_and, and_true, Option.getD, List.length_set, wrapU, pw1, pw7, pw8, pw16, pw23, pw32, pw52, Holds] <;> first | omega | ((repeat' apply And.intro) <;> first | omega | (intros; rfl))) | (simp [AllC, AllP, addN, cloL, clo, mrgL, mrg, wrapU, Holds] <;> omega)) c2 rfl rfl ⟨rfl, fun _ _ => rfl, trivial⟩ ⟨rfl, rfl, trivial⟩ rfl ?_
    rintro _ _ ⟨rfl, g3, rfl⟩
    refine ⟨_, _, rfl, rfl, ?_⟩
    clear eW eN eC eD c2 ih
    obtain ⟨n, ⟨ts, ns, b, mn⟩⟩ := q
    dsimp only at hcA hqA ⊢
    rcases mn with _ | _
    · refine go_callS W 0 300 [0, 1] rfl (by first | exact True.intro | (simp only [AllC, AllP, addN, Int.toNat_natCast, true_and, and_true, Option.getD, List.length_set, wrapU, pw1, pw7, pw8, pw16, pw23, pw32, pw52, Holds] <;> first | omega | ((repeat' apply And.intro) <;> first | omega | (intros; rfl))) | (simp [AllC, AllP, addN, cloL, clo, mrgL, mrg, wrapU, Holds] <;> omega)) (rPutP_ok ⟨ts, ns, b, false⟩ g3 13 n s.hd.2 (6 < (n : Int)) (by dsimp only; omega)) rfl rfl ⟨rfl, fun _ _ => rfl, trivial⟩ ⟨rfl, rfl, trivial⟩ rfl ?_
      rintro _ _ ⟨rfl, g4, rfl⟩
      refine ⟨_, _, rfl, rfl, ?_⟩
      refine go_lst 0 [[.fz ts.length (tkR ts), .sl 1 g4 0 (ns ++ [(13, (n : Int), s.hd.2)]).length, .bool b, .bool (false || decide (6 < n))]] rfl rfl rfl rfl (fun i hi => ?_) ?_
      · obtain rfl : i = 0 := by simpa using hi
        exact ⟨.refl, .refl, .refl, pr_bool (by simp only [Bool.false_or, decide_eq_true_eq]; omega), trivial⟩
      refine go_retS W 0 300 2 rfl (by first | exact True.intro | (simp only [AllC, AllP, addN, Int.toNat_natCast, true_and, and_true, Option.getD, List.length_set, wrapU, pw1, pw7, pw8, pw16, pw23, pw32, pw52, Holds] <;> first | omega | ((repeat' apply And.intro) <;> first | omega | (intros; rfl))) | (simp [AllC, AllP, addN, cloL, clo, mrgL, mrg, wrapU, Holds] <;> omega)) rfl (by first | exact True.intro | (simp only [AllC, AllP, addN, Int.toNat_natCast, true_and, and_true, Option.getD, List.length_set, wrapU, pw1, pw7, pw8, pw16, pw23, pw32, pw52, Holds] <;> first | omega | ((repeat' apply And.intro) <;> first | omega | (intros; rfl))) | (simp [AllC, AllP, addN, cloL, clo, mrgL, mrg, wrapU, Holds] <;> omega)) (.tup []) .refl rfl ⟨rfl, g4, rfl⟩
    · refine go_callS W 0 300 [0, 1] rfl (by first | exact True.intro | (simp only [AllC, AllP, addN, Int.toNat_natCast, true_and, and_true, Option.getD, List.length_set, wrapU, pw1, pw7, pw8, pw16, pw23, pw32, pw52, Holds] <;> first | omega | ((repeat' apply And.intro) <;> first | omega | (intros; rfl))) | (simp [AllC, AllP, addN, cloL, clo, mrgL, mrg, wrapU, Holds] <;> omega)) (rPut_ok ⟨ts, ns, b, true⟩ g3 13 n s.hd.2 (by dsimp only; omega)) rfl rfl ⟨rfl, fun _ _ => rfl, trivial⟩ ⟨rfl, rfl, trivial⟩ rfl ?_
      rintro _ _ ⟨rfl, g4, rfl⟩
      refine ⟨_, _, rfl, rfl, ?_⟩
      refine go_retS W 0 300 2 rfl (by first | exact True.intro | (simp only [AllC, AllP, addN, Int.toNat_natCast, true_and, and_true, Option.getD, List.length_set, wrapU, pw1, pw7, pw8, pw16, pw23, pw32, pw52, Holds] <;> first | omega | ((repeat' apply And.intro) <;> first | omega | (intros; rfl))) | (simp [AllC, AllP, addN, cloL, clo, mrgL, mrg, wrapU, Holds] <;> omega)) rfl (by first | exact True.intro | (simp only [AllC, AllP, addN, Int.toNat_natCast, true_and, and_true, Option.getD, List.length_set, wrapU, pw1, pw7, pw8, pw16, pw23, pw32, pw52, Holds] <;> first | omega | ((repeat' apply And.intro) <;> first | omega | (intros; rfl))) | (simp [AllC, AllP, addN, cloL, clo, mrgL, mrg, wrapU, Holds] <;> omega)) (.tup []) .refl rfl ⟨rfl, g4, rfl⟩
  · rw [eD hnw b2 c1]
    refine go_callS W 0 300 [0, 1] rfl (by first | exact True.intro | (simp only [AllC, AllP, addN, Int.toNat_natCast, true_and, and_true, Option.getD, List.length_set, wrapU, pw1, pw7, pw8, pw16, pw23, pw32, pw52, Holds] <;> first | omega | ((repeat' apply And.intro) <;> first | omega | (intros; rfl))) | (simp [AllC, AllP, addN, cloL, clo, mrgL, mrg, wrapU, Holds] <;> omega)) (rPut_ok s.next g 2 0 s.hd.2 (by omega)) rfl rfl ⟨rfl, fun _ _ => rfl, trivial⟩ ⟨rfl, rfl, trivial⟩ rfl ?_
    rintro _ _ ⟨rfl, g4, rfl⟩
    refine ⟨_, _, rfl, rfl, ?_⟩
    refine go_retS W 0 300 2 rfl (by first | exact True.intro | (simp only [AllC, AllP, addN, Int.toNat_natCast, true_and, and_true, Option.getD, List.length_set, wrapU, pw1, pw7, pw8, pw16, pw23, pw32, pw52, Holds] <;> first | omega | ((repeat' apply And.intro) <;> first | omega | (intros; rfl))) | (simp [AllC, AllP, addN, cloL, clo, mrgL, mrg, wrapU, Holds] <;> omega)) rfl (by first | exact True.intro | (simp only [AllC, AllP, addN, Int.toNat_natCast, true_and, and_true, Option.getD, List.length_set, wrapU, pw1, pw7, pw8, pw16, pw23, pw32, pw52, Holds] <;> first | omega | ((repeat' apply And.intro) <;> first | omega | (intros; rfl))) | (simp [AllC, AllP, addN, cloL, clo, mrgL, mrg, wrapU, Holds] <;> omega)) (.tup []) .refl rfl ⟨rfl, g4, rfl⟩
theorem allI : ∀ f, AllI f
  | 0 => fun k hk m s g hs hn => by
    exfalso
    cases m <;> simp only [need, rankM] at hn <;> omega
  | f + 1 => fun k hk m s g hs hn => by
    by_cases h : k ≤ f
    · exact allI f k h m s g hs hn
    · obtain rfl : k = f + 1 := by omega
      cases m with
      | sum => exact iSum f (allI f) s g hs hn
      | prod => exact iProd f (allI f) s g hs hn
      | sgn => exact iSgn f (allI f) s g hs hn
      | atom => exact iAtom f (allI f) s g hs hn
      | args => exact iArgs f (allI f) s g hs hn
      | _ => exact trivial
/-- A term read of tokens. -/
noncomputable def rdS (ts : List Tk) : RS := (pI (8 * ts.length + 6) .sum ⟨ts, [], false, false⟩).2
open Classical in
noncomputable def rdC (ts : List Tk) : Int := if (rdS ts).bad = true ∨ 0 < (rdS ts).toks.length then 4 else if (rdS ts).many = true ∨ 100 < (rdS ts).nodes.length then 5 else 0
end Pf
/- A term read of tokens, impl -/
namespace Pf
open Go Go.Proofs
/-- A block of what is handed back is forgotten. -/
theorem AFun.kil {P : Program} {f : FuncId} {args : List AV} {Hs : AHeap} {Q : AV → AHeap → Prop} (b : Nat) (h : AFun P f args Hs fun u H => ∃ H2, setM ABlk.dead H b = some H2 ∧ Q u H2) : AFun P f args Hs Q := by
  refine ⟨h.1, fun FM β cs w cargs hv hh => ?_⟩
  obtain ⟨v, w', fr, av, FM1, β1, H1, ⟨H2, e2, hq⟩, h1, hH, h3, h4, h5, h6⟩ := h.2 FM β cs w cargs hv hh
  exact ⟨v, w', fr, av, FM1, β1, H2, hq, h1, hH.ded e2, h3.trans (Ext.ded e2), h4, h5, h6⟩
theorem go_stt {P : Program} {f N n0 : Nat} {k : List Item} {T : Env} {H : AHeap} {R : AV → AHeap → Prop} (ds : List Nat) (T1 : Env) (H1 : AHeap) (e : keepM T ds = some T1) (eH : H = H1) (h : AGo P f N n0 k T1 H1 R) : AGo P f N n0 k T H R := by
  subst eH
  exact fun FM β b cs a w a1 a2 a3 a4 hT hH hn => h FM β b cs a w a1 a2 a3 a4 (hT.keep e) hH hn
/-- A sum is read by a reader that has laid down no nodes yet. -/
theorem iSum0 (f : Nat) (ih : AllI f) (ts : List Tk) (hs : RsOk ⟨ts, [], false, false⟩) (hf : need .sum ⟨ts, [], false, false⟩ ≤ f + 1) : AFun Tryz.prog 72 [.ptr 0 0 0 0] [.lst 0 [[.fz ts.length (tkR ts), .nils, .bool false, .bool false]]] (RdI (pI (f + 1) .sum ⟨ts, [], false, false⟩).2 (.tup [])) := by
  refine AFun.trim 2 ?_ (by simp)
  refine afun_of Tryz.func72 Tryz.call72 rfl Tryz.ntmps72 rfl ?_
  have W : Walk Tryz.prog TT 72 _ := Walk.of TT_ok Tryz.func72 Tryz.results72
  refine go_nilC 0 0 1 ((.tab 0 0 (nodeR []))) rfl rfl rfl rfl rfl rfl rfl rfl rfl ?_
  obtain ⟨s, hse⟩ : ∃ s : RS, s = ⟨ts, [], false, false⟩ := ⟨_, rfl⟩
  obtain ⟨g, hge⟩ : ∃ g : Nat, g = 0 := ⟨_, rfl⟩
  refine go_stt [0] [(0, .ptr 0 0 0 0)] (LayI s g) rfl (by rw [hse, hge]; rfl) ?_
  rw [← hse] at hs hf ⊢
  clear hse hge
  have c1 := ih f (Nat.le_refl _) .prod s g hs (by simp only [need, rankM] at *; omega)
  unfold CI at c1
  refine go_callS W 0 300 [0, 1] rfl (by first | exact True.intro | (simp only [AllC, AllP, addN, Int.toNat_natCast, true_and, and_true, Option.getD, List.length_set, wrapU, pw1, pw7, pw8, pw16, pw23, pw32, pw52, Holds] <;> first | omega | ((repeat' apply And.intro) <;> first | omega | (intros; rfl))) | (simp [AllC, AllP, addN, cloL, clo, mrgL, mrg, wrapU, Holds] <;> omega)) c1 rfl rfl ⟨rfl, fun _ _ => rfl, trivial⟩ ⟨rfl, rfl, trivial⟩ rfl ?_
  rintro _ _ ⟨rfl, g1, rfl⟩
  refine ⟨_, _, rfl, rfl, ?_⟩
  refine lp W 0 (σ := Nat × RS × Nat) (fun t => [(0, .ptr 0 0 0 0)]) (fun t => LayI t.2.1 t.2.2) (fun t => t.2.1.toks.length) (fun t => (t.1 ≤ f ∧ need .sumL t.2.1 ≤ t.1 ∧ RsOk t.2.1) ∧ pI (f + 1) .sum s = pI t.1 .sumL t.2.1) (f, (pI f .prod s).2, g1) [0] rfl rfl rfl ⟨⟨Nat.le_refl _, by have := (pI_shr f .prod s).len; simp only [need, rankM] at *; omega, hs.shr (pI_shr f .prod s)⟩, rfl⟩ ?_
  rintro ⟨k, t, g2⟩ ⟨⟨hk, hn, ht⟩, he⟩ ih2
  dsimp only at hk hn ht he ih2 ⊢
  obtain ⟨k, rfl⟩ : ∃ k', k = k' + 1 := ⟨k - 1, by simp only [need, rankM] at hn; omega⟩
  obtain ⟨ts, ns, b, mn⟩ := t
  rcases b with _ | _
  · refine go_callS W 0 300 [0, 1, 2] rfl (by first | exact True.intro | (simp only [AllC, AllP, addN, Int.toNat_natCast, true_and, and_true, Option.getD, List.length_set, wrapU, pw1, pw7, pw8, pw16, pw23, pw32, pw52, Holds] <;> first | omega | ((repeat' apply And.intro) <;> first | omega | (intros; rfl))) | (simp [AllC, AllP, addN, cloL, clo, mrgL, mrg, wrapU, Holds] <;> omega)) (rAt2_ok ⟨ts, ns, false, mn⟩ g2 wPlus wMinus) rfl rfl ⟨rfl, fun _ _ => rfl, rfl, trivial⟩ ⟨rfl, rfl, rfl, trivial⟩ rfl ?_
    rintro _ _ ⟨rfl, rfl⟩
    refine ⟨_, _, rfl, rfl, ?_⟩
    refine sp W 0 rfl rfl rfl (fun z1 => ?_) (fun z1 => ?_)
    · refine go_callS W 0 300 [0, 1] rfl (by first | exact True.intro | (simp only [AllC, AllP, addN, Int.toNat_natCast, true_and, and_true, Option.getD, List.length_set, wrapU, pw1, pw7, pw8, pw16, pw23, pw32, pw52, Holds] <;> first | omega | ((repeat' apply And.intro) <;> first | omega | (intros; rfl))) | (simp [AllC, AllP, addN, cloL, clo, mrgL, mrg, wrapU, Holds] <;> omega)) (rNext_ok ⟨ts, ns, false, mn⟩ g2) rfl rfl ⟨rfl, fun _ _ => rfl, trivial⟩ ⟨rfl, rfl, trivial⟩ rfl ?_
      rintro _ _ ⟨rfl, rfl⟩
      refine ⟨_, _, rfl, rfl, ?_⟩
      have nl := next_len z1.1
      have sh := pI_shr k .prod (RS.next ⟨ts, ns, false, mn⟩)
      have c2 := ih k (by omega) .prod (RS.next ⟨ts, ns, false, mn⟩) g2 (ht.shr (shr_next _)) (by simp only [need, rankM] at *; omega)
      unfold CI at c2
      have hl := sh.len
      have hc := sh.cnt
      have hg := ht.2
      have hnx := ht.shr ((shr_put_next z1.1 sh (if (RS.hd ⟨ts, ns, false, mn⟩).2 = wMinus then 5 else 4) 0 []))
      have e : pI (k + 1) .sumL ⟨ts, ns, false, mn⟩ = pI k .sumL ((pI k .prod (RS.next ⟨ts, ns, false, mn⟩)).2.put (if (RS.hd ⟨ts, ns, false, mn⟩).2 = wMinus then 5 else 4) 0 []) := by
        rw [pI, if_pos ⟨rfl, z1⟩]
      rw [nl.2.1] at hc
      generalize (pI k .prod (RS.next ⟨ts, ns, false, mn⟩)).2 = q at *
      refine sp W 0 rfl rfl rfl (fun z2 => ?_) (fun z2 => ?_)
      · rw [if_pos z2] at e hnx
        refine go_callS W 0 300 [0, 1] rfl (by first | exact True.intro | (simp only [AllC, AllP, addN, Int.toNat_natCast, true_and, and_true, Option.getD, List.length_set, wrapU, pw1, pw7, pw8, pw16, pw23, pw32, pw52, Holds] <;> first | omega | ((repeat' apply And.intro) <;> first | omega | (intros; rfl))) | (simp [AllC, AllP, addN, cloL, clo, mrgL, mrg, wrapU, Holds] <;> omega)) c2 rfl rfl ⟨rfl, fun _ _ => rfl, trivial⟩ ⟨rfl, rfl, trivial⟩ rfl ?_
        rintro _ _ ⟨rfl, g3, rfl⟩
        refine ⟨_, _, rfl, rfl, ?_⟩
        refine go_callS W 0 300 [0, 1] rfl (by first | exact True.intro | (simp only [AllC, AllP, addN, Int.toNat_natCast, true_and, and_true, Option.getD, List.length_set, wrapU, pw1, pw7, pw8, pw16, pw23, pw32, pw52, Holds] <;> first | omega | ((repeat' apply And.intro) <;> first | omega | (intros; rfl))) | (simp [AllC, AllP, addN, cloL, clo, mrgL, mrg, wrapU, Holds] <;> omega)) (rPut_ok q g3 5 0 [] (by dsimp only at *; omega)) rfl rfl ⟨rfl, fun _ _ => rfl, trivial⟩ ⟨rfl, rfl, trivial⟩ rfl ?_
        rintro _ _ ⟨rfl, g4, rfl⟩
        refine ⟨_, _, rfl, rfl, ?_⟩
        have nx := ih2 (k, q.put 5 0 [], g4) ⟨⟨by dsimp only; omega, by simp only [need, rankM, RS.put] at *; omega, hnx⟩, he.trans e⟩ (by simp only [RS.put] at *; omega)
        dsimp only [LayI] at nx
        refine bd W 0 2 [0] rfl rfl rfl rfl rfl (nx)
      · rw [if_neg z2] at e hnx
        refine go_callS W 0 300 [0, 1] rfl (by first | exact True.intro | (simp only [AllC, AllP, addN, Int.toNat_natCast, true_and, and_true, Option.getD, List.length_set, wrapU, pw1, pw7, pw8, pw16, pw23, pw32, pw52, Holds] <;> first | omega | ((repeat' apply And.intro) <;> first | omega | (intros; rfl))) | (simp [AllC, AllP, addN, cloL, clo, mrgL, mrg, wrapU, Holds] <;> omega)) c2 rfl rfl ⟨rfl, fun _ _ => rfl, trivial⟩ ⟨rfl, rfl, trivial⟩ rfl ?_
        rintro _ _ ⟨rfl, g3, rfl⟩
        refine ⟨_, _, rfl, rfl, ?_⟩
        refine go_callS W 0 300 [0, 1] rfl (by first | exact True.intro | (simp only [AllC, AllP, addN, Int.toNat_natCast, true_and, and_true, Option.getD, List.length_set, wrapU, pw1, pw7, pw8, pw16, pw23, pw32, pw52, Holds] <;> first | omega | ((repeat' apply And.intro) <;> first | omega | (intros; rfl))) | (simp [AllC, AllP, addN, cloL, clo, mrgL, mrg, wrapU, Holds] <;> omega)) (rPut_ok q g3 4 0 [] (by dsimp only at *; omega)) rfl rfl ⟨rfl, fun _ _ => rfl, trivial⟩ ⟨rfl, rfl, trivial⟩ rfl ?_
        rintro _ _ ⟨rfl, g4, rfl⟩
        refine ⟨_, _, rfl, rfl, ?_⟩
        have nx := ih2 (k, q.put 4 0 [], g4) ⟨⟨by dsimp only; omega, by simp only [need, rankM, RS.put] at *; omega, hnx⟩, he.trans e⟩ (by simp only [RS.put] at *; omega)
        dsimp only [LayI] at nx
        refine bd W 0 2 [0] rfl rfl rfl rfl rfl (nx)
    · have e : pI (k + 1) .sumL ⟨ts, ns, false, mn⟩ = (0, ⟨ts, ns, false, mn⟩) := by rw [pI, if_neg (fun k => z1 k.2)]
      rw [he, e]
      refine go_retS W 0 300 2 rfl (by first | exact True.intro | (simp only [AllC, AllP, addN, Int.toNat_natCast, true_and, and_true, Option.getD, List.length_set, wrapU, pw1, pw7, pw8, pw16, pw23, pw32, pw52, Holds] <;> first | omega | ((repeat' apply And.intro) <;> first | omega | (intros; rfl))) | (simp [AllC, AllP, addN, cloL, clo, mrgL, mrg, wrapU, Holds] <;> omega)) rfl (by first | exact True.intro | (simp only [AllC, AllP, addN, Int.toNat_natCast, true_and, and_true, Option.getD, List.length_set, wrapU, pw1, pw7, pw8, pw16, pw23, pw32, pw52, Holds] <;> first | omega | ((repeat' apply And.intro) <;> first | omega | (intros; rfl))) | (simp [AllC, AllP, addN, cloL, clo, mrgL, mrg, wrapU, Holds] <;> omega)) (.tup []) .refl rfl ⟨rfl, g2, rfl⟩
  · have e : pI (k + 1) .sumL ⟨ts, ns, true, mn⟩ = (0, ⟨ts, ns, true, mn⟩) := by rw [pI, if_neg (fun k => by cases k.1)]
    rw [he, e]
    refine go_retS W 0 300 2 rfl (by first | exact True.intro | (simp only [AllC, AllP, addN, Int.toNat_natCast, true_and, and_true, Option.getD, List.length_set, wrapU, pw1, pw7, pw8, pw16, pw23, pw32, pw52, Holds] <;> first | omega | ((repeat' apply And.intro) <;> first | omega | (intros; rfl))) | (simp [AllC, AllP, addN, cloL, clo, mrgL, mrg, wrapU, Holds] <;> omega)) rfl (by first | exact True.intro | (simp only [AllC, AllP, addN, Int.toNat_natCast, true_and, and_true, Option.getD, List.length_set, wrapU, pw1, pw7, pw8, pw16, pw23, pw32, pw52, Holds] <;> first | omega | ((repeat' apply And.intro) <;> first | omega | (intros; rfl))) | (simp [AllC, AllP, addN, cloL, clo, mrgL, mrg, wrapU, Holds] <;> omega)) (.tup []) .refl rfl ⟨rfl, g2, rfl⟩
theorem sCloneT_ok (N : List Nd) (g : Nat) (hN : N.length ≤ 1000000) (h0 : 0 < N.length) : AFun Tryz.prog 90 [.sl 0 g 0 N.length] [.tab g N.length (nodeR N)] (fun u H => u = .sl 1 0 0 N.length ∧ H = [.tab g N.length (nodeR N), .tab 0 N.length (nodeR N)]) := by
  refine afun_of Tryz.func90 Tryz.call90 rfl Tryz.ntmps90 rfl ?_
  have W : Walk Tryz.prog TT 90 _ := Walk.of TT_ok Tryz.func90 Tryz.results90
  refine sp W 0 rfl rfl rfl (fun z1 => ?_) (fun z1 => ?_)
  · exfalso; omega
  · refine rg W 0 rfl (⟨rfl, rfl⟩)
theorem sClipT_ok (n g : Nat) (row : Nat → List AV) (hN : n ≤ 1000000) : AFun Tryz.prog 89 [.sl 0 g 0 n] [.tab g n row] (fun u H => u = .sl 0 g 0 n ∧ H = [.tab g n row]) := by
  refine afun_of Tryz.func89 Tryz.call89 rfl Tryz.ntmps89 rfl ?_
  have W : Walk Tryz.prog TT 89 _ := Walk.of TT_ok Tryz.func89 Tryz.results89
  refine rg W 0 rfl (⟨rfl, rfl⟩)
theorem cloneT_ok (N : List Nd) (g : Nat) (hN : N.length ≤ 1000000) (h0 : 0 < N.length) : AFun Tryz.prog 44 [.sl 0 g 0 N.length] [.tab g N.length (nodeR N)] (fun u H => u = .sl 1 0 0 N.length ∧ H = [.tab g N.length (nodeR N), .tab 0 N.length (nodeR N)]) := by
  refine afun_of Tryz.func44 Tryz.call44 rfl Tryz.ntmps44 rfl ?_
  have W : Walk Tryz.prog TT 44 _ := Walk.of TT_ok Tryz.func44 Tryz.results44
  refine go_call W 0 300 rfl (by first | exact True.intro | (simp only [AllC, AllP, addN, Int.toNat_natCast, true_and, and_true, Option.getD, List.length_set, wrapU, pw1, pw7, pw8, pw16, pw23, pw32, pw52, Holds] <;> first | omega | ((repeat' apply And.intro) <;> first | omega | (intros; rfl))) | (simp [AllC, AllP, addN, cloL, clo, mrgL, mrg, wrapU, Holds] <;> omega)) (sCloneT_ok N g hN h0) ?_
  rintro _ _ ⟨rfl, rfl⟩
  refine ⟨_, rfl, ?_⟩
  refine go_callS W 0 300 [1] rfl (by first | exact True.intro | (simp only [AllC, AllP, addN, Int.toNat_natCast, true_and, and_true, Option.getD, List.length_set, wrapU, pw1, pw7, pw8, pw16, pw23, pw32, pw52, Holds] <;> first | omega | ((repeat' apply And.intro) <;> first | omega | (intros; rfl))) | (simp [AllC, AllP, addN, cloL, clo, mrgL, mrg, wrapU, Holds] <;> omega)) (sClipT_ok N.length 0 (nodeR N) hN) rfl rfl ⟨fun _ _ => rfl, trivial⟩ ⟨rfl, trivial⟩ rfl ?_
  rintro _ _ ⟨rfl, rfl⟩
  refine ⟨_, _, rfl, rfl, ?_⟩
  refine rg W 0 rfl (⟨rfl, rfl⟩)
theorem readTerm_no (ts : List Tk) (ht : toksOk ts) (hl : ts.length ≤ 900) (h0 : rdC ts ≠ 0) : AFunP Tryz.prog 26 [.fz ts.length (tkR ts)] (· = .tup [.agg [.nils], .int .i64 (rdC ts)]) := by
  have c : AFun Tryz.prog 72 [.ptr 0 0 0 0] [.lst 0 [[.fz ts.length (tkR ts), .nils, .bool false, .bool false]]] (RdI (rdS ts) (.tup [])) := iSum0 (8 * ts.length + 5) (allI _) ts ⟨ht, by simp; omega⟩ (by simp only [need, rankM]; omega)
  unfold rdC at h0 ⊢
  generalize rdS ts = q at *
  obtain ⟨qt, qn, qb, qm⟩ := q
  refine afun_of Tryz.func26 Tryz.call26 rfl Tryz.ntmps26 rfl ?_
  have W : Walk Tryz.prog TT 26 _ := Walk.of TT_ok Tryz.func26 Tryz.results26
  refine go_callS W 0 300 [1] rfl (by first | exact True.intro | (simp only [AllC, AllP, addN, Int.toNat_natCast, true_and, and_true, Option.getD, List.length_set, wrapU, pw1, pw7, pw8, pw16, pw23, pw32, pw52, Holds] <;> first | omega | ((repeat' apply And.intro) <;> first | omega | (intros; rfl))) | (simp [AllC, AllP, addN, cloL, clo, mrgL, mrg, wrapU, Holds] <;> omega)) c rfl rfl ⟨rfl, trivial⟩ ⟨rfl, trivial⟩ rfl ?_
  rintro _ _ ⟨rfl, g3, rfl⟩
  refine ⟨_, _, rfl, rfl, ?_⟩
  rcases qb with _ | _
  · refine sp W 0 rfl rfl rfl (fun z1 => ?_) (fun z1 => ?_)
    · rw [if_pos (.inr (by omega))]
      refine rp W 0 rfl rfl rfl (.refl)
    · have e : ¬ ((false : Bool) = true ∨ 0 < qt.length) := fun k => k.elim (fun k => by cases k) fun k => z1 (by dsimp only; omega)
      rw [if_neg e] at h0 ⊢
      rcases qm with _ | _
      · refine sp W 0 rfl rfl rfl (fun z2 => ?_) (fun z2 => ?_)
        · rw [if_pos (.inr (by dsimp only at z2 ⊢; omega))]
          refine rp W 0 rfl rfl rfl (.refl)
        · exfalso
          exact h0 (if_neg (fun k => k.elim (fun k => by cases k) fun k => z2 (by dsimp only at k ⊢; omega)))
      · rw [if_pos (.inl rfl)]
        refine rp W 0 rfl rfl rfl (.refl)
  · rw [if_pos (.inl rfl)]
    refine rp W 0 rfl rfl rfl (.refl)
theorem readTerm_yes (ts : List Tk) (ht : toksOk ts) (hl : ts.length ≤ 900) (h0 : rdC ts = 0) (hn : 0 < (rdS ts).nodes.length) : AFun Tryz.prog 26 [.fz ts.length (tkR ts)] [] (fun u H => u = .tup [.agg [.sl 3 0 0 (rdS ts).nodes.length], .int .i64 0] ∧ H = [.dead, .dead, .dead, .tab 0 (rdS ts).nodes.length (nodeR (rdS ts).nodes)]) := by
  have c : AFun Tryz.prog 72 [.ptr 0 0 0 0] [.lst 0 [[.fz ts.length (tkR ts), .nils, .bool false, .bool false]]] (RdI (rdS ts) (.tup [])) := iSum0 (8 * ts.length + 5) (allI _) ts ⟨ht, by simp; omega⟩ (by simp only [need, rankM]; omega)
  unfold rdC at h0
  generalize rdS ts = q at *
  obtain ⟨qt, qn, qb, qm⟩ := q
  dsimp only at h0 hn ⊢
  refine AFun.kil 0 ?_
  refine afun_of Tryz.func26 Tryz.call26 rfl Tryz.ntmps26 rfl ?_
  have W : Walk Tryz.prog TT 26 _ := Walk.of TT_ok Tryz.func26 Tryz.results26
  refine go_callS W 0 300 [1] rfl (by first | exact True.intro | (simp only [AllC, AllP, addN, Int.toNat_natCast, true_and, and_true, Option.getD, List.length_set, wrapU, pw1, pw7, pw8, pw16, pw23, pw32, pw52, Holds] <;> first | omega | ((repeat' apply And.intro) <;> first | omega | (intros; rfl))) | (simp [AllC, AllP, addN, cloL, clo, mrgL, mrg, wrapU, Holds] <;> omega)) c rfl rfl ⟨rfl, trivial⟩ ⟨rfl, trivial⟩ rfl ?_
  rintro _ _ ⟨rfl, g3, rfl⟩
  refine ⟨_, _, rfl, rfl, ?_⟩
  rcases qb with _ | _
  · refine sp W 0 rfl rfl rfl (fun z1 => ?_) (fun z1 => ?_)
    · rw [if_pos (.inr (by dsimp only at z1; omega))] at h0
      exact absurd h0 (by decide)
    · have e : ¬ ((false : Bool) = true ∨ 0 < qt.length) := fun k => k.elim (fun k => by cases k) fun k => z1 (by dsimp only; omega)
      rw [if_neg e] at h0
      rcases qm with _ | _
      · refine sp W 0 rfl rfl rfl (fun z2 => ?_) (fun z2 => ?_)
        · rw [if_pos (.inr (by dsimp only at z2 ⊢; omega))] at h0
          exact absurd h0 (by decide)
        · dsimp only at z2
          refine go_callS W 0 300 [2] rfl (by first | exact True.intro | (simp only [AllC, AllP, addN, Int.toNat_natCast, true_and, and_true, Option.getD, List.length_set, wrapU, pw1, pw7, pw8, pw16, pw23, pw32, pw52, Holds] <;> first | omega | ((repeat' apply And.intro) <;> first | omega | (intros; rfl))) | (simp [AllC, AllP, addN, cloL, clo, mrgL, mrg, wrapU, Holds] <;> omega)) (cloneT_ok qn g3 (by omega) hn) rfl rfl ⟨fun _ _ => rfl, trivial⟩ ⟨rfl, trivial⟩ rfl ?_
          rintro _ _ ⟨rfl, rfl⟩
          refine ⟨_, _, rfl, rfl, ?_⟩
          refine go_dead 1 rfl ?_
          refine go_dead 2 rfl ?_
          refine rg W 0 rfl (⟨_, rfl, rfl, rfl⟩)
      · rw [if_pos (.inl rfl)] at h0
        exact absurd h0 (by decide)
  · rw [if_pos (.inl rfl)] at h0
    exact absurd h0 (by decide)
theorem rdS_pos {ts : List Tk} (h : rdC ts = 0) : 0 < (rdS ts).nodes.length := by
  have hb : (rdS ts).bad = false := by
    cases hb : (rdS ts).bad with
    | false => rfl
    | true =>
      unfold rdC at h
      rw [if_pos (.inl hb)] at h
      exact absurd h (by decide)
  exact pI_ne _ .sum _ rfl rfl (by simp only [need, rankM]; omega) hb
end Pf
/- Signs and words, impl -/
namespace Pf
open Go Go.Proofs
theorem sHasPrefix2_ok (s : List UInt8) (a b : UInt8) (hl : s.length ≤ 1000) : AFunP Tryz.prog 123 [.str s, .str [a, b]] (· = .pr (2 ≤ s.length ∧ s.getD 0 0 = a ∧ s.getD 1 0 = b)) := by
  have e : 2 ≤ s.length → (s.take 2 = [a, b] ↔ s.getD 0 0 = a ∧ s.getD 1 0 = b) := fun h => by
    match s, h with
    | x :: y :: r, _ => simp
  refine afun_of Tryz.func123 Tryz.call123 rfl Tryz.ntmps123 rfl ?_
  have W : Walk Tryz.prog TT 123 _ := Walk.of TT_ok Tryz.func123 Tryz.results123
  refine sp W 0 rfl rfl rfl (fun h1 => ?_) (fun h1 => ?_)
  · refine rp W 0 rfl rfl rfl (.pr ⟨fun k => ⟨by simp only [List.length_cons, List.length_nil] at h1; omega, (e (by simp only [List.length_cons, List.length_nil] at h1; omega)).1 k⟩, fun k => (e k.1).2 k.2⟩)
  · refine rp W 0 rfl rfl rfl (.no (fun k => h1 (by have := k.1; simp only [List.length_cons, List.length_nil]; omega)))
theorem hasPrefix2_ok (s : List UInt8) (a b : UInt8) (hl : s.length ≤ 1000) : AFunP Tryz.prog 105 [.str s, .str [a, b]] (· = .pr (2 ≤ s.length ∧ s.getD 0 0 = a ∧ s.getD 1 0 = b)) := by
  refine afun_of Tryz.func105 Tryz.call105 rfl Tryz.ntmps105 rfl ?_
  have W : Walk Tryz.prog TT 105 _ := Walk.of TT_ok Tryz.func105 Tryz.results105
  refine ce W 0 rfl rfl (sHasPrefix2_ok s a b hl) rfl ?_
  refine rp W 0 rfl rfl rfl (.refl)
theorem indexByte_ok (s : List UInt8) (c : UInt8) : AFunP Tryz.prog 106 [.str s, .int .u8 (c.toNat : Nat)] (· = .int .i64 (Lib.indexByte s c)) := by
  refine afun_of Tryz.func106 Tryz.call106 rfl Tryz.ntmps106 rfl ?_
  have W : Walk Tryz.prog TT 106 _ := Walk.of TT_ok Tryz.func106 Tryz.results106
  refine ce W 0 rfl rfl (sIndexByte_ok s c) rfl ?_
  refine rp W 0 rfl rfl rfl (.refl)
theorem signOf_ok (s : List UInt8) (h0 : s ≠ []) (hl : s.length ≤ 1000) : AFunP Tryz.prog 65 [.str s] (· = .str (s.take (sg s))) := by
  have hp : 0 < s.length := List.length_pos_iff.2 h0
  obtain ⟨k1, k2⟩ := indexByte_cut signs (s.getD 0 0)
  refine afun_of Tryz.func65 Tryz.call65 rfl Tryz.ntmps65 rfl ?_
  have W : Walk Tryz.prog TT 65 _ := Walk.of TT_ok Tryz.func65 Tryz.results65
  refine ce W 0 rfl rfl (hasPrefix2_ok s 60 61 hl) rfl ?_
  refine sp W 0 rfl rfl rfl (fun h1 => ?_) (fun h1 => ?_)
  · have e : sg s = 2 := by unfold sg; rw [if_pos ⟨h1.1, .inl h1.2.1, h1.2.2⟩]
    rw [e]
    refine rp W 0 rfl rfl rfl (.refl)
  refine ce W 0 rfl rfl (hasPrefix2_ok s 62 61 hl) rfl ?_
  refine sp W 0 rfl rfl rfl (fun h2 => ?_) (fun h2 => ?_)
  · have e : sg s = 2 := by unfold sg; rw [if_pos ⟨h2.1, .inr h2.2.1, h2.2.2⟩]
    rw [e]
    refine rp W 0 rfl rfl rfl (.refl)
  have hn : ¬ (2 ≤ s.length ∧ (s.getD 0 0 = 60 ∨ s.getD 0 0 = 62) ∧ s.getD 1 0 = 61) := fun k => k.2.1.elim (fun x => h1 ⟨k.1, x, k.2.2⟩) fun x => h2 ⟨k.1, x, k.2.2⟩
  refine ce W 0 rfl rfl (indexByte_ok signs (s.getD 0 0)) rfl ?_
  refine sp W 0 rfl rfl rfl (fun h3 => ?_) (fun h3 => ?_)
  · have hm : s.getD 0 0 ∈ signs := Classical.byContradiction fun k => by have := (k2 k).1; omega
    have e : sg s = 1 := by unfold sg; rw [if_neg hn, if_pos hm]
    rw [e]
    refine rp W 0 rfl rfl rfl (.refl)
  · have hm : ¬ s.getD 0 0 ∈ signs := fun k => by have := (k1 k).1; omega
    have e : sg s = 0 := by unfold sg; rw [if_neg hn, if_neg hm]
    rw [e]
    refine rp W 0 rfl rfl rfl (.refl)
theorem wordLength_ok (s : List UInt8) (hl : s.length ≤ 1000) : AFunP Tryz.prog 68 [.str s] (· = .int .i64 (wl s : Nat)) := by
  refine afun_of Tryz.func68 Tryz.call68 rfl Tryz.ntmps68 rfl ?_
  have W : Walk Tryz.prog TT 68 _ := Walk.of TT_ok Tryz.func68 Tryz.results68
  refine lp W 0 (σ := Nat) (fun n => [(0, .str s), (3, .int .i64 n)]) (fun _ => []) (fun n => s.length - n) (fun n => n ≤ s.length ∧ ∀ j, j < n → wc s j) 0 [0, 3] rfl rfl rfl ⟨Nat.zero_le _, fun j hj => by omega⟩ ?_
  rintro n ⟨hn, he⟩ ih
  refine sp W 0 rfl rfl rfl (fun z1 => ?_) (fun z1 => ?_)
  · have iN : ((n : Nat) : Int).toNat = n := Int.toNat_natCast n
    have hn2 : n < s.length := by omega
    have nx : wc s n → _ := fun h => ih (n + 1) ⟨by omega, fun j hj => by
      by_cases hj2 : j = n
      · subst hj2; exact h
      · exact he j (by omega)⟩ (by omega)
    refine ce W 0 rfl rfl (isLetter_ok _) rfl ?_
    refine sp W 0 rfl rfl rfl (fun a1 => ?_) (fun a1 => ?_)
    · rw [iN] at a1
      refine bd W 0 0 [0, 3] rfl rfl rfl rfl rfl (nx ⟨hn2, .inl (lbB_iff.2 a1)⟩)
    rw [iN] at a1
    refine ce W 0 rfl rfl (isFigure_ok _) rfl ?_
    refine sp W 0 rfl rfl rfl (fun a2 => ?_) (fun a2 => ?_)
    · rw [iN] at a2
      refine bd W 0 0 [0, 3] rfl rfl rfl rfl rfl (nx ⟨hn2, .inr (.inl (dB_iff.2 a2))⟩)
    rw [iN] at a2
    refine sp W 0 rfl rfl rfl (fun a3 => ?_) (fun a3 => ?_)
    · rw [iN] at a3
      refine bd W 0 0 [0, 3] rfl rfl rfl rfl rfl (nx ⟨hn2, .inr (.inr (.inl (u8_eq.1 a3)))⟩)
    rw [iN] at a3
    have no : ¬ (s.getD n 0 = 45 ∧ dB (s.getD 0 0) = true ∧ s.getD (n - 1) 0 = 101) → wl s = n := fun h => wl_of he fun k => k.2.elim (fun x => a1 (lbB_iff.1 x)) fun x => x.elim (fun x => a2 (dB_iff.1 x)) fun x => x.elim (fun x => a3 (u8_eq.2 x)) h
    refine sp W 0 rfl rfl rfl (fun a4 => ?_) (fun a4 => ?_)
    · rw [iN] at a4
      refine ce W 0 rfl rfl (isFigure_ok _) rfl ?_
      refine sp W 0 rfl rfl rfl (fun a5 => ?_) (fun a5 => ?_)
      · have a5 : 48 ≤ ((s.getD 0 0).toNat : Int) ∧ ((s.getD 0 0).toNat : Int) ≤ 57 := a5
        have hn1 : 1 ≤ n := by
          rcases Nat.eq_zero_or_pos n with h | h
          · subst h; omega
          · exact h
        have iM : ((n : Nat) - 1 : Int).toNat = n - 1 := by omega
        refine sp W 0 rfl rfl rfl (fun a6 => ?_) (fun a6 => ?_)
        · rw [iM] at a6
          refine bd W 0 0 [0, 3] rfl rfl rfl rfl rfl (nx ⟨hn2, .inr (.inr (.inr ⟨u8_eq.1 a4, dB_iff.2 a5, u8_eq.1 a6⟩))⟩)
        · rw [iM] at a6
          rw [no fun k => a6 (u8_eq.2 k.2.2)]
          refine rp W 0 rfl rfl rfl (.refl)
      · rw [no fun k => a5 (dB_iff.1 k.2.1)]
        refine rp W 0 rfl rfl rfl (.refl)
    · rw [iN] at a4
      rw [no fun k => a4 (u8_eq.2 k.1)]
      refine rp W 0 rfl rfl rfl (.refl)
  · have e : wl s = n := wl_of he fun k => z1 (by have := k.1; omega)
    rw [e]
    refine rp W 0 rfl rfl rfl (.refl)
end Pf
/- The tokens of a line, impl -/
namespace Pf
open Go Go.Proofs
open Classical in
theorem lex_num {f : Nat} {r : List UInt8} (h0 : r ≠ []) (h1 : ¬ r.getD 0 0 = 32) (h2 : dB (r.getD 0 0) = true) : lex (f + 1) r = (lex f (r.drop (wl r))).map fun q => ((2, r.take (wl r)) :: q.1, !decide (litP (r.take (wl r)) ∧ (r.take (wl r)).length ≤ 60) || q.2) := by rw [lex, if_neg h0, if_neg h1, if_pos h2]
theorem lex_word {f : Nat} {r : List UInt8} (h0 : r ≠ []) (h1 : ¬ r.getD 0 0 = 32) (h2 : ¬ dB (r.getD 0 0) = true) (h3 : lbB (r.getD 0 0) = true) (h4 : wordP (r.take (wl r))) : lex (f + 1) r = (lex f (r.drop (wl r))).map fun q => ((1, r.take (wl r)) :: q.1, q.2) := by rw [lex, if_neg h0, if_neg h1, if_neg h2, if_pos h3, if_pos h4]
theorem lex_noword {f : Nat} {r : List UInt8} (h0 : r ≠ []) (h1 : ¬ r.getD 0 0 = 32) (h2 : ¬ dB (r.getD 0 0) = true) (h3 : lbB (r.getD 0 0) = true) (h4 : ¬ wordP (r.take (wl r))) : lex (f + 1) r = none := by rw [lex, if_neg h0, if_neg h1, if_neg h2, if_pos h3, if_neg h4]
theorem lex_bad {f : Nat} {r : List UInt8} (h0 : r ≠ []) (h1 : ¬ r.getD 0 0 = 32) (h2 : ¬ dB (r.getD 0 0) = true) (h3 : ¬ lbB (r.getD 0 0) = true) (h4 : sg r = 0) : lex (f + 1) r = none := by rw [lex, if_neg h0, if_neg h1, if_neg h2, if_neg h3, if_pos h4]
theorem lex_sign {f : Nat} {r : List UInt8} (h0 : r ≠ []) (h1 : ¬ r.getD 0 0 = 32) (h2 : ¬ dB (r.getD 0 0) = true) (h3 : ¬ lbB (r.getD 0 0) = true) (h4 : ¬ sg r = 0) : lex (f + 1) r = (lex f (r.drop (sg r))).map fun q => ((3, r.take (sg r)) :: q.1, q.2) := by rw [lex, if_neg h0, if_neg h1, if_neg h2, if_neg h3, if_neg h4]
theorem lex_space {f : Nat} {r : List UInt8} (h0 : r ≠ []) (h1 : r.getD 0 0 = 32) : lex (f + 1) r = lex f (r.drop 1) := by rw [lex, if_neg h0, if_pos h1]
theorem lex_nil (f : Nat) : lex f [] = some ([], false) := by
  cases f with
  | zero => rfl
  | succ f => rw [lex, if_pos rfl]
theorem wl_digit {r : List UInt8} (h : r ≠ []) (hc : dB (r.getD 0 0) = true) : dB ((r.take (wl r)).getD 0 0) = true ∧ 0 < wl r := by
  have := wl_pos h (.inr hc)
  refine ⟨?_, this⟩
  cases r with
  | nil => exact absurd rfl h
  | cons c r =>
    obtain ⟨n, hn⟩ : ∃ n, wl (c :: r) = n + 1 := ⟨wl (c :: r) - 1, by omega⟩
    rw [hn]
    exact hc
/-- Rows of tokens, as they come. -/
abbrev okF (o : List Tk) (K : Nat → Int) (S : Nat → List UInt8) : Prop := ∀ j, j < o.length → K j = (o.getD j k0).1 ∧ S j = (o.getD j k0).2
theorem okF_app {o : List Tk} {K K' : Nat → Int} {S S' : Nat → List UInt8} (h : okF o K S) (x : Tk) (h1 : ∀ j, j < o.length → K' j = K j ∧ S' j = S j) (h2 : K' o.length = x.1 ∧ S' o.length = x.2) : okF (o ++ [x]) K' S' := by
  intro j hj
  rw [List.length_append, List.length_singleton] at hj
  by_cases hl : j < o.length
  · have e : (o ++ [x]).getD j k0 = o.getD j k0 := by rw [List.getD_eq_getElem?_getD, List.getElem?_append_left hl, ← List.getD_eq_getElem?_getD]
    rw [e, (h1 j hl).1, (h1 j hl).2]
    exact h j hl
  · have hj : j = o.length := by omega
    subst hj
    have e : (o ++ [x]).getD o.length k0 = x := by simp [List.getD_eq_getElem?_getD]
    rw [e]
    exact h2
theorem AFunP.subw {P : Program} {f : FuncId} {args : List AV} {v u : AV} (h : AFunP P f args (· = v)) (hs : Sub v u) (hc : clo u = true) : AFunP P f args (· = u) :=
  AFun.mono h fun _ _ ⟨ps, u0, u1, h1, h2, h3, _, h5⟩ => ⟨ps, u0, u, h1, h2, fun FM β cv h => hs FM β cv (by have := h3 FM β cv h; rwa [h5] at this), hc, rfl⟩
theorem lexE_many {o : List Tk} (h : 300 < o.length) : lexE (some (o, false)) = ([], 5) := by
  show (if false = true then (([] : List Tk), (3 : Int)) else if 300 < o.length then ([], 5) else (o, 0)) = _
  rw [if_neg (by simp), if_pos h]
theorem lexE_ok {o : List Tk} (h : ¬ 300 < o.length) : lexE (some (o, false)) = (o, 0) := by
  show (if false = true then (([] : List Tk), (3 : Int)) else if 300 < o.length then ([], 5) else (o, 0)) = _
  rw [if_neg (by simp), if_neg h]
theorem sClipK_ok (n g : Nat) (row : Nat → List AV) (hN : n ≤ 1000000) : AFun Tryz.prog 71 [.sl 0 g 0 n] [.tab g n row] (fun u H => u = .sl 0 g 0 n ∧ H = [.tab g n row]) := by
  refine afun_of Tryz.func71 Tryz.call71 rfl Tryz.ntmps71 rfl ?_
  have W : Walk Tryz.prog TT 71 _ := Walk.of TT_ok Tryz.func71 Tryz.results71
  refine rg W 0 rfl (⟨rfl, rfl⟩)
open Classical in
theorem implTokens_ok (s : List UInt8) (hl : s.length ≤ 4611686018427387903) : AFunP Tryz.prog 25 [.str s] (· = .tup [.fz (lexR s).1.length (tkR (lexR s).1), .int .i64 (lexR s).2]) := by
  refine afun_of Tryz.func25 Tryz.call25 rfl Tryz.ntmps25 rfl ?_
  have W : Walk Tryz.prog TT 25 _ := Walk.of TT_ok Tryz.func25 Tryz.results25
  refine sp W 0 rfl rfl rfl (fun z1 => ?_) (fun z1 => ?_)
  · have e : lexR s = ([], 1) := by unfold lexR; rw [if_pos (by omega)]
    rw [e]
    refine rp W 0 rfl rfl rfl (.tup ⟨.nils_fz, .refl, trivial⟩)
  have hl2 : s.length ≤ 1000 := by omega
  have hcl := cut_le s
  have e0 : lexR s = lexE (lexC [] false (lex (cutL s 35).length (cutL s 35))) := by unfold lexR; rw [if_neg (by omega), lexC_nil]
  rw [e0]
  clear e0
  refine ce W 0 rfl rfl (cut_ok s 35 (by omega)) rfl ?_
  refine atl W rfl ?_
  refine go_nilT 7 (.tab 0 0 fun _ => [.int .i64 0, .str []]) rfl rfl rfl rfl rfl ?_
  refine lp W 0 (σ := List UInt8 × Nat × List Tk × Bool × Nat × (Nat → Int) × (Nat → List UInt8)) (fun t => [(2, .nils), (3, .int .i64 0), (4, .str t.1), (7, .sl 0 t.2.2.2.2.1 0 t.2.2.1.length), (8, .bool t.2.2.2.1)]) (fun t => [.tab t.2.2.2.2.1 t.2.2.1.length fun j => [.int .i64 (t.2.2.2.2.2.1 j), .str (t.2.2.2.2.2.2 j)]]) (fun t => t.1.length) (fun t => (t.1.length ≤ t.2.1 ∧ t.2.2.1.length + t.1.length ≤ 1000 ∧ okF t.2.2.1 t.2.2.2.2.2.1 t.2.2.2.2.2.2) ∧ lexC [] false (lex (cutL s 35).length (cutL s 35)) = lexC t.2.2.1 t.2.2.2.1 (lex t.2.1 t.1)) (cutL s 35, (cutL s 35).length, [], false, 0, fun _ => 0, fun _ => []) [2, 3, 4, 7, 8] rfl rfl rfl ⟨⟨Nat.le_refl _, by simp; omega, fun j hj => by simp at hj⟩, rfl⟩ ?_
  rintro ⟨r, f, o, b, g, K, S⟩ ⟨⟨hf, hm, hF⟩, he⟩ ih
  dsimp only at hf hm hF he ih ⊢
  refine sp W 0 rfl rfl rfl (fun z2 => ?_) (fun z2 => ?_)
  · have hr : r ≠ [] := z2
    have hp : 0 < r.length := List.length_pos_iff.2 hr
    obtain ⟨f, rfl⟩ : ∃ f', f = f' + 1 := ⟨f - 1, by omega⟩
    have r0 : ((0 : Nat) : Int).toNat = 0 := rfl
    refine sp W 0 rfl rfl rfl (fun z3 => ?_) (fun z3 => ?_) (hc := by simp only [AllC, true_and, and_true]; omega)
    · have e : lex (f + 1) r = lex f (r.drop 1) := lex_space hr (u8_eq.1 z3)
      have hd : (r.drop 1).length = r.length - 1 := by simp
      have nx := ih (r.drop 1, f, o, b, g, K, S) ⟨⟨by dsimp only; omega, by dsimp only; omega, hF⟩, by dsimp only; rw [he, e]⟩ (by dsimp only; omega)
      dsimp only at nx
      refine bd W 0 1 [2, 3, 4, 7, 8] rfl rfl rfl rfl rfl nx (hc := by simp only [AllC, true_and, and_true]; omega)
    have z3 : ¬ r.getD 0 0 = 32 := fun k => z3 (u8_eq.2 k)
    have hsg : sg r ≤ r.length := by unfold sg; split; omega; split <;> omega
    refine ce W 0 rfl rfl (signOf_ok r hr (by omega)) rfl ?_
    refine ce W 0 rfl rfl (isLetter_ok _) rfl ?_
    refine sp W 0 rfl rfl rfl (fun z4 => ?_) (fun z4 => ?_)
    · have z4 : lbB (r.getD 0 0) = true := lbB_iff.2 z4
      have z5 : ¬ dB (r.getD 0 0) = true := fun k => by have := dB_iff.1 k; have := lbB_iff.1 z4; omega
      have hw := wl_pos hr (.inl z4)
      have hw2 := (wl_ok r).2.2
      have wN : ((wl r : Nat) : Int).toNat = wl r := Int.toNat_natCast _
      have htl : (r.take (wl r)).length = wl r := by rw [List.length_take]; omega
      have hdl : (r.drop (wl r)).length = r.length - wl r := by simp
      refine ce W 0 rfl rfl (wordLength_ok r (by omega)) rfl ?_
      refine ce W 0 rfl rfl (isFigure_ok _) rfl ?_
      refine sp W 0 rfl rfl rfl (fun z6 => ?_) (fun z6 => ?_)
      · exact absurd (dB_iff.2 z6) z5
      rw [wN]
      refine sp W 0 rfl rfl rfl (fun z7 => ?_) (fun z7 => ?_)
      · exfalso
        have : (r.take (wl r)).length = 0 := by rw [z7]; rfl
        omega
      refine sp W 0 rfl rfl rfl (fun z7b => ?_) (fun z7b => absurd rfl z7b)
      refine ce W 0 rfl rfl (wordOk_ok (r.take (wl r)) (by omega)) rfl ?_
      refine sp W 0 rfl rfl rfl (fun z8 => ?_) (fun z8 => ?_)
      · rw [he, lex_noword hr z3 z5 z4 z8]
        refine rp W 0 rfl rfl rfl (.tup ⟨.nils_fz, .refl, trivial⟩)
      · have e := lex_word (f := f) hr z3 z5 z4 (Classical.not_not.1 z8)
        rw [e, lexC_cons0] at he
        have hol : (o ++ [(1, r.take (wl r))]).length = o.length + 1 := by simp
        have hdr : r.drop (((r.take (wl r)).length : Nat) : Int).toNat = r.drop (wl r) := by rw [Int.toNat_natCast, htl]
        have nx := ih (r.drop (((r.take (wl r)).length : Nat) : Int).toNat, f, o ++ [(1, r.take (wl r))], b, g + 1, fun i => if i < addN 0 o.length then K i else 1, fun i => if i < addN 0 o.length then S i else r.take (wl r)) ⟨⟨by rw [hdr]; dsimp only; omega, by rw [hdr]; dsimp only; omega, okF_app hF _ (fun j hj => by dsimp only; rw [addN0, if_pos hj, if_pos hj]; exact ⟨rfl, rfl⟩) (by dsimp only; rw [addN0, if_neg (Nat.lt_irrefl _), if_neg (Nat.lt_irrefl _)]; exact ⟨rfl, rfl⟩)⟩, by rw [hdr]; exact he⟩ (by rw [hdr]; dsimp only; omega)
        dsimp only at nx
        rw [hol] at nx
        refine bd W 0 1 [2, 3, 4, 7, 8] rfl rfl rfl rfl rfl nx (hc := by simp only [AllC, addN0, Nat.zero_add, true_and, and_true]; (repeat' apply And.intro) <;> first | omega | (intros; rfl))
    · have z4 : ¬ lbB (r.getD 0 0) = true := fun k => z4 (lbB_iff.1 k)
      refine ce W 0 rfl rfl (isFigure_ok _) rfl ?_
      refine sp W 0 rfl rfl rfl (fun z5 => ?_) (fun z5 => ?_)
      · have z5 : dB (r.getD 0 0) = true := dB_iff.2 z5
        have hw := wl_pos hr (.inr z5)
        have hw2 := (wl_ok r).2.2
        have wN : ((wl r : Nat) : Int).toNat = wl r := Int.toNat_natCast _
        have htl : (r.take (wl r)).length = wl r := by rw [List.length_take]; omega
        have hdl : (r.drop (wl r)).length = r.length - wl r := by simp
        have e := lex_num (f := f) hr z3 z5
        rw [e, lexC_cons] at he
        refine ce W 0 rfl rfl (wordLength_ok r (by omega)) rfl ?_
        refine ce W 0 rfl rfl (isFigure_ok _) rfl ?_
        refine sp W 0 rfl rfl rfl (fun z6 => ?_) (fun z6 => absurd (dB_iff.1 z5) z6)
        rw [wN]
        rcases b with _ | _
        · by_cases hL : litP (r.take (wl r)) ∧ (r.take (wl r)).length ≤ 60
          · have kN : AFunP Tryz.prog 69 [.str (r.take (wl r))] (· = .bool true) := AFunP.subw (implLangNumOk_ok (r.take (wl r)) (by omega)) (pr_bool (iff_of_true hL rfl)) rfl
            refine ce W 0 rfl rfl (kN) rfl ?_
            rw [show (false || !decide (litP (r.take (wl r)) ∧ (r.take (wl r)).length ≤ 60)) = false from by rw [decide_eq_true hL]; rfl] at he
            refine sp W 0 rfl rfl rfl (fun z7 => ?_) (fun z7 => ?_)
            · exfalso
              have : (r.take (wl r)).length = 0 := by rw [z7]; rfl
              omega
            refine sp W 0 rfl rfl rfl (fun z8 => by exfalso; omega) (fun z8 => ?_)
            have hol : (o ++ [(2, r.take (wl r))]).length = o.length + 1 := by simp
            have hdr : r.drop (((r.take (wl r)).length : Nat) : Int).toNat = r.drop (wl r) := by rw [Int.toNat_natCast, htl]
            have nx := ih (r.drop (((r.take (wl r)).length : Nat) : Int).toNat, f, o ++ [(2, r.take (wl r))], false, g + 1, fun i => if i < addN 0 o.length then K i else 2, fun i => if i < addN 0 o.length then S i else r.take (wl r)) ⟨⟨by rw [hdr]; dsimp only; omega, by rw [hdr]; dsimp only; omega, okF_app hF _ (fun j hj => by dsimp only; rw [addN0, if_pos hj, if_pos hj]; exact ⟨rfl, rfl⟩) (by dsimp only; rw [addN0, if_neg (Nat.lt_irrefl _), if_neg (Nat.lt_irrefl _)]; exact ⟨rfl, rfl⟩)⟩, by rw [hdr]; exact he⟩ (by rw [hdr]; dsimp only; omega)
            dsimp only at nx
            rw [hol] at nx
            refine bd W 0 1 [2, 3, 4, 7, 8] rfl rfl rfl rfl rfl nx (hc := by simp only [AllC, addN0, Nat.zero_add, true_and, and_true]; (repeat' apply And.intro) <;> first | omega | (intros; rfl))
          · have kN : AFunP Tryz.prog 69 [.str (r.take (wl r))] (· = .bool false) := AFunP.subw (implLangNumOk_ok (r.take (wl r)) (by omega)) (pr_bool (iff_of_false hL (by simp))) rfl
            refine ce W 0 rfl rfl (kN) rfl ?_
            rw [show (false || !decide (litP (r.take (wl r)) ∧ (r.take (wl r)).length ≤ 60)) = true from by rw [decide_eq_false hL]; rfl] at he
            refine sp W 0 rfl rfl rfl (fun z7 => ?_) (fun z7 => ?_)
            · exfalso
              have : (r.take (wl r)).length = 0 := by rw [z7]; rfl
              omega
            refine sp W 0 rfl rfl rfl (fun z8 => by exfalso; omega) (fun z8 => ?_)
            have hol : (o ++ [(2, r.take (wl r))]).length = o.length + 1 := by simp
            have hdr : r.drop (((r.take (wl r)).length : Nat) : Int).toNat = r.drop (wl r) := by rw [Int.toNat_natCast, htl]
            have nx := ih (r.drop (((r.take (wl r)).length : Nat) : Int).toNat, f, o ++ [(2, r.take (wl r))], true, g + 1, fun i => if i < addN 0 o.length then K i else 2, fun i => if i < addN 0 o.length then S i else r.take (wl r)) ⟨⟨by rw [hdr]; dsimp only; omega, by rw [hdr]; dsimp only; omega, okF_app hF _ (fun j hj => by dsimp only; rw [addN0, if_pos hj, if_pos hj]; exact ⟨rfl, rfl⟩) (by dsimp only; rw [addN0, if_neg (Nat.lt_irrefl _), if_neg (Nat.lt_irrefl _)]; exact ⟨rfl, rfl⟩)⟩, by rw [hdr]; exact he⟩ (by rw [hdr]; dsimp only; omega)
            dsimp only at nx
            rw [hol] at nx
            refine bd W 0 1 [2, 3, 4, 7, 8] rfl rfl rfl rfl rfl nx (hc := by simp only [AllC, addN0, Nat.zero_add, true_and, and_true]; (repeat' apply And.intro) <;> first | omega | (intros; rfl))
        · refine sp W 0 rfl rfl rfl (fun z7 => ?_) (fun z7 => ?_)
          · exfalso
            have : (r.take (wl r)).length = 0 := by rw [z7]; rfl
            omega
          refine sp W 0 rfl rfl rfl (fun z8 => by exfalso; omega) (fun z8 => ?_)
          have hol : (o ++ [(2, r.take (wl r))]).length = o.length + 1 := by simp
          have hdr : r.drop (((r.take (wl r)).length : Nat) : Int).toNat = r.drop (wl r) := by rw [Int.toNat_natCast, htl]
          have nx := ih (r.drop (((r.take (wl r)).length : Nat) : Int).toNat, f, o ++ [(2, r.take (wl r))], (true || !decide (litP (r.take (wl r)) ∧ (r.take (wl r)).length ≤ 60)), g + 1, fun i => if i < addN 0 o.length then K i else 2, fun i => if i < addN 0 o.length then S i else r.take (wl r)) ⟨⟨by rw [hdr]; dsimp only; omega, by rw [hdr]; dsimp only; omega, okF_app hF _ (fun j hj => by dsimp only; rw [addN0, if_pos hj, if_pos hj]; exact ⟨rfl, rfl⟩) (by dsimp only; rw [addN0, if_neg (Nat.lt_irrefl _), if_neg (Nat.lt_irrefl _)]; exact ⟨rfl, rfl⟩)⟩, by rw [hdr]; exact he⟩ (by rw [hdr]; dsimp only; omega)
          dsimp only at nx
          rw [hol] at nx
          refine bd W 0 1 [2, 3, 4, 7, 8] rfl rfl rfl rfl rfl nx (hc := by simp only [AllC, addN0, Nat.zero_add, true_and, and_true]; (repeat' apply And.intro) <;> first | omega | (intros; rfl))
      · have z5 : ¬ dB (r.getD 0 0) = true := fun k => z5 (dB_iff.1 k)
        refine sp W 0 rfl rfl rfl (fun z7 => ?_) (fun z7 => ?_)
        · have h0 : sg r = 0 := by
            have : (r.take (sg r)).length = 0 := by rw [z7]; rfl
            rw [List.length_take] at this
            omega
          rw [he, lex_bad hr z3 z5 z4 h0]
          refine rp W 0 rfl rfl rfl (.tup ⟨.nils_fz, .refl, trivial⟩)
        have h0 : ¬ sg r = 0 := fun k => z7 (by rw [k]; rfl)
        refine sp W 0 rfl rfl rfl (fun z8 => by exfalso; omega) (fun z8 => ?_)
        have htl : (r.take (sg r)).length = sg r := by rw [List.length_take]; omega
        have hdl : (r.drop (sg r)).length = r.length - sg r := by simp
        have e := lex_sign (f := f) hr z3 z5 z4 h0
        rw [e, lexC_cons0] at he
        have hol : (o ++ [(3, r.take (sg r))]).length = o.length + 1 := by simp
        have hdr : r.drop (((r.take (sg r)).length : Nat) : Int).toNat = r.drop (sg r) := by rw [Int.toNat_natCast, htl]
        have nx := ih (r.drop (((r.take (sg r)).length : Nat) : Int).toNat, f, o ++ [(3, r.take (sg r))], b, g + 1, fun i => if i < addN 0 o.length then K i else 3, fun i => if i < addN 0 o.length then S i else r.take (sg r)) ⟨⟨by rw [hdr]; dsimp only; omega, by rw [hdr]; dsimp only; omega, okF_app hF _ (fun j hj => by dsimp only; rw [addN0, if_pos hj, if_pos hj]; exact ⟨rfl, rfl⟩) (by dsimp only; rw [addN0, if_neg (Nat.lt_irrefl _), if_neg (Nat.lt_irrefl _)]; exact ⟨rfl, rfl⟩)⟩, by rw [hdr]; exact he⟩ (by rw [hdr]; dsimp only; omega)
        dsimp only at nx
        rw [hol] at nx
        refine bd W 0 1 [2, 3, 4, 7, 8] rfl rfl rfl rfl rfl nx (hc := by simp only [AllC, addN0, Nat.zero_add, true_and, and_true]; (repeat' apply And.intro) <;> first | omega | (intros; rfl))
  · have hr : r = [] := Classical.not_not.1 z2
    subst hr
    rw [lex_nil, lexC_end] at he
    rw [he]
    rcases b with _ | _
    · refine sp W 0 rfl rfl rfl (fun z3 => ?_) (fun z3 => ?_)
      · have e : lexE (some (o, false)) = ([], 5) := lexE_many (by omega)
        rw [e]
        refine rp W 0 rfl rfl rfl (.tup ⟨.nils_fz, .refl, trivial⟩)
      · have e : lexE (some (o, false)) = (o, 0) := lexE_ok (by omega)
        rw [e]
        refine go_callS W 0 300 [0] rfl (by first | exact True.intro | (simp only [AllC, AllP, addN, Int.toNat_natCast, true_and, and_true, Option.getD, List.length_set, wrapU, pw1, pw7, pw8, pw16, pw23, pw32, pw52, Holds] <;> first | omega | ((repeat' apply And.intro) <;> first | omega | (intros; rfl))) | (simp [AllC, AllP, addN, cloL, clo, mrgL, mrg, wrapU, Holds] <;> omega)) (sClipK_ok o.length g (fun j => [.int .i64 (K j), .str (S j)]) (by omega)) rfl rfl ⟨fun _ _ => rfl, trivial⟩ ⟨rfl, trivial⟩ rfl ?_
        rintro _ _ ⟨rfl, rfl⟩
        refine ⟨_, _, rfl, rfl, ?_⟩
        refine rp W 0 rfl rfl rfl (.tup ⟨.fz fun i hi => ?_, .refl, trivial⟩)
        rw [addN0]
        obtain ⟨q1, q2⟩ := hF i hi
        unfold tkR
        rw [← q1, ← q2]
        rfl
    · have e : lexE (some (o, true)) = ([], 3) := rfl
      rw [e]
      refine rp W 0 rfl rfl rfl (.tup ⟨.nils_fz, .refl, trivial⟩)
end Pf
/- Signs and words of the model -/
namespace Pf
open Go Go.Proofs
/-- A place in a line, and what stands from there on ahead of a remark. -/
theorem cut_at {L r : List UInt8} {a : Nat} (hr : r = (cutL L 35).drop a) (ha : a ≤ (cutL L 35).length) : r.length = (cutL L 35).length - a ∧ (∀ j, j < r.length → L.getD (a + j) 0 = r.getD j 0) ∧ (a + r.length < L.length → L.getD (a + r.length) 0 = 35) := by
  subst hr
  have hl : ((cutL L 35).drop a).length = (cutL L 35).length - a := by simp
  refine ⟨hl, fun j hj => ?_, fun h => ?_⟩
  · rw [drop_get]
    exact (cut_get (by omega)).1
  · have e : a + ((cutL L 35).drop a).length = (cutL L 35).length := by omega
    rw [e] at h ⊢
    exact cut_end h
theorem l11End_ok (L r : List UInt8) (a : Nat) (hL : L.length ≤ 1000) (hr : r = (cutL L 35).drop a) (ha : a ≤ (cutL L 35).length) (h0 : r ≠ []) (hc : lbB (r.getD 0 0) = true ∨ dB (r.getD 0 0) = true) : AFunP Tryz.prog 59 [.str L, .int .i64 a] (· = .int .i64 (a + wl r : Nat)) := by
  obtain ⟨hl, hg, hend⟩ := cut_at hr ha
  have hcl := cut_le L
  have hp : 0 < r.length := List.length_pos_iff.2 h0
  have w0 : wc r 0 := ⟨hp, hc.elim .inl fun h => .inr (.inl h)⟩
  have g0' := hg 0 hp
  rw [Nat.add_zero] at g0'
  refine afun_of Tryz.func59 Tryz.call59 rfl Tryz.ntmps59 rfl ?_
  have W : Walk Tryz.prog TT 59 _ := Walk.of TT_ok Tryz.func59 Tryz.results59
  refine lp W 0 (σ := Nat × Int) (fun t => [(0, .str L), (1, .int .i64 a), (5, .int .i64 t.2)]) (fun _ => []) (fun t => r.length + 1 - t.1) (fun t => (1 ≤ t.1 ∧ t.1 ≤ r.length ∧ t.2 = (a + t.1 : Nat)) ∧ ∀ j, j < t.1 → wc r j) (1, (a : Int) + 1) [0, 1, 5] rfl rfl rfl ⟨⟨Nat.le_refl _, hp, rfl⟩, fun j hj => (show j = 0 by omega) ▸ w0⟩ ?_
  rintro ⟨n, i⟩ ⟨⟨hn1, hn2, hi⟩, he⟩ ih
  dsimp only at hn1 hn2 hi he ih ⊢
  have iA : i.toNat = a + n := by omega
  have iB : (i - 1).toNat = a + (n - 1) := by omega
  have iC : ((a : Nat) : Int).toNat = a := Int.toNat_natCast _
  refine sp W 0 rfl rfl rfl (fun z1 => ?_) (fun z1 => ?_)
  · have hlt : L.getD (a + n) 0 ≠ 35 → n < r.length := fun k => by
      rcases Nat.lt_or_ge n r.length with h | h
      · exact h
      · obtain rfl : n = r.length := by omega
        exact absurd (hend (by omega)) k
    have nx : wc r n → _ := fun h => ih (n + 1, i + 1) ⟨⟨by dsimp only; omega, h.1, by dsimp only; omega⟩, fun j hj => by
      dsimp only at hj
      by_cases hj2 : j = n
      · subst hj2; exact h
      · exact he j (by omega)⟩ (by dsimp only; omega)
    refine ce W 0 rfl rfl (l11Letter_ok _) rfl ?_
    rw [iA]
    refine sp W 0 rfl rfl rfl (fun a1 => ?_) (fun a1 => ?_)
    rotate_left
    · have a1 := lbB_iff.2 (Classical.not_not.1 a1)
      have hn := hlt (fun k => by rw [k] at a1; exact absurd a1 (by decide))
      rw [hg n hn] at a1
      refine bd W 0 0 [0, 1, 5] rfl rfl rfl rfl rfl (nx ⟨hn, .inl a1⟩)
    refine ce W 0 rfl rfl (l11Digit_ok _) rfl ?_
    refine sp W 0 rfl rfl rfl (fun a2 => ?_) (fun a2 => ?_)
    rotate_left
    · have a2 := dB_iff.2 (Classical.not_not.1 a2)
      have hn := hlt (fun k => by rw [k] at a2; exact absurd a2 (by decide))
      rw [hg n hn] at a2
      refine bd W 0 0 [0, 1, 5] rfl rfl rfl rfl rfl (nx ⟨hn, .inr (.inl a2)⟩)
    refine sp W 0 rfl rfl rfl (fun a3 => ?_) (fun a3 => ?_)
    rotate_left
    · have a3 : L.getD (a + n) 0 = 46 := u8_eq.1 (Classical.not_not.1 a3)
      have hn := hlt (fun k => by rw [k] at a3; exact absurd a3 (by decide))
      rw [hg n hn] at a3
      refine bd W 0 0 [0, 1, 5] rfl rfl rfl rfl rfl (nx ⟨hn, .inr (.inr (.inl a3))⟩)
    have no : ¬ (L.getD (a + n) 0 = 45 ∧ dB (r.getD 0 0) = true ∧ r.getD (n - 1) 0 = 101) → wl r = n := fun h => wl_of he fun k => by
      have hcn := hg n k.1
      rcases k.2 with x | x | x | x
      · exact a1 (lbB_iff.1 (by rw [hcn]; exact x))
      · exact a2 (dB_iff.1 (by rw [hcn]; exact x))
      · rw [hcn, x] at a3; exact a3 rfl
      · exact h ⟨by rw [hcn]; exact x.1, x.2⟩
    have gB := hg (n - 1) (by omega)
    refine sp W 0 rfl rfl rfl (fun a4 => ?_) (fun a4 => ?_)
    · refine ce W 0 rfl rfl (l11Digit_ok _) rfl ?_
      rw [iC, g0']
      refine sp W 0 rfl rfl rfl (fun a5 => ?_) (fun a5 => ?_)
      · refine sp W 0 rfl rfl rfl (fun a6 => ?_) (fun a6 => ?_)
        · rw [iB] at a6
          rw [no fun k => a6 (u8_eq.2 (gB.trans k.2.2)), ← hi]
          refine rp W 0 rfl rfl rfl (.refl)
        · rw [iB] at a6
          have a6 : L.getD (a + (n - 1)) 0 = 101 := u8_eq.1 (Classical.not_not.1 a6)
          have a4 : L.getD (a + n) 0 = 45 := u8_eq.1 a4
          have hn := hlt (fun k => by rw [k] at a4; exact absurd a4 (by decide))
          rw [hg n hn] at a4
          rw [gB] at a6
          refine bd W 0 0 [0, 1, 5] rfl rfl rfl rfl rfl (nx ⟨hn, .inr (.inr (.inr ⟨a4, dB_iff.2 a5, a6⟩))⟩)
      · rw [no fun k => a5 (dB_iff.1 k.2.1), ← hi]
        refine rp W 0 rfl rfl rfl (.refl)
    · rw [no fun k => a4 (u8_eq.2 k.1), ← hi]
      refine rp W 0 rfl rfl rfl (.refl)
  · have e : wl r = n := wl_of he fun k => z1 (by have := k.1; omega)
    rw [e, ← hi]
    refine rp W 0 rfl rfl rfl (.refl)
theorem l11Sign_ok (L r : List UInt8) (a : Nat) (hL : L.length ≤ 1000) (hr : r = (cutL L 35).drop a) (ha : a ≤ (cutL L 35).length) (h0 : r ≠ []) : AFunP Tryz.prog 62 [.str L, .int .i64 a] (· = .str (r.take (sg r))) := by
  obtain ⟨hl, hg, hend⟩ := cut_at hr ha
  have hcl := cut_le L
  have hp : 0 < r.length := List.length_pos_iff.2 h0
  have iC : ((a : Nat) : Int).toNat = a := Int.toNat_natCast _
  have iD : ((a : Nat) + 1 : Int).toNat = a + 1 := by omega
  have g0' := hg 0 hp
  rw [Nat.add_zero] at g0'
  have g1' : a + 1 < L.length → L.getD (a + 1) 0 = 61 → 1 < r.length := fun h1 h2 => by
    rcases Nat.lt_or_ge 1 r.length with h | h
    · exact h
    · have : r.length = 1 := by omega
      rw [this] at hend
      rw [hend h1] at h2
      exact absurd h2 (by decide)
  have tk : ∀ n, n ≤ r.length → (L.take (a + n)).drop a = r.take n := fun n hn => by rw [hr]; exact cut_take (by omega)
  refine afun_of Tryz.func62 Tryz.call62 rfl Tryz.ntmps62 rfl ?_
  have W : Walk Tryz.prog TT 62 _ := Walk.of TT_ok Tryz.func62 Tryz.results62
  refine sp W 0 rfl rfl rfl (fun c1 => ?_) (fun c1 => ?_)
  · refine sp W 0 rfl rfl rfl (fun c2 => ?_) (fun c2 => ?_)
    · refine sp W 0 rfl rfl rfl (fun c3 => ?_) (fun c3 => ?_)
      · have h2 := g1' (by omega) (u8_eq.1 c3)
        have e : sg r = 2 := by unfold sg; rw [if_pos ⟨by omega, .inl (g0'.symm.trans (u8_eq.1 c2)), (hg 1 h2).symm.trans (u8_eq.1 c3)⟩]
        rw [e, ← tk 2 (by omega)]
        refine rp W 0 rfl rfl rfl (.refl)
      have hn : ¬ (2 ≤ r.length ∧ (r.getD 0 0 = 60 ∨ r.getD 0 0 = 62) ∧ r.getD 1 0 = 61) := fun k => c3 (u8_eq.2 ((hg 1 (by omega)).trans k.2.2))
      refine sp W 0 rfl rfl rfl (fun b1 => ?_) (fun b1 => ?_)
      · have e : sg r = 1 := by unfold sg; rw [if_neg hn, if_pos (by rw [show r.getD 0 0 = 43 from g0'.symm.trans (u8_eq.1 b1)]; simp [signs])]
        rw [e, ← tk 1 (by omega)]
        refine rp W 0 rfl rfl rfl (.refl)
      refine sp W 0 rfl rfl rfl (fun b2 => ?_) (fun b2 => ?_)
      · have e : sg r = 1 := by unfold sg; rw [if_neg hn, if_pos (by rw [show r.getD 0 0 = 45 from g0'.symm.trans (u8_eq.1 b2)]; simp [signs])]
        rw [e, ← tk 1 (by omega)]
        refine rp W 0 rfl rfl rfl (.refl)
      refine sp W 0 rfl rfl rfl (fun b3 => ?_) (fun b3 => ?_)
      · have e : sg r = 1 := by unfold sg; rw [if_neg hn, if_pos (by rw [show r.getD 0 0 = 42 from g0'.symm.trans (u8_eq.1 b3)]; simp [signs])]
        rw [e, ← tk 1 (by omega)]
        refine rp W 0 rfl rfl rfl (.refl)
      refine sp W 0 rfl rfl rfl (fun b4 => ?_) (fun b4 => ?_)
      · have e : sg r = 1 := by unfold sg; rw [if_neg hn, if_pos (by rw [show r.getD 0 0 = 47 from g0'.symm.trans (u8_eq.1 b4)]; simp [signs])]
        rw [e, ← tk 1 (by omega)]
        refine rp W 0 rfl rfl rfl (.refl)
      refine sp W 0 rfl rfl rfl (fun b5 => ?_) (fun b5 => ?_)
      · have e : sg r = 1 := by unfold sg; rw [if_neg hn, if_pos (by rw [show r.getD 0 0 = 94 from g0'.symm.trans (u8_eq.1 b5)]; simp [signs])]
        rw [e, ← tk 1 (by omega)]
        refine rp W 0 rfl rfl rfl (.refl)
      refine sp W 0 rfl rfl rfl (fun b6 => ?_) (fun b6 => ?_)
      · have e : sg r = 1 := by unfold sg; rw [if_neg hn, if_pos (by rw [show r.getD 0 0 = 40 from g0'.symm.trans (u8_eq.1 b6)]; simp [signs])]
        rw [e, ← tk 1 (by omega)]
        refine rp W 0 rfl rfl rfl (.refl)
      refine sp W 0 rfl rfl rfl (fun b7 => ?_) (fun b7 => ?_)
      · have e : sg r = 1 := by unfold sg; rw [if_neg hn, if_pos (by rw [show r.getD 0 0 = 41 from g0'.symm.trans (u8_eq.1 b7)]; simp [signs])]
        rw [e, ← tk 1 (by omega)]
        refine rp W 0 rfl rfl rfl (.refl)
      refine sp W 0 rfl rfl rfl (fun b8 => ?_) (fun b8 => ?_)
      · have e : sg r = 1 := by unfold sg; rw [if_neg hn, if_pos (by rw [show r.getD 0 0 = 44 from g0'.symm.trans (u8_eq.1 b8)]; simp [signs])]
        rw [e, ← tk 1 (by omega)]
        refine rp W 0 rfl rfl rfl (.refl)
      refine sp W 0 rfl rfl rfl (fun b9 => ?_) (fun b9 => ?_)
      · have e : sg r = 1 := by unfold sg; rw [if_neg hn, if_pos (by rw [show r.getD 0 0 = 61 from g0'.symm.trans (u8_eq.1 b9)]; simp [signs])]
        rw [e, ← tk 1 (by omega)]
        refine rp W 0 rfl rfl rfl (.refl)
      have e : sg r = 0 := by
        unfold sg
        rw [if_neg hn, if_neg]
        rw [← g0']
        simp only [signs, List.mem_cons, List.not_mem_nil, or_false]
        rintro (k | k | k | k | k | k | k | k | k)
        · exact b1 (u8_eq.2 k)
        · exact b2 (u8_eq.2 k)
        · exact b3 (u8_eq.2 k)
        · exact b4 (u8_eq.2 k)
        · exact b5 (u8_eq.2 k)
        · exact b6 (u8_eq.2 k)
        · exact b7 (u8_eq.2 k)
        · exact b8 (u8_eq.2 k)
        · exact b9 (u8_eq.2 k)
      rw [e]
      refine rp W 0 rfl rfl rfl (.refl)
    refine sp W 0 rfl rfl rfl (fun c4 => ?_) (fun c4 => ?_)
    · refine sp W 0 rfl rfl rfl (fun c3 => ?_) (fun c3 => ?_)
      · have h2 := g1' (by omega) (u8_eq.1 c3)
        have e : sg r = 2 := by unfold sg; rw [if_pos ⟨by omega, .inr (g0'.symm.trans (u8_eq.1 c4)), (hg 1 h2).symm.trans (u8_eq.1 c3)⟩]
        rw [e, ← tk 2 (by omega)]
        refine rp W 0 rfl rfl rfl (.refl)
      have hn : ¬ (2 ≤ r.length ∧ (r.getD 0 0 = 60 ∨ r.getD 0 0 = 62) ∧ r.getD 1 0 = 61) := fun k => c3 (u8_eq.2 ((hg 1 (by omega)).trans k.2.2))
      refine sp W 0 rfl rfl rfl (fun b1 => ?_) (fun b1 => ?_)
      · have e : sg r = 1 := by unfold sg; rw [if_neg hn, if_pos (by rw [show r.getD 0 0 = 43 from g0'.symm.trans (u8_eq.1 b1)]; simp [signs])]
        rw [e, ← tk 1 (by omega)]
        refine rp W 0 rfl rfl rfl (.refl)
      refine sp W 0 rfl rfl rfl (fun b2 => ?_) (fun b2 => ?_)
      · have e : sg r = 1 := by unfold sg; rw [if_neg hn, if_pos (by rw [show r.getD 0 0 = 45 from g0'.symm.trans (u8_eq.1 b2)]; simp [signs])]
        rw [e, ← tk 1 (by omega)]
        refine rp W 0 rfl rfl rfl (.refl)
      refine sp W 0 rfl rfl rfl (fun b3 => ?_) (fun b3 => ?_)
      · have e : sg r = 1 := by unfold sg; rw [if_neg hn, if_pos (by rw [show r.getD 0 0 = 42 from g0'.symm.trans (u8_eq.1 b3)]; simp [signs])]
        rw [e, ← tk 1 (by omega)]
        refine rp W 0 rfl rfl rfl (.refl)
      refine sp W 0 rfl rfl rfl (fun b4 => ?_) (fun b4 => ?_)
      · have e : sg r = 1 := by unfold sg; rw [if_neg hn, if_pos (by rw [show r.getD 0 0 = 47 from g0'.symm.trans (u8_eq.1 b4)]; simp [signs])]
        rw [e, ← tk 1 (by omega)]
        refine rp W 0 rfl rfl rfl (.refl)
      refine sp W 0 rfl rfl rfl (fun b5 => ?_) (fun b5 => ?_)
      · have e : sg r = 1 := by unfold sg; rw [if_neg hn, if_pos (by rw [show r.getD 0 0 = 94 from g0'.symm.trans (u8_eq.1 b5)]; simp [signs])]
        rw [e, ← tk 1 (by omega)]
        refine rp W 0 rfl rfl rfl (.refl)
      refine sp W 0 rfl rfl rfl (fun b6 => ?_) (fun b6 => ?_)
      · have e : sg r = 1 := by unfold sg; rw [if_neg hn, if_pos (by rw [show r.getD 0 0 = 40 from g0'.symm.trans (u8_eq.1 b6)]; simp [signs])]
        rw [e, ← tk 1 (by omega)]
        refine rp W 0 rfl rfl rfl (.refl)
      refine sp W 0 rfl rfl rfl (fun b7 => ?_) (fun b7 => ?_)
      · have e : sg r = 1 := by unfold sg; rw [if_neg hn, if_pos (by rw [show r.getD 0 0 = 41 from g0'.symm.trans (u8_eq.1 b7)]; simp [signs])]
        rw [e, ← tk 1 (by omega)]
        refine rp W 0 rfl rfl rfl (.refl)
      refine sp W 0 rfl rfl rfl (fun b8 => ?_) (fun b8 => ?_)
      · have e : sg r = 1 := by unfold sg; rw [if_neg hn, if_pos (by rw [show r.getD 0 0 = 44 from g0'.symm.trans (u8_eq.1 b8)]; simp [signs])]
        rw [e, ← tk 1 (by omega)]
        refine rp W 0 rfl rfl rfl (.refl)
      refine sp W 0 rfl rfl rfl (fun b9 => ?_) (fun b9 => ?_)
      · have e : sg r = 1 := by unfold sg; rw [if_neg hn, if_pos (by rw [show r.getD 0 0 = 61 from g0'.symm.trans (u8_eq.1 b9)]; simp [signs])]
        rw [e, ← tk 1 (by omega)]
        refine rp W 0 rfl rfl rfl (.refl)
      have e : sg r = 0 := by
        unfold sg
        rw [if_neg hn, if_neg]
        rw [← g0']
        simp only [signs, List.mem_cons, List.not_mem_nil, or_false]
        rintro (k | k | k | k | k | k | k | k | k)
        · exact b1 (u8_eq.2 k)
        · exact b2 (u8_eq.2 k)
        · exact b3 (u8_eq.2 k)
        · exact b4 (u8_eq.2 k)
        · exact b5 (u8_eq.2 k)
        · exact b6 (u8_eq.2 k)
        · exact b7 (u8_eq.2 k)
        · exact b8 (u8_eq.2 k)
        · exact b9 (u8_eq.2 k)
      rw [e]
      refine rp W 0 rfl rfl rfl (.refl)
    have hn : ¬ (2 ≤ r.length ∧ (r.getD 0 0 = 60 ∨ r.getD 0 0 = 62) ∧ r.getD 1 0 = 61) := fun k => k.2.1.elim (fun x => c2 (u8_eq.2 (g0'.trans x))) fun x => c4 (u8_eq.2 (g0'.trans x))
    refine sp W 0 rfl rfl rfl (fun b1 => ?_) (fun b1 => ?_)
    · have e : sg r = 1 := by unfold sg; rw [if_neg hn, if_pos (by rw [show r.getD 0 0 = 43 from g0'.symm.trans (u8_eq.1 b1)]; simp [signs])]
      rw [e, ← tk 1 (by omega)]
      refine rp W 0 rfl rfl rfl (.refl)
    refine sp W 0 rfl rfl rfl (fun b2 => ?_) (fun b2 => ?_)
    · have e : sg r = 1 := by unfold sg; rw [if_neg hn, if_pos (by rw [show r.getD 0 0 = 45 from g0'.symm.trans (u8_eq.1 b2)]; simp [signs])]
      rw [e, ← tk 1 (by omega)]
      refine rp W 0 rfl rfl rfl (.refl)
    refine sp W 0 rfl rfl rfl (fun b3 => ?_) (fun b3 => ?_)
    · have e : sg r = 1 := by unfold sg; rw [if_neg hn, if_pos (by rw [show r.getD 0 0 = 42 from g0'.symm.trans (u8_eq.1 b3)]; simp [signs])]
      rw [e, ← tk 1 (by omega)]
      refine rp W 0 rfl rfl rfl (.refl)
    refine sp W 0 rfl rfl rfl (fun b4 => ?_) (fun b4 => ?_)
    · have e : sg r = 1 := by unfold sg; rw [if_neg hn, if_pos (by rw [show r.getD 0 0 = 47 from g0'.symm.trans (u8_eq.1 b4)]; simp [signs])]
      rw [e, ← tk 1 (by omega)]
      refine rp W 0 rfl rfl rfl (.refl)
    refine sp W 0 rfl rfl rfl (fun b5 => ?_) (fun b5 => ?_)
    · have e : sg r = 1 := by unfold sg; rw [if_neg hn, if_pos (by rw [show r.getD 0 0 = 94 from g0'.symm.trans (u8_eq.1 b5)]; simp [signs])]
      rw [e, ← tk 1 (by omega)]
      refine rp W 0 rfl rfl rfl (.refl)
    refine sp W 0 rfl rfl rfl (fun b6 => ?_) (fun b6 => ?_)
    · have e : sg r = 1 := by unfold sg; rw [if_neg hn, if_pos (by rw [show r.getD 0 0 = 40 from g0'.symm.trans (u8_eq.1 b6)]; simp [signs])]
      rw [e, ← tk 1 (by omega)]
      refine rp W 0 rfl rfl rfl (.refl)
    refine sp W 0 rfl rfl rfl (fun b7 => ?_) (fun b7 => ?_)
    · have e : sg r = 1 := by unfold sg; rw [if_neg hn, if_pos (by rw [show r.getD 0 0 = 41 from g0'.symm.trans (u8_eq.1 b7)]; simp [signs])]
      rw [e, ← tk 1 (by omega)]
      refine rp W 0 rfl rfl rfl (.refl)
    refine sp W 0 rfl rfl rfl (fun b8 => ?_) (fun b8 => ?_)
    · have e : sg r = 1 := by unfold sg; rw [if_neg hn, if_pos (by rw [show r.getD 0 0 = 44 from g0'.symm.trans (u8_eq.1 b8)]; simp [signs])]
      rw [e, ← tk 1 (by omega)]
      refine rp W 0 rfl rfl rfl (.refl)
    refine sp W 0 rfl rfl rfl (fun b9 => ?_) (fun b9 => ?_)
    · have e : sg r = 1 := by unfold sg; rw [if_neg hn, if_pos (by rw [show r.getD 0 0 = 61 from g0'.symm.trans (u8_eq.1 b9)]; simp [signs])]
      rw [e, ← tk 1 (by omega)]
      refine rp W 0 rfl rfl rfl (.refl)
    have e : sg r = 0 := by
      unfold sg
      rw [if_neg hn, if_neg]
      rw [← g0']
      simp only [signs, List.mem_cons, List.not_mem_nil, or_false]
      rintro (k | k | k | k | k | k | k | k | k)
      · exact b1 (u8_eq.2 k)
      · exact b2 (u8_eq.2 k)
      · exact b3 (u8_eq.2 k)
      · exact b4 (u8_eq.2 k)
      · exact b5 (u8_eq.2 k)
      · exact b6 (u8_eq.2 k)
      · exact b7 (u8_eq.2 k)
      · exact b8 (u8_eq.2 k)
      · exact b9 (u8_eq.2 k)
    rw [e]
    refine rp W 0 rfl rfl rfl (.refl)
  have hn : ¬ (2 ≤ r.length ∧ (r.getD 0 0 = 60 ∨ r.getD 0 0 = 62) ∧ r.getD 1 0 = 61) := fun k => by have := k.1; omega
  refine sp W 0 rfl rfl rfl (fun b1 => ?_) (fun b1 => ?_)
  · have e : sg r = 1 := by unfold sg; rw [if_neg hn, if_pos (by rw [show r.getD 0 0 = 43 from g0'.symm.trans (u8_eq.1 b1)]; simp [signs])]
    rw [e, ← tk 1 (by omega)]
    refine rp W 0 rfl rfl rfl (.refl)
  refine sp W 0 rfl rfl rfl (fun b2 => ?_) (fun b2 => ?_)
  · have e : sg r = 1 := by unfold sg; rw [if_neg hn, if_pos (by rw [show r.getD 0 0 = 45 from g0'.symm.trans (u8_eq.1 b2)]; simp [signs])]
    rw [e, ← tk 1 (by omega)]
    refine rp W 0 rfl rfl rfl (.refl)
  refine sp W 0 rfl rfl rfl (fun b3 => ?_) (fun b3 => ?_)
  · have e : sg r = 1 := by unfold sg; rw [if_neg hn, if_pos (by rw [show r.getD 0 0 = 42 from g0'.symm.trans (u8_eq.1 b3)]; simp [signs])]
    rw [e, ← tk 1 (by omega)]
    refine rp W 0 rfl rfl rfl (.refl)
  refine sp W 0 rfl rfl rfl (fun b4 => ?_) (fun b4 => ?_)
  · have e : sg r = 1 := by unfold sg; rw [if_neg hn, if_pos (by rw [show r.getD 0 0 = 47 from g0'.symm.trans (u8_eq.1 b4)]; simp [signs])]
    rw [e, ← tk 1 (by omega)]
    refine rp W 0 rfl rfl rfl (.refl)
  refine sp W 0 rfl rfl rfl (fun b5 => ?_) (fun b5 => ?_)
  · have e : sg r = 1 := by unfold sg; rw [if_neg hn, if_pos (by rw [show r.getD 0 0 = 94 from g0'.symm.trans (u8_eq.1 b5)]; simp [signs])]
    rw [e, ← tk 1 (by omega)]
    refine rp W 0 rfl rfl rfl (.refl)
  refine sp W 0 rfl rfl rfl (fun b6 => ?_) (fun b6 => ?_)
  · have e : sg r = 1 := by unfold sg; rw [if_neg hn, if_pos (by rw [show r.getD 0 0 = 40 from g0'.symm.trans (u8_eq.1 b6)]; simp [signs])]
    rw [e, ← tk 1 (by omega)]
    refine rp W 0 rfl rfl rfl (.refl)
  refine sp W 0 rfl rfl rfl (fun b7 => ?_) (fun b7 => ?_)
  · have e : sg r = 1 := by unfold sg; rw [if_neg hn, if_pos (by rw [show r.getD 0 0 = 41 from g0'.symm.trans (u8_eq.1 b7)]; simp [signs])]
    rw [e, ← tk 1 (by omega)]
    refine rp W 0 rfl rfl rfl (.refl)
  refine sp W 0 rfl rfl rfl (fun b8 => ?_) (fun b8 => ?_)
  · have e : sg r = 1 := by unfold sg; rw [if_neg hn, if_pos (by rw [show r.getD 0 0 = 44 from g0'.symm.trans (u8_eq.1 b8)]; simp [signs])]
    rw [e, ← tk 1 (by omega)]
    refine rp W 0 rfl rfl rfl (.refl)
  refine sp W 0 rfl rfl rfl (fun b9 => ?_) (fun b9 => ?_)
  · have e : sg r = 1 := by unfold sg; rw [if_neg hn, if_pos (by rw [show r.getD 0 0 = 61 from g0'.symm.trans (u8_eq.1 b9)]; simp [signs])]
    rw [e, ← tk 1 (by omega)]
    refine rp W 0 rfl rfl rfl (.refl)
  have e : sg r = 0 := by
    unfold sg
    rw [if_neg hn, if_neg]
    rw [← g0']
    simp only [signs, List.mem_cons, List.not_mem_nil, or_false]
    rintro (k | k | k | k | k | k | k | k | k)
    · exact b1 (u8_eq.2 k)
    · exact b2 (u8_eq.2 k)
    · exact b3 (u8_eq.2 k)
    · exact b4 (u8_eq.2 k)
    · exact b5 (u8_eq.2 k)
    · exact b6 (u8_eq.2 k)
    · exact b7 (u8_eq.2 k)
    · exact b8 (u8_eq.2 k)
    · exact b9 (u8_eq.2 k)
  rw [e]
  refine rp W 0 rfl rfl rfl (.refl)
end Pf
/- The tokens of a line, the model -/
namespace Pf
open Go Go.Proofs
open Classical in
theorem specTokens_ok (s : List UInt8) (hl : s.length ≤ 4611686018427387903) : AFunP Tryz.prog 23 [.str s] (· = .tup [.fz (lexR s).1.length (tkR (lexR s).1), .int .i64 (lexR s).2]) := by
  refine afun_of Tryz.func23 Tryz.call23 rfl Tryz.ntmps23 rfl ?_
  have W : Walk Tryz.prog TT 23 _ := Walk.of TT_ok Tryz.func23 Tryz.results23
  refine sp W 0 rfl rfl rfl (fun z1 => ?_) (fun z1 => ?_)
  · have e : lexR s = ([], 1) := by unfold lexR; rw [if_pos (by omega)]
    rw [e]
    refine rp W 0 rfl rfl rfl (.tup ⟨.nils_fz, .refl, trivial⟩)
  have hl2 : s.length ≤ 1000 := by omega
  have hcl := cut_le s
  have e0 : lexR s = lexE (lexC [] false (lex (cutL s 35).length (cutL s 35))) := by unfold lexR; rw [if_neg (by omega), lexC_nil]
  rw [e0]
  clear e0
  refine atl W rfl ?_
  refine go_nilT 4 (.tab 0 0 fun _ => [.int .i64 0, .str []]) rfl rfl rfl rfl rfl ?_
  refine lp W 0 (σ := List UInt8 × Nat × Int × Nat × List Tk × Bool × Nat × (Nat → Int) × (Nat → List UInt8)) (fun t => [(0, .str s), (2, .nils), (3, .int .i64 0), (4, .sl 0 t.2.2.2.2.2.2.1 0 t.2.2.2.2.1.length), (5, .int .i64 (cond t.2.2.2.2.2.1 3 0)), (6, .int .i64 t.2.2.1)]) (fun t => [.tab t.2.2.2.2.2.2.1 t.2.2.2.2.1.length fun j => [.int .i64 (t.2.2.2.2.2.2.2.1 j), .str (t.2.2.2.2.2.2.2.2 j)]]) (fun t => t.1.length) (fun t => (t.1.length ≤ t.2.2.2.1 ∧ t.2.2.2.2.1.length + t.1.length ≤ 1000 ∧ okF t.2.2.2.2.1 t.2.2.2.2.2.2.2.1 t.2.2.2.2.2.2.2.2) ∧ (t.1 = (cutL s 35).drop t.2.1 ∧ t.2.1 ≤ (cutL s 35).length ∧ t.2.2.1 = t.2.1) ∧ lexC [] false (lex (cutL s 35).length (cutL s 35)) = lexC t.2.2.2.2.1 t.2.2.2.2.2.1 (lex t.2.2.2.1 t.1)) (cutL s 35, 0, 0, (cutL s 35).length, [], false, 0, fun _ => 0, fun _ => []) [0, 2, 3, 4, 5, 6] rfl rfl rfl ⟨⟨Nat.le_refl _, by simp; omega, fun j hj => by simp at hj⟩, ⟨rfl, Nat.zero_le _, rfl⟩, rfl⟩ ?_
  rintro ⟨r, a, i, f, o, b, g, K, S⟩ ⟨⟨hf, hm, hF⟩, ⟨hr, ha, hi⟩, he⟩ ih
  dsimp only at hf hm hF hr ha hi he ih ⊢
  obtain ⟨hlr, hg, hend⟩ := cut_at hr ha
  have iC : i.toNat = a := by omega
  subst hi
  refine sp W 0 rfl rfl rfl (fun z2 => ?_) (fun z2 => ?_)
  · refine sp W 0 rfl rfl rfl (fun z2b => ?_) (fun z2b => ?_)
    · have z2b : s.getD a 0 ≠ 35 := fun k => z2b (u8_eq.2 k)
      have h0 : r ≠ [] := fun k => by
        rw [k] at hend
        exact z2b (hend (by simp only [List.length_nil]; omega))
      have hp : 0 < r.length := List.length_pos_iff.2 h0
      have g0' := hg 0 hp
      rw [Nat.add_zero] at g0'
      obtain ⟨f, rfl⟩ : ∃ f', f = f' + 1 := ⟨f - 1, by omega⟩
      have tk : ∀ n, n ≤ r.length → (s.take (a + n)).drop a = r.take n := fun n hn => by rw [hr]; exact cut_take (by omega)
      refine sp W 0 rfl rfl rfl (fun z3 => ?_) (fun z3 => ?_)
      · have hd : (r.drop 1).length = r.length - 1 := by simp
        have nx := ih (r.drop 1, a + 1, (a : Int) + 1, f, o, b, g, K, S) ⟨⟨by dsimp only; omega, by dsimp only; omega, hF⟩, ⟨by dsimp only; rw [hr, List.drop_drop], by dsimp only; omega, rfl⟩, by dsimp only; rw [he, lex_space h0 (g0'.symm.trans (u8_eq.1 z3))]⟩ (by dsimp only; omega)
        dsimp only at nx
        refine bd W 0 1 [0, 2, 3, 4, 5, 6] rfl rfl rfl rfl rfl (nx)
      have z3 : ¬ r.getD 0 0 = 32 := fun k => z3 (u8_eq.2 (g0'.trans k))
      have hsg : sg r ≤ r.length := by unfold sg; split; omega; split <;> omega
      refine ce W 0 rfl rfl (l11Letter_ok _) rfl ?_
      refine sp W 0 rfl rfl rfl (fun z4 => ?_) (fun z4 => ?_)
      · have z4 : lbB (r.getD 0 0) = true := by rw [← g0']; exact lbB_iff.2 z4
        have z5 : ¬ dB (r.getD 0 0) = true := fun k => by have := dB_iff.1 k; have := lbB_iff.1 z4; omega
        have hw := wl_pos h0 (.inl z4)
        have hw2 := (wl_ok r).2.2
        have htl : (r.take (wl r)).length = wl r := by rw [List.length_take]; omega
        have hdl : (r.drop (wl r)).length = r.length - wl r := by simp
        have eT : List.drop ((a : Nat) : Int).toNat (List.take ((a + wl r : Nat) : Int).toNat s) = r.take (wl r) := tk (wl r) hw2
        refine ce W 0 rfl rfl (l11End_ok s r a hl2 hr ha h0 (.inl z4)) rfl ?_
        refine ce W 0 rfl rfl (l11Digit_ok _) rfl ?_
        refine sp W 0 rfl rfl rfl (fun z6 => ?_) (fun z6 => ?_)
        · exact absurd (dB_iff.2 z6) (by rw [iC, g0']; exact z5)
        rw [eT]
        refine ce W 0 rfl rfl (l11Plain_ok (r.take (wl r)) (by omega)) rfl ?_
        refine sp W 0 rfl rfl rfl (fun z8 => ?_) (fun z8 => ?_)
        · rw [he, lex_noword h0 z3 z5 z4 z8]
          refine rp W 0 rfl rfl rfl (.tup ⟨.nils_fz, .refl, trivial⟩)
        have e := lex_word (f := f) h0 z3 z5 z4 (Classical.not_not.1 z8)
        rw [e, lexC_cons0] at he
        have hol : (o ++ [(1, r.take (wl r))]).length = o.length + 1 := by simp
        have nx := ih (r.drop (wl r), a + wl r, ((a + wl r : Nat) : Int), f, o ++ [(1, r.take (wl r))], b, g + 1, fun i => if i < addN 0 o.length then K i else 1, fun i => if i < addN 0 o.length then S i else r.take (wl r)) ⟨⟨by dsimp only; omega, by dsimp only; omega, okF_app hF _ (fun j hj => by dsimp only; rw [addN0, if_pos hj, if_pos hj]; exact ⟨rfl, rfl⟩) (by dsimp only; rw [addN0, if_neg (Nat.lt_irrefl _), if_neg (Nat.lt_irrefl _)]; exact ⟨rfl, rfl⟩)⟩, ⟨by dsimp only; rw [hr, List.drop_drop], by dsimp only; omega, rfl⟩, he⟩ (by dsimp only; omega)
        dsimp only at nx
        rw [hol] at nx
        refine bd W 0 1 [0, 2, 3, 4, 5, 6] rfl rfl rfl rfl rfl nx (hc := by simp only [AllC, addN0, Nat.zero_add, htl, true_and, and_true]; (repeat' apply And.intro) <;> first | omega | (intros; rfl))
      · have z4 : ¬ lbB (r.getD 0 0) = true := fun k => z4 (lbB_iff.1 (by rw [iC, g0']; exact k))
        refine ce W 0 rfl rfl (l11Digit_ok _) rfl ?_
        refine sp W 0 rfl rfl rfl (fun z5 => ?_) (fun z5 => ?_)
        · have z5 : dB (r.getD 0 0) = true := by rw [← g0']; exact dB_iff.2 z5
          have hw := wl_pos h0 (.inr z5)
          have hw2 := (wl_ok r).2.2
          have htl : (r.take (wl r)).length = wl r := by rw [List.length_take]; omega
          have hdl : (r.drop (wl r)).length = r.length - wl r := by simp
          have eT : List.drop ((a : Nat) : Int).toNat (List.take ((a + wl r : Nat) : Int).toNat s) = r.take (wl r) := tk (wl r) hw2
          have e := lex_num (f := f) h0 z3 z5
          rw [e, lexC_cons] at he
          refine ce W 0 rfl rfl (l11End_ok s r a hl2 hr ha h0 (.inr z5)) rfl ?_
          refine ce W 0 rfl rfl (l11Digit_ok _) rfl ?_
          refine sp W 0 rfl rfl rfl (fun z6 => ?_) (fun z6 => absurd (dB_iff.1 z5) (by rw [← g0']; exact z6))
          rw [eT]
          rcases b with _ | _
          · refine sp W 0 rfl rfl rfl (fun z7 => ?_) (fun z7 => absurd rfl z7)
            refine ce W 0 rfl rfl (specLangNumOk_ok (r.take (wl r)) (by omega)) rfl ?_
            refine sp W 0 rfl rfl rfl (fun hL => ?_) (fun hL => ?_)
            · rw [show (false || !decide (litP (r.take (wl r)) ∧ (r.take (wl r)).length ≤ 60)) = true from by rw [decide_eq_false hL]; rfl] at he
              have hol : (o ++ [(2, r.take (wl r))]).length = o.length + 1 := by simp
              have nx := ih (r.drop (wl r), a + wl r, ((a + wl r : Nat) : Int), f, o ++ [(2, r.take (wl r))], true, g + 1, fun i => if i < addN 0 o.length then K i else 2, fun i => if i < addN 0 o.length then S i else r.take (wl r)) ⟨⟨by dsimp only; omega, by dsimp only; omega, okF_app hF _ (fun j hj => by dsimp only; rw [addN0, if_pos hj, if_pos hj]; exact ⟨rfl, rfl⟩) (by dsimp only; rw [addN0, if_neg (Nat.lt_irrefl _), if_neg (Nat.lt_irrefl _)]; exact ⟨rfl, rfl⟩)⟩, ⟨by dsimp only; rw [hr, List.drop_drop], by dsimp only; omega, rfl⟩, he⟩ (by dsimp only; omega)
              dsimp only at nx
              rw [hol] at nx
              refine bd W 0 1 [0, 2, 3, 4, 5, 6] rfl rfl rfl rfl rfl nx (hc := by simp only [AllC, addN0, Nat.zero_add, htl, true_and, and_true]; (repeat' apply And.intro) <;> first | omega | (intros; rfl))
            have hL := Classical.not_not.1 hL
            rw [show (false || !decide (litP (r.take (wl r)) ∧ (r.take (wl r)).length ≤ 60)) = false from by rw [decide_eq_true hL]; rfl] at he
            have hol : (o ++ [(2, r.take (wl r))]).length = o.length + 1 := by simp
            have nx := ih (r.drop (wl r), a + wl r, ((a + wl r : Nat) : Int), f, o ++ [(2, r.take (wl r))], false, g + 1, fun i => if i < addN 0 o.length then K i else 2, fun i => if i < addN 0 o.length then S i else r.take (wl r)) ⟨⟨by dsimp only; omega, by dsimp only; omega, okF_app hF _ (fun j hj => by dsimp only; rw [addN0, if_pos hj, if_pos hj]; exact ⟨rfl, rfl⟩) (by dsimp only; rw [addN0, if_neg (Nat.lt_irrefl _), if_neg (Nat.lt_irrefl _)]; exact ⟨rfl, rfl⟩)⟩, ⟨by dsimp only; rw [hr, List.drop_drop], by dsimp only; omega, rfl⟩, he⟩ (by dsimp only; omega)
            dsimp only at nx
            rw [hol] at nx
            refine bd W 0 1 [0, 2, 3, 4, 5, 6] rfl rfl rfl rfl rfl nx (hc := by simp only [AllC, addN0, Nat.zero_add, htl, true_and, and_true]; (repeat' apply And.intro) <;> first | omega | (intros; rfl))
          · refine sp W 0 rfl rfl rfl (fun z7 => absurd z7 (by decide)) (fun z7 => ?_)
            have hol : (o ++ [(2, r.take (wl r))]).length = o.length + 1 := by simp
            have nx := ih (r.drop (wl r), a + wl r, ((a + wl r : Nat) : Int), f, o ++ [(2, r.take (wl r))], (true || !decide (litP (r.take (wl r)) ∧ (r.take (wl r)).length ≤ 60)), g + 1, fun i => if i < addN 0 o.length then K i else 2, fun i => if i < addN 0 o.length then S i else r.take (wl r)) ⟨⟨by dsimp only; omega, by dsimp only; omega, okF_app hF _ (fun j hj => by dsimp only; rw [addN0, if_pos hj, if_pos hj]; exact ⟨rfl, rfl⟩) (by dsimp only; rw [addN0, if_neg (Nat.lt_irrefl _), if_neg (Nat.lt_irrefl _)]; exact ⟨rfl, rfl⟩)⟩, ⟨by dsimp only; rw [hr, List.drop_drop], by dsimp only; omega, rfl⟩, he⟩ (by dsimp only; omega)
            dsimp only at nx
            rw [hol] at nx
            refine bd W 0 1 [0, 2, 3, 4, 5, 6] rfl rfl rfl rfl rfl nx (hc := by simp only [AllC, addN0, Nat.zero_add, htl, true_and, and_true]; (repeat' apply And.intro) <;> first | omega | (intros; rfl))
        · have z5 : ¬ dB (r.getD 0 0) = true := fun k => z5 (dB_iff.1 (by rw [iC, g0']; exact k))
          refine ce W 0 rfl rfl (l11Sign_ok s r a hl2 hr ha h0) rfl ?_
          refine sp W 0 rfl rfl rfl (fun z7 => ?_) (fun z7 => ?_)
          · have hs0 : sg r = 0 := by
              have : (r.take (sg r)).length = 0 := by rw [z7]; rfl
              rw [List.length_take] at this
              omega
            rw [he, lex_bad h0 z3 z5 z4 hs0]
            refine rp W 0 rfl rfl rfl (.tup ⟨.nils_fz, .refl, trivial⟩)
          have hs0 : ¬ sg r = 0 := fun k => z7 (by rw [k]; rfl)
          have htl : (r.take (sg r)).length = sg r := by rw [List.length_take]; omega
          have hdl : (r.drop (sg r)).length = r.length - sg r := by simp
          have e := lex_sign (f := f) h0 z3 z5 z4 hs0
          rw [e, lexC_cons0] at he
          have hol : (o ++ [(3, r.take (sg r))]).length = o.length + 1 := by simp
          have nx := ih (r.drop (sg r), a + sg r, ((a : Nat) : Int) + ((r.take (sg r)).length : Nat), f, o ++ [(3, r.take (sg r))], b, g + 1, fun i => if i < addN 0 o.length then K i else 3, fun i => if i < addN 0 o.length then S i else r.take (sg r)) ⟨⟨by dsimp only; omega, by dsimp only; omega, okF_app hF _ (fun j hj => by dsimp only; rw [addN0, if_pos hj, if_pos hj]; exact ⟨rfl, rfl⟩) (by dsimp only; rw [addN0, if_neg (Nat.lt_irrefl _), if_neg (Nat.lt_irrefl _)]; exact ⟨rfl, rfl⟩)⟩, ⟨by dsimp only; rw [hr, List.drop_drop], by dsimp only; omega, by dsimp only; rw [htl]; omega⟩, he⟩ (by dsimp only; omega)
          dsimp only at nx
          rw [hol] at nx
          refine bd W 0 1 [0, 2, 3, 4, 5, 6] rfl rfl rfl rfl rfl nx (hc := by simp only [AllC, addN0, Nat.zero_add, htl, true_and, and_true]; (repeat' apply And.intro) <;> first | omega | (intros; rfl))
    · have hr0 : r = [] := by
        rcases Nat.eq_zero_or_pos r.length with h | h
        · exact List.eq_nil_of_length_eq_zero h
        · exfalso
          have h1 := hg 0 h
          rw [Nat.add_zero] at h1
          have h2 := (cut_get (L := s) (j := a) (by omega)).2
          rw [← (cut_get (L := s) (j := a) (by omega)).1] at h2
          exact z2b (fun k => h2 (u8_eq.1 k))
      rw [hr0, lex_nil, lexC_end] at he
      rw [he]
      rcases b with _ | _
      · refine sp W 0 rfl rfl rfl (fun z5 => absurd rfl z5) (fun z5 => ?_)
        refine sp W 0 rfl rfl rfl (fun z6 => ?_) (fun z6 => ?_)
        · rw [lexE_many (by omega)]
          refine rp W 0 rfl rfl rfl (.tup ⟨.nils_fz, .refl, trivial⟩)
        · rw [lexE_ok (by omega)]
          refine rp W 0 rfl rfl rfl (.tup ⟨.fz fun i hi => ?_, .refl, trivial⟩)
          rw [addN0]
          obtain ⟨q1, q2⟩ := hF i hi
          unfold tkR
          rw [← q1, ← q2]
      · refine sp W 0 rfl rfl rfl (fun z5 => ?_) (fun z5 => absurd (by decide) z5)
        have e : lexE (some (o, true)) = ([], 3) := rfl
        rw [e]
        refine rp W 0 rfl rfl rfl (.tup ⟨.nils_fz, .refl, trivial⟩)
  · have hr0 : r = [] := List.eq_nil_of_length_eq_zero (by omega)
    rw [hr0, lex_nil, lexC_end] at he
    rw [he]
    rcases b with _ | _
    · refine sp W 0 rfl rfl rfl (fun z5 => absurd rfl z5) (fun z5 => ?_)
      refine sp W 0 rfl rfl rfl (fun z6 => ?_) (fun z6 => ?_)
      · rw [lexE_many (by omega)]
        refine rp W 0 rfl rfl rfl (.tup ⟨.nils_fz, .refl, trivial⟩)
      · rw [lexE_ok (by omega)]
        refine rp W 0 rfl rfl rfl (.tup ⟨.fz fun i hi => ?_, .refl, trivial⟩)
        rw [addN0]
        obtain ⟨q1, q2⟩ := hF i hi
        unfold tkR
        rw [← q1, ← q2]
    · refine sp W 0 rfl rfl rfl (fun z5 => ?_) (fun z5 => absurd (by decide) z5)
      have e : lexE (some (o, true)) = ([], 3) := rfl
      rw [e]
      refine rp W 0 rfl rfl rfl (.tup ⟨.nils_fz, .refl, trivial⟩)
end Pf
/- The model's reader of terms: signs -/
namespace Pf
open Go Go.Proofs
/-! ### What tokens of a line are like (plain) -/
theorem lex_toks : ∀ (f : Nat) (s : List UInt8) (ts : List Tk) (b : Bool), s.length ≤ 1000 → lex f s = some (ts, b) → toksOk ts := by
  intro f
  induction f with
  | zero =>
    intro s ts b hs h
    simp only [lex, Option.some.injEq, Prod.mk.injEq] at h
    obtain ⟨rfl, _⟩ := h
    intro t ht
    cases ht
  | succ f ih =>
    intro s ts b hs h
    have one : ∀ (n : Nat) (t : Tk) (c : Bool), tokOk t → (lex f (s.drop n)).map (fun r => (t :: r.1, c || r.2)) = some (ts, b) → toksOk ts := by
      intro n t c ht h
      cases hx : lex f (s.drop n) with
      | none => rw [hx] at h; cases h
      | some r =>
        rw [hx] at h
        simp only [Option.map_some, Option.some.injEq, Prod.mk.injEq] at h
        obtain ⟨rfl, _⟩ := h
        have := ih (s.drop n) r.1 r.2 (by simp; omega) hx
        intro x hx2
        rcases List.mem_cons.1 hx2 with rfl | h2
        · exact ht
        · exact this x h2
    have one0 : ∀ (n : Nat) (t : Tk), tokOk t → (lex f (s.drop n)).map (fun r => (t :: r.1, r.2)) = some (ts, b) → toksOk ts := by
      intro n t ht h
      refine one n t false ht ?_
      simpa using h
    have tl : ∀ n, (s.take n).length ≤ 1000 := fun n => by rw [List.length_take]; omega
    by_cases h0 : s = []
    · subst h0
      rw [lex_nil, Option.some.injEq, Prod.mk.injEq] at h
      obtain ⟨rfl, _⟩ := h
      intro t ht
      cases ht
    by_cases h1 : s.getD 0 0 = 32
    · rw [lex_space h0 h1] at h
      exact ih _ _ _ (by simp; omega) h
    by_cases h2 : dB (s.getD 0 0) = true
    · rw [lex_num h0 h1 h2] at h
      exact one _ _ _ ⟨.inr (.inl ⟨rfl, (wl_digit h0 h2).1⟩), tl _⟩ h
    by_cases h3 : lbB (s.getD 0 0) = true
    · by_cases h4 : wordP (s.take (wl s))
      · rw [lex_word h0 h1 h2 h3 h4] at h
        exact one0 _ _ ⟨.inl ⟨rfl, h4⟩, tl _⟩ h
      · rw [lex_noword h0 h1 h2 h3 h4] at h
        cases h
    by_cases h4 : sg s = 0
    · rw [lex_bad h0 h1 h2 h3 h4] at h
      cases h
    · rw [lex_sign h0 h1 h2 h3 h4] at h
      exact one0 _ _ ⟨.inr (.inr rfl), tl _⟩ h
theorem lexR_toks (s : List UInt8) : toksOk (lexR s).1 ∧ (lexR s).1.length ≤ 300 := by
  have nil : toksOk ([] : List Tk) ∧ ([] : List Tk).length ≤ 300 := ⟨fun t ht => (by cases ht), by simp⟩
  unfold lexR
  split
  · exact nil
  · rename_i hl
    cases hx : lex (cutL s 35).length (cutL s 35) with
    | none => exact nil
    | some r =>
      obtain ⟨ts, b⟩ := r
      cases b with
      | true => exact nil
      | false =>
        by_cases h3 : 300 < ts.length
        · rw [lexE_many h3]; exact nil
        · rw [lexE_ok h3]
          exact ⟨lex_toks _ _ _ _ (by have := cut_le s; omega) hx, by dsimp only; omega⟩
/-! ### The model's reader -/
def LayP (L : List Tk) (a : Nat) (ns : List Nd) (b m : Bool) (g : Nat) : AHeap := [.lst 0 [[.fz L.length (tkR L), .int .i64 a, .sl 1 g 0 ns.length, .bool b, .bool m]], .tab g ns.length (nodeR ns)]
abbrev stP (L : List Tk) (a : Nat) (ns : List Nd) (b m : Bool) : RS := ⟨L.drop a, ns, b, m⟩
theorem stP_hd {L : List Tk} {a : Nat} {ns : List Nd} {b m : Bool} : (stP L a ns b m).hd = L.getD a k0 := by
  unfold RS.hd
  simp [List.getD_eq_getElem?_getD]
theorem stP_len {L : List Tk} {a : Nat} {ns : List Nd} {b m : Bool} : (stP L a ns b m).toks.length = L.length - a := by simp
theorem stP_next {L : List Tk} {a : Nat} {ns : List Nd} {b m : Bool} (h : a < L.length) : (stP L a ns b m).next = stP L (a + 1) ns b m := by
  unfold stP
  rw [List.drop_eq_getElem_cons h]
  rfl
theorem isAt_one {s : RS} {w : List UInt8} : s.isAt [w] ↔ 0 < s.toks.length ∧ s.hd.1 = 3 ∧ s.hd.2 = w := by unfold RS.isAt; simp
theorem isAt_two {s : RS} {w z : List UInt8} : s.isAt [w, z] ↔ s.isAt [w] ∨ s.isAt [z] := by
  unfold RS.isAt
  simp only [List.mem_cons, List.not_mem_nil, or_false]
  constructor
  · rintro ⟨h1, h2, h3 | h3⟩
    · exact .inl ⟨h1, h2, h3⟩
    · exact .inr ⟨h1, h2, h3⟩
  · rintro (⟨h1, h2, h3⟩ | ⟨h1, h2, h3⟩)
    · exact ⟨h1, h2, .inl h3⟩
    · exact ⟨h1, h2, .inr h3⟩
theorem pSign_yes (L : List Tk) (a : Nat) (ns : List Nd) (b m : Bool) (g : Nat) (w : List UInt8) (hL : L.length ≤ 1000) (h : (stP L a ns b m).isAt [w]) : AFun Tryz.prog 102 [.ptr 0 0 0 0, .str w] (LayP L a ns b m g) (fun u H => u = .bool true ∧ H = LayP L (a + 1) ns b m g) := by
  have h := isAt_one.1 h
  rw [stP_len, stP_hd] at h
  have iA : ((a : Nat) : Int).toNat = a := Int.toNat_natCast _
  refine AFun.trim 2 ?_ (by simp [LayP])
  refine afun_of Tryz.func102 Tryz.call102 rfl Tryz.ntmps102 rfl ?_
  have W : Walk Tryz.prog TT 102 _ := Walk.of TT_ok Tryz.func102 Tryz.results102
  refine dre W 0 39 [(15, true), (29, true)] [] rfl rfl rfl trivial rfl ?_ (hp := by simp only [AllP, Holds, Option.getD, true_and, and_true, Int.toNat_natCast]; omega)
  refine sp W 0 rfl rfl rfl (fun z1 => ?_) (fun z1 => ?_)
  · refine go_retS W 0 300 2 rfl (by first | exact True.intro | (simp only [AllC, AllP, addN, Int.toNat_natCast, true_and, and_true, Option.getD, List.length_set, wrapU, pw1, pw7, pw8, pw16, pw23, pw32, pw52, Holds] <;> first | omega | ((repeat' apply And.intro) <;> first | omega | (intros; rfl))) | (simp [AllC, AllP, addN, cloL, clo, mrgL, mrg, wrapU, Holds] <;> omega)) rfl (by first | exact True.intro | (simp only [AllC, AllP, addN, Int.toNat_natCast, true_and, and_true, Option.getD, List.length_set, wrapU, pw1, pw7, pw8, pw16, pw23, pw32, pw52, Holds] <;> first | omega | ((repeat' apply And.intro) <;> first | omega | (intros; rfl))) | (simp [AllC, AllP, addN, cloL, clo, mrgL, mrg, wrapU, Holds] <;> omega)) (.bool true) .refl rfl ⟨rfl, rfl⟩
  · exact absurd h.2.2 z1
theorem pSign_no (L : List Tk) (a : Nat) (ns : List Nd) (b m : Bool) (g : Nat) (w : List UInt8) (hL : L.length ≤ 1000) (h : ¬ (stP L a ns b m).isAt [w]) : AFun Tryz.prog 102 [.ptr 0 0 0 0, .str w] (LayP L a ns b m g) (fun u H => u = .bool false ∧ H = LayP L a ns b m g) := by
  have h : ¬ (a < L.length ∧ (L.getD a k0).1 = 3 ∧ (L.getD a k0).2 = w) := fun k => h (isAt_one.2 (by rw [stP_len, stP_hd]; exact ⟨by omega, k.2⟩))
  have iA : ((a : Nat) : Int).toNat = a := Int.toNat_natCast _
  refine AFun.trim 2 ?_ (by simp [LayP])
  refine afun_of Tryz.func102 Tryz.call102 rfl Tryz.ntmps102 rfl ?_
  have W : Walk Tryz.prog TT 102 _ := Walk.of TT_ok Tryz.func102 Tryz.results102
  by_cases h1 : a < L.length
  · by_cases h2 : (L.getD a k0).1 = 3
    · refine dre W 0 39 [(15, true), (29, true)] [] rfl rfl rfl trivial rfl ?_ (hp := by simp only [AllP, Holds, Option.getD, true_and, and_true, Int.toNat_natCast]; omega)
      refine sp W 0 rfl rfl rfl (fun z1 => ?_) (fun z1 => ?_)
      · exact absurd ⟨h1, h2, z1⟩ h
      · refine go_retS W 0 300 2 rfl (by first | exact True.intro | (simp only [AllC, AllP, addN, Int.toNat_natCast, true_and, and_true, Option.getD, List.length_set, wrapU, pw1, pw7, pw8, pw16, pw23, pw32, pw52, Holds] <;> first | omega | ((repeat' apply And.intro) <;> first | omega | (intros; rfl))) | (simp [AllC, AllP, addN, cloL, clo, mrgL, mrg, wrapU, Holds] <;> omega)) rfl (by first | exact True.intro | (simp only [AllC, AllP, addN, Int.toNat_natCast, true_and, and_true, Option.getD, List.length_set, wrapU, pw1, pw7, pw8, pw16, pw23, pw32, pw52, Holds] <;> first | omega | ((repeat' apply And.intro) <;> first | omega | (intros; rfl))) | (simp [AllC, AllP, addN, cloL, clo, mrgL, mrg, wrapU, Holds] <;> omega)) (.bool false) .refl rfl ⟨rfl, rfl⟩
    · refine dre W 0 39 [(15, true), (29, false)] [] rfl rfl rfl trivial rfl ?_ (hp := by simp only [AllP, Holds, Option.getD, true_and, and_true, Int.toNat_natCast]; omega)
      refine go_retS W 0 300 2 rfl (by first | exact True.intro | (simp only [AllC, AllP, addN, Int.toNat_natCast, true_and, and_true, Option.getD, List.length_set, wrapU, pw1, pw7, pw8, pw16, pw23, pw32, pw52, Holds] <;> first | omega | ((repeat' apply And.intro) <;> first | omega | (intros; rfl))) | (simp [AllC, AllP, addN, cloL, clo, mrgL, mrg, wrapU, Holds] <;> omega)) rfl (by first | exact True.intro | (simp only [AllC, AllP, addN, Int.toNat_natCast, true_and, and_true, Option.getD, List.length_set, wrapU, pw1, pw7, pw8, pw16, pw23, pw32, pw52, Holds] <;> first | omega | ((repeat' apply And.intro) <;> first | omega | (intros; rfl))) | (simp [AllC, AllP, addN, cloL, clo, mrgL, mrg, wrapU, Holds] <;> omega)) (.bool false) .refl rfl ⟨rfl, rfl⟩
  · refine dre W 0 39 [(15, false), (29, false)] [] rfl rfl rfl trivial rfl ?_ (hp := by simp only [AllP, Holds, Option.getD, true_and, and_true, Int.toNat_natCast]; omega)
    refine go_retS W 0 300 2 rfl (by first | exact True.intro | (simp only [AllC, AllP, addN, Int.toNat_natCast, true_and, and_true, Option.getD, List.length_set, wrapU, pw1, pw7, pw8, pw16, pw23, pw32, pw52, Holds] <;> first | omega | ((repeat' apply And.intro) <;> first | omega | (intros; rfl))) | (simp [AllC, AllP, addN, cloL, clo, mrgL, mrg, wrapU, Holds] <;> omega)) rfl (by first | exact True.intro | (simp only [AllC, AllP, addN, Int.toNat_natCast, true_and, and_true, Option.getD, List.length_set, wrapU, pw1, pw7, pw8, pw16, pw23, pw32, pw52, Holds] <;> first | omega | ((repeat' apply And.intro) <;> first | omega | (intros; rfl))) | (simp [AllC, AllP, addN, cloL, clo, mrgL, mrg, wrapU, Holds] <;> omega)) (.bool false) .refl rfl ⟨rfl, rfl⟩
end Pf
/- The model's reader of terms: its small parts -/
namespace Pf
open Go Go.Proofs
theorem pWant_yes (L : List Tk) (a : Nat) (ns : List Nd) (b m : Bool) (g : Nat) (w : List UInt8) (hL : L.length ≤ 1000) (h : (stP L a ns b m).isAt [w]) : AFun Tryz.prog 146 [.ptr 0 0 0 0, .str w] (LayP L a ns b m g) (fun u H => u = .tup [] ∧ H = LayP L (a + 1) ns b m g) := by
  have c := pSign_yes L a ns b m g w hL h
  refine AFun.trim 2 ?_ (by simp [LayP])
  refine afun_of Tryz.func146 Tryz.call146 rfl Tryz.ntmps146 rfl ?_
  have W : Walk Tryz.prog TT 146 _ := Walk.of TT_ok Tryz.func146 Tryz.results146
  refine go_callS W 0 300 [0, 1] rfl (by first | exact True.intro | (simp only [AllC, AllP, addN, Int.toNat_natCast, true_and, and_true, Option.getD, List.length_set, wrapU, pw1, pw7, pw8, pw16, pw23, pw32, pw52, Holds] <;> first | omega | ((repeat' apply And.intro) <;> first | omega | (intros; rfl))) | (simp [AllC, AllP, addN, cloL, clo, mrgL, mrg, wrapU, Holds] <;> omega)) c rfl rfl ⟨rfl, fun _ _ => rfl, trivial⟩ ⟨rfl, rfl, trivial⟩ rfl ?_
  rintro _ _ ⟨rfl, rfl⟩
  refine ⟨_, _, rfl, rfl, ?_⟩
  refine go_retS W 0 300 2 rfl (by first | exact True.intro | (simp only [AllC, AllP, addN, Int.toNat_natCast, true_and, and_true, Option.getD, List.length_set, wrapU, pw1, pw7, pw8, pw16, pw23, pw32, pw52, Holds] <;> first | omega | ((repeat' apply And.intro) <;> first | omega | (intros; rfl))) | (simp [AllC, AllP, addN, cloL, clo, mrgL, mrg, wrapU, Holds] <;> omega)) rfl (by first | exact True.intro | (simp only [AllC, AllP, addN, Int.toNat_natCast, true_and, and_true, Option.getD, List.length_set, wrapU, pw1, pw7, pw8, pw16, pw23, pw32, pw52, Holds] <;> first | omega | ((repeat' apply And.intro) <;> first | omega | (intros; rfl))) | (simp [AllC, AllP, addN, cloL, clo, mrgL, mrg, wrapU, Holds] <;> omega)) (.tup []) .refl rfl ⟨rfl, rfl⟩
theorem pWant_no (L : List Tk) (a : Nat) (ns : List Nd) (b m : Bool) (g : Nat) (w : List UInt8) (hL : L.length ≤ 1000) (h : ¬ (stP L a ns b m).isAt [w]) : AFun Tryz.prog 146 [.ptr 0 0 0 0, .str w] (LayP L a ns b m g) (fun u H => u = .tup [] ∧ H = LayP L a ns true m g) := by
  have c := pSign_no L a ns b m g w hL h
  refine AFun.trim 2 ?_ (by simp [LayP])
  refine afun_of Tryz.func146 Tryz.call146 rfl Tryz.ntmps146 rfl ?_
  have W : Walk Tryz.prog TT 146 _ := Walk.of TT_ok Tryz.func146 Tryz.results146
  refine go_callS W 0 300 [0, 1] rfl (by first | exact True.intro | (simp only [AllC, AllP, addN, Int.toNat_natCast, true_and, and_true, Option.getD, List.length_set, wrapU, pw1, pw7, pw8, pw16, pw23, pw32, pw52, Holds] <;> first | omega | ((repeat' apply And.intro) <;> first | omega | (intros; rfl))) | (simp [AllC, AllP, addN, cloL, clo, mrgL, mrg, wrapU, Holds] <;> omega)) c rfl rfl ⟨rfl, fun _ _ => rfl, trivial⟩ ⟨rfl, rfl, trivial⟩ rfl ?_
  rintro _ _ ⟨rfl, rfl⟩
  refine ⟨_, _, rfl, rfl, ?_⟩
  refine go_retS W 0 300 2 rfl (by first | exact True.intro | (simp only [AllC, AllP, addN, Int.toNat_natCast, true_and, and_true, Option.getD, List.length_set, wrapU, pw1, pw7, pw8, pw16, pw23, pw32, pw52, Holds] <;> first | omega | ((repeat' apply And.intro) <;> first | omega | (intros; rfl))) | (simp [AllC, AllP, addN, cloL, clo, mrgL, mrg, wrapU, Holds] <;> omega)) rfl (by first | exact True.intro | (simp only [AllC, AllP, addN, Int.toNat_natCast, true_and, and_true, Option.getD, List.length_set, wrapU, pw1, pw7, pw8, pw16, pw23, pw32, pw52, Holds] <;> first | omega | ((repeat' apply And.intro) <;> first | omega | (intros; rfl))) | (simp [AllC, AllP, addN, cloL, clo, mrgL, mrg, wrapU, Holds] <;> omega)) (.tup []) .refl rfl ⟨rfl, rfl⟩
theorem pPut_ok (L : List Tk) (a : Nat) (ns : List Nd) (b m : Bool) (g : Nat) (k n : Int) (t : List UInt8) (hn : ns.length ≤ 1000000) : AFun Tryz.prog 103 [.ptr 0 0 0 0, .int .i64 k, .int .i64 n, .str t] (LayP L a ns b m g) (fun u H => u = .tup [] ∧ ∃ g', H = LayP L a (ns ++ [(k, n, t)]) b m g') := by
  refine AFun.tab 1 ?_
  refine AFun.trim 2 ?_ (by simp [LayP])
  refine afun_of Tryz.func103 Tryz.call103 rfl Tryz.ntmps103 rfl ?_
  have W : Walk Tryz.prog TT 103 _ := Walk.of TT_ok Tryz.func103 Tryz.results103
  refine go_retS W 0 300 2 rfl (by simp only [AllC, Nat.zero_add, true_and, and_true]; exact ⟨Nat.le_refl _, by omega, fun i => rfl⟩) rfl (by first | exact True.intro | (simp only [AllC, AllP, addN, Int.toNat_natCast, true_and, and_true, Option.getD, List.length_set, wrapU, pw1, pw7, pw8, pw16, pw23, pw32, pw52, Holds] <;> first | omega | ((repeat' apply And.intro) <;> first | omega | (intros; rfl))) | (simp [AllC, AllP, addN, cloL, clo, mrgL, mrg, wrapU, Holds] <;> omega)) (.tup []) .refl rfl ⟨_, _, _, nodeR (ns ++ [(k, n, t)]), _, rfl, rfl, rfl, fun i hi => ?_, rfl, g + 1, ?_⟩
  · rw [addN0] at hi ⊢
    exact (nodeR_app ns (k, n, t) i hi).symm
  · unfold LayP
    rw [addN0, List.length_append]
    rfl
theorem pPow_ok (L : List Tk) (a : Nat) (hL : L.length ≤ 1000) (ha : a ≤ L.length) (hd : (L.getD a k0).1 = 2 → dB ((L.getD a k0).2.getD 0 0) = true) :
    AFunP Tryz.prog 131 [.fz L.length (tkR L), .int .i64 a] (fun u => (((L.getD a k0).1 ≠ 2 ∨ (L.getD a k0).2.length ≠ 1 ∨ ¬(Op.bytesLess (L.getD a k0).2 [56] = true ∨ (L.getD a k0).2 = [56])) → u = .int .i64 (-1)) ∧
      (¬ ((L.getD a k0).1 ≠ 2 ∨ (L.getD a k0).2.length ≠ 1 ∨ ¬(Op.bytesLess (L.getD a k0).2 [56] = true ∨ (L.getD a k0).2 = [56])) → u = .int .i64 (((L.getD a k0).2.getD 0 0).toNat - 48 : Int))) := by
  have iA : ((a : Nat) : Int).toNat = a := Int.toNat_natCast _
  refine afun_of Tryz.func131 Tryz.call131 rfl Tryz.ntmps131 rfl ?_
  have W : Walk Tryz.prog TT 131 _ := Walk.of TT_ok Tryz.func131 Tryz.results131
  refine sp W 0 rfl rfl rfl (fun z1 => ?_) (fun z1 => ?_)
  · have e : (L.getD a k0).1 ≠ 2 := by
      rw [List.getD_eq_getElem?_getD, List.getElem?_eq_none (by omega)]
      decide
    refine rq W 0 rfl rfl (.int .i64 (-1)) (⟨fun _ => rfl, fun k => absurd (.inl e) k⟩) rfl .refl
  have hlt : a < L.length := by omega
  refine sp W 0 rfl rfl rfl (fun z2 => ?_) (fun z2 => ?_) (hc := by simp only [AllC, iA, true_and, and_true]; omega)
  · refine rq W 0 rfl rfl (.int .i64 (-1)) (⟨fun _ => rfl, fun k => absurd (.inl z2) k⟩) rfl .refl
  refine sp W 0 rfl rfl rfl (fun z3 => ?_) (fun z3 => ?_) (hc := by simp only [AllC, iA, true_and, and_true]; omega)
  · refine rq W 0 rfl rfl (.int .i64 (-1)) (⟨fun _ => rfl, fun k => absurd (.inr (.inl (by rw [iA] at z3; omega))) k⟩) rfl .refl
  refine sp W 0 rfl rfl rfl (fun z4 => ?_) (fun z4 => ?_) (hc := by simp only [AllC, iA, true_and, and_true]; omega)
  · refine rq W 0 rfl rfl (.int .i64 (-1)) (⟨fun _ => rfl, fun k => absurd (.inr (.inr z4)) k⟩) rfl .refl
  · rw [iA] at z2 z3 z4
    have z2 : (L.getD a k0).1 = 2 := by omega
    have hd2 := dB_iff.1 (hd z2)
    have hk : ¬ ((L.getD a k0).1 ≠ 2 ∨ (L.getD a k0).2.length ≠ 1 ∨ ¬(Op.bytesLess (L.getD a k0).2 [56] = true ∨ (L.getD a k0).2 = [56])) := fun k => k.elim (fun x => x z2) fun k => k.elim (fun x => z3 (by omega)) z4
    refine rq W 0 rfl rfl (.int .i64 (((L.getD a k0).2.getD 0 0).toNat - 48 : Int)) ⟨fun k => absurd k hk, fun _ => rfl⟩ rfl .refl (hc := by simp only [AllC, iA, Int.toNat_zero, true_and, and_true]; omega)
end Pf
/- The model's reader of terms: sums, products -/
namespace Pf
open Go Go.Proofs
/-- What the model's reader hands back: an error, or what is read. -/
def EqP (L : List Tk) (a : Nat) (ns : List Nd) (r : RS) (a' : Nat) (ns' : List Nd) (b' m' : Bool) : Prop := (a ≤ a' ∧ a' ≤ L.length) ∧ ns'.length + (L.length - a') ≤ ns.length + (L.length - a) ∧ b' = r.bad ∧ (r.bad = false → r = stP L a' ns' b' m')
def RdP (L : List Tk) (a : Nat) (ns : List Nd) (r : RS) (u : AV) (H : AHeap) : Prop := u = .tup [] ∧ ∃ a' ns' b' m' g', H = LayP L a' ns' b' m' g' ∧ EqP L a ns r a' ns' b' m'
def CP (f : Nat) (m : Md) (L : List Tk) (a : Nat) (ns : List Nd) (mn : Bool) (g : Nat) : Prop := match m with
  | .sum => AFun Tryz.prog 63 [.ptr 0 0 0 0] (LayP L a ns false mn g) (RdP L a ns (pI f .sum (stP L a ns false mn)).2)
  | .prod => AFun Tryz.prog 101 [.ptr 0 0 0 0] (LayP L a ns false mn g) (RdP L a ns (pI f .prod (stP L a ns false mn)).2)
  | .sgn => AFun Tryz.prog 121 [.ptr 0 0 0 0] (LayP L a ns false mn g) (RdP L a ns (pI f .sgn (stP L a ns false mn)).2)
  | .atom => AFun Tryz.prog 130 [.ptr 0 0 0 0] (LayP L a ns false mn g) (RdP L a ns (pI f .atom (stP L a ns false mn)).2)
  | _ => True
def OkP (L : List Tk) (a : Nat) (ns : List Nd) : Prop := a ≤ L.length ∧ ns.length + (L.length - a) ≤ 1000
def AllQ (L : List Tk) (f : Nat) : Prop := ∀ k, k ≤ f → ∀ (m : Md) (a : Nat) (ns : List Nd) (mn : Bool) (g : Nat), OkP L a ns → need m (stP L a ns false mn) ≤ k → CP k m L a ns mn g
theorem EqP.toks {L : List Tk} {a : Nat} {ns : List Nd} {r : RS} {a' : Nat} {ns' : List Nd} {b' m' : Bool} (h : EqP L a ns r a' ns' b' m') : OkP L a ns → OkP L a' ns' := fun k => ⟨h.1.2, by have := h.2.1; have := k.2; omega⟩
theorem pSum (L : List Tk) (hL : L.length ≤ 900) (f : Nat) (ih : AllQ L f) (a0 : Nat) (ns0 : List Nd) (mn0 : Bool) (g0 : Nat) (hs : OkP L a0 ns0) (hf : need .sum (stP L a0 ns0 false mn0) ≤ f + 1) : CP (f + 1) .sum L a0 ns0 mn0 g0 := by
  unfold CP
  have hL : L.length ≤ 1000 := by omega
  refine AFun.trim 2 ?_ (by simp [LayP])
  refine afun_of Tryz.func63 Tryz.call63 rfl Tryz.ntmps63 rfl ?_
  have W : Walk Tryz.prog TT 63 _ := Walk.of TT_ok Tryz.func63 Tryz.results63
  have c1 := ih f (Nat.le_refl _) .prod a0 ns0 mn0 g0 hs (by simp only [need, rankM, stP_len, List.length_drop] at *; omega)
  unfold CP at c1
  have hsh0 := pI_shr f .prod (stP L a0 ns0 false mn0)
  have e0 : pI (f + 1) .sum (stP L a0 ns0 false mn0) = pI f .sumL (pI f .prod (stP L a0 ns0 false mn0)).2 := by rw [pI]
  generalize (pI f .prod (stP L a0 ns0 false mn0)).2 = q0 at *
  refine go_callS W 0 300 [0, 1] rfl (by first | exact True.intro | (simp only [AllC, AllP, addN, Int.toNat_natCast, true_and, and_true, Option.getD, List.length_set, wrapU, pw1, pw7, pw8, pw16, pw23, pw32, pw52, Holds] <;> first | omega | ((repeat' apply And.intro) <;> first | omega | (intros; rfl))) | (simp [AllC, AllP, addN, cloL, clo, mrgL, mrg, wrapU, Holds] <;> omega)) c1 rfl rfl ⟨rfl, fun _ _ => rfl, trivial⟩ ⟨rfl, rfl, trivial⟩ rfl ?_
  rintro _ _ ⟨rfl, a1, ns1, b1, m1, g1, rfl, ⟨p1, p2⟩, p3, p4, p5⟩
  refine ⟨_, _, rfl, rfl, ?_⟩
  obtain ⟨hs1, hs2⟩ := hs
  refine lp W 0 (σ := Nat × Nat × List Nd × Bool × Bool × Nat) (fun t => [(0, .ptr 0 0 0 0)]) (fun t => LayP L t.2.1 t.2.2.1 t.2.2.2.1 t.2.2.2.2.1 t.2.2.2.2.2) (fun t => L.length - t.2.1) (fun t => ((a0 ≤ t.2.1 ∧ t.2.1 ≤ L.length) ∧ t.2.2.1.length + (L.length - t.2.1) ≤ ns0.length + (L.length - a0)) ∧ (t.2.2.2.1 = true → (pI (f + 1) .sum (stP L a0 ns0 false mn0)).2.bad = true) ∧ (t.2.2.2.1 = false → t.1 ≤ f ∧ need .sumL (stP L t.2.1 t.2.2.1 false t.2.2.2.2.1) ≤ t.1 ∧ pI (f + 1) .sum (stP L a0 ns0 false mn0) = pI t.1 .sumL (stP L t.2.1 t.2.2.1 false t.2.2.2.2.1))) (f, a1, ns1, b1, m1, g1) [0] rfl rfl rfl ⟨⟨⟨p1, p2⟩, p3⟩, fun hb => by rw [e0]; exact (pI_shr f .sumL q0).bad (p4.symm.trans hb), fun hb => by
    have hq := p5 (p4.symm.trans hb)
    have hl := hsh0.len
    rw [hq] at hl e0
    rw [stP_len, stP_len] at hl
    have hb : b1 = false := hb
    subst hb
    exact ⟨Nat.le_refl _, by simp only [need, rankM, stP_len, List.length_drop] at *; omega, e0⟩⟩ ?_
  clear c1 e0 hsh0 p1 p2 p3 p4 p5
  rintro ⟨k, a, ns, b, mn, g⟩ ⟨⟨⟨ha0, ha⟩, hm⟩, hb1, hb2⟩ ih2
  dsimp only at ha0 ha hm hb1 hb2 ih2 ⊢
  rcases b with _ | _
  · have he := hb2 rfl
    clear hb1 hb2
    obtain ⟨k, rfl⟩ : ∃ k', k = k' + 1 := ⟨k - 1, by have := he.2.1; simp only [need, rankM] at this; omega⟩
    obtain ⟨hk, hn, -⟩ := id he
    rcases Classical.em ((stP L a ns false mn).isAt [wPlus]) with z1 | z1
    · refine go_callS W 0 300 [0, 1] rfl (by first | exact True.intro | (simp only [AllC, AllP, addN, Int.toNat_natCast, true_and, and_true, Option.getD, List.length_set, wrapU, pw1, pw7, pw8, pw16, pw23, pw32, pw52, Holds] <;> first | omega | ((repeat' apply And.intro) <;> first | omega | (intros; rfl))) | (simp [AllC, AllP, addN, cloL, clo, mrgL, mrg, wrapU, Holds] <;> omega)) (pSign_yes L a ns false mn g wPlus hL z1) rfl rfl ⟨rfl, fun _ _ => rfl, trivial⟩ ⟨rfl, rfl, trivial⟩ rfl ?_
      rintro _ _ ⟨rfl, rfl⟩
      refine ⟨_, _, rfl, rfl, ?_⟩
      have hlt : a < L.length := by have := (isAt_one.1 z1).1; rw [stP_len] at this; omega
      have hhd : (stP L a ns false mn).hd.2 = wPlus := (isAt_one.1 z1).2.2
      have e : pI (k + 1) .sumL (stP L a ns false mn) = pI k .sumL ((pI k .prod (stP L (a + 1) ns false mn)).2.put 4 0 []) := by
        rw [pI, if_pos ⟨rfl, isAt_two.2 (.inl z1)⟩, stP_next hlt, hhd]
        rfl
      have c2 := ih k (by omega) .prod (a + 1) ns mn g ⟨by omega, by omega⟩ (by simp only [need, rankM, stP_len, List.length_drop] at *; omega)
      unfold CP at c2
      have hsh := (pI_shr k .prod (stP L (a + 1) ns false mn)).len
      generalize (pI k .prod (stP L (a + 1) ns false mn)).2 = q at *
      refine go_callS W 0 300 [0, 1] rfl (by first | exact True.intro | (simp only [AllC, AllP, addN, Int.toNat_natCast, true_and, and_true, Option.getD, List.length_set, wrapU, pw1, pw7, pw8, pw16, pw23, pw32, pw52, Holds] <;> first | omega | ((repeat' apply And.intro) <;> first | omega | (intros; rfl))) | (simp [AllC, AllP, addN, cloL, clo, mrgL, mrg, wrapU, Holds] <;> omega)) c2 rfl rfl ⟨rfl, fun _ _ => rfl, trivial⟩ ⟨rfl, rfl, trivial⟩ rfl ?_
      rintro _ _ ⟨rfl, a2, ns2, b2, m2, g2, rfl, ⟨q1, q2⟩, q3, q4, q5⟩
      refine ⟨_, _, rfl, rfl, ?_⟩
      refine go_callS W 0 300 [0, 1] rfl (by first | exact True.intro | (simp only [AllC, AllP, addN, Int.toNat_natCast, true_and, and_true, Option.getD, List.length_set, wrapU, pw1, pw7, pw8, pw16, pw23, pw32, pw52, Holds] <;> first | omega | ((repeat' apply And.intro) <;> first | omega | (intros; rfl))) | (simp [AllC, AllP, addN, cloL, clo, mrgL, mrg, wrapU, Holds] <;> omega)) (pPut_ok L a2 ns2 b2 m2 g2 4 0 [] (by omega)) rfl rfl ⟨rfl, fun _ _ => rfl, trivial⟩ ⟨rfl, rfl, trivial⟩ rfl ?_
      rintro _ _ ⟨rfl, g3, rfl⟩
      refine ⟨_, _, rfl, rfl, ?_⟩
      have nx := ih2 (k, a2, ns2 ++ [(4, 0, [])], b2, m2, g3) ⟨⟨by dsimp only; omega, by simp only [List.length_append, List.length_singleton]; omega⟩, fun hb => by
          rw [he.2.2, e]
          exact (pI_shr k .sumL _).bad (q4.symm.trans hb), fun hb => by
          have hq := q5 (q4.symm.trans hb)
          rw [hq] at hsh e
          rw [stP_len, stP_len] at hsh
          have hb : b2 = false := hb
          subst hb
          exact ⟨by dsimp only; omega, by simp only [need, rankM, stP_len, List.length_drop] at *; omega, he.2.2.trans e⟩⟩ (by dsimp only; omega)
      dsimp only [LayP] at nx
      refine bd W 0 2 [0] rfl rfl rfl rfl rfl (nx)
    · refine go_callS W 0 300 [0, 1] rfl (by first | exact True.intro | (simp only [AllC, AllP, addN, Int.toNat_natCast, true_and, and_true, Option.getD, List.length_set, wrapU, pw1, pw7, pw8, pw16, pw23, pw32, pw52, Holds] <;> first | omega | ((repeat' apply And.intro) <;> first | omega | (intros; rfl))) | (simp [AllC, AllP, addN, cloL, clo, mrgL, mrg, wrapU, Holds] <;> omega)) (pSign_no L a ns false mn g wPlus hL z1) rfl rfl ⟨rfl, fun _ _ => rfl, trivial⟩ ⟨rfl, rfl, trivial⟩ rfl ?_
      rintro _ _ ⟨rfl, rfl⟩
      refine ⟨_, _, rfl, rfl, ?_⟩
      rcases Classical.em ((stP L a ns false mn).isAt [wMinus]) with z2 | z2
      · refine go_callS W 0 300 [0, 1] rfl (by first | exact True.intro | (simp only [AllC, AllP, addN, Int.toNat_natCast, true_and, and_true, Option.getD, List.length_set, wrapU, pw1, pw7, pw8, pw16, pw23, pw32, pw52, Holds] <;> first | omega | ((repeat' apply And.intro) <;> first | omega | (intros; rfl))) | (simp [AllC, AllP, addN, cloL, clo, mrgL, mrg, wrapU, Holds] <;> omega)) (pSign_yes L a ns false mn g wMinus hL z2) rfl rfl ⟨rfl, fun _ _ => rfl, trivial⟩ ⟨rfl, rfl, trivial⟩ rfl ?_
        rintro _ _ ⟨rfl, rfl⟩
        refine ⟨_, _, rfl, rfl, ?_⟩
        have hlt : a < L.length := by have := (isAt_one.1 z2).1; rw [stP_len] at this; omega
        have hhd : (stP L a ns false mn).hd.2 = wMinus := (isAt_one.1 z2).2.2
        have e : pI (k + 1) .sumL (stP L a ns false mn) = pI k .sumL ((pI k .prod (stP L (a + 1) ns false mn)).2.put 5 0 []) := by
          rw [pI, if_pos ⟨rfl, isAt_two.2 (.inr z2)⟩, stP_next hlt, hhd]
          rfl
        have c2 := ih k (by omega) .prod (a + 1) ns mn g ⟨by omega, by omega⟩ (by simp only [need, rankM, stP_len, List.length_drop] at *; omega)
        unfold CP at c2
        have hsh := (pI_shr k .prod (stP L (a + 1) ns false mn)).len
        generalize (pI k .prod (stP L (a + 1) ns false mn)).2 = q at *
        refine go_callS W 0 300 [0, 1] rfl (by first | exact True.intro | (simp only [AllC, AllP, addN, Int.toNat_natCast, true_and, and_true, Option.getD, List.length_set, wrapU, pw1, pw7, pw8, pw16, pw23, pw32, pw52, Holds] <;> first | omega | ((repeat' apply And.intro) <;> first | omega | (intros; rfl))) | (simp [AllC, AllP, addN, cloL, clo, mrgL, mrg, wrapU, Holds] <;> omega)) c2 rfl rfl ⟨rfl, fun _ _ => rfl, trivial⟩ ⟨rfl, rfl, trivial⟩ rfl ?_
        rintro _ _ ⟨rfl, a2, ns2, b2, m2, g2, rfl, ⟨q1, q2⟩, q3, q4, q5⟩
        refine ⟨_, _, rfl, rfl, ?_⟩
        refine go_callS W 0 300 [0, 1] rfl (by first | exact True.intro | (simp only [AllC, AllP, addN, Int.toNat_natCast, true_and, and_true, Option.getD, List.length_set, wrapU, pw1, pw7, pw8, pw16, pw23, pw32, pw52, Holds] <;> first | omega | ((repeat' apply And.intro) <;> first | omega | (intros; rfl))) | (simp [AllC, AllP, addN, cloL, clo, mrgL, mrg, wrapU, Holds] <;> omega)) (pPut_ok L a2 ns2 b2 m2 g2 5 0 [] (by omega)) rfl rfl ⟨rfl, fun _ _ => rfl, trivial⟩ ⟨rfl, rfl, trivial⟩ rfl ?_
        rintro _ _ ⟨rfl, g3, rfl⟩
        refine ⟨_, _, rfl, rfl, ?_⟩
        have nx := ih2 (k, a2, ns2 ++ [(5, 0, [])], b2, m2, g3) ⟨⟨by dsimp only; omega, by simp only [List.length_append, List.length_singleton]; omega⟩, fun hb => by
            rw [he.2.2, e]
            exact (pI_shr k .sumL _).bad (q4.symm.trans hb), fun hb => by
            have hq := q5 (q4.symm.trans hb)
            rw [hq] at hsh e
            rw [stP_len, stP_len] at hsh
            have hb : b2 = false := hb
            subst hb
            exact ⟨by dsimp only; omega, by simp only [need, rankM, stP_len, List.length_drop] at *; omega, he.2.2.trans e⟩⟩ (by dsimp only; omega)
        dsimp only [LayP] at nx
        refine bd W 0 2 [0] rfl rfl rfl rfl rfl (nx)
      · refine go_callS W 0 300 [0, 1] rfl (by first | exact True.intro | (simp only [AllC, AllP, addN, Int.toNat_natCast, true_and, and_true, Option.getD, List.length_set, wrapU, pw1, pw7, pw8, pw16, pw23, pw32, pw52, Holds] <;> first | omega | ((repeat' apply And.intro) <;> first | omega | (intros; rfl))) | (simp [AllC, AllP, addN, cloL, clo, mrgL, mrg, wrapU, Holds] <;> omega)) (pSign_no L a ns false mn g wMinus hL z2) rfl rfl ⟨rfl, fun _ _ => rfl, trivial⟩ ⟨rfl, rfl, trivial⟩ rfl ?_
        rintro _ _ ⟨rfl, rfl⟩
        refine ⟨_, _, rfl, rfl, ?_⟩
        have e : pI (k + 1) .sumL (stP L a ns false mn) = (0, stP L a ns false mn) := by rw [pI, if_neg (fun x => (isAt_two.1 x.2).elim z1 z2)]
        rw [he.2.2, e]
        refine go_retS W 0 300 2 rfl (by first | exact True.intro | (simp only [AllC, AllP, addN, Int.toNat_natCast, true_and, and_true, Option.getD, List.length_set, wrapU, pw1, pw7, pw8, pw16, pw23, pw32, pw52, Holds] <;> first | omega | ((repeat' apply And.intro) <;> first | omega | (intros; rfl))) | (simp [AllC, AllP, addN, cloL, clo, mrgL, mrg, wrapU, Holds] <;> omega)) rfl (by first | exact True.intro | (simp only [AllC, AllP, addN, Int.toNat_natCast, true_and, and_true, Option.getD, List.length_set, wrapU, pw1, pw7, pw8, pw16, pw23, pw32, pw52, Holds] <;> first | omega | ((repeat' apply And.intro) <;> first | omega | (intros; rfl))) | (simp [AllC, AllP, addN, cloL, clo, mrgL, mrg, wrapU, Holds] <;> omega)) (.tup []) .refl rfl ⟨rfl, a, ns, false, mn, g, rfl, ⟨ha0, ha⟩, hm, rfl, fun _ => rfl⟩
  · have hb := hb1 rfl
    refine go_retS W 0 300 2 rfl (by first | exact True.intro | (simp only [AllC, AllP, addN, Int.toNat_natCast, true_and, and_true, Option.getD, List.length_set, wrapU, pw1, pw7, pw8, pw16, pw23, pw32, pw52, Holds] <;> first | omega | ((repeat' apply And.intro) <;> first | omega | (intros; rfl))) | (simp [AllC, AllP, addN, cloL, clo, mrgL, mrg, wrapU, Holds] <;> omega)) rfl (by first | exact True.intro | (simp only [AllC, AllP, addN, Int.toNat_natCast, true_and, and_true, Option.getD, List.length_set, wrapU, pw1, pw7, pw8, pw16, pw23, pw32, pw52, Holds] <;> first | omega | ((repeat' apply And.intro) <;> first | omega | (intros; rfl))) | (simp [AllC, AllP, addN, cloL, clo, mrgL, mrg, wrapU, Holds] <;> omega)) (.tup []) .refl rfl ⟨rfl, a, ns, true, mn, g, rfl, ⟨ha0, ha⟩, hm, hb.symm, fun k => by rw [hb] at k; cases k⟩
theorem pProd (L : List Tk) (hL : L.length ≤ 900) (f : Nat) (ih : AllQ L f) (a0 : Nat) (ns0 : List Nd) (mn0 : Bool) (g0 : Nat) (hs : OkP L a0 ns0) (hf : need .prod (stP L a0 ns0 false mn0) ≤ f + 1) : CP (f + 1) .prod L a0 ns0 mn0 g0 := by
  unfold CP
  have hL : L.length ≤ 1000 := by omega
  refine AFun.trim 2 ?_ (by simp [LayP])
  refine afun_of Tryz.func101 Tryz.call101 rfl Tryz.ntmps101 rfl ?_
  have W : Walk Tryz.prog TT 101 _ := Walk.of TT_ok Tryz.func101 Tryz.results101
  have c1 := ih f (Nat.le_refl _) .sgn a0 ns0 mn0 g0 hs (by simp only [need, rankM, stP_len, List.length_drop] at *; omega)
  unfold CP at c1
  have hsh0 := pI_shr f .sgn (stP L a0 ns0 false mn0)
  have e0 : pI (f + 1) .prod (stP L a0 ns0 false mn0) = pI f .prodL (pI f .sgn (stP L a0 ns0 false mn0)).2 := by rw [pI]
  generalize (pI f .sgn (stP L a0 ns0 false mn0)).2 = q0 at *
  refine go_callS W 0 300 [0, 1] rfl (by first | exact True.intro | (simp only [AllC, AllP, addN, Int.toNat_natCast, true_and, and_true, Option.getD, List.length_set, wrapU, pw1, pw7, pw8, pw16, pw23, pw32, pw52, Holds] <;> first | omega | ((repeat' apply And.intro) <;> first | omega | (intros; rfl))) | (simp [AllC, AllP, addN, cloL, clo, mrgL, mrg, wrapU, Holds] <;> omega)) c1 rfl rfl ⟨rfl, fun _ _ => rfl, trivial⟩ ⟨rfl, rfl, trivial⟩ rfl ?_
  rintro _ _ ⟨rfl, a1, ns1, b1, m1, g1, rfl, ⟨p1, p2⟩, p3, p4, p5⟩
  refine ⟨_, _, rfl, rfl, ?_⟩
  obtain ⟨hs1, hs2⟩ := hs
  refine lp W 0 (σ := Nat × Nat × List Nd × Bool × Bool × Nat) (fun t => [(0, .ptr 0 0 0 0)]) (fun t => LayP L t.2.1 t.2.2.1 t.2.2.2.1 t.2.2.2.2.1 t.2.2.2.2.2) (fun t => L.length - t.2.1) (fun t => ((a0 ≤ t.2.1 ∧ t.2.1 ≤ L.length) ∧ t.2.2.1.length + (L.length - t.2.1) ≤ ns0.length + (L.length - a0)) ∧ (t.2.2.2.1 = true → (pI (f + 1) .prod (stP L a0 ns0 false mn0)).2.bad = true) ∧ (t.2.2.2.1 = false → t.1 ≤ f ∧ need .prodL (stP L t.2.1 t.2.2.1 false t.2.2.2.2.1) ≤ t.1 ∧ pI (f + 1) .prod (stP L a0 ns0 false mn0) = pI t.1 .prodL (stP L t.2.1 t.2.2.1 false t.2.2.2.2.1))) (f, a1, ns1, b1, m1, g1) [0] rfl rfl rfl ⟨⟨⟨p1, p2⟩, p3⟩, fun hb => by rw [e0]; exact (pI_shr f .prodL q0).bad (p4.symm.trans hb), fun hb => by
    have hq := p5 (p4.symm.trans hb)
    have hl := hsh0.len
    rw [hq] at hl e0
    rw [stP_len, stP_len] at hl
    have hb : b1 = false := hb
    subst hb
    exact ⟨Nat.le_refl _, by simp only [need, rankM, stP_len, List.length_drop] at *; omega, e0⟩⟩ ?_
  clear c1 e0 hsh0 p1 p2 p3 p4 p5
  rintro ⟨k, a, ns, b, mn, g⟩ ⟨⟨⟨ha0, ha⟩, hm⟩, hb1, hb2⟩ ih2
  dsimp only at ha0 ha hm hb1 hb2 ih2 ⊢
  rcases b with _ | _
  · have he := hb2 rfl
    clear hb1 hb2
    obtain ⟨k, rfl⟩ : ∃ k', k = k' + 1 := ⟨k - 1, by have := he.2.1; simp only [need, rankM] at this; omega⟩
    obtain ⟨hk, hn, -⟩ := id he
    rcases Classical.em ((stP L a ns false mn).isAt [wTimes]) with z1 | z1
    · refine go_callS W 0 300 [0, 1] rfl (by first | exact True.intro | (simp only [AllC, AllP, addN, Int.toNat_natCast, true_and, and_true, Option.getD, List.length_set, wrapU, pw1, pw7, pw8, pw16, pw23, pw32, pw52, Holds] <;> first | omega | ((repeat' apply And.intro) <;> first | omega | (intros; rfl))) | (simp [AllC, AllP, addN, cloL, clo, mrgL, mrg, wrapU, Holds] <;> omega)) (pSign_yes L a ns false mn g wTimes hL z1) rfl rfl ⟨rfl, fun _ _ => rfl, trivial⟩ ⟨rfl, rfl, trivial⟩ rfl ?_
      rintro _ _ ⟨rfl, rfl⟩
      refine ⟨_, _, rfl, rfl, ?_⟩
      have hlt : a < L.length := by have := (isAt_one.1 z1).1; rw [stP_len] at this; omega
      have hhd : (stP L a ns false mn).hd.2 = wTimes := (isAt_one.1 z1).2.2
      have e : pI (k + 1) .prodL (stP L a ns false mn) = pI k .prodL ((pI k .sgn (stP L (a + 1) ns false mn)).2.put 6 0 []) := by
        rw [pI, if_pos ⟨rfl, isAt_two.2 (.inl z1)⟩, stP_next hlt, hhd]
        rfl
      have c2 := ih k (by omega) .sgn (a + 1) ns mn g ⟨by omega, by omega⟩ (by simp only [need, rankM, stP_len, List.length_drop] at *; omega)
      unfold CP at c2
      have hsh := (pI_shr k .sgn (stP L (a + 1) ns false mn)).len
      generalize (pI k .sgn (stP L (a + 1) ns false mn)).2 = q at *
      refine go_callS W 0 300 [0, 1] rfl (by first | exact True.intro | (simp only [AllC, AllP, addN, Int.toNat_natCast, true_and, and_true, Option.getD, List.length_set, wrapU, pw1, pw7, pw8, pw16, pw23, pw32, pw52, Holds] <;> first | omega | ((repeat' apply And.intro) <;> first | omega | (intros; rfl))) | (simp [AllC, AllP, addN, cloL, clo, mrgL, mrg, wrapU, Holds] <;> omega)) c2 rfl rfl ⟨rfl, fun _ _ => rfl, trivial⟩ ⟨rfl, rfl, trivial⟩ rfl ?_
      rintro _ _ ⟨rfl, a2, ns2, b2, m2, g2, rfl, ⟨q1, q2⟩, q3, q4, q5⟩
      refine ⟨_, _, rfl, rfl, ?_⟩
      refine go_callS W 0 300 [0, 1] rfl (by first | exact True.intro | (simp only [AllC, AllP, addN, Int.toNat_natCast, true_and, and_true, Option.getD, List.length_set, wrapU, pw1, pw7, pw8, pw16, pw23, pw32, pw52, Holds] <;> first | omega | ((repeat' apply And.intro) <;> first | omega | (intros; rfl))) | (simp [AllC, AllP, addN, cloL, clo, mrgL, mrg, wrapU, Holds] <;> omega)) (pPut_ok L a2 ns2 b2 m2 g2 6 0 [] (by omega)) rfl rfl ⟨rfl, fun _ _ => rfl, trivial⟩ ⟨rfl, rfl, trivial⟩ rfl ?_
      rintro _ _ ⟨rfl, g3, rfl⟩
      refine ⟨_, _, rfl, rfl, ?_⟩
      have nx := ih2 (k, a2, ns2 ++ [(6, 0, [])], b2, m2, g3) ⟨⟨by dsimp only; omega, by simp only [List.length_append, List.length_singleton]; omega⟩, fun hb => by
          rw [he.2.2, e]
          exact (pI_shr k .prodL _).bad (q4.symm.trans hb), fun hb => by
          have hq := q5 (q4.symm.trans hb)
          rw [hq] at hsh e
          rw [stP_len, stP_len] at hsh
          have hb : b2 = false := hb
          subst hb
          exact ⟨by dsimp only; omega, by simp only [need, rankM, stP_len, List.length_drop] at *; omega, he.2.2.trans e⟩⟩ (by dsimp only; omega)
      dsimp only [LayP] at nx
      refine bd W 0 2 [0] rfl rfl rfl rfl rfl (nx)
    · refine go_callS W 0 300 [0, 1] rfl (by first | exact True.intro | (simp only [AllC, AllP, addN, Int.toNat_natCast, true_and, and_true, Option.getD, List.length_set, wrapU, pw1, pw7, pw8, pw16, pw23, pw32, pw52, Holds] <;> first | omega | ((repeat' apply And.intro) <;> first | omega | (intros; rfl))) | (simp [AllC, AllP, addN, cloL, clo, mrgL, mrg, wrapU, Holds] <;> omega)) (pSign_no L a ns false mn g wTimes hL z1) rfl rfl ⟨rfl, fun _ _ => rfl, trivial⟩ ⟨rfl, rfl, trivial⟩ rfl ?_
      rintro _ _ ⟨rfl, rfl⟩
      refine ⟨_, _, rfl, rfl, ?_⟩
      rcases Classical.em ((stP L a ns false mn).isAt [wOver]) with z2 | z2
      · refine go_callS W 0 300 [0, 1] rfl (by first | exact True.intro | (simp only [AllC, AllP, addN, Int.toNat_natCast, true_and, and_true, Option.getD, List.length_set, wrapU, pw1, pw7, pw8, pw16, pw23, pw32, pw52, Holds] <;> first | omega | ((repeat' apply And.intro) <;> first | omega | (intros; rfl))) | (simp [AllC, AllP, addN, cloL, clo, mrgL, mrg, wrapU, Holds] <;> omega)) (pSign_yes L a ns false mn g wOver hL z2) rfl rfl ⟨rfl, fun _ _ => rfl, trivial⟩ ⟨rfl, rfl, trivial⟩ rfl ?_
        rintro _ _ ⟨rfl, rfl⟩
        refine ⟨_, _, rfl, rfl, ?_⟩
        have hlt : a < L.length := by have := (isAt_one.1 z2).1; rw [stP_len] at this; omega
        have hhd : (stP L a ns false mn).hd.2 = wOver := (isAt_one.1 z2).2.2
        have e : pI (k + 1) .prodL (stP L a ns false mn) = pI k .prodL ((pI k .sgn (stP L (a + 1) ns false mn)).2.put 7 0 []) := by
          rw [pI, if_pos ⟨rfl, isAt_two.2 (.inr z2)⟩, stP_next hlt, hhd]
          rfl
        have c2 := ih k (by omega) .sgn (a + 1) ns mn g ⟨by omega, by omega⟩ (by simp only [need, rankM, stP_len, List.length_drop] at *; omega)
        unfold CP at c2
        have hsh := (pI_shr k .sgn (stP L (a + 1) ns false mn)).len
        generalize (pI k .sgn (stP L (a + 1) ns false mn)).2 = q at *
        refine go_callS W 0 300 [0, 1] rfl (by first | exact True.intro | (simp only [AllC, AllP, addN, Int.toNat_natCast, true_and, and_true, Option.getD, List.length_set, wrapU, pw1, pw7, pw8, pw16, pw23, pw32, pw52, Holds] <;> first | omega | ((repeat' apply And.intro) <;> first | omega | (intros; rfl))) | (simp [AllC, AllP, addN, cloL, clo, mrgL, mrg, wrapU, Holds] <;> omega)) c2 rfl rfl ⟨rfl, fun _ _ => rfl, trivial⟩ ⟨rfl, rfl, trivial⟩ rfl ?_
        rintro _ _ ⟨rfl, a2, ns2, b2, m2, g2, rfl, ⟨q1, q2⟩, q3, q4, q5⟩
        refine ⟨_, _, rfl, rfl, ?_⟩
        refine go_callS W 0 300 [0, 1] rfl (by first | exact True.intro | (simp only [AllC, AllP, addN, Int.toNat_natCast, true_and, and_true, Option.getD, List.length_set, wrapU, pw1, pw7, pw8, pw16, pw23, pw32, pw52, Holds] <;> first | omega | ((repeat' apply And.intro) <;> first | omega | (intros; rfl))) | (simp [AllC, AllP, addN, cloL, clo, mrgL, mrg, wrapU, Holds] <;> omega)) (pPut_ok L a2 ns2 b2 m2 g2 7 0 [] (by omega)) rfl rfl ⟨rfl, fun _ _ => rfl, trivial⟩ ⟨rfl, rfl, trivial⟩ rfl ?_
        rintro _ _ ⟨rfl, g3, rfl⟩
        refine ⟨_, _, rfl, rfl, ?_⟩
        have nx := ih2 (k, a2, ns2 ++ [(7, 0, [])], b2, m2, g3) ⟨⟨by dsimp only; omega, by simp only [List.length_append, List.length_singleton]; omega⟩, fun hb => by
            rw [he.2.2, e]
            exact (pI_shr k .prodL _).bad (q4.symm.trans hb), fun hb => by
            have hq := q5 (q4.symm.trans hb)
            rw [hq] at hsh e
            rw [stP_len, stP_len] at hsh
            have hb : b2 = false := hb
            subst hb
            exact ⟨by dsimp only; omega, by simp only [need, rankM, stP_len, List.length_drop] at *; omega, he.2.2.trans e⟩⟩ (by dsimp only; omega)
        dsimp only [LayP] at nx
        refine bd W 0 2 [0] rfl rfl rfl rfl rfl (nx)
      · refine go_callS W 0 300 [0, 1] rfl (by first | exact True.intro | (simp only [AllC, AllP, addN, Int.toNat_natCast, true_and, and_true, Option.getD, List.length_set, wrapU, pw1, pw7, pw8, pw16, pw23, pw32, pw52, Holds] <;> first | omega | ((repeat' apply And.intro) <;> first | omega | (intros; rfl))) | (simp [AllC, AllP, addN, cloL, clo, mrgL, mrg, wrapU, Holds] <;> omega)) (pSign_no L a ns false mn g wOver hL z2) rfl rfl ⟨rfl, fun _ _ => rfl, trivial⟩ ⟨rfl, rfl, trivial⟩ rfl ?_
        rintro _ _ ⟨rfl, rfl⟩
        refine ⟨_, _, rfl, rfl, ?_⟩
        have e : pI (k + 1) .prodL (stP L a ns false mn) = (0, stP L a ns false mn) := by rw [pI, if_neg (fun x => (isAt_two.1 x.2).elim z1 z2)]
        rw [he.2.2, e]
        refine go_retS W 0 300 2 rfl (by first | exact True.intro | (simp only [AllC, AllP, addN, Int.toNat_natCast, true_and, and_true, Option.getD, List.length_set, wrapU, pw1, pw7, pw8, pw16, pw23, pw32, pw52, Holds] <;> first | omega | ((repeat' apply And.intro) <;> first | omega | (intros; rfl))) | (simp [AllC, AllP, addN, cloL, clo, mrgL, mrg, wrapU, Holds] <;> omega)) rfl (by first | exact True.intro | (simp only [AllC, AllP, addN, Int.toNat_natCast, true_and, and_true, Option.getD, List.length_set, wrapU, pw1, pw7, pw8, pw16, pw23, pw32, pw52, Holds] <;> first | omega | ((repeat' apply And.intro) <;> first | omega | (intros; rfl))) | (simp [AllC, AllP, addN, cloL, clo, mrgL, mrg, wrapU, Holds] <;> omega)) (.tup []) .refl rfl ⟨rfl, a, ns, false, mn, g, rfl, ⟨ha0, ha⟩, hm, rfl, fun _ => rfl⟩
  · have hb := hb1 rfl
    refine go_retS W 0 300 2 rfl (by first | exact True.intro | (simp only [AllC, AllP, addN, Int.toNat_natCast, true_and, and_true, Option.getD, List.length_set, wrapU, pw1, pw7, pw8, pw16, pw23, pw32, pw52, Holds] <;> first | omega | ((repeat' apply And.intro) <;> first | omega | (intros; rfl))) | (simp [AllC, AllP, addN, cloL, clo, mrgL, mrg, wrapU, Holds] <;> omega)) rfl (by first | exact True.intro | (simp only [AllC, AllP, addN, Int.toNat_natCast, true_and, and_true, Option.getD, List.length_set, wrapU, pw1, pw7, pw8, pw16, pw23, pw32, pw52, Holds] <;> first | omega | ((repeat' apply And.intro) <;> first | omega | (intros; rfl))) | (simp [AllC, AllP, addN, cloL, clo, mrgL, mrg, wrapU, Holds] <;> omega)) (.tup []) .refl rfl ⟨rfl, a, ns, true, mn, g, rfl, ⟨ha0, ha⟩, hm, hb.symm, fun k => by rw [hb] at k; cases k⟩
end Pf
/- The model's reader of terms: signed things -/
namespace Pf
open Go Go.Proofs
theorem pSgn (L : List Tk) (hL : L.length ≤ 900) (hk : toksOk L) (f : Nat) (ih : AllQ L f) (a : Nat) (ns : List Nd) (mn : Bool) (g : Nat) (hs : OkP L a ns) (hf : need .sgn (stP L a ns false mn) ≤ f + 1) : CP (f + 1) .sgn L a ns mn g := by
  unfold CP
  have hL : L.length ≤ 1000 := by omega
  obtain ⟨hs1, hs2⟩ := hs
  refine AFun.trim 2 ?_ (by simp [LayP])
  refine afun_of Tryz.func121 Tryz.call121 rfl Tryz.ntmps121 rfl ?_
  have W : Walk Tryz.prog TT 121 _ := Walk.of TT_ok Tryz.func121 Tryz.results121
  rcases Classical.em ((stP L a ns false mn).isAt [wMinus]) with z1 | z1
  · refine go_callS W 0 300 [0, 1] rfl (by first | exact True.intro | (simp only [AllC, AllP, addN, Int.toNat_natCast, true_and, and_true, Option.getD, List.length_set, wrapU, pw1, pw7, pw8, pw16, pw23, pw32, pw52, Holds] <;> first | omega | ((repeat' apply And.intro) <;> first | omega | (intros; rfl))) | (simp [AllC, AllP, addN, cloL, clo, mrgL, mrg, wrapU, Holds] <;> omega)) (pSign_yes L a ns false mn g wMinus hL z1) rfl rfl ⟨rfl, fun _ _ => rfl, trivial⟩ ⟨rfl, rfl, trivial⟩ rfl ?_
    rintro _ _ ⟨rfl, rfl⟩
    refine ⟨_, _, rfl, rfl, ?_⟩
    have hlt : a < L.length := by have := (isAt_one.1 z1).1; rw [stP_len] at this; omega
    have e : pI (f + 1) .sgn (stP L a ns false mn) = (0, (pI f .sgn (stP L (a + 1) ns false mn)).2.put 3 0 []) := by rw [pI, if_pos z1, stP_next hlt]
    have c2 := ih f (Nat.le_refl _) .sgn (a + 1) ns mn g ⟨by omega, by omega⟩ (by simp only [need, rankM, stP_len, List.length_drop] at *; omega)
    unfold CP at c2
    rw [e]
    generalize (pI f .sgn (stP L (a + 1) ns false mn)).2 = q at *
    refine go_callS W 0 300 [0, 1] rfl (by first | exact True.intro | (simp only [AllC, AllP, addN, Int.toNat_natCast, true_and, and_true, Option.getD, List.length_set, wrapU, pw1, pw7, pw8, pw16, pw23, pw32, pw52, Holds] <;> first | omega | ((repeat' apply And.intro) <;> first | omega | (intros; rfl))) | (simp [AllC, AllP, addN, cloL, clo, mrgL, mrg, wrapU, Holds] <;> omega)) c2 rfl rfl ⟨rfl, fun _ _ => rfl, trivial⟩ ⟨rfl, rfl, trivial⟩ rfl ?_
    rintro _ _ ⟨rfl, a2, ns2, b2, m2, g2, rfl, ⟨q1, q2⟩, q3, q4, q5⟩
    refine ⟨_, _, rfl, rfl, ?_⟩
    refine go_callS W 0 300 [0, 1] rfl (by first | exact True.intro | (simp only [AllC, AllP, addN, Int.toNat_natCast, true_and, and_true, Option.getD, List.length_set, wrapU, pw1, pw7, pw8, pw16, pw23, pw32, pw52, Holds] <;> first | omega | ((repeat' apply And.intro) <;> first | omega | (intros; rfl))) | (simp [AllC, AllP, addN, cloL, clo, mrgL, mrg, wrapU, Holds] <;> omega)) (pPut_ok L a2 ns2 b2 m2 g2 3 0 [] (by omega)) rfl rfl ⟨rfl, fun _ _ => rfl, trivial⟩ ⟨rfl, rfl, trivial⟩ rfl ?_
    rintro _ _ ⟨rfl, g3, rfl⟩
    refine ⟨_, _, rfl, rfl, ?_⟩
    refine go_retS W 0 300 2 rfl (by first | exact True.intro | (simp only [AllC, AllP, addN, Int.toNat_natCast, true_and, and_true, Option.getD, List.length_set, wrapU, pw1, pw7, pw8, pw16, pw23, pw32, pw52, Holds] <;> first | omega | ((repeat' apply And.intro) <;> first | omega | (intros; rfl))) | (simp [AllC, AllP, addN, cloL, clo, mrgL, mrg, wrapU, Holds] <;> omega)) rfl (by first | exact True.intro | (simp only [AllC, AllP, addN, Int.toNat_natCast, true_and, and_true, Option.getD, List.length_set, wrapU, pw1, pw7, pw8, pw16, pw23, pw32, pw52, Holds] <;> first | omega | ((repeat' apply And.intro) <;> first | omega | (intros; rfl))) | (simp [AllC, AllP, addN, cloL, clo, mrgL, mrg, wrapU, Holds] <;> omega)) (.tup []) .refl rfl ⟨rfl, a2, ns2 ++ [(3, 0, [])], b2, m2, g3, rfl, ⟨by omega, q2⟩, by simp only [List.length_append, List.length_singleton]; omega, q4, fun hb => by rw [q5 hb]; rfl⟩
  refine go_callS W 0 300 [0, 1] rfl (by first | exact True.intro | (simp only [AllC, AllP, addN, Int.toNat_natCast, true_and, and_true, Option.getD, List.length_set, wrapU, pw1, pw7, pw8, pw16, pw23, pw32, pw52, Holds] <;> first | omega | ((repeat' apply And.intro) <;> first | omega | (intros; rfl))) | (simp [AllC, AllP, addN, cloL, clo, mrgL, mrg, wrapU, Holds] <;> omega)) (pSign_no L a ns false mn g wMinus hL z1) rfl rfl ⟨rfl, fun _ _ => rfl, trivial⟩ ⟨rfl, rfl, trivial⟩ rfl ?_
  rintro _ _ ⟨rfl, rfl⟩
  refine ⟨_, _, rfl, rfl, ?_⟩
  have c2 := ih f (Nat.le_refl _) .atom a ns mn g ⟨hs1, hs2⟩ (by simp only [need, rankM, stP_len, List.length_drop] at *; omega)
  unfold CP at c2
  have eA : ((pI f .atom (stP L a ns false mn)).2.bad = true ∨ ¬ (pI f .atom (stP L a ns false mn)).2.isAt [wCaret]) → pI (f + 1) .sgn (stP L a ns false mn) = (0, (pI f .atom (stP L a ns false mn)).2) := fun h => by rw [pI, if_neg z1, if_pos h]
  have eB : ¬ ((pI f .atom (stP L a ns false mn)).2.bad = true ∨ ¬ (pI f .atom (stP L a ns false mn)).2.isAt [wCaret]) → pI (f + 1) .sgn (stP L a ns false mn) = (0, (pI f .atom (stP L a ns false mn)).2.next.pow) := fun h => by rw [pI, if_neg z1, if_neg h]
  generalize (pI f .atom (stP L a ns false mn)).2 = q at *
  refine go_callS W 0 300 [0, 1] rfl (by first | exact True.intro | (simp only [AllC, AllP, addN, Int.toNat_natCast, true_and, and_true, Option.getD, List.length_set, wrapU, pw1, pw7, pw8, pw16, pw23, pw32, pw52, Holds] <;> first | omega | ((repeat' apply And.intro) <;> first | omega | (intros; rfl))) | (simp [AllC, AllP, addN, cloL, clo, mrgL, mrg, wrapU, Holds] <;> omega)) c2 rfl rfl ⟨rfl, fun _ _ => rfl, trivial⟩ ⟨rfl, rfl, trivial⟩ rfl ?_
  rintro _ _ ⟨rfl, a2, ns2, b2, m2, g2, rfl, ⟨q1, q2⟩, q3, q4, q5⟩
  refine ⟨_, _, rfl, rfl, ?_⟩
  clear c2 ih
  rcases b2 with _ | _
  · have hq := q5 q4.symm
    subst hq
    rcases Classical.em ((stP L a2 ns2 false m2).isAt [wCaret]) with z2 | z2
    · have hlt : a2 < L.length := by have := (isAt_one.1 z2).1; rw [stP_len] at this; omega
      rw [eB (fun h => h.elim (fun h => by cases h) fun h => h z2), stP_next hlt]
      refine go_callS W 0 300 [0, 1] rfl (by first | exact True.intro | (simp only [AllC, AllP, addN, Int.toNat_natCast, true_and, and_true, Option.getD, List.length_set, wrapU, pw1, pw7, pw8, pw16, pw23, pw32, pw52, Holds] <;> first | omega | ((repeat' apply And.intro) <;> first | omega | (intros; rfl))) | (simp [AllC, AllP, addN, cloL, clo, mrgL, mrg, wrapU, Holds] <;> omega)) (pSign_yes L a2 ns2 false m2 g2 wCaret hL z2) rfl rfl ⟨rfl, fun _ _ => rfl, trivial⟩ ⟨rfl, rfl, trivial⟩ rfl ?_
      rintro _ _ ⟨rfl, rfl⟩
      refine ⟨_, _, rfl, rfl, ?_⟩
      have hdB : (L.getD (a2 + 1) k0).1 = 2 → dB ((L.getD (a2 + 1) k0).2.getD 0 0) = true := fun h => by
        have hlt2 : a2 + 1 < L.length := by
          rcases Nat.lt_or_ge (a2 + 1) L.length with h1 | h1
          · exact h1
          · rw [List.getD_eq_getElem?_getD, List.getElem?_eq_none (by omega)] at h
            exact absurd h (by decide)
        have hm : L.getD (a2 + 1) k0 ∈ L := by rw [List.getD_eq_getElem?_getD, List.getElem?_eq_getElem hlt2]; exact List.getElem_mem hlt2
        rcases (hk _ hm).1 with x | x | x
        · omega
        · exact x.2
        · omega
      refine dre W 0 8 [] [] rfl rfl rfl trivial rfl ?_
      refine cq W 0 rfl rfl (pPow_ok L (a2 + 1) hL (by omega) hdB) ?_
      rintro u ⟨u1, u2⟩
      refine ⟨_, rfl, ?_⟩
      by_cases hC : (L.getD (a2 + 1) k0).1 ≠ 2 ∨ (L.getD (a2 + 1) k0).2.length ≠ 1 ∨ ¬(Op.bytesLess (L.getD (a2 + 1) k0).2 [56] = true ∨ (L.getD (a2 + 1) k0).2 = [56])
      · obtain rfl := u1 hC
        have e : (stP L (a2 + 1) ns2 false m2).pow = (stP L (a2 + 1) ns2 false m2).next.fail := by unfold RS.pow; rw [if_pos (by rw [stP_hd]; exact hC)]
        refine sp W 0 rfl rfl rfl (fun z3 => ?_) (fun z3 => absurd (by decide) z3)
        rw [e]
        refine go_retS W 0 300 2 rfl (by first | exact True.intro | (simp only [AllC, AllP, addN, Int.toNat_natCast, true_and, and_true, Option.getD, List.length_set, wrapU, pw1, pw7, pw8, pw16, pw23, pw32, pw52, Holds] <;> first | omega | ((repeat' apply And.intro) <;> first | omega | (intros; rfl))) | (simp [AllC, AllP, addN, cloL, clo, mrgL, mrg, wrapU, Holds] <;> omega)) rfl (by first | exact True.intro | (simp only [AllC, AllP, addN, Int.toNat_natCast, true_and, and_true, Option.getD, List.length_set, wrapU, pw1, pw7, pw8, pw16, pw23, pw32, pw52, Holds] <;> first | omega | ((repeat' apply And.intro) <;> first | omega | (intros; rfl))) | (simp [AllC, AllP, addN, cloL, clo, mrgL, mrg, wrapU, Holds] <;> omega)) (.tup []) .refl rfl ⟨rfl, a2 + 1, ns2, true, m2, g2, rfl, ⟨by omega, by omega⟩, by omega, rfl, fun k => by cases k⟩
      · obtain rfl := u2 hC
        have e : (stP L (a2 + 1) ns2 false m2).pow = (stP L (a2 + 1) ns2 false m2).next.put 8 ((((L.getD (a2 + 1) k0).2.getD 0 0).toNat : Int) - 48) [] := by unfold RS.pow; rw [if_neg (by rw [stP_hd]; exact hC), stP_hd]
        have hd1 : (L.getD (a2 + 1) k0).1 = 2 := Classical.byContradiction fun k => hC (.inl k)
        have hlt2 : a2 + 1 < L.length := by
          rcases Nat.lt_or_ge (a2 + 1) L.length with h1 | h1
          · exact h1
          · rw [List.getD_eq_getElem?_getD, List.getElem?_eq_none (by omega)] at hd1
            exact absurd hd1 (by decide)
        have hd2 := dB_iff.1 (hdB hd1)
        rw [e, stP_next hlt2]
        refine sp W 0 rfl rfl rfl (fun z3 => ?_) (fun z3 => ?_)
        · exfalso; omega
        refine go_callS W 0 300 [0, 1] rfl (by first | exact True.intro | (simp only [AllC, AllP, addN, Int.toNat_natCast, true_and, and_true, Option.getD, List.length_set, wrapU, pw1, pw7, pw8, pw16, pw23, pw32, pw52, Holds] <;> first | omega | ((repeat' apply And.intro) <;> first | omega | (intros; rfl))) | (simp [AllC, AllP, addN, cloL, clo, mrgL, mrg, wrapU, Holds] <;> omega)) (pPut_ok L (a2 + 2) ns2 false m2 g2 8 ((((L.getD (a2 + 1) k0).2.getD 0 0).toNat : Int) - 48) [] (by omega)) rfl rfl ⟨rfl, fun _ _ => rfl, trivial⟩ ⟨rfl, rfl, trivial⟩ rfl ?_
        rintro _ _ ⟨rfl, g3, rfl⟩
        refine ⟨_, _, rfl, rfl, ?_⟩
        refine go_retS W 0 300 2 rfl (by first | exact True.intro | (simp only [AllC, AllP, addN, Int.toNat_natCast, true_and, and_true, Option.getD, List.length_set, wrapU, pw1, pw7, pw8, pw16, pw23, pw32, pw52, Holds] <;> first | omega | ((repeat' apply And.intro) <;> first | omega | (intros; rfl))) | (simp [AllC, AllP, addN, cloL, clo, mrgL, mrg, wrapU, Holds] <;> omega)) rfl (by first | exact True.intro | (simp only [AllC, AllP, addN, Int.toNat_natCast, true_and, and_true, Option.getD, List.length_set, wrapU, pw1, pw7, pw8, pw16, pw23, pw32, pw52, Holds] <;> first | omega | ((repeat' apply And.intro) <;> first | omega | (intros; rfl))) | (simp [AllC, AllP, addN, cloL, clo, mrgL, mrg, wrapU, Holds] <;> omega)) (.tup []) .refl rfl ⟨rfl, a2 + 2, ns2 ++ [(8, (((L.getD (a2 + 1) k0).2.getD 0 0).toNat : Int) - 48, [])], false, m2, g3, rfl, ⟨by omega, by omega⟩, by simp only [List.length_append, List.length_singleton]; omega, rfl, fun _ => rfl⟩
    · rw [eA (.inr z2)]
      refine go_callS W 0 300 [0, 1] rfl (by first | exact True.intro | (simp only [AllC, AllP, addN, Int.toNat_natCast, true_and, and_true, Option.getD, List.length_set, wrapU, pw1, pw7, pw8, pw16, pw23, pw32, pw52, Holds] <;> first | omega | ((repeat' apply And.intro) <;> first | omega | (intros; rfl))) | (simp [AllC, AllP, addN, cloL, clo, mrgL, mrg, wrapU, Holds] <;> omega)) (pSign_no L a2 ns2 false m2 g2 wCaret hL z2) rfl rfl ⟨rfl, fun _ _ => rfl, trivial⟩ ⟨rfl, rfl, trivial⟩ rfl ?_
      rintro _ _ ⟨rfl, rfl⟩
      refine ⟨_, _, rfl, rfl, ?_⟩
      refine go_retS W 0 300 2 rfl (by first | exact True.intro | (simp only [AllC, AllP, addN, Int.toNat_natCast, true_and, and_true, Option.getD, List.length_set, wrapU, pw1, pw7, pw8, pw16, pw23, pw32, pw52, Holds] <;> first | omega | ((repeat' apply And.intro) <;> first | omega | (intros; rfl))) | (simp [AllC, AllP, addN, cloL, clo, mrgL, mrg, wrapU, Holds] <;> omega)) rfl (by first | exact True.intro | (simp only [AllC, AllP, addN, Int.toNat_natCast, true_and, and_true, Option.getD, List.length_set, wrapU, pw1, pw7, pw8, pw16, pw23, pw32, pw52, Holds] <;> first | omega | ((repeat' apply And.intro) <;> first | omega | (intros; rfl))) | (simp [AllC, AllP, addN, cloL, clo, mrgL, mrg, wrapU, Holds] <;> omega)) (.tup []) .refl rfl ⟨rfl, a2, ns2, false, m2, g2, rfl, ⟨q1, q2⟩, q3, rfl, fun _ => rfl⟩
  · rw [eA (.inl q4.symm)]
    refine go_retS W 0 300 2 rfl (by first | exact True.intro | (simp only [AllC, AllP, addN, Int.toNat_natCast, true_and, and_true, Option.getD, List.length_set, wrapU, pw1, pw7, pw8, pw16, pw23, pw32, pw52, Holds] <;> first | omega | ((repeat' apply And.intro) <;> first | omega | (intros; rfl))) | (simp [AllC, AllP, addN, cloL, clo, mrgL, mrg, wrapU, Holds] <;> omega)) rfl (by first | exact True.intro | (simp only [AllC, AllP, addN, Int.toNat_natCast, true_and, and_true, Option.getD, List.length_set, wrapU, pw1, pw7, pw8, pw16, pw23, pw32, pw52, Holds] <;> first | omega | ((repeat' apply And.intro) <;> first | omega | (intros; rfl))) | (simp [AllC, AllP, addN, cloL, clo, mrgL, mrg, wrapU, Holds] <;> omega)) (.tup []) .refl rfl ⟨rfl, a2, ns2, true, m2, g2, rfl, ⟨q1, q2⟩, q3, q4, q5⟩
end Pf
/- The model's reader of terms: calls -/
namespace Pf
open Go Go.Proofs
theorem ownW_four {w : List UInt8} (h : w ∈ [wSqrt, wAbs, wMin, wMax]) : w ∈ ownW := by
  simp only [List.mem_cons, List.not_mem_nil, or_false] at h
  rcases h with rfl | rfl | rfl | rfl <;> simp [ownW]
theorem pCall_name (L : List Tk) (a : Nat) (ns : List Nd) (b m : Bool) (g n : Nat) (w : List UInt8) (hn : ns.length ≤ 1000000) (h : ¬ w ∈ ownW) : AFun Tryz.prog 147 [.ptr 0 0 0 0, .str w, .int .i64 n] (LayP L a ns b m g) (fun u H => u = .tup [] ∧ ∃ g', H = LayP L a (ns ++ [(13, (n : Int), w)]) b (m || decide (6 < n)) g') := by
  refine AFun.trim 2 ?_ (by simp [LayP])
  refine afun_of Tryz.func147 Tryz.call147 rfl Tryz.ntmps147 rfl ?_
  have W : Walk Tryz.prog TT 147 _ := Walk.of TT_ok Tryz.func147 Tryz.results147
  refine ce W 0 rfl rfl (l11Word_ok w) rfl ?_
  refine sp W 0 rfl rfl rfl (fun z1 => ?_) (fun z1 => absurd (Classical.not_not.1 z1) h)
  refine sp W 0 rfl rfl rfl (fun z2 => ?_) (fun z2 => ?_)
  · have e : (m || decide (6 < n)) = true := by rw [decide_eq_true (by omega)]; simp
    rw [e]
    refine go_callS W 0 300 [0, 1] rfl (by first | exact True.intro | (simp only [AllC, AllP, addN, Int.toNat_natCast, true_and, and_true, Option.getD, List.length_set, wrapU, pw1, pw7, pw8, pw16, pw23, pw32, pw52, Holds] <;> first | omega | ((repeat' apply And.intro) <;> first | omega | (intros; rfl))) | (simp [AllC, AllP, addN, cloL, clo, mrgL, mrg, wrapU, Holds] <;> omega)) (pPut_ok L a ns b true g 13 n w hn) rfl rfl ⟨rfl, fun _ _ => rfl, trivial⟩ ⟨rfl, rfl, trivial⟩ rfl ?_
    rintro _ _ ⟨rfl, g3, rfl⟩
    refine ⟨_, _, rfl, rfl, ?_⟩
    refine go_retS W 0 300 2 rfl (by first | exact True.intro | (simp only [AllC, AllP, addN, Int.toNat_natCast, true_and, and_true, Option.getD, List.length_set, wrapU, pw1, pw7, pw8, pw16, pw23, pw32, pw52, Holds] <;> first | omega | ((repeat' apply And.intro) <;> first | omega | (intros; rfl))) | (simp [AllC, AllP, addN, cloL, clo, mrgL, mrg, wrapU, Holds] <;> omega)) rfl (by first | exact True.intro | (simp only [AllC, AllP, addN, Int.toNat_natCast, true_and, and_true, Option.getD, List.length_set, wrapU, pw1, pw7, pw8, pw16, pw23, pw32, pw52, Holds] <;> first | omega | ((repeat' apply And.intro) <;> first | omega | (intros; rfl))) | (simp [AllC, AllP, addN, cloL, clo, mrgL, mrg, wrapU, Holds] <;> omega)) (.tup []) .refl rfl ⟨rfl, g3, rfl⟩
  · have e : (m || decide (6 < n)) = m := by rw [decide_eq_false (by omega)]; simp
    rw [e]
    refine go_callS W 0 300 [0, 1] rfl (by first | exact True.intro | (simp only [AllC, AllP, addN, Int.toNat_natCast, true_and, and_true, Option.getD, List.length_set, wrapU, pw1, pw7, pw8, pw16, pw23, pw32, pw52, Holds] <;> first | omega | ((repeat' apply And.intro) <;> first | omega | (intros; rfl))) | (simp [AllC, AllP, addN, cloL, clo, mrgL, mrg, wrapU, Holds] <;> omega)) (pPut_ok L a ns b m g 13 n w hn) rfl rfl ⟨rfl, fun _ _ => rfl, trivial⟩ ⟨rfl, rfl, trivial⟩ rfl ?_
    rintro _ _ ⟨rfl, g3, rfl⟩
    refine ⟨_, _, rfl, rfl, ?_⟩
    refine go_retS W 0 300 2 rfl (by first | exact True.intro | (simp only [AllC, AllP, addN, Int.toNat_natCast, true_and, and_true, Option.getD, List.length_set, wrapU, pw1, pw7, pw8, pw16, pw23, pw32, pw52, Holds] <;> first | omega | ((repeat' apply And.intro) <;> first | omega | (intros; rfl))) | (simp [AllC, AllP, addN, cloL, clo, mrgL, mrg, wrapU, Holds] <;> omega)) rfl (by first | exact True.intro | (simp only [AllC, AllP, addN, Int.toNat_natCast, true_and, and_true, Option.getD, List.length_set, wrapU, pw1, pw7, pw8, pw16, pw23, pw32, pw52, Holds] <;> first | omega | ((repeat' apply And.intro) <;> first | omega | (intros; rfl))) | (simp [AllC, AllP, addN, cloL, clo, mrgL, mrg, wrapU, Holds] <;> omega)) (.tup []) .refl rfl ⟨rfl, g3, rfl⟩
theorem pCall_fn (L : List Tk) (a : Nat) (ns : List Nd) (b m : Bool) (g n : Nat) (w : List UInt8) (hn : ns.length ≤ 1000000) (h : w ∈ [wSqrt, wAbs, wMin, wMax]) (hN : n = fnN w) : AFun Tryz.prog 147 [.ptr 0 0 0 0, .str w, .int .i64 n] (LayP L a ns b m g) (fun u H => u = .tup [] ∧ ∃ g', H = LayP L a (ns ++ [(fnK w, 0, [])]) b m g') := by
  have hN1 : n = fnN w := hN
  simp only [List.mem_cons, List.not_mem_nil, or_false] at h
  refine AFun.trim 2 ?_ (by simp [LayP])
  refine afun_of Tryz.func147 Tryz.call147 rfl Tryz.ntmps147 rfl ?_
  have W : Walk Tryz.prog TT 147 _ := Walk.of TT_ok Tryz.func147 Tryz.results147
  refine ce W 0 rfl rfl (l11Word_ok w) rfl ?_
  refine sp W 0 rfl rfl rfl (fun z1 => absurd (ownW_four (by simp only [List.mem_cons, List.not_mem_nil, or_false]; exact h)) z1) (fun z1 => ?_)
  clear z1
  rcases h with rfl | rfl | rfl | rfl
  · refine sp W 0 rfl rfl rfl (fun _ => ?_) (fun x => absurd rfl x)
    have hn1 : n = 1 := hN1
    refine sp W 0 rfl rfl rfl (fun _ => ?_) (fun x => by exfalso; omega)
    refine go_callS W 0 300 [0, 1] rfl (by first | exact True.intro | (simp only [AllC, AllP, addN, Int.toNat_natCast, true_and, and_true, Option.getD, List.length_set, wrapU, pw1, pw7, pw8, pw16, pw23, pw32, pw52, Holds] <;> first | omega | ((repeat' apply And.intro) <;> first | omega | (intros; rfl))) | (simp [AllC, AllP, addN, cloL, clo, mrgL, mrg, wrapU, Holds] <;> omega)) (pPut_ok L a ns b m g 9 0 [] hn) rfl rfl ⟨rfl, fun _ _ => rfl, trivial⟩ ⟨rfl, rfl, trivial⟩ rfl ?_
    rintro _ _ ⟨rfl, g3, rfl⟩
    refine ⟨_, _, rfl, rfl, ?_⟩
    refine go_retS W 0 300 2 rfl (by first | exact True.intro | (simp only [AllC, AllP, addN, Int.toNat_natCast, true_and, and_true, Option.getD, List.length_set, wrapU, pw1, pw7, pw8, pw16, pw23, pw32, pw52, Holds] <;> first | omega | ((repeat' apply And.intro) <;> first | omega | (intros; rfl))) | (simp [AllC, AllP, addN, cloL, clo, mrgL, mrg, wrapU, Holds] <;> omega)) rfl (by first | exact True.intro | (simp only [AllC, AllP, addN, Int.toNat_natCast, true_and, and_true, Option.getD, List.length_set, wrapU, pw1, pw7, pw8, pw16, pw23, pw32, pw52, Holds] <;> first | omega | ((repeat' apply And.intro) <;> first | omega | (intros; rfl))) | (simp [AllC, AllP, addN, cloL, clo, mrgL, mrg, wrapU, Holds] <;> omega)) (.tup []) .refl rfl ⟨rfl, g3, rfl⟩
  · refine sp W 0 rfl rfl rfl (fun x => absurd x (by decide)) (fun _ => ?_)
    refine sp W 0 rfl rfl rfl (fun _ => ?_) (fun x => absurd rfl x)
    have hn1 : n = 1 := hN1
    refine sp W 0 rfl rfl rfl (fun _ => ?_) (fun x => by exfalso; omega)
    refine go_callS W 0 300 [0, 1] rfl (by first | exact True.intro | (simp only [AllC, AllP, addN, Int.toNat_natCast, true_and, and_true, Option.getD, List.length_set, wrapU, pw1, pw7, pw8, pw16, pw23, pw32, pw52, Holds] <;> first | omega | ((repeat' apply And.intro) <;> first | omega | (intros; rfl))) | (simp [AllC, AllP, addN, cloL, clo, mrgL, mrg, wrapU, Holds] <;> omega)) (pPut_ok L a ns b m g 10 0 [] hn) rfl rfl ⟨rfl, fun _ _ => rfl, trivial⟩ ⟨rfl, rfl, trivial⟩ rfl ?_
    rintro _ _ ⟨rfl, g3, rfl⟩
    refine ⟨_, _, rfl, rfl, ?_⟩
    refine go_retS W 0 300 2 rfl (by first | exact True.intro | (simp only [AllC, AllP, addN, Int.toNat_natCast, true_and, and_true, Option.getD, List.length_set, wrapU, pw1, pw7, pw8, pw16, pw23, pw32, pw52, Holds] <;> first | omega | ((repeat' apply And.intro) <;> first | omega | (intros; rfl))) | (simp [AllC, AllP, addN, cloL, clo, mrgL, mrg, wrapU, Holds] <;> omega)) rfl (by first | exact True.intro | (simp only [AllC, AllP, addN, Int.toNat_natCast, true_and, and_true, Option.getD, List.length_set, wrapU, pw1, pw7, pw8, pw16, pw23, pw32, pw52, Holds] <;> first | omega | ((repeat' apply And.intro) <;> first | omega | (intros; rfl))) | (simp [AllC, AllP, addN, cloL, clo, mrgL, mrg, wrapU, Holds] <;> omega)) (.tup []) .refl rfl ⟨rfl, g3, rfl⟩
  · refine sp W 0 rfl rfl rfl (fun x => absurd x (by decide)) (fun _ => ?_)
    refine sp W 0 rfl rfl rfl (fun x => absurd x (by decide)) (fun _ => ?_)
    refine sp W 0 rfl rfl rfl (fun _ => ?_) (fun x => absurd rfl x)
    have hn1 : n = 2 := hN1
    refine sp W 0 rfl rfl rfl (fun _ => ?_) (fun x => by exfalso; omega)
    refine go_callS W 0 300 [0, 1] rfl (by first | exact True.intro | (simp only [AllC, AllP, addN, Int.toNat_natCast, true_and, and_true, Option.getD, List.length_set, wrapU, pw1, pw7, pw8, pw16, pw23, pw32, pw52, Holds] <;> first | omega | ((repeat' apply And.intro) <;> first | omega | (intros; rfl))) | (simp [AllC, AllP, addN, cloL, clo, mrgL, mrg, wrapU, Holds] <;> omega)) (pPut_ok L a ns b m g 11 0 [] hn) rfl rfl ⟨rfl, fun _ _ => rfl, trivial⟩ ⟨rfl, rfl, trivial⟩ rfl ?_
    rintro _ _ ⟨rfl, g3, rfl⟩
    refine ⟨_, _, rfl, rfl, ?_⟩
    refine go_retS W 0 300 2 rfl (by first | exact True.intro | (simp only [AllC, AllP, addN, Int.toNat_natCast, true_and, and_true, Option.getD, List.length_set, wrapU, pw1, pw7, pw8, pw16, pw23, pw32, pw52, Holds] <;> first | omega | ((repeat' apply And.intro) <;> first | omega | (intros; rfl))) | (simp [AllC, AllP, addN, cloL, clo, mrgL, mrg, wrapU, Holds] <;> omega)) rfl (by first | exact True.intro | (simp only [AllC, AllP, addN, Int.toNat_natCast, true_and, and_true, Option.getD, List.length_set, wrapU, pw1, pw7, pw8, pw16, pw23, pw32, pw52, Holds] <;> first | omega | ((repeat' apply And.intro) <;> first | omega | (intros; rfl))) | (simp [AllC, AllP, addN, cloL, clo, mrgL, mrg, wrapU, Holds] <;> omega)) (.tup []) .refl rfl ⟨rfl, g3, rfl⟩
  · refine sp W 0 rfl rfl rfl (fun x => absurd x (by decide)) (fun _ => ?_)
    refine sp W 0 rfl rfl rfl (fun x => absurd x (by decide)) (fun _ => ?_)
    refine sp W 0 rfl rfl rfl (fun x => absurd x (by decide)) (fun _ => ?_)
    refine sp W 0 rfl rfl rfl (fun _ => ?_) (fun x => absurd rfl x)
    have hn1 : n = 2 := hN1
    refine sp W 0 rfl rfl rfl (fun _ => ?_) (fun x => by exfalso; omega)
    refine go_callS W 0 300 [0, 1] rfl (by first | exact True.intro | (simp only [AllC, AllP, addN, Int.toNat_natCast, true_and, and_true, Option.getD, List.length_set, wrapU, pw1, pw7, pw8, pw16, pw23, pw32, pw52, Holds] <;> first | omega | ((repeat' apply And.intro) <;> first | omega | (intros; rfl))) | (simp [AllC, AllP, addN, cloL, clo, mrgL, mrg, wrapU, Holds] <;> omega)) (pPut_ok L a ns b m g 12 0 [] hn) rfl rfl ⟨rfl, fun _ _ => rfl, trivial⟩ ⟨rfl, rfl, trivial⟩ rfl ?_
    rintro _ _ ⟨rfl, g3, rfl⟩
    refine ⟨_, _, rfl, rfl, ?_⟩
    refine go_retS W 0 300 2 rfl (by first | exact True.intro | (simp only [AllC, AllP, addN, Int.toNat_natCast, true_and, and_true, Option.getD, List.length_set, wrapU, pw1, pw7, pw8, pw16, pw23, pw32, pw52, Holds] <;> first | omega | ((repeat' apply And.intro) <;> first | omega | (intros; rfl))) | (simp [AllC, AllP, addN, cloL, clo, mrgL, mrg, wrapU, Holds] <;> omega)) rfl (by first | exact True.intro | (simp only [AllC, AllP, addN, Int.toNat_natCast, true_and, and_true, Option.getD, List.length_set, wrapU, pw1, pw7, pw8, pw16, pw23, pw32, pw52, Holds] <;> first | omega | ((repeat' apply And.intro) <;> first | omega | (intros; rfl))) | (simp [AllC, AllP, addN, cloL, clo, mrgL, mrg, wrapU, Holds] <;> omega)) (.tup []) .refl rfl ⟨rfl, g3, rfl⟩
theorem pCall_bad (L : List Tk) (a : Nat) (ns : List Nd) (b m : Bool) (g n : Nat) (w : List UInt8) (hw : w ∈ ownW) (h : ¬ (w ∈ [wSqrt, wAbs, wMin, wMax] ∧ n = fnN w)) : AFun Tryz.prog 147 [.ptr 0 0 0 0, .str w, .int .i64 n] (LayP L a ns b m g) (fun u H => u = .tup [] ∧ H = LayP L a ns true m g) := by
  refine AFun.trim 2 ?_ (by simp [LayP])
  refine afun_of Tryz.func147 Tryz.call147 rfl Tryz.ntmps147 rfl ?_
  have W : Walk Tryz.prog TT 147 _ := Walk.of TT_ok Tryz.func147 Tryz.results147
  refine ce W 0 rfl rfl (l11Word_ok w) rfl ?_
  refine sp W 0 rfl rfl rfl (fun z1 => absurd hw z1) (fun z1 => ?_)
  clear z1
  simp only [ownW, List.mem_cons, List.not_mem_nil, or_false] at hw
  rcases hw with rfl | rfl | rfl | rfl | rfl | rfl
  · refine sp W 0 rfl rfl rfl (fun x => absurd x (by decide)) (fun _ => ?_)
    refine sp W 0 rfl rfl rfl (fun x => absurd x (by decide)) (fun _ => ?_)
    refine sp W 0 rfl rfl rfl (fun x => absurd x (by decide)) (fun _ => ?_)
    refine sp W 0 rfl rfl rfl (fun x => absurd x (by decide)) (fun _ => ?_)
    refine go_retS W 0 300 2 rfl (by first | exact True.intro | (simp only [AllC, AllP, addN, Int.toNat_natCast, true_and, and_true, Option.getD, List.length_set, wrapU, pw1, pw7, pw8, pw16, pw23, pw32, pw52, Holds] <;> first | omega | ((repeat' apply And.intro) <;> first | omega | (intros; rfl))) | (simp [AllC, AllP, addN, cloL, clo, mrgL, mrg, wrapU, Holds] <;> omega)) rfl (by first | exact True.intro | (simp only [AllC, AllP, addN, Int.toNat_natCast, true_and, and_true, Option.getD, List.length_set, wrapU, pw1, pw7, pw8, pw16, pw23, pw32, pw52, Holds] <;> first | omega | ((repeat' apply And.intro) <;> first | omega | (intros; rfl))) | (simp [AllC, AllP, addN, cloL, clo, mrgL, mrg, wrapU, Holds] <;> omega)) (.tup []) .refl rfl ⟨rfl, rfl⟩
  · refine sp W 0 rfl rfl rfl (fun x => absurd x (by decide)) (fun _ => ?_)
    refine sp W 0 rfl rfl rfl (fun x => absurd x (by decide)) (fun _ => ?_)
    refine sp W 0 rfl rfl rfl (fun x => absurd x (by decide)) (fun _ => ?_)
    refine sp W 0 rfl rfl rfl (fun x => absurd x (by decide)) (fun _ => ?_)
    refine go_retS W 0 300 2 rfl (by first | exact True.intro | (simp only [AllC, AllP, addN, Int.toNat_natCast, true_and, and_true, Option.getD, List.length_set, wrapU, pw1, pw7, pw8, pw16, pw23, pw32, pw52, Holds] <;> first | omega | ((repeat' apply And.intro) <;> first | omega | (intros; rfl))) | (simp [AllC, AllP, addN, cloL, clo, mrgL, mrg, wrapU, Holds] <;> omega)) rfl (by first | exact True.intro | (simp only [AllC, AllP, addN, Int.toNat_natCast, true_and, and_true, Option.getD, List.length_set, wrapU, pw1, pw7, pw8, pw16, pw23, pw32, pw52, Holds] <;> first | omega | ((repeat' apply And.intro) <;> first | omega | (intros; rfl))) | (simp [AllC, AllP, addN, cloL, clo, mrgL, mrg, wrapU, Holds] <;> omega)) (.tup []) .refl rfl ⟨rfl, rfl⟩
  · have hn1 : n ≠ 1 := fun k => h ⟨by simp, k⟩
    refine sp W 0 rfl rfl rfl (fun _ => ?_) (fun x => absurd rfl x)
    refine sp W 0 rfl rfl rfl (fun x => by exfalso; omega) (fun _ => ?_)
    refine sp W 0 rfl rfl rfl (fun x => absurd x (by decide)) (fun _ => ?_)
    refine sp W 0 rfl rfl rfl (fun x => absurd x (by decide)) (fun _ => ?_)
    refine sp W 0 rfl rfl rfl (fun x => absurd x (by decide)) (fun _ => ?_)
    refine go_retS W 0 300 2 rfl (by first | exact True.intro | (simp only [AllC, AllP, addN, Int.toNat_natCast, true_and, and_true, Option.getD, List.length_set, wrapU, pw1, pw7, pw8, pw16, pw23, pw32, pw52, Holds] <;> first | omega | ((repeat' apply And.intro) <;> first | omega | (intros; rfl))) | (simp [AllC, AllP, addN, cloL, clo, mrgL, mrg, wrapU, Holds] <;> omega)) rfl (by first | exact True.intro | (simp only [AllC, AllP, addN, Int.toNat_natCast, true_and, and_true, Option.getD, List.length_set, wrapU, pw1, pw7, pw8, pw16, pw23, pw32, pw52, Holds] <;> first | omega | ((repeat' apply And.intro) <;> first | omega | (intros; rfl))) | (simp [AllC, AllP, addN, cloL, clo, mrgL, mrg, wrapU, Holds] <;> omega)) (.tup []) .refl rfl ⟨rfl, rfl⟩
  · have hn1 : n ≠ 1 := fun k => h ⟨by simp, k⟩
    refine sp W 0 rfl rfl rfl (fun x => absurd x (by decide)) (fun _ => ?_)
    refine sp W 0 rfl rfl rfl (fun _ => ?_) (fun x => absurd rfl x)
    refine sp W 0 rfl rfl rfl (fun x => by exfalso; omega) (fun _ => ?_)
    refine sp W 0 rfl rfl rfl (fun x => absurd x (by decide)) (fun _ => ?_)
    refine sp W 0 rfl rfl rfl (fun x => absurd x (by decide)) (fun _ => ?_)
    refine go_retS W 0 300 2 rfl (by first | exact True.intro | (simp only [AllC, AllP, addN, Int.toNat_natCast, true_and, and_true, Option.getD, List.length_set, wrapU, pw1, pw7, pw8, pw16, pw23, pw32, pw52, Holds] <;> first | omega | ((repeat' apply And.intro) <;> first | omega | (intros; rfl))) | (simp [AllC, AllP, addN, cloL, clo, mrgL, mrg, wrapU, Holds] <;> omega)) rfl (by first | exact True.intro | (simp only [AllC, AllP, addN, Int.toNat_natCast, true_and, and_true, Option.getD, List.length_set, wrapU, pw1, pw7, pw8, pw16, pw23, pw32, pw52, Holds] <;> first | omega | ((repeat' apply And.intro) <;> first | omega | (intros; rfl))) | (simp [AllC, AllP, addN, cloL, clo, mrgL, mrg, wrapU, Holds] <;> omega)) (.tup []) .refl rfl ⟨rfl, rfl⟩
  · have hn1 : n ≠ 2 := fun k => h ⟨by simp, k⟩
    refine sp W 0 rfl rfl rfl (fun x => absurd x (by decide)) (fun _ => ?_)
    refine sp W 0 rfl rfl rfl (fun x => absurd x (by decide)) (fun _ => ?_)
    refine sp W 0 rfl rfl rfl (fun _ => ?_) (fun x => absurd rfl x)
    refine sp W 0 rfl rfl rfl (fun x => by exfalso; omega) (fun _ => ?_)
    refine sp W 0 rfl rfl rfl (fun x => absurd x (by decide)) (fun _ => ?_)
    refine go_retS W 0 300 2 rfl (by first | exact True.intro | (simp only [AllC, AllP, addN, Int.toNat_natCast, true_and, and_true, Option.getD, List.length_set, wrapU, pw1, pw7, pw8, pw16, pw23, pw32, pw52, Holds] <;> first | omega | ((repeat' apply And.intro) <;> first | omega | (intros; rfl))) | (simp [AllC, AllP, addN, cloL, clo, mrgL, mrg, wrapU, Holds] <;> omega)) rfl (by first | exact True.intro | (simp only [AllC, AllP, addN, Int.toNat_natCast, true_and, and_true, Option.getD, List.length_set, wrapU, pw1, pw7, pw8, pw16, pw23, pw32, pw52, Holds] <;> first | omega | ((repeat' apply And.intro) <;> first | omega | (intros; rfl))) | (simp [AllC, AllP, addN, cloL, clo, mrgL, mrg, wrapU, Holds] <;> omega)) (.tup []) .refl rfl ⟨rfl, rfl⟩
  · have hn1 : n ≠ 2 := fun k => h ⟨by simp, k⟩
    refine sp W 0 rfl rfl rfl (fun x => absurd x (by decide)) (fun _ => ?_)
    refine sp W 0 rfl rfl rfl (fun x => absurd x (by decide)) (fun _ => ?_)
    refine sp W 0 rfl rfl rfl (fun x => absurd x (by decide)) (fun _ => ?_)
    refine sp W 0 rfl rfl rfl (fun _ => ?_) (fun x => absurd rfl x)
    refine sp W 0 rfl rfl rfl (fun x => by exfalso; omega) (fun _ => ?_)
    refine go_retS W 0 300 2 rfl (by first | exact True.intro | (simp only [AllC, AllP, addN, Int.toNat_natCast, true_and, and_true, Option.getD, List.length_set, wrapU, pw1, pw7, pw8, pw16, pw23, pw32, pw52, Holds] <;> first | omega | ((repeat' apply And.intro) <;> first | omega | (intros; rfl))) | (simp [AllC, AllP, addN, cloL, clo, mrgL, mrg, wrapU, Holds] <;> omega)) rfl (by first | exact True.intro | (simp only [AllC, AllP, addN, Int.toNat_natCast, true_and, and_true, Option.getD, List.length_set, wrapU, pw1, pw7, pw8, pw16, pw23, pw32, pw52, Holds] <;> first | omega | ((repeat' apply And.intro) <;> first | omega | (intros; rfl))) | (simp [AllC, AllP, addN, cloL, clo, mrgL, mrg, wrapU, Holds] <;> omega)) (.tup []) .refl rfl ⟨rfl, rfl⟩
end Pf
/- The model's reader of terms: atoms -/
namespace Pf
open Go Go.Proofs
theorem take_yes {s : RS} {w : List UInt8} (h : s.isAt [w]) : s.take w = s.next := by
  have h := isAt_one.1 h
  unfold RS.take
  rw [if_neg (fun k => k.elim (fun x => x h.2.1) fun x => x h.2.2)]
theorem take_no {s : RS} {w : List UInt8} (h : ¬ s.isAt [w]) : (s.take w).bad = true := by
  unfold RS.take
  rw [if_pos]
  · rfl
  · refine Classical.byContradiction fun k => h (isAt_one.2 ?_)
    have k1 : s.hd.1 = 3 := Classical.byContradiction fun x => k (.inl x)
    exact ⟨hd_pos k1 (by omega), k1, Classical.byContradiction fun x => k (.inr x)⟩
theorem pI_open {f : Nat} {s : RS} (h : s.isAt [wOpen]) : pI (f + 1) .atom s = (0, if (pI f .args s).1 ≠ 1 then (pI f .args s).2.fail else (pI f .args s).2) := by rw [pI, if_pos h]
theorem pI_num {f : Nat} {s : RS} (h : ¬ s.isAt [wOpen]) (h2 : s.hd.1 = 2) : pI (f + 1) .atom s = (0, s.next.put 1 0 s.hd.2) := by rw [pI, if_neg h, if_pos h2]
theorem pI_none {f : Nat} {s : RS} (h : ¬ s.isAt [wOpen]) (h2 : ¬ s.hd.1 = 2) (h3 : s.hd.1 ≠ 1) : pI (f + 1) .atom s = (0, s.next.fail) := by rw [pI, if_neg h, if_neg h2, if_pos h3]
theorem pI_word {f : Nat} {s : RS} (h : ¬ s.isAt [wOpen]) (h2 : s.hd.1 = 1) (h3 : s.hd.2 ∈ [wSqrt, wAbs, wMin, wMax]) : pI (f + 1) .atom s = (0, (if (pI f .args s.next).1 ≠ fnN s.hd.2 then (pI f .args s.next).2.fail else (pI f .args s.next).2).put (fnK s.hd.2) 0 []) := by rw [pI, if_neg h, if_neg (by omega), if_neg (by omega), if_pos h3]
theorem pI_own {f : Nat} {s : RS} (h : ¬ s.isAt [wOpen]) (h2 : s.hd.1 = 1) (h3 : ¬ s.hd.2 ∈ [wSqrt, wAbs, wMin, wMax]) (h4 : s.hd.2 ∈ ownW) : pI (f + 1) .atom s = (0, s.next.fail) := by rw [pI, if_neg h, if_neg (by omega), if_neg (by omega), if_neg h3, if_pos (fun k => k.2 h4)]
theorem pI_call {f : Nat} {s : RS} (h : ¬ s.isAt [wOpen]) (h2 : s.hd.1 = 1) (h3 : ¬ s.hd.2 ∈ ownW) (h4 : wordP s.hd.2) (h5 : s.next.isAt [wOpen]) : pI (f + 1) .atom s = (0, { (pI f .args s.next).2 with many := (pI f .args s.next).2.many || decide (6 < (pI f .args s.next).1) }.put 13 (pI f .args s.next).1 s.hd.2) := by rw [pI, if_neg h, if_neg (by omega), if_neg (by omega), if_neg (fun k => h3 (ownW_four k)), if_neg (fun x => x ⟨h4, h3⟩), if_pos h5]
theorem pI_name {f : Nat} {s : RS} (h : ¬ s.isAt [wOpen]) (h2 : s.hd.1 = 1) (h3 : ¬ s.hd.2 ∈ ownW) (h4 : wordP s.hd.2) (h5 : ¬ s.next.isAt [wOpen]) : pI (f + 1) .atom s = (0, s.next.put 2 0 s.hd.2) := by rw [pI, if_neg h, if_neg (by omega), if_neg (by omega), if_neg (fun k => h3 (ownW_four k)), if_neg (fun x => x ⟨h4, h3⟩), if_neg h5]
theorem pI_args {f : Nat} {s : RS} : pI (f + 1) .args s = ((pI f (.argsL 0) (s.take wOpen)).1, (pI f (.argsL 0) (s.take wOpen)).2.take wClose) := by rw [pI]
theorem pI_more {f n : Nat} {s : RS} (h : s.bad = false) (h2 : (pI f .sum s).2.isAt [wComma]) : pI (f + 1) (.argsL n) s = pI f (.argsL (n + 1)) (pI f .sum s).2.next := by rw [pI, if_neg (by rw [h]; simp), if_pos h2]
theorem pI_last {f n : Nat} {s : RS} (h : s.bad = false) (h2 : ¬ (pI f .sum s).2.isAt [wComma]) : pI (f + 1) (.argsL n) s = (n + 1, (pI f .sum s).2) := by rw [pI, if_neg (by rw [h]; simp), if_neg h2]
theorem args_bad {f : Nat} {s : RS} (h : ¬ s.isAt [wOpen]) : (pI (f + 1) .args s).2.bad = true := by
  rw [pI_args]
  exact (shr_take _ _).bad ((pI_shr f _ _).bad (take_no h))
theorem pAtom (L : List Tk) (hL : L.length ≤ 900) (hk : toksOk L) (f : Nat) (ih : AllQ L f) (a : Nat) (ns : List Nd) (mn : Bool) (g : Nat) (hs : OkP L a ns) (hf : need .atom (stP L a ns false mn) ≤ f + 1) : CP (f + 1) .atom L a ns mn g := by
  unfold CP
  have hL : L.length ≤ 1000 := by omega
  obtain ⟨hs1, hs2⟩ := hs
  refine AFun.trim 2 ?_ (by simp [LayP])
  refine afun_of Tryz.func130 Tryz.call130 rfl Tryz.ntmps130 rfl ?_
  have W : Walk Tryz.prog TT 130 _ := Walk.of TT_ok Tryz.func130 Tryz.results130
  rcases Classical.em ((stP L a ns false mn).isAt [wOpen]) with z1 | z1
  · have hlt : a < L.length := by have := (isAt_one.1 z1).1; rw [stP_len] at this; omega
    obtain ⟨f, rfl⟩ : ∃ f2, f = f2 + 2 := ⟨f - 2, by simp only [need, rankM, stP_len, List.length_drop] at hf; omega⟩
    have eA : pI (f + 2) .args (stP L a ns false mn) = ((pI (f + 1) (.argsL 0) (stP L (a + 1) ns false mn)).1, (pI (f + 1) (.argsL 0) (stP L (a + 1) ns false mn)).2.take wClose) := by rw [pI_args, take_yes z1, stP_next hlt]
    have eR := pI_open (f := f + 2) z1
    have eB1 : (pI f .sum (stP L (a + 1) ns false mn)).2.isAt [wComma] → pI (f + 1) (.argsL 0) (stP L (a + 1) ns false mn) = pI f (.argsL 1) (pI f .sum (stP L (a + 1) ns false mn)).2.next := fun h => pI_more rfl h
    have eB2 : ¬ (pI f .sum (stP L (a + 1) ns false mn)).2.isAt [wComma] → pI (f + 1) (.argsL 0) (stP L (a + 1) ns false mn) = (1, (pI f .sum (stP L (a + 1) ns false mn)).2) := fun h => pI_last rfl h
    have c2 := ih f (by omega) .sum (a + 1) ns mn g ⟨by omega, by omega⟩ (by simp only [need, rankM, stP_len, List.length_drop] at *; omega)
    unfold CP at c2
    rw [eR, eA]
    clear eR eA
    generalize (pI f .sum (stP L (a + 1) ns false mn)).2 = q at *
    have rb : (pI (f + 1) (.argsL 0) (stP L (a + 1) ns false mn)).2.bad = true ∨ ¬ (pI (f + 1) (.argsL 0) (stP L (a + 1) ns false mn)).2.isAt [wClose] ∨ (pI (f + 1) (.argsL 0) (stP L (a + 1) ns false mn)).1 ≠ 1 →
        ((0 : Nat), if ((pI (f + 1) (.argsL 0) (stP L (a + 1) ns false mn)).1, (pI (f + 1) (.argsL 0) (stP L (a + 1) ns false mn)).2.take wClose).1 ≠ 1 then ((pI (f + 1) (.argsL 0) (stP L (a + 1) ns false mn)).1, (pI (f + 1) (.argsL 0) (stP L (a + 1) ns false mn)).2.take wClose).2.fail else ((pI (f + 1) (.argsL 0) (stP L (a + 1) ns false mn)).1, (pI (f + 1) (.argsL 0) (stP L (a + 1) ns false mn)).2.take wClose).2).2.bad = true := by
      intro h
      dsimp only
      split
      · rfl
      · rename_i h1
        rcases h with h | h | h
        · exact (shr_take _ wClose).bad h
        · exact take_no h
        · exact absurd h h1
    refine go_callS W 0 300 [0, 1] rfl (by first | exact True.intro | (simp only [AllC, AllP, addN, Int.toNat_natCast, true_and, and_true, Option.getD, List.length_set, wrapU, pw1, pw7, pw8, pw16, pw23, pw32, pw52, Holds] <;> first | omega | ((repeat' apply And.intro) <;> first | omega | (intros; rfl))) | (simp [AllC, AllP, addN, cloL, clo, mrgL, mrg, wrapU, Holds] <;> omega)) (pSign_yes L a ns false mn g wOpen hL z1) rfl rfl ⟨rfl, fun _ _ => rfl, trivial⟩ ⟨rfl, rfl, trivial⟩ rfl ?_
    rintro _ _ ⟨rfl, rfl⟩
    refine ⟨_, _, rfl, rfl, ?_⟩
    refine go_callS W 0 300 [0, 1] rfl (by first | exact True.intro | (simp only [AllC, AllP, addN, Int.toNat_natCast, true_and, and_true, Option.getD, List.length_set, wrapU, pw1, pw7, pw8, pw16, pw23, pw32, pw52, Holds] <;> first | omega | ((repeat' apply And.intro) <;> first | omega | (intros; rfl))) | (simp [AllC, AllP, addN, cloL, clo, mrgL, mrg, wrapU, Holds] <;> omega)) c2 rfl rfl ⟨rfl, fun _ _ => rfl, trivial⟩ ⟨rfl, rfl, trivial⟩ rfl ?_
    rintro _ _ ⟨rfl, a2, ns2, b2, m2, g2, rfl, ⟨q1, q2⟩, q3, q4, q5⟩
    refine ⟨_, _, rfl, rfl, ?_⟩
    clear c2 ih
    rcases b2 with _ | _
    · have hq := q5 q4.symm
      subst hq
      rcases Classical.em ((stP L a2 ns2 false m2).isAt [wClose]) with c | c
      · have hlt2 : a2 < L.length := by have := (isAt_one.1 c).1; rw [stP_len] at this; omega
        have hnc : ¬ (stP L a2 ns2 false m2).isAt [wComma] := fun k => by
          have h1 := (isAt_one.1 k).2.2
          rw [(isAt_one.1 c).2.2] at h1
          exact absurd h1 (by decide)
        rw [eB2 hnc]
        dsimp only
        rw [if_neg (by simp), take_yes c, stP_next hlt2]
        refine go_callS W 0 300 [0, 1] rfl (by first | exact True.intro | (simp only [AllC, AllP, addN, Int.toNat_natCast, true_and, and_true, Option.getD, List.length_set, wrapU, pw1, pw7, pw8, pw16, pw23, pw32, pw52, Holds] <;> first | omega | ((repeat' apply And.intro) <;> first | omega | (intros; rfl))) | (simp [AllC, AllP, addN, cloL, clo, mrgL, mrg, wrapU, Holds] <;> omega)) (pWant_yes L a2 ns2 false m2 g2 wClose hL c) rfl rfl ⟨rfl, fun _ _ => rfl, trivial⟩ ⟨rfl, rfl, trivial⟩ rfl ?_
        rintro _ _ ⟨rfl, rfl⟩
        refine ⟨_, _, rfl, rfl, ?_⟩
        refine go_retS W 0 300 2 rfl (by first | exact True.intro | (simp only [AllC, AllP, addN, Int.toNat_natCast, true_and, and_true, Option.getD, List.length_set, wrapU, pw1, pw7, pw8, pw16, pw23, pw32, pw52, Holds] <;> first | omega | ((repeat' apply And.intro) <;> first | omega | (intros; rfl))) | (simp [AllC, AllP, addN, cloL, clo, mrgL, mrg, wrapU, Holds] <;> omega)) rfl (by first | exact True.intro | (simp only [AllC, AllP, addN, Int.toNat_natCast, true_and, and_true, Option.getD, List.length_set, wrapU, pw1, pw7, pw8, pw16, pw23, pw32, pw52, Holds] <;> first | omega | ((repeat' apply And.intro) <;> first | omega | (intros; rfl))) | (simp [AllC, AllP, addN, cloL, clo, mrgL, mrg, wrapU, Holds] <;> omega)) (.tup []) .refl rfl ⟨rfl, a2 + 1, ns2, false, m2, g2, rfl, ⟨by omega, by omega⟩, by omega, rfl, fun _ => rfl⟩
      · have hb := rb (by
          by_cases hc : (stP L a2 ns2 false m2).isAt [wComma]
          · refine .inr (.inr ?_)
            rw [eB1 hc]
            refine argsL_one f _ ?_
            have hp := (isAt_one.1 hc).1
            exact (next_len hp).2.2.1
          · refine .inr (.inl ?_)
            rw [eB2 hc]
            exact c)
        refine go_callS W 0 300 [0, 1] rfl (by first | exact True.intro | (simp only [AllC, AllP, addN, Int.toNat_natCast, true_and, and_true, Option.getD, List.length_set, wrapU, pw1, pw7, pw8, pw16, pw23, pw32, pw52, Holds] <;> first | omega | ((repeat' apply And.intro) <;> first | omega | (intros; rfl))) | (simp [AllC, AllP, addN, cloL, clo, mrgL, mrg, wrapU, Holds] <;> omega)) (pWant_no L a2 ns2 false m2 g2 wClose hL c) rfl rfl ⟨rfl, fun _ _ => rfl, trivial⟩ ⟨rfl, rfl, trivial⟩ rfl ?_
        rintro _ _ ⟨rfl, rfl⟩
        refine ⟨_, _, rfl, rfl, ?_⟩
        refine go_retS W 0 300 2 rfl (by first | exact True.intro | (simp only [AllC, AllP, addN, Int.toNat_natCast, true_and, and_true, Option.getD, List.length_set, wrapU, pw1, pw7, pw8, pw16, pw23, pw32, pw52, Holds] <;> first | omega | ((repeat' apply And.intro) <;> first | omega | (intros; rfl))) | (simp [AllC, AllP, addN, cloL, clo, mrgL, mrg, wrapU, Holds] <;> omega)) rfl (by first | exact True.intro | (simp only [AllC, AllP, addN, Int.toNat_natCast, true_and, and_true, Option.getD, List.length_set, wrapU, pw1, pw7, pw8, pw16, pw23, pw32, pw52, Holds] <;> first | omega | ((repeat' apply And.intro) <;> first | omega | (intros; rfl))) | (simp [AllC, AllP, addN, cloL, clo, mrgL, mrg, wrapU, Holds] <;> omega)) (.tup []) .refl rfl ⟨rfl, a2, ns2, true, m2, g2, rfl, ⟨by omega, by omega⟩, by omega, hb.symm, fun k => by rw [hb] at k; cases k⟩
    · have hb := rb (.inl (by
        by_cases hc : q.isAt [wComma]
        · rw [eB1 hc]
          exact ((shr_next q).trans (pI_shr f (.argsL 1) _)).bad q4.symm
        · rw [eB2 hc]
          exact q4.symm))
      rcases Classical.em ((stP L a2 ns2 true m2).isAt [wClose]) with c | c
      · have hlt2 : a2 < L.length := by have := (isAt_one.1 c).1; rw [stP_len] at this; omega
        refine go_callS W 0 300 [0, 1] rfl (by first | exact True.intro | (simp only [AllC, AllP, addN, Int.toNat_natCast, true_and, and_true, Option.getD, List.length_set, wrapU, pw1, pw7, pw8, pw16, pw23, pw32, pw52, Holds] <;> first | omega | ((repeat' apply And.intro) <;> first | omega | (intros; rfl))) | (simp [AllC, AllP, addN, cloL, clo, mrgL, mrg, wrapU, Holds] <;> omega)) (pWant_yes L a2 ns2 true m2 g2 wClose hL c) rfl rfl ⟨rfl, fun _ _ => rfl, trivial⟩ ⟨rfl, rfl, trivial⟩ rfl ?_
        rintro _ _ ⟨rfl, rfl⟩
        refine ⟨_, _, rfl, rfl, ?_⟩
        refine go_retS W 0 300 2 rfl (by first | exact True.intro | (simp only [AllC, AllP, addN, Int.toNat_natCast, true_and, and_true, Option.getD, List.length_set, wrapU, pw1, pw7, pw8, pw16, pw23, pw32, pw52, Holds] <;> first | omega | ((repeat' apply And.intro) <;> first | omega | (intros; rfl))) | (simp [AllC, AllP, addN, cloL, clo, mrgL, mrg, wrapU, Holds] <;> omega)) rfl (by first | exact True.intro | (simp only [AllC, AllP, addN, Int.toNat_natCast, true_and, and_true, Option.getD, List.length_set, wrapU, pw1, pw7, pw8, pw16, pw23, pw32, pw52, Holds] <;> first | omega | ((repeat' apply And.intro) <;> first | omega | (intros; rfl))) | (simp [AllC, AllP, addN, cloL, clo, mrgL, mrg, wrapU, Holds] <;> omega)) (.tup []) .refl rfl ⟨rfl, a2 + 1, ns2, true, m2, g2, rfl, ⟨by omega, by omega⟩, by omega, hb.symm, fun k => by rw [hb] at k; cases k⟩
      · refine go_callS W 0 300 [0, 1] rfl (by first | exact True.intro | (simp only [AllC, AllP, addN, Int.toNat_natCast, true_and, and_true, Option.getD, List.length_set, wrapU, pw1, pw7, pw8, pw16, pw23, pw32, pw52, Holds] <;> first | omega | ((repeat' apply And.intro) <;> first | omega | (intros; rfl))) | (simp [AllC, AllP, addN, cloL, clo, mrgL, mrg, wrapU, Holds] <;> omega)) (pWant_no L a2 ns2 true m2 g2 wClose hL c) rfl rfl ⟨rfl, fun _ _ => rfl, trivial⟩ ⟨rfl, rfl, trivial⟩ rfl ?_
        rintro _ _ ⟨rfl, rfl⟩
        refine ⟨_, _, rfl, rfl, ?_⟩
        refine go_retS W 0 300 2 rfl (by first | exact True.intro | (simp only [AllC, AllP, addN, Int.toNat_natCast, true_and, and_true, Option.getD, List.length_set, wrapU, pw1, pw7, pw8, pw16, pw23, pw32, pw52, Holds] <;> first | omega | ((repeat' apply And.intro) <;> first | omega | (intros; rfl))) | (simp [AllC, AllP, addN, cloL, clo, mrgL, mrg, wrapU, Holds] <;> omega)) rfl (by first | exact True.intro | (simp only [AllC, AllP, addN, Int.toNat_natCast, true_and, and_true, Option.getD, List.length_set, wrapU, pw1, pw7, pw8, pw16, pw23, pw32, pw52, Holds] <;> first | omega | ((repeat' apply And.intro) <;> first | omega | (intros; rfl))) | (simp [AllC, AllP, addN, cloL, clo, mrgL, mrg, wrapU, Holds] <;> omega)) (.tup []) .refl rfl ⟨rfl, a2, ns2, true, m2, g2, rfl, ⟨by omega, by omega⟩, by omega, hb.symm, fun k => by rw [hb] at k; cases k⟩
  refine go_callS W 0 300 [0, 1] rfl (by first | exact True.intro | (simp only [AllC, AllP, addN, Int.toNat_natCast, true_and, and_true, Option.getD, List.length_set, wrapU, pw1, pw7, pw8, pw16, pw23, pw32, pw52, Holds] <;> first | omega | ((repeat' apply And.intro) <;> first | omega | (intros; rfl))) | (simp [AllC, AllP, addN, cloL, clo, mrgL, mrg, wrapU, Holds] <;> omega)) (pSign_no L a ns false mn g wOpen hL z1) rfl rfl ⟨rfl, fun _ _ => rfl, trivial⟩ ⟨rfl, rfl, trivial⟩ rfl ?_
  rintro _ _ ⟨rfl, rfl⟩
  refine ⟨_, _, rfl, rfl, ?_⟩
  have iA : ((a : Nat) : Int).toNat = a := Int.toNat_natCast _
  have bad : ∀ (r : Nat × RS), pI (f + 1) .atom (stP L a ns false mn) = r → r.2.bad = true → ∀ (a2 : Nat) (ns2 : List Nd) (m2 : Bool) (g2 : Nat), a ≤ a2 ∧ a2 ≤ L.length → ns2.length + (L.length - a2) ≤ ns.length + (L.length - a) → ∃ a' ns' b' m' g', LayP L a2 ns2 true m2 g2 = LayP L a' ns' b' m' g' ∧ EqP L a ns (pI (f + 1) .atom (stP L a ns false mn)).2 a' ns' b' m' := fun r e hb a2 ns2 m2 g2 h1 h2 => ⟨a2, ns2, true, m2, g2, rfl, h1, h2, by rw [e, hb], fun k => by rw [e, hb] at k; cases k⟩
  by_cases hlt : a < L.length
  · refine dre W 0 24 [(20, false)] [] rfl rfl rfl trivial rfl ?_ (hp := by simp only [AllP, Holds, Option.getD, true_and, and_true, Int.toNat_natCast]; omega)
    refine sp W 0 rfl rfl rfl (fun z3 => ?_) (fun z3 => ?_)
    · rw [iA] at z3
      refine go_retS W 0 300 2 rfl (by first | exact True.intro | (simp only [AllC, AllP, addN, Int.toNat_natCast, true_and, and_true, Option.getD, List.length_set, wrapU, pw1, pw7, pw8, pw16, pw23, pw32, pw52, Holds] <;> first | omega | ((repeat' apply And.intro) <;> first | omega | (intros; rfl))) | (simp [AllC, AllP, addN, cloL, clo, mrgL, mrg, wrapU, Holds] <;> omega)) rfl (by first | exact True.intro | (simp only [AllC, AllP, addN, Int.toNat_natCast, true_and, and_true, Option.getD, List.length_set, wrapU, pw1, pw7, pw8, pw16, pw23, pw32, pw52, Holds] <;> first | omega | ((repeat' apply And.intro) <;> first | omega | (intros; rfl))) | (simp [AllC, AllP, addN, cloL, clo, mrgL, mrg, wrapU, Holds] <;> omega)) (.tup []) .refl rfl ⟨rfl, bad _ (pI_none z1 (by rw [stP_hd]; omega) (by rw [stP_hd]; omega)) rfl a ns mn g ⟨Nat.le_refl _, hs1⟩ (Nat.le_refl _)⟩
    · rw [iA] at z3
      refine phg W 0 11 [10] rfl rfl (fun PW => ?_)
      refine pho PW 0 10 [] [] rfl rfl trivial rfl rfl ?_
      refine phe PW 0 [] [] rfl trivial rfl ?_
      rw [iA]
      have hm : L.getD a k0 ∈ L := by rw [List.getD_eq_getElem?_getD, List.getElem?_eq_getElem hlt]; exact List.getElem_mem hlt
      have hok := hk _ hm
      obtain ⟨t, ht⟩ : ∃ t, t = L.getD a k0 := ⟨_, rfl⟩
      rw [← ht] at z3 hok ⊢
      have hhd : (stP L a ns false mn).hd = t := stP_hd.trans ht.symm
      have hnx := stP_next (L := L) (ns := ns) (b := false) (m := mn) hlt
      refine sp W 0 rfl rfl rfl (fun z4 => ?_) (fun z4 => ?_)
      · rw [pI_num z1 (by rw [hhd]; exact z4), hnx, hhd]
        refine go_callS W 0 300 [0, 1] rfl (by first | exact True.intro | (simp only [AllC, AllP, addN, Int.toNat_natCast, true_and, and_true, Option.getD, List.length_set, wrapU, pw1, pw7, pw8, pw16, pw23, pw32, pw52, Holds] <;> first | omega | ((repeat' apply And.intro) <;> first | omega | (intros; rfl))) | (simp [AllC, AllP, addN, cloL, clo, mrgL, mrg, wrapU, Holds] <;> omega)) (pPut_ok L (a + 1) ns false mn g 1 0 t.2 (by omega)) rfl rfl ⟨rfl, fun _ _ => rfl, trivial⟩ ⟨rfl, rfl, trivial⟩ rfl ?_
        rintro _ _ ⟨rfl, g3, rfl⟩
        refine ⟨_, _, rfl, rfl, ?_⟩
        refine go_retS W 0 300 2 rfl (by first | exact True.intro | (simp only [AllC, AllP, addN, Int.toNat_natCast, true_and, and_true, Option.getD, List.length_set, wrapU, pw1, pw7, pw8, pw16, pw23, pw32, pw52, Holds] <;> first | omega | ((repeat' apply And.intro) <;> first | omega | (intros; rfl))) | (simp [AllC, AllP, addN, cloL, clo, mrgL, mrg, wrapU, Holds] <;> omega)) rfl (by first | exact True.intro | (simp only [AllC, AllP, addN, Int.toNat_natCast, true_and, and_true, Option.getD, List.length_set, wrapU, pw1, pw7, pw8, pw16, pw23, pw32, pw52, Holds] <;> first | omega | ((repeat' apply And.intro) <;> first | omega | (intros; rfl))) | (simp [AllC, AllP, addN, cloL, clo, mrgL, mrg, wrapU, Holds] <;> omega)) (.tup []) .refl rfl ⟨rfl, a + 1, ns ++ [(1, 0, t.2)], false, mn, g3, rfl, ⟨by omega, by omega⟩, by simp only [List.length_append, List.length_singleton]; omega, rfl, fun _ => rfl⟩
      have hw : t.1 = 1 ∧ wordP t.2 := by
        rcases hok.1 with x | x | x
        · exact x
        · exact absurd x.1 z4
        · exact absurd x z3
      have h1 : (stP L a ns false mn).hd.1 = 1 := by rw [hhd]; exact hw.1
      rcases Classical.em ((stP L (a + 1) ns false mn).isAt [wOpen]) with o | o
      · refine go_callS W 0 300 [0, 1] rfl (by first | exact True.intro | (simp only [AllC, AllP, addN, Int.toNat_natCast, true_and, and_true, Option.getD, List.length_set, wrapU, pw1, pw7, pw8, pw16, pw23, pw32, pw52, Holds] <;> first | omega | ((repeat' apply And.intro) <;> first | omega | (intros; rfl))) | (simp [AllC, AllP, addN, cloL, clo, mrgL, mrg, wrapU, Holds] <;> omega)) (pSign_yes L (a + 1) ns false mn g wOpen hL o) rfl rfl ⟨rfl, fun _ _ => rfl, trivial⟩ ⟨rfl, rfl, trivial⟩ rfl ?_
        rintro _ _ ⟨rfl, rfl⟩
        refine ⟨_, _, rfl, rfl, ?_⟩
        have hlt1 : a + 1 < L.length := by have := (isAt_one.1 o).1; rw [stP_len] at this; omega
        obtain ⟨f, rfl⟩ : ∃ f', f = f' + 2 := ⟨f - 2, by simp only [need, rankM, stP_len, List.length_drop] at hf; omega⟩
        have eA : pI (f + 2) .args (stP L (a + 1) ns false mn) = ((pI (f + 1) (.argsL 0) (stP L (a + 2) ns false mn)).1, (pI (f + 1) (.argsL 0) (stP L (a + 2) ns false mn)).2.take wClose) := by rw [pI_args, take_yes o, stP_next hlt1]
        have eX1 : (pI f .sum (stP L (a + 2) ns false mn)).2.isAt [wComma] → pI (f + 1) (.argsL 0) (stP L (a + 2) ns false mn) = pI f (.argsL 1) (pI f .sum (stP L (a + 2) ns false mn)).2.next := fun h => pI_more rfl h
        have eX2 : ¬ (pI f .sum (stP L (a + 2) ns false mn)).2.isAt [wComma] → pI (f + 1) (.argsL 0) (stP L (a + 2) ns false mn) = (1, (pI f .sum (stP L (a + 2) ns false mn)).2) := fun h => pI_last rfl h
        have c2 := ih f (by omega) .sum (a + 2) ns mn g ⟨by omega, by omega⟩ (by simp only [need, rankM, stP_len, List.length_drop] at *; omega)
        unfold CP at c2
        have Rb : (pI (f + 2) .args (stP L (a + 1) ns false mn)).2.bad = true → (pI (f + 2 + 1) .atom (stP L a ns false mn)).2.bad = true := fun h => by
          by_cases h5 : t.2 ∈ ownW
          · by_cases h4 : t.2 ∈ [wSqrt, wAbs, wMin, wMax]
            · rw [pI_word z1 h1 (by rw [hhd]; exact h4), hnx]
              dsimp only [RS.put]
              split
              · rfl
              · exact h
            · rw [pI_own z1 h1 (by rw [hhd]; exact h4) (by rw [hhd]; exact h5)]
              rfl
          · rw [pI_call z1 h1 (by rw [hhd]; exact h5) (by rw [hhd]; exact hw.2) (by rw [hnx]; exact o), hnx]
            exact h
        have Rn : ¬ t.2 ∈ ownW → (pI (f + 2 + 1) .atom (stP L a ns false mn)).2 = { (pI (f + 2) .args (stP L (a + 1) ns false mn)).2 with many := (pI (f + 2) .args (stP L (a + 1) ns false mn)).2.many || decide (6 < (pI (f + 2) .args (stP L (a + 1) ns false mn)).1) }.put 13 (pI (f + 2) .args (stP L (a + 1) ns false mn)).1 t.2 := fun h5 => by
          rw [pI_call z1 h1 (by rw [hhd]; exact h5) (by rw [hhd]; exact hw.2) (by rw [hnx]; exact o), hnx, hhd]
        have Rf : t.2 ∈ [wSqrt, wAbs, wMin, wMax] → (pI (f + 2 + 1) .atom (stP L a ns false mn)).2 = (if (pI (f + 2) .args (stP L (a + 1) ns false mn)).1 ≠ fnN t.2 then (pI (f + 2) .args (stP L (a + 1) ns false mn)).2.fail else (pI (f + 2) .args (stP L (a + 1) ns false mn)).2).put (fnK t.2) 0 [] := fun h4 => by
          rw [pI_word z1 h1 (by rw [hhd]; exact h4), hnx, hhd]
        have Ro : ¬ t.2 ∈ [wSqrt, wAbs, wMin, wMax] → t.2 ∈ ownW → (pI (f + 2 + 1) .atom (stP L a ns false mn)).2.bad = true := fun h4 h5 => by
          rw [pI_own z1 h1 (by rw [hhd]; exact h4) (by rw [hhd]; exact h5)]
          rfl
        rw [eA] at Rb Rn Rf
        clear eA
        generalize pI (f + 1) (.argsL 0) (stP L (a + 2) ns false mn) = X at *
        generalize (pI f .sum (stP L (a + 2) ns false mn)).2 = q at *
        refine go_callS W 0 300 [0, 1] rfl (by first | exact True.intro | (simp only [AllC, AllP, addN, Int.toNat_natCast, true_and, and_true, Option.getD, List.length_set, wrapU, pw1, pw7, pw8, pw16, pw23, pw32, pw52, Holds] <;> first | omega | ((repeat' apply And.intro) <;> first | omega | (intros; rfl))) | (simp [AllC, AllP, addN, cloL, clo, mrgL, mrg, wrapU, Holds] <;> omega)) c2 rfl rfl ⟨rfl, fun _ _ => rfl, trivial⟩ ⟨rfl, rfl, trivial⟩ rfl ?_
        rintro _ _ ⟨rfl, a2, ns2, b2, m2, g2, rfl, ⟨q1, q2⟩, q3, q4, q5⟩
        refine ⟨_, _, rfl, rfl, ?_⟩
        clear c2
        refine lp W 0 (σ := Nat × Nat × Nat × List Nd × Bool × Bool × Nat) (fun x => [(0, .ptr 0 0 0 0), (2, .ptr 2 0 0 0), (3, .int .i64 x.2.1)]) (fun x => LayP L x.2.2.1 x.2.2.2.1 x.2.2.2.2.1 x.2.2.2.2.2.1 x.2.2.2.2.2.2 ++ [.lst 0 [[.int .i64 t.1, .str t.2]]]) (fun x => L.length - x.2.2.1)
          (fun x => ((a + 2 ≤ x.2.2.1 ∧ x.2.2.1 ≤ L.length) ∧ x.2.2.2.1.length + (L.length - x.2.2.1) ≤ ns.length + (L.length - (a + 2)) ∧ x.2.1 + (L.length - x.2.2.1) ≤ 1001) ∧ (x.2.2.2.2.1 = true → X.2.bad = true) ∧ (x.2.2.2.2.1 = false → x.1 ≤ f ∧ ((stP L x.2.2.1 x.2.2.2.1 false x.2.2.2.2.2.1).isAt [wComma] → 8 * (L.length - (x.2.2.1 + 1)) + 7 ≤ x.1 ∧ X = pI x.1 (.argsL x.2.1) (stP L (x.2.2.1 + 1) x.2.2.2.1 false x.2.2.2.2.2.1)) ∧ (¬ (stP L x.2.2.1 x.2.2.2.1 false x.2.2.2.2.2.1).isAt [wComma] → X = (x.2.1, stP L x.2.2.1 x.2.2.2.1 false x.2.2.2.2.2.1))))
          (f, 1, a2, ns2, b2, m2, g2) [0, 2, 3] rfl rfl rfl ⟨⟨⟨q1, q2⟩, q3, by dsimp only; omega⟩, fun hb => by
            by_cases hc : q.isAt [wComma]
            · rw [eX1 hc]
              exact ((shr_next q).trans (pI_shr f (.argsL 1) _)).bad (q4.symm.trans hb)
            · rw [eX2 hc]
              exact q4.symm.trans hb, fun hb => by
            have hb : b2 = false := hb
            subst hb
            have hq := q5 q4.symm
            subst hq
            refine ⟨Nat.le_refl _, fun hc => ?_, fun hc => eX2 hc⟩
            have hlt2 : a2 < L.length := by have := (isAt_one.1 hc).1; rw [stP_len] at this; dsimp only at this; omega
            refine ⟨by simp only [need, rankM, stP_len, List.length_drop] at *; omega, ?_⟩
            rw [eX1 hc, stP_next hlt2]⟩ ?_
        clear eX1 eX2 q1 q2 q3 q4 q5
        rintro ⟨k, n, a3, ns3, b3, m3, g3⟩ ⟨⟨⟨r1, r2⟩, r3, r4⟩, hb1, hb2⟩ ih2
        dsimp only at r1 r2 r3 r4 hb1 hb2 ih2 ⊢
        rcases b3 with _ | _
        · obtain ⟨hk1, hX1, hX2⟩ := hb2 rfl
          clear hb1 hb2
          rcases Classical.em ((stP L a3 ns3 false m3).isAt [wComma]) with c | c
          · obtain ⟨hn7, hX⟩ := hX1 c
            have hlt3 : a3 < L.length := by have := (isAt_one.1 c).1; rw [stP_len] at this; omega
            obtain ⟨k, rfl⟩ : ∃ k', k = k' + 1 := ⟨k - 1, by omega⟩
            refine go_callS W 0 300 [0, 1] rfl (by first | exact True.intro | (simp only [AllC, AllP, addN, Int.toNat_natCast, true_and, and_true, Option.getD, List.length_set, wrapU, pw1, pw7, pw8, pw16, pw23, pw32, pw52, Holds] <;> first | omega | ((repeat' apply And.intro) <;> first | omega | (intros; rfl))) | (simp [AllC, AllP, addN, cloL, clo, mrgL, mrg, wrapU, Holds] <;> omega)) (pSign_yes L a3 ns3 false m3 g3 wComma hL c) rfl rfl ⟨rfl, fun _ _ => rfl, trivial⟩ ⟨rfl, rfl, trivial⟩ rfl ?_
            rintro _ _ ⟨rfl, rfl⟩
            refine ⟨_, _, rfl, rfl, ?_⟩
            have eX1 : (pI k .sum (stP L (a3 + 1) ns3 false m3)).2.isAt [wComma] → X = pI k (.argsL (n + 1)) (pI k .sum (stP L (a3 + 1) ns3 false m3)).2.next := fun h => hX.trans (pI_more rfl h)
            have eX2 : ¬ (pI k .sum (stP L (a3 + 1) ns3 false m3)).2.isAt [wComma] → X = (n + 1, (pI k .sum (stP L (a3 + 1) ns3 false m3)).2) := fun h => hX.trans (pI_last rfl h)
            have c3 := ih k (by omega) .sum (a3 + 1) ns3 m3 g3 ⟨by omega, by omega⟩ (by simp only [need, rankM, stP_len, List.length_drop] at *; omega)
            unfold CP at c3
            generalize (pI k .sum (stP L (a3 + 1) ns3 false m3)).2 = q at *
            refine go_callS W 0 300 [0, 1] rfl (by first | exact True.intro | (simp only [AllC, AllP, addN, Int.toNat_natCast, true_and, and_true, Option.getD, List.length_set, wrapU, pw1, pw7, pw8, pw16, pw23, pw32, pw52, Holds] <;> first | omega | ((repeat' apply And.intro) <;> first | omega | (intros; rfl))) | (simp [AllC, AllP, addN, cloL, clo, mrgL, mrg, wrapU, Holds] <;> omega)) c3 rfl rfl ⟨rfl, fun _ _ => rfl, trivial⟩ ⟨rfl, rfl, trivial⟩ rfl ?_
            rintro _ _ ⟨rfl, a4, ns4, b4, m4, g4, rfl, ⟨q1, q2⟩, q3, q4, q5⟩
            refine ⟨_, _, rfl, rfl, ?_⟩
            have nx := ih2 (k, n + 1, a4, ns4, b4, m4, g4) ⟨⟨⟨by dsimp only; omega, q2⟩, by dsimp only; omega, by dsimp only; omega⟩, fun hb => by
              by_cases hc : q.isAt [wComma]
              · rw [eX1 hc]
                exact ((shr_next q).trans (pI_shr k (.argsL (n + 1)) _)).bad (q4.symm.trans hb)
              · rw [eX2 hc]
                exact q4.symm.trans hb, fun hb => by
              have hb : b4 = false := hb
              subst hb
              have hq := q5 q4.symm
              subst hq
              refine ⟨by dsimp only; omega, fun hc => ?_, fun hc => eX2 hc⟩
              have hlt4 : a4 < L.length := by have := (isAt_one.1 hc).1; rw [stP_len] at this; dsimp only at this; omega
              refine ⟨by dsimp only; omega, ?_⟩
              rw [eX1 hc, stP_next hlt4]⟩ (by dsimp only; omega)
            dsimp only [LayP, List.cons_append, List.nil_append] at nx
            refine bd W 0 3 [0, 2, 3] rfl rfl rfl rfl rfl nx (hc := by simp only [AllC, true_and, and_true]; omega)
          · have hX := hX2 c
            subst hX
            clear hX1 hX2 ih2
            refine go_callS W 0 300 [0, 1] rfl (by first | exact True.intro | (simp only [AllC, AllP, addN, Int.toNat_natCast, true_and, and_true, Option.getD, List.length_set, wrapU, pw1, pw7, pw8, pw16, pw23, pw32, pw52, Holds] <;> first | omega | ((repeat' apply And.intro) <;> first | omega | (intros; rfl))) | (simp [AllC, AllP, addN, cloL, clo, mrgL, mrg, wrapU, Holds] <;> omega)) (pSign_no L a3 ns3 false m3 g3 wComma hL c) rfl rfl ⟨rfl, fun _ _ => rfl, trivial⟩ ⟨rfl, rfl, trivial⟩ rfl ?_
            rintro _ _ ⟨rfl, rfl⟩
            refine ⟨_, _, rfl, rfl, ?_⟩
            rcases Classical.em ((stP L a3 ns3 false m3).isAt [wClose]) with d | d
            · have hlt3 : a3 < L.length := by have := (isAt_one.1 d).1; rw [stP_len] at this; omega
              rw [take_yes d, stP_next hlt3] at Rb Rn Rf
              refine go_callS W 0 300 [0, 1] rfl (by first | exact True.intro | (simp only [AllC, AllP, addN, Int.toNat_natCast, true_and, and_true, Option.getD, List.length_set, wrapU, pw1, pw7, pw8, pw16, pw23, pw32, pw52, Holds] <;> first | omega | ((repeat' apply And.intro) <;> first | omega | (intros; rfl))) | (simp [AllC, AllP, addN, cloL, clo, mrgL, mrg, wrapU, Holds] <;> omega)) (pWant_yes L a3 ns3 false m3 g3 wClose hL d) rfl rfl ⟨rfl, fun _ _ => rfl, trivial⟩ ⟨rfl, rfl, trivial⟩ rfl ?_
              rintro _ _ ⟨rfl, rfl⟩
              refine ⟨_, _, rfl, rfl, ?_⟩
              by_cases h5 : t.2 ∈ ownW
              · by_cases h4 : t.2 ∈ [wSqrt, wAbs, wMin, wMax] ∧ n = fnN t.2
                · have R := Rf h4.1
                  dsimp only at R
                  rw [if_neg (fun x => x h4.2)] at R
                  refine go_callS W 0 300 [0, 1] rfl (by first | exact True.intro | (simp only [AllC, AllP, addN, Int.toNat_natCast, true_and, and_true, Option.getD, List.length_set, wrapU, pw1, pw7, pw8, pw16, pw23, pw32, pw52, Holds] <;> first | omega | ((repeat' apply And.intro) <;> first | omega | (intros; rfl))) | (simp [AllC, AllP, addN, cloL, clo, mrgL, mrg, wrapU, Holds] <;> omega)) (pCall_fn L (a3 + 1) ns3 false m3 g3 n t.2 (by omega) h4.1 h4.2) rfl rfl ⟨rfl, fun _ _ => rfl, trivial⟩ ⟨rfl, rfl, trivial⟩ rfl ?_
                  rintro _ _ ⟨rfl, g4, rfl⟩
                  refine ⟨_, _, rfl, rfl, ?_⟩
                  refine go_retS W 0 300 2 rfl (by first | exact True.intro | (simp only [AllC, AllP, addN, Int.toNat_natCast, true_and, and_true, Option.getD, List.length_set, wrapU, pw1, pw7, pw8, pw16, pw23, pw32, pw52, Holds] <;> first | omega | ((repeat' apply And.intro) <;> first | omega | (intros; rfl))) | (simp [AllC, AllP, addN, cloL, clo, mrgL, mrg, wrapU, Holds] <;> omega)) rfl (by first | exact True.intro | (simp only [AllC, AllP, addN, Int.toNat_natCast, true_and, and_true, Option.getD, List.length_set, wrapU, pw1, pw7, pw8, pw16, pw23, pw32, pw52, Holds] <;> first | omega | ((repeat' apply And.intro) <;> first | omega | (intros; rfl))) | (simp [AllC, AllP, addN, cloL, clo, mrgL, mrg, wrapU, Holds] <;> omega)) (.tup []) .refl rfl ⟨rfl, a3 + 1, ns3 ++ [(fnK t.2, 0, [])], false, m3, g4, rfl, ⟨by omega, by omega⟩, by simp only [List.length_append, List.length_singleton]; omega, by rw [R]; rfl, fun _ => by rw [R]; rfl⟩
                · have hb : (pI (f + 2 + 1) .atom (stP L a ns false mn)).2.bad = true := by
                    by_cases h6 : t.2 ∈ [wSqrt, wAbs, wMin, wMax]
                    · rw [Rf h6]
                      dsimp only
                      rw [if_pos (fun x => h4 ⟨h6, x⟩)]
                      rfl
                    · exact Ro h6 h5
                  refine go_callS W 0 300 [0, 1] rfl (by first | exact True.intro | (simp only [AllC, AllP, addN, Int.toNat_natCast, true_and, and_true, Option.getD, List.length_set, wrapU, pw1, pw7, pw8, pw16, pw23, pw32, pw52, Holds] <;> first | omega | ((repeat' apply And.intro) <;> first | omega | (intros; rfl))) | (simp [AllC, AllP, addN, cloL, clo, mrgL, mrg, wrapU, Holds] <;> omega)) (pCall_bad L (a3 + 1) ns3 false m3 g3 n t.2 h5 h4) rfl rfl ⟨rfl, fun _ _ => rfl, trivial⟩ ⟨rfl, rfl, trivial⟩ rfl ?_
                  rintro _ _ ⟨rfl, rfl⟩
                  refine ⟨_, _, rfl, rfl, ?_⟩
                  refine go_retS W 0 300 2 rfl (by first | exact True.intro | (simp only [AllC, AllP, addN, Int.toNat_natCast, true_and, and_true, Option.getD, List.length_set, wrapU, pw1, pw7, pw8, pw16, pw23, pw32, pw52, Holds] <;> first | omega | ((repeat' apply And.intro) <;> first | omega | (intros; rfl))) | (simp [AllC, AllP, addN, cloL, clo, mrgL, mrg, wrapU, Holds] <;> omega)) rfl (by first | exact True.intro | (simp only [AllC, AllP, addN, Int.toNat_natCast, true_and, and_true, Option.getD, List.length_set, wrapU, pw1, pw7, pw8, pw16, pw23, pw32, pw52, Holds] <;> first | omega | ((repeat' apply And.intro) <;> first | omega | (intros; rfl))) | (simp [AllC, AllP, addN, cloL, clo, mrgL, mrg, wrapU, Holds] <;> omega)) (.tup []) .refl rfl ⟨rfl, bad _ rfl hb (a3 + 1) ns3 m3 g3 ⟨by omega, by omega⟩ (by omega)⟩
              · have R := Rn h5
                dsimp only at R
                refine go_callS W 0 300 [0, 1] rfl (by first | exact True.intro | (simp only [AllC, AllP, addN, Int.toNat_natCast, true_and, and_true, Option.getD, List.length_set, wrapU, pw1, pw7, pw8, pw16, pw23, pw32, pw52, Holds] <;> first | omega | ((repeat' apply And.intro) <;> first | omega | (intros; rfl))) | (simp [AllC, AllP, addN, cloL, clo, mrgL, mrg, wrapU, Holds] <;> omega)) (pCall_name L (a3 + 1) ns3 false m3 g3 n t.2 (by omega) h5) rfl rfl ⟨rfl, fun _ _ => rfl, trivial⟩ ⟨rfl, rfl, trivial⟩ rfl ?_
                rintro _ _ ⟨rfl, g4, rfl⟩
                refine ⟨_, _, rfl, rfl, ?_⟩
                refine go_retS W 0 300 2 rfl (by first | exact True.intro | (simp only [AllC, AllP, addN, Int.toNat_natCast, true_and, and_true, Option.getD, List.length_set, wrapU, pw1, pw7, pw8, pw16, pw23, pw32, pw52, Holds] <;> first | omega | ((repeat' apply And.intro) <;> first | omega | (intros; rfl))) | (simp [AllC, AllP, addN, cloL, clo, mrgL, mrg, wrapU, Holds] <;> omega)) rfl (by first | exact True.intro | (simp only [AllC, AllP, addN, Int.toNat_natCast, true_and, and_true, Option.getD, List.length_set, wrapU, pw1, pw7, pw8, pw16, pw23, pw32, pw52, Holds] <;> first | omega | ((repeat' apply And.intro) <;> first | omega | (intros; rfl))) | (simp [AllC, AllP, addN, cloL, clo, mrgL, mrg, wrapU, Holds] <;> omega)) (.tup []) .refl rfl ⟨rfl, a3 + 1, ns3 ++ [(13, (n : Int), t.2)], false, (m3 || decide (6 < n)), g4, rfl, ⟨by omega, by omega⟩, by simp only [List.length_append, List.length_singleton]; omega, by rw [R]; rfl, fun _ => by rw [R]; rfl⟩
            · have hb := Rb (take_no d)
              refine go_callS W 0 300 [0, 1] rfl (by first | exact True.intro | (simp only [AllC, AllP, addN, Int.toNat_natCast, true_and, and_true, Option.getD, List.length_set, wrapU, pw1, pw7, pw8, pw16, pw23, pw32, pw52, Holds] <;> first | omega | ((repeat' apply And.intro) <;> first | omega | (intros; rfl))) | (simp [AllC, AllP, addN, cloL, clo, mrgL, mrg, wrapU, Holds] <;> omega)) (pWant_no L a3 ns3 false m3 g3 wClose hL d) rfl rfl ⟨rfl, fun _ _ => rfl, trivial⟩ ⟨rfl, rfl, trivial⟩ rfl ?_
              rintro _ _ ⟨rfl, rfl⟩
              refine ⟨_, _, rfl, rfl, ?_⟩
              refine go_retS W 0 300 2 rfl (by first | exact True.intro | (simp only [AllC, AllP, addN, Int.toNat_natCast, true_and, and_true, Option.getD, List.length_set, wrapU, pw1, pw7, pw8, pw16, pw23, pw32, pw52, Holds] <;> first | omega | ((repeat' apply And.intro) <;> first | omega | (intros; rfl))) | (simp [AllC, AllP, addN, cloL, clo, mrgL, mrg, wrapU, Holds] <;> omega)) rfl (by first | exact True.intro | (simp only [AllC, AllP, addN, Int.toNat_natCast, true_and, and_true, Option.getD, List.length_set, wrapU, pw1, pw7, pw8, pw16, pw23, pw32, pw52, Holds] <;> first | omega | ((repeat' apply And.intro) <;> first | omega | (intros; rfl))) | (simp [AllC, AllP, addN, cloL, clo, mrgL, mrg, wrapU, Holds] <;> omega)) (.tup []) .refl rfl ⟨rfl, bad _ rfl hb a3 ns3 m3 g3 ⟨by omega, by omega⟩ (by omega)⟩
        · have hb := Rb ((shr_take X.2 wClose).bad (hb1 rfl))
          clear hb1 hb2 ih2
          rcases Classical.em ((stP L a3 ns3 true m3).isAt [wClose]) with d | d
          · have hlt3 : a3 < L.length := by have := (isAt_one.1 d).1; rw [stP_len] at this; omega
            refine go_callS W 0 300 [0, 1] rfl (by first | exact True.intro | (simp only [AllC, AllP, addN, Int.toNat_natCast, true_and, and_true, Option.getD, List.length_set, wrapU, pw1, pw7, pw8, pw16, pw23, pw32, pw52, Holds] <;> first | omega | ((repeat' apply And.intro) <;> first | omega | (intros; rfl))) | (simp [AllC, AllP, addN, cloL, clo, mrgL, mrg, wrapU, Holds] <;> omega)) (pWant_yes L a3 ns3 true m3 g3 wClose hL d) rfl rfl ⟨rfl, fun _ _ => rfl, trivial⟩ ⟨rfl, rfl, trivial⟩ rfl ?_
            rintro _ _ ⟨rfl, rfl⟩
            refine ⟨_, _, rfl, rfl, ?_⟩
            refine go_retS W 0 300 2 rfl (by first | exact True.intro | (simp only [AllC, AllP, addN, Int.toNat_natCast, true_and, and_true, Option.getD, List.length_set, wrapU, pw1, pw7, pw8, pw16, pw23, pw32, pw52, Holds] <;> first | omega | ((repeat' apply And.intro) <;> first | omega | (intros; rfl))) | (simp [AllC, AllP, addN, cloL, clo, mrgL, mrg, wrapU, Holds] <;> omega)) rfl (by first | exact True.intro | (simp only [AllC, AllP, addN, Int.toNat_natCast, true_and, and_true, Option.getD, List.length_set, wrapU, pw1, pw7, pw8, pw16, pw23, pw32, pw52, Holds] <;> first | omega | ((repeat' apply And.intro) <;> first | omega | (intros; rfl))) | (simp [AllC, AllP, addN, cloL, clo, mrgL, mrg, wrapU, Holds] <;> omega)) (.tup []) .refl rfl ⟨rfl, bad _ rfl hb (a3 + 1) ns3 m3 g3 ⟨by omega, by omega⟩ (by omega)⟩
          · refine go_callS W 0 300 [0, 1] rfl (by first | exact True.intro | (simp only [AllC, AllP, addN, Int.toNat_natCast, true_and, and_true, Option.getD, List.length_set, wrapU, pw1, pw7, pw8, pw16, pw23, pw32, pw52, Holds] <;> first | omega | ((repeat' apply And.intro) <;> first | omega | (intros; rfl))) | (simp [AllC, AllP, addN, cloL, clo, mrgL, mrg, wrapU, Holds] <;> omega)) (pWant_no L a3 ns3 true m3 g3 wClose hL d) rfl rfl ⟨rfl, fun _ _ => rfl, trivial⟩ ⟨rfl, rfl, trivial⟩ rfl ?_
            rintro _ _ ⟨rfl, rfl⟩
            refine ⟨_, _, rfl, rfl, ?_⟩
            refine go_retS W 0 300 2 rfl (by first | exact True.intro | (simp only [AllC, AllP, addN, Int.toNat_natCast, true_and, and_true, Option.getD, List.length_set, wrapU, pw1, pw7, pw8, pw16, pw23, pw32, pw52, Holds] <;> first | omega | ((repeat' apply And.intro) <;> first | omega | (intros; rfl))) | (simp [AllC, AllP, addN, cloL, clo, mrgL, mrg, wrapU, Holds] <;> omega)) rfl (by first | exact True.intro | (simp only [AllC, AllP, addN, Int.toNat_natCast, true_and, and_true, Option.getD, List.length_set, wrapU, pw1, pw7, pw8, pw16, pw23, pw32, pw52, Holds] <;> first | omega | ((repeat' apply And.intro) <;> first | omega | (intros; rfl))) | (simp [AllC, AllP, addN, cloL, clo, mrgL, mrg, wrapU, Holds] <;> omega)) (.tup []) .refl rfl ⟨rfl, bad _ rfl hb a3 ns3 m3 g3 ⟨by omega, by omega⟩ (by omega)⟩
      · refine go_callS W 0 300 [0, 1] rfl (by first | exact True.intro | (simp only [AllC, AllP, addN, Int.toNat_natCast, true_and, and_true, Option.getD, List.length_set, wrapU, pw1, pw7, pw8, pw16, pw23, pw32, pw52, Holds] <;> first | omega | ((repeat' apply And.intro) <;> first | omega | (intros; rfl))) | (simp [AllC, AllP, addN, cloL, clo, mrgL, mrg, wrapU, Holds] <;> omega)) (pSign_no L (a + 1) ns false mn g wOpen hL o) rfl rfl ⟨rfl, fun _ _ => rfl, trivial⟩ ⟨rfl, rfl, trivial⟩ rfl ?_
        rintro _ _ ⟨rfl, rfl⟩
        refine ⟨_, _, rfl, rfl, ?_⟩
        refine ce W 0 rfl rfl (l11Word_ok t.2) rfl ?_
        refine sp W 0 rfl rfl rfl (fun z5 => ?_) (fun z5 => ?_)
        · obtain ⟨f', rfl⟩ : ∃ f', f = f' + 1 := ⟨f - 1, by simp only [need, rankM, stP_len, List.length_drop] at hf; omega⟩
          by_cases h4 : t.2 ∈ [wSqrt, wAbs, wMin, wMax]
          · refine go_retS W 0 300 2 rfl (by first | exact True.intro | (simp only [AllC, AllP, addN, Int.toNat_natCast, true_and, and_true, Option.getD, List.length_set, wrapU, pw1, pw7, pw8, pw16, pw23, pw32, pw52, Holds] <;> first | omega | ((repeat' apply And.intro) <;> first | omega | (intros; rfl))) | (simp [AllC, AllP, addN, cloL, clo, mrgL, mrg, wrapU, Holds] <;> omega)) rfl (by first | exact True.intro | (simp only [AllC, AllP, addN, Int.toNat_natCast, true_and, and_true, Option.getD, List.length_set, wrapU, pw1, pw7, pw8, pw16, pw23, pw32, pw52, Holds] <;> first | omega | ((repeat' apply And.intro) <;> first | omega | (intros; rfl))) | (simp [AllC, AllP, addN, cloL, clo, mrgL, mrg, wrapU, Holds] <;> omega)) (.tup []) .refl rfl ⟨rfl, bad _ (pI_word z1 h1 (by rw [hhd]; exact h4)) ?_ (a + 1) ns mn g ⟨by omega, by omega⟩ (by omega)⟩
            have hb := args_bad (f := f') (s := (stP L a ns false mn).next) (by rw [hnx]; exact o)
            dsimp only [RS.put]
            split
            · rfl
            · exact hb
          · refine go_retS W 0 300 2 rfl (by first | exact True.intro | (simp only [AllC, AllP, addN, Int.toNat_natCast, true_and, and_true, Option.getD, List.length_set, wrapU, pw1, pw7, pw8, pw16, pw23, pw32, pw52, Holds] <;> first | omega | ((repeat' apply And.intro) <;> first | omega | (intros; rfl))) | (simp [AllC, AllP, addN, cloL, clo, mrgL, mrg, wrapU, Holds] <;> omega)) rfl (by first | exact True.intro | (simp only [AllC, AllP, addN, Int.toNat_natCast, true_and, and_true, Option.getD, List.length_set, wrapU, pw1, pw7, pw8, pw16, pw23, pw32, pw52, Holds] <;> first | omega | ((repeat' apply And.intro) <;> first | omega | (intros; rfl))) | (simp [AllC, AllP, addN, cloL, clo, mrgL, mrg, wrapU, Holds] <;> omega)) (.tup []) .refl rfl ⟨rfl, bad _ (pI_own z1 h1 (by rw [hhd]; exact h4) (by rw [hhd]; exact z5)) rfl (a + 1) ns mn g ⟨by omega, by omega⟩ (by omega)⟩
        · rw [pI_name z1 h1 (by rw [hhd]; exact z5) (by rw [hhd]; exact hw.2) (by rw [hnx]; exact o), hnx, hhd]
          refine go_callS W 0 300 [0, 1] rfl (by first | exact True.intro | (simp only [AllC, AllP, addN, Int.toNat_natCast, true_and, and_true, Option.getD, List.length_set, wrapU, pw1, pw7, pw8, pw16, pw23, pw32, pw52, Holds] <;> first | omega | ((repeat' apply And.intro) <;> first | omega | (intros; rfl))) | (simp [AllC, AllP, addN, cloL, clo, mrgL, mrg, wrapU, Holds] <;> omega)) (pPut_ok L (a + 1) ns false mn g 2 0 t.2 (by omega)) rfl rfl ⟨rfl, fun _ _ => rfl, trivial⟩ ⟨rfl, rfl, trivial⟩ rfl ?_
          rintro _ _ ⟨rfl, g3, rfl⟩
          refine ⟨_, _, rfl, rfl, ?_⟩
          refine go_retS W 0 300 2 rfl (by first | exact True.intro | (simp only [AllC, AllP, addN, Int.toNat_natCast, true_and, and_true, Option.getD, List.length_set, wrapU, pw1, pw7, pw8, pw16, pw23, pw32, pw52, Holds] <;> first | omega | ((repeat' apply And.intro) <;> first | omega | (intros; rfl))) | (simp [AllC, AllP, addN, cloL, clo, mrgL, mrg, wrapU, Holds] <;> omega)) rfl (by first | exact True.intro | (simp only [AllC, AllP, addN, Int.toNat_natCast, true_and, and_true, Option.getD, List.length_set, wrapU, pw1, pw7, pw8, pw16, pw23, pw32, pw52, Holds] <;> first | omega | ((repeat' apply And.intro) <;> first | omega | (intros; rfl))) | (simp [AllC, AllP, addN, cloL, clo, mrgL, mrg, wrapU, Holds] <;> omega)) (.tup []) .refl rfl ⟨rfl, a + 1, ns ++ [(2, 0, t.2)], false, mn, g3, rfl, ⟨by omega, by omega⟩, by simp only [List.length_append, List.length_singleton]; omega, rfl, fun _ => rfl⟩
  · refine dre W 0 24 [(20, true)] [] rfl rfl rfl trivial rfl ?_ (hp := by simp only [AllP, Holds, Option.getD, true_and, and_true, Int.toNat_natCast]; omega)
    have e0 : L.getD a k0 = k0 := by rw [List.getD_eq_getElem?_getD, List.getElem?_eq_none (by omega)]; rfl
    refine go_retS W 0 300 2 rfl (by first | exact True.intro | (simp only [AllC, AllP, addN, Int.toNat_natCast, true_and, and_true, Option.getD, List.length_set, wrapU, pw1, pw7, pw8, pw16, pw23, pw32, pw52, Holds] <;> first | omega | ((repeat' apply And.intro) <;> first | omega | (intros; rfl))) | (simp [AllC, AllP, addN, cloL, clo, mrgL, mrg, wrapU, Holds] <;> omega)) rfl (by first | exact True.intro | (simp only [AllC, AllP, addN, Int.toNat_natCast, true_and, and_true, Option.getD, List.length_set, wrapU, pw1, pw7, pw8, pw16, pw23, pw32, pw52, Holds] <;> first | omega | ((repeat' apply And.intro) <;> first | omega | (intros; rfl))) | (simp [AllC, AllP, addN, cloL, clo, mrgL, mrg, wrapU, Holds] <;> omega)) (.tup []) .refl rfl ⟨rfl, bad _ (pI_none z1 (by rw [stP_hd, e0]; decide) (by rw [stP_hd, e0]; decide)) rfl a ns mn g ⟨Nat.le_refl _, hs1⟩ (Nat.le_refl _)⟩
end Pf
/- TermRead, both sides -/
namespace Pf
open Go Go.Proofs
/-- A sum is read by a reader that has laid down no nodes yet. -/
theorem pSum0 (L : List Tk) (hL : L.length ≤ 900) (f : Nat) (ih : AllQ L f) (hf : need .sum (stP L 0 [] false false) ≤ f + 1) : AFun Tryz.prog 63 [.ptr 0 0 0 0] [.lst 0 [[.fz L.length (tkR L), .int .i64 0, .nils, .bool false, .bool false]]] (RdP L 0 [] (pI (f + 1) .sum (stP L 0 [] false false)).2) := by
  have hL : L.length ≤ 1000 := by omega
  have hs : OkP L 0 [] := ⟨Nat.zero_le _, by simp; omega⟩
  refine AFun.trim 2 ?_ (by simp)
  refine afun_of Tryz.func63 Tryz.call63 rfl Tryz.ntmps63 rfl ?_
  have W : Walk Tryz.prog TT 63 _ := Walk.of TT_ok Tryz.func63 Tryz.results63
  refine go_nilC 0 0 2 ((.tab 0 0 (nodeR []))) rfl rfl rfl rfl rfl rfl rfl rfl rfl ?_
  obtain ⟨a0, ha0⟩ : ∃ a0 : Nat, a0 = 0 := ⟨_, rfl⟩
  obtain ⟨ns0, hns0⟩ : ∃ ns0 : List Nd, ns0 = [] := ⟨_, rfl⟩
  obtain ⟨mn0, hmn0⟩ : ∃ mn0 : Bool, mn0 = false := ⟨_, rfl⟩
  obtain ⟨g0, hg0⟩ : ∃ g0 : Nat, g0 = 0 := ⟨_, rfl⟩
  refine go_stt [0] [(0, .ptr 0 0 0 0)] (LayP L a0 ns0 false mn0 g0) rfl (by rw [ha0, hns0, hmn0, hg0]; rfl) ?_
  have hR : RdP L 0 [] (pI (f + 1) .sum (stP L 0 [] false false)).2 = RdP L a0 ns0 (pI (f + 1) .sum (stP L a0 ns0 false mn0)).2 := by rw [ha0, hns0, hmn0]
  rw [hR]
  have hs : OkP L a0 ns0 := by rw [ha0, hns0]; exact hs
  have hf : need .sum (stP L a0 ns0 false mn0) ≤ f + 1 := by rw [ha0, hns0, hmn0]; exact hf
  clear hR ha0 hns0 hmn0 hg0
  have c1 := ih f (Nat.le_refl _) .prod a0 ns0 mn0 g0 hs (by simp only [need, rankM, stP_len, List.length_drop] at *; omega)
  unfold CP at c1
  have hsh0 := pI_shr f .prod (stP L a0 ns0 false mn0)
  have e0 : pI (f + 1) .sum (stP L a0 ns0 false mn0) = pI f .sumL (pI f .prod (stP L a0 ns0 false mn0)).2 := by rw [pI]
  generalize (pI f .prod (stP L a0 ns0 false mn0)).2 = q0 at *
  refine go_callS W 0 300 [0, 1] rfl (by first | exact True.intro | (simp only [AllC, AllP, addN, Int.toNat_natCast, true_and, and_true, Option.getD, List.length_set, wrapU, pw1, pw7, pw8, pw16, pw23, pw32, pw52, Holds] <;> first | omega | ((repeat' apply And.intro) <;> first | omega | (intros; rfl))) | (simp [AllC, AllP, addN, cloL, clo, mrgL, mrg, wrapU, Holds] <;> omega)) c1 rfl rfl ⟨rfl, fun _ _ => rfl, trivial⟩ ⟨rfl, rfl, trivial⟩ rfl ?_
  rintro _ _ ⟨rfl, a1, ns1, b1, m1, g1, rfl, ⟨p1, p2⟩, p3, p4, p5⟩
  refine ⟨_, _, rfl, rfl, ?_⟩
  obtain ⟨hs1, hs2⟩ := hs
  refine lp W 0 (σ := Nat × Nat × List Nd × Bool × Bool × Nat) (fun t => [(0, .ptr 0 0 0 0)]) (fun t => LayP L t.2.1 t.2.2.1 t.2.2.2.1 t.2.2.2.2.1 t.2.2.2.2.2) (fun t => L.length - t.2.1) (fun t => ((a0 ≤ t.2.1 ∧ t.2.1 ≤ L.length) ∧ t.2.2.1.length + (L.length - t.2.1) ≤ ns0.length + (L.length - a0)) ∧ (t.2.2.2.1 = true → (pI (f + 1) .sum (stP L a0 ns0 false mn0)).2.bad = true) ∧ (t.2.2.2.1 = false → t.1 ≤ f ∧ need .sumL (stP L t.2.1 t.2.2.1 false t.2.2.2.2.1) ≤ t.1 ∧ pI (f + 1) .sum (stP L a0 ns0 false mn0) = pI t.1 .sumL (stP L t.2.1 t.2.2.1 false t.2.2.2.2.1))) (f, a1, ns1, b1, m1, g1) [0] rfl rfl rfl ⟨⟨⟨p1, p2⟩, p3⟩, fun hb => by rw [e0]; exact (pI_shr f .sumL q0).bad (p4.symm.trans hb), fun hb => by
    have hq := p5 (p4.symm.trans hb)
    have hl := hsh0.len
    rw [hq] at hl e0
    rw [stP_len, stP_len] at hl
    have hb : b1 = false := hb
    subst hb
    exact ⟨Nat.le_refl _, by simp only [need, rankM, stP_len, List.length_drop] at *; omega, e0⟩⟩ ?_
  clear c1 e0 hsh0 p1 p2 p3 p4 p5
  rintro ⟨k, a, ns, b, mn, g⟩ ⟨⟨⟨ha0, ha⟩, hm⟩, hb1, hb2⟩ ih2
  dsimp only at ha0 ha hm hb1 hb2 ih2 ⊢
  rcases b with _ | _
  · have he := hb2 rfl
    clear hb1 hb2
    obtain ⟨k, rfl⟩ : ∃ k', k = k' + 1 := ⟨k - 1, by have := he.2.1; simp only [need, rankM] at this; omega⟩
    obtain ⟨hk, hn, -⟩ := id he
    rcases Classical.em ((stP L a ns false mn).isAt [wPlus]) with z1 | z1
    · refine go_callS W 0 300 [0, 1] rfl (by first | exact True.intro | (simp only [AllC, AllP, addN, Int.toNat_natCast, true_and, and_true, Option.getD, List.length_set, wrapU, pw1, pw7, pw8, pw16, pw23, pw32, pw52, Holds] <;> first | omega | ((repeat' apply And.intro) <;> first | omega | (intros; rfl))) | (simp [AllC, AllP, addN, cloL, clo, mrgL, mrg, wrapU, Holds] <;> omega)) (pSign_yes L a ns false mn g wPlus hL z1) rfl rfl ⟨rfl, fun _ _ => rfl, trivial⟩ ⟨rfl, rfl, trivial⟩ rfl ?_
      rintro _ _ ⟨rfl, rfl⟩
      refine ⟨_, _, rfl, rfl, ?_⟩
      have hlt : a < L.length := by have := (isAt_one.1 z1).1; rw [stP_len] at this; omega
      have hhd : (stP L a ns false mn).hd.2 = wPlus := (isAt_one.1 z1).2.2
      have e : pI (k + 1) .sumL (stP L a ns false mn) = pI k .sumL ((pI k .prod (stP L (a + 1) ns false mn)).2.put 4 0 []) := by
        rw [pI, if_pos ⟨rfl, isAt_two.2 (.inl z1)⟩, stP_next hlt, hhd]
        rfl
      have c2 := ih k (by omega) .prod (a + 1) ns mn g ⟨by omega, by omega⟩ (by simp only [need, rankM, stP_len, List.length_drop] at *; omega)
      unfold CP at c2
      have hsh := (pI_shr k .prod (stP L (a + 1) ns false mn)).len
      generalize (pI k .prod (stP L (a + 1) ns false mn)).2 = q at *
      refine go_callS W 0 300 [0, 1] rfl (by first | exact True.intro | (simp only [AllC, AllP, addN, Int.toNat_natCast, true_and, and_true, Option.getD, List.length_set, wrapU, pw1, pw7, pw8, pw16, pw23, pw32, pw52, Holds] <;> first | omega | ((repeat' apply And.intro) <;> first | omega | (intros; rfl))) | (simp [AllC, AllP, addN, cloL, clo, mrgL, mrg, wrapU, Holds] <;> omega)) c2 rfl rfl ⟨rfl, fun _ _ => rfl, trivial⟩ ⟨rfl, rfl, trivial⟩ rfl ?_
      rintro _ _ ⟨rfl, a2, ns2, b2, m2, g2, rfl, ⟨q1, q2⟩, q3, q4, q5⟩
      refine ⟨_, _, rfl, rfl, ?_⟩
      refine go_callS W 0 300 [0, 1] rfl (by first | exact True.intro | (simp only [AllC, AllP, addN, Int.toNat_natCast, true_and, and_true, Option.getD, List.length_set, wrapU, pw1, pw7, pw8, pw16, pw23, pw32, pw52, Holds] <;> first | omega | ((repeat' apply And.intro) <;> first | omega | (intros; rfl))) | (simp [AllC, AllP, addN, cloL, clo, mrgL, mrg, wrapU, Holds] <;> omega)) (pPut_ok L a2 ns2 b2 m2 g2 4 0 [] (by omega)) rfl rfl ⟨rfl, fun _ _ => rfl, trivial⟩ ⟨rfl, rfl, trivial⟩ rfl ?_
      rintro _ _ ⟨rfl, g3, rfl⟩
      refine ⟨_, _, rfl, rfl, ?_⟩
      have nx := ih2 (k, a2, ns2 ++ [(4, 0, [])], b2, m2, g3) ⟨⟨by dsimp only; omega, by simp only [List.length_append, List.length_singleton]; omega⟩, fun hb => by
          rw [he.2.2, e]
          exact (pI_shr k .sumL _).bad (q4.symm.trans hb), fun hb => by
          have hq := q5 (q4.symm.trans hb)
          rw [hq] at hsh e
          rw [stP_len, stP_len] at hsh
          have hb : b2 = false := hb
          subst hb
          exact ⟨by dsimp only; omega, by simp only [need, rankM, stP_len, List.length_drop] at *; omega, he.2.2.trans e⟩⟩ (by dsimp only; omega)
      dsimp only [LayP] at nx
      refine bd W 0 2 [0] rfl rfl rfl rfl rfl (nx)
    · refine go_callS W 0 300 [0, 1] rfl (by first | exact True.intro | (simp only [AllC, AllP, addN, Int.toNat_natCast, true_and, and_true, Option.getD, List.length_set, wrapU, pw1, pw7, pw8, pw16, pw23, pw32, pw52, Holds] <;> first | omega | ((repeat' apply And.intro) <;> first | omega | (intros; rfl))) | (simp [AllC, AllP, addN, cloL, clo, mrgL, mrg, wrapU, Holds] <;> omega)) (pSign_no L a ns false mn g wPlus hL z1) rfl rfl ⟨rfl, fun _ _ => rfl, trivial⟩ ⟨rfl, rfl, trivial⟩ rfl ?_
      rintro _ _ ⟨rfl, rfl⟩
      refine ⟨_, _, rfl, rfl, ?_⟩
      rcases Classical.em ((stP L a ns false mn).isAt [wMinus]) with z2 | z2
      · refine go_callS W 0 300 [0, 1] rfl (by first | exact True.intro | (simp only [AllC, AllP, addN, Int.toNat_natCast, true_and, and_true, Option.getD, List.length_set, wrapU, pw1, pw7, pw8, pw16, pw23, pw32, pw52, Holds] <;> first | omega | ((repeat' apply And.intro) <;> first | omega | (intros; rfl))) | (simp [AllC, AllP, addN, cloL, clo, mrgL, mrg, wrapU, Holds] <;> omega)) (pSign_yes L a ns false mn g wMinus hL z2) rfl rfl ⟨rfl, fun _ _ => rfl, trivial⟩ ⟨rfl, rfl, trivial⟩ rfl ?_
        rintro _ _ ⟨rfl, rfl⟩
        refine ⟨_, _, rfl, rfl, ?_⟩
        have hlt : a < L.length := by have := (isAt_one.1 z2).1; rw [stP_len] at this; omega
        have hhd : (stP L a ns false mn).hd.2 = wMinus := (isAt_one.1 z2).2.2
        have e : pI (k + 1) .sumL (stP L a ns false mn) = pI k .sumL ((pI k .prod (stP L (a + 1) ns false mn)).2.put 5 0 []) := by
          rw [pI, if_pos ⟨rfl, isAt_two.2 (.inr z2)⟩, stP_next hlt, hhd]
          rfl
        have c2 := ih k (by omega) .prod (a + 1) ns mn g ⟨by omega, by omega⟩ (by simp only [need, rankM, stP_len, List.length_drop] at *; omega)
        unfold CP at c2
        have hsh := (pI_shr k .prod (stP L (a + 1) ns false mn)).len
        generalize (pI k .prod (stP L (a + 1) ns false mn)).2 = q at *
        refine go_callS W 0 300 [0, 1] rfl (by first | exact True.intro | (simp only [AllC, AllP, addN, Int.toNat_natCast, true_and, and_true, Option.getD, List.length_set, wrapU, pw1, pw7, pw8, pw16, pw23, pw32, pw52, Holds] <;> first | omega | ((repeat' apply And.intro) <;> first | omega | (intros; rfl))) | (simp [AllC, AllP, addN, cloL, clo, mrgL, mrg, wrapU, Holds] <;> omega)) c2 rfl rfl ⟨rfl, fun _ _ => rfl, trivial⟩ ⟨rfl, rfl, trivial⟩ rfl ?_
        rintro _ _ ⟨rfl, a2, ns2, b2, m2, g2, rfl, ⟨q1, q2⟩, q3, q4, q5⟩
        refine ⟨_, _, rfl, rfl, ?_⟩
        refine go_callS W 0 300 [0, 1] rfl (by first | exact True.intro | (simp only [AllC, AllP, addN, Int.toNat_natCast, true_and, and_true, Option.getD, List.length_set, wrapU, pw1, pw7, pw8, pw16, pw23, pw32, pw52, Holds] <;> first | omega | ((repeat' apply And.intro) <;> first | omega | (intros; rfl))) | (simp [AllC, AllP, addN, cloL, clo, mrgL, mrg, wrapU, Holds] <;> omega)) (pPut_ok L a2 ns2 b2 m2 g2 5 0 [] (by omega)) rfl rfl ⟨rfl, fun _ _ => rfl, trivial⟩ ⟨rfl, rfl, trivial⟩ rfl ?_
        rintro _ _ ⟨rfl, g3, rfl⟩
        refine ⟨_, _, rfl, rfl, ?_⟩
        have nx := ih2 (k, a2, ns2 ++ [(5, 0, [])], b2, m2, g3) ⟨⟨by dsimp only; omega, by simp only [List.length_append, List.length_singleton]; omega⟩, fun hb => by
            rw [he.2.2, e]
            exact (pI_shr k .sumL _).bad (q4.symm.trans hb), fun hb => by
            have hq := q5 (q4.symm.trans hb)
            rw [hq] at hsh e
            rw [stP_len, stP_len] at hsh
            have hb : b2 = false := hb
            subst hb
            exact ⟨by dsimp only; omega, by simp only [need, rankM, stP_len, List.length_drop] at *; omega, he.2.2.trans e⟩⟩ (by dsimp only; omega)
        dsimp only [LayP] at nx
        refine bd W 0 2 [0] rfl rfl rfl rfl rfl (nx)
      · refine go_callS W 0 300 [0, 1] rfl (by first | exact True.intro | (simp only [AllC, AllP, addN, Int.toNat_natCast, true_and, and_true, Option.getD, List.length_set, wrapU, pw1, pw7, pw8, pw16, pw23, pw32, pw52, Holds] <;> first | omega | ((repeat' apply And.intro) <;> first | omega | (intros; rfl))) | (simp [AllC, AllP, addN, cloL, clo, mrgL, mrg, wrapU, Holds] <;> omega)) (pSign_no L a ns false mn g wMinus hL z2) rfl rfl ⟨rfl, fun _ _ => rfl, trivial⟩ ⟨rfl, rfl, trivial⟩ rfl ?_
        rintro _ _ ⟨rfl, rfl⟩
        refine ⟨_, _, rfl, rfl, ?_⟩
        have e : pI (k + 1) .sumL (stP L a ns false mn) = (0, stP L a ns false mn) := by rw [pI, if_neg (fun x => (isAt_two.1 x.2).elim z1 z2)]
        rw [he.2.2, e]
        refine go_retS W 0 300 2 rfl (by first | exact True.intro | (simp only [AllC, AllP, addN, Int.toNat_natCast, true_and, and_true, Option.getD, List.length_set, wrapU, pw1, pw7, pw8, pw16, pw23, pw32, pw52, Holds] <;> first | omega | ((repeat' apply And.intro) <;> first | omega | (intros; rfl))) | (simp [AllC, AllP, addN, cloL, clo, mrgL, mrg, wrapU, Holds] <;> omega)) rfl (by first | exact True.intro | (simp only [AllC, AllP, addN, Int.toNat_natCast, true_and, and_true, Option.getD, List.length_set, wrapU, pw1, pw7, pw8, pw16, pw23, pw32, pw52, Holds] <;> first | omega | ((repeat' apply And.intro) <;> first | omega | (intros; rfl))) | (simp [AllC, AllP, addN, cloL, clo, mrgL, mrg, wrapU, Holds] <;> omega)) (.tup []) .refl rfl ⟨rfl, a, ns, false, mn, g, rfl, ⟨ha0, ha⟩, hm, rfl, fun _ => rfl⟩
  · have hb := hb1 rfl
    refine go_retS W 0 300 2 rfl (by first | exact True.intro | (simp only [AllC, AllP, addN, Int.toNat_natCast, true_and, and_true, Option.getD, List.length_set, wrapU, pw1, pw7, pw8, pw16, pw23, pw32, pw52, Holds] <;> first | omega | ((repeat' apply And.intro) <;> first | omega | (intros; rfl))) | (simp [AllC, AllP, addN, cloL, clo, mrgL, mrg, wrapU, Holds] <;> omega)) rfl (by first | exact True.intro | (simp only [AllC, AllP, addN, Int.toNat_natCast, true_and, and_true, Option.getD, List.length_set, wrapU, pw1, pw7, pw8, pw16, pw23, pw32, pw52, Holds] <;> first | omega | ((repeat' apply And.intro) <;> first | omega | (intros; rfl))) | (simp [AllC, AllP, addN, cloL, clo, mrgL, mrg, wrapU, Holds] <;> omega)) (.tup []) .refl rfl ⟨rfl, a, ns, true, mn, g, rfl, ⟨ha0, ha⟩, hm, hb.symm, fun k => by rw [hb] at k; cases k⟩
theorem allQ (L : List Tk) (hL : L.length ≤ 900) (hk : toksOk L) : ∀ f, AllQ L f
  | 0 => fun k hk m a ns mn g hs hn => by
    exfalso
    cases m <;> simp only [need, rankM] at hn <;> omega
  | f + 1 => fun k hk2 m a ns mn g hs hn => by
    by_cases h : k ≤ f
    · exact allQ L hL hk f k h m a ns mn g hs hn
    · obtain rfl : k = f + 1 := by omega
      cases m with
      | sum => exact pSum L hL f (allQ L hL hk f) a ns mn g hs hn
      | prod => exact pProd L hL f (allQ L hL hk f) a ns mn g hs hn
      | sgn => exact pSgn L hL hk f (allQ L hL hk f) a ns mn g hs hn
      | atom => exact pAtom L hL hk f (allQ L hL hk f) a ns mn g hs hn
      | _ => exact trivial
open Classical in
/-- The nodes of a term that is read. -/
noncomputable def rdN (ts : List Tk) : List Nd := if rdC ts = 0 then (rdS ts).nodes else []
theorem whole_ok (L : List Tk) (hk : toksOk L) (hl : L.length ≤ 900) : AFunP Tryz.prog 24 [.fz L.length (tkR L)] (· = .tup [termV (rdN L), .int .i64 (rdC L)]) := by
  have c := pSum0 L hl (8 * L.length + 5) (allQ L hl hk _) (by simp only [need, rankM, stP_len, List.length_drop]; omega)
  have hS : rdS L = (pI (8 * L.length + 5 + 1) .sum (stP L 0 [] false false)).2 := rfl
  rw [← hS] at c
  clear hS
  unfold rdN
  refine afun_of Tryz.func24 Tryz.call24 rfl Tryz.ntmps24 rfl ?_
  have W : Walk Tryz.prog TT 24 _ := Walk.of TT_ok Tryz.func24 Tryz.results24
  refine go_callS W 0 300 [1] rfl (by first | exact True.intro | (simp only [AllC, AllP, addN, Int.toNat_natCast, true_and, and_true, Option.getD, List.length_set, wrapU, pw1, pw7, pw8, pw16, pw23, pw32, pw52, Holds] <;> first | omega | ((repeat' apply And.intro) <;> first | omega | (intros; rfl))) | (simp [AllC, AllP, addN, cloL, clo, mrgL, mrg, wrapU, Holds] <;> omega)) c rfl rfl ⟨rfl, trivial⟩ ⟨rfl, trivial⟩ rfl ?_
  rintro _ _ ⟨rfl, a2, ns2, b2, m2, g2, rfl, ⟨q1, q2⟩, q3, q4, q5⟩
  refine ⟨_, _, rfl, rfl, ?_⟩
  clear c
  rcases b2 with _ | _
  · have hq := q5 q4.symm
    refine sp W 0 rfl rfl rfl (fun z1 => ?_) (fun z1 => ?_)
    · have e : rdC L = 4 := by unfold rdC; rw [if_pos (.inr (by rw [hq, stP_len]; omega))]
      rw [e, if_neg (by decide)]
      refine rp W 0 rfl rfl rfl (.tup ⟨.agg ⟨.nils_fz, trivial⟩, .refl, trivial⟩)
    have hn : ¬ ((rdS L).bad = true ∨ 0 < (rdS L).toks.length) := fun k => k.elim (fun k => by rw [hq] at k; cases k) fun k => by rw [hq, stP_len] at k; omega
    rcases m2 with _ | _
    · refine sp W 0 rfl rfl rfl (fun z2 => ?_) (fun z2 => ?_)
      · have e : rdC L = 5 := by unfold rdC; rw [if_neg hn, if_pos (.inr (by rw [hq]; dsimp only; omega))]
        rw [e, if_neg (by decide)]
        refine rp W 0 rfl rfl rfl (.tup ⟨.agg ⟨.nils_fz, trivial⟩, .refl, trivial⟩)
      · have e : rdC L = 0 := by unfold rdC; rw [if_neg hn, if_neg (fun k => k.elim (fun k => by rw [hq] at k; cases k) fun k => by rw [hq] at k; dsimp only at k; omega)]
        have e2 : (rdS L).nodes = ns2 := by rw [hq]
        rw [e, if_pos rfl, e2]
        refine rp W 0 rfl rfl rfl (.tup ⟨.agg ⟨.fz fun i hi => by rw [addN0]; rfl, trivial⟩, .refl, trivial⟩)
    · have e : rdC L = 5 := by unfold rdC; rw [if_neg hn, if_pos (.inl (by rw [hq]))]
      rw [e, if_neg (by decide)]
      refine rp W 0 rfl rfl rfl (.tup ⟨.agg ⟨.nils_fz, trivial⟩, .refl, trivial⟩)
  · have e : rdC L = 4 := by unfold rdC; rw [if_pos (.inl q4.symm)]
    rw [e, if_neg (by decide)]
    refine rp W 0 rfl rfl rfl (.tup ⟨.agg ⟨.nils_fz, trivial⟩, .refl, trivial⟩)
open Classical in
/-- What TermRead answers. -/
noncomputable def trC (s : List UInt8) : Int := if (lexR s).2 ≠ 0 then (lexR s).2 else rdC (lexR s).1
open Classical in
noncomputable def trN (s : List UInt8) : List Nd := if trC s = 0 then (rdS (lexR s).1).nodes else []
theorem specRead_ok (s : List UInt8) (hl : s.length ≤ 4611686018427387903) : AFunP Tryz.prog 6 [.str s] (· = .tup [termV (trN s), .int .i64 (trC s)]) := by
  obtain ⟨k1, k2⟩ := lexR_toks s
  refine afun_of Tryz.func6 Tryz.call6 rfl Tryz.ntmps6 rfl ?_
  have W : Walk Tryz.prog TT 6 _ := Walk.of TT_ok Tryz.func6 Tryz.results6
  refine ce W 0 rfl rfl (specTokens_ok s hl) rfl ?_
  refine sp W 0 rfl rfl rfl (fun z1 => ?_) (fun z1 => ?_)
  · have e : trC s = (lexR s).2 := by unfold trC; rw [if_pos z1]
    unfold trN
    rw [e, if_neg z1]
    refine rp W 0 rfl rfl rfl (.tup ⟨.agg ⟨.nils_fz, trivial⟩, .refl, trivial⟩)
  · have e : trC s = rdC (lexR s).1 := by unfold trC; rw [if_neg z1]
    unfold trN
    rw [e]
    refine ce W 0 rfl rfl (whole_ok (lexR s).1 k1 (by omega)) rfl ?_
    refine rp W 0 rfl rfl rfl (.refl)
theorem implRead_no (s : List UInt8) (hl : s.length ≤ 4611686018427387903) (h : trC s ≠ 0) : AFunP Tryz.prog 7 [.str s] (· = .tup [.agg [.nils], .int .i64 (trC s)]) := by
  obtain ⟨k1, k2⟩ := lexR_toks s
  refine afun_of Tryz.func7 Tryz.call7 rfl Tryz.ntmps7 rfl ?_
  have W : Walk Tryz.prog TT 7 _ := Walk.of TT_ok Tryz.func7 Tryz.results7
  refine ce W 0 rfl rfl (implTokens_ok s hl) rfl ?_
  refine sp W 0 rfl rfl rfl (fun z1 => ?_) (fun z1 => ?_)
  · have e : trC s = (lexR s).2 := by unfold trC; rw [if_pos z1]
    rw [e]
    refine rp W 0 rfl rfl rfl (.refl)
  · have e : trC s = rdC (lexR s).1 := by unfold trC; rw [if_neg z1]
    rw [e] at h ⊢
    refine ce W 0 rfl rfl (readTerm_no (lexR s).1 k1 (by omega) h) rfl ?_
    refine rp W 0 rfl rfl rfl (.refl)
theorem implRead_yes (s : List UInt8) (hl : s.length ≤ 4611686018427387903) (h : trC s = 0) : AFun Tryz.prog 7 [.str s] [] (fun u H => u = .tup [.agg [.sl 4 0 0 (trN s).length], .int .i64 0] ∧ H = [.dead, .dead, .dead, .dead, .tab 0 (trN s).length (nodeR (trN s))]) := by
  obtain ⟨k1, k2⟩ := lexR_toks s
  refine AFun.kil 0 ?_
  refine afun_of Tryz.func7 Tryz.call7 rfl Tryz.ntmps7 rfl ?_
  have W : Walk Tryz.prog TT 7 _ := Walk.of TT_ok Tryz.func7 Tryz.results7
  refine ce W 0 rfl rfl (implTokens_ok s hl) rfl ?_
  refine sp W 0 rfl rfl rfl (fun z1 => ?_) (fun z1 => ?_)
  · have e : trC s = (lexR s).2 := by unfold trC; rw [if_pos z1]
    rw [e] at h
    exact absurd h z1
  · have e : trC s = rdC (lexR s).1 := by unfold trC; rw [if_neg z1]
    have e2 : trN s = (rdS (lexR s).1).nodes := by unfold trN; rw [if_pos h]
    rw [e] at h
    rw [e2]
    have c := readTerm_yes (lexR s).1 k1 (by omega) h (rdS_pos h)
    refine go_callS W 0 300 [] rfl (by first | exact True.intro | (simp only [AllC, AllP, addN, Int.toNat_natCast, true_and, and_true, Option.getD, List.length_set, wrapU, pw1, pw7, pw8, pw16, pw23, pw32, pw52, Holds] <;> first | omega | ((repeat' apply And.intro) <;> first | omega | (intros; rfl))) | (simp [AllC, AllP, addN, cloL, clo, mrgL, mrg, wrapU, Holds] <;> omega)) c rfl rfl trivial trivial rfl ?_
    rintro _ _ ⟨rfl, rfl⟩
    refine ⟨_, _, rfl, rfl, ?_⟩
    refine rg W 0 rfl (⟨_, rfl, rfl, rfl⟩)
end Pf
/- The law of TermRead -/
namespace Pf
open Go Go.Proofs
/-- What a node of a term looks like that bears marks. -/
def mkNd (k : Nat) : Nd := (k, (k + 1 : Nat), mt (k + 2))
def heldT (k : Nat) (l : List Nd) : Prop := ∀ i, i < l.length → l.getD i (0, 0, []) = mkNd (k + 3 * i)
theorem markNdS_ok (n k : Nat) (l : List Nd) (hl : l.length = n) (hn : n ≤ 1048576) (h1 : 1 ≤ k) (hk : k ≤ 1048576000) : AFunM Tryz.prog 28 [.sl 0 0 0 n, .int .i64 k] [.tab 0 n (nodeR l)] fun u bs => u = .int .i64 (k + 3 * n : Nat) ∧ ∃ l' : List Nd, l'.length = n ∧ heldT k l' ∧ bs = [.tab 0 n (nodeR l')] := by
  refine afun_of Tryz.func28 Tryz.call28 rfl Tryz.ntmps28 rfl ?_
  have W : Walk Tryz.prog TT 28 _ := Walk.of TT_ok Tryz.func28 Tryz.results28
  refine lp W 0 (σ := Nat × (Nat → Int) × (Nat → Int) × (Nat → List UInt8)) (fun s => [(0, .sl 0 0 0 n), (1, .int .i64 (k + 3 * s.1 : Nat)), (5, .int .i64 s.1)]) (fun s => [.tab 0 n fun j => [.int .i64 (s.2.1 j), .int .i64 (s.2.2.1 j), .str (s.2.2.2 j)]]) (fun s => n - s.1) (fun s => s.1 ≤ n ∧ ∀ j, j < s.1 → ((s.2.1 j, s.2.2.1 j, s.2.2.2 j) : Nd) = mkNd (k + 3 * j)) (0, fun j => (l.getD j (0, 0, [])).1, fun j => (l.getD j (0, 0, [])).2.1, fun j => (l.getD j (0, 0, [])).2.2) [0, 1, 5] rfl rfl rfl ⟨Nat.zero_le _, fun j hj => by omega⟩ ?_
  rintro ⟨i, F, G, S⟩ ⟨hi, he⟩ ih
  dsimp only at hi he ih ⊢
  refine sp W 0 rfl rfl rfl (fun h2 => ?_) (fun h2 => ?_)
  · have h2 : i < n := by omega
    have km := markText_ok (k + 3 * i + 2) (by omega) (by omega)
    refine ce W 0 rfl rfl (km) rfl ?_
    refine bd W 0 1 [0, 1, 5] rfl rfl rfl rfl rfl (ih (i + 1, _, _, _) ⟨by dsimp only; omega, fun j hj => ?_⟩ (by dsimp only; omega))
    dsimp only at hj ⊢
    have hq : addN 0 ((i : Nat) : Int).toNat = i := by rw [addN0, Int.toNat_natCast]
    generalize addN 0 ((i : Nat) : Int).toNat = q at *
    subst hq
    generalize instDecidableEqNat j q = dd
    cases dd with
    | isTrue h =>
      subst h
      simp only [if_true, mkNd]
      refine Prod.ext ?_ (Prod.ext ?_ rfl) <;> dsimp only <;> omega
    | isFalse h => simp only [if_neg h]; exact he j (by omega)
  · have e : i = n := by omega
    subst e
    let l' : List Nd := (List.range i).map fun j => (F j, G j, S j)
    have hl' : l'.length = i := by simp [l']
    have hg : ∀ j, j < i → l'.getD j (0, 0, []) = (F j, G j, S j) := fun j hj => by simp [l', List.getD_eq_getElem?_getD, hj]
    refine go_tab 0 i (nodeR l') rfl rfl rfl (Nat.le_refl _) (fun j hj => ?_) (.inl rfl) ?_
    · unfold nodeR
      rw [hg j hj]
    refine rmT W 0 [.tab 0 i (nodeR l')] rfl rfl rfl ⟨rfl, trivial⟩ ⟨fun _ _ => rfl, trivial⟩ rfl (.int .i64 (k + 3 * i : Nat)) rfl .refl ⟨rfl, l', hl', fun j hj => by rw [hg j (by omega)]; exact he j (by omega), rfl⟩
theorem markTm_ok (n k : Nat) (l : List Nd) (hl : l.length = n) (hn : n ≤ 1048576) (h1 : 1 ≤ k) (hk : k ≤ 1048576000) : AFunM Tryz.prog 9 [.agg [.sl 0 0 0 n], .int .i64 k] [.tab 0 n (nodeR l)] fun u bs => u = .int .i64 (k + 3 * n : Nat) ∧ ∃ l' : List Nd, l'.length = n ∧ heldT k l' ∧ bs = [.tab 0 n (nodeR l')] := by
  refine afun_of Tryz.func9 Tryz.call9 rfl Tryz.ntmps9 rfl ?_
  have W : Walk Tryz.prog TT 9 _ := Walk.of TT_ok Tryz.func9 Tryz.results9
  refine cmT W 0 [(0, 0)] rfl (markNdS_ok n k l hl hn h1 hk) ⟨rfl, trivial⟩ rfl rfl ⟨fun _ _ => rfl, trivial⟩ ?_
  rintro _ _ ⟨rfl, l', hl', hh, rfl⟩
  refine ⟨_, _, rfl, rfl, ?_⟩
  refine rmT W 0 [.tab 0 n (nodeR l')] rfl rfl rfl ⟨rfl, trivial⟩ ⟨fun _ _ => rfl, trivial⟩ rfl (.int .i64 (k + 3 * n : Nat)) rfl .refl ⟨rfl, l', hl', hh, rfl⟩
theorem heldNdS_ok (k : Nat) (l : List Nd) (hn : l.length ≤ 1048576) (h1 : 1 ≤ k) (hk : k ≤ 1048576000) (hr : heldT k l) : AFunP Tryz.prog 29 [.fz l.length (nodeR l), .int .i64 k] (· = .int .i64 (k + 3 * l.length : Nat)) := by
  refine afun_of Tryz.func29 Tryz.call29 rfl Tryz.ntmps29 rfl ?_
  have W : Walk Tryz.prog TT 29 _ := Walk.of TT_ok Tryz.func29 Tryz.results29
  refine lp W 0 (σ := Nat) (fun i => [(0, .fz l.length (nodeR l)), (1, .int .i64 (k + 3 * i : Nat)), (5, .int .i64 i)]) (fun _ => []) (fun i => l.length - i) (fun i => i ≤ l.length) 0 [0, 1, 5] rfl rfl rfl (Nat.zero_le _) ?_
  rintro i hi ih
  refine sp W 0 rfl rfl rfl (fun h2 => ?_) (fun h2 => ?_)
  · have h2 : i < l.length := by omega
    have km := markText_ok (k + 3 * i + 2) (by omega) (by omega)
    have hri := hr i h2
    have hq : ((i : Nat) : Int).toNat = i := Int.toNat_natCast i
    refine sp W 0 rfl rfl rfl (fun a1 => ?_) (fun a1 => ?_)
    · rw [hq, hri] at a1; exact absurd rfl a1
    refine sp W 0 rfl rfl rfl (fun a2 => ?_) (fun a2 => ?_)
    · rw [hq, hri] at a2; exfalso; simp only [mkNd] at a2; omega
    refine dre W 0 7 [] [.str (mt (k + 3 * i + 2))] rfl rfl rfl ⟨km.at rfl _, trivial⟩ rfl ?_
    refine sp W 0 rfl rfl rfl (fun a5 => ?_) (fun a5 => ?_)
    · rw [hq, hri] at a5; exact absurd rfl a5
    refine bd W 0 0 [0, 1, 5] rfl rfl rfl rfl rfl (ih (i + 1) (by omega) (by omega))
  · have e : i = l.length := by omega
    subst e
    refine rp W 0 rfl rfl rfl (.refl)
theorem heldTm_ok (k : Nat) (l : List Nd) (hn : l.length ≤ 1048576) (h1 : 1 ≤ k) (hk : k ≤ 1048576) (h2 : heldT k l) : AFunP Tryz.prog 10 [termV l, .int .i64 k] (· = .int .i64 (k + 3 * l.length : Nat)) := by
  refine afun_of Tryz.func10 Tryz.call10 rfl Tryz.ntmps10 rfl ?_
  have W : Walk Tryz.prog TT 10 _ := Walk.of TT_ok Tryz.func10 Tryz.results10
  refine ce W 0 rfl rfl (heldNdS_ok k l hn h1 (by omega) h2) rfl ?_
  refine sp W 0 rfl rfl rfl (fun h4 => ?_) (fun h4 => ?_)
  · exfalso; omega
  · refine rp W 0 rfl rfl rfl (.refl)
theorem markNdS_nil (k : Int) : AFunP Tryz.prog 28 [.nils, .int .i64 k] (· = .int .i64 k) := by
  refine afun_of Tryz.func28 Tryz.call28 rfl Tryz.ntmps28 rfl ?_
  have W : Walk Tryz.prog TT 28 _ := Walk.of TT_ok Tryz.func28 Tryz.results28
  refine lp W 0 (σ := Unit) (fun s => [(0, .nils), (1, .int .i64 k), (5, .int .i64 0)]) (fun _ => []) (fun s => 0) (fun s => True) () [0, 1, 5] rfl rfl rfl trivial ?_
  rintro i hi ih
  refine sp W 0 rfl rfl rfl (fun h2 => ?_) (fun h2 => ?_)
  · exfalso; omega
  · refine rp W 0 rfl rfl rfl (.refl)
theorem markTm_nil (k : Int) : AFunP Tryz.prog 9 [.agg [.nils], .int .i64 k] (· = .int .i64 k) := by
  refine afun_of Tryz.func9 Tryz.call9 rfl Tryz.ntmps9 rfl ?_
  have W : Walk Tryz.prog TT 9 _ := Walk.of TT_ok Tryz.func9 Tryz.results9
  refine ce W 0 rfl rfl (markNdS_nil k) rfl ?_
  refine rp W 0 rfl rfl rfl (.refl)
theorem trN_len (s : List UInt8) : (trN s).length ≤ 100 := by
  unfold trN
  split
  · rename_i h
    have h2 : rdC (lexR s).1 = 0 := by
      unfold trC at h
      split at h
      · exact absurd h (by assumption)
      · exact h
    unfold rdC at h2
    split at h2
    · exact absurd h2 (by decide)
    · split at h2
      · exact absurd h2 (by decide)
      · rename_i _ h3
        exact Nat.le_of_not_lt fun k => h3 (.inr k)
  · simp
theorem fnTermRead_law (s : List UInt8) (hs : s.length ≤ 9223372036854775807) : AFunP Tryz.prog 3 [.str s] (· = .pr True) := by
  have hN := trN_len s
  refine afun_of Tryz.func3 Tryz.call3 rfl Tryz.ntmps3 rfl ?_
  have W : Walk Tryz.prog TT 3 _ := Walk.of TT_ok Tryz.func3 Tryz.results3
  refine sp W 0 rfl rfl rfl (fun h1 => ?_) (fun h1 => ?_)
  · refine rp W 0 rfl rfl rfl (.yes trivial)
  have hl : s.length ≤ 4611686018427387903 := by omega
  have ks := specRead_ok s hl
  by_cases hc : trC s = 0
  · have ki := implRead_yes s hl hc
    rw [hc] at ks
    generalize trN s = N at ks ki hN
    have keq := eqTerm_ok N N (by omega) (by omega)
    refine ce W 0 rfl rfl (ks) rfl ?_
    refine go_callL W 0 300 rfl (by first | exact True.intro | (simp only [AllC, AllP, addN, Int.toNat_natCast, true_and, and_true, Option.getD, List.length_set, wrapU, pw1, pw7, pw8, pw16, pw23, pw32, pw52, Holds] <;> first | omega | ((repeat' apply And.intro) <;> first | omega | (intros; rfl))) | (simp [AllC, AllP, addN, cloL, clo, mrgL, mrg, wrapU, Holds] <;> omega)) rfl trivial rfl ki (fun u H h => by obtain ⟨rfl, rfl⟩ := h; exact ⟨rfl, trivial, trivial, trivial, trivial, fun _ _ => rfl, trivial⟩) ?_
    rintro _ _ ⟨rfl, rfl⟩
    refine ⟨_, _, rfl, rfl, ?_⟩
    refine cb W 0 rfl rfl rfl rfl (keq) rfl ?_
    refine sp W 0 rfl rfl rfl (fun b1 => ?_) (fun b1 => ?_)
    · exact absurd rfl b1
    refine sp W 0 rfl rfl rfl (fun b2 => ?_) (fun b2 => ?_)
    · exact absurd rfl b2
    refine cmT W 0 [(5, 0)] rfl (markTm_ok N.length 1 N rfl (by omega) (by omega) (by omega)) ⟨rfl, trivial⟩ rfl rfl ⟨fun _ _ => rfl, trivial⟩ ?_
    rintro _ _ ⟨rfl, N', hN', hh, rfl⟩
    refine ⟨_, _, rfl, rfl, ?_⟩
    have kh := heldTm_ok 1 N' (by omega) (by omega) (by omega) hh
    unfold termV at kh
    rw [hN'] at kh
    refine cb W 0 rfl rfl rfl rfl (kh) rfl ?_
    refine sp W 0 rfl rfl rfl (fun b3 => ?_) (fun b3 => ?_)
    · exfalso; omega
    refine sp W 0 rfl rfl rfl (fun b4 => ?_) (fun b4 => ?_)
    · exact absurd rfl b4
    refine go_callL W 0 300 rfl (by first | exact True.intro | (simp only [AllC, AllP, addN, Int.toNat_natCast, true_and, and_true, Option.getD, List.length_set, wrapU, pw1, pw7, pw8, pw16, pw23, pw32, pw52, Holds] <;> first | omega | ((repeat' apply And.intro) <;> first | omega | (intros; rfl))) | (simp [AllC, AllP, addN, cloL, clo, mrgL, mrg, wrapU, Holds] <;> omega)) rfl trivial rfl ki (fun u H h => by obtain ⟨rfl, rfl⟩ := h; exact ⟨rfl, trivial, trivial, trivial, trivial, fun _ _ => rfl, trivial⟩) ?_
    rintro _ _ ⟨rfl, rfl⟩
    refine ⟨_, _, rfl, rfl, ?_⟩
    refine cb W 0 rfl rfl rfl rfl (keq) rfl ?_
    refine sp W 0 rfl rfl rfl (fun b5 => ?_) (fun b5 => ?_)
    · exact absurd rfl b5
    refine sp W 0 rfl rfl rfl (fun b6 => ?_) (fun b6 => ?_)
    · exact absurd rfl b6
    refine cb W 0 rfl rfl rfl rfl (kh) rfl ?_
    refine sp W 0 rfl rfl rfl (fun b7 => ?_) (fun b7 => ?_)
    · exfalso; omega
    refine sp W 0 rfl rfl rfl (fun b8 => ?_) (fun b8 => ?_)
    · exact absurd rfl b8
    refine rp W 0 rfl rfl rfl (.yes trivial)
  · have ki := implRead_no s hl hc
    have hNn : trN s = [] := by unfold trN; rw [if_neg hc]
    rw [hNn] at ks
    generalize trC s = C at ks ki
    refine ce W 0 rfl rfl (ks) rfl ?_
    have keq : AFunP Tryz.prog 8 [.agg [.nils], termV []] (· = .pr (([] : List Nd) = [])) := AFun.arg2 (eqTerm_ok [] [] (by simp) (by simp)) ⟨.agg ⟨.nils_fz, trivial⟩, .refl, trivial⟩
    have kh : AFunP Tryz.prog 10 [.agg [.nils], .int .i64 1] (· = .int .i64 1) := AFun.arg2 (heldTm_ok 1 [] (by simp) (by omega) (by omega) (fun i hi => by simp at hi)) ⟨.agg ⟨.nils_fz, trivial⟩, .refl, trivial⟩
    refine ce W 0 rfl rfl (ki) rfl ?_
    refine cb W 0 rfl rfl rfl rfl (keq) rfl ?_
    refine sp W 0 rfl rfl rfl (fun b1 => ?_) (fun b1 => ?_)
    · exact absurd rfl b1
    refine sp W 0 rfl rfl rfl (fun b2 => ?_) (fun b2 => ?_)
    · exact absurd rfl b2
    refine cb W 0 rfl rfl rfl rfl (markTm_nil 1) rfl ?_
    refine cb W 0 rfl rfl rfl rfl (kh) rfl ?_
    refine sp W 0 rfl rfl rfl (fun b3 => ?_) (fun b3 => ?_)
    · exfalso; omega
    refine sp W 0 rfl rfl rfl (fun b4 => ?_) (fun b4 => ?_)
    · exact absurd rfl b4
    refine cb W 0 rfl rfl rfl rfl (ki) rfl ?_
    refine cb W 0 rfl rfl rfl rfl (keq) rfl ?_
    refine sp W 0 rfl rfl rfl (fun b5 => ?_) (fun b5 => ?_)
    · exact absurd rfl b5
    refine sp W 0 rfl rfl rfl (fun b6 => ?_) (fun b6 => ?_)
    · exact absurd rfl b6
    refine cb W 0 rfl rfl rfl rfl (kh) rfl ?_
    refine sp W 0 rfl rfl rfl (fun b7 => ?_) (fun b7 => ?_)
    · exfalso; omega
    refine sp W 0 rfl rfl rfl (fun b8 => ?_) (fun b8 => ?_)
    · exact absurd rfl b8
    refine rp W 0 rfl rfl rfl (.yes trivial)
end Pf
