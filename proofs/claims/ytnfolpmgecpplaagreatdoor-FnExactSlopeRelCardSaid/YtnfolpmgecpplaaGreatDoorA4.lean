/- Part 4 of the lemmas that the claim rests on: an abstract machine over the model, what it is sound for, and the contracts of the functions that the law reaches. -/
import Derived.Test.YtnfolpmgecpplaaGreatDoorA3
set_option linter.unusedSimpArgs false
set_option linter.unusedVariables false
set_option maxHeartbeats 4000000
/- Slopes: the layer's slope of a node -/
namespace Pf
open Go Go.Proofs
theorem Pg.x : True := trivial
/-- What a program returns is a place. -/
def Pg.nn : Pg → Prop
  | .ret v => 0 ≤ v
  | .put _ k => ∀ i, 0 ≤ i → (k i).nn
  | .is _ _ k => ∀ t, (k t).nn
open Classical in
theorem runI_nn {P : Pg} (h : P.nn) : ∀ N F, 0 ≤ (runI P N F).1 := by
  induction P with
  | ret v => intro N F; exact h
  | put x k ih =>
    intro N F
    simp only [runI]
    split
    · exact ih _ (h _ (by omega)) _ _
    · split
      · exact ih _ (h _ (by omega)) _ _
      · exact ih _ (h _ (by omega)) _ _
  | is a s k ih => intro N F; simp only [runI]; exact ih _ (h _) _ _
theorem nn_num (s : List UInt8) : (numP s).nn := fun i h => h
theorem nn_neg {a : Int} (h : 0 ≤ a) : (negP a).nn := fun t => by cases t <;> first | exact h | exact fun i h => h
theorem nn_sum {a b : Int} (ha : 0 ≤ a) (hb : 0 ≤ b) : (sumP' a b).nn := fun t => by cases t <;> first | exact hb | (intro t; cases t <;> first | exact ha | exact fun i h => h)
theorem nn_less {a b : Int} (ha : 0 ≤ a) (hb : 0 ≤ b) : (lessP a b).nn := fun t => by cases t <;> first | exact ha | (intro t; cases t <;> first | exact nn_neg hb | exact fun i h => h)
theorem nn_times {a b : Int} (ha : 0 ≤ a) (hb : 0 ≤ b) : (timesP a b).nn := fun t => by cases t <;> first | exact ha | (intro t; cases t <;> first | exact ha | (intro t; cases t <;> first | exact hb | (intro t; cases t <;> first | exact hb | exact fun i h => h)))
theorem nn_by {a b : Int} (ha : 0 ≤ a) (hb : 0 ≤ b) : (byP a b).nn := fun t => by cases t <;> first | exact ha | exact fun i h => h
theorem nn_raised {a : Int} (n : Int) (ha : 0 ≤ a) : (raisedP a n).nn := by unfold raisedP; split; exact ha; exact fun i h => h
/-- The slopes of the parts, by their places. -/
def ofK (K : List Int) (i : Int) : Int := K.getD i.toNat 0
def SlQ (r : Int × List Gn × Bool) (h : Nat) (K : List Int) (u : AV) (H : AHeap) : Prop := ∃ g', u = .int .i64 r.1 ∧ H = LayS r.2.1 r.2.2 g' ++ [.ints h .i64 K]
theorem slope_ok (at' v : Int) (x : Gn) (K : List Int) (N : List Gn) (F : Bool) (g h : Nat) (hN : N.length ≤ 120) (hat : 0 ≤ at') (hK : ∀ i, 0 ≤ K.getD i 0) (hn : 0 ≤ x.n ∧ x.n ≤ 1000000)
    (hpa : 3 ≤ x.k ∧ x.k ≤ 9 → 0 ≤ x.a ∧ x.a < K.length) (hpb : 4 ≤ x.k ∧ x.k ≤ 7 → 0 ≤ x.b ∧ x.b < K.length) : AFun Tryz.prog 48 [.ptr 0 0 0 0, .int .i64 at', gnV x, .int .i64 v, .sl 3 h 0 K.length] (LayS N F g ++ [.ints h .i64 K]) (SlQ (runI (slopeG at' x v (ofK K)) N F) h K) := by
  have hA : 0 ≤ ofK K x.a := hK _
  have hB : 0 ≤ ofK K x.b := hK _
  unfold gnV
  refine AFun.trim 4 ?_ (by simp [LayS])
  refine afun_of Tryz.func48 Tryz.call48 rfl Tryz.ntmps48 rfl ?_
  have W : Walk Tryz.prog TT 48 _ := Walk.of TT_ok Tryz.func48 Tryz.results48
  refine dre W 0 5 [] [] rfl rfl rfl trivial rfl ?_
  unfold slopeG
  refine sp W 0 rfl rfl rfl (fun h1 => ?_) (fun h1 => ?_)
  · rw [if_pos h1]
    refine sp W 0 rfl rfl rfl (fun h2 => ?_) (fun h2 => ?_)
    · rw [if_pos h2]
      obtain ⟨⟨r1, N1, F1⟩, e1⟩ : ∃ q, runI (numP t1) N F = q := ⟨_, rfl⟩
      have c1 : AFun Tryz.prog 74 [.ptr 0 0 0 0, .int .i64 (1)] (LayS N F g) (LayQ (r1, N1, F1)) := by
        have := (show AFun _ _ _ _ (LayQ (runI (numP (Lib.decDigits 1)) N F)) from number_ok (1) N F g (by omega) (by omega) hN)
        rw [dec_small (by omega)] at this
        have this : AFun _ _ _ _ (LayQ (runI (numP t1) N F)) := this
        rw [e1] at this
        exact this
      have hr1 : 0 ≤ r1 := by
        have := runI_nn (P := numP t1) (nn_num _) N F
        rw [e1] at this
        exact this
      have hN1 : N1.length ≤ 120 := by
        have := runI_len (numP t1) N F hN
        rw [e1] at this
        exact this
      refine go_callS W 0 300 [0, 1, 2] rfl (by first | exact True.intro | (simp only [AllC, AllP, addN, Int.toNat_natCast, true_and, and_true, Option.getD, List.length_set, wrapU, pw1, pw7, pw8, pw16, pw23, pw32, pw52, Holds] <;> first | omega | ((repeat' apply And.intro) <;> first | omega | (intros; rfl))) | (simp [AllC, AllP, addN, cloL, clo, mrgL, mrg, wrapU, Holds] <;> omega)) c1 rfl rfl ⟨rfl, fun _ _ => rfl, trivial, trivial⟩ ⟨rfl, rfl, rfl, trivial⟩ rfl ?_
      rintro _ _ ⟨g1, rfl, rfl⟩
      refine ⟨_, _, rfl, rfl, ?_⟩
      rw [e1]
      refine go_retS W 0 300 4 rfl (by first | exact True.intro | (simp only [AllC, AllP, addN, Int.toNat_natCast, true_and, and_true, Option.getD, List.length_set, wrapU, pw1, pw7, pw8, pw16, pw23, pw32, pw52, Holds] <;> first | omega | ((repeat' apply And.intro) <;> first | omega | (intros; rfl))) | (simp [AllC, AllP, addN, cloL, clo, mrgL, mrg, wrapU, Holds] <;> omega)) rfl (by first | exact True.intro | (simp only [AllC, AllP, addN, Int.toNat_natCast, true_and, and_true, Option.getD, List.length_set, wrapU, pw1, pw7, pw8, pw16, pw23, pw32, pw52, Holds] <;> first | omega | ((repeat' apply And.intro) <;> first | omega | (intros; rfl))) | (simp [AllC, AllP, addN, cloL, clo, mrgL, mrg, wrapU, Holds] <;> omega)) (.int .i64 (r1)) .refl rfl ⟨g1, rfl, rfl⟩
    · rw [if_neg h2]
      obtain ⟨⟨r1, N1, F1⟩, e1⟩ : ∃ q, runI (numP t0) N F = q := ⟨_, rfl⟩
      have c1 : AFun Tryz.prog 74 [.ptr 0 0 0 0, .int .i64 (0)] (LayS N F g) (LayQ (r1, N1, F1)) := by
        have := (show AFun _ _ _ _ (LayQ (runI (numP (Lib.decDigits 0)) N F)) from number_ok (0) N F g (by omega) (by omega) hN)
        rw [dec_small (by omega)] at this
        have this : AFun _ _ _ _ (LayQ (runI (numP t0) N F)) := this
        rw [e1] at this
        exact this
      have hr1 : 0 ≤ r1 := by
        have := runI_nn (P := numP t0) (nn_num _) N F
        rw [e1] at this
        exact this
      have hN1 : N1.length ≤ 120 := by
        have := runI_len (numP t0) N F hN
        rw [e1] at this
        exact this
      refine go_callS W 0 300 [0, 1, 2] rfl (by first | exact True.intro | (simp only [AllC, AllP, addN, Int.toNat_natCast, true_and, and_true, Option.getD, List.length_set, wrapU, pw1, pw7, pw8, pw16, pw23, pw32, pw52, Holds] <;> first | omega | ((repeat' apply And.intro) <;> first | omega | (intros; rfl))) | (simp [AllC, AllP, addN, cloL, clo, mrgL, mrg, wrapU, Holds] <;> omega)) c1 rfl rfl ⟨rfl, fun _ _ => rfl, trivial, trivial⟩ ⟨rfl, rfl, rfl, trivial⟩ rfl ?_
      rintro _ _ ⟨g1, rfl, rfl⟩
      refine ⟨_, _, rfl, rfl, ?_⟩
      rw [e1]
      refine go_retS W 0 300 4 rfl (by first | exact True.intro | (simp only [AllC, AllP, addN, Int.toNat_natCast, true_and, and_true, Option.getD, List.length_set, wrapU, pw1, pw7, pw8, pw16, pw23, pw32, pw52, Holds] <;> first | omega | ((repeat' apply And.intro) <;> first | omega | (intros; rfl))) | (simp [AllC, AllP, addN, cloL, clo, mrgL, mrg, wrapU, Holds] <;> omega)) rfl (by first | exact True.intro | (simp only [AllC, AllP, addN, Int.toNat_natCast, true_and, and_true, Option.getD, List.length_set, wrapU, pw1, pw7, pw8, pw16, pw23, pw32, pw52, Holds] <;> first | omega | ((repeat' apply And.intro) <;> first | omega | (intros; rfl))) | (simp [AllC, AllP, addN, cloL, clo, mrgL, mrg, wrapU, Holds] <;> omega)) (.int .i64 (r1)) .refl rfl ⟨g1, rfl, rfl⟩
  rw [if_neg h1]
  refine sp W 0 rfl rfl rfl (fun k3 => ?_) (fun k3 => ?_)
  · rw [if_pos k3]
    have hxa := (hpa (by omega)).1
    have ha2 := (hpa (by omega)).2
    have zA : addN 0 x.a.toNat = x.a.toNat := addNz _
    have zB : addN 0 x.b.toNat = x.b.toNat := addNz _
    obtain ⟨⟨r1, N1, F1⟩, e1⟩ : ∃ q, runI (negP (ofK K x.a)) N F = q := ⟨_, rfl⟩
    have c1 : AFun Tryz.prog 75 [.ptr 0 0 0 0, .int .i64 (K.getD (addN 0 x.a.toNat) 0)] (LayS N F g) (LayQ (r1, N1, F1)) := by
      have := neg_ok (ofK K x.a) N F g hA hN
      rw [e1] at this
      rw [addNz]
      exact this
    have hr1 : 0 ≤ r1 := by
      have := runI_nn (P := negP (ofK K x.a)) (nn_neg hA) N F
      rw [e1] at this
      exact this
    have hN1 : N1.length ≤ 120 := by
      have := runI_len (negP (ofK K x.a)) N F hN
      rw [e1] at this
      exact this
    refine go_callS W 0 300 [0, 1, 2] rfl (by first | exact True.intro | (simp only [AllC, AllP, addN, Int.toNat_natCast, true_and, and_true, Option.getD, List.length_set, wrapU, pw1, pw7, pw8, pw16, pw23, pw32, pw52, Holds] <;> first | omega | ((repeat' apply And.intro) <;> first | omega | (intros; rfl))) | (simp [AllC, AllP, addN, cloL, clo, mrgL, mrg, wrapU, Holds] <;> omega)) c1 rfl rfl ⟨rfl, fun _ _ => rfl, trivial, trivial⟩ ⟨rfl, rfl, rfl, trivial⟩ rfl ?_
    rintro _ _ ⟨g1, rfl, rfl⟩
    refine ⟨_, _, rfl, rfl, ?_⟩
    rw [e1]
    refine go_retS W 0 300 4 rfl (by first | exact True.intro | (simp only [AllC, AllP, addN, Int.toNat_natCast, true_and, and_true, Option.getD, List.length_set, wrapU, pw1, pw7, pw8, pw16, pw23, pw32, pw52, Holds] <;> first | omega | ((repeat' apply And.intro) <;> first | omega | (intros; rfl))) | (simp [AllC, AllP, addN, cloL, clo, mrgL, mrg, wrapU, Holds] <;> omega)) rfl (by first | exact True.intro | (simp only [AllC, AllP, addN, Int.toNat_natCast, true_and, and_true, Option.getD, List.length_set, wrapU, pw1, pw7, pw8, pw16, pw23, pw32, pw52, Holds] <;> first | omega | ((repeat' apply And.intro) <;> first | omega | (intros; rfl))) | (simp [AllC, AllP, addN, cloL, clo, mrgL, mrg, wrapU, Holds] <;> omega)) (.int .i64 (r1)) .refl rfl ⟨g1, rfl, rfl⟩
  rw [if_neg k3]
  refine sp W 0 rfl rfl rfl (fun k4 => ?_) (fun k4 => ?_)
  · rw [if_pos k4]
    have hxa := (hpa (by omega)).1
    have hxb := (hpb (by omega)).1
    have hb2 := (hpb (by omega)).2
    have ha2 := (hpa (by omega)).2
    have zA : addN 0 x.a.toNat = x.a.toNat := addNz _
    have zB : addN 0 x.b.toNat = x.b.toNat := addNz _
    obtain ⟨⟨r1, N1, F1⟩, e1⟩ : ∃ q, runI (sumP' (ofK K x.a) (ofK K x.b)) N F = q := ⟨_, rfl⟩
    have c1 : AFun Tryz.prog 76 [.ptr 0 0 0 0, .int .i64 (K.getD (addN 0 x.a.toNat) 0), .int .i64 (K.getD (addN 0 x.b.toNat) 0)] (LayS N F g) (LayQ (r1, N1, F1)) := by
      have := sum_ok (ofK K x.a) (ofK K x.b) N F g hA hB hN
      rw [e1] at this
      rw [addNz, addNz]
      exact this
    have hr1 : 0 ≤ r1 := by
      have := runI_nn (P := sumP' (ofK K x.a) (ofK K x.b)) (nn_sum hA hB) N F
      rw [e1] at this
      exact this
    have hN1 : N1.length ≤ 120 := by
      have := runI_len (sumP' (ofK K x.a) (ofK K x.b)) N F hN
      rw [e1] at this
      exact this
    refine dre W 0 9 [] [] rfl rfl rfl trivial rfl ?_ (hp := by simp only [AllP, Holds, Option.getD, true_and, and_true]; omega)
    refine go_callS W 0 300 [0, 1, 2] rfl (by first | exact True.intro | (simp only [AllC, AllP, addN, Int.toNat_natCast, true_and, and_true, Option.getD, List.length_set, wrapU, pw1, pw7, pw8, pw16, pw23, pw32, pw52, Holds] <;> first | omega | ((repeat' apply And.intro) <;> first | omega | (intros; rfl))) | (simp [AllC, AllP, addN, cloL, clo, mrgL, mrg, wrapU, Holds] <;> omega)) c1 rfl rfl ⟨rfl, fun _ _ => rfl, trivial, trivial⟩ ⟨rfl, rfl, rfl, trivial⟩ rfl ?_
    rintro _ _ ⟨g1, rfl, rfl⟩
    refine ⟨_, _, rfl, rfl, ?_⟩
    rw [e1]
    refine go_retS W 0 300 4 rfl (by first | exact True.intro | (simp only [AllC, AllP, addN, Int.toNat_natCast, true_and, and_true, Option.getD, List.length_set, wrapU, pw1, pw7, pw8, pw16, pw23, pw32, pw52, Holds] <;> first | omega | ((repeat' apply And.intro) <;> first | omega | (intros; rfl))) | (simp [AllC, AllP, addN, cloL, clo, mrgL, mrg, wrapU, Holds] <;> omega)) rfl (by first | exact True.intro | (simp only [AllC, AllP, addN, Int.toNat_natCast, true_and, and_true, Option.getD, List.length_set, wrapU, pw1, pw7, pw8, pw16, pw23, pw32, pw52, Holds] <;> first | omega | ((repeat' apply And.intro) <;> first | omega | (intros; rfl))) | (simp [AllC, AllP, addN, cloL, clo, mrgL, mrg, wrapU, Holds] <;> omega)) (.int .i64 (r1)) .refl rfl ⟨g1, rfl, rfl⟩
  rw [if_neg k4]
  refine sp W 0 rfl rfl rfl (fun k5 => ?_) (fun k5 => ?_)
  · rw [if_pos k5]
    have hxa := (hpa (by omega)).1
    have hxb := (hpb (by omega)).1
    have hb2 := (hpb (by omega)).2
    have ha2 := (hpa (by omega)).2
    have zA : addN 0 x.a.toNat = x.a.toNat := addNz _
    have zB : addN 0 x.b.toNat = x.b.toNat := addNz _
    obtain ⟨⟨r1, N1, F1⟩, e1⟩ : ∃ q, runI (lessP (ofK K x.a) (ofK K x.b)) N F = q := ⟨_, rfl⟩
    have c1 : AFun Tryz.prog 77 [.ptr 0 0 0 0, .int .i64 (K.getD (addN 0 x.a.toNat) 0), .int .i64 (K.getD (addN 0 x.b.toNat) 0)] (LayS N F g) (LayQ (r1, N1, F1)) := by
      have := less_ok (ofK K x.a) (ofK K x.b) N F g hA hB hN
      rw [e1] at this
      rw [addNz, addNz]
      exact this
    have hr1 : 0 ≤ r1 := by
      have := runI_nn (P := lessP (ofK K x.a) (ofK K x.b)) (nn_less hA hB) N F
      rw [e1] at this
      exact this
    have hN1 : N1.length ≤ 120 := by
      have := runI_len (lessP (ofK K x.a) (ofK K x.b)) N F hN
      rw [e1] at this
      exact this
    refine dre W 0 9 [] [] rfl rfl rfl trivial rfl ?_ (hp := by simp only [AllP, Holds, Option.getD, true_and, and_true]; omega)
    refine go_callS W 0 300 [0, 1, 2] rfl (by first | exact True.intro | (simp only [AllC, AllP, addN, Int.toNat_natCast, true_and, and_true, Option.getD, List.length_set, wrapU, pw1, pw7, pw8, pw16, pw23, pw32, pw52, Holds] <;> first | omega | ((repeat' apply And.intro) <;> first | omega | (intros; rfl))) | (simp [AllC, AllP, addN, cloL, clo, mrgL, mrg, wrapU, Holds] <;> omega)) c1 rfl rfl ⟨rfl, fun _ _ => rfl, trivial, trivial⟩ ⟨rfl, rfl, rfl, trivial⟩ rfl ?_
    rintro _ _ ⟨g1, rfl, rfl⟩
    refine ⟨_, _, rfl, rfl, ?_⟩
    rw [e1]
    refine go_retS W 0 300 4 rfl (by first | exact True.intro | (simp only [AllC, AllP, addN, Int.toNat_natCast, true_and, and_true, Option.getD, List.length_set, wrapU, pw1, pw7, pw8, pw16, pw23, pw32, pw52, Holds] <;> first | omega | ((repeat' apply And.intro) <;> first | omega | (intros; rfl))) | (simp [AllC, AllP, addN, cloL, clo, mrgL, mrg, wrapU, Holds] <;> omega)) rfl (by first | exact True.intro | (simp only [AllC, AllP, addN, Int.toNat_natCast, true_and, and_true, Option.getD, List.length_set, wrapU, pw1, pw7, pw8, pw16, pw23, pw32, pw52, Holds] <;> first | omega | ((repeat' apply And.intro) <;> first | omega | (intros; rfl))) | (simp [AllC, AllP, addN, cloL, clo, mrgL, mrg, wrapU, Holds] <;> omega)) (.int .i64 (r1)) .refl rfl ⟨g1, rfl, rfl⟩
  rw [if_neg k5]
  refine sp W 0 rfl rfl rfl (fun k6 => ?_) (fun k6 => ?_)
  · rw [if_pos k6]
    have hxa := (hpa (by omega)).1
    have hxb := (hpb (by omega)).1
    have hb2 := (hpb (by omega)).2
    have ha2 := (hpa (by omega)).2
    have zA : addN 0 x.a.toNat = x.a.toNat := addNz _
    have zB : addN 0 x.b.toNat = x.b.toNat := addNz _
    obtain ⟨⟨r1, N1, F1⟩, e1⟩ : ∃ q, runI (timesP (ofK K x.a) (x.b)) N F = q := ⟨_, rfl⟩
    have c1 : AFun Tryz.prog 78 [.ptr 0 0 0 0, .int .i64 (K.getD (addN 0 x.a.toNat) 0), .int .i64 (x.b)] (LayS N F g) (LayQ (r1, N1, F1)) := by
      have := times_ok (ofK K x.a) (x.b) N F g hA hxb hN
      rw [e1] at this
      rw [addNz]
      exact this
    have hr1 : 0 ≤ r1 := by
      have := runI_nn (P := timesP (ofK K x.a) (x.b)) (nn_times hA hxb) N F
      rw [e1] at this
      exact this
    have hN1 : N1.length ≤ 120 := by
      have := runI_len (timesP (ofK K x.a) (x.b)) N F hN
      rw [e1] at this
      exact this
    refine go_callS W 0 300 [0, 1, 2] rfl (by first | exact True.intro | (simp only [AllC, AllP, addN, Int.toNat_natCast, true_and, and_true, Option.getD, List.length_set, wrapU, pw1, pw7, pw8, pw16, pw23, pw32, pw52, Holds] <;> first | omega | ((repeat' apply And.intro) <;> first | omega | (intros; rfl))) | (simp [AllC, AllP, addN, cloL, clo, mrgL, mrg, wrapU, Holds] <;> omega)) c1 rfl rfl ⟨rfl, fun _ _ => rfl, trivial, trivial⟩ ⟨rfl, rfl, rfl, trivial⟩ rfl ?_
    rintro _ _ ⟨g1, rfl, rfl⟩
    refine ⟨_, _, rfl, rfl, ?_⟩
    rw [runI_bind, e1]
    dsimp only
    obtain ⟨⟨r2, N2, F2⟩, e2⟩ : ∃ q, runI (timesP (x.a) (ofK K x.b)) N1 F1 = q := ⟨_, rfl⟩
    have c2 : AFun Tryz.prog 78 [.ptr 0 0 0 0, .int .i64 (x.a), .int .i64 (K.getD (addN 0 x.b.toNat) 0)] (LayS N1 F1 g1) (LayQ (r2, N2, F2)) := by
      have := times_ok (x.a) (ofK K x.b) N1 F1 g1 hxa hB hN1
      rw [e2] at this
      rw [addNz]
      exact this
    have hr2 : 0 ≤ r2 := by
      have := runI_nn (P := timesP (x.a) (ofK K x.b)) (nn_times hxa hB) N1 F1
      rw [e2] at this
      exact this
    have hN2 : N2.length ≤ 120 := by
      have := runI_len (timesP (x.a) (ofK K x.b)) N1 F1 hN1
      rw [e2] at this
      exact this
    refine go_callS W 0 300 [0, 1, 2] rfl (by first | exact True.intro | (simp only [AllC, AllP, addN, Int.toNat_natCast, true_and, and_true, Option.getD, List.length_set, wrapU, pw1, pw7, pw8, pw16, pw23, pw32, pw52, Holds] <;> first | omega | ((repeat' apply And.intro) <;> first | omega | (intros; rfl))) | (simp [AllC, AllP, addN, cloL, clo, mrgL, mrg, wrapU, Holds] <;> omega)) c2 rfl rfl ⟨rfl, fun _ _ => rfl, trivial, trivial⟩ ⟨rfl, rfl, rfl, trivial⟩ rfl ?_
    rintro _ _ ⟨g2, rfl, rfl⟩
    refine ⟨_, _, rfl, rfl, ?_⟩
    rw [runI_bind, e2]
    dsimp only
    obtain ⟨⟨r3, N3, F3⟩, e3⟩ : ∃ q, runI (sumP' (r1) (r2)) N2 F2 = q := ⟨_, rfl⟩
    have c3 : AFun Tryz.prog 76 [.ptr 0 0 0 0, .int .i64 (r1), .int .i64 (r2)] (LayS N2 F2 g2) (LayQ (r3, N3, F3)) := by
      have := sum_ok (r1) (r2) N2 F2 g2 hr1 hr2 hN2
      rw [e3] at this
      exact this
    have hr3 : 0 ≤ r3 := by
      have := runI_nn (P := sumP' (r1) (r2)) (nn_sum hr1 hr2) N2 F2
      rw [e3] at this
      exact this
    have hN3 : N3.length ≤ 120 := by
      have := runI_len (sumP' (r1) (r2)) N2 F2 hN2
      rw [e3] at this
      exact this
    refine go_callS W 0 300 [0, 1, 2] rfl (by first | exact True.intro | (simp only [AllC, AllP, addN, Int.toNat_natCast, true_and, and_true, Option.getD, List.length_set, wrapU, pw1, pw7, pw8, pw16, pw23, pw32, pw52, Holds] <;> first | omega | ((repeat' apply And.intro) <;> first | omega | (intros; rfl))) | (simp [AllC, AllP, addN, cloL, clo, mrgL, mrg, wrapU, Holds] <;> omega)) c3 rfl rfl ⟨rfl, fun _ _ => rfl, trivial, trivial⟩ ⟨rfl, rfl, rfl, trivial⟩ rfl ?_
    rintro _ _ ⟨g3, rfl, rfl⟩
    refine ⟨_, _, rfl, rfl, ?_⟩
    rw [e3]
    refine go_retS W 0 300 4 rfl (by first | exact True.intro | (simp only [AllC, AllP, addN, Int.toNat_natCast, true_and, and_true, Option.getD, List.length_set, wrapU, pw1, pw7, pw8, pw16, pw23, pw32, pw52, Holds] <;> first | omega | ((repeat' apply And.intro) <;> first | omega | (intros; rfl))) | (simp [AllC, AllP, addN, cloL, clo, mrgL, mrg, wrapU, Holds] <;> omega)) rfl (by first | exact True.intro | (simp only [AllC, AllP, addN, Int.toNat_natCast, true_and, and_true, Option.getD, List.length_set, wrapU, pw1, pw7, pw8, pw16, pw23, pw32, pw52, Holds] <;> first | omega | ((repeat' apply And.intro) <;> first | omega | (intros; rfl))) | (simp [AllC, AllP, addN, cloL, clo, mrgL, mrg, wrapU, Holds] <;> omega)) (.int .i64 (r3)) .refl rfl ⟨g3, rfl, rfl⟩
  rw [if_neg k6]
  refine sp W 0 rfl rfl rfl (fun k7 => ?_) (fun k7 => ?_)
  · rw [if_pos k7]
    have hxa := (hpa (by omega)).1
    have hxb := (hpb (by omega)).1
    have hb2 := (hpb (by omega)).2
    have ha2 := (hpa (by omega)).2
    have zA : addN 0 x.a.toNat = x.a.toNat := addNz _
    have zB : addN 0 x.b.toNat = x.b.toNat := addNz _
    obtain ⟨⟨r1, N1, F1⟩, e1⟩ : ∃ q, runI (timesP (ofK K x.a) (x.b)) N F = q := ⟨_, rfl⟩
    have c1 : AFun Tryz.prog 78 [.ptr 0 0 0 0, .int .i64 (K.getD (addN 0 x.a.toNat) 0), .int .i64 (x.b)] (LayS N F g) (LayQ (r1, N1, F1)) := by
      have := times_ok (ofK K x.a) (x.b) N F g hA hxb hN
      rw [e1] at this
      rw [addNz]
      exact this
    have hr1 : 0 ≤ r1 := by
      have := runI_nn (P := timesP (ofK K x.a) (x.b)) (nn_times hA hxb) N F
      rw [e1] at this
      exact this
    have hN1 : N1.length ≤ 120 := by
      have := runI_len (timesP (ofK K x.a) (x.b)) N F hN
      rw [e1] at this
      exact this
    refine go_callS W 0 300 [0, 1, 2] rfl (by first | exact True.intro | (simp only [AllC, AllP, addN, Int.toNat_natCast, true_and, and_true, Option.getD, List.length_set, wrapU, pw1, pw7, pw8, pw16, pw23, pw32, pw52, Holds] <;> first | omega | ((repeat' apply And.intro) <;> first | omega | (intros; rfl))) | (simp [AllC, AllP, addN, cloL, clo, mrgL, mrg, wrapU, Holds] <;> omega)) c1 rfl rfl ⟨rfl, fun _ _ => rfl, trivial, trivial⟩ ⟨rfl, rfl, rfl, trivial⟩ rfl ?_
    rintro _ _ ⟨g1, rfl, rfl⟩
    refine ⟨_, _, rfl, rfl, ?_⟩
    rw [runI_bind, e1]
    dsimp only
    obtain ⟨⟨r2, N2, F2⟩, e2⟩ : ∃ q, runI (timesP (x.a) (ofK K x.b)) N1 F1 = q := ⟨_, rfl⟩
    have c2 : AFun Tryz.prog 78 [.ptr 0 0 0 0, .int .i64 (x.a), .int .i64 (K.getD (addN 0 x.b.toNat) 0)] (LayS N1 F1 g1) (LayQ (r2, N2, F2)) := by
      have := times_ok (x.a) (ofK K x.b) N1 F1 g1 hxa hB hN1
      rw [e2] at this
      rw [addNz]
      exact this
    have hr2 : 0 ≤ r2 := by
      have := runI_nn (P := timesP (x.a) (ofK K x.b)) (nn_times hxa hB) N1 F1
      rw [e2] at this
      exact this
    have hN2 : N2.length ≤ 120 := by
      have := runI_len (timesP (x.a) (ofK K x.b)) N1 F1 hN1
      rw [e2] at this
      exact this
    refine go_callS W 0 300 [0, 1, 2] rfl (by first | exact True.intro | (simp only [AllC, AllP, addN, Int.toNat_natCast, true_and, and_true, Option.getD, List.length_set, wrapU, pw1, pw7, pw8, pw16, pw23, pw32, pw52, Holds] <;> first | omega | ((repeat' apply And.intro) <;> first | omega | (intros; rfl))) | (simp [AllC, AllP, addN, cloL, clo, mrgL, mrg, wrapU, Holds] <;> omega)) c2 rfl rfl ⟨rfl, fun _ _ => rfl, trivial, trivial⟩ ⟨rfl, rfl, rfl, trivial⟩ rfl ?_
    rintro _ _ ⟨g2, rfl, rfl⟩
    refine ⟨_, _, rfl, rfl, ?_⟩
    rw [runI_bind, e2]
    dsimp only
    obtain ⟨⟨r3, N3, F3⟩, e3⟩ : ∃ q, runI (lessP (r1) (r2)) N2 F2 = q := ⟨_, rfl⟩
    have c3 : AFun Tryz.prog 77 [.ptr 0 0 0 0, .int .i64 (r1), .int .i64 (r2)] (LayS N2 F2 g2) (LayQ (r3, N3, F3)) := by
      have := less_ok (r1) (r2) N2 F2 g2 hr1 hr2 hN2
      rw [e3] at this
      exact this
    have hr3 : 0 ≤ r3 := by
      have := runI_nn (P := lessP (r1) (r2)) (nn_less hr1 hr2) N2 F2
      rw [e3] at this
      exact this
    have hN3 : N3.length ≤ 120 := by
      have := runI_len (lessP (r1) (r2)) N2 F2 hN2
      rw [e3] at this
      exact this
    refine go_callS W 0 300 [0, 1, 2] rfl (by first | exact True.intro | (simp only [AllC, AllP, addN, Int.toNat_natCast, true_and, and_true, Option.getD, List.length_set, wrapU, pw1, pw7, pw8, pw16, pw23, pw32, pw52, Holds] <;> first | omega | ((repeat' apply And.intro) <;> first | omega | (intros; rfl))) | (simp [AllC, AllP, addN, cloL, clo, mrgL, mrg, wrapU, Holds] <;> omega)) c3 rfl rfl ⟨rfl, fun _ _ => rfl, trivial, trivial⟩ ⟨rfl, rfl, rfl, trivial⟩ rfl ?_
    rintro _ _ ⟨g3, rfl, rfl⟩
    refine ⟨_, _, rfl, rfl, ?_⟩
    rw [runI_bind, e3]
    dsimp only
    have ci3 : AFun Tryz.prog 79 [.ptr 0 0 0 0, .int .i64 (r3), .str t0] (LayS N3 F3 g3) (fun u H => u = .pr ((r3) < N3.length ∧ N3.getD (r3).toNat g0 = numG t0) ∧ H = LayS N3 F3 g3) := by
      have := is_ok (r3) t0 N3 F3 g3 hr3 hN3
      exact this
    refine go_callS W 0 300 [0, 1, 2] rfl (by first | exact True.intro | (simp only [AllC, AllP, addN, Int.toNat_natCast, true_and, and_true, Option.getD, List.length_set, wrapU, pw1, pw7, pw8, pw16, pw23, pw32, pw52, Holds] <;> first | omega | ((repeat' apply And.intro) <;> first | omega | (intros; rfl))) | (simp [AllC, AllP, addN, cloL, clo, mrgL, mrg, wrapU, Holds] <;> omega)) ci3 rfl rfl ⟨rfl, fun _ _ => rfl, trivial, trivial⟩ ⟨rfl, rfl, rfl, trivial⟩ rfl ?_
    rintro _ _ ⟨rfl, rfl⟩
    refine ⟨_, _, rfl, rfl, ?_⟩
    refine sp W 0 rfl rfl rfl (fun y3 => ?_) (fun y3 => ?_)
    · rw [runI_t y3]
      refine go_retS W 0 300 4 rfl (by first | exact True.intro | (simp only [AllC, AllP, addN, Int.toNat_natCast, true_and, and_true, Option.getD, List.length_set, wrapU, pw1, pw7, pw8, pw16, pw23, pw32, pw52, Holds] <;> first | omega | ((repeat' apply And.intro) <;> first | omega | (intros; rfl))) | (simp [AllC, AllP, addN, cloL, clo, mrgL, mrg, wrapU, Holds] <;> omega)) rfl (by first | exact True.intro | (simp only [AllC, AllP, addN, Int.toNat_natCast, true_and, and_true, Option.getD, List.length_set, wrapU, pw1, pw7, pw8, pw16, pw23, pw32, pw52, Holds] <;> first | omega | ((repeat' apply And.intro) <;> first | omega | (intros; rfl))) | (simp [AllC, AllP, addN, cloL, clo, mrgL, mrg, wrapU, Holds] <;> omega)) (.int .i64 (r3)) .refl rfl ⟨g3, rfl, rfl⟩
    · rw [runI_f y3]
      obtain ⟨⟨r4, N4, F4⟩, e4⟩ : ∃ q, runI (raisedP (x.b) (2)) N3 F3 = q := ⟨_, rfl⟩
      have c4 : AFun Tryz.prog 81 [.ptr 0 0 0 0, .int .i64 (x.b), .int .i64 (2)] (LayS N3 F3 g3) (LayQ (r4, N4, F4)) := by
        have := raised_ok (x.b) (2) N3 F3 g3 hN3
        rw [e4] at this
        exact this
      have hr4 : 0 ≤ r4 := by
        have := runI_nn (P := raisedP (x.b) (2)) (nn_raised _ hxb) N3 F3
        rw [e4] at this
        exact this
      have hN4 : N4.length ≤ 120 := by
        have := runI_len (raisedP (x.b) (2)) N3 F3 hN3
        rw [e4] at this
        exact this
      refine go_callS W 0 300 [0, 1, 2] rfl (by first | exact True.intro | (simp only [AllC, AllP, addN, Int.toNat_natCast, true_and, and_true, Option.getD, List.length_set, wrapU, pw1, pw7, pw8, pw16, pw23, pw32, pw52, Holds] <;> first | omega | ((repeat' apply And.intro) <;> first | omega | (intros; rfl))) | (simp [AllC, AllP, addN, cloL, clo, mrgL, mrg, wrapU, Holds] <;> omega)) c4 rfl rfl ⟨rfl, fun _ _ => rfl, trivial, trivial⟩ ⟨rfl, rfl, rfl, trivial⟩ rfl ?_
      rintro _ _ ⟨g4, rfl, rfl⟩
      refine ⟨_, _, rfl, rfl, ?_⟩
      rw [runI_bind, e4]
      dsimp only
      obtain ⟨⟨r5, N5, F5⟩, e5⟩ : ∃ q, runI (byP (r3) (r4)) N4 F4 = q := ⟨_, rfl⟩
      have c5 : AFun Tryz.prog 80 [.ptr 0 0 0 0, .int .i64 (r3), .int .i64 (r4)] (LayS N4 F4 g4) (LayQ (r5, N5, F5)) := by
        have := by_ok (r3) (r4) N4 F4 g4 hr3 hr4 hN4
        rw [e5] at this
        exact this
      have hr5 : 0 ≤ r5 := by
        have := runI_nn (P := byP (r3) (r4)) (nn_by hr3 hr4) N4 F4
        rw [e5] at this
        exact this
      have hN5 : N5.length ≤ 120 := by
        have := runI_len (byP (r3) (r4)) N4 F4 hN4
        rw [e5] at this
        exact this
      refine go_callS W 0 300 [0, 1, 2] rfl (by first | exact True.intro | (simp only [AllC, AllP, addN, Int.toNat_natCast, true_and, and_true, Option.getD, List.length_set, wrapU, pw1, pw7, pw8, pw16, pw23, pw32, pw52, Holds] <;> first | omega | ((repeat' apply And.intro) <;> first | omega | (intros; rfl))) | (simp [AllC, AllP, addN, cloL, clo, mrgL, mrg, wrapU, Holds] <;> omega)) c5 rfl rfl ⟨rfl, fun _ _ => rfl, trivial, trivial⟩ ⟨rfl, rfl, rfl, trivial⟩ rfl ?_
      rintro _ _ ⟨g5, rfl, rfl⟩
      refine ⟨_, _, rfl, rfl, ?_⟩
      rw [e5]
      refine go_retS W 0 300 4 rfl (by first | exact True.intro | (simp only [AllC, AllP, addN, Int.toNat_natCast, true_and, and_true, Option.getD, List.length_set, wrapU, pw1, pw7, pw8, pw16, pw23, pw32, pw52, Holds] <;> first | omega | ((repeat' apply And.intro) <;> first | omega | (intros; rfl))) | (simp [AllC, AllP, addN, cloL, clo, mrgL, mrg, wrapU, Holds] <;> omega)) rfl (by first | exact True.intro | (simp only [AllC, AllP, addN, Int.toNat_natCast, true_and, and_true, Option.getD, List.length_set, wrapU, pw1, pw7, pw8, pw16, pw23, pw32, pw52, Holds] <;> first | omega | ((repeat' apply And.intro) <;> first | omega | (intros; rfl))) | (simp [AllC, AllP, addN, cloL, clo, mrgL, mrg, wrapU, Holds] <;> omega)) (.int .i64 (r5)) .refl rfl ⟨g5, rfl, rfl⟩
  rw [if_neg k7]
  refine sp W 0 rfl rfl rfl (fun k8 => ?_) (fun k8 => ?_)
  · rw [if_pos k8]
    have hxa := (hpa (by omega)).1
    have ha2 := (hpa (by omega)).2
    have zA : addN 0 x.a.toNat = x.a.toNat := addNz _
    have zB : addN 0 x.b.toNat = x.b.toNat := addNz _
    refine sp W 0 rfl rfl rfl (fun w1 => ?_) (fun w1 => ?_)
    · rw [if_pos w1]
      obtain ⟨⟨r1, N1, F1⟩, e1⟩ : ∃ q, runI (numP t0) N F = q := ⟨_, rfl⟩
      have c1 : AFun Tryz.prog 74 [.ptr 0 0 0 0, .int .i64 (0)] (LayS N F g) (LayQ (r1, N1, F1)) := by
        have := (show AFun _ _ _ _ (LayQ (runI (numP (Lib.decDigits 0)) N F)) from number_ok (0) N F g (by omega) (by omega) hN)
        rw [dec_small (by omega)] at this
        have this : AFun _ _ _ _ (LayQ (runI (numP t0) N F)) := this
        rw [e1] at this
        exact this
      have hr1 : 0 ≤ r1 := by
        have := runI_nn (P := numP t0) (nn_num _) N F
        rw [e1] at this
        exact this
      have hN1 : N1.length ≤ 120 := by
        have := runI_len (numP t0) N F hN
        rw [e1] at this
        exact this
      refine go_callS W 0 300 [0, 1, 2] rfl (by first | exact True.intro | (simp only [AllC, AllP, addN, Int.toNat_natCast, true_and, and_true, Option.getD, List.length_set, wrapU, pw1, pw7, pw8, pw16, pw23, pw32, pw52, Holds] <;> first | omega | ((repeat' apply And.intro) <;> first | omega | (intros; rfl))) | (simp [AllC, AllP, addN, cloL, clo, mrgL, mrg, wrapU, Holds] <;> omega)) c1 rfl rfl ⟨rfl, fun _ _ => rfl, trivial, trivial⟩ ⟨rfl, rfl, rfl, trivial⟩ rfl ?_
      rintro _ _ ⟨g1, rfl, rfl⟩
      refine ⟨_, _, rfl, rfl, ?_⟩
      rw [e1]
      refine go_retS W 0 300 4 rfl (by first | exact True.intro | (simp only [AllC, AllP, addN, Int.toNat_natCast, true_and, and_true, Option.getD, List.length_set, wrapU, pw1, pw7, pw8, pw16, pw23, pw32, pw52, Holds] <;> first | omega | ((repeat' apply And.intro) <;> first | omega | (intros; rfl))) | (simp [AllC, AllP, addN, cloL, clo, mrgL, mrg, wrapU, Holds] <;> omega)) rfl (by first | exact True.intro | (simp only [AllC, AllP, addN, Int.toNat_natCast, true_and, and_true, Option.getD, List.length_set, wrapU, pw1, pw7, pw8, pw16, pw23, pw32, pw52, Holds] <;> first | omega | ((repeat' apply And.intro) <;> first | omega | (intros; rfl))) | (simp [AllC, AllP, addN, cloL, clo, mrgL, mrg, wrapU, Holds] <;> omega)) (.int .i64 (r1)) .refl rfl ⟨g1, rfl, rfl⟩
    rw [if_neg w1]
    refine sp W 0 rfl rfl rfl (fun w2 => ?_) (fun w2 => ?_)
    · rw [if_pos w2]
      refine go_retS W 0 300 4 rfl (by first | exact True.intro | (simp only [AllC, AllP, addN, Int.toNat_natCast, true_and, and_true, Option.getD, List.length_set, wrapU, pw1, pw7, pw8, pw16, pw23, pw32, pw52, Holds] <;> first | omega | ((repeat' apply And.intro) <;> first | omega | (intros; rfl))) | (simp [AllC, AllP, addN, cloL, clo, mrgL, mrg, wrapU, Holds] <;> omega)) rfl (by first | exact True.intro | (simp only [AllC, AllP, addN, Int.toNat_natCast, true_and, and_true, Option.getD, List.length_set, wrapU, pw1, pw7, pw8, pw16, pw23, pw32, pw52, Holds] <;> first | omega | ((repeat' apply And.intro) <;> first | omega | (intros; rfl))) | (simp [AllC, AllP, addN, cloL, clo, mrgL, mrg, wrapU, Holds] <;> omega)) (.int .i64 (ofK K x.a)) (.int (by rw [addNz]; rfl)) rfl ⟨g, rfl, rfl⟩
    rw [if_neg w2]
    have ci0 : AFun Tryz.prog 79 [.ptr 0 0 0 0, .int .i64 (K.getD (addN 0 x.a.toNat) 0), .str t0] (LayS N F g) (fun u H => u = .pr ((ofK K x.a) < N.length ∧ N.getD (ofK K x.a).toNat g0 = numG t0) ∧ H = LayS N F g) := by
      have := is_ok (ofK K x.a) t0 N F g hA hN
      rw [addNz]
      exact this
    refine go_callS W 0 300 [0, 1, 2] rfl (by first | exact True.intro | (simp only [AllC, AllP, addN, Int.toNat_natCast, true_and, and_true, Option.getD, List.length_set, wrapU, pw1, pw7, pw8, pw16, pw23, pw32, pw52, Holds] <;> first | omega | ((repeat' apply And.intro) <;> first | omega | (intros; rfl))) | (simp [AllC, AllP, addN, cloL, clo, mrgL, mrg, wrapU, Holds] <;> omega)) ci0 rfl rfl ⟨rfl, fun _ _ => rfl, trivial, trivial⟩ ⟨rfl, rfl, rfl, trivial⟩ rfl ?_
    rintro _ _ ⟨rfl, rfl⟩
    refine ⟨_, _, rfl, rfl, ?_⟩
    refine sp W 0 rfl rfl rfl (fun y0 => ?_) (fun y0 => ?_)
    · rw [runI_t y0]
      refine go_retS W 0 300 4 rfl (by first | exact True.intro | (simp only [AllC, AllP, addN, Int.toNat_natCast, true_and, and_true, Option.getD, List.length_set, wrapU, pw1, pw7, pw8, pw16, pw23, pw32, pw52, Holds] <;> first | omega | ((repeat' apply And.intro) <;> first | omega | (intros; rfl))) | (simp [AllC, AllP, addN, cloL, clo, mrgL, mrg, wrapU, Holds] <;> omega)) rfl (by first | exact True.intro | (simp only [AllC, AllP, addN, Int.toNat_natCast, true_and, and_true, Option.getD, List.length_set, wrapU, pw1, pw7, pw8, pw16, pw23, pw32, pw52, Holds] <;> first | omega | ((repeat' apply And.intro) <;> first | omega | (intros; rfl))) | (simp [AllC, AllP, addN, cloL, clo, mrgL, mrg, wrapU, Holds] <;> omega)) (.int .i64 (ofK K x.a)) (.int (by rw [addNz]; rfl)) rfl ⟨g, rfl, rfl⟩
    · rw [runI_f y0]
      obtain ⟨⟨r1, N1, F1⟩, e1⟩ : ∃ q, runI (numP (Lib.decDigits (x.n).toNat)) N F = q := ⟨_, rfl⟩
      have c1 : AFun Tryz.prog 74 [.ptr 0 0 0 0, .int .i64 (x.n)] (LayS N F g) (LayQ (r1, N1, F1)) := by
        have := number_ok (x.n) N F g (by omega) (by omega) hN
        rw [e1] at this
        exact this
      have hr1 : 0 ≤ r1 := by
        have := runI_nn (P := numP (Lib.decDigits (x.n).toNat)) (nn_num _) N F
        rw [e1] at this
        exact this
      have hN1 : N1.length ≤ 120 := by
        have := runI_len (numP (Lib.decDigits (x.n).toNat)) N F hN
        rw [e1] at this
        exact this
      refine go_callS W 0 300 [0, 1, 2] rfl (by first | exact True.intro | (simp only [AllC, AllP, addN, Int.toNat_natCast, true_and, and_true, Option.getD, List.length_set, wrapU, pw1, pw7, pw8, pw16, pw23, pw32, pw52, Holds] <;> first | omega | ((repeat' apply And.intro) <;> first | omega | (intros; rfl))) | (simp [AllC, AllP, addN, cloL, clo, mrgL, mrg, wrapU, Holds] <;> omega)) c1 rfl rfl ⟨rfl, fun _ _ => rfl, trivial, trivial⟩ ⟨rfl, rfl, rfl, trivial⟩ rfl ?_
      rintro _ _ ⟨g1, rfl, rfl⟩
      refine ⟨_, _, rfl, rfl, ?_⟩
      rw [runI_bind, e1]
      dsimp only
      obtain ⟨⟨r2, N2, F2⟩, e2⟩ : ∃ q, runI (raisedP (x.a) (x.n - 1)) N1 F1 = q := ⟨_, rfl⟩
      have c2 : AFun Tryz.prog 81 [.ptr 0 0 0 0, .int .i64 (x.a), .int .i64 (x.n - 1)] (LayS N1 F1 g1) (LayQ (r2, N2, F2)) := by
        have := raised_ok (x.a) (x.n - 1) N1 F1 g1 hN1
        rw [e2] at this
        exact this
      have hr2 : 0 ≤ r2 := by
        have := runI_nn (P := raisedP (x.a) (x.n - 1)) (nn_raised _ hxa) N1 F1
        rw [e2] at this
        exact this
      have hN2 : N2.length ≤ 120 := by
        have := runI_len (raisedP (x.a) (x.n - 1)) N1 F1 hN1
        rw [e2] at this
        exact this
      refine phg W 0 14 [8, 9] rfl rfl (fun PW => ?_)
      refine phl PW 0 [8] [] [] rfl rfl trivial ⟨?_, trivial⟩ (hp := by simp only [AllP, Holds, Option.getD, true_and, and_true]; omega)
      refine nx_call PW rfl (AFun.sub (ρ := [0, 1, 2]) c2 rfl ⟨rfl, fun _ _ => rfl, trivial, trivial⟩ ⟨rfl, rfl, rfl, trivial⟩ (by decide)) ?_
      rintro _ _ ⟨_, _, ⟨g2, rfl, rfl⟩, rfl, hl2⟩
      obtain rfl := Option.some.inj (show some _ = some _ from hl2)
      refine ⟨_, rfl, ?_⟩
      rw [runI_bind, e2]
      dsimp only
      obtain ⟨⟨r3, N3, F3⟩, e3⟩ : ∃ q, runI (timesP (r1) (r2)) N2 F2 = q := ⟨_, rfl⟩
      have c3 : AFun Tryz.prog 78 [.ptr 0 0 0 0, .int .i64 (r1), .int .i64 (r2)] (LayS N2 F2 g2) (LayQ (r3, N3, F3)) := by
        have := times_ok (r1) (r2) N2 F2 g2 hr1 hr2 hN2
        rw [e3] at this
        exact this
      have hr3 : 0 ≤ r3 := by
        have := runI_nn (P := timesP (r1) (r2)) (nn_times hr1 hr2) N2 F2
        rw [e3] at this
        exact this
      have hN3 : N3.length ≤ 120 := by
        have := runI_len (timesP (r1) (r2)) N2 F2 hN2
        rw [e3] at this
        exact this
      refine phl PW 0 [9] [] [] rfl rfl trivial ⟨?_, trivial⟩ (hp := by simp only [AllP, Holds, Option.getD, true_and, and_true]; omega)
      refine nx_call PW rfl (AFun.sub (ρ := [0, 1, 2]) c3 rfl ⟨rfl, fun _ _ => rfl, trivial, trivial⟩ ⟨rfl, rfl, rfl, trivial⟩ (by decide)) ?_
      rintro _ _ ⟨_, _, ⟨g3, rfl, rfl⟩, rfl, hl3⟩
      obtain rfl := Option.some.inj (show some _ = some _ from hl3)
      refine ⟨_, rfl, ?_⟩
      refine phe PW 0 [] [] rfl trivial rfl ?_
      rw [runI_bind, e3]
      dsimp only
      obtain ⟨⟨r4, N4, F4⟩, e4⟩ : ∃ q, runI (timesP (r3) (ofK K x.a)) N3 F3 = q := ⟨_, rfl⟩
      have c4 : AFun Tryz.prog 78 [.ptr 0 0 0 0, .int .i64 (r3), .int .i64 (K.getD (addN 0 x.a.toNat) 0)] (LayS N3 F3 g3) (LayQ (r4, N4, F4)) := by
        have := times_ok (r3) (ofK K x.a) N3 F3 g3 hr3 hA hN3
        rw [e4] at this
        rw [addNz]
        exact this
      have hr4 : 0 ≤ r4 := by
        have := runI_nn (P := timesP (r3) (ofK K x.a)) (nn_times hr3 hA) N3 F3
        rw [e4] at this
        exact this
      have hN4 : N4.length ≤ 120 := by
        have := runI_len (timesP (r3) (ofK K x.a)) N3 F3 hN3
        rw [e4] at this
        exact this
      refine go_callS W 0 300 [0, 1, 2] rfl (by first | exact True.intro | (simp only [AllC, AllP, addN, Int.toNat_natCast, true_and, and_true, Option.getD, List.length_set, wrapU, pw1, pw7, pw8, pw16, pw23, pw32, pw52, Holds] <;> first | omega | ((repeat' apply And.intro) <;> first | omega | (intros; rfl))) | (simp [AllC, AllP, addN, cloL, clo, mrgL, mrg, wrapU, Holds] <;> omega)) c4 rfl rfl ⟨rfl, fun _ _ => rfl, trivial, trivial⟩ ⟨rfl, rfl, rfl, trivial⟩ rfl ?_
      rintro _ _ ⟨g4, rfl, rfl⟩
      refine ⟨_, _, rfl, rfl, ?_⟩
      rw [e4]
      refine go_retS W 0 300 4 rfl (by first | exact True.intro | (simp only [AllC, AllP, addN, Int.toNat_natCast, true_and, and_true, Option.getD, List.length_set, wrapU, pw1, pw7, pw8, pw16, pw23, pw32, pw52, Holds] <;> first | omega | ((repeat' apply And.intro) <;> first | omega | (intros; rfl))) | (simp [AllC, AllP, addN, cloL, clo, mrgL, mrg, wrapU, Holds] <;> omega)) rfl (by first | exact True.intro | (simp only [AllC, AllP, addN, Int.toNat_natCast, true_and, and_true, Option.getD, List.length_set, wrapU, pw1, pw7, pw8, pw16, pw23, pw32, pw52, Holds] <;> first | omega | ((repeat' apply And.intro) <;> first | omega | (intros; rfl))) | (simp [AllC, AllP, addN, cloL, clo, mrgL, mrg, wrapU, Holds] <;> omega)) (.int .i64 (r4)) .refl rfl ⟨g4, rfl, rfl⟩
  rw [if_neg k8]
  refine sp W 0 rfl rfl rfl (fun k9 => ?_) (fun k9 => ?_)
  · rw [if_pos k9]
    have hxa := (hpa (by omega)).1
    have ha2 := (hpa (by omega)).2
    have zA : addN 0 x.a.toNat = x.a.toNat := addNz _
    have zB : addN 0 x.b.toNat = x.b.toNat := addNz _
    have ci0 : AFun Tryz.prog 79 [.ptr 0 0 0 0, .int .i64 (K.getD (addN 0 x.a.toNat) 0), .str t0] (LayS N F g) (fun u H => u = .pr ((ofK K x.a) < N.length ∧ N.getD (ofK K x.a).toNat g0 = numG t0) ∧ H = LayS N F g) := by
      have := is_ok (ofK K x.a) t0 N F g hA hN
      rw [addNz]
      exact this
    refine go_callS W 0 300 [0, 1, 2] rfl (by first | exact True.intro | (simp only [AllC, AllP, addN, Int.toNat_natCast, true_and, and_true, Option.getD, List.length_set, wrapU, pw1, pw7, pw8, pw16, pw23, pw32, pw52, Holds] <;> first | omega | ((repeat' apply And.intro) <;> first | omega | (intros; rfl))) | (simp [AllC, AllP, addN, cloL, clo, mrgL, mrg, wrapU, Holds] <;> omega)) ci0 rfl rfl ⟨rfl, fun _ _ => rfl, trivial, trivial⟩ ⟨rfl, rfl, rfl, trivial⟩ rfl ?_
    rintro _ _ ⟨rfl, rfl⟩
    refine ⟨_, _, rfl, rfl, ?_⟩
    refine sp W 0 rfl rfl rfl (fun y0 => ?_) (fun y0 => ?_)
    · rw [runI_t y0]
      refine go_retS W 0 300 4 rfl (by first | exact True.intro | (simp only [AllC, AllP, addN, Int.toNat_natCast, true_and, and_true, Option.getD, List.length_set, wrapU, pw1, pw7, pw8, pw16, pw23, pw32, pw52, Holds] <;> first | omega | ((repeat' apply And.intro) <;> first | omega | (intros; rfl))) | (simp [AllC, AllP, addN, cloL, clo, mrgL, mrg, wrapU, Holds] <;> omega)) rfl (by first | exact True.intro | (simp only [AllC, AllP, addN, Int.toNat_natCast, true_and, and_true, Option.getD, List.length_set, wrapU, pw1, pw7, pw8, pw16, pw23, pw32, pw52, Holds] <;> first | omega | ((repeat' apply And.intro) <;> first | omega | (intros; rfl))) | (simp [AllC, AllP, addN, cloL, clo, mrgL, mrg, wrapU, Holds] <;> omega)) (.int .i64 (ofK K x.a)) (.int (by rw [addNz]; rfl)) rfl ⟨g, rfl, rfl⟩
    · rw [runI_f y0]
      obtain ⟨⟨r1, N1, F1⟩, e1⟩ : ∃ q, runI (numP [50]) N F = q := ⟨_, rfl⟩
      have c1 : AFun Tryz.prog 74 [.ptr 0 0 0 0, .int .i64 (2)] (LayS N F g) (LayQ (r1, N1, F1)) := by
        have := (show AFun _ _ _ _ (LayQ (runI (numP (Lib.decDigits 2)) N F)) from number_ok (2) N F g (by omega) (by omega) hN)
        rw [dec_small (by omega)] at this
        have this : AFun _ _ _ _ (LayQ (runI (numP [50]) N F)) := this
        rw [e1] at this
        exact this
      have hr1 : 0 ≤ r1 := by
        have := runI_nn (P := numP [50]) (nn_num _) N F
        rw [e1] at this
        exact this
      have hN1 : N1.length ≤ 120 := by
        have := runI_len (numP [50]) N F hN
        rw [e1] at this
        exact this
      refine go_callS W 0 300 [0, 1, 2] rfl (by first | exact True.intro | (simp only [AllC, AllP, addN, Int.toNat_natCast, true_and, and_true, Option.getD, List.length_set, wrapU, pw1, pw7, pw8, pw16, pw23, pw32, pw52, Holds] <;> first | omega | ((repeat' apply And.intro) <;> first | omega | (intros; rfl))) | (simp [AllC, AllP, addN, cloL, clo, mrgL, mrg, wrapU, Holds] <;> omega)) c1 rfl rfl ⟨rfl, fun _ _ => rfl, trivial, trivial⟩ ⟨rfl, rfl, rfl, trivial⟩ rfl ?_
      rintro _ _ ⟨g1, rfl, rfl⟩
      refine ⟨_, _, rfl, rfl, ?_⟩
      rw [runI_bind, e1]
      dsimp only
      obtain ⟨⟨r2, N2, F2⟩, e2⟩ : ∃ q, runI (timesP (r1) (at')) N1 F1 = q := ⟨_, rfl⟩
      have c2 : AFun Tryz.prog 78 [.ptr 0 0 0 0, .int .i64 (r1), .int .i64 (at')] (LayS N1 F1 g1) (LayQ (r2, N2, F2)) := by
        have := times_ok (r1) (at') N1 F1 g1 hr1 hat hN1
        rw [e2] at this
        exact this
      have hr2 : 0 ≤ r2 := by
        have := runI_nn (P := timesP (r1) (at')) (nn_times hr1 hat) N1 F1
        rw [e2] at this
        exact this
      have hN2 : N2.length ≤ 120 := by
        have := runI_len (timesP (r1) (at')) N1 F1 hN1
        rw [e2] at this
        exact this
      refine phg W 0 9 [8] rfl rfl (fun PW => ?_)
      refine phl PW 0 [8] [] [] rfl rfl trivial ⟨?_, trivial⟩ (hp := by simp only [AllP, Holds, Option.getD, true_and, and_true]; omega)
      refine nx_call PW rfl (AFun.sub (ρ := [0, 1, 2]) c2 rfl ⟨rfl, fun _ _ => rfl, trivial, trivial⟩ ⟨rfl, rfl, rfl, trivial⟩ (by decide)) ?_
      rintro _ _ ⟨_, _, ⟨g2, rfl, rfl⟩, rfl, hl2⟩
      obtain rfl := Option.some.inj (show some _ = some _ from hl2)
      refine ⟨_, rfl, ?_⟩
      refine phe PW 0 [] [] rfl trivial rfl ?_
      rw [runI_bind, e2]
      dsimp only
      obtain ⟨⟨r3, N3, F3⟩, e3⟩ : ∃ q, runI (byP (ofK K x.a) (r2)) N2 F2 = q := ⟨_, rfl⟩
      have c3 : AFun Tryz.prog 80 [.ptr 0 0 0 0, .int .i64 (K.getD (addN 0 x.a.toNat) 0), .int .i64 (r2)] (LayS N2 F2 g2) (LayQ (r3, N3, F3)) := by
        have := by_ok (ofK K x.a) (r2) N2 F2 g2 hA hr2 hN2
        rw [e3] at this
        rw [addNz]
        exact this
      have hr3 : 0 ≤ r3 := by
        have := runI_nn (P := byP (ofK K x.a) (r2)) (nn_by hA hr2) N2 F2
        rw [e3] at this
        exact this
      have hN3 : N3.length ≤ 120 := by
        have := runI_len (byP (ofK K x.a) (r2)) N2 F2 hN2
        rw [e3] at this
        exact this
      refine go_callS W 0 300 [0, 1, 2] rfl (by first | exact True.intro | (simp only [AllC, AllP, addN, Int.toNat_natCast, true_and, and_true, Option.getD, List.length_set, wrapU, pw1, pw7, pw8, pw16, pw23, pw32, pw52, Holds] <;> first | omega | ((repeat' apply And.intro) <;> first | omega | (intros; rfl))) | (simp [AllC, AllP, addN, cloL, clo, mrgL, mrg, wrapU, Holds] <;> omega)) c3 rfl rfl ⟨rfl, fun _ _ => rfl, trivial, trivial⟩ ⟨rfl, rfl, rfl, trivial⟩ rfl ?_
      rintro _ _ ⟨g3, rfl, rfl⟩
      refine ⟨_, _, rfl, rfl, ?_⟩
      rw [e3]
      refine go_retS W 0 300 4 rfl (by first | exact True.intro | (simp only [AllC, AllP, addN, Int.toNat_natCast, true_and, and_true, Option.getD, List.length_set, wrapU, pw1, pw7, pw8, pw16, pw23, pw32, pw52, Holds] <;> first | omega | ((repeat' apply And.intro) <;> first | omega | (intros; rfl))) | (simp [AllC, AllP, addN, cloL, clo, mrgL, mrg, wrapU, Holds] <;> omega)) rfl (by first | exact True.intro | (simp only [AllC, AllP, addN, Int.toNat_natCast, true_and, and_true, Option.getD, List.length_set, wrapU, pw1, pw7, pw8, pw16, pw23, pw32, pw52, Holds] <;> first | omega | ((repeat' apply And.intro) <;> first | omega | (intros; rfl))) | (simp [AllC, AllP, addN, cloL, clo, mrgL, mrg, wrapU, Holds] <;> omega)) (.int .i64 (r3)) .refl rfl ⟨g3, rfl, rfl⟩
  rw [if_neg k9]
  obtain ⟨⟨r1, N1, F1⟩, e1⟩ : ∃ q, runI (numP t0) N F = q := ⟨_, rfl⟩
  have c1 : AFun Tryz.prog 74 [.ptr 0 0 0 0, .int .i64 (0)] (LayS N F g) (LayQ (r1, N1, F1)) := by
    have := (show AFun _ _ _ _ (LayQ (runI (numP (Lib.decDigits 0)) N F)) from number_ok (0) N F g (by omega) (by omega) hN)
    rw [dec_small (by omega)] at this
    have this : AFun _ _ _ _ (LayQ (runI (numP t0) N F)) := this
    rw [e1] at this
    exact this
  have hr1 : 0 ≤ r1 := by
    have := runI_nn (P := numP t0) (nn_num _) N F
    rw [e1] at this
    exact this
  have hN1 : N1.length ≤ 120 := by
    have := runI_len (numP t0) N F hN
    rw [e1] at this
    exact this
  refine go_callS W 0 300 [0, 1, 2] rfl (by first | exact True.intro | (simp only [AllC, AllP, addN, Int.toNat_natCast, true_and, and_true, Option.getD, List.length_set, wrapU, pw1, pw7, pw8, pw16, pw23, pw32, pw52, Holds] <;> first | omega | ((repeat' apply And.intro) <;> first | omega | (intros; rfl))) | (simp [AllC, AllP, addN, cloL, clo, mrgL, mrg, wrapU, Holds] <;> omega)) c1 rfl rfl ⟨rfl, fun _ _ => rfl, trivial, trivial⟩ ⟨rfl, rfl, rfl, trivial⟩ rfl ?_
  rintro _ _ ⟨g1, rfl, rfl⟩
  refine ⟨_, _, rfl, rfl, ?_⟩
  rw [e1]
  refine go_retS W 0 300 4 rfl (by first | exact True.intro | (simp only [AllC, AllP, addN, Int.toNat_natCast, true_and, and_true, Option.getD, List.length_set, wrapU, pw1, pw7, pw8, pw16, pw23, pw32, pw52, Holds] <;> first | omega | ((repeat' apply And.intro) <;> first | omega | (intros; rfl))) | (simp [AllC, AllP, addN, cloL, clo, mrgL, mrg, wrapU, Holds] <;> omega)) rfl (by first | exact True.intro | (simp only [AllC, AllP, addN, Int.toNat_natCast, true_and, and_true, Option.getD, List.length_set, wrapU, pw1, pw7, pw8, pw16, pw23, pw32, pw52, Holds] <;> first | omega | ((repeat' apply And.intro) <;> first | omega | (intros; rfl))) | (simp [AllC, AllP, addN, cloL, clo, mrgL, mrg, wrapU, Holds] <;> omega)) (.int .i64 (r1)) .refl rfl ⟨g1, rfl, rfl⟩

end Pf
/- Slopes: the model's maker -/
namespace Pf
open Go Go.Proofs
/-- A graph that nodes are put into. -/
def PutQ (v : Int) (rs : List Gr) (r : Int × List Gn) (u : AV) (H : AHeap) : Prop := ∃ g', u = .tup [.agg [.int .i64 v, .sl 0 g' 0 r.2.length, .fz rs.length (grR rs)], .int .i64 r.1] ∧ H = [.tab g' r.2.length (gnR r.2)]
theorem l15Put_ok (x : Gn) (v : Int) (N : List Gn) (rs : List Gr) (g : Nat) (hN : N.length ≤ 1000000) : AFun Tryz.prog 34 [.agg [.int .i64 v, .sl 0 g 0 N.length, .fz rs.length (grR rs)], gnV x] [.tab g N.length (gnR N)] (PutQ v rs (runS (.put x .ret) N)) := by
  unfold gnV
  refine AFun.trim 1 ?_ (by simp)
  refine afun_of Tryz.func34 Tryz.call34 rfl Tryz.ntmps34 rfl ?_
  have W : Walk Tryz.prog TT 34 _ := Walk.of TT_ok Tryz.func34 Tryz.results34
  refine lp W 0 (σ := Nat) (fun i => [(2, .ptr 1 0 0 0), (3, .ptr 2 0 0 0), (4, .ptr 3 0 0 0), (6, .int .i64 i)]) (fun _ => [.tab g N.length (gnR N), .lst 0 [[.int .i64 v, .sl 0 g 0 N.length, .fz rs.length (grR rs)]], .lst 0 [[.int .i64 x.k, .int .i64 x.a, .int .i64 x.b, .int .i64 x.n, .str x.t]], .lst 0 [[.int .i64 0, .nils, .nils]]]) (fun i => N.length - i) (fun i => i ≤ N.length ∧ ∀ j, j < i → N.getD j g0 ≠ x) 0 [2, 3, 4, 6] rfl rfl rfl ⟨Nat.zero_le _, fun j hj => by omega⟩ ?_
  rintro i ⟨hi, he⟩ ih
  refine sp W 0 rfl rfl rfl (fun z1 => ?_) (fun z1 => ?_)
  · have hi2 : i < N.length := by omega
    have iN : addN 0 ((i : Nat) : Int).toNat = i := by rw [addNz, Int.toNat_natCast]
    refine dre W 0 6 [] [] rfl rfl rfl trivial rfl ?_ (hp := by simp only [AllP, Holds, Option.getD, true_and, and_true]; omega)
    rw [iN]
    refine sp W 0 rfl rfl rfl (fun z2 => ?_) (fun z2 => ?_)
    · have hz : N.getD i g0 = x := gk_inj z2
      have hx : x ∈ N := by rw [← hz]; exact getD_mem hi2
      have e : runS (.put x .ret) N = (((i : Nat) : Int), N) := by simp only [runS]; rw [if_pos hx, idxG_first hi2 hz he]
      rw [e]
      refine go_retS W 0 300 1 rfl (by first | exact True.intro | (simp only [AllC, AllP, addN, Int.toNat_natCast, true_and, and_true, Option.getD, List.length_set, wrapU, pw1, pw7, pw8, pw16, pw23, pw32, pw52, Holds] <;> first | omega | ((repeat' apply And.intro) <;> first | omega | (intros; rfl))) | (simp [AllC, AllP, addN, cloL, clo, mrgL, mrg, wrapU, Holds] <;> omega)) rfl (by first | exact True.intro | (simp only [AllC, AllP, addN, Int.toNat_natCast, true_and, and_true, Option.getD, List.length_set, wrapU, pw1, pw7, pw8, pw16, pw23, pw32, pw52, Holds] <;> first | omega | ((repeat' apply And.intro) <;> first | omega | (intros; rfl))) | (simp [AllC, AllP, addN, cloL, clo, mrgL, mrg, wrapU, Holds] <;> omega)) (.tup [.agg [.int .i64 v, .sl 0 g 0 N.length, .fz rs.length (grR rs)], .int .i64 (i : Nat)]) .refl rfl ⟨g, rfl, rfl⟩
    · refine bd W 0 4 [2, 3, 4, 6] rfl rfl rfl rfl rfl (ih (i + 1) ⟨by omega, fun j hj => ?_⟩ (by omega))
      by_cases hji : j = i
      · subst hji; exact fun k => z2 (by rw [k])
      · exact he j (by omega)
  · have hx : x ∉ N := fun k => by
      obtain ⟨j, hj, e⟩ := mem_getD g0 k
      exact he j (by omega) e
    have e : runS (.put x .ret) N = (((N.length : Nat) : Int), N ++ [x]) := by simp only [runS]; rw [if_neg hx]
    rw [e]
    refine phg W 0 6 [5] rfl rfl (fun PW => ?_)
    refine pho PW 0 5 [] [] rfl rfl trivial rfl rfl ?_
    refine phe PW 0 [] [] rfl trivial rfl ?_
    refine go_tab 0 (N.length + 1) (gnR (N ++ [x])) rfl rfl rfl (by rw [addNz]; exact Nat.le_refl _) (fun j hj => ?_) (.inl rfl) ?_
    · rw [addNz]
      exact (gnR_app N x j hj).symm
    have e2 : ((N.length + 1 : Nat) : Int) - 1 = (N.length : Nat) := by omega
    have e3 : (N ++ [x]).length = N.length + 1 := by simp
    refine go_retS W 0 300 1 rfl (by first | exact True.intro | (simp only [AllC, AllP, addN, Int.toNat_natCast, true_and, and_true, Option.getD, List.length_set, wrapU, pw1, pw7, pw8, pw16, pw23, pw32, pw52, Holds] <;> first | omega | ((repeat' apply And.intro) <;> first | omega | (intros; rfl))) | (simp [AllC, AllP, addN, cloL, clo, mrgL, mrg, wrapU, Holds] <;> omega)) rfl (by first | exact True.intro | (simp only [AllC, AllP, addN, Int.toNat_natCast, true_and, and_true, Option.getD, List.length_set, wrapU, pw1, pw7, pw8, pw16, pw23, pw32, pw52, Holds] <;> first | omega | ((repeat' apply And.intro) <;> first | omega | (intros; rfl))) | (simp [AllC, AllP, addN, cloL, clo, mrgL, mrg, wrapU, Holds] <;> omega)) (.tup [.agg [.int .i64 v, .sl 0 (g + 1) 0 (N.length + 1), .fz rs.length (grR rs)], .int .i64 (N.length : Nat)]) (.tup ⟨.refl, .int e2, trivial⟩) rfl ⟨g + 1, by dsimp only; rw [e3], by dsimp only; rw [e3]⟩
def MkS (v : Int) (rs : List Gr) (N : List Gn) (g : Nat) : AHeap := [.lst 0 [[.int .i64 v, .sl 1 g 0 N.length, .fz rs.length (grR rs)]], .tab g N.length (gnR N)]
def MkQ (v : Int) (rs : List Gr) (r : Int × List Gn) (u : AV) (H : AHeap) : Prop := ∃ g', u = .int .i64 r.1 ∧ H = MkS v rs r.2 g'
theorem mput_ok (x : Gn) (v : Int) (N : List Gn) (rs : List Gr) (g : Nat) (hN : N.length ≤ 1000000) : AFun Tryz.prog 87 [.ptr 0 0 0 0, gnV x] (MkS v rs N g) (MkQ v rs (runS (.put x .ret) N)) := by
  have c := l15Put_ok x v N rs g hN
  unfold gnV at c ⊢
  refine AFun.trim 2 ?_ (by simp [MkS])
  refine afun_of Tryz.func87 Tryz.call87 rfl Tryz.ntmps87 rfl ?_
  have W : Walk Tryz.prog TT 87 _ := Walk.of TT_ok Tryz.func87 Tryz.results87
  obtain ⟨⟨r1, N1⟩, e1⟩ : ∃ q, runS (.put x .ret) N = q := ⟨_, rfl⟩
  rw [e1] at c ⊢
  refine phg W 0 11 [5, 9, 10] rfl rfl (fun PW => ?_)
  refine phl PW 0 [5, 9] [] [] rfl rfl trivial ⟨?_, ?_, trivial⟩
  · refine nx_call PW rfl (AFun.sub (ρ := [1]) c rfl ⟨fun _ _ => rfl, trivial⟩ ⟨rfl, trivial⟩ (by decide)) ?_
    rintro _ _ ⟨_, _, ⟨g1, rfl, rfl⟩, rfl, hl1⟩
    obtain rfl := Option.some.inj (show some _ = some _ from hl1)
    refine ⟨_, rfl, ?_⟩
    refine pho PW 0 9 [] [] rfl rfl trivial rfl rfl ?_
    refine pho PW 0 10 [] [] rfl rfl trivial rfl rfl ?_
    refine phe PW 0 [] [] rfl trivial rfl ?_
    refine go_retS W 0 300 2 rfl (by first | exact True.intro | (simp only [AllC, AllP, addN, Int.toNat_natCast, true_and, and_true, Option.getD, List.length_set, wrapU, pw1, pw7, pw8, pw16, pw23, pw32, pw52, Holds] <;> first | omega | ((repeat' apply And.intro) <;> first | omega | (intros; rfl))) | (simp [AllC, AllP, addN, cloL, clo, mrgL, mrg, wrapU, Holds] <;> omega)) rfl (by first | exact True.intro | (simp only [AllC, AllP, addN, Int.toNat_natCast, true_and, and_true, Option.getD, List.length_set, wrapU, pw1, pw7, pw8, pw16, pw23, pw32, pw52, Holds] <;> first | omega | ((repeat' apply And.intro) <;> first | omega | (intros; rfl))) | (simp [AllC, AllP, addN, cloL, clo, mrgL, mrg, wrapU, Holds] <;> omega)) (.int .i64 r1) .refl rfl ⟨g1, rfl, rfl⟩
  · refine nx_op PW 0 rfl rfl ?_
    refine phl PW 0 [5] [] [] rfl rfl trivial ⟨?_, trivial⟩
    refine nx_call PW rfl (AFun.sub (ρ := [1]) c rfl ⟨fun _ _ => rfl, trivial⟩ ⟨rfl, trivial⟩ (by decide)) ?_
    rintro _ _ ⟨_, _, ⟨g1, rfl, rfl⟩, rfl, hl1⟩
    obtain rfl := Option.some.inj (show some _ = some _ from hl1)
    refine ⟨_, rfl, ?_⟩
    refine pho PW 0 10 [] [] rfl rfl trivial rfl rfl ?_
    refine phe PW 0 [] [] rfl trivial rfl ?_
    refine go_retS W 0 300 2 rfl (by first | exact True.intro | (simp only [AllC, AllP, addN, Int.toNat_natCast, true_and, and_true, Option.getD, List.length_set, wrapU, pw1, pw7, pw8, pw16, pw23, pw32, pw52, Holds] <;> first | omega | ((repeat' apply And.intro) <;> first | omega | (intros; rfl))) | (simp [AllC, AllP, addN, cloL, clo, mrgL, mrg, wrapU, Holds] <;> omega)) rfl (by first | exact True.intro | (simp only [AllC, AllP, addN, Int.toNat_natCast, true_and, and_true, Option.getD, List.length_set, wrapU, pw1, pw7, pw8, pw16, pw23, pw32, pw52, Holds] <;> first | omega | ((repeat' apply And.intro) <;> first | omega | (intros; rfl))) | (simp [AllC, AllP, addN, cloL, clo, mrgL, mrg, wrapU, Holds] <;> omega)) (.int .i64 r1) .refl rfl ⟨g1, rfl, rfl⟩
theorem mis_ok (a : Int) (s : List UInt8) (v : Int) (N : List Gn) (rs : List Gr) (g : Nat) (ha : 0 ≤ a ∧ a < N.length) : AFun Tryz.prog 69 [.ptr 0 0 0 0, .int .i64 a, .str s] (MkS v rs N g) (fun u H => u = .pr (N.getD a.toNat g0 = numG s) ∧ H = MkS v rs N g) := by
  refine AFun.trim 2 ?_ (by simp [MkS])
  refine afun_of Tryz.func69 Tryz.call69 rfl Tryz.ntmps69 rfl ?_
  have W : Walk Tryz.prog TT 69 _ := Walk.of TT_ok Tryz.func69 Tryz.results69
  refine go_retS W 0 300 2 rfl (by simp only [AllC, addNz, true_and, and_true]; omega) rfl (by first | exact True.intro | (simp only [AllC, AllP, addN, Int.toNat_natCast, true_and, and_true, Option.getD, List.length_set, wrapU, pw1, pw7, pw8, pw16, pw23, pw32, pw52, Holds] <;> first | omega | ((repeat' apply And.intro) <;> first | omega | (intros; rfl))) | (simp [AllC, AllP, addN, cloL, clo, mrgL, mrg, wrapU, Holds] <;> omega)) (.pr (N.getD a.toNat g0 = numG s)) (.pr ?_) rfl ⟨rfl, rfl⟩
  rw [addNz]
  exact ⟨fun h => gk_inj (y := numG s) h, fun h => by rw [h]⟩
open Classical in
theorem runS_t {a : Int} {s : List UInt8} {p q : Pg} {N : List Gn} (h : N.getD a.toNat g0 = numG s) : runS (.is a s fun t => if t then p else q) N = runS p N := by
  simp only [runS]; rw [decide_eq_true h]; rfl
open Classical in
theorem runS_f {a : Int} {s : List UInt8} {p q : Pg} {N : List Gn} (h : ¬ N.getD a.toNat g0 = numG s) : runS (.is a s fun t => if t then p else q) N = runS q N := by
  simp only [runS]; rw [decide_eq_false h]; rfl
/-- What a program returns is the place of a node. -/
def Pg.ok : Pg → Nat → Prop
  | .ret v, n => 0 ≤ v ∧ v < n
  | .put _ k, n => ∀ (i : Int) (m : Nat), n ≤ m → 0 ≤ i → i < m → (k i).ok m
  | .is _ _ k, n => ∀ t, (k t).ok n
theorem runS_ok {P : Pg} : ∀ {n : Nat} {N : List Gn}, P.ok n → n ≤ N.length → 0 ≤ (runS P N).1 ∧ (runS P N).1 < (runS P N).2.length := by
  induction P with
  | ret v => intro n N h hn; exact ⟨h.1, by have := h.2; show v < (N.length : Int); omega⟩
  | put x k ih =>
    intro n N h hn
    simp only [runS]
    split
    · rename_i hx
      have := (idxG_get hx).1
      exact ih _ (h _ N.length hn (by omega) (by omega)) (Nat.le_refl _)
    · exact ih _ (h _ (N.length + 1) (by omega) (by omega) (by omega)) (by simp)
  | is a s k ih => intro n N h hn; simp only [runS]; exact ih _ (h _) hn
theorem ok_num (s : List UInt8) (n : Nat) : (numP s).ok n := fun i m _ h0 h1 => ⟨h0, h1⟩
theorem ok_neg {a : Int} {n : Nat} (h : 0 ≤ a ∧ a < n) : (negP a).ok n := fun t => by cases t <;> first | exact h | exact fun i m _ h0 h1 => ⟨h0, h1⟩
theorem ok_sum {a b : Int} {n : Nat} (ha : 0 ≤ a ∧ a < n) (hb : 0 ≤ b ∧ b < n) : (sumP' a b).ok n := fun t => by cases t <;> first | exact hb | (intro t; cases t <;> first | exact ha | exact fun i m _ h0 h1 => ⟨h0, h1⟩)
theorem ok_less {a b : Int} {n : Nat} (ha : 0 ≤ a ∧ a < n) (hb : 0 ≤ b ∧ b < n) : (lessP a b).ok n := fun t => by cases t <;> first | exact ha | (intro t; cases t <;> first | exact ok_neg hb | exact fun i m _ h0 h1 => ⟨h0, h1⟩)
theorem ok_times {a b : Int} {n : Nat} (ha : 0 ≤ a ∧ a < n) (hb : 0 ≤ b ∧ b < n) : (timesP a b).ok n := fun t => by cases t <;> first | exact ha | (intro t; cases t <;> first | exact ha | (intro t; cases t <;> first | exact hb | (intro t; cases t <;> first | exact hb | exact fun i m _ h0 h1 => ⟨h0, h1⟩)))
theorem ok_by {a b : Int} {n : Nat} (ha : 0 ≤ a ∧ a < n) : (byP a b).ok n := fun t => by cases t <;> first | exact ha | exact fun i m _ h0 h1 => ⟨h0, h1⟩
theorem ok_raised {a : Int} (e : Int) {n : Nat} (ha : 0 ≤ a ∧ a < n) : (raisedP a e).ok n := by unfold raisedP; split; exact ha; exact fun i m _ h0 h1 => ⟨h0, h1⟩
theorem mtwo_ok (k a b : Int) (v : Int) (N : List Gn) (rs : List Gr) (g : Nat) (hN : N.length ≤ 1000000) : AFun Tryz.prog 88 [.ptr 0 0 0 0, .int .i64 k, .int .i64 a, .int .i64 b] (MkS v rs N g) (MkQ v rs (runS (.put ⟨k, a, b, 0, []⟩ .ret) N)) := by
  refine afun_of Tryz.func88 Tryz.call88 rfl Tryz.ntmps88 rfl ?_
  have W : Walk Tryz.prog TT 88 _ := Walk.of TT_ok Tryz.func88 Tryz.results88
  refine go_call W 0 300 rfl (by first | exact True.intro | (simp only [AllC, AllP, addN, Int.toNat_natCast, true_and, and_true, Option.getD, List.length_set, wrapU, pw1, pw7, pw8, pw16, pw23, pw32, pw52, Holds] <;> first | omega | ((repeat' apply And.intro) <;> first | omega | (intros; rfl))) | (simp [AllC, AllP, addN, cloL, clo, mrgL, mrg, wrapU, Holds] <;> omega)) (mput_ok ⟨k, a, b, 0, []⟩ v N rs g hN) ?_
  rintro _ _ ⟨g', rfl, rfl⟩
  refine ⟨_, rfl, ?_⟩
  refine rg W 0 rfl (⟨g', rfl, rfl⟩)
theorem mnumber_ok (s : List UInt8) (v : Int) (N : List Gn) (rs : List Gr) (g : Nat) (hN : N.length ≤ 1000000) : AFun Tryz.prog 64 [.ptr 0 0 0 0, .str s] (MkS v rs N g) (MkQ v rs (runS (numP s) N)) := by
  refine afun_of Tryz.func64 Tryz.call64 rfl Tryz.ntmps64 rfl ?_
  have W : Walk Tryz.prog TT 64 _ := Walk.of TT_ok Tryz.func64 Tryz.results64
  refine go_call W 0 300 rfl (by first | exact True.intro | (simp only [AllC, AllP, addN, Int.toNat_natCast, true_and, and_true, Option.getD, List.length_set, wrapU, pw1, pw7, pw8, pw16, pw23, pw32, pw52, Holds] <;> first | omega | ((repeat' apply And.intro) <;> first | omega | (intros; rfl))) | (simp [AllC, AllP, addN, cloL, clo, mrgL, mrg, wrapU, Holds] <;> omega)) (mput_ok (numG s) v N rs g hN) ?_
  rintro _ _ ⟨g', rfl, rfl⟩
  refine ⟨_, rfl, ?_⟩
  refine rg W 0 rfl (⟨g', rfl, rfl⟩)
theorem mpow_ok (a n : Int) (v : Int) (N : List Gn) (rs : List Gr) (g : Nat) (hN : N.length ≤ 1000000) : AFun Tryz.prog 71 [.ptr 0 0 0 0, .int .i64 a, .int .i64 n] (MkS v rs N g) (MkQ v rs (runS (raisedP a n) N)) := by
  refine afun_of Tryz.func71 Tryz.call71 rfl Tryz.ntmps71 rfl ?_
  have W : Walk Tryz.prog TT 71 _ := Walk.of TT_ok Tryz.func71 Tryz.results71
  unfold raisedP
  refine sp W 0 rfl rfl rfl (fun h1 => ?_) (fun h1 => ?_)
  · rw [if_pos h1]
    refine rg W 0 rfl (⟨g, rfl, rfl⟩)
  · rw [if_neg h1]
    refine go_call W 0 300 rfl (by first | exact True.intro | (simp only [AllC, AllP, addN, Int.toNat_natCast, true_and, and_true, Option.getD, List.length_set, wrapU, pw1, pw7, pw8, pw16, pw23, pw32, pw52, Holds] <;> first | omega | ((repeat' apply And.intro) <;> first | omega | (intros; rfl))) | (simp [AllC, AllP, addN, cloL, clo, mrgL, mrg, wrapU, Holds] <;> omega)) (mput_ok ⟨8, a, 0, n, []⟩ v N rs g hN) ?_
    rintro _ _ ⟨g', rfl, rfl⟩
    refine ⟨_, rfl, ?_⟩
    refine rg W 0 rfl (⟨g', rfl, rfl⟩)
theorem mneg_ok (a : Int) (v : Int) (N : List Gn) (rs : List Gr) (g : Nat) (ha : 0 ≤ a ∧ a < N.length) (hN : N.length ≤ 1000000) : AFun Tryz.prog 65 [.ptr 0 0 0 0, .int .i64 a] (MkS v rs N g) (MkQ v rs (runS (negP a) N)) := by
  refine afun_of Tryz.func65 Tryz.call65 rfl Tryz.ntmps65 rfl ?_
  have W : Walk Tryz.prog TT 65 _ := Walk.of TT_ok Tryz.func65 Tryz.results65
  unfold negP
  refine go_call W 0 300 rfl (by first | exact True.intro | (simp only [AllC, AllP, addN, Int.toNat_natCast, true_and, and_true, Option.getD, List.length_set, wrapU, pw1, pw7, pw8, pw16, pw23, pw32, pw52, Holds] <;> first | omega | ((repeat' apply And.intro) <;> first | omega | (intros; rfl))) | (simp [AllC, AllP, addN, cloL, clo, mrgL, mrg, wrapU, Holds] <;> omega)) (mis_ok a t0 v N rs g ha) ?_
  rintro _ _ ⟨rfl, rfl⟩
  refine ⟨_, rfl, ?_⟩
  refine sp W 0 rfl rfl rfl (fun z1 => ?_) (fun z1 => ?_)
  · rw [runS_t z1]
    refine rg W 0 rfl (⟨g, rfl, rfl⟩)
  · rw [runS_f z1]
    refine go_call W 0 300 rfl (by first | exact True.intro | (simp only [AllC, AllP, addN, Int.toNat_natCast, true_and, and_true, Option.getD, List.length_set, wrapU, pw1, pw7, pw8, pw16, pw23, pw32, pw52, Holds] <;> first | omega | ((repeat' apply And.intro) <;> first | omega | (intros; rfl))) | (simp [AllC, AllP, addN, cloL, clo, mrgL, mrg, wrapU, Holds] <;> omega)) (mput_ok ⟨3, a, 0, 0, []⟩ v N rs g hN) ?_
    rintro _ _ ⟨g', rfl, rfl⟩
    refine ⟨_, rfl, ?_⟩
    refine rg W 0 rfl (⟨g', rfl, rfl⟩)
theorem madd_ok (a b : Int) (v : Int) (N : List Gn) (rs : List Gr) (g : Nat) (ha : 0 ≤ a ∧ a < N.length) (hb : 0 ≤ b ∧ b < N.length) (hN : N.length ≤ 1000000) : AFun Tryz.prog 66 [.ptr 0 0 0 0, .int .i64 a, .int .i64 b] (MkS v rs N g) (MkQ v rs (runS (sumP' a b) N)) := by
  refine afun_of Tryz.func66 Tryz.call66 rfl Tryz.ntmps66 rfl ?_
  have W : Walk Tryz.prog TT 66 _ := Walk.of TT_ok Tryz.func66 Tryz.results66
  unfold sumP'
  refine go_call W 0 300 rfl (by first | exact True.intro | (simp only [AllC, AllP, addN, Int.toNat_natCast, true_and, and_true, Option.getD, List.length_set, wrapU, pw1, pw7, pw8, pw16, pw23, pw32, pw52, Holds] <;> first | omega | ((repeat' apply And.intro) <;> first | omega | (intros; rfl))) | (simp [AllC, AllP, addN, cloL, clo, mrgL, mrg, wrapU, Holds] <;> omega)) (mis_ok a t0 v N rs g ha) ?_
  rintro _ _ ⟨rfl, rfl⟩
  refine ⟨_, rfl, ?_⟩
  refine sp W 0 rfl rfl rfl (fun z2 => ?_) (fun z2 => ?_)
  · rw [runS_t z2]
    refine rg W 0 rfl (⟨g, rfl, rfl⟩)
  · rw [runS_f z2]
    refine go_call W 0 300 rfl (by first | exact True.intro | (simp only [AllC, AllP, addN, Int.toNat_natCast, true_and, and_true, Option.getD, List.length_set, wrapU, pw1, pw7, pw8, pw16, pw23, pw32, pw52, Holds] <;> first | omega | ((repeat' apply And.intro) <;> first | omega | (intros; rfl))) | (simp [AllC, AllP, addN, cloL, clo, mrgL, mrg, wrapU, Holds] <;> omega)) (mis_ok b t0 v N rs g hb) ?_
    rintro _ _ ⟨rfl, rfl⟩
    refine ⟨_, rfl, ?_⟩
    refine sp W 0 rfl rfl rfl (fun z1 => ?_) (fun z1 => ?_)
    · rw [runS_t z1]
      refine rg W 0 rfl (⟨g, rfl, rfl⟩)
    · rw [runS_f z1]
      refine go_call W 0 300 rfl (by first | exact True.intro | (simp only [AllC, AllP, addN, Int.toNat_natCast, true_and, and_true, Option.getD, List.length_set, wrapU, pw1, pw7, pw8, pw16, pw23, pw32, pw52, Holds] <;> first | omega | ((repeat' apply And.intro) <;> first | omega | (intros; rfl))) | (simp [AllC, AllP, addN, cloL, clo, mrgL, mrg, wrapU, Holds] <;> omega)) (mtwo_ok 4 a b v N rs g hN) ?_
      rintro _ _ ⟨g', rfl, rfl⟩
      refine ⟨_, rfl, ?_⟩
      refine rg W 0 rfl (⟨g', rfl, rfl⟩)
theorem msub_ok (a b : Int) (v : Int) (N : List Gn) (rs : List Gr) (g : Nat) (ha : 0 ≤ a ∧ a < N.length) (hb : 0 ≤ b ∧ b < N.length) (hN : N.length ≤ 1000000) : AFun Tryz.prog 67 [.ptr 0 0 0 0, .int .i64 a, .int .i64 b] (MkS v rs N g) (MkQ v rs (runS (lessP a b) N)) := by
  refine afun_of Tryz.func67 Tryz.call67 rfl Tryz.ntmps67 rfl ?_
  have W : Walk Tryz.prog TT 67 _ := Walk.of TT_ok Tryz.func67 Tryz.results67
  unfold lessP
  refine go_call W 0 300 rfl (by first | exact True.intro | (simp only [AllC, AllP, addN, Int.toNat_natCast, true_and, and_true, Option.getD, List.length_set, wrapU, pw1, pw7, pw8, pw16, pw23, pw32, pw52, Holds] <;> first | omega | ((repeat' apply And.intro) <;> first | omega | (intros; rfl))) | (simp [AllC, AllP, addN, cloL, clo, mrgL, mrg, wrapU, Holds] <;> omega)) (mis_ok b t0 v N rs g hb) ?_
  rintro _ _ ⟨rfl, rfl⟩
  refine ⟨_, rfl, ?_⟩
  refine sp W 0 rfl rfl rfl (fun z2 => ?_) (fun z2 => ?_)
  · rw [runS_t z2]
    refine rg W 0 rfl (⟨g, rfl, rfl⟩)
  · rw [runS_f z2]
    refine go_call W 0 300 rfl (by first | exact True.intro | (simp only [AllC, AllP, addN, Int.toNat_natCast, true_and, and_true, Option.getD, List.length_set, wrapU, pw1, pw7, pw8, pw16, pw23, pw32, pw52, Holds] <;> first | omega | ((repeat' apply And.intro) <;> first | omega | (intros; rfl))) | (simp [AllC, AllP, addN, cloL, clo, mrgL, mrg, wrapU, Holds] <;> omega)) (mis_ok a t0 v N rs g ha) ?_
    rintro _ _ ⟨rfl, rfl⟩
    refine ⟨_, rfl, ?_⟩
    refine sp W 0 rfl rfl rfl (fun z1 => ?_) (fun z1 => ?_)
    · rw [runS_t z1]
      refine go_call W 0 300 rfl (by first | exact True.intro | (simp only [AllC, AllP, addN, Int.toNat_natCast, true_and, and_true, Option.getD, List.length_set, wrapU, pw1, pw7, pw8, pw16, pw23, pw32, pw52, Holds] <;> first | omega | ((repeat' apply And.intro) <;> first | omega | (intros; rfl))) | (simp [AllC, AllP, addN, cloL, clo, mrgL, mrg, wrapU, Holds] <;> omega)) (mneg_ok b v N rs g hb hN) ?_
      rintro _ _ ⟨g', rfl, rfl⟩
      refine ⟨_, rfl, ?_⟩
      refine rg W 0 rfl (⟨g', rfl, rfl⟩)
    · rw [runS_f z1]
      refine go_call W 0 300 rfl (by first | exact True.intro | (simp only [AllC, AllP, addN, Int.toNat_natCast, true_and, and_true, Option.getD, List.length_set, wrapU, pw1, pw7, pw8, pw16, pw23, pw32, pw52, Holds] <;> first | omega | ((repeat' apply And.intro) <;> first | omega | (intros; rfl))) | (simp [AllC, AllP, addN, cloL, clo, mrgL, mrg, wrapU, Holds] <;> omega)) (mtwo_ok 5 a b v N rs g hN) ?_
      rintro _ _ ⟨g', rfl, rfl⟩
      refine ⟨_, rfl, ?_⟩
      refine rg W 0 rfl (⟨g', rfl, rfl⟩)
theorem mmul_ok (a b : Int) (v : Int) (N : List Gn) (rs : List Gr) (g : Nat) (ha : 0 ≤ a ∧ a < N.length) (hb : 0 ≤ b ∧ b < N.length) (hN : N.length ≤ 1000000) : AFun Tryz.prog 68 [.ptr 0 0 0 0, .int .i64 a, .int .i64 b] (MkS v rs N g) (MkQ v rs (runS (timesP a b) N)) := by
  refine afun_of Tryz.func68 Tryz.call68 rfl Tryz.ntmps68 rfl ?_
  have W : Walk Tryz.prog TT 68 _ := Walk.of TT_ok Tryz.func68 Tryz.results68
  unfold timesP
  refine go_call W 0 300 rfl (by first | exact True.intro | (simp only [AllC, AllP, addN, Int.toNat_natCast, true_and, and_true, Option.getD, List.length_set, wrapU, pw1, pw7, pw8, pw16, pw23, pw32, pw52, Holds] <;> first | omega | ((repeat' apply And.intro) <;> first | omega | (intros; rfl))) | (simp [AllC, AllP, addN, cloL, clo, mrgL, mrg, wrapU, Holds] <;> omega)) (mis_ok a t0 v N rs g ha) ?_
  rintro _ _ ⟨rfl, rfl⟩
  refine ⟨_, rfl, ?_⟩
  refine sp W 0 rfl rfl rfl (fun z4 => ?_) (fun z4 => ?_)
  · rw [runS_t z4]
    refine rg W 0 rfl (⟨g, rfl, rfl⟩)
  · rw [runS_f z4]
    refine go_call W 0 300 rfl (by first | exact True.intro | (simp only [AllC, AllP, addN, Int.toNat_natCast, true_and, and_true, Option.getD, List.length_set, wrapU, pw1, pw7, pw8, pw16, pw23, pw32, pw52, Holds] <;> first | omega | ((repeat' apply And.intro) <;> first | omega | (intros; rfl))) | (simp [AllC, AllP, addN, cloL, clo, mrgL, mrg, wrapU, Holds] <;> omega)) (mis_ok b t1 v N rs g hb) ?_
    rintro _ _ ⟨rfl, rfl⟩
    refine ⟨_, rfl, ?_⟩
    refine sp W 0 rfl rfl rfl (fun z3 => ?_) (fun z3 => ?_)
    · rw [runS_t z3]
      refine rg W 0 rfl (⟨g, rfl, rfl⟩)
    · rw [runS_f z3]
      refine go_call W 0 300 rfl (by first | exact True.intro | (simp only [AllC, AllP, addN, Int.toNat_natCast, true_and, and_true, Option.getD, List.length_set, wrapU, pw1, pw7, pw8, pw16, pw23, pw32, pw52, Holds] <;> first | omega | ((repeat' apply And.intro) <;> first | omega | (intros; rfl))) | (simp [AllC, AllP, addN, cloL, clo, mrgL, mrg, wrapU, Holds] <;> omega)) (mis_ok b t0 v N rs g hb) ?_
      rintro _ _ ⟨rfl, rfl⟩
      refine ⟨_, rfl, ?_⟩
      refine sp W 0 rfl rfl rfl (fun z2 => ?_) (fun z2 => ?_)
      · rw [runS_t z2]
        refine rg W 0 rfl (⟨g, rfl, rfl⟩)
      · rw [runS_f z2]
        refine go_call W 0 300 rfl (by first | exact True.intro | (simp only [AllC, AllP, addN, Int.toNat_natCast, true_and, and_true, Option.getD, List.length_set, wrapU, pw1, pw7, pw8, pw16, pw23, pw32, pw52, Holds] <;> first | omega | ((repeat' apply And.intro) <;> first | omega | (intros; rfl))) | (simp [AllC, AllP, addN, cloL, clo, mrgL, mrg, wrapU, Holds] <;> omega)) (mis_ok a t1 v N rs g ha) ?_
        rintro _ _ ⟨rfl, rfl⟩
        refine ⟨_, rfl, ?_⟩
        refine sp W 0 rfl rfl rfl (fun z1 => ?_) (fun z1 => ?_)
        · rw [runS_t z1]
          refine rg W 0 rfl (⟨g, rfl, rfl⟩)
        · rw [runS_f z1]
          refine go_call W 0 300 rfl (by first | exact True.intro | (simp only [AllC, AllP, addN, Int.toNat_natCast, true_and, and_true, Option.getD, List.length_set, wrapU, pw1, pw7, pw8, pw16, pw23, pw32, pw52, Holds] <;> first | omega | ((repeat' apply And.intro) <;> first | omega | (intros; rfl))) | (simp [AllC, AllP, addN, cloL, clo, mrgL, mrg, wrapU, Holds] <;> omega)) (mtwo_ok 6 a b v N rs g hN) ?_
          rintro _ _ ⟨g', rfl, rfl⟩
          refine ⟨_, rfl, ?_⟩
          refine rg W 0 rfl (⟨g', rfl, rfl⟩)
theorem mdiv_ok (a b : Int) (v : Int) (N : List Gn) (rs : List Gr) (g : Nat) (ha : 0 ≤ a ∧ a < N.length) (hb : 0 ≤ b ∧ b < N.length) (hN : N.length ≤ 1000000) : AFun Tryz.prog 70 [.ptr 0 0 0 0, .int .i64 a, .int .i64 b] (MkS v rs N g) (MkQ v rs (runS (byP a b) N)) := by
  refine afun_of Tryz.func70 Tryz.call70 rfl Tryz.ntmps70 rfl ?_
  have W : Walk Tryz.prog TT 70 _ := Walk.of TT_ok Tryz.func70 Tryz.results70
  unfold byP
  refine go_call W 0 300 rfl (by first | exact True.intro | (simp only [AllC, AllP, addN, Int.toNat_natCast, true_and, and_true, Option.getD, List.length_set, wrapU, pw1, pw7, pw8, pw16, pw23, pw32, pw52, Holds] <;> first | omega | ((repeat' apply And.intro) <;> first | omega | (intros; rfl))) | (simp [AllC, AllP, addN, cloL, clo, mrgL, mrg, wrapU, Holds] <;> omega)) (mis_ok a t0 v N rs g ha) ?_
  rintro _ _ ⟨rfl, rfl⟩
  refine ⟨_, rfl, ?_⟩
  refine sp W 0 rfl rfl rfl (fun z1 => ?_) (fun z1 => ?_)
  · rw [runS_t z1]
    refine rg W 0 rfl (⟨g, rfl, rfl⟩)
  · rw [runS_f z1]
    refine go_call W 0 300 rfl (by first | exact True.intro | (simp only [AllC, AllP, addN, Int.toNat_natCast, true_and, and_true, Option.getD, List.length_set, wrapU, pw1, pw7, pw8, pw16, pw23, pw32, pw52, Holds] <;> first | omega | ((repeat' apply And.intro) <;> first | omega | (intros; rfl))) | (simp [AllC, AllP, addN, cloL, clo, mrgL, mrg, wrapU, Holds] <;> omega)) (mtwo_ok 7 a b v N rs g hN) ?_
    rintro _ _ ⟨g', rfl, rfl⟩
    refine ⟨_, rfl, ?_⟩
    refine rg W 0 rfl (⟨g', rfl, rfl⟩)

end Pf
/- Whole numbers: differences and products. -/
namespace Pf
open Go Go.Proofs

theorem val_split (l : List Int) (i : Nat) (h : i ≤ l.length) : val l = val (l.take i) + 65536 ^ i * val (l.drop i) := by
  conv => lhs; rw [← List.take_append_drop i l, val_app]
  simp [Nat.min_eq_left h]
end Pf
/- Whole numbers: bits and shifts. -/
namespace Pf
open Go Go.Proofs

/-- Digits shifted down, each with what comes from the next. -/
def shr (r : Nat) : List Int → List Int
  | [] => []
  | d :: l => (d / 2 ^ r + l.getD 0 0 * 2 ^ (16 - r) % 65536) :: shr r l
end Pf
/- Whole numbers: guesses of a quotient's digit. -/
namespace Pf
open Go Go.Proofs

/-- A number w = w0 + P X by a number B = v0 + P Y. -/
structure Gs (P X Y w B : Int) : Prop where
  p : 0 < P
  w0 : P * X ≤ w
  w1 : w < P * (X + 1)
  b0 : P * Y ≤ B
  b1 : B < P * (Y + 1)
theorem Gs.over {P X Y w B : Int} (h : Gs P X Y w B) {q : Int} (hq : 0 ≤ q) (hx : X + 1 ≤ q * Y) : w < q * B := by
  have h1 := Int.mul_le_mul_of_nonneg_left hx (Int.le_of_lt h.p)
  have h2 := Int.mul_le_mul_of_nonneg_left h.b0 hq
  have e : q * (P * Y) = P * (q * Y) := by rw [← Int.mul_assoc, Int.mul_comm q P, Int.mul_assoc]
  have := h.w1
  omega
theorem Gs.under {P X Y w B : Int} (h : Gs P X Y w B) {q : Int} (hq : 0 ≤ q) (hx : q * (Y + 1) ≤ X) : q * B ≤ w := by
  have h1 := Int.mul_le_mul_of_nonneg_left hx (Int.le_of_lt h.p)
  have h2 := Int.mul_le_mul_of_nonneg_left (Int.le_of_lt h.b1) hq
  have e : q * (P * (Y + 1)) = P * (q * (Y + 1)) := by rw [← Int.mul_assoc, Int.mul_comm q P, Int.mul_assoc]
  have := h.w0
  omega
theorem Gs.top {P X Y w B : Int} (h : Gs P X Y w B) (hw : w < 65536 * B) : X < 65536 * (Y + 1) := by
  rcases Int.lt_or_le X (65536 * (Y + 1)) with h1 | h1
  · exact h1
  · have h2 := Int.mul_le_mul_of_nonneg_left h1 (Int.le_of_lt h.p)
    have e : P * (65536 * (Y + 1)) = 65536 * (P * (Y + 1)) := by rw [← Int.mul_assoc, Int.mul_comm P 65536, Int.mul_assoc]
    have := h.w0; have := h.b1
    omega
/-- What the guesses keep: T the two highest digits, x the third; v, z the highest digits of the divisor. -/
structure Gd (T x v z w B Q : Int) : Prop where
  g : ∃ P, Gs P (65536 * T + x) (65536 * v + z) w B
  x0 : 0 ≤ x
  x1 : x < 65536
  v0 : 32768 ≤ v
  v1 : v < 65536
  z0 : 0 ≤ z
  z1 : z < 65536
  t0 : 0 ≤ T
  w1 : w < 65536 * B
  q0 : 0 ≤ Q
  qw : Q * B ≤ w
  wq : w < (Q + 1) * B
theorem Gd.bpos {T x v z w B Q : Int} (h : Gd T x v z w B Q) : 0 < B := by
  rcases Int.lt_or_le 0 B with h1 | h1
  · exact h1
  · have := h.wq; have := h.qw; rw [Int.add_mul] at *; omega
theorem Gd.t1 {T x v z w B Q : Int} (h : Gd T x v z w B Q) : T ≤ 65536 * v + z := by
  obtain ⟨P, g⟩ := h.g
  have := g.top h.w1; have := h.x0; omega
theorem Gd.lt {T x v z w B Q q : Int} (h : Gd T x v z w B Q) (hq : w < q * B) : Q + 1 ≤ q := by
  rcases Int.lt_or_le Q q with h1 | h1
  · omega
  · have := Int.mul_le_mul_of_nonneg_right h1 (Int.le_of_lt h.bpos)
    have := h.qw; omega
theorem Gd.q1 {T x v z w B Q : Int} (h : Gd T x v z w B Q) : Q + 1 ≤ 65536 := h.lt h.w1
theorem Gd.first {T x v z w B Q : Int} (h : Gd T x v z w B Q) : Q ≤ T / v ∧ T / v ≤ 65537 ∧ 0 ≤ T % v ∧ T % v < 65536 ∧ T / v * v + T % v = T := by
  obtain ⟨P, g⟩ := h.g
  have hv : 0 < v := by have := h.v0; omega
  refine ⟨?_, ?_, Int.emod_nonneg _ (by omega), by have := Int.emod_lt_of_pos T hv; have := h.v1; omega, by rw [Int.mul_comm]; exact Int.mul_ediv_add_emod T v⟩
  · refine (Int.le_ediv_iff_mul_le hv).2 ?_
    rcases Int.lt_or_le T (Q * v) with h1 | h1
    · have h2 := g.over h.q0 (by
        have e : Q * (65536 * v + z) = 65536 * (Q * v) + Q * z := by rw [Int.mul_add]; congr 1; rw [← Int.mul_assoc, Int.mul_comm Q, Int.mul_assoc]
        have := Int.mul_nonneg h.q0 h.z0
        have := h.x1; omega)
      have := h.qw; omega
    · exact h1
  · have h2 : T / v < 65538 := Int.ediv_lt_of_lt_mul hv (by have := h.t1; have := h.z1; have := h.v0; omega)
    omega
theorem Gd.less {T x v z w B Q q r : Int} (h : Gd T x v z w B Q) (he : q * v + r = T) (hq : Q ≤ q) (hx : 65536 ≤ q ∨ 65536 * r + x < q * z) : Q ≤ q - 1 := by
  rcases hx with hx | hx
  · have := h.q1; omega
  · obtain ⟨P, g⟩ := h.g
    have h2 := g.over (q := q) (by have := h.q0; omega) (by
      have e : q * (65536 * v + z) = 65536 * (q * v) + q * z := by rw [Int.mul_add]; congr 1; rw [← Int.mul_assoc, Int.mul_comm q, Int.mul_assoc]
      omega)
    have := h.lt h2; omega
theorem Gd.done {T x v z w B Q q r : Int} (h : Gd T x v z w B Q) (he : q * v + r = T) (hq : Q ≤ q) (h1 : q < 65536) (hx : q * z ≤ 65536 * r + x) : q ≤ Q + 1 := by
  rcases Int.lt_or_le q 1 with h0 | h0
  · have := h.q0; omega
  obtain ⟨P, g⟩ := h.g
  have h2 := g.under (q := q - 1) (by omega) (by
    have e : q * (65536 * v + z) = 65536 * (q * v) + q * z := by rw [Int.mul_add]; congr 1; rw [← Int.mul_assoc, Int.mul_comm q, Int.mul_assoc]
    rw [Int.sub_mul, Int.mul_add q, e]
    have := h.v0; have := h.z0
    omega)
  rcases Int.lt_or_le (Q + 1) q with h3 | h3
  · have h4 : (Q + 1) * B ≤ (q - 1) * B := Int.mul_le_mul_of_nonneg_right (by omega) (Int.le_of_lt h.bpos)
    have := h.wq; omega
  · exact h3
/-- A guess whose rest is past the base. -/
theorem Gd.past {T x v z w B Q q r : Int} (h : Gd T x v z w B Q) (he : q * v + r = T) (hq : Q ≤ q) (hr : 65536 ≤ r) : q < 65536 ∧ q * z ≤ 65536 * r + x := by
  have hv := h.v0
  have h1 : q < 65536 := by
    rcases Int.lt_or_le q 65536 with h1 | h1
    · exact h1
    · have h2 : 65536 * v ≤ q * v := Int.mul_le_mul_of_nonneg_right h1 (by omega)
      have := h.t1; have := h.z1; omega
  refine ⟨h1, ?_⟩
  have h2 : q * z ≤ 65535 * 65535 := Int.mul_le_mul (by omega) (by have := h.z1; omega) h.z0 (by omega)
  have := h.x0; omega
theorem getD_drop {l : List Int} {n j : Nat} : (l.drop n).getD j 0 = l.getD (n + j) 0 := by
  simp [List.getD_eq_getElem?_getD]
theorem lt_pow_mul {k : Nat} {x y c : Int} (hc : 0 ≤ c) (h : c + 65536 ^ k * x < 65536 ^ k * y) : x < y := by
  rcases Int.lt_or_le x y with h1 | h1
  · exact h1
  · have := Int.mul_le_mul_of_nonneg_left h1 (show (0 : Int) ≤ 65536 ^ k from Int.pow_nonneg (by omega))
    omega
theorem Gd.of {V u : List Int} {p j : Nat} (dV : Dgs V) (hV : V.length = p + 2) (hv : 32768 ≤ V.getD (p + 1) 0) (du : Dgs u) (hj : j + (p + 2) < u.length) (hu : val u < 65536 ^ (j + 1) * val V) :
    val u = val (u.take j) + 65536 ^ j * val (u.drop j) ∧ val (u.drop (j + (p + 3))) = 0 ∧
    Gd (65536 * u.getD (j + (p + 2)) 0 + u.getD (j + (p + 1)) 0) (u.getD (j + p) 0) (V.getD (p + 1) 0) (V.getD p 0) (val (u.drop j)) (val V) (val (u.drop j) / val V) := by
  have hs := val_split u j (by omega)
  have l0 := val_nonneg (du.take j)
  have hW := val_nonneg (du.drop j)
  have dW := du.drop j
  have hwl : val (u.drop j) < 65536 * val V := by
    refine lt_pow_mul (k := j) l0 ?_
    rw [← hs, ← Int.mul_assoc, ← Int.pow_succ]; exact hu
  have V1 : val V = val (V.take p) + 65536 ^ p * (65536 * V.getD (p + 1) 0 + V.getD p 0) := by
    have h1 := val_take_succ (l := V) (k := p + 1) (by omega)
    have h2 := val_take_succ (l := V) (k := p) (by omega)
    rw [List.take_of_length_le (by omega)] at h1
    rw [h1, h2, Int.pow_succ, Int.mul_add, ← Int.mul_assoc]; omega
  have V2 := val_lt (dV.take p)
  rw [show (V.take p).length = p by simp; omega] at V2
  have V3 := val_nonneg (dV.take p)
  have gv0 := dV.get p
  have gv1 := dV.get (p + 1)
  have u0 := du.get (j + p)
  have u1 := du.get (j + (p + 1))
  have u2 := du.get (j + (p + 2))
  have hP : (0 : Int) < 65536 ^ p := Int.pow_pos (by omega)
  have Vp : 0 < val V := by
    have : 0 < (65536 : Int) ^ p * (65536 * V.getD (p + 1) 0 + V.getD p 0) := Int.mul_pos hP (by omega)
    omega
  have Vlt := val_lt dV
  rw [hV] at Vlt
  have top0 : val (u.drop (j + (p + 3))) = 0 := by
    have h1 := val_split (u.drop j) (p + 3) (by simp; omega)
    rw [List.drop_drop] at h1
    have h2 := val_nonneg (dW.take (p + 3))
    have h3 := val_nonneg (du.drop (j + (p + 3)))
    have h4 : val (u.drop (j + (p + 3))) < 1 := by
      refine lt_pow_mul (k := p + 3) h2 ?_
      rw [← h1, Int.mul_one, Int.pow_succ]; omega
    omega
  have W1 : val (u.drop j) = val ((u.drop j).take p) + 65536 ^ p * (65536 * (65536 * u.getD (j + (p + 2)) 0 + u.getD (j + (p + 1)) 0) + u.getD (j + p) 0) := by
    have h0 := val_split (u.drop j) (p + 3) (by simp; omega)
    rw [List.drop_drop, top0] at h0
    have h1 : val ((u.drop j).take (p + 3)) = val ((u.drop j).take (p + 2)) + 65536 ^ (p + 2) * (u.drop j).getD (p + 2) 0 := val_take_succ (by simp; omega)
    have h2 : val ((u.drop j).take (p + 2)) = val ((u.drop j).take (p + 1)) + 65536 ^ (p + 1) * (u.drop j).getD (p + 1) 0 := val_take_succ (by simp; omega)
    have h3 := val_take_succ (l := u.drop j) (k := p) (by simp; omega)
    simp only [getD_drop] at h1 h2 h3
    have e2 : (65536 : Int) ^ (p + 1) = 65536 ^ p * 65536 := Int.pow_succ ..
    have e3 : (65536 : Int) ^ (p + 2) = 65536 ^ p * 65536 * 65536 := by rw [Int.pow_succ, e2]
    rw [h0, h1, h2, h3, Int.mul_zero, e3, e2]
    simp only [Int.mul_add, Int.mul_assoc]
    omega
  have W2 := val_lt (dW.take p)
  rw [show ((u.drop j).take p).length = p by simp; omega] at W2
  have W3 := val_nonneg (dW.take p)
  refine ⟨hs, top0, ⟨⟨65536 ^ p, ⟨hP, by omega, by rw [Int.mul_add, Int.mul_one]; omega, by omega, by rw [Int.mul_add, Int.mul_one]; omega⟩⟩, u0.1, u0.2, hv, gv1.2, gv0.1, gv0.2, by omega, hwl, Int.ediv_nonneg hW (by omega), Int.ediv_mul_le _ (by omega), Int.lt_ediv_add_one_mul_self _ Vp⟩⟩

end Pf
/- Whole numbers: quotients. -/
namespace Pf
open Go Go.Proofs

theorem Dgs.set {l : List Int} (h : Dgs l) {k : Nat} {x : Int} (x0 : 0 ≤ x) (x1 : x < 65536) : Dgs (l.set k x) := fun d hd => by
  rcases List.mem_or_eq_of_mem_set hd with h1 | h1
  · exact h d h1
  · subst h1; exact ⟨x0, x1⟩
/-- A rest that is met in several places: it is told by its first use. -/
structure Later (X : Prop) : Prop where
  get : X
theorem cutK {X G : Prop} (main : Later X → G) (k : X) : G := main ⟨k⟩
theorem divmod {a b : Nat} {x y : Int} (h : x * b + y = a) (y0 : 0 ≤ y) (y1 : y < b) : x = ((a / b : Nat) : Int) ∧ y = ((a % b : Nat) : Int) := by
  have e1 : (a : Int) / b = x := by
    rw [← h, Int.add_comm, Int.add_mul_ediv_right _ _ (by omega), Int.ediv_eq_zero_of_lt y0 y1]; omega
  have e2 : (a : Int) % b = y := by
    rw [← h, Int.add_comm, Int.add_mul_emod_self_right, Int.emod_eq_of_lt y0 y1]
  exact ⟨by rw [← e1]; simp, by rw [← e2]; simp⟩
end Pf
/- Whole numbers: common divisors and roots. -/
namespace Pf
open Go Go.Proofs

theorem root_ex : ∀ a : Nat, ∃ r, r * r ≤ a ∧ a < (r + 1) * (r + 1)
  | 0 => ⟨0, by omega, by omega⟩
  | a + 1 => by
    obtain ⟨r, h1, h2⟩ := root_ex a
    by_cases h : (r + 1) * (r + 1) ≤ a + 1
    · refine ⟨r + 1, h, ?_⟩
      have : (r + 1 + 1) * (r + 1 + 1) = (r + 1) * (r + 1) + 2 * (r + 1) + 1 := by simp only [Nat.add_mul, Nat.mul_add]; omega
      omega
    · exact ⟨r, by omega, by omega⟩
/-- The root, down. -/
noncomputable def isq (a : Nat) : Nat := Classical.choose (root_ex a)
end Pf
/- Boxes: slices of pairs. -/
namespace Pf
open Go Go.Proofs

/-- Rows of pairs. -/
def prow (l : List (Int × Int)) : Nat → List AV := fun i => [.int .i64 (l.getD i (0, 0)).1, .int .i64 (l.getD i (0, 0)).2]
def bx (l : List (Int × Int)) : AV := .agg [.fz l.length (prow l)]
def boxOk (w : Int) (l : List (Int × Int)) : Prop := 1 ≤ l.length ∧ l.length ≤ 6 ∧ ∀ a ∈ l, pairOk w a.1 a.2
end Pf
/- Whole numbers: which digits are one. -/
namespace Pf
open Go Go.Proofs

/-- Digits of a number that is not too long. -/
def natOk (l : List Int) : Prop := l.length ≤ 256 ∧ (l.length = 0 ∨ l.getD (l.length - 1) 0 ≠ 0) ∧ Dgs l
theorem dig_top : ∀ n : Nat, n ≠ 0 → (dig n).getD ((dig n).length - 1) 0 ≠ 0 := by
  intro n
  induction n using Nat.strongRecOn with
  | ind n ih =>
    intro hn
    by_cases h : n / 65536 = 0
    · rw [dig_pos hn, h, dig_zero]; simp; omega
    · have := ih (n / 65536) (by omega) h
      have hl : 0 < (dig (n / 65536)).length := by
        cases hd : dig (n / 65536) with
        | nil => exact absurd (dig_nil.1 hd) h
        | cons a l => simp
      rw [dig_pos hn]
      simp only [List.length_cons]
      obtain ⟨m, hm⟩ : ∃ m, (dig (n / 65536)).length = m + 1 := ⟨_, (Nat.sub_add_cancel hl).symm⟩
      rw [hm] at this ⊢
      simpa using this
theorem natOk_of {n : Nat} (h : (dig n).length ≤ 256) : natOk (dig n) := by
  refine ⟨h, ?_, dig_dgs n⟩
  by_cases hn : n = 0
  · left; rw [hn, dig_zero]; rfl
  · right; exact dig_top n hn
end Pf
/- Fractions: which are one. -/
namespace Pf
open Go Go.Proofs

end Pf
/- Fractions: impl's own functions. -/
namespace Pf
open Go Go.Proofs

open Classical in
/-- The sign of a fraction. -/
noncomputable def fsgn (p : Prop) (t : List Int) : Int := if p then -1 else if t = [] then 0 else 1
end Pf
/- Fractions: sums. -/
namespace Pf
open Go Go.Proofs

open Classical in
/-- The numerator of a sum, and whether it is below 0: of a/b and c/d, x = a d and y = c b. -/
noncomputable def sumT (p q : Prop) (x y : Nat) : Nat := if (p ↔ q) then x + y else if y ≤ x then x - y else y - x
def sumP (p q : Prop) (x y : Nat) : Prop := if (y ≤ x) then p else q
end Pf
/- Fractions: what is handed out. -/
namespace Pf
open Go Go.Proofs

section
variable {P : Program} {TT : TypeId → Option TI} {f N n0 : Nat} {k : List Item} {T : Env} {H : AHeap} {R : AV → AHeap → Prop}
variable {nf : Nat} {ops : Array Oper} {past op pend' : List Nat} {vin ws vs' : List (Option Nat × AV)} {ps : List Prop} {cl : List CallM}
end
end Pf
/- Fractions: impl's exported functions. -/
namespace Pf
open Go Go.Proofs

/-- The digits are those of a fraction. -/
def frOk (p : Prop) (t u : List Int) : Prop := natOk t ∧ natOk u ∧ u ≠ [] ∧ (t = [] → ¬ p) ∧ Nat.gcd (val t).toNat (val u).toNat = 1
/-- No fraction, as it stands in memory. -/
abbrev nilF : AV := .tup [.agg [.bool false, .nils, .nils], .bool false]
theorem AFunP.subv {P : Program} {f : FuncId} {args : List AV} {v u : AV} (h : AFunP P f args (· = v)) (hs : Sub v u) (hc : clo u = true) : AFunP P f args (· = u) :=
  AFun.mono h fun _ _ ⟨ps, u0, u1, h1, h2, h3, _, h5⟩ => ⟨ps, u0, u, h1, h2, fun FM β cv h => hs FM β cv (by have := h3 FM β cv h; rwa [h5] at this), hc, rfl⟩
/-- A new fraction and true. -/
def NewFT (p : Prop) (t u : List Int) (v : AV) (H : AHeap) : Prop := v = .tup [.agg [.pr p, .sl 0 0 0 t.length, .sl 1 0 0 u.length], .pr True] ∧ H = [.ints 0 .i64 t, .ints 0 .i64 u]
end Pf
/- Whole numbers: the model's own functions. -/
namespace Pf
open Go Go.Proofs

theorem l5Trim_ok (l : List Int) (hl : l.length ≤ 1000000000) : AFunP Tryz.prog 97 [.fi .i64 l] (· = .fi .i64 (trimL l)) := by
  refine afun_of Tryz.func97 Tryz.call97 rfl Tryz.ntmps97 rfl ?_
  have W : Walk Tryz.prog TT 97 _ := Walk.of TT_ok Tryz.func97 Tryz.results97
  refine' cutK (fun K => ?main) ?k
  case main =>
    refine lp W 0 (σ := List Int) (fun m => [(0, .fi .i64 l), (2, .nils), (3, .int .i64 m.length)]) (fun _ => []) (fun m => m.length) (fun m => trimL m = trimL l ∧ ∃ z, l = m ++ z) l [0, 2, 3] rfl rfl rfl ⟨rfl, [], by simp⟩ ?_
    rintro m ⟨h1, z, h2⟩ ih
    have hml : m.length ≤ l.length := by rw [h2]; simp
    refine sp W 0 rfl rfl rfl (fun h3 => ?_) (fun h3 => ?_)
    · have h3 : 0 < m.length := by omega
      have hne : m ≠ [] := by rintro rfl; simp at h3
      obtain ⟨n, d, rfl⟩ : ∃ n d, m = n ++ [d] := ⟨_, _, (List.dropLast_concat_getLast hne).symm⟩
      have e1 : (((n ++ [d]).length : Int) - 1).toNat = n.length := by simp
      have e2 : l.getD n.length 0 = d := by rw [h2]; simp
      refine sp W 0 rfl rfl rfl (fun h4 => ?_) (fun h4 => ?_)
      · rw [e1, e2] at h4
        have e3 : (((n ++ [d]).length : Int) - 1) = n.length := by simp
        have hnl : n.length ≤ 1000000000 := by rw [h2] at hl; simp at hl; omega
        refine bk W 0 [0, 2, 3] rfl rfl (by rw [e3]; exact ih n ⟨by rw [← h1, trimL_snoc, if_pos h4], d :: z, by rw [h2]; simp⟩ (by simp)) (hc := ?_)
        simp only [AllC, e3, true_and, and_true]; omega
      · rw [e1, e2] at h4
        have e3 : trimL l = n ++ [d] := by rw [← h1, trimL_snoc, if_neg h4]
        refine atl W rfl ?_
        refine go_nilT 4 (.ints 0 .i64 []) rfl rfl rfl rfl rfl ?_
        refine lp W 0 (σ := Nat × Nat × List Int) (fun s => [(0, .fi .i64 l), (3, .int .i64 (trimL l).length), (4, .sl 0 s.2.1 0 s.1), (5, .int .i64 s.1)]) (fun s => [.ints s.2.1 .i64 s.2.2]) (fun s => (trimL l).length - s.1)
          (fun s => (∃ z, l = trimL l ++ z) ∧ s.1 ≤ (trimL l).length ∧ s.2.2 = l.take s.1) (0, 0, []) [0, 3, 4, 5] rfl (by rw [e3]; rfl) rfl ⟨⟨z, by rw [e3]; exact h2⟩, Nat.zero_le _, by simp⟩ K.get
    · have hm : m = [] := List.eq_nil_of_length_eq_zero (by omega)
      subst hm
      have e3 : trimL l = [] := by rw [← h1]; rfl
      refine atl W rfl ?_
      refine go_nilT 4 (.ints 0 .i64 []) rfl rfl rfl rfl rfl ?_
      refine lp W 0 (σ := Nat × Nat × List Int) (fun s => [(0, .fi .i64 l), (3, .int .i64 (trimL l).length), (4, .sl 0 s.2.1 0 s.1), (5, .int .i64 s.1)]) (fun s => [.ints s.2.1 .i64 s.2.2]) (fun s => (trimL l).length - s.1)
          (fun s => (∃ z, l = trimL l ++ z) ∧ s.1 ≤ (trimL l).length ∧ s.2.2 = l.take s.1) (0, 0, []) [0, 3, 4, 5] rfl (by rw [e3]; rfl) rfl ⟨⟨l, by rw [e3]; rfl⟩, Nat.zero_le _, by simp⟩ K.get
  case k =>
    rintro ⟨i, g, o⟩ ⟨⟨z, hz⟩, hi, ho⟩ ih
    dsimp only at hi ho ih ⊢
    have hlt : (trimL l).length ≤ l.length := by conv => rhs; rw [hz]
                                                 simp
    have hol : o.length = i := by rw [ho]; simp; omega
    refine sp W 0 rfl rfl rfl (fun h1 => ?_) (fun h1 => ?_)
    · have h1 : i < l.length := by omega
      refine bd W 0 1 [0, 3, 4, 5] rfl rfl rfl rfl rfl (ih (i + 1, g + 1, o ++ [l.getD i 0]) ⟨⟨z, hz⟩, by dsimp only; omega, ?_⟩ (by dsimp only; omega))
      rw [ho, List.take_add_one, List.getD_eq_getElem?_getD, List.getElem?_eq_getElem h1]; rfl
    · have hiL : i = (trimL l).length := by omega
      have e4 : o = trimL l := by
        rw [ho, hiL]
        have := congrArg (List.take (trimL l).length) hz
        rwa [List.take_left] at this
      refine rp W 0 rfl rfl rfl (.fi e4)
end Pf
/- Whole numbers: digits by numbers alone. -/
namespace Pf
open Go Go.Proofs

end Pf
/- Whole numbers: the model's own functions, simple ones. -/
namespace Pf
open Go Go.Proofs
theorem specNatOk_ok (l : List Int) (hl : l.length ≤ 9223372036854775806) : AFunP Tryz.prog 89 [.fi .i64 l] (· = .pr (natOk l)) := by
  refine afun_of Tryz.func89 Tryz.call89 rfl Tryz.ntmps89 rfl ?_
  have W : Walk Tryz.prog TT 89 _ := Walk.of TT_ok Tryz.func89 Tryz.results89
  refine sp W 0 rfl rfl rfl (fun h1 => ?_) (fun h1 => ?_)
  · refine rp W 0 rfl rfl rfl (.no (fun h => by have := h.1; omega))
  refine lp W 0 (σ := Nat) (fun i => [(0, .fi .i64 l), (3, .int .i64 i)]) (fun _ => []) (fun i => l.length - i) (fun i => i ≤ l.length ∧ ∀ j, j < i → 0 ≤ l.getD j 0 ∧ l.getD j 0 < 65536) 0 [0, 3] rfl rfl rfl ⟨Nat.zero_le _, fun j hj => by omega⟩ ?_
  rintro i ⟨hi, he⟩ ih
  have bad : ∀ h : i < l.length, ¬ (0 ≤ l.getD i 0 ∧ l.getD i 0 < 65536) → ¬ natOk l := fun h h2 h3 => h2 (h3.2.2 _ (getD_mem h))
  refine sp W 0 rfl rfl rfl (fun h2 => ?_) (fun h2 => ?_)
  · have h2 : i < l.length := by omega
    refine sp W 0 rfl rfl rfl (fun h3 => ?_) (fun h3 => ?_)
    · rw [Int.toNat_natCast] at h3
      refine rp W 0 rfl rfl rfl (.no (bad h2 (by omega)))
    · refine sp W 0 rfl rfl rfl (fun h4 => ?_) (fun h4 => ?_)
      · rw [Int.toNat_natCast] at h4
        refine rp W 0 rfl rfl rfl (.no (bad h2 (by omega)))
      · rw [Int.toNat_natCast] at h3 h4
        refine bk W 0 [0, 3] rfl rfl (ih (i + 1) ⟨by omega, fun j hj => ?_⟩ (by omega))
        by_cases hji : j = i
        · subst hji; omega
        · exact he j (by omega)
  · have hil : i = l.length := by omega
    subst hil
    have hd : Dgs l := dgs_of_getD he
    refine sp W 0 rfl rfl rfl (fun h3 => ?_) (fun h3 => ?_)
    · refine rp W 0 rfl rfl rfl (.yes ⟨by omega, .inl (by omega), hd⟩)
    · have e : ((l.length : Int) - 1).toNat = l.length - 1 := by omega
      refine rp W 0 rfl rfl rfl (.pr (by rw [e]; exact ⟨fun h => ⟨by omega, .inr h, hd⟩, fun h => h.2.1.resolve_left (by omega)⟩))
theorem specNatOf_ok (n : Nat) (h1 : n ≤ 18446744073709551615) : AFunP Tryz.prog 73 [.int .u64 n] (· = .fi .i64 (dig n)) := by
  refine afun_of Tryz.func73 Tryz.call73 rfl Tryz.ntmps73 rfl ?_
  have W : Walk Tryz.prog TT 73 _ := Walk.of TT_ok Tryz.func73 Tryz.results73
  refine atl W rfl ?_
  refine go_nilT 3 (.ints 0 .i64 []) rfl rfl rfl rfl rfl ?_
  refine lp W 0 (σ := Nat × Nat × List Int) (fun s => [(0, .int .u64 s.1), (3, .sl 0 s.2.1 0 s.2.2.length)]) (fun s => [.ints s.2.1 .i64 s.2.2]) (fun s => s.1) (fun s => s.1 ≤ 18446744073709551615 ∧ s.2.2 ++ dig s.1 = dig n) (n, 0, []) [0, 3] rfl rfl rfl ⟨h1, rfl⟩ ?_
  rintro ⟨m, g, l⟩ ⟨hm, he⟩ ih
  dsimp only at hm he ih ⊢
  have hl : l.length ≤ 4 := by
    have h2 := congrArg List.length he
    rw [List.length_append] at h2
    have h3 : (dig n).length ≤ 4 := dig_len_le.2 (by omega)
    omega
  refine sp W 0 rfl rfl rfl (fun h2 => ?_) (fun h2 => ?_)
  · have hm0 : m ≠ 0 := by omega
    have e1 : ((m : Int) % 65536) = ((m % 65536 : Nat) : Int) := by omega
    have e2 : ((m : Int) / 65536) = ((m / 65536 : Nat) : Int) := by omega
    rw [dig_pos hm0] at he
    have nx := ih (m / 65536, g + 1, l ++ [((m % 65536 : Nat) : Int)]) ⟨by dsimp only; omega, by simpa using he⟩ (by dsimp only; omega)
    dsimp only at nx
    rw [List.length_append, ← e1, ← e2] at nx
    refine bd W 0 1 [0, 3] rfl rfl rfl rfl rfl (nx)
  · have hm0 : m = 0 := by omega
    subst hm0
    rw [dig_zero, List.append_nil] at he
    refine rp W 0 rfl rfl rfl (.fi he)
end Pf
/- Whole numbers: the model's own functions, sums, products, shifts. -/
namespace Pf
open Go Go.Proofs
theorem l5DivSmall_ok (a d : Nat) (hd0 : 0 < d) (hd : d < 65536) (ha : (dig a).length ≤ 10000000) : AFunP Tryz.prog 90 [.fi .i64 (dig a), .int .i64 d] (· = .tup [.fi .i64 (dig (a / d)), .int .i64 ((a % d : Nat) : Int)]) := by
  refine afun_of Tryz.func90 Tryz.call90 rfl Tryz.ntmps90 rfl ?_
  have W : Walk Tryz.prog TT 90 _ := Walk.of TT_ok Tryz.func90 Tryz.results90
  have da := dig_dgs a
  refine lp W 0 (σ := Nat × Int × List Int) (fun s => [(0, .fi .i64 (dig a)), (1, .int .i64 d), (6, .sl 0 0 0 (dig a).length), (7, .int .i64 s.2.1), (8, .int .i64 ((s.1 : Int) - 1))]) (fun s => [.ints 0 .i64 s.2.2]) (fun s => s.1)
      (fun s => s.1 ≤ (dig a).length ∧ s.2.2.length = (dig a).length ∧ 0 ≤ s.2.1 ∧ s.2.1 < d ∧ val s.2.2 * d + s.2.1 * 65536 ^ s.1 + val ((dig a).take s.1) = a ∧ ∀ j, 0 ≤ s.2.2.getD j 0 ∧ s.2.2.getD j 0 < 65536 ∧ (j < s.1 → s.2.2.getD j 0 = 0))
      ((dig a).length, 0, List.replicate (dig a).length 0) [0, 1, 6, 7, 8] rfl rfl rfl ⟨Nat.le_refl _, by simp, by simp, by dsimp only; omega, by simp [val_replicate, val, List.take_length, val_dig], fun j => ?_⟩ ?_
  · have : (List.replicate (dig a).length (0 : Int)).getD j 0 = 0 := by
      rw [List.getD_eq_getElem?_getD, List.getElem?_replicate]; split <;> rfl
    dsimp only; omega
  rintro ⟨t, r, l⟩ ⟨ht, hl, r0, r1, hv, hdd⟩ ih
  dsimp only at ht hl r0 r1 hv hdd ih ⊢
  refine sp W 0 rfl rfl rfl (fun h3 => ?_) (fun h3 => ?_)
  · obtain ⟨t, rfl⟩ : ∃ m, t = m + 1 := ⟨t - 1, by omega⟩
    have et : (((t + 1 : Nat) : Int) - 1) = (t : Int) := by omega
    have ga := da.get t
    obtain ⟨N, hN⟩ : ∃ N, r * 65536 + (dig a).getD t 0 = N := ⟨_, rfl⟩
    have n0 : 0 ≤ N := by omega
    have q0 : 0 ≤ N / d := Int.ediv_nonneg n0 (by omega)
    have q1 : N / d < 65536 := Int.ediv_lt_of_lt_mul (by omega) (by omega)
    have m0 := Int.emod_nonneg N (b := d) (by omega)
    have m1 := Int.emod_lt_of_pos N (b := d) (by omega)
    have gl := (hdd t).2.2 (by omega)
    have nx := ih (t, N % d, l.set t (N / d)) ⟨by dsimp only; omega, by simpa using hl, m0, m1, ?_, fun j => ?_⟩ (by dsimp only; omega)
    · rw [et]
      rw [← hN] at nx
      refine bk W 0 [0, 1, 6, 7, 8] rfl rfl (nx) (hc := by simp only [AllC, addN, Int.toNat_natCast, true_and, and_true, eq_self, List.length_set, List.length_cons, List.length_nil, List.length_append, List.length_replicate, wrapU, pw1, pw7, pw8, pw16, pw23, pw32, pw52] <;> first | omega | ((repeat' apply And.intro) <;> first | omega | (intros; rfl)))
    · dsimp only
      rw [val_take_succ (show t < (dig a).length by omega), Int.pow_succ] at hv
      rw [val_set _ _ _ (by omega), gl, Int.sub_zero, Int.add_mul, Int.mul_assoc (65536 ^ t), Int.mul_comm (N % d)]
      have e1 : N / d * d + N % d = r * 65536 + (dig a).getD t 0 := by rw [Int.mul_comm]; rw [hN]; exact Int.mul_ediv_add_emod N d
      have e2 : 65536 ^ t * (N / d * d) + 65536 ^ t * (N % d) = r * (65536 ^ t * 65536) + 65536 ^ t * (dig a).getD t 0 := by
        rw [← Int.mul_add, e1, Int.mul_add]; congr 1; simp only [Int.mul_assoc, Int.mul_comm, Int.mul_left_comm]
      omega
    · dsimp only
      rw [getD_set _ _ _ _ (by omega)]
      have := hdd j
      split <;> omega
  · obtain rfl : t = 0 := by omega
    have dl : Dgs l := dgs_of_getD fun j hj => by have := hdd j; omega
    simp only [List.take_zero, val, Int.pow_zero, Int.mul_one, Int.add_zero] at hv
    have v0 := val_nonneg dl
    obtain ⟨u1, u2⟩ := divmod hv r0 r1
    refine cf W 0 [0] [7] rfl rfl rfl rfl rfl rfl (l5Trim_ok l (by omega)) rfl ?_
    refine rp W 0 rfl rfl rfl (.tup ⟨.fi (by rw [trimL_dig dl, u1, Int.toNat_natCast]), .int u2, trivial⟩)
end Pf
/- Whole numbers: the model's own quotient -/
namespace Pf
open Go Go.Proofs
end Pf
/- Fractions: the model's own parts -/
namespace Pf
open Go Go.Proofs
open Classical in
/-- A fraction of a and b, in lowest terms, if it has not too many digits. -/
noncomputable def made (p : Prop) (a b : Nat) : AV := if (dig (a / Nat.gcd a b)).length ≤ 256 ∧ (dig (b / Nat.gcd a b)).length ≤ 256 then .tup [frF (p ∧ a ≠ 0) (dig (a / Nat.gcd a b)) (dig (b / Nat.gcd a b)), .pr True] else .tup [frF False [] [], .pr False]
end Pf
/- Fractions: the model's sums and products -/
namespace Pf
open Go Go.Proofs
open Classical in
/-- A fraction and true; nothing and false. -/
noncomputable def resF (ok p : Prop) (t u : List Int) : AV := if ok then .tup [frF p t u, .pr True] else .tup [frF False [] [], .pr False]
theorem resF_no {ok p : Prop} {t u : List Int} (h : ¬ ok) : resF ok p t u = .tup [frF False [] [], .pr False] := if_neg h
theorem resF_yes {ok p : Prop} {t u : List Int} (h : ok) : resF ok p t u = .tup [frF p t u, .pr True] := if_pos h
theorem sub_noF : Sub (.tup [.agg [.bool false, .nils, .nils], .bool false]) (.tup [frF False [] [], .pr False]) := .tup ⟨.agg ⟨.no id, .nils_fi, .nils_fi, trivial⟩, .no id, trivial⟩
/-- The number of digits. -/
def nm (l : List Int) : Nat := (val l).toNat
/-- In lowest terms. -/
def lT (a b : Nat) : List Int := dig (a / Nat.gcd a b)
def lB (a b : Nat) : List Int := dig (b / Nat.gcd a b)
def fits (a b : Nat) : Prop := (lT a b).length ≤ 256 ∧ (lB a b).length ≤ 256
noncomputable def negR (p : Prop) (t u : List Int) : AV := resF (frOk p t u) (¬ p ∧ t ≠ []) t u
noncomputable def mulR (p : Prop) (t u : List Int) (q : Prop) (x y : List Int) : AV :=
  resF ((frOk p t u ∧ frOk q x y) ∧ fits (nm t * nm x) (nm u * nm y)) (¬ (p ↔ q) ∧ nm t * nm x ≠ 0) (lT (nm t * nm x) (nm u * nm y)) (lB (nm t * nm x) (nm u * nm y))
noncomputable def divR (p : Prop) (t u : List Int) (q : Prop) (x y : List Int) : AV :=
  resF ((frOk p t u ∧ frOk q x y ∧ x ≠ []) ∧ fits (nm t * nm y) (nm u * nm x)) (¬ (p ↔ q) ∧ nm t * nm y ≠ 0) (lT (nm t * nm y) (nm u * nm x)) (lB (nm t * nm y) (nm u * nm x))
noncomputable def sT (p : Prop) (t u : List Int) (q : Prop) (x y : List Int) : Nat := sumT p q (nm t * nm y) (nm x * nm u)
noncomputable def sP (p : Prop) (t u : List Int) (q : Prop) (x y : List Int) : Prop := sumP p q (nm t * nm y) (nm x * nm u)
noncomputable def addR (p : Prop) (t u : List Int) (q : Prop) (x y : List Int) : AV :=
  resF ((frOk p t u ∧ frOk q x y) ∧ fits (sT p t u q x y) (nm u * nm y)) (sP p t u q x y ∧ sT p t u q x y ≠ 0) (lT (sT p t u q x y) (nm u * nm y)) (lB (sT p t u q x y) (nm u * nm y))
noncomputable def subR (p : Prop) (t u : List Int) (q : Prop) (x y : List Int) : AV :=
  resF ((frOk p t u ∧ frOk q x y) ∧ fits (sT p t u (¬ q ∧ x ≠ []) x y) (nm u * nm y)) (sP p t u (¬ q ∧ x ≠ []) x y ∧ sT p t u (¬ q ∧ x ≠ []) x y ≠ 0) (lT (sT p t u (¬ q ∧ x ≠ []) x y) (nm u * nm y)) (lB (sT p t u (¬ q ∧ x ≠ []) x y) (nm u * nm y))
end Pf
/- Fractions: impl's exported sums and products -/
namespace Pf
open Go Go.Proofs
/-- What a function over fractions answers: whether there is a fraction, and which. -/
structure FRes where
  ok : Prop
  p : Prop
  t : List Int
  u : List Int
noncomputable def FRes.av (r : FRes) : AV := resF r.ok r.p r.t r.u
noncomputable def negS (p : Prop) (t u : List Int) : FRes := ⟨frOk p t u, ¬ p ∧ t ≠ [], t, u⟩
noncomputable def mulS (p : Prop) (t u : List Int) (q : Prop) (x y : List Int) : FRes :=
  ⟨(frOk p t u ∧ frOk q x y) ∧ fits (nm t * nm x) (nm u * nm y), ¬ (p ↔ q) ∧ nm t * nm x ≠ 0, lT (nm t * nm x) (nm u * nm y), lB (nm t * nm x) (nm u * nm y)⟩
noncomputable def divS (p : Prop) (t u : List Int) (q : Prop) (x y : List Int) : FRes :=
  ⟨(frOk p t u ∧ frOk q x y ∧ x ≠ []) ∧ fits (nm t * nm y) (nm u * nm x), ¬ (p ↔ q) ∧ nm t * nm y ≠ 0, lT (nm t * nm y) (nm u * nm x), lB (nm t * nm y) (nm u * nm x)⟩
noncomputable def addS (p : Prop) (t u : List Int) (q : Prop) (x y : List Int) : FRes :=
  ⟨(frOk p t u ∧ frOk q x y) ∧ fits (sT p t u q x y) (nm u * nm y), sP p t u q x y ∧ sT p t u q x y ≠ 0, lT (sT p t u q x y) (nm u * nm y), lB (sT p t u q x y) (nm u * nm y)⟩
noncomputable def subS (p : Prop) (t u : List Int) (q : Prop) (x y : List Int) : FRes :=
  ⟨(frOk p t u ∧ frOk q x y) ∧ fits (sT p t u (¬ q ∧ x ≠ []) x y) (nm u * nm y), sP p t u (¬ q ∧ x ≠ []) x y ∧ sT p t u (¬ q ∧ x ≠ []) x y ≠ 0, lT (sT p t u (¬ q ∧ x ≠ []) x y) (nm u * nm y), lB (sT p t u (¬ q ∧ x ≠ []) x y) (nm u * nm y)⟩
/-- A function answers so, in new memory. -/
structure ImplF (g : FuncId) (args : List AV) (r : FRes) : Prop where
  no : ¬ r.ok → AFunP Tryz.prog g args (· = nilF)
  yes : r.ok → AFunN Tryz.prog g args (NewFT r.p r.t r.u)
  lt : r.ok → r.t.length ≤ 256
  lu : r.ok → r.u.length ≤ 256
theorem ImplF.fz {g : FuncId} {args : List AV} {r : FRes} (h : ImplF g args r) {ss : List Prop} (e : mapF (frz (fun _ => true) [] 9) args = some (ss, args)) (hs : AllC ss) (hc : cloL args = true) : AFunP Tryz.prog g args (· = r.av) := by
  by_cases ho : r.ok
  · refine (h.yes ho).toP e hs hc fun u H2 ⟨h1, h2⟩ => ?_
    subst h1; subst h2
    exact ⟨_, _, .tup [frF r.p r.t r.u, .pr True], rfl, ⟨⟨trivial, rfl, rfl⟩, rfl, rfl⟩, .refl, rfl, (resF_yes ho).symm⟩
  · have e : r.av = _ := resF_no ho
    rw [e]; exact (h.no ho).subv sub_noF rfl
end Pf
/- Fractions as rational numbers -/
namespace Pf
open Go Go.Proofs
/-- Fractions as rational numbers. -/
def dt (r : Rat) : List Int := dig r.num.natAbs
def db (r : Rat) : List Int := dig r.den
def frR (r : Rat) : AV := frF (r < 0) (dt r) (db r)
def small (r : Rat) : Prop := (dt r).length ≤ 256 ∧ (db r).length ≤ 256
open Classical in
/-- A number with a sign. -/
noncomputable def sg (p : Prop) (a : Nat) : Int := if p then -(a : Int) else a
theorem sg_abs (p : Prop) (a : Nat) : (sg p a).natAbs = a := by unfold sg; split <;> simp
theorem num_neg {r : Rat} : r < 0 ↔ r.num < 0 := by
  rw [← Rat.not_le, ← Rat.num_nonneg]; omega
theorem mkRat_parts (p : Prop) (a b : Nat) (hb : b ≠ 0) : lT a b = dt (mkRat (sg p a) b) ∧ lB a b = db (mkRat (sg p a) b) ∧ ((p ∧ a ≠ 0) ↔ mkRat (sg p a) b < 0) := by
  have hb0 : 0 < b := by omega
  have hg : (b.gcd (sg p a).natAbs : Nat) = a.gcd b := by rw [sg_abs, Nat.gcd_comm]
  have hgp : 0 < a.gcd b := Nat.gcd_pos_of_pos_right a hb0
  have hq : (a : Int) / ((a.gcd b : Nat) : Int) = ((a / a.gcd b : Nat) : Int) := by simp
  refine ⟨?_, ?_, ?_⟩
  · unfold lT dt
    rw [Rat.num_mkRat, if_neg hb, hg]
    congr 1
    unfold sg
    split
    · rw [Int.neg_ediv_of_dvd (Int.natCast_dvd_natCast.2 (Nat.gcd_dvd_left a b)), Int.natAbs_neg, hq, Int.natAbs_natCast]
    · rw [hq, Int.natAbs_natCast]
  · unfold lB db
    rw [Rat.den_mkRat, if_neg hb, hg]
  · rw [num_neg, Rat.num_mkRat, if_neg hb, hg]
    have hd : ((a.gcd b : Nat) : Int) ∣ (a : Int) := Int.natCast_dvd_natCast.2 (Nat.gcd_dvd_left a b)
    unfold sg
    split
    · rename_i hp
      rw [Int.neg_ediv_of_dvd hd]
      constructor
      · rintro ⟨_, h0⟩
        have h1 : 0 < a / a.gcd b := Nat.div_pos (Nat.gcd_le_left b (by omega)) hgp
        rw [hq]; have := Int.natCast_pos.2 h1; omega
      · intro h
        refine ⟨hp, fun h0 => ?_⟩
        subst h0; simp at h
    · rename_i hp
      constructor
      · exact fun h => absurd h.1 hp
      · intro h
        rw [hq] at h; exact absurd h (Int.not_lt.2 (Int.natCast_nonneg _))
/-- A fraction's number. -/
noncomputable def rat (p : Prop) (t u : List Int) : Rat := mkRat (sg p (nm t)) (nm u)
theorem fits_iff (p : Prop) (a b : Nat) (hb : b ≠ 0) : fits a b ↔ small (mkRat (sg p a) b) := by
  obtain ⟨h1, h2, _⟩ := mkRat_parts p a b hb
  unfold fits small; rw [h1, h2]
/-- What is answered, by a number. -/
noncomputable def FRes.ofRat (ok : Prop) (r : Rat) : FRes := ⟨ok ∧ small r, r < 0, dt r, db r⟩
end Pf
/- Floats: values and roundings, numbers alone -/
namespace Pf
open Go Go.Proofs
/-- The value of a float from 0 on, in the least float's units; F: the bits of a fraction. -/
def fv (F n : Nat) : Nat := if n < 2 ^ F then n else (2 ^ F + n % 2 ^ F) * 2 ^ (n / 2 ^ F - 1)
theorem fv_zero (F : Nat) : fv F 0 = 0 := by
  unfold fv; rw [if_pos (Nat.pow_pos (by omega))]
/-- The greatest float below T whose value is not above X. -/
theorem tr_ex (F T X : Nat) : ∃ n, n ≤ T - 1 ∧ fv F n ≤ X ∧ (n = T - 1 ∨ X < fv F (n + 1)) := by
  generalize T - 1 = M
  induction M with
  | zero => exact ⟨0, by omega, by rw [fv_zero]; omega, .inl rfl⟩
  | succ M ih =>
    obtain ⟨n, h1, h2, h3⟩ := ih
    rcases h3 with rfl | h3
    · by_cases h : fv F (n + 1) ≤ X
      · exact ⟨n + 1, by omega, h, .inl rfl⟩
      · exact ⟨n, by omega, h2, .inr (by omega)⟩
    · exact ⟨n, by omega, h2, .inr h3⟩
noncomputable def trn (F T X : Nat) : Nat := Classical.choose (tr_ex F T X)
end Pf
/- Floats: roundings of rationals -/
namespace Pf
open Go Go.Proofs
/-- The bits of a fraction, the power of the least float (without sign), the greatest exponent, the infinite float. -/
def fF (w : Int) : Nat := if w = 32 then 23 else 52
def fK (w : Int) : Nat := if w = 32 then 149 else 1074
def fG (w : Int) : Nat := if w = 32 then 127 else 1023
def fT (w : Int) : Nat := (2 * fG w + 1) * 2 ^ fF w
/-- The greatest float that is not above a / b, and whether it is it. -/
noncomputable def tvN (w : Int) (a b : Nat) : Nat := trn (fF w) (fT w) (a * 2 ^ fK w / b)
def teN (w : Int) (a b : Nat) : Prop := fv (fF w) (tvN w a b) * b = a * 2 ^ fK w
noncomputable def tv (w : Int) (r : Rat) : Nat := tvN w r.num.natAbs r.den
def te (w : Int) (r : Rat) : Prop := teN w r.num.natAbs r.den
open Classical in
/-- The next float behind the greatest that is not above. -/
noncomputable def nx (w : Int) (r : Rat) : Nat := if te w r then tv w r else tv w r + 1
open Classical in
/-- The greatest float that is not above a number; the least that is not below. -/
noncomputable def dn (w : Int) (r : Rat) : Int := if r < 0 then -(nx w r : Int) else tv w r
open Classical in
noncomputable def up (w : Int) (r : Rat) : Int := if r < 0 then -(tv w r : Int) else nx w r
end Pf
/- Noughts that a number ends in -/
namespace Pf
open Go Go.Proofs
/-- How many noughts a number ends in. -/
def tzN (n : Nat) : Nat := if h : n = 0 then 0 else if n % 2 = 0 then tzN (n / 2) + 1 else 0
termination_by n
decreasing_by omega
end Pf
/- The parts of a float -/
namespace Pf
open Go Go.Proofs
/-- The parts of a float from 0 on: the number, the power in the least float's units. -/
def fsz (F n : Nat) : Nat := if n < 2 ^ F then n else 2 ^ F + n % 2 ^ F
def fpw (F n : Nat) : Nat := n / 2 ^ F - 1
end Pf
/- The model's text of a number -/
namespace Pf
open Go Go.Proofs
/-- The model's text of a number. -/
theorem specNatText_ok (m : Nat) (hm : m ≤ 60000) : AFunP Tryz.prog 72 [.fi .i64 (dig m)] (· = .str (Lib.decDigits m)) := by
  have lm : (dig m).length ≤ 1 := dig_len_le.2 (by rw [Nat.pow_one]; omega)
  refine afun_of Tryz.func72 Tryz.call72 rfl Tryz.ntmps72 rfl ?_
  have W : Walk Tryz.prog TT 72 _ := Walk.of TT_ok Tryz.func72 Tryz.results72
  refine ce W 0 rfl rfl (specNatOk_ok (dig m) (by omega)) rfl ?_
  refine sp W 0 rfl rfl rfl (fun h1 => ?_) (fun h1 => ?_)
  · exact absurd (natOk_of (n := m) (by omega)) h1
  refine sp W 0 rfl rfl rfl (fun h2 => ?_) (fun h2 => ?_)
  · have : m = 0 := dig_nil.1 (List.length_eq_zero_iff.1 (by omega))
    subst this
    rw [dec_small (by omega)]
    refine rp W 0 rfl rfl rfl (.refl)
  have hm0 : m ≠ 0 := fun k => h2 (by rw [k, dig_zero]; rfl)
  have hb : ∀ x : Nat, UInt8.ofNat ((48 : Int) + ((x % 10 : Nat) : Int)).toNat = UInt8.ofNat (48 + x % 10) := fun x => by congr 1
  refine atl W rfl ?_
  refine go_nilT 3 (.ints 0 .u8 []) rfl rfl rfl rfl rfl ?_
  refine lp W 0 (σ := Nat × Nat × List Int) (fun s => [(3, .sl 0 s.2.1 0 s.2.2.length), (4, .fi .i64 (dig s.1))]) (fun s => [.ints s.2.1 .u8 s.2.2]) (fun s => s.1) (fun s => s.1 ≤ m ∧ (if s.1 = 0 then [] else Lib.decDigits s.1) ++ bytesT s.2.2.reverse = Lib.decDigits m) (m, 0, []) [3, 4] rfl rfl rfl ⟨Nat.le_refl _, by dsimp only; rw [if_neg hm0]; simp [bytesT]⟩ ?_
  rintro ⟨x, g, B⟩ ⟨hx, he⟩ ih
  dsimp only at hx he ih ⊢
  have lx : (dig x).length ≤ 1 := dig_len_le.2 (by rw [Nat.pow_one]; omega)
  have lB : B.length ≤ 2000 := by
    have h := congrArg List.length he
    rw [List.length_append] at h
    simp only [bytesT, List.length_map, List.length_reverse] at h
    have h4 : (Lib.decDigits m).length ≤ 5 := by rw [dec_len]; exact nDig_le (by omega) (by omega)
    omega
  refine sp W 0 rfl rfl rfl (fun h3 => ?_) (fun h3 => ?_)
  · have hx0 : x ≠ 0 := fun k => by rw [k, dig_zero] at h3; simp at h3
    refine ce W 0 rfl rfl (l5DivSmall_ok x 10 (by omega) (by omega) (by omega)) rfl ?_
    have nx := ih (x / 10, g + 1, B ++ [48 + ((x % 10 : Nat) : Int)]) ⟨by dsimp only; omega, ?_⟩ (by dsimp only; omega)
    · dsimp only at nx
      rw [List.length_append] at nx
      refine bd W 0 1 [3, 4] rfl rfl rfl rfl rfl (nx)
    · dsimp only
      rw [← he, if_neg hx0, List.reverse_append]
      simp only [List.reverse_cons, List.reverse_nil, List.nil_append, List.singleton_append, bytesT, List.map_cons]
      rw [hb]
      by_cases h10 : x < 10
      · rw [if_pos (by omega), dec_small h10, show x % 10 = x by omega]; rfl
      · rw [if_neg (by omega), dec_big h10, List.append_assoc]; rfl
  · have hx0 : x = 0 := dig_nil.1 (List.length_eq_zero_iff.1 (by omega))
    rw [if_pos hx0, List.nil_append] at he
    refine atl W rfl ?_
    refine go_nilT 7 (.ints 0 .u8 []) rfl rfl rfl rfl rfl ?_
    refine lp W 0 (σ := Nat × Nat × List Int) (fun s => [(3, .sl 0 g 0 B.length), (7, .sl 1 s.2.1 0 s.2.2.length), (8, .int .i64 ((s.1 : Int) - 1))]) (fun s => [.ints g .u8 B, .ints s.2.1 .u8 s.2.2]) (fun s => s.1) (fun s => s.1 + s.2.2.length = B.length ∧ s.2.2 = B.reverse.take s.2.2.length) (B.length, 0, []) [3, 7, 8] rfl rfl rfl ⟨rfl, rfl⟩ ?_
    rintro ⟨j, g2, O⟩ ⟨hj, hO⟩ ih2
    dsimp only at hj hO ih2 ⊢
    refine sp W 0 rfl rfl rfl (fun h4 => ?_) (fun h4 => ?_)
    · have hlast : B.getD (addN 0 ((j : Int) - 1).toNat) 0 = B.reverse.getD O.length 0 := by
        rw [addNz, show ((j : Int) - 1).toNat = B.length - 1 - O.length by omega, List.getD_eq_getElem?_getD, List.getD_eq_getElem?_getD, List.getElem?_reverse (by omega)]
      have nx := ih2 (j - 1, g2 + 1, O ++ [B.getD (addN 0 ((j : Int) - 1).toNat) 0]) ⟨by simp; omega, ?_⟩ (by dsimp only; omega)
      · dsimp only at nx
        rw [List.length_append, show ((j - 1 : Nat) : Int) = (j : Int) - 1 by omega] at nx
        refine bd W 0 2 [3, 7, 8] rfl rfl rfl rfl rfl (nx)
      · dsimp only
        rw [List.length_append, List.length_singleton, List.take_add_one, ← hO, hlast, List.getD_eq_getElem?_getD, List.getElem?_eq_getElem (by simp; omega)]
        rfl
    · have hO2 : O = B.reverse := by
        rw [hO]
        exact List.take_of_length_le (by simp; omega)
      rw [← he, ← hO2]
      refine rp W 0 rfl rfl rfl (.refl)
end Pf
/- Slopes: the model's slope of a node -/
namespace Pf
open Go Go.Proofs
/-- A program of which each way puts one node at most. -/
def Pg.one : Pg → Prop
  | .ret _ => True
  | .put _ k => ∀ i, ∃ v, k i = .ret v
  | .is _ _ k => ∀ t, (k t).one
theorem runS_one {P : Pg} (h : P.one) : ∀ N, (runS P N).2.length ≤ N.length + 1 := by
  induction P with
  | ret v => intro N; exact Nat.le_succ _
  | put x k ih =>
    intro N
    simp only [runS]
    split
    · obtain ⟨v, e⟩ := h (idxG N x)
      rw [e]; exact Nat.le_succ _
    · obtain ⟨v, e⟩ := h N.length
      rw [e]; simp [runS]
  | is a s k ih => intro N; simp only [runS]; exact ih _ (h _) N
theorem one_num (s : List UInt8) : (numP s).one := fun i => ⟨_, rfl⟩
theorem one_neg (a : Int) : (negP a).one := fun t => by cases t <;> first | exact trivial | exact fun i => ⟨_, rfl⟩
theorem one_sum (a b : Int) : (sumP' a b).one := fun t => by cases t <;> first | exact trivial | (intro t; cases t <;> first | exact trivial | exact fun i => ⟨_, rfl⟩)
theorem one_less (a b : Int) : (lessP a b).one := fun t => by cases t <;> first | exact trivial | (intro t; cases t <;> first | exact one_neg b | exact fun i => ⟨_, rfl⟩)
theorem one_times (a b : Int) : (timesP a b).one := fun t => by cases t <;> first | exact trivial | (intro t; cases t <;> first | exact trivial | (intro t; cases t <;> first | exact trivial | (intro t; cases t <;> first | exact trivial | exact fun i => ⟨_, rfl⟩)))
theorem one_by (a b : Int) : (byP a b).one := fun t => by cases t <;> first | exact trivial | exact fun i => ⟨_, rfl⟩
theorem one_raised (a n : Int) : (raisedP a n).one := by unfold raisedP; split; exact trivial; exact fun i => ⟨_, rfl⟩
theorem go_state {P : Program} {f N n0 : Nat} {k : List Item} {T : Env} {H : AHeap} {R : AV → AHeap → Prop} (ds : List Nat) (T1 : Env) (H1 : AHeap) (e : keepM T ds = some T1) (eH : H = H1) (h : AGo P f N n0 k T1 H1 R) : AGo P f N n0 k T H R := by
  subst eH
  exact fun FM β b cs a w a1 a2 a3 a4 hT hH hn => h FM β b cs a w a1 a2 a3 a4 (hT.keep e) hH hn
def MsQ (v : Int) (rs : List Gr) (r : Int × List Gn) (h : Nat) (K : List Int) (u : AV) (H : AHeap) : Prop := ∃ g', u = .int .i64 r.1 ∧ H = MkS v rs r.2 g' ++ [.ints h .i64 K]
/-- No two nodes are alike. -/
def ndG (N : List Gn) : Prop := ∀ i j, i < j → j < N.length → N.getD i g0 ≠ N.getD j g0
theorem mslope_ok (at' w : Int) (x : Gn) (K : List Int) (v : Int) (N : List Gn) (rs : List Gr) (g h : Nat) (hN : N.length ≤ 900000) (hat : 0 ≤ at' ∧ at' < N.length) (hx : N.getD at'.toNat g0 = x) (hd : ndG N)
    (hk : 1 ≤ x.k ∧ x.k ≤ 9) (hn : 0 ≤ x.n ∧ x.n ≤ 60000) (hnm : x.k = 2 → x.n = at') (hKp : 0 < N.length) (hK : ∀ i, 0 ≤ K.getD i 0 ∧ K.getD i 0 < N.length)
    (hpa : 3 ≤ x.k → (0 ≤ x.a ∧ x.a < N.length) ∧ x.a < K.length) (hpb : 4 ≤ x.k ∧ x.k ≤ 7 → (0 ≤ x.b ∧ x.b < N.length) ∧ x.b < K.length) : AFun Tryz.prog 44 [.ptr 0 0 0 0, .int .i64 at', .int .i64 w, .sl 2 h 0 K.length] (MkS v rs N g ++ [.ints h .i64 K]) (MsQ v rs (runS (slopeG at' x w (ofK K)) N) h K) := by
  have hA : 0 ≤ ofK K x.a ∧ ofK K x.a < N.length := hK _
  have hB : 0 ≤ ofK K x.b ∧ ofK K x.b < N.length := hK _
  have hN' : N.length ≤ 1000000 := by omega
  have zat : addN 0 at'.toNat = at'.toNat := addNz _
  have zA : addN 0 x.a.toNat = x.a.toNat := addNz _
  have zB : addN 0 x.b.toNat = x.b.toNat := addNz _
  have hx2 : N.getD (addN 0 at'.toNat) g0 = x := by rw [addNz]; exact hx
  have ko : AFunP Tryz.prog 73 [.int .u64 x.n] (· = .fi .i64 (dig x.n.toNat)) := by
    have := specNatOf_ok x.n.toNat (by omega)
    rwa [Int.toNat_of_nonneg hn.1] at this
  have kt := specNatText_ok x.n.toNat (by omega)
  refine AFun.trim 3 ?_ (by simp [MkS])
  refine afun_of Tryz.func44 Tryz.call44 rfl Tryz.ntmps44 rfl ?_
  have W : Walk Tryz.prog TT 44 _ := Walk.of TT_ok Tryz.func44 Tryz.results44
  unfold slopeG
  refine sp W 0 rfl rfl rfl (fun h1 => ?_) (fun h1 => ?_) (hc := by simp only [AllC, true_and, and_true]; omega)
  · rw [hx2] at h1
    rw [if_neg (by omega), if_neg (by omega), if_neg (by omega), if_neg (by omega), if_neg (by omega), if_neg (by omega), if_neg (by omega), if_neg (by omega)]
    obtain ⟨⟨r1, N1⟩, e1⟩ : ∃ q, runS (numP t0) N = q := ⟨_, rfl⟩
    have c1 : AFun Tryz.prog 64 [.ptr 0 0 0 0, .str t0] (MkS v rs N g) (MkQ v rs (r1, N1)) := by
      have := mnumber_ok t0 v N rs g hN'
      rw [e1] at this
      exact this
    have hl1 : N.length ≤ N1.length := by
      have := runS_len (numP t0) N
      rw [e1] at this
      exact this
    have hm1 : N1.length ≤ N.length + 1 := by
      have := runS_one (P := numP t0) (one_num _) N
      rw [e1] at this
      exact this
    have hr1 : 0 ≤ r1 ∧ r1 < N1.length := by
      have := runS_ok (P := numP t0) (N := N) (ok_num _ _) (Nat.le_refl _)
      rw [e1] at this
      exact this
    have hN1 : N1.length ≤ 1000000 := by omega
    refine go_callS W 0 300 [0, 1] rfl (by first | exact True.intro | (simp only [AllC, AllP, addN, Int.toNat_natCast, true_and, and_true, Option.getD, List.length_set, wrapU, pw1, pw7, pw8, pw16, pw23, pw32, pw52, Holds] <;> first | omega | ((repeat' apply And.intro) <;> first | omega | (intros; rfl))) | (simp [AllC, AllP, addN, cloL, clo, mrgL, mrg, wrapU, Holds] <;> omega)) c1 rfl rfl ⟨rfl, fun _ _ => rfl, trivial⟩ ⟨rfl, rfl, trivial⟩ rfl ?_
    rintro _ _ ⟨g1, rfl, rfl⟩
    refine ⟨_, _, rfl, rfl, ?_⟩
    rw [e1]
    refine go_retS W 0 300 3 rfl (by first | exact True.intro | (simp only [AllC, AllP, addN, Int.toNat_natCast, true_and, and_true, Option.getD, List.length_set, wrapU, pw1, pw7, pw8, pw16, pw23, pw32, pw52, Holds] <;> first | omega | ((repeat' apply And.intro) <;> first | omega | (intros; rfl))) | (simp [AllC, AllP, addN, cloL, clo, mrgL, mrg, wrapU, Holds] <;> omega)) rfl (by first | exact True.intro | (simp only [AllC, AllP, addN, Int.toNat_natCast, true_and, and_true, Option.getD, List.length_set, wrapU, pw1, pw7, pw8, pw16, pw23, pw32, pw52, Holds] <;> first | omega | ((repeat' apply And.intro) <;> first | omega | (intros; rfl))) | (simp [AllC, AllP, addN, cloL, clo, mrgL, mrg, wrapU, Holds] <;> omega)) (.int .i64 (r1)) .refl rfl ⟨g1, rfl, rfl⟩
  rw [hx2] at h1
  refine go_state [0, 1, 2, 3, 9, 28, 29] [(0, .ptr 0 0 0 0), (1, .int .i64 at'), (2, .int .i64 w), (3, .sl 2 h 0 K.length), (9, .ptr 3 0 0 0), (28, .int .i64 x.k), (29, .bool false)] [.lst 0 [[.int .i64 v, .sl 1 g 0 N.length, .fz rs.length (grR rs)]], .tab g N.length (gnR N), .ints h .i64 K, .lst 0 [[.int .i64 x.k, .int .i64 x.a, .int .i64 x.b, .int .i64 x.n, .str x.t]]] (by first | (rw [← hx2]; done) | (rw [← hx2]; rfl)) (by first | (rw [← hx2]; done) | (rw [← hx2]; rfl)) ?_
  refine sp W 0 rfl rfl rfl (fun k2 => ?_) (fun k2 => ?_)
  · rw [if_pos k2, hnm k2]
    refine sp W 0 rfl rfl rfl (fun h2 => ?_) (fun h2 => ?_)
    · rw [if_pos h2]
      obtain ⟨⟨r1, N1⟩, e1⟩ : ∃ q, runS (numP t1) N = q := ⟨_, rfl⟩
      have c1 : AFun Tryz.prog 64 [.ptr 0 0 0 0, .str t1] (MkS v rs N g) (MkQ v rs (r1, N1)) := by
        have := mnumber_ok t1 v N rs g hN'
        rw [e1] at this
        exact this
      have hl1 : N.length ≤ N1.length := by
        have := runS_len (numP t1) N
        rw [e1] at this
        exact this
      have hm1 : N1.length ≤ N.length + 1 := by
        have := runS_one (P := numP t1) (one_num _) N
        rw [e1] at this
        exact this
      have hr1 : 0 ≤ r1 ∧ r1 < N1.length := by
        have := runS_ok (P := numP t1) (N := N) (ok_num _ _) (Nat.le_refl _)
        rw [e1] at this
        exact this
      have hN1 : N1.length ≤ 1000000 := by omega
      refine go_callS W 0 300 [0, 1] rfl (by first | exact True.intro | (simp only [AllC, AllP, addN, Int.toNat_natCast, true_and, and_true, Option.getD, List.length_set, wrapU, pw1, pw7, pw8, pw16, pw23, pw32, pw52, Holds] <;> first | omega | ((repeat' apply And.intro) <;> first | omega | (intros; rfl))) | (simp [AllC, AllP, addN, cloL, clo, mrgL, mrg, wrapU, Holds] <;> omega)) c1 rfl rfl ⟨rfl, fun _ _ => rfl, trivial⟩ ⟨rfl, rfl, trivial⟩ rfl ?_
      rintro _ _ ⟨g1, rfl, rfl⟩
      refine ⟨_, _, rfl, rfl, ?_⟩
      rw [e1]
      refine go_retS W 0 300 3 rfl (by first | exact True.intro | (simp only [AllC, AllP, addN, Int.toNat_natCast, true_and, and_true, Option.getD, List.length_set, wrapU, pw1, pw7, pw8, pw16, pw23, pw32, pw52, Holds] <;> first | omega | ((repeat' apply And.intro) <;> first | omega | (intros; rfl))) | (simp [AllC, AllP, addN, cloL, clo, mrgL, mrg, wrapU, Holds] <;> omega)) rfl (by first | exact True.intro | (simp only [AllC, AllP, addN, Int.toNat_natCast, true_and, and_true, Option.getD, List.length_set, wrapU, pw1, pw7, pw8, pw16, pw23, pw32, pw52, Holds] <;> first | omega | ((repeat' apply And.intro) <;> first | omega | (intros; rfl))) | (simp [AllC, AllP, addN, cloL, clo, mrgL, mrg, wrapU, Holds] <;> omega)) (.int .i64 (r1)) .refl rfl ⟨g1, rfl, rfl⟩
    · rw [if_neg h2]
      obtain ⟨⟨r1, N1⟩, e1⟩ : ∃ q, runS (numP t0) N = q := ⟨_, rfl⟩
      have c1 : AFun Tryz.prog 64 [.ptr 0 0 0 0, .str t0] (MkS v rs N g) (MkQ v rs (r1, N1)) := by
        have := mnumber_ok t0 v N rs g hN'
        rw [e1] at this
        exact this
      have hl1 : N.length ≤ N1.length := by
        have := runS_len (numP t0) N
        rw [e1] at this
        exact this
      have hm1 : N1.length ≤ N.length + 1 := by
        have := runS_one (P := numP t0) (one_num _) N
        rw [e1] at this
        exact this
      have hr1 : 0 ≤ r1 ∧ r1 < N1.length := by
        have := runS_ok (P := numP t0) (N := N) (ok_num _ _) (Nat.le_refl _)
        rw [e1] at this
        exact this
      have hN1 : N1.length ≤ 1000000 := by omega
      refine go_callS W 0 300 [0, 1] rfl (by first | exact True.intro | (simp only [AllC, AllP, addN, Int.toNat_natCast, true_and, and_true, Option.getD, List.length_set, wrapU, pw1, pw7, pw8, pw16, pw23, pw32, pw52, Holds] <;> first | omega | ((repeat' apply And.intro) <;> first | omega | (intros; rfl))) | (simp [AllC, AllP, addN, cloL, clo, mrgL, mrg, wrapU, Holds] <;> omega)) c1 rfl rfl ⟨rfl, fun _ _ => rfl, trivial⟩ ⟨rfl, rfl, trivial⟩ rfl ?_
      rintro _ _ ⟨g1, rfl, rfl⟩
      refine ⟨_, _, rfl, rfl, ?_⟩
      rw [e1]
      refine go_retS W 0 300 3 rfl (by first | exact True.intro | (simp only [AllC, AllP, addN, Int.toNat_natCast, true_and, and_true, Option.getD, List.length_set, wrapU, pw1, pw7, pw8, pw16, pw23, pw32, pw52, Holds] <;> first | omega | ((repeat' apply And.intro) <;> first | omega | (intros; rfl))) | (simp [AllC, AllP, addN, cloL, clo, mrgL, mrg, wrapU, Holds] <;> omega)) rfl (by first | exact True.intro | (simp only [AllC, AllP, addN, Int.toNat_natCast, true_and, and_true, Option.getD, List.length_set, wrapU, pw1, pw7, pw8, pw16, pw23, pw32, pw52, Holds] <;> first | omega | ((repeat' apply And.intro) <;> first | omega | (intros; rfl))) | (simp [AllC, AllP, addN, cloL, clo, mrgL, mrg, wrapU, Holds] <;> omega)) (.int .i64 (r1)) .refl rfl ⟨g1, rfl, rfl⟩
  rw [if_neg k2]
  refine sp W 0 rfl rfl rfl (fun k3 => ?_) (fun k3 => ?_)
  · rw [if_pos k3]
    have hxa := (hpa (by omega)).1
    have ha2 := (hpa (by omega)).2
    obtain ⟨⟨r1, N1⟩, e1⟩ : ∃ q, runS (negP (ofK K x.a)) N = q := ⟨_, rfl⟩
    have c1 : AFun Tryz.prog 65 [.ptr 0 0 0 0, .int .i64 (K.getD (addN 0 x.a.toNat) 0)] (MkS v rs N g) (MkQ v rs (r1, N1)) := by
      have := mneg_ok (ofK K x.a) v N rs g hA hN'
      rw [e1] at this
      rw [addNz]
      exact this
    have hl1 : N.length ≤ N1.length := by
      have := runS_len (negP (ofK K x.a)) N
      rw [e1] at this
      exact this
    have hm1 : N1.length ≤ N.length + 1 := by
      have := runS_one (P := negP (ofK K x.a)) (one_neg _) N
      rw [e1] at this
      exact this
    have hr1 : 0 ≤ r1 ∧ r1 < N1.length := by
      have := runS_ok (P := negP (ofK K x.a)) (N := N) (ok_neg hA) (Nat.le_refl _)
      rw [e1] at this
      exact this
    have hN1 : N1.length ≤ 1000000 := by omega
    refine go_callS W 0 300 [0, 1] rfl (by first | exact True.intro | (simp only [AllC, AllP, addN, Int.toNat_natCast, true_and, and_true, Option.getD, List.length_set, wrapU, pw1, pw7, pw8, pw16, pw23, pw32, pw52, Holds] <;> first | omega | ((repeat' apply And.intro) <;> first | omega | (intros; rfl))) | (simp [AllC, AllP, addN, cloL, clo, mrgL, mrg, wrapU, Holds] <;> omega)) c1 rfl rfl ⟨rfl, fun _ _ => rfl, trivial⟩ ⟨rfl, rfl, trivial⟩ rfl ?_
    rintro _ _ ⟨g1, rfl, rfl⟩
    refine ⟨_, _, rfl, rfl, ?_⟩
    rw [e1]
    refine go_retS W 0 300 3 rfl (by first | exact True.intro | (simp only [AllC, AllP, addN, Int.toNat_natCast, true_and, and_true, Option.getD, List.length_set, wrapU, pw1, pw7, pw8, pw16, pw23, pw32, pw52, Holds] <;> first | omega | ((repeat' apply And.intro) <;> first | omega | (intros; rfl))) | (simp [AllC, AllP, addN, cloL, clo, mrgL, mrg, wrapU, Holds] <;> omega)) rfl (by first | exact True.intro | (simp only [AllC, AllP, addN, Int.toNat_natCast, true_and, and_true, Option.getD, List.length_set, wrapU, pw1, pw7, pw8, pw16, pw23, pw32, pw52, Holds] <;> first | omega | ((repeat' apply And.intro) <;> first | omega | (intros; rfl))) | (simp [AllC, AllP, addN, cloL, clo, mrgL, mrg, wrapU, Holds] <;> omega)) (.int .i64 (r1)) .refl rfl ⟨g1, rfl, rfl⟩
  rw [if_neg k3]
  refine sp W 0 rfl rfl rfl (fun k4 => ?_) (fun k4 => ?_)
  · rw [if_pos k4]
    have hxa := (hpa (by omega)).1
    have ha2 := (hpa (by omega)).2
    have hxb := (hpb (by omega)).1
    have hb2 := (hpb (by omega)).2
    obtain ⟨⟨r1, N1⟩, e1⟩ : ∃ q, runS (sumP' (ofK K x.a) (ofK K x.b)) N = q := ⟨_, rfl⟩
    have c1 : AFun Tryz.prog 66 [.ptr 0 0 0 0, .int .i64 (K.getD (addN 0 x.a.toNat) 0), .int .i64 (K.getD (addN 0 x.b.toNat) 0)] (MkS v rs N g) (MkQ v rs (r1, N1)) := by
      have := madd_ok (ofK K x.a) (ofK K x.b) v N rs g hA hB hN'
      rw [e1] at this
      rw [addNz, addNz]
      exact this
    have hl1 : N.length ≤ N1.length := by
      have := runS_len (sumP' (ofK K x.a) (ofK K x.b)) N
      rw [e1] at this
      exact this
    have hm1 : N1.length ≤ N.length + 1 := by
      have := runS_one (P := sumP' (ofK K x.a) (ofK K x.b)) (one_sum _ _) N
      rw [e1] at this
      exact this
    have hr1 : 0 ≤ r1 ∧ r1 < N1.length := by
      have := runS_ok (P := sumP' (ofK K x.a) (ofK K x.b)) (N := N) (ok_sum hA hB) (Nat.le_refl _)
      rw [e1] at this
      exact this
    have hN1 : N1.length ≤ 1000000 := by omega
    refine dre W 0 11 [] [] rfl rfl rfl trivial rfl ?_ (hp := by simp only [AllP, Holds, Option.getD, true_and, and_true]; omega)
    refine go_callS W 0 300 [0, 1] rfl (by first | exact True.intro | (simp only [AllC, AllP, addN, Int.toNat_natCast, true_and, and_true, Option.getD, List.length_set, wrapU, pw1, pw7, pw8, pw16, pw23, pw32, pw52, Holds] <;> first | omega | ((repeat' apply And.intro) <;> first | omega | (intros; rfl))) | (simp [AllC, AllP, addN, cloL, clo, mrgL, mrg, wrapU, Holds] <;> omega)) c1 rfl rfl ⟨rfl, fun _ _ => rfl, trivial⟩ ⟨rfl, rfl, trivial⟩ rfl ?_
    rintro _ _ ⟨g1, rfl, rfl⟩
    refine ⟨_, _, rfl, rfl, ?_⟩
    rw [e1]
    refine go_retS W 0 300 3 rfl (by first | exact True.intro | (simp only [AllC, AllP, addN, Int.toNat_natCast, true_and, and_true, Option.getD, List.length_set, wrapU, pw1, pw7, pw8, pw16, pw23, pw32, pw52, Holds] <;> first | omega | ((repeat' apply And.intro) <;> first | omega | (intros; rfl))) | (simp [AllC, AllP, addN, cloL, clo, mrgL, mrg, wrapU, Holds] <;> omega)) rfl (by first | exact True.intro | (simp only [AllC, AllP, addN, Int.toNat_natCast, true_and, and_true, Option.getD, List.length_set, wrapU, pw1, pw7, pw8, pw16, pw23, pw32, pw52, Holds] <;> first | omega | ((repeat' apply And.intro) <;> first | omega | (intros; rfl))) | (simp [AllC, AllP, addN, cloL, clo, mrgL, mrg, wrapU, Holds] <;> omega)) (.int .i64 (r1)) .refl rfl ⟨g1, rfl, rfl⟩
  rw [if_neg k4]
  refine sp W 0 rfl rfl rfl (fun k5 => ?_) (fun k5 => ?_)
  · rw [if_pos k5]
    have hxa := (hpa (by omega)).1
    have ha2 := (hpa (by omega)).2
    have hxb := (hpb (by omega)).1
    have hb2 := (hpb (by omega)).2
    obtain ⟨⟨r1, N1⟩, e1⟩ : ∃ q, runS (lessP (ofK K x.a) (ofK K x.b)) N = q := ⟨_, rfl⟩
    have c1 : AFun Tryz.prog 67 [.ptr 0 0 0 0, .int .i64 (K.getD (addN 0 x.a.toNat) 0), .int .i64 (K.getD (addN 0 x.b.toNat) 0)] (MkS v rs N g) (MkQ v rs (r1, N1)) := by
      have := msub_ok (ofK K x.a) (ofK K x.b) v N rs g hA hB hN'
      rw [e1] at this
      rw [addNz, addNz]
      exact this
    have hl1 : N.length ≤ N1.length := by
      have := runS_len (lessP (ofK K x.a) (ofK K x.b)) N
      rw [e1] at this
      exact this
    have hm1 : N1.length ≤ N.length + 1 := by
      have := runS_one (P := lessP (ofK K x.a) (ofK K x.b)) (one_less _ _) N
      rw [e1] at this
      exact this
    have hr1 : 0 ≤ r1 ∧ r1 < N1.length := by
      have := runS_ok (P := lessP (ofK K x.a) (ofK K x.b)) (N := N) (ok_less hA hB) (Nat.le_refl _)
      rw [e1] at this
      exact this
    have hN1 : N1.length ≤ 1000000 := by omega
    refine dre W 0 11 [] [] rfl rfl rfl trivial rfl ?_ (hp := by simp only [AllP, Holds, Option.getD, true_and, and_true]; omega)
    refine go_callS W 0 300 [0, 1] rfl (by first | exact True.intro | (simp only [AllC, AllP, addN, Int.toNat_natCast, true_and, and_true, Option.getD, List.length_set, wrapU, pw1, pw7, pw8, pw16, pw23, pw32, pw52, Holds] <;> first | omega | ((repeat' apply And.intro) <;> first | omega | (intros; rfl))) | (simp [AllC, AllP, addN, cloL, clo, mrgL, mrg, wrapU, Holds] <;> omega)) c1 rfl rfl ⟨rfl, fun _ _ => rfl, trivial⟩ ⟨rfl, rfl, trivial⟩ rfl ?_
    rintro _ _ ⟨g1, rfl, rfl⟩
    refine ⟨_, _, rfl, rfl, ?_⟩
    rw [e1]
    refine go_retS W 0 300 3 rfl (by first | exact True.intro | (simp only [AllC, AllP, addN, Int.toNat_natCast, true_and, and_true, Option.getD, List.length_set, wrapU, pw1, pw7, pw8, pw16, pw23, pw32, pw52, Holds] <;> first | omega | ((repeat' apply And.intro) <;> first | omega | (intros; rfl))) | (simp [AllC, AllP, addN, cloL, clo, mrgL, mrg, wrapU, Holds] <;> omega)) rfl (by first | exact True.intro | (simp only [AllC, AllP, addN, Int.toNat_natCast, true_and, and_true, Option.getD, List.length_set, wrapU, pw1, pw7, pw8, pw16, pw23, pw32, pw52, Holds] <;> first | omega | ((repeat' apply And.intro) <;> first | omega | (intros; rfl))) | (simp [AllC, AllP, addN, cloL, clo, mrgL, mrg, wrapU, Holds] <;> omega)) (.int .i64 (r1)) .refl rfl ⟨g1, rfl, rfl⟩
  rw [if_neg k5]
  refine sp W 0 rfl rfl rfl (fun k6 => ?_) (fun k6 => ?_)
  · rw [if_pos k6]
    have hxa := (hpa (by omega)).1
    have ha2 := (hpa (by omega)).2
    have hxb := (hpb (by omega)).1
    have hb2 := (hpb (by omega)).2
    obtain ⟨⟨r1, N1⟩, e1⟩ : ∃ q, runS (timesP (ofK K x.a) (x.b)) N = q := ⟨_, rfl⟩
    have c1 : AFun Tryz.prog 68 [.ptr 0 0 0 0, .int .i64 (K.getD (addN 0 x.a.toNat) 0), .int .i64 (x.b)] (MkS v rs N g) (MkQ v rs (r1, N1)) := by
      have := mmul_ok (ofK K x.a) (x.b) v N rs g hA hxb hN'
      rw [e1] at this
      rw [addNz]
      exact this
    have hl1 : N.length ≤ N1.length := by
      have := runS_len (timesP (ofK K x.a) (x.b)) N
      rw [e1] at this
      exact this
    have hm1 : N1.length ≤ N.length + 1 := by
      have := runS_one (P := timesP (ofK K x.a) (x.b)) (one_times _ _) N
      rw [e1] at this
      exact this
    have hr1 : 0 ≤ r1 ∧ r1 < N1.length := by
      have := runS_ok (P := timesP (ofK K x.a) (x.b)) (N := N) (ok_times hA hxb) (Nat.le_refl _)
      rw [e1] at this
      exact this
    have hN1 : N1.length ≤ 1000000 := by omega
    refine dre W 0 8 [] [] rfl rfl rfl trivial rfl ?_ (hp := by simp only [AllP, Holds, Option.getD, true_and, and_true]; omega)
    refine go_callS W 0 300 [0, 1] rfl (by first | exact True.intro | (simp only [AllC, AllP, addN, Int.toNat_natCast, true_and, and_true, Option.getD, List.length_set, wrapU, pw1, pw7, pw8, pw16, pw23, pw32, pw52, Holds] <;> first | omega | ((repeat' apply And.intro) <;> first | omega | (intros; rfl))) | (simp [AllC, AllP, addN, cloL, clo, mrgL, mrg, wrapU, Holds] <;> omega)) c1 rfl rfl ⟨rfl, fun _ _ => rfl, trivial⟩ ⟨rfl, rfl, trivial⟩ rfl ?_
    rintro _ _ ⟨g1, rfl, rfl⟩
    refine ⟨_, _, rfl, rfl, ?_⟩
    rw [runS_bind, e1]
    dsimp only
    obtain ⟨⟨r2, N2⟩, e2⟩ : ∃ q, runS (timesP (x.a) (ofK K x.b)) N1 = q := ⟨_, rfl⟩
    have c2 : AFun Tryz.prog 68 [.ptr 0 0 0 0, .int .i64 (x.a), .int .i64 (K.getD (addN 0 x.b.toNat) 0)] (MkS v rs N1 g1) (MkQ v rs (r2, N2)) := by
      have := mmul_ok (x.a) (ofK K x.b) v N1 rs g1 ⟨hxa.1, by have := hxa.2; omega⟩ ⟨hB.1, by have := hB.2; omega⟩ hN1
      rw [e2] at this
      rw [addNz]
      exact this
    have hl2 : N1.length ≤ N2.length := by
      have := runS_len (timesP (x.a) (ofK K x.b)) N1
      rw [e2] at this
      exact this
    have hm2 : N2.length ≤ N1.length + 1 := by
      have := runS_one (P := timesP (x.a) (ofK K x.b)) (one_times _ _) N1
      rw [e2] at this
      exact this
    have hr2 : 0 ≤ r2 ∧ r2 < N2.length := by
      have := runS_ok (P := timesP (x.a) (ofK K x.b)) (N := N1) (ok_times ⟨hxa.1, by have := hxa.2; omega⟩ ⟨hB.1, by have := hB.2; omega⟩) (Nat.le_refl _)
      rw [e2] at this
      exact this
    have hN2 : N2.length ≤ 1000000 := by omega
    refine dre W 0 8 [] [] rfl rfl rfl trivial rfl ?_ (hp := by simp only [AllP, Holds, Option.getD, true_and, and_true]; omega)
    refine go_callS W 0 300 [0, 1] rfl (by first | exact True.intro | (simp only [AllC, AllP, addN, Int.toNat_natCast, true_and, and_true, Option.getD, List.length_set, wrapU, pw1, pw7, pw8, pw16, pw23, pw32, pw52, Holds] <;> first | omega | ((repeat' apply And.intro) <;> first | omega | (intros; rfl))) | (simp [AllC, AllP, addN, cloL, clo, mrgL, mrg, wrapU, Holds] <;> omega)) c2 rfl rfl ⟨rfl, fun _ _ => rfl, trivial⟩ ⟨rfl, rfl, trivial⟩ rfl ?_
    rintro _ _ ⟨g2, rfl, rfl⟩
    refine ⟨_, _, rfl, rfl, ?_⟩
    rw [runS_bind, e2]
    dsimp only
    obtain ⟨⟨r3, N3⟩, e3⟩ : ∃ q, runS (sumP' (r1) (r2)) N2 = q := ⟨_, rfl⟩
    have c3 : AFun Tryz.prog 66 [.ptr 0 0 0 0, .int .i64 (r1), .int .i64 (r2)] (MkS v rs N2 g2) (MkQ v rs (r3, N3)) := by
      have := madd_ok (r1) (r2) v N2 rs g2 ⟨hr1.1, by have := hr1.2; omega⟩ hr2 hN2
      rw [e3] at this
      exact this
    have hl3 : N2.length ≤ N3.length := by
      have := runS_len (sumP' (r1) (r2)) N2
      rw [e3] at this
      exact this
    have hm3 : N3.length ≤ N2.length + 1 := by
      have := runS_one (P := sumP' (r1) (r2)) (one_sum _ _) N2
      rw [e3] at this
      exact this
    have hr3 : 0 ≤ r3 ∧ r3 < N3.length := by
      have := runS_ok (P := sumP' (r1) (r2)) (N := N2) (ok_sum ⟨hr1.1, by have := hr1.2; omega⟩ hr2) (Nat.le_refl _)
      rw [e3] at this
      exact this
    have hN3 : N3.length ≤ 1000000 := by omega
    refine go_callS W 0 300 [0, 1] rfl (by first | exact True.intro | (simp only [AllC, AllP, addN, Int.toNat_natCast, true_and, and_true, Option.getD, List.length_set, wrapU, pw1, pw7, pw8, pw16, pw23, pw32, pw52, Holds] <;> first | omega | ((repeat' apply And.intro) <;> first | omega | (intros; rfl))) | (simp [AllC, AllP, addN, cloL, clo, mrgL, mrg, wrapU, Holds] <;> omega)) c3 rfl rfl ⟨rfl, fun _ _ => rfl, trivial⟩ ⟨rfl, rfl, trivial⟩ rfl ?_
    rintro _ _ ⟨g3, rfl, rfl⟩
    refine ⟨_, _, rfl, rfl, ?_⟩
    rw [e3]
    refine go_retS W 0 300 3 rfl (by first | exact True.intro | (simp only [AllC, AllP, addN, Int.toNat_natCast, true_and, and_true, Option.getD, List.length_set, wrapU, pw1, pw7, pw8, pw16, pw23, pw32, pw52, Holds] <;> first | omega | ((repeat' apply And.intro) <;> first | omega | (intros; rfl))) | (simp [AllC, AllP, addN, cloL, clo, mrgL, mrg, wrapU, Holds] <;> omega)) rfl (by first | exact True.intro | (simp only [AllC, AllP, addN, Int.toNat_natCast, true_and, and_true, Option.getD, List.length_set, wrapU, pw1, pw7, pw8, pw16, pw23, pw32, pw52, Holds] <;> first | omega | ((repeat' apply And.intro) <;> first | omega | (intros; rfl))) | (simp [AllC, AllP, addN, cloL, clo, mrgL, mrg, wrapU, Holds] <;> omega)) (.int .i64 (r3)) .refl rfl ⟨g3, rfl, rfl⟩
  rw [if_neg k6]
  refine sp W 0 rfl rfl rfl (fun k7 => ?_) (fun k7 => ?_)
  · rw [if_pos k7]
    have hxa := (hpa (by omega)).1
    have ha2 := (hpa (by omega)).2
    have hxb := (hpb (by omega)).1
    have hb2 := (hpb (by omega)).2
    obtain ⟨⟨r1, N1⟩, e1⟩ : ∃ q, runS (timesP (ofK K x.a) (x.b)) N = q := ⟨_, rfl⟩
    have c1 : AFun Tryz.prog 68 [.ptr 0 0 0 0, .int .i64 (K.getD (addN 0 x.a.toNat) 0), .int .i64 (x.b)] (MkS v rs N g) (MkQ v rs (r1, N1)) := by
      have := mmul_ok (ofK K x.a) (x.b) v N rs g hA hxb hN'
      rw [e1] at this
      rw [addNz]
      exact this
    have hl1 : N.length ≤ N1.length := by
      have := runS_len (timesP (ofK K x.a) (x.b)) N
      rw [e1] at this
      exact this
    have hm1 : N1.length ≤ N.length + 1 := by
      have := runS_one (P := timesP (ofK K x.a) (x.b)) (one_times _ _) N
      rw [e1] at this
      exact this
    have hr1 : 0 ≤ r1 ∧ r1 < N1.length := by
      have := runS_ok (P := timesP (ofK K x.a) (x.b)) (N := N) (ok_times hA hxb) (Nat.le_refl _)
      rw [e1] at this
      exact this
    have hN1 : N1.length ≤ 1000000 := by omega
    refine dre W 0 8 [] [] rfl rfl rfl trivial rfl ?_ (hp := by simp only [AllP, Holds, Option.getD, true_and, and_true]; omega)
    refine go_callS W 0 300 [0, 1] rfl (by first | exact True.intro | (simp only [AllC, AllP, addN, Int.toNat_natCast, true_and, and_true, Option.getD, List.length_set, wrapU, pw1, pw7, pw8, pw16, pw23, pw32, pw52, Holds] <;> first | omega | ((repeat' apply And.intro) <;> first | omega | (intros; rfl))) | (simp [AllC, AllP, addN, cloL, clo, mrgL, mrg, wrapU, Holds] <;> omega)) c1 rfl rfl ⟨rfl, fun _ _ => rfl, trivial⟩ ⟨rfl, rfl, trivial⟩ rfl ?_
    rintro _ _ ⟨g1, rfl, rfl⟩
    refine ⟨_, _, rfl, rfl, ?_⟩
    rw [runS_bind, e1]
    dsimp only
    obtain ⟨⟨r2, N2⟩, e2⟩ : ∃ q, runS (timesP (x.a) (ofK K x.b)) N1 = q := ⟨_, rfl⟩
    have c2 : AFun Tryz.prog 68 [.ptr 0 0 0 0, .int .i64 (x.a), .int .i64 (K.getD (addN 0 x.b.toNat) 0)] (MkS v rs N1 g1) (MkQ v rs (r2, N2)) := by
      have := mmul_ok (x.a) (ofK K x.b) v N1 rs g1 ⟨hxa.1, by have := hxa.2; omega⟩ ⟨hB.1, by have := hB.2; omega⟩ hN1
      rw [e2] at this
      rw [addNz]
      exact this
    have hl2 : N1.length ≤ N2.length := by
      have := runS_len (timesP (x.a) (ofK K x.b)) N1
      rw [e2] at this
      exact this
    have hm2 : N2.length ≤ N1.length + 1 := by
      have := runS_one (P := timesP (x.a) (ofK K x.b)) (one_times _ _) N1
      rw [e2] at this
      exact this
    have hr2 : 0 ≤ r2 ∧ r2 < N2.length := by
      have := runS_ok (P := timesP (x.a) (ofK K x.b)) (N := N1) (ok_times ⟨hxa.1, by have := hxa.2; omega⟩ ⟨hB.1, by have := hB.2; omega⟩) (Nat.le_refl _)
      rw [e2] at this
      exact this
    have hN2 : N2.length ≤ 1000000 := by omega
    refine dre W 0 8 [] [] rfl rfl rfl trivial rfl ?_ (hp := by simp only [AllP, Holds, Option.getD, true_and, and_true]; omega)
    refine go_callS W 0 300 [0, 1] rfl (by first | exact True.intro | (simp only [AllC, AllP, addN, Int.toNat_natCast, true_and, and_true, Option.getD, List.length_set, wrapU, pw1, pw7, pw8, pw16, pw23, pw32, pw52, Holds] <;> first | omega | ((repeat' apply And.intro) <;> first | omega | (intros; rfl))) | (simp [AllC, AllP, addN, cloL, clo, mrgL, mrg, wrapU, Holds] <;> omega)) c2 rfl rfl ⟨rfl, fun _ _ => rfl, trivial⟩ ⟨rfl, rfl, trivial⟩ rfl ?_
    rintro _ _ ⟨g2, rfl, rfl⟩
    refine ⟨_, _, rfl, rfl, ?_⟩
    rw [runS_bind, e2]
    dsimp only
    obtain ⟨⟨r3, N3⟩, e3⟩ : ∃ q, runS (lessP (r1) (r2)) N2 = q := ⟨_, rfl⟩
    have c3 : AFun Tryz.prog 67 [.ptr 0 0 0 0, .int .i64 (r1), .int .i64 (r2)] (MkS v rs N2 g2) (MkQ v rs (r3, N3)) := by
      have := msub_ok (r1) (r2) v N2 rs g2 ⟨hr1.1, by have := hr1.2; omega⟩ hr2 hN2
      rw [e3] at this
      exact this
    have hl3 : N2.length ≤ N3.length := by
      have := runS_len (lessP (r1) (r2)) N2
      rw [e3] at this
      exact this
    have hm3 : N3.length ≤ N2.length + 1 := by
      have := runS_one (P := lessP (r1) (r2)) (one_less _ _) N2
      rw [e3] at this
      exact this
    have hr3 : 0 ≤ r3 ∧ r3 < N3.length := by
      have := runS_ok (P := lessP (r1) (r2)) (N := N2) (ok_less ⟨hr1.1, by have := hr1.2; omega⟩ hr2) (Nat.le_refl _)
      rw [e3] at this
      exact this
    have hN3 : N3.length ≤ 1000000 := by omega
    refine go_callS W 0 300 [0, 1] rfl (by first | exact True.intro | (simp only [AllC, AllP, addN, Int.toNat_natCast, true_and, and_true, Option.getD, List.length_set, wrapU, pw1, pw7, pw8, pw16, pw23, pw32, pw52, Holds] <;> first | omega | ((repeat' apply And.intro) <;> first | omega | (intros; rfl))) | (simp [AllC, AllP, addN, cloL, clo, mrgL, mrg, wrapU, Holds] <;> omega)) c3 rfl rfl ⟨rfl, fun _ _ => rfl, trivial⟩ ⟨rfl, rfl, trivial⟩ rfl ?_
    rintro _ _ ⟨g3, rfl, rfl⟩
    refine ⟨_, _, rfl, rfl, ?_⟩
    rw [runS_bind, e3]
    dsimp only
    have ci3 : AFun Tryz.prog 69 [.ptr 0 0 0 0, .int .i64 (r3), .str t0] (MkS v rs N3 g3) (fun u H => u = .pr (N3.getD (r3).toNat g0 = numG t0) ∧ H = MkS v rs N3 g3) := by
      have := mis_ok (r3) t0 v N3 rs g3 hr3
      exact this
    refine go_callS W 0 300 [0, 1] rfl (by first | exact True.intro | (simp only [AllC, AllP, addN, Int.toNat_natCast, true_and, and_true, Option.getD, List.length_set, wrapU, pw1, pw7, pw8, pw16, pw23, pw32, pw52, Holds] <;> first | omega | ((repeat' apply And.intro) <;> first | omega | (intros; rfl))) | (simp [AllC, AllP, addN, cloL, clo, mrgL, mrg, wrapU, Holds] <;> omega)) ci3 rfl rfl ⟨rfl, fun _ _ => rfl, trivial⟩ ⟨rfl, rfl, trivial⟩ rfl ?_
    rintro _ _ ⟨rfl, rfl⟩
    refine ⟨_, _, rfl, rfl, ?_⟩
    refine sp W 0 rfl rfl rfl (fun y3 => ?_) (fun y3 => ?_)
    · rw [runS_t y3]
      refine go_retS W 0 300 3 rfl (by first | exact True.intro | (simp only [AllC, AllP, addN, Int.toNat_natCast, true_and, and_true, Option.getD, List.length_set, wrapU, pw1, pw7, pw8, pw16, pw23, pw32, pw52, Holds] <;> first | omega | ((repeat' apply And.intro) <;> first | omega | (intros; rfl))) | (simp [AllC, AllP, addN, cloL, clo, mrgL, mrg, wrapU, Holds] <;> omega)) rfl (by first | exact True.intro | (simp only [AllC, AllP, addN, Int.toNat_natCast, true_and, and_true, Option.getD, List.length_set, wrapU, pw1, pw7, pw8, pw16, pw23, pw32, pw52, Holds] <;> first | omega | ((repeat' apply And.intro) <;> first | omega | (intros; rfl))) | (simp [AllC, AllP, addN, cloL, clo, mrgL, mrg, wrapU, Holds] <;> omega)) (.int .i64 (r3)) .refl rfl ⟨g3, rfl, rfl⟩
    · rw [runS_f y3]
      obtain ⟨⟨r4, N4⟩, e4⟩ : ∃ q, runS (raisedP (x.b) (2)) N3 = q := ⟨_, rfl⟩
      have c4 : AFun Tryz.prog 71 [.ptr 0 0 0 0, .int .i64 (x.b), .int .i64 (2)] (MkS v rs N3 g3) (MkQ v rs (r4, N4)) := by
        have := mpow_ok (x.b) (2) v N3 rs g3 hN3
        rw [e4] at this
        exact this
      have hl4 : N3.length ≤ N4.length := by
        have := runS_len (raisedP (x.b) (2)) N3
        rw [e4] at this
        exact this
      have hm4 : N4.length ≤ N3.length + 1 := by
        have := runS_one (P := raisedP (x.b) (2)) (one_raised _ _) N3
        rw [e4] at this
        exact this
      have hr4 : 0 ≤ r4 ∧ r4 < N4.length := by
        have := runS_ok (P := raisedP (x.b) (2)) (N := N3) (ok_raised _ ⟨hxb.1, by have := hxb.2; omega⟩) (Nat.le_refl _)
        rw [e4] at this
        exact this
      have hN4 : N4.length ≤ 1000000 := by omega
      refine go_callS W 0 300 [0, 1] rfl (by first | exact True.intro | (simp only [AllC, AllP, addN, Int.toNat_natCast, true_and, and_true, Option.getD, List.length_set, wrapU, pw1, pw7, pw8, pw16, pw23, pw32, pw52, Holds] <;> first | omega | ((repeat' apply And.intro) <;> first | omega | (intros; rfl))) | (simp [AllC, AllP, addN, cloL, clo, mrgL, mrg, wrapU, Holds] <;> omega)) c4 rfl rfl ⟨rfl, fun _ _ => rfl, trivial⟩ ⟨rfl, rfl, trivial⟩ rfl ?_
      rintro _ _ ⟨g4, rfl, rfl⟩
      refine ⟨_, _, rfl, rfl, ?_⟩
      rw [runS_bind, e4]
      dsimp only
      obtain ⟨⟨r5, N5⟩, e5⟩ : ∃ q, runS (byP (r3) (r4)) N4 = q := ⟨_, rfl⟩
      have c5 : AFun Tryz.prog 70 [.ptr 0 0 0 0, .int .i64 (r3), .int .i64 (r4)] (MkS v rs N4 g4) (MkQ v rs (r5, N5)) := by
        have := mdiv_ok (r3) (r4) v N4 rs g4 ⟨hr3.1, by have := hr3.2; omega⟩ hr4 hN4
        rw [e5] at this
        exact this
      have hl5 : N4.length ≤ N5.length := by
        have := runS_len (byP (r3) (r4)) N4
        rw [e5] at this
        exact this
      have hm5 : N5.length ≤ N4.length + 1 := by
        have := runS_one (P := byP (r3) (r4)) (one_by _ _) N4
        rw [e5] at this
        exact this
      have hr5 : 0 ≤ r5 ∧ r5 < N5.length := by
        have := runS_ok (P := byP (r3) (r4)) (N := N4) (ok_by (b := r4) ⟨hr3.1, by have := hr3.2; omega⟩) (Nat.le_refl _)
        rw [e5] at this
        exact this
      have hN5 : N5.length ≤ 1000000 := by omega
      refine go_callS W 0 300 [0, 1] rfl (by first | exact True.intro | (simp only [AllC, AllP, addN, Int.toNat_natCast, true_and, and_true, Option.getD, List.length_set, wrapU, pw1, pw7, pw8, pw16, pw23, pw32, pw52, Holds] <;> first | omega | ((repeat' apply And.intro) <;> first | omega | (intros; rfl))) | (simp [AllC, AllP, addN, cloL, clo, mrgL, mrg, wrapU, Holds] <;> omega)) c5 rfl rfl ⟨rfl, fun _ _ => rfl, trivial⟩ ⟨rfl, rfl, trivial⟩ rfl ?_
      rintro _ _ ⟨g5, rfl, rfl⟩
      refine ⟨_, _, rfl, rfl, ?_⟩
      rw [e5]
      refine go_retS W 0 300 3 rfl (by first | exact True.intro | (simp only [AllC, AllP, addN, Int.toNat_natCast, true_and, and_true, Option.getD, List.length_set, wrapU, pw1, pw7, pw8, pw16, pw23, pw32, pw52, Holds] <;> first | omega | ((repeat' apply And.intro) <;> first | omega | (intros; rfl))) | (simp [AllC, AllP, addN, cloL, clo, mrgL, mrg, wrapU, Holds] <;> omega)) rfl (by first | exact True.intro | (simp only [AllC, AllP, addN, Int.toNat_natCast, true_and, and_true, Option.getD, List.length_set, wrapU, pw1, pw7, pw8, pw16, pw23, pw32, pw52, Holds] <;> first | omega | ((repeat' apply And.intro) <;> first | omega | (intros; rfl))) | (simp [AllC, AllP, addN, cloL, clo, mrgL, mrg, wrapU, Holds] <;> omega)) (.int .i64 (r5)) .refl rfl ⟨g5, rfl, rfl⟩
  rw [if_neg k7]
  refine sp W 0 rfl rfl rfl (fun k8 => ?_) (fun k8 => ?_)
  · rw [if_pos k8]
    have hxa := (hpa (by omega)).1
    have ha2 := (hpa (by omega)).2
    refine sp W 0 rfl rfl rfl (fun w1 => ?_) (fun w1 => ?_)
    · rw [if_pos w1]
      obtain ⟨⟨r1, N1⟩, e1⟩ : ∃ q, runS (numP t0) N = q := ⟨_, rfl⟩
      have c1 : AFun Tryz.prog 64 [.ptr 0 0 0 0, .str t0] (MkS v rs N g) (MkQ v rs (r1, N1)) := by
        have := mnumber_ok t0 v N rs g hN'
        rw [e1] at this
        exact this
      have hl1 : N.length ≤ N1.length := by
        have := runS_len (numP t0) N
        rw [e1] at this
        exact this
      have hm1 : N1.length ≤ N.length + 1 := by
        have := runS_one (P := numP t0) (one_num _) N
        rw [e1] at this
        exact this
      have hr1 : 0 ≤ r1 ∧ r1 < N1.length := by
        have := runS_ok (P := numP t0) (N := N) (ok_num _ _) (Nat.le_refl _)
        rw [e1] at this
        exact this
      have hN1 : N1.length ≤ 1000000 := by omega
      refine go_callS W 0 300 [0, 1] rfl (by first | exact True.intro | (simp only [AllC, AllP, addN, Int.toNat_natCast, true_and, and_true, Option.getD, List.length_set, wrapU, pw1, pw7, pw8, pw16, pw23, pw32, pw52, Holds] <;> first | omega | ((repeat' apply And.intro) <;> first | omega | (intros; rfl))) | (simp [AllC, AllP, addN, cloL, clo, mrgL, mrg, wrapU, Holds] <;> omega)) c1 rfl rfl ⟨rfl, fun _ _ => rfl, trivial⟩ ⟨rfl, rfl, trivial⟩ rfl ?_
      rintro _ _ ⟨g1, rfl, rfl⟩
      refine ⟨_, _, rfl, rfl, ?_⟩
      rw [e1]
      refine go_retS W 0 300 3 rfl (by first | exact True.intro | (simp only [AllC, AllP, addN, Int.toNat_natCast, true_and, and_true, Option.getD, List.length_set, wrapU, pw1, pw7, pw8, pw16, pw23, pw32, pw52, Holds] <;> first | omega | ((repeat' apply And.intro) <;> first | omega | (intros; rfl))) | (simp [AllC, AllP, addN, cloL, clo, mrgL, mrg, wrapU, Holds] <;> omega)) rfl (by first | exact True.intro | (simp only [AllC, AllP, addN, Int.toNat_natCast, true_and, and_true, Option.getD, List.length_set, wrapU, pw1, pw7, pw8, pw16, pw23, pw32, pw52, Holds] <;> first | omega | ((repeat' apply And.intro) <;> first | omega | (intros; rfl))) | (simp [AllC, AllP, addN, cloL, clo, mrgL, mrg, wrapU, Holds] <;> omega)) (.int .i64 (r1)) .refl rfl ⟨g1, rfl, rfl⟩
    rw [if_neg w1]
    have ci0 : AFun Tryz.prog 69 [.ptr 0 0 0 0, .int .i64 (K.getD (addN 0 x.a.toNat) 0), .str t0] (MkS v rs N g) (fun u H => u = .pr (N.getD (ofK K x.a).toNat g0 = numG t0) ∧ H = MkS v rs N g) := by
      have := mis_ok (ofK K x.a) t0 v N rs g hA
      rw [addNz]
      exact this
    refine go_callS W 0 300 [0, 1] rfl (by first | exact True.intro | (simp only [AllC, AllP, addN, Int.toNat_natCast, true_and, and_true, Option.getD, List.length_set, wrapU, pw1, pw7, pw8, pw16, pw23, pw32, pw52, Holds] <;> first | omega | ((repeat' apply And.intro) <;> first | omega | (intros; rfl))) | (simp [AllC, AllP, addN, cloL, clo, mrgL, mrg, wrapU, Holds] <;> omega)) ci0 rfl rfl ⟨rfl, fun _ _ => rfl, trivial⟩ ⟨rfl, rfl, trivial⟩ rfl ?_
    rintro _ _ ⟨rfl, rfl⟩
    refine ⟨_, _, rfl, rfl, ?_⟩
    refine sp W 0 rfl rfl rfl (fun y0 => ?_) (fun y0 => ?_)
    · have hz : idxG N (numG t0) = (ofK K x.a).toNat := idxG_first (by have := hA.2; have := hA.1; omega) y0 fun j hj e => hd j _ hj (by have := hA.2; have := hA.1; omega) (by rw [e, y0])
      have c1 : AFun Tryz.prog 64 [.ptr 0 0 0 0, .str t0] (MkS v rs N g) (MkQ v rs (ofK K x.a, N)) := by
        have := mnumber_ok t0 v N rs g hN'
        have hm : numG t0 ∈ N := by rw [← y0]; exact getD_mem (by have := hA.2; have := hA.1; omega)
        have e : runS (numP t0) N = (ofK K x.a, N) := by
          simp only [numP, runS]
          rw [if_pos hm, hz, Int.toNat_of_nonneg hA.1]
        rw [e] at this
        exact this
      have e : runS (if x.n = 1 then Pg.ret (ofK K x.a) else .is (ofK K x.a) t0 fun t => if t then .ret (ofK K x.a) else (numP (Lib.decDigits x.n.toNat)).bind fun f => (raisedP x.a (x.n - 1)).bind fun r => (timesP f r).bind fun y => timesP y (ofK K x.a)) N = (ofK K x.a, N) := by
        split
        · rfl
        · rw [runS_t y0]; rfl
      rw [e]
      refine go_callS W 0 300 [0, 1] rfl (by first | exact True.intro | (simp only [AllC, AllP, addN, Int.toNat_natCast, true_and, and_true, Option.getD, List.length_set, wrapU, pw1, pw7, pw8, pw16, pw23, pw32, pw52, Holds] <;> first | omega | ((repeat' apply And.intro) <;> first | omega | (intros; rfl))) | (simp [AllC, AllP, addN, cloL, clo, mrgL, mrg, wrapU, Holds] <;> omega)) c1 rfl rfl ⟨rfl, fun _ _ => rfl, trivial⟩ ⟨rfl, rfl, trivial⟩ rfl ?_
      rintro _ _ ⟨g1, rfl, rfl⟩
      refine ⟨_, _, rfl, rfl, ?_⟩
      refine go_retS W 0 300 3 rfl (by first | exact True.intro | (simp only [AllC, AllP, addN, Int.toNat_natCast, true_and, and_true, Option.getD, List.length_set, wrapU, pw1, pw7, pw8, pw16, pw23, pw32, pw52, Holds] <;> first | omega | ((repeat' apply And.intro) <;> first | omega | (intros; rfl))) | (simp [AllC, AllP, addN, cloL, clo, mrgL, mrg, wrapU, Holds] <;> omega)) rfl (by first | exact True.intro | (simp only [AllC, AllP, addN, Int.toNat_natCast, true_and, and_true, Option.getD, List.length_set, wrapU, pw1, pw7, pw8, pw16, pw23, pw32, pw52, Holds] <;> first | omega | ((repeat' apply And.intro) <;> first | omega | (intros; rfl))) | (simp [AllC, AllP, addN, cloL, clo, mrgL, mrg, wrapU, Holds] <;> omega)) (.int .i64 (ofK K x.a)) .refl rfl ⟨g1, rfl, rfl⟩
    · refine sp W 0 rfl rfl rfl (fun w2 => ?_) (fun w2 => ?_)
      · rw [if_pos w2]
        refine go_retS W 0 300 3 rfl (by first | exact True.intro | (simp only [AllC, AllP, addN, Int.toNat_natCast, true_and, and_true, Option.getD, List.length_set, wrapU, pw1, pw7, pw8, pw16, pw23, pw32, pw52, Holds] <;> first | omega | ((repeat' apply And.intro) <;> first | omega | (intros; rfl))) | (simp [AllC, AllP, addN, cloL, clo, mrgL, mrg, wrapU, Holds] <;> omega)) rfl (by first | exact True.intro | (simp only [AllC, AllP, addN, Int.toNat_natCast, true_and, and_true, Option.getD, List.length_set, wrapU, pw1, pw7, pw8, pw16, pw23, pw32, pw52, Holds] <;> first | omega | ((repeat' apply And.intro) <;> first | omega | (intros; rfl))) | (simp [AllC, AllP, addN, cloL, clo, mrgL, mrg, wrapU, Holds] <;> omega)) (.int .i64 (ofK K x.a)) (.int (by rw [addNz]; rfl)) rfl ⟨g, rfl, rfl⟩
      rw [if_neg w2]
      rw [runS_f y0]
      refine ce W 0 rfl rfl (ko) rfl ?_
      refine ce W 0 rfl rfl (kt) rfl ?_
      obtain ⟨⟨r1, N1⟩, e1⟩ : ∃ q, runS (numP (Lib.decDigits x.n.toNat)) N = q := ⟨_, rfl⟩
      have c1 : AFun Tryz.prog 64 [.ptr 0 0 0 0, .str (Lib.decDigits x.n.toNat)] (MkS v rs N g) (MkQ v rs (r1, N1)) := by
        have := mnumber_ok (Lib.decDigits x.n.toNat) v N rs g hN'
        rw [e1] at this
        exact this
      have hl1 : N.length ≤ N1.length := by
        have := runS_len (numP (Lib.decDigits x.n.toNat)) N
        rw [e1] at this
        exact this
      have hm1 : N1.length ≤ N.length + 1 := by
        have := runS_one (P := numP (Lib.decDigits x.n.toNat)) (one_num _) N
        rw [e1] at this
        exact this
      have hr1 : 0 ≤ r1 ∧ r1 < N1.length := by
        have := runS_ok (P := numP (Lib.decDigits x.n.toNat)) (N := N) (ok_num _ _) (Nat.le_refl _)
        rw [e1] at this
        exact this
      have hN1 : N1.length ≤ 1000000 := by omega
      refine go_callS W 0 300 [0, 1] rfl (by first | exact True.intro | (simp only [AllC, AllP, addN, Int.toNat_natCast, true_and, and_true, Option.getD, List.length_set, wrapU, pw1, pw7, pw8, pw16, pw23, pw32, pw52, Holds] <;> first | omega | ((repeat' apply And.intro) <;> first | omega | (intros; rfl))) | (simp [AllC, AllP, addN, cloL, clo, mrgL, mrg, wrapU, Holds] <;> omega)) c1 rfl rfl ⟨rfl, fun _ _ => rfl, trivial⟩ ⟨rfl, rfl, trivial⟩ rfl ?_
      rintro _ _ ⟨g1, rfl, rfl⟩
      refine ⟨_, _, rfl, rfl, ?_⟩
      rw [runS_bind, e1]
      dsimp only
      obtain ⟨⟨r2, N2⟩, e2⟩ : ∃ q, runS (raisedP (x.a) (x.n - 1)) N1 = q := ⟨_, rfl⟩
      have c2 : AFun Tryz.prog 71 [.ptr 0 0 0 0, .int .i64 (x.a), .int .i64 (x.n - 1)] (MkS v rs N1 g1) (MkQ v rs (r2, N2)) := by
        have := mpow_ok (x.a) (x.n - 1) v N1 rs g1 hN1
        rw [e2] at this
        exact this
      have hl2 : N1.length ≤ N2.length := by
        have := runS_len (raisedP (x.a) (x.n - 1)) N1
        rw [e2] at this
        exact this
      have hm2 : N2.length ≤ N1.length + 1 := by
        have := runS_one (P := raisedP (x.a) (x.n - 1)) (one_raised _ _) N1
        rw [e2] at this
        exact this
      have hr2 : 0 ≤ r2 ∧ r2 < N2.length := by
        have := runS_ok (P := raisedP (x.a) (x.n - 1)) (N := N1) (ok_raised _ ⟨hxa.1, by have := hxa.2; omega⟩) (Nat.le_refl _)
        rw [e2] at this
        exact this
      have hN2 : N2.length ≤ 1000000 := by omega
      refine go_callS W 0 300 [0, 1] rfl (by first | exact True.intro | (simp only [AllC, AllP, addN, Int.toNat_natCast, true_and, and_true, Option.getD, List.length_set, wrapU, pw1, pw7, pw8, pw16, pw23, pw32, pw52, Holds] <;> first | omega | ((repeat' apply And.intro) <;> first | omega | (intros; rfl))) | (simp [AllC, AllP, addN, cloL, clo, mrgL, mrg, wrapU, Holds] <;> omega)) c2 rfl rfl ⟨rfl, fun _ _ => rfl, trivial⟩ ⟨rfl, rfl, trivial⟩ rfl ?_
      rintro _ _ ⟨g2, rfl, rfl⟩
      refine ⟨_, _, rfl, rfl, ?_⟩
      rw [runS_bind, e2]
      dsimp only
      obtain ⟨⟨r3, N3⟩, e3⟩ : ∃ q, runS (timesP (r1) (r2)) N2 = q := ⟨_, rfl⟩
      have c3 : AFun Tryz.prog 68 [.ptr 0 0 0 0, .int .i64 (r1), .int .i64 (r2)] (MkS v rs N2 g2) (MkQ v rs (r3, N3)) := by
        have := mmul_ok (r1) (r2) v N2 rs g2 ⟨hr1.1, by have := hr1.2; omega⟩ hr2 hN2
        rw [e3] at this
        exact this
      have hl3 : N2.length ≤ N3.length := by
        have := runS_len (timesP (r1) (r2)) N2
        rw [e3] at this
        exact this
      have hm3 : N3.length ≤ N2.length + 1 := by
        have := runS_one (P := timesP (r1) (r2)) (one_times _ _) N2
        rw [e3] at this
        exact this
      have hr3 : 0 ≤ r3 ∧ r3 < N3.length := by
        have := runS_ok (P := timesP (r1) (r2)) (N := N2) (ok_times ⟨hr1.1, by have := hr1.2; omega⟩ hr2) (Nat.le_refl _)
        rw [e3] at this
        exact this
      have hN3 : N3.length ≤ 1000000 := by omega
      refine go_callS W 0 300 [0, 1] rfl (by first | exact True.intro | (simp only [AllC, AllP, addN, Int.toNat_natCast, true_and, and_true, Option.getD, List.length_set, wrapU, pw1, pw7, pw8, pw16, pw23, pw32, pw52, Holds] <;> first | omega | ((repeat' apply And.intro) <;> first | omega | (intros; rfl))) | (simp [AllC, AllP, addN, cloL, clo, mrgL, mrg, wrapU, Holds] <;> omega)) c3 rfl rfl ⟨rfl, fun _ _ => rfl, trivial⟩ ⟨rfl, rfl, trivial⟩ rfl ?_
      rintro _ _ ⟨g3, rfl, rfl⟩
      refine ⟨_, _, rfl, rfl, ?_⟩
      rw [runS_bind, e3]
      dsimp only
      obtain ⟨⟨r4, N4⟩, e4⟩ : ∃ q, runS (timesP (r3) (ofK K x.a)) N3 = q := ⟨_, rfl⟩
      have c4 : AFun Tryz.prog 68 [.ptr 0 0 0 0, .int .i64 (r3), .int .i64 (K.getD (addN 0 x.a.toNat) 0)] (MkS v rs N3 g3) (MkQ v rs (r4, N4)) := by
        have := mmul_ok (r3) (ofK K x.a) v N3 rs g3 hr3 ⟨hA.1, by have := hA.2; omega⟩ hN3
        rw [e4] at this
        rw [addNz]
        exact this
      have hl4 : N3.length ≤ N4.length := by
        have := runS_len (timesP (r3) (ofK K x.a)) N3
        rw [e4] at this
        exact this
      have hm4 : N4.length ≤ N3.length + 1 := by
        have := runS_one (P := timesP (r3) (ofK K x.a)) (one_times _ _) N3
        rw [e4] at this
        exact this
      have hr4 : 0 ≤ r4 ∧ r4 < N4.length := by
        have := runS_ok (P := timesP (r3) (ofK K x.a)) (N := N3) (ok_times hr3 ⟨hA.1, by have := hA.2; omega⟩) (Nat.le_refl _)
        rw [e4] at this
        exact this
      have hN4 : N4.length ≤ 1000000 := by omega
      refine go_callS W 0 300 [0, 1] rfl (by first | exact True.intro | (simp only [AllC, AllP, addN, Int.toNat_natCast, true_and, and_true, Option.getD, List.length_set, wrapU, pw1, pw7, pw8, pw16, pw23, pw32, pw52, Holds] <;> first | omega | ((repeat' apply And.intro) <;> first | omega | (intros; rfl))) | (simp [AllC, AllP, addN, cloL, clo, mrgL, mrg, wrapU, Holds] <;> omega)) c4 rfl rfl ⟨rfl, fun _ _ => rfl, trivial⟩ ⟨rfl, rfl, trivial⟩ rfl ?_
      rintro _ _ ⟨g4, rfl, rfl⟩
      refine ⟨_, _, rfl, rfl, ?_⟩
      rw [e4]
      refine go_retS W 0 300 3 rfl (by first | exact True.intro | (simp only [AllC, AllP, addN, Int.toNat_natCast, true_and, and_true, Option.getD, List.length_set, wrapU, pw1, pw7, pw8, pw16, pw23, pw32, pw52, Holds] <;> first | omega | ((repeat' apply And.intro) <;> first | omega | (intros; rfl))) | (simp [AllC, AllP, addN, cloL, clo, mrgL, mrg, wrapU, Holds] <;> omega)) rfl (by first | exact True.intro | (simp only [AllC, AllP, addN, Int.toNat_natCast, true_and, and_true, Option.getD, List.length_set, wrapU, pw1, pw7, pw8, pw16, pw23, pw32, pw52, Holds] <;> first | omega | ((repeat' apply And.intro) <;> first | omega | (intros; rfl))) | (simp [AllC, AllP, addN, cloL, clo, mrgL, mrg, wrapU, Holds] <;> omega)) (.int .i64 (r4)) .refl rfl ⟨g4, rfl, rfl⟩
  rw [if_neg k8]
  rw [if_pos (by omega)]
  have hxa := (hpa (by omega)).1
  have ha2 := (hpa (by omega)).2
  have ci0 : AFun Tryz.prog 69 [.ptr 0 0 0 0, .int .i64 (K.getD (addN 0 x.a.toNat) 0), .str t0] (MkS v rs N g) (fun u H => u = .pr (N.getD (ofK K x.a).toNat g0 = numG t0) ∧ H = MkS v rs N g) := by
    have := mis_ok (ofK K x.a) t0 v N rs g hA
    rw [addNz]
    exact this
  refine go_callS W 0 300 [0, 1] rfl (by first | exact True.intro | (simp only [AllC, AllP, addN, Int.toNat_natCast, true_and, and_true, Option.getD, List.length_set, wrapU, pw1, pw7, pw8, pw16, pw23, pw32, pw52, Holds] <;> first | omega | ((repeat' apply And.intro) <;> first | omega | (intros; rfl))) | (simp [AllC, AllP, addN, cloL, clo, mrgL, mrg, wrapU, Holds] <;> omega)) ci0 rfl rfl ⟨rfl, fun _ _ => rfl, trivial⟩ ⟨rfl, rfl, trivial⟩ rfl ?_
  rintro _ _ ⟨rfl, rfl⟩
  refine ⟨_, _, rfl, rfl, ?_⟩
  refine sp W 0 rfl rfl rfl (fun y0 => ?_) (fun y0 => ?_)
  · rw [runS_t y0]
    refine go_retS W 0 300 3 rfl (by first | exact True.intro | (simp only [AllC, AllP, addN, Int.toNat_natCast, true_and, and_true, Option.getD, List.length_set, wrapU, pw1, pw7, pw8, pw16, pw23, pw32, pw52, Holds] <;> first | omega | ((repeat' apply And.intro) <;> first | omega | (intros; rfl))) | (simp [AllC, AllP, addN, cloL, clo, mrgL, mrg, wrapU, Holds] <;> omega)) rfl (by first | exact True.intro | (simp only [AllC, AllP, addN, Int.toNat_natCast, true_and, and_true, Option.getD, List.length_set, wrapU, pw1, pw7, pw8, pw16, pw23, pw32, pw52, Holds] <;> first | omega | ((repeat' apply And.intro) <;> first | omega | (intros; rfl))) | (simp [AllC, AllP, addN, cloL, clo, mrgL, mrg, wrapU, Holds] <;> omega)) (.int .i64 (ofK K x.a)) (.int (by rw [addNz]; rfl)) rfl ⟨g, rfl, rfl⟩
  · rw [runS_f y0]
    obtain ⟨⟨r1, N1⟩, e1⟩ : ∃ q, runS (numP [50]) N = q := ⟨_, rfl⟩
    have c1 : AFun Tryz.prog 64 [.ptr 0 0 0 0, .str [50]] (MkS v rs N g) (MkQ v rs (r1, N1)) := by
      have := mnumber_ok [50] v N rs g hN'
      rw [e1] at this
      exact this
    have hl1 : N.length ≤ N1.length := by
      have := runS_len (numP [50]) N
      rw [e1] at this
      exact this
    have hm1 : N1.length ≤ N.length + 1 := by
      have := runS_one (P := numP [50]) (one_num _) N
      rw [e1] at this
      exact this
    have hr1 : 0 ≤ r1 ∧ r1 < N1.length := by
      have := runS_ok (P := numP [50]) (N := N) (ok_num _ _) (Nat.le_refl _)
      rw [e1] at this
      exact this
    have hN1 : N1.length ≤ 1000000 := by omega
    refine go_callS W 0 300 [0, 1] rfl (by first | exact True.intro | (simp only [AllC, AllP, addN, Int.toNat_natCast, true_and, and_true, Option.getD, List.length_set, wrapU, pw1, pw7, pw8, pw16, pw23, pw32, pw52, Holds] <;> first | omega | ((repeat' apply And.intro) <;> first | omega | (intros; rfl))) | (simp [AllC, AllP, addN, cloL, clo, mrgL, mrg, wrapU, Holds] <;> omega)) c1 rfl rfl ⟨rfl, fun _ _ => rfl, trivial⟩ ⟨rfl, rfl, trivial⟩ rfl ?_
    rintro _ _ ⟨g1, rfl, rfl⟩
    refine ⟨_, _, rfl, rfl, ?_⟩
    rw [runS_bind, e1]
    dsimp only
    obtain ⟨⟨r2, N2⟩, e2⟩ : ∃ q, runS (timesP (r1) (at')) N1 = q := ⟨_, rfl⟩
    have c2 : AFun Tryz.prog 68 [.ptr 0 0 0 0, .int .i64 (r1), .int .i64 (at')] (MkS v rs N1 g1) (MkQ v rs (r2, N2)) := by
      have := mmul_ok (r1) (at') v N1 rs g1 hr1 ⟨hat.1, by have := hat.2; omega⟩ hN1
      rw [e2] at this
      exact this
    have hl2 : N1.length ≤ N2.length := by
      have := runS_len (timesP (r1) (at')) N1
      rw [e2] at this
      exact this
    have hm2 : N2.length ≤ N1.length + 1 := by
      have := runS_one (P := timesP (r1) (at')) (one_times _ _) N1
      rw [e2] at this
      exact this
    have hr2 : 0 ≤ r2 ∧ r2 < N2.length := by
      have := runS_ok (P := timesP (r1) (at')) (N := N1) (ok_times hr1 ⟨hat.1, by have := hat.2; omega⟩) (Nat.le_refl _)
      rw [e2] at this
      exact this
    have hN2 : N2.length ≤ 1000000 := by omega
    refine go_callS W 0 300 [0, 1] rfl (by first | exact True.intro | (simp only [AllC, AllP, addN, Int.toNat_natCast, true_and, and_true, Option.getD, List.length_set, wrapU, pw1, pw7, pw8, pw16, pw23, pw32, pw52, Holds] <;> first | omega | ((repeat' apply And.intro) <;> first | omega | (intros; rfl))) | (simp [AllC, AllP, addN, cloL, clo, mrgL, mrg, wrapU, Holds] <;> omega)) c2 rfl rfl ⟨rfl, fun _ _ => rfl, trivial⟩ ⟨rfl, rfl, trivial⟩ rfl ?_
    rintro _ _ ⟨g2, rfl, rfl⟩
    refine ⟨_, _, rfl, rfl, ?_⟩
    rw [runS_bind, e2]
    dsimp only
    obtain ⟨⟨r3, N3⟩, e3⟩ : ∃ q, runS (byP (ofK K x.a) (r2)) N2 = q := ⟨_, rfl⟩
    have c3 : AFun Tryz.prog 70 [.ptr 0 0 0 0, .int .i64 (K.getD (addN 0 x.a.toNat) 0), .int .i64 (r2)] (MkS v rs N2 g2) (MkQ v rs (r3, N3)) := by
      have := mdiv_ok (ofK K x.a) (r2) v N2 rs g2 ⟨hA.1, by have := hA.2; omega⟩ hr2 hN2
      rw [e3] at this
      rw [addNz]
      exact this
    have hl3 : N2.length ≤ N3.length := by
      have := runS_len (byP (ofK K x.a) (r2)) N2
      rw [e3] at this
      exact this
    have hm3 : N3.length ≤ N2.length + 1 := by
      have := runS_one (P := byP (ofK K x.a) (r2)) (one_by _ _) N2
      rw [e3] at this
      exact this
    have hr3 : 0 ≤ r3 ∧ r3 < N3.length := by
      have := runS_ok (P := byP (ofK K x.a) (r2)) (N := N2) (ok_by (b := r2) ⟨hA.1, by have := hA.2; omega⟩) (Nat.le_refl _)
      rw [e3] at this
      exact this
    have hN3 : N3.length ≤ 1000000 := by omega
    refine go_callS W 0 300 [0, 1] rfl (by first | exact True.intro | (simp only [AllC, AllP, addN, Int.toNat_natCast, true_and, and_true, Option.getD, List.length_set, wrapU, pw1, pw7, pw8, pw16, pw23, pw32, pw52, Holds] <;> first | omega | ((repeat' apply And.intro) <;> first | omega | (intros; rfl))) | (simp [AllC, AllP, addN, cloL, clo, mrgL, mrg, wrapU, Holds] <;> omega)) c3 rfl rfl ⟨rfl, fun _ _ => rfl, trivial⟩ ⟨rfl, rfl, trivial⟩ rfl ?_
    rintro _ _ ⟨g3, rfl, rfl⟩
    refine ⟨_, _, rfl, rfl, ?_⟩
    rw [e3]
    refine go_retS W 0 300 3 rfl (by first | exact True.intro | (simp only [AllC, AllP, addN, Int.toNat_natCast, true_and, and_true, Option.getD, List.length_set, wrapU, pw1, pw7, pw8, pw16, pw23, pw32, pw52, Holds] <;> first | omega | ((repeat' apply And.intro) <;> first | omega | (intros; rfl))) | (simp [AllC, AllP, addN, cloL, clo, mrgL, mrg, wrapU, Holds] <;> omega)) rfl (by first | exact True.intro | (simp only [AllC, AllP, addN, Int.toNat_natCast, true_and, and_true, Option.getD, List.length_set, wrapU, pw1, pw7, pw8, pw16, pw23, pw32, pw52, Holds] <;> first | omega | ((repeat' apply And.intro) <;> first | omega | (intros; rfl))) | (simp [AllC, AllP, addN, cloL, clo, mrgL, mrg, wrapU, Holds] <;> omega)) (.int .i64 (r3)) .refl rfl ⟨g3, rfl, rfl⟩

end Pf
/- Slopes: node by node (plain) -/
namespace Pf
open Go Go.Proofs
/-! ### All slopes, node by node (plain) -/
abbrev ofF (f : Nat → Int) (i : Int) : Int := f i.toNat
open Classical in
noncomputable def slS (R : Nat → Prop) (l : List Gn) (w : Int) : Nat → List Gn × (Nat → Int)
  | 0 => (l, fun _ => 0)
  | i + 1 => if R i then ((runS (slopeG i (l.getD i g0) w (ofF (slS R l w i).2)) (slS R l w i).1).2, fun j => if j = i then (runS (slopeG i (l.getD i g0) w (ofF (slS R l w i).2)) (slS R l w i).1).1 else (slS R l w i).2 j) else slS R l w i
open Classical in
noncomputable def slI (R : Nat → Prop) (l : List Gn) (w : Int) : Nat → List Gn × Bool × (Nat → Int)
  | 0 => (l, false, fun _ => 0)
  | i + 1 => if R i ∧ (slI R l w i).2.1 = false then
      ((runI (slopeG i (l.getD i g0) w (ofF (slI R l w i).2.2)) (slI R l w i).1 false).2.1, (runI (slopeG i (l.getD i g0) w (ofF (slI R l w i).2.2)) (slI R l w i).1 false).2.2,
        fun j => if j = i then (runI (slopeG i (l.getD i g0) w (ofF (slI R l w i).2.2)) (slI R l w i).1 false).1 else (slI R l w i).2.2 j)
    else slI R l w i
theorem slS_len {R : Nat → Prop} {l : List Gn} {w : Int} : ∀ i, l.length ≤ (slS R l w i).1.length
  | 0 => Nat.le_refl _
  | i + 1 => by
    have ih := slS_len (R := R) (l := l) (w := w) i
    simp only [slS]
    split
    · exact Nat.le_trans ih (runS_len _ _)
    · exact ih
theorem slI_len {R : Nat → Prop} {l : List Gn} {w : Int} (hl : l.length ≤ 120) : ∀ i, (slI R l w i).1.length ≤ 120
  | 0 => hl
  | i + 1 => by
    have ih := slI_len (R := R) (w := w) hl i
    simp only [slI]
    split
    · exact runI_len _ _ _ ih
    · exact ih
theorem sl_lock {R : Nat → Prop} {l : List Gn} {w : Int} (hl : l.length ≤ 120) : ∀ i, ((slS R l w i).1.length ≤ 120 → slI R l w i = ((slS R l w i).1, false, (slS R l w i).2)) ∧ (120 < (slS R l w i).1.length → (slI R l w i).2.1 = true)
  | 0 => ⟨fun _ => rfl, fun h => by simp only [slS] at h; omega⟩
  | i + 1 => by
    obtain ⟨h1, h2⟩ := sl_lock (R := R) (w := w) hl i
    simp only [slS, slI]
    by_cases hr : R i
    · rw [if_pos hr]
      rcases Nat.lt_or_ge 120 (slS R l w i).1.length with hb | hb
      · have hF := h2 hb
        have := runS_len (slopeG i (l.getD i g0) w (ofF (slS R l w i).2)) (slS R l w i).1
        rw [if_neg (fun k => by rw [hF] at k; cases k.2)]
        exact ⟨fun k => by dsimp only at k; omega, fun _ => hF⟩
      · have hE := h1 hb
        rw [hE]
        rw [if_pos ⟨hr, rfl⟩]
        obtain ⟨q1, q2⟩ := lock (slopeG i (l.getD i g0) w (ofF (slS R l w i).2)) (slS R l w i).1 hb
        constructor
        · intro k
          rw [q1 k]
        · intro k
          exact q2 k
    · rw [if_neg hr, if_neg (fun k => hr k.1)]
      exact ⟨h1, h2⟩
theorem slS_stop {R : Nat → Prop} {l : List Gn} {w : Int} {a : Nat} (hR : ∀ i, a < i → ¬ R i) : ∀ n, slS R l w (a + 1 + n) = slS R l w (a + 1)
  | 0 => rfl
  | n + 1 => by
    show slS R l w (a + 1 + n + 1) = _
    rw [slS]
    rw [if_neg (hR _ (by omega)), slS_stop hR n]
/-- The old nodes stay. -/
theorem runS_keep (P : Pg) : ∀ (N : List Gn) (j : Nat), j < N.length → (runS P N).2.getD j g0 = N.getD j g0 := by
  induction P with
  | ret v => intro N j h; rfl
  | put x k ih =>
    intro N j h
    simp only [runS]
    split
    · exact ih _ N j h
    · rw [ih _ (N ++ [x]) j (by simp; omega), List.getD_eq_getElem?_getD, List.getElem?_append_left h, ← List.getD_eq_getElem?_getD]
  | is a s k ih => intro N j h; simp only [runS]; exact ih _ N j h
theorem slS_keep {R : Nat → Prop} {l : List Gn} {w : Int} {j : Nat} (hj : j < l.length) : ∀ i, (slS R l w i).1.getD j g0 = l.getD j g0
  | 0 => rfl
  | i + 1 => by
    have ih := slS_keep (R := R) (w := w) hj i
    simp only [slS]
    split
    · rw [runS_keep _ _ _ (by have := slS_len (R := R) (l := l) (w := w) i; omega)]; exact ih
    · exact ih
theorem ndG_app {N : List Gn} {x : Gn} (h : ndG N) (hx : x ∉ N) : ndG (N ++ [x]) := by
  intro i j hij hj e
  have hi : i < N.length := by simp at hj; omega
  have e1 : (N ++ [x]).getD i g0 = N.getD i g0 := by rw [List.getD_eq_getElem?_getD, List.getElem?_append_left hi, ← List.getD_eq_getElem?_getD]
  by_cases hjl : j < N.length
  · have e2 : (N ++ [x]).getD j g0 = N.getD j g0 := by rw [List.getD_eq_getElem?_getD, List.getElem?_append_left hjl, ← List.getD_eq_getElem?_getD]
    rw [e1, e2] at e
    exact h i j hij hjl e
  · have hj2 : j = N.length := by simp at hj; omega
    subst hj2
    have e2 : (N ++ [x]).getD N.length g0 = x := by simp [List.getD_eq_getElem?_getD]
    rw [e1, e2] at e
    exact hx (by rw [← e]; exact getD_mem hi)
theorem runS_nd (P : Pg) : ∀ N, ndG N → ndG (runS P N).2 := by
  induction P with
  | ret v => intro N h; exact h
  | put x k ih =>
    intro N h
    simp only [runS]
    split
    · exact ih _ _ h
    · rename_i hx
      exact ih _ _ (ndG_app h hx)
  | is a s k ih => intro N h; simp only [runS]; exact ih _ _ h
theorem slS_nd {R : Nat → Prop} {l : List Gn} {w : Int} (h : ndG l) : ∀ i, ndG (slS R l w i).1
  | 0 => h
  | i + 1 => by
    have ih := slS_nd (R := R) (w := w) h i
    simp only [slS]
    split
    · exact runS_nd _ _ ih
    · exact ih
theorem graph_nd {v : Int} {l : List Gn} (h : ∀ i, i < l.length → nodeP v l i) : ndG l := by
  intro i j hij hj e
  have hf := fresh_node (h j hj) fun s hs => h s (by omega)
  exact hf (by rw [← e]; exact take_mem hij hj)
/-- The program of a node is well formed where its parts' slopes are places. -/
theorem Pg.ok_bind {P : Pg} {f : Int → Pg} : ∀ {n : Nat}, P.ok n → (∀ (r : Int) (m : Nat), n ≤ m → 0 ≤ r → r < m → (f r).ok m) → (P.bind f).ok n := by
  induction P with
  | ret v => intro n h hf; exact hf v n (Nat.le_refl _) h.1 h.2
  | put x k ih => intro n h hf i m hm h0 h1; exact ih i (h i m hm h0 h1) fun r q hq a b => hf r q (by omega) a b
  | is a s k ih => intro n h hf t; exact ih t (h t) hf
theorem slopeG_ok {at' w : Int} {x : Gn} {of : Int → Int} {n : Nat} (hat : 0 ≤ at' ∧ at' < n) (hof : ∀ i, 0 ≤ of i ∧ of i < n) (hpa : 3 ≤ x.k → 0 ≤ x.a ∧ x.a < n) (hpb : 4 ≤ x.k ∧ x.k ≤ 7 → 0 ≤ x.b ∧ x.b < n) : (slopeG at' x w of).ok n := by
  have up : ∀ {z : Int} {n m : Nat}, (0 ≤ z ∧ z < n) → n ≤ m → 0 ≤ z ∧ z < m := fun h hm => ⟨h.1, by have := h.2; omega⟩
  unfold slopeG
  split
  · split <;> exact ok_num _ _
  split
  · exact ok_neg (hof _)
  split
  · exact ok_sum (hof _) (hof _)
  split
  · exact ok_less (hof _) (hof _)
  split
  · have ha := hpa (by omega); have hb := hpb (by omega)
    exact Pg.ok_bind (ok_times (hof _) hb) fun l m hm l0 l1 => Pg.ok_bind (ok_times (up ha hm) (up (hof _) hm)) fun r q hq r0 r1 => ok_sum (up ⟨l0, l1⟩ hq) ⟨r0, r1⟩
  split
  · have ha := hpa (by omega); have hb := hpb (by omega)
    refine Pg.ok_bind (ok_times (hof _) hb) fun l m hm l0 l1 => Pg.ok_bind (ok_times (up ha hm) (up (hof _) hm)) fun r q hq r0 r1 => Pg.ok_bind (ok_less (up ⟨l0, l1⟩ hq) ⟨r0, r1⟩) fun u p hp u0 u1 => fun t => ?_
    cases t
    · exact Pg.ok_bind (ok_raised _ (up hb (by omega))) fun z o ho z0 z1 => ok_by (up ⟨u0, u1⟩ ho)
    · exact ⟨u0, u1⟩
  split
  · have ha := hpa (by omega)
    split
    · exact ok_num _ _
    split
    · exact hof _
    · intro t
      cases t
      · exact Pg.ok_bind (ok_num _ _) fun f m hm f0 f1 => Pg.ok_bind (ok_raised _ (up ha hm)) fun r q hq r0 r1 => Pg.ok_bind (ok_times (up ⟨f0, f1⟩ hq) ⟨r0, r1⟩) fun y p hp y0 y1 => ok_times ⟨y0, y1⟩ (up (hof _) (by omega))
      · exact hof _
  split
  · intro t
    cases t
    · exact Pg.ok_bind (ok_num _ _) fun c m hm c0 c1 => Pg.ok_bind (ok_times ⟨c0, c1⟩ (up hat hm)) fun y q hq y0 y1 => ok_by (up (hof _) (by omega))
    · exact hof _
  · exact ok_num _ _
end Pf
/- Slopes: a new layer; what nodes are like -/
namespace Pf
open Go Go.Proofs
theorem take_next {l : List Gn} {i : Nat} (h : i < l.length) : l.take (i + 1) = l.take i ++ [l.getD i g0] := by
  rw [List.take_add_one, List.getElem?_eq_getElem h, List.getD_eq_getElem?_getD, List.getElem?_eq_getElem h]; rfl
theorem nd_fresh {l : List Gn} (h : ndG l) {i : Nat} (hi : i < l.length) : l.getD i g0 ∉ l.take i := fun hm => by
  obtain ⟨j, hj, e⟩ := mem_getD g0 hm
  rw [List.length_take] at hj
  have e2 : (l.take i).getD j g0 = l.getD j g0 := by rw [List.getD_eq_getElem?_getD, List.getElem?_take_of_lt (by omega), ← List.getD_eq_getElem?_getD]
  rw [e2] at e
  exact h j i (by omega) hi e
/-- A new layer with the nodes of a graph. -/
def LayN (N : List Gn) (F : Bool) (g : Nat) : AHeap := [.mp false shG (mpi N), .lst 0 [[.sl 2 g 0 N.length, .mp 0, .bool F]], .tab g N.length (gnR N)]
theorem layerOf_ok (l : List Gn) (hl : l.length ≤ 120) (hd : ndG l) : AFun Tryz.prog 37 [.fz l.length (gnR l)] [] (fun u H => ∃ g, u = .ptr 1 0 0 0 ∧ H = LayN l false g) := by
  refine afun_of Tryz.func37 Tryz.call37 rfl Tryz.ntmps37 rfl ?_
  have W : Walk Tryz.prog TT 37 _ := Walk.of TT_ok Tryz.func37 Tryz.results37
  refine atl W rfl ?_
  refine go_nilC 1 0 0 ((.tab 0 0 (gnR []))) rfl rfl rfl rfl rfl rfl rfl rfl rfl ?_
  refine lp W 0 (σ := Nat × Nat) (fun s => [(3, .ptr 1 0 0 0), (9, .fz l.length (gnR l)), (10, .int .i64 l.length), (11, .int .i64 s.1)]) (fun s => [.mp false shG (mpi (l.take s.1)), .lst 0 [[.sl 2 s.2 0 (l.take s.1).length, .mp 0, .bool false]], .tab s.2 (l.take s.1).length (gnR (l.take s.1))]) (fun s => l.length - s.1) (fun s => s.1 ≤ l.length) (0, 0) [3, 9, 10, 11] rfl rfl rfl (Nat.zero_le _) ?_
  rintro ⟨i, g⟩ hi ih
  dsimp only at hi ih ⊢
  refine sp W 0 rfl rfl rfl (fun z1 => ?_) (fun z1 => ?_)
  · have hi2 : i < l.length := by omega
    have lt : (l.take i).length = i := by rw [List.length_take]; omega
    have c := lay_ok (l.getD i g0) (l.take i) false g (by omega)
    have e : runI (.put (l.getD i g0) .ret) (l.take i) false = ((((l.take i).length : Nat) : Int), l.take i ++ [l.getD i g0], false) := by
      simp only [runI]; rw [if_neg (nd_fresh hd hi2), if_neg (by omega)]
    rw [e, ← take_next hi2] at c
    unfold LayS at c
    refine go_callS W 0 300 [1, 2, 0] rfl (by first | exact True.intro | (simp only [AllC, AllP, addN, Int.toNat_natCast, true_and, and_true, Option.getD, List.length_set, wrapU, pw1, pw7, pw8, pw16, pw23, pw32, pw52, Holds] <;> first | omega | ((repeat' apply And.intro) <;> first | omega | (intros; rfl))) | (simp [AllC, AllP, addN, cloL, clo, mrgL, mrg, wrapU, Holds] <;> omega)) c rfl rfl ⟨rfl, fun _ _ => rfl, trivial, trivial⟩ ⟨rfl, rfl, rfl, trivial⟩ rfl ?_
    rintro _ _ ⟨g1, rfl, rfl⟩
    refine ⟨_, _, rfl, rfl, ?_⟩
    refine bd W 0 3 [3, 9, 10, 11] rfl rfl rfl rfl rfl (ih (i + 1, g1) (by dsimp only; omega) (by dsimp only; omega))
  · have hil : i = l.length := by omega
    subst hil
    rw [List.take_length]
    refine rg W 0 rfl (⟨g, rfl, rfl⟩)
theorem parts_kind {k n : Int} {s : List UInt8} (h : 0 ≤ partsZ k n s) (h2 : k ≠ 2) (h13 : k ≠ 13) : (k = 1 ∧ partsZ k n s = 0 ∧ n = 0) ∨ ((k = 3 ∨ k = 9 ∨ k = 10) ∧ partsZ k n s = 1 ∧ n = 0) ∨ ((k = 4 ∨ k = 5 ∨ k = 6 ∨ k = 7 ∨ k = 11 ∨ k = 12) ∧ partsZ k n s = 2 ∧ n = 0) ∨ (k = 8 ∧ partsZ k n s = 1 ∧ 0 ≤ n ∧ n ≤ 8) := by
  by_cases h1 : k = 1
  · subst h1
    left
    unfold partsZ at h ⊢
    rw [if_pos rfl] at h ⊢
    split at h
    · rename_i q; rw [if_pos q]; exact ⟨rfl, rfl, q.1⟩
    · omega
  by_cases h3 : k = 3 ∨ k = 9 ∨ k = 10
  · right; left
    unfold partsZ at h ⊢
    rw [if_neg h1, if_neg h2, if_pos h3] at h ⊢
    split at h
    · rename_i q; rw [if_pos q]; exact ⟨h3, rfl, q.1⟩
    · omega
  by_cases h4 : k = 4 ∨ k = 5 ∨ k = 6 ∨ k = 7 ∨ k = 11 ∨ k = 12
  · right; right; left
    unfold partsZ at h ⊢
    rw [if_neg h1, if_neg h2, if_neg h3, if_pos h4] at h ⊢
    split at h
    · rename_i q; rw [if_pos q]; exact ⟨h4, rfl, q.1⟩
    · omega
  by_cases h8 : k = 8
  · right; right; right
    unfold partsZ at h ⊢
    rw [if_neg h1, if_neg h2, if_neg h3, if_neg h4, if_pos h8] at h ⊢
    split at h
    · rename_i q; rw [if_pos q]; exact ⟨h8, rfl, q.1, q.2.1⟩
    · omega
  · unfold partsZ at h
    rw [if_neg h1, if_neg h2, if_neg h3, if_neg h4, if_neg h8, if_neg h13] at h
    omega
/-- What a node that is made of smooth ones is like. -/
theorem slope_facts {v : Int} {l : List Gn} {i : Nat} (hv6 : v ≤ 6) (hn : nodeP v l i) (hs : ¬((l.getD i g0).k = 10 ∨ (l.getD i g0).k = 11 ∨ (l.getD i g0).k = 12)) :
    (1 ≤ (l.getD i g0).k ∧ (l.getD i g0).k ≤ 9) ∧ (0 ≤ (l.getD i g0).n ∧ (l.getD i g0).n ≤ 8) ∧ ((l.getD i g0).k = 2 → (l.getD i g0).n = i) ∧ (3 ≤ (l.getD i g0).k → 0 ≤ (l.getD i g0).a ∧ (l.getD i g0).a < i) ∧ (4 ≤ (l.getD i g0).k ∧ (l.getD i g0).k ≤ 7 → 0 ≤ (l.getD i g0).b ∧ (l.getD i g0).b < i) := by
  by_cases hv : (i : Int) < v
  · rw [hn.1 hv]
    exact ⟨⟨by simp, by simp⟩, ⟨by simp, by dsimp only; omega⟩, fun _ => rfl, fun h => by simp at h, fun h => by simp at h⟩
  · obtain ⟨⟨⟨hk, hp⟩, hpl⟩, -⟩ := hn.2 hv
    generalize l.getD i g0 = x at *
    have h0 : 0 ≤ partsZ x.k x.n x.t := by
      rcases hp with ⟨h, -⟩ | ⟨h, -⟩ | h <;> (unfold pzG at h; omega)
    unfold plG pzG at hpl
    rw [if_neg hk] at hpl
    rcases parts_kind h0 (fun e => hk (.inl e)) (fun e => hk (.inr e)) with ⟨h1, h2, h3⟩ | ⟨h1, h2, h3⟩ | ⟨h1, h2, h3⟩ | ⟨h1, h2, h3, h4⟩
    · exact ⟨by omega, by omega, fun e => by omega, fun e => by omega, fun e => by omega⟩
    · rw [if_pos h2] at hpl
      have := hpl x.a (by simp)
      exact ⟨by omega, by omega, fun e => by omega, fun e => by omega, fun e => by omega⟩
    · rw [if_neg (by omega), if_pos h2] at hpl
      have := hpl x.a (by simp)
      have := hpl x.b (by simp)
      exact ⟨by omega, by omega, fun e => by omega, fun e => by omega, fun e => by omega⟩
    · rw [if_pos h2] at hpl
      have := hpl x.a (by simp)
      exact ⟨by omega, by omega, fun e => by omega, fun e => by omega, fun e => by omega⟩
/-- The slopes are places. -/
theorem slS_in {v : Int} {l : List Gn} {w : Int} {a : Nat} (hv6 : v ≤ 6) (hp : 0 < l.length) (ha : a < l.length) (hn : ∀ i, i < l.length → nodeP v l i) (hs : smoothP v l a) : ∀ i, i ≤ l.length → ∀ j, 0 ≤ (slS (reachG v l a) l w i).2 j ∧ (slS (reachG v l a) l w i).2 j < (slS (reachG v l a) l w i).1.length
  | 0, _, j => by simp only [slS]; omega
  | i + 1, hi, j => by
    have ih := slS_in (w := w) hv6 hp ha hn hs i (by omega)
    have hle := slS_len (R := reachG v l a) (l := l) (w := w) i
    simp only [slS]
    split
    · rename_i hr
      obtain ⟨f1, f2, f3, f4, f5⟩ := slope_facts hv6 (hn i (by omega)) (hs i hr)
      have ho : (slopeG i (l.getD i g0) w (ofF (slS (reachG v l a) l w i).2)).ok (slS (reachG v l a) l w i).1.length :=
        slopeG_ok ⟨by omega, by omega⟩ (fun z => ih _) (fun h => by have := f4 h; omega) (fun h => by have := f5 h; omega)
      have hr2 := runS_ok ho (Nat.le_refl _)
      have hl2 := runS_len (slopeG i (l.getD i g0) w (ofF (slS (reachG v l a) l w i).2)) (slS (reachG v l a) l w i).1
      dsimp only
      split
      · exact hr2
      · have := ih j; omega
    · exact ih j
end Pf
/- Slopes: a node's slope, impl -/
namespace Pf
open Go Go.Proofs
theorem sCloneN_ok (N : List Gn) (g : Nat) (hN : N.length ≤ 1000000) (h0 : 0 < N.length) : AFun Tryz.prog 60 [.sl 0 g 0 N.length] [.tab g N.length (gnR N)] (fun u H => u = .sl 1 0 0 N.length ∧ H = [.tab g N.length (gnR N), .tab 0 N.length (gnR N)]) := by
  refine afun_of Tryz.func60 Tryz.call60 rfl Tryz.ntmps60 rfl ?_
  have W : Walk Tryz.prog TT 60 _ := Walk.of TT_ok Tryz.func60 Tryz.results60
  refine sp W 0 rfl rfl rfl (fun z1 => ?_) (fun z1 => ?_)
  · exfalso; omega
  · refine rg W 0 rfl (⟨rfl, rfl⟩)
theorem sCloneR_ok (R : List Gr) (hN : R.length ≤ 1000000) (h0 : 0 < R.length) : AFun Tryz.prog 62 [.fz R.length (grR R)] [] (fun u H => u = .sl 0 0 0 R.length ∧ H = [.tab 0 R.length (grR R)]) := by
  refine afun_of Tryz.func62 Tryz.call62 rfl Tryz.ntmps62 rfl ?_
  have W : Walk Tryz.prog TT 62 _ := Walk.of TT_ok Tryz.func62 Tryz.results62
  refine sp W 0 rfl rfl rfl (fun z1 => ?_) (fun z1 => ?_)
  · exfalso; omega
  · refine rg W 0 rfl (⟨rfl, rfl⟩)
theorem sClipN_ok (n g : Nat) (row : Nat → List AV) (hN : n ≤ 1000000) : AFun Tryz.prog 59 [.sl 0 g 0 n] [.tab g n row] (fun u H => u = .sl 0 g 0 n ∧ H = [.tab g n row]) := by
  refine afun_of Tryz.func59 Tryz.call59 rfl Tryz.ntmps59 rfl ?_
  have W : Walk Tryz.prog TT 59 _ := Walk.of TT_ok Tryz.func59 Tryz.results59
  refine rg W 0 rfl (⟨rfl, rfl⟩)
theorem sClipR_ok (n g : Nat) (row : Nat → List AV) (hN : n ≤ 1000000) : AFun Tryz.prog 61 [.sl 0 g 0 n] [.tab g n row] (fun u H => u = .sl 0 g 0 n ∧ H = [.tab g n row]) := by
  refine afun_of Tryz.func61 Tryz.call61 rfl Tryz.ntmps61 rfl ?_
  have W : Walk Tryz.prog TT 61 _ := Walk.of TT_ok Tryz.func61 Tryz.results61
  refine rg W 0 rfl (⟨rfl, rfl⟩)
theorem cloneN_ok (N : List Gn) (g : Nat) (hN : N.length ≤ 1000000) (h0 : 0 < N.length) : AFun Tryz.prog 39 [.sl 0 g 0 N.length] [.tab g N.length (gnR N)] (fun u H => u = .sl 1 0 0 N.length ∧ H = [.tab g N.length (gnR N), .tab 0 N.length (gnR N)]) := by
  refine afun_of Tryz.func39 Tryz.call39 rfl Tryz.ntmps39 rfl ?_
  have W : Walk Tryz.prog TT 39 _ := Walk.of TT_ok Tryz.func39 Tryz.results39
  refine go_call W 0 300 rfl (by first | exact True.intro | (simp only [AllC, AllP, addN, Int.toNat_natCast, true_and, and_true, Option.getD, List.length_set, wrapU, pw1, pw7, pw8, pw16, pw23, pw32, pw52, Holds] <;> first | omega | ((repeat' apply And.intro) <;> first | omega | (intros; rfl))) | (simp [AllC, AllP, addN, cloL, clo, mrgL, mrg, wrapU, Holds] <;> omega)) (sCloneN_ok N g hN h0) ?_
  rintro _ _ ⟨rfl, rfl⟩
  refine ⟨_, rfl, ?_⟩
  refine go_callS W 0 300 [1] rfl (by first | exact True.intro | (simp only [AllC, AllP, addN, Int.toNat_natCast, true_and, and_true, Option.getD, List.length_set, wrapU, pw1, pw7, pw8, pw16, pw23, pw32, pw52, Holds] <;> first | omega | ((repeat' apply And.intro) <;> first | omega | (intros; rfl))) | (simp [AllC, AllP, addN, cloL, clo, mrgL, mrg, wrapU, Holds] <;> omega)) (sClipN_ok N.length 0 (gnR N) hN) rfl rfl ⟨fun _ _ => rfl, trivial⟩ ⟨rfl, trivial⟩ rfl ?_
  rintro _ _ ⟨rfl, rfl⟩
  refine ⟨_, _, rfl, rfl, ?_⟩
  refine rg W 0 rfl (⟨rfl, rfl⟩)
theorem cloneR_ok (R : List Gr) (hN : R.length ≤ 1000000) (h0 : 0 < R.length) : AFun Tryz.prog 40 [.fz R.length (grR R)] [] (fun u H => u = .sl 0 0 0 R.length ∧ H = [.tab 0 R.length (grR R)]) := by
  refine afun_of Tryz.func40 Tryz.call40 rfl Tryz.ntmps40 rfl ?_
  have W : Walk Tryz.prog TT 40 _ := Walk.of TT_ok Tryz.func40 Tryz.results40
  refine go_call W 0 300 rfl (by first | exact True.intro | (simp only [AllC, AllP, addN, Int.toNat_natCast, true_and, and_true, Option.getD, List.length_set, wrapU, pw1, pw7, pw8, pw16, pw23, pw32, pw52, Holds] <;> first | omega | ((repeat' apply And.intro) <;> first | omega | (intros; rfl))) | (simp [AllC, AllP, addN, cloL, clo, mrgL, mrg, wrapU, Holds] <;> omega)) (sCloneR_ok R hN h0) ?_
  rintro _ _ ⟨rfl, rfl⟩
  refine ⟨_, rfl, ?_⟩
  refine go_callS W 0 300 [0] rfl (by first | exact True.intro | (simp only [AllC, AllP, addN, Int.toNat_natCast, true_and, and_true, Option.getD, List.length_set, wrapU, pw1, pw7, pw8, pw16, pw23, pw32, pw52, Holds] <;> first | omega | ((repeat' apply And.intro) <;> first | omega | (intros; rfl))) | (simp [AllC, AllP, addN, cloL, clo, mrgL, mrg, wrapU, Holds] <;> omega)) (sClipR_ok R.length 0 (grR R) hN) rfl rfl ⟨fun _ _ => rfl, trivial⟩ ⟨rfl, trivial⟩ rfl ?_
  rintro _ _ ⟨rfl, rfl⟩
  refine ⟨_, _, rfl, rfl, ?_⟩
  refine rg W 0 rfl (⟨rfl, rfl⟩)
/-- What the slope of a node is, its graph in new memory. -/
def SoQ (v : Int) (rs : List Gr) (N : List Gn) (k : Int) (u : AV) (H : AHeap) : Prop :=
  (N.length ≤ 120 → u = .tup [.agg [.int .i64 v, .sl 7 0 0 N.length, .sl 8 0 0 rs.length], .int .i64 k, .bool true] ∧ H = [.dead, .lst 0 [[.int .i64 v, .sl 7 0 0 N.length, .sl 8 0 0 rs.length]], .dead, .dead, .dead, .dead, .dead, .tab 0 N.length (gnR N), .tab 0 rs.length (grR rs)]) ∧
  (120 < N.length → ∃ g1 N1 K1, u = .tup [.agg [.int .i64 0, .nils, .nils], .int .i64 0, .bool false] ∧ H = [.dead, .lst 0 [[.int .i64 0, .nils, .nils]], .dead, .lst 0 [[.sl 4 g1 0 N1.length, .mp 2, .bool true]], .tab g1 N1.length (gnR N1), .ints 0 .i64 K1, .dead])
theorem slopeOf_ok (v w : Int) (l : List Gn) (rs : List Gr) (a : Nat) (ha : a < l.length) (hl : l.length ≤ 120) (hr : 0 < rs.length ∧ rs.length ≤ 1000000) (hx : gtxtOk l) (hv : 1 ≤ v ∧ v ≤ 6) (hn : ∀ i, i < l.length → nodeP v l i) (hs : smoothP v l a) : AFun Tryz.prog 26 [graphV v l rs, .int .i64 a, .int .i64 w] [] (SoQ v rs (slS (reachG v l a) l w l.length).1 ((slS (reachG v l a) l w l.length).2 a)) := by
  have hd := graph_nd hn
  refine afun_of Tryz.func26 Tryz.call26 rfl Tryz.ntmps26 rfl ?_
  have W : Walk Tryz.prog TT 26 _ := Walk.of TT_ok Tryz.func26 Tryz.results26
  refine go_callS W 0 300 [] rfl (by first | exact True.intro | (simp only [AllC, AllP, addN, Int.toNat_natCast, true_and, and_true, Option.getD, List.length_set, wrapU, pw1, pw7, pw8, pw16, pw23, pw32, pw52, Holds] <;> first | omega | ((repeat' apply And.intro) <;> first | omega | (intros; rfl))) | (simp [AllC, AllP, addN, cloL, clo, mrgL, mrg, wrapU, Holds] <;> omega)) (layerOf_ok l hl hd) rfl rfl trivial trivial rfl ?_
  rintro _ _ ⟨g, rfl, rfl⟩
  refine ⟨_, _, rfl, rfl, ?_⟩
  refine cf W 0 [6] [1, 2, 3, 6, 9, 10] rfl rfl rfl rfl rfl rfl (madeOf_ok v l rs a ha (by omega) hx hv.1 hn) rfl ?_
  refine lp W 0 (σ := Nat × List Gn × Bool × Nat × List Int) (fun s => [(1, .int .i64 a), (2, .int .i64 w), (3, .ptr 0 0 0 0), (6, .ptr 1 0 0 0), (9, .ptr 3 0 0 0), (10, .sl 5 0 0 l.length), (23, .fz l.length fun j => [.pr (reachG v l a j)]), (24, .int .i64 l.length), (25, .int .i64 s.1)])
    (fun s => [.lst 0 [[.int .i64 v, .fz l.length (gnR l), .fz rs.length (grR rs)]], .lst 0 [[.int .i64 0, .nils, .nils]], .mp false shG (mpi s.2.1), .lst 0 [[.sl 4 s.2.2.2.1 0 s.2.1.length, .mp 2, .bool s.2.2.1]], .tab s.2.2.2.1 s.2.1.length (gnR s.2.1), .ints 0 .i64 s.2.2.2.2, .dead])
    (fun s => l.length - s.1) (fun s => s.1 ≤ l.length ∧ (s.2.1 = (slI (reachG v l a) l w s.1).1 ∧ s.2.2.1 = (slI (reachG v l a) l w s.1).2.1) ∧ s.2.2.2.2.length = l.length ∧ ∀ j, s.2.2.2.2.getD j 0 = (slI (reachG v l a) l w s.1).2.2 j) (0, l, false, g, List.replicate (l.length : Int).toNat 0) [1, 2, 3, 6, 9, 10, 23, 24, 25] rfl rfl rfl ⟨Nat.zero_le _, ⟨rfl, rfl⟩, by simp, fun j => by simp [slI, List.getD_eq_getElem?_getD, List.getElem?_replicate]; split <;> rfl⟩ ?_
  rintro ⟨i, N, F, g1, K⟩ ⟨hi, ⟨hNe, hFe⟩, hKl, hK⟩ ih
  dsimp only at hi hNe hFe hKl hK ih ⊢
  refine sp W 0 rfl rfl rfl (fun z1 => ?_) (fun z1 => ?_)
  · have hi2 : i < l.length := by omega
    have iN : ((i : Nat) : Int).toNat = i := Int.toNat_natCast i
    refine sp W 0 rfl rfl rfl (fun z2 => ?_) (fun z2 => ?_)
    · rw [iN] at z2
      rcases F with _ | _
      · have hlen : (slS (reachG v l a) l w i).1.length ≤ 120 := by
          rcases Nat.lt_or_ge 120 (slS (reachG v l a) l w i).1.length with hb | hb
          · have := (sl_lock (R := reachG v l a) (w := w) hl i).2 hb
            rw [← hFe] at this; cases this
          · exact hb
        have hE := (sl_lock (R := reachG v l a) (w := w) hl i).1 hlen
        have hin := slS_in (w := w) hv.2 (by omega) ha hn hs i hi
        have hK0 : ∀ j, 0 ≤ K.getD j 0 := fun j => by rw [hK, hE]; exact (hin j).1
        obtain ⟨f1, f2, f3, f4, f5⟩ := slope_facts hv.2 (hn i hi2) (hs i z2)
        have hN : N.length ≤ 120 := by rw [hNe]; exact slI_len hl i
        have c := slope_ok (i : Nat) w (l.getD i g0) K N false g1 0 hN (by omega) hK0 (by omega) (fun h => by have := f4 h.1; omega) (fun h => by have := f5 h; omega)
        obtain ⟨⟨r, N', F'⟩, e⟩ : ∃ q, runI (slopeG (i : Nat) (l.getD i g0) w (ofK K)) N false = q := ⟨_, rfl⟩
        rw [e, hKl] at c
        have hof : ofF (slI (reachG v l a) l w i).2.2 = ofK K := funext fun z => by unfold ofF ofK; rw [hK]
        have es : slI (reachG v l a) l w (i + 1) = (N', F', fun j => if j = i then r else (slI (reachG v l a) l w i).2.2 j) := by
          rw [slI, if_pos ⟨z2, hFe.symm⟩, hof, ← hNe, e]
        refine go_callS W 0 300 [3, 4, 2, 5] rfl (by first | exact True.intro | (simp only [AllC, AllP, addN, Int.toNat_natCast, true_and, and_true, Option.getD, List.length_set, wrapU, pw1, pw7, pw8, pw16, pw23, pw32, pw52, Holds] <;> first | omega | ((repeat' apply And.intro) <;> first | omega | (intros; rfl))) | (simp [AllC, AllP, addN, cloL, clo, mrgL, mrg, wrapU, Holds] <;> omega)) c rfl rfl ⟨rfl, fun _ _ => rfl, trivial, trivial, trivial⟩ ⟨rfl, rfl, rfl, rfl, trivial⟩ rfl ?_
        rintro _ _ ⟨g2, rfl, rfl⟩
        refine ⟨_, _, rfl, rfl, ?_⟩
        have nx := ih (i + 1, N', F', g2, K.set (addN 0 ((i : Nat) : Int).toNat) r) ⟨by dsimp only; omega, by rw [es]; exact ⟨rfl, rfl⟩, by simpa using hKl, fun j => ?_⟩ (by dsimp only; omega)
        · dsimp only at nx
          refine bd W 0 7 [1, 2, 3, 6, 9, 10, 23, 24, 25] rfl rfl rfl rfl rfl nx (hc := by simp only [AllC, addNz, iN, true_and, and_true]; omega)
        · rw [es]
          dsimp only
          rw [addNz, iN]
          by_cases hji : j = i
          · subst hji; rw [if_pos rfl, List.getD_eq_getElem?_getD, List.getElem?_set_self (by omega)]; rfl
          · rw [if_neg hji, ← hK, List.getD_eq_getElem?_getD, List.getElem?_set_ne (fun k => hji k.symm), ← List.getD_eq_getElem?_getD]
      · have es : slI (reachG v l a) l w (i + 1) = slI (reachG v l a) l w i := by rw [slI, if_neg (fun k => by rw [← hFe] at k; cases k.2)]
        refine bd W 0 7 [1, 2, 3, 6, 9, 10, 23, 24, 25] rfl rfl rfl rfl rfl (ih (i + 1, N, true, g1, K) ⟨by dsimp only; omega, by rw [es]; exact ⟨hNe, hFe⟩, hKl, by rw [es]; exact hK⟩ (by dsimp only; omega))
    · rw [iN] at z2
      have es : slI (reachG v l a) l w (i + 1) = slI (reachG v l a) l w i := by rw [slI, if_neg (fun k => z2 k.1)]
      refine bd W 0 7 [1, 2, 3, 6, 9, 10, 23, 24, 25] rfl rfl rfl rfl rfl (ih (i + 1, N, F, g1, K) ⟨by dsimp only; omega, by rw [es]; exact ⟨hNe, hFe⟩, hKl, by rw [es]; exact hK⟩ (by dsimp only; omega))
  · have hil : i = l.length := by omega
    subst hil
    have hl0 := slS_len (R := reachG v l a) (l := l) (w := w) l.length
    obtain ⟨L1, L2⟩ := sl_lock (R := reachG v l a) (w := w) hl l.length
    rcases F with _ | _
    · have hlen : (slS (reachG v l a) l w l.length).1.length ≤ 120 := by
        rcases Nat.lt_or_ge 120 (slS (reachG v l a) l w l.length).1.length with hb | hb
        · have := L2 hb
          rw [← hFe] at this; cases this
        · exact hb
      have hE := L1 hlen
      have hNs : N = (slS (reachG v l a) l w l.length).1 := by rw [hNe, hE]
      have hks : K.getD (addN 0 ((a : Nat) : Int).toNat) 0 = (slS (reachG v l a) l w l.length).2 a := by rw [addNz, Int.toNat_natCast, hK, hE]
      rw [← hNs, ← hks]
      have hN0 : 0 < N.length := by rw [hNs]; omega
      have hN1 : N.length ≤ 120 := by rw [hNs]; exact hlen
      refine phg W 0 16 [6, 9, 15] rfl rfl (fun PW => ?_)
      refine phl PW 0 [6] [] [] rfl rfl trivial ⟨?_, trivial⟩ (hp := by simp only [AllP, Holds, Option.getD, addNz, Int.toNat_natCast, true_and, and_true]; omega)
      refine nx_call PW rfl (AFun.sub (ρ := [4]) (cloneN_ok N g1 (by omega) hN0) rfl ⟨fun _ _ => rfl, trivial⟩ ⟨rfl, trivial⟩ (by decide)) ?_
      rintro _ _ ⟨_, _, ⟨rfl, rfl⟩, rfl, hq1⟩
      obtain rfl := Option.some.inj (show some _ = some _ from hq1)
      refine ⟨_, rfl, ?_⟩
      refine phl PW 0 [9] [] [] rfl rfl trivial ⟨?_, trivial⟩ (hp := by simp only [AllP, Holds, Option.getD, addNz, Int.toNat_natCast, true_and, and_true]; omega)
      refine nx_call PW rfl (AFun.sub (ρ := []) (cloneR_ok rs hr.2 hr.1) rfl trivial trivial (by decide)) ?_
      rintro _ _ ⟨_, _, ⟨rfl, rfl⟩, rfl, hq2⟩
      obtain rfl := Option.some.inj (show some _ = some _ from hq2)
      refine ⟨_, rfl, ?_⟩
      refine pho PW 0 15 [] [] rfl rfl trivial rfl rfl ?_
      refine phe PW 0 [] [] rfl trivial rfl ?_
      refine go_dead 0 rfl ?_
      refine go_dead 2 rfl ?_
      refine go_dead 3 rfl ?_
      refine go_dead 4 rfl ?_
      refine go_dead 5 rfl ?_
      refine rg W 0 rfl (⟨fun _ => ⟨rfl, rfl⟩, fun h => by omega⟩)
    · have hlen : 120 < (slS (reachG v l a) l w l.length).1.length := by
        rcases Nat.lt_or_ge 120 (slS (reachG v l a) l w l.length).1.length with hb | hb
        · exact hb
        · have := L1 hb
          rw [this] at hFe; cases hFe
      refine go_dead 0 rfl ?_
      refine go_dead 2 rfl ?_
      refine rg W 0 rfl (⟨fun h => by omega, fun _ => ⟨g1, N, K, rfl, rfl⟩⟩)
end Pf
/- Slopes: the model's slopes of a graph -/
namespace Pf
open Go Go.Proofs
theorem take_nextR {l : List Gr} {i : Nat} (h : i < l.length) : l.take (i + 1) = l.take i ++ [l.getD i r0] := by
  rw [List.take_add_one, List.getElem?_eq_getElem h, List.getD_eq_getElem?_getD, List.getElem?_eq_getElem h]; rfl
theorem grR_app (N : List Gr) (x : Gr) (j : Nat) (hj : j < N.length + 1) : mrgL (j < N.length) (grR N j) [.int .i64 x.k, .int .i64 x.l, .int .i64 x.r] = grR (N ++ [x]) j := by
  unfold grR
  by_cases h : j < N.length
  · have e : (N ++ [x]).getD j r0 = N.getD j r0 := by rw [List.getD_eq_getElem?_getD, List.getElem?_append_left h, ← List.getD_eq_getElem?_getD]
    rw [e]
    simp [mrgL, mrg, h]
  · have hj : j = N.length := by omega
    subst hj
    have e : (N ++ [x]).getD N.length r0 = x := by simp [List.getD_eq_getElem?_getD]
    rw [e]
    simp [mrgL, mrg]
theorem l17Graph_ok (v : Int) (l : List Gn) (rs : List Gr) (hl : l.length ≤ 1000000) (hr : rs.length ≤ 1000000) : AFun Tryz.prog 21 [graphV v l rs] [] (fun u H => ∃ g, u = .agg [.int .i64 v, .sl 3 g 0 l.length, .fz rs.length (grR rs)] ∧ H = [.dead, .lst 0 [[.int .i64 v, .sl 3 g 0 l.length, .fz rs.length (grR rs)]], .lst 0 [[.int .i64 v, .sl 3 g 0 l.length, .fz rs.length (grR rs)]], .tab g l.length (gnR l), .dead]) := by
  refine afun_of Tryz.func21 Tryz.call21 rfl Tryz.ntmps21 rfl ?_
  have W : Walk Tryz.prog TT 21 _ := Walk.of TT_ok Tryz.func21 Tryz.results21
  refine atl W rfl ?_
  refine go_nilC 2 0 1 ((.tab 0 0 (gnR []))) rfl rfl rfl rfl rfl rfl rfl rfl rfl ?_
  refine go_nilC 2 0 2 ((.tab 0 0 (grR []))) rfl rfl rfl rfl rfl rfl rfl rfl rfl ?_
  refine lp W 0 (σ := Nat × Nat) (fun s => [(1, .ptr 0 0 0 0), (2, .ptr 1 0 0 0), (3, .ptr 2 0 0 0), (4, .int .i64 s.1)]) (fun s => [.lst 0 [[.int .i64 v, .fz l.length (gnR l), .fz rs.length (grR rs)]], .lst 0 [[.int .i64 0, .nils, .nils]], .lst 0 [[.int .i64 v, .sl 3 s.2 0 (l.take s.1).length, .sl 4 0 0 0]], .tab s.2 (l.take s.1).length (gnR (l.take s.1)), .tab 0 0 (grR [])]) (fun s => l.length - s.1) (fun s => s.1 ≤ l.length) (0, 0) [1, 2, 3, 4] rfl rfl rfl (Nat.zero_le _) ?_
  rintro ⟨i, g⟩ hi ih
  dsimp only at hi ih ⊢
  refine sp W 0 rfl rfl rfl (fun z1 => ?_) (fun z1 => ?_)
  · have hi2 : i < l.length := by omega
    have iN : ((i : Nat) : Int).toNat = i := Int.toNat_natCast i
    have lt : (l.take i).length = i := by rw [List.length_take]; omega
    have lt2 : (l.take (i + 1)).length = (l.take i).length + 1 := by rw [take_next hi2]; simp
    refine phg W 0 9 [7, 8] rfl rfl (fun PW => ?_)
    refine pho PW 0 7 [] [] rfl rfl trivial rfl rfl ?_
    refine pho PW 0 8 [] [] rfl rfl trivial rfl rfl ?_
    refine phe PW 0 [] [] rfl trivial rfl ?_
    refine go_tab 3 (l.take (i + 1)).length (gnR (l.take (i + 1))) rfl rfl rfl (by rw [addNz, lt2]; exact Nat.le_refl _) (fun j hj => ?_) (.inl lt2) ?_
    · rw [addNz, take_next hi2]
      exact (gnR_app (l.take i) (l.getD i g0) j (by rw [← lt2]; exact hj)).symm
    have nx := ih (i + 1, g + 1) (by dsimp only; omega) (by dsimp only; omega)
    dsimp only at nx
    rw [lt2] at nx
    rw [lt2]
    refine bd W 0 5 [1, 2, 3, 4] rfl rfl rfl rfl rfl (nx)
  · have hil : i = l.length := by omega
    subst hil
    rw [List.take_length]
    refine lp W 0 (σ := Nat × Nat) (fun s => [(1, .ptr 0 0 0 0), (2, .ptr 1 0 0 0), (3, .ptr 2 0 0 0), (5, .int .i64 s.1)]) (fun s => [.lst 0 [[.int .i64 v, .fz l.length (gnR l), .fz rs.length (grR rs)]], .lst 0 [[.int .i64 0, .nils, .nils]], .lst 0 [[.int .i64 v, .sl 3 g 0 l.length, .sl 4 s.2 0 (rs.take s.1).length]], .tab g l.length (gnR l), .tab s.2 (rs.take s.1).length (grR (rs.take s.1))]) (fun s => rs.length - s.1) (fun s => s.1 ≤ rs.length) (0, 0) [1, 2, 3, 5] rfl rfl rfl (Nat.zero_le _) ?_
    rintro ⟨i, g1⟩ hi ih
    dsimp only at hi ih ⊢
    refine sp W 0 rfl rfl rfl (fun z1 => ?_) (fun z1 => ?_)
    · have hi2 : i < rs.length := by omega
      have iN : ((i : Nat) : Int).toNat = i := Int.toNat_natCast i
      have lt : (rs.take i).length = i := by rw [List.length_take]; omega
      have lt2 : (rs.take (i + 1)).length = (rs.take i).length + 1 := by rw [take_nextR hi2]; simp
      refine phg W 0 9 [7, 8] rfl rfl (fun PW => ?_)
      refine pho PW 0 7 [] [] rfl rfl trivial rfl rfl ?_
      refine pho PW 0 8 [] [] rfl rfl trivial rfl rfl ?_
      refine phe PW 0 [] [] rfl trivial rfl ?_
      refine go_tab 4 (rs.take (i + 1)).length (grR (rs.take (i + 1))) rfl rfl rfl (by rw [addNz, lt2]; exact Nat.le_refl _) (fun j hj => ?_) (.inl lt2) ?_
      · rw [addNz, take_nextR hi2]
        exact (grR_app (rs.take i) (rs.getD i r0) j (by rw [← lt2]; exact hj)).symm
      have nx := ih (i + 1, g1 + 1) (by dsimp only; omega) (by dsimp only; omega)
      dsimp only at nx
      rw [lt2] at nx
      rw [lt2]
      refine bd W 0 5 [1, 2, 3, 5] rfl rfl rfl rfl rfl (nx)
    · have hil : i = rs.length := by omega
      subst hil
      rw [List.take_length]
      refine go_frz [4] [1, 2, 3, 30] rfl rfl rfl (by first | exact True.intro | (simp only [AllC, AllP, addN, Int.toNat_natCast, true_and, and_true, Option.getD, List.length_set, wrapU, pw1, pw7, pw8, pw16, pw23, pw32, pw52, Holds] <;> first | omega | ((repeat' apply And.intro) <;> first | omega | (intros; rfl))) | (simp [AllC, AllP, addN, cloL, clo, mrgL, mrg, wrapU, Holds] <;> omega)) (by first | exact True.intro | (simp only [AllC, AllP, addN, Int.toNat_natCast, true_and, and_true, Option.getD, List.length_set, wrapU, pw1, pw7, pw8, pw16, pw23, pw32, pw52, Holds] <;> first | omega | ((repeat' apply And.intro) <;> first | omega | (intros; rfl))) | (simp [AllC, AllP, addN, cloL, clo, mrgL, mrg, wrapU, Holds] <;> omega)) ?_
      refine go_dead 0 rfl ?_
      refine rg W 0 rfl (⟨g, rfl, rfl⟩)
theorem needs_new (v : Int) (l : List Gn) (rs : List Gr) (a : Nat) (ha : a < l.length) (hl : l.length ≤ 1048576) (hx : gtxtOk l) (hv0 : 1 ≤ v) (hn : ∀ i, i < l.length → nodeP v l i) : AFun Tryz.prog 43 [graphV v l rs, .int .i64 a] [] (fun u H => u = .sl 1 0 0 l.length ∧ H = [.dead, .tab 0 l.length fun j => [.pr (reachG v l a j)]]) := by
  refine afun_of Tryz.func43 Tryz.call43 rfl Tryz.ntmps43 rfl ?_
  have W : Walk Tryz.prog TT 43 _ := Walk.of TT_ok Tryz.func43 Tryz.results43
  refine lp W 0 (σ := Int × (Nat → Prop)) (fun s => [(2, .ptr 0 0 0 0), (5, .sl 1 0 0 l.length), (6, .int .i64 s.1)]) (fun s => [.lst 0 [[.int .i64 v, .fz l.length (gnR l), .fz rs.length (grR rs)]], .tab 0 l.length fun j => [.pr (s.2 j)]]) (fun s => (s.1 + 1).toNat) (fun s => (-1 ≤ s.1 ∧ s.1 ≤ a) ∧ Mark v l a s.1 s.2) ((a : Int), fun j => if j = a then true = true else false = true) [2, 5, 6] rfl rfl rfl ⟨⟨by dsimp only; omega, by dsimp only; omega⟩, Mark.start (Int.le_refl _) fun j => by by_cases h : j = a <;> simp [h]⟩ ?_
  rintro ⟨i, F⟩ ⟨⟨hi0, hi⟩, hm⟩ ih
  dsimp only at hi0 hi hm ih ⊢
  refine sp W 0 rfl rfl rfl (fun h1 => ?_) (fun h1 => ?_)
  · obtain ⟨m, rfl⟩ : ∃ m : Nat, i = m := ⟨i.toNat, by omega⟩
    have mN : ((m : Nat) : Int).toNat = m := Int.toNat_natCast m
    have kp := l12Args_ok (l.getD m g0).k (l.getD m g0).n (l.getD m g0).t (by have := hx m (by omega); omega)
    rw [show partsZ (l.getD m g0).k (l.getD m g0).n (l.getD m g0).t = pzG (l.getD m g0) from rfl] at kp
    have eN : addN 0 ((m : Nat) : Int).toNat = m := by rw [mN]; cases m <;> rfl
    refine sp W 0 rfl rfl rfl (fun h2 => ?_) (fun h2 => ?_)
    · have h2' : ¬ F m := by rw [eN] at h2; exact h2
      refine bd W 0 2 [2, 5, 6] rfl rfl rfl rfl rfl (ih ((m : Int) - 1, F) ⟨⟨by dsimp only; omega, by dsimp only; omega⟩, hm.skip (by omega) fun h => absurd h h2'⟩ (by dsimp only; omega))
    have h2' : F m := by rw [eN] at h2; exact Classical.not_not.1 h2
    refine ce W 0 rfl rfl (kp) rfl ?_
    rw [mN]
    refine sp W 0 rfl rfl rfl (fun h3 => ?_) (fun h3 => ?_)
    · have hv : ¬ (m : Int) < v := by omega
      obtain ⟨hz, q0, q1, q2, hlt⟩ := node_parts (hn m (by omega)) hv
      refine sp W 0 rfl rfl rfl (fun h4 => ?_) (fun h4 => ?_)
      · have hA : 0 ≤ (l.getD m g0).a ∧ (l.getD m g0).a < m := by
          rcases (show pzG (l.getD m g0) = 1 ∨ pzG (l.getD m g0) = 2 by omega) with e | e
          · exact hlt _ (by rw [q1 e]; simp)
          · exact hlt _ (by rw [q2 e]; simp)
        have eA : addN 0 (l.getD m g0).a.toNat = (l.getD m g0).a.toNat := by cases (l.getD m g0).a.toNat <;> rfl
        refine sp W 0 rfl rfl rfl (fun h5 => ?_) (fun h5 => ?_)
        · refine sp W 0 rfl rfl rfl (fun h6 => ?_) (fun h6 => ?_)
          · have e : pzG (l.getD m g0) = 2 := by omega
            have hB : 0 ≤ (l.getD m g0).b ∧ (l.getD m g0).b < m := hlt _ (by rw [q2 e]; simp)
            have eB : addN 0 (l.getD m g0).b.toNat = (l.getD m g0).b.toNat := by cases (l.getD m g0).b.toNat <;> rfl
            refine bd W 0 2 [2, 5, 6] rfl rfl rfl rfl rfl (ih ((m : Int) - 1, fun j => if j = addN 0 (l.getD m g0).b.toNat then true = true else if j = addN 0 (l.getD m g0).a.toNat then true = true else F j) ⟨⟨by dsimp only; omega, by dsimp only; omega⟩, hm.add (by omega) h2' hv hlt fun j => ?_⟩ (by dsimp only; omega))
            rw [mN, q2 e, eA, eB]
            exact mark2 F _ _ j
          · have e : pzG (l.getD m g0) = 1 := by omega
            refine bd W 0 2 [2, 5, 6] rfl rfl rfl rfl rfl (ih ((m : Int) - 1, fun j => if j = addN 0 (l.getD m g0).a.toNat then true = true else F j) ⟨⟨by dsimp only; omega, by dsimp only; omega⟩, hm.add (by omega) h2' hv hlt fun j => ?_⟩ (by dsimp only; omega))
            rw [mN, q1 e, eA]
            by_cases e2 : j = (l.getD m g0).a.toNat
            · simp [e2]
            · simp only [e2, if_false, List.mem_singleton, exists_eq_left]
              exact ⟨.inl, fun h => h.resolve_right fun h => e2 h.symm⟩
        · exfalso; omega
      · have e : pzG (l.getD m g0) = 0 := by omega
        refine sp W 0 rfl rfl rfl (fun h5 => ?_) (fun h5 => ?_)
        · refine sp W 0 rfl rfl rfl (fun h6 => ?_) (fun h6 => ?_)
          · exfalso; omega
          · refine bd W 0 2 [2, 5, 6] rfl rfl rfl rfl rfl (ih ((m : Int) - 1, F) ⟨⟨by dsimp only; omega, by dsimp only; omega⟩, hm.skip (by omega) fun _ _ k hk => by rw [mN, q0 e] at hk; simp at hk⟩ (by dsimp only; omega))
        · exfalso; omega
    · refine sp W 0 rfl rfl rfl (fun h5 => ?_) (fun h5 => ?_)
      · exfalso; omega
      · refine bd W 0 2 [2, 5, 6] rfl rfl rfl rfl rfl (ih ((m : Int) - 1, F) ⟨⟨by dsimp only; omega, by dsimp only; omega⟩, hm.skip (by omega) fun _ h => absurd (by omega) h⟩ (by dsimp only; omega))
  · have hF := hm.all (by omega) (.inl (by omega))
    obtain rfl := hF
    refine go_dead 0 rfl ?_
    refine rg W 0 rfl (⟨rfl, rfl⟩)
/-- How many nodes a program puts at most. -/
def Pg.cnt : Pg → Nat → Prop
  | .ret _, _ => True
  | .put _ k, n => ∃ m, n = m + 1 ∧ ∀ i, (k i).cnt m
  | .is _ _ k, n => ∀ t, (k t).cnt n
theorem Pg.cnt_mono {P : Pg} : ∀ {n m : Nat}, P.cnt n → n ≤ m → P.cnt m := by
  induction P with
  | ret v => intro n m _ _; trivial
  | put x k ih =>
    intro n m h hm
    obtain ⟨q, rfl, hq⟩ := h
    exact ⟨m - 1, by omega, fun i => ih i (hq i) (by omega)⟩
  | is a s k ih => intro n m h hm t; exact ih t (h t) hm
theorem Pg.cnt_one {P : Pg} (h : P.one) : P.cnt 1 := by
  induction P with
  | ret v => trivial
  | put x k ih =>
    refine ⟨0, rfl, fun i => ?_⟩
    obtain ⟨v, e⟩ := h i
    rw [e]; trivial
  | is a s k ih => intro t; exact ih t (h t)
theorem cnt_ite {u : Int} {s : List UInt8} {p q : Pg} {n : Nat} (hp : p.cnt n) (hq : q.cnt n) : (Pg.is u s fun t => if t then p else q).cnt n := fun t => by cases t; exact hq; exact hp
theorem Pg.cnt_bind {P : Pg} {f : Int → Pg} {b : Nat} (hf : ∀ r, (f r).cnt b) : ∀ {a : Nat}, P.cnt a → (P.bind f).cnt (a + b) := by
  induction P with
  | ret v => intro a _; exact Pg.cnt_mono (hf v) (by omega)
  | put x k ih =>
    intro a h
    obtain ⟨q, rfl, hq⟩ := h
    exact ⟨q + b, by omega, fun i => ih i (hq i)⟩
  | is c s k ih => intro a h t; exact ih t (h t)
theorem runS_cnt {P : Pg} : ∀ {n : Nat}, P.cnt n → ∀ N, (runS P N).2.length ≤ N.length + n := by
  induction P with
  | ret v => intro n _ N; exact Nat.le_add_right _ _
  | put x k ih =>
    intro n h N
    obtain ⟨m, rfl, hm⟩ := h
    simp only [runS]
    split
    · have := ih _ (hm (idxG N x)) N; omega
    · have := ih _ (hm N.length) (N ++ [x])
      rw [List.length_append, List.length_singleton] at this
      omega
  | is a s k ih => intro n h N; simp only [runS]; exact ih _ (h _) N
theorem slopeG_cnt (at' w : Int) (x : Gn) (of : Int → Int) : (slopeG at' x w of).cnt 6 := by
  have o : ∀ {P : Pg}, P.one → P.cnt 6 := fun h => Pg.cnt_mono (Pg.cnt_one h) (by omega)
  have rt : ∀ (z : Int) (n : Nat), (Pg.ret z).cnt n := fun _ _ => trivial
  unfold slopeG
  split
  · split <;> exact o (one_num _)
  split
  · exact o (one_neg _)
  split
  · exact o (one_sum _ _)
  split
  · exact o (one_less _ _)
  split
  · exact Pg.cnt_bind (a := 4) (b := 2) (fun l => Pg.cnt_bind (a := 1) (b := 1) (fun r => Pg.cnt_one (one_sum l r)) (Pg.cnt_one (one_times _ _))) (Pg.cnt_mono (Pg.cnt_one (one_times _ _)) (by omega))
  split
  · exact Pg.cnt_bind (a := 2) (b := 4) (fun l => Pg.cnt_bind (a := 1) (b := 3) (fun r => Pg.cnt_bind (a := 1) (b := 2) (fun u => cnt_ite (rt _ _) (Pg.cnt_bind (a := 1) (b := 1) (fun q => Pg.cnt_one (one_by u q)) (Pg.cnt_one (one_raised _ _)))) (Pg.cnt_one (one_less l r))) (Pg.cnt_one (one_times _ _))) (Pg.cnt_mono (Pg.cnt_one (one_times _ _)) (by omega))
  split
  · split
    · exact o (one_num _)
    split
    · exact rt _ _
    · exact cnt_ite (rt _ _) (Pg.cnt_bind (a := 3) (b := 3) (fun f => Pg.cnt_bind (a := 1) (b := 2) (fun r => Pg.cnt_bind (a := 1) (b := 1) (fun y => Pg.cnt_one (one_times y _)) (Pg.cnt_one (one_times f r))) (Pg.cnt_one (one_raised _ _))) (Pg.cnt_mono (Pg.cnt_one (one_num _)) (by omega)))
  split
  · exact cnt_ite (rt _ _) (Pg.cnt_bind (a := 4) (b := 2) (fun c => Pg.cnt_bind (a := 1) (b := 1) (fun y => Pg.cnt_one (one_by _ y)) (Pg.cnt_one (one_times c _))) (Pg.cnt_mono (Pg.cnt_one (one_num _)) (by omega)))
  · exact o (one_num _)
theorem slS_bound {R : Nat → Prop} {l : List Gn} {w : Int} : ∀ i, (slS R l w i).1.length ≤ l.length + 6 * i
  | 0 => Nat.le_refl _
  | i + 1 => by
    have ih := slS_bound (R := R) (l := l) (w := w) i
    simp only [slS]
    split
    · have := runS_cnt (slopeG_cnt (i : Nat) w (l.getD i g0) (ofF (slS R l w i).2)) (slS R l w i).1
      dsimp only
      omega
    · omega
theorem l17Slope_ok (v w : Int) (l : List Gn) (rs : List Gr) (a : Nat) (ha : a < l.length) (hl : l.length ≤ 200) (hx : gtxtOk l) (hv : 1 ≤ v ∧ v ≤ 6) (hn : ∀ i, i < l.length → nodeP v l i) (hs : smoothP v l a) (g : Nat) : AFun Tryz.prog 20 [.agg [.int .i64 v, .sl 0 g 0 l.length, .fz rs.length (grR rs)], .int .i64 a, .int .i64 w] [.tab g l.length (gnR l)] (PutQ v rs ((slS (reachG v l a) l w (a + 1)).2 a, (slS (reachG v l a) l w (a + 1)).1)) := by
  have hd := graph_nd hn
  refine AFun.trim 1 ?_ (by simp)
  refine afun_of Tryz.func20 Tryz.call20 rfl Tryz.ntmps20 rfl ?_
  have W : Walk Tryz.prog TT 20 _ := Walk.of TT_ok Tryz.func20 Tryz.results20
  refine go_callL W 0 300 rfl (by first | exact True.intro | (simp only [AllC, AllP, addN, Int.toNat_natCast, true_and, and_true, Option.getD, List.length_set, wrapU, pw1, pw7, pw8, pw16, pw23, pw32, pw52, Holds] <;> first | omega | ((repeat' apply And.intro) <;> first | omega | (intros; rfl))) | (simp [AllC, AllP, addN, cloL, clo, mrgL, mrg, wrapU, Holds] <;> omega)) rfl (by first | exact True.intro | (simp only [AllC, AllP, addN, Int.toNat_natCast, true_and, and_true, Option.getD, List.length_set, wrapU, pw1, pw7, pw8, pw16, pw23, pw32, pw52, Holds] <;> first | omega | ((repeat' apply And.intro) <;> first | omega | (intros; rfl))) | (simp [AllC, AllP, addN, cloL, clo, mrgL, mrg, wrapU, Holds] <;> omega)) rfl (needs_new v l rs a ha (by omega) hx hv.1 hn) (fun u H h => by obtain ⟨rfl, rfl⟩ := h; exact ⟨rfl, trivial, fun _ _ => rfl, trivial⟩) ?_
  rintro _ _ ⟨rfl, rfl⟩
  refine ⟨_, _, rfl, rfl, ?_⟩
  refine atl W rfl ?_
  refine go_dead 1 rfl ?_
  refine lp W 0 (σ := Nat × List Gn × Nat × List Int) (fun s => [(1, .int .i64 a), (2, .int .i64 w), (6, .ptr 2 0 0 0), (7, .int .i64 0), (8, .ptr 3 0 0 0), (9, .sl 5 0 0 l.length), (10, .sl 6 0 0 ((a : Int) + 1).toNat), (11, .int .i64 s.1)])
    (fun s => [.tab s.2.2.1 s.2.1.length (gnR s.2.1), .dead, .lst 0 [[.int .i64 0, .nils, .nils]], .lst 0 [[.int .i64 v, .sl 0 s.2.2.1 0 s.2.1.length, .fz rs.length (grR rs)]], .dead, .tab 0 l.length fun j => [.pr (reachG v l a j)], .ints 0 .i64 s.2.2.2])
    (fun s => a + 1 - s.1) (fun s => s.1 ≤ a + 1 ∧ s.2.1 = (slS (reachG v l a) l w s.1).1 ∧ s.2.2.2.length = ((a : Int) + 1).toNat ∧ ∀ j, s.2.2.2.getD j 0 = (slS (reachG v l a) l w s.1).2 j) (0, l, g, List.replicate ((a : Int) + 1).toNat 0) [1, 2, 6, 7, 8, 9, 10, 11] rfl rfl rfl ⟨Nat.zero_le _, rfl, by simp, fun j => by simp [slS, List.getD_eq_getElem?_getD, List.getElem?_replicate]; split <;> rfl⟩ ?_
  rintro ⟨i, N, g1, K⟩ ⟨hi, hNe, hKl, hK⟩ ih
  dsimp only at hi hNe hKl hK ih ⊢
  refine sp W 0 rfl rfl rfl (fun z1 => ?_) (fun z1 => ?_)
  · have hi2 : i < a + 1 := by omega
    have iN : ((i : Nat) : Int).toNat = i := Int.toNat_natCast i
    refine sp W 0 rfl rfl rfl (fun z2 => ?_) (fun z2 => ?_)
    · rw [addNz, iN] at z2
      have hin := slS_in (w := w) hv.2 (by omega) ha hn hs i (by omega)
      have hK0 : ∀ j, 0 ≤ K.getD j 0 ∧ K.getD j 0 < N.length := fun j => by rw [hK, hNe]; exact hin j
      have hia : i < l.length := by omega
      obtain ⟨f1, f2, f3, f4, f5⟩ := slope_facts hv.2 (hn i hia) (hs i z2)
      have hln := slS_len (R := reachG v l a) (l := l) (w := w) i
      have hbd := slS_bound (R := reachG v l a) (l := l) (w := w) i
      have hkp := slS_keep (R := reachG v l a) (w := w) hia i
      have hnd := slS_nd (R := reachG v l a) (w := w) hd i
      rw [← hNe] at hln hbd hkp hnd
      have c := mslope_ok (i : Nat) w (l.getD i g0) K v N rs g1 0 (by omega) ⟨by omega, by omega⟩ (by rw [iN]; exact hkp) hnd f1 ⟨f2.1, by omega⟩ f3 (by omega) hK0 (fun h => by have := f4 h; omega) (fun h => by have := f5 h; omega)
      obtain ⟨⟨r, N'⟩, e⟩ : ∃ q, runS (slopeG (i : Nat) (l.getD i g0) w (ofK K)) N = q := ⟨_, rfl⟩
      rw [e, hKl] at c
      have hof : ofF (slS (reachG v l a) l w i).2 = ofK K := funext fun z => by unfold ofF ofK; rw [hK]
      have es : slS (reachG v l a) l w (i + 1) = (N', fun j => if j = i then r else (slS (reachG v l a) l w i).2 j) := by
        rw [slS, if_pos z2, hof, ← hNe, e]
      refine go_callS W 0 300 [3, 0, 6] rfl (by first | exact True.intro | (simp only [AllC, AllP, addN, Int.toNat_natCast, true_and, and_true, Option.getD, List.length_set, wrapU, pw1, pw7, pw8, pw16, pw23, pw32, pw52, Holds] <;> first | omega | ((repeat' apply And.intro) <;> first | omega | (intros; rfl))) | (simp [AllC, AllP, addN, cloL, clo, mrgL, mrg, wrapU, Holds] <;> omega)) c rfl rfl ⟨rfl, fun _ _ => rfl, trivial, trivial⟩ ⟨rfl, rfl, rfl, trivial⟩ rfl ?_
      rintro _ _ ⟨g2, rfl, rfl⟩
      refine ⟨_, _, rfl, rfl, ?_⟩
      have nx := ih (i + 1, N', g2, K.set (addN 0 ((i : Nat) : Int).toNat) r) ⟨by dsimp only; omega, by rw [es], by simpa using hKl, fun j => ?_⟩ (by dsimp only; omega)
      · dsimp only at nx
        refine bd W 0 7 [1, 2, 6, 7, 8, 9, 10, 11] rfl rfl rfl rfl rfl nx (hc := by simp only [AllC, addNz, iN, true_and, and_true]; omega)
      · rw [es]
        dsimp only
        rw [addNz, iN]
        by_cases hji : j = i
        · subst hji; rw [if_pos rfl, List.getD_eq_getElem?_getD, List.getElem?_set_self (by omega)]; rfl
        · rw [if_neg hji, ← hK, List.getD_eq_getElem?_getD, List.getElem?_set_ne (fun k => hji k.symm), ← List.getD_eq_getElem?_getD]
    · rw [addNz, iN] at z2
      have es : slS (reachG v l a) l w (i + 1) = slS (reachG v l a) l w i := by rw [slS, if_neg z2]
      refine bd W 0 7 [1, 2, 6, 7, 8, 9, 10, 11] rfl rfl rfl rfl rfl (ih (i + 1, N, g1, K) ⟨by dsimp only; omega, by rw [es]; exact hNe, hKl, by rw [es]; exact hK⟩ (by dsimp only; omega))
  · have hil : i = a + 1 := by omega
    subst hil
    have hks : K.getD (addN 0 ((a : Nat) : Int).toNat) 0 = (slS (reachG v l a) l w (a + 1)).2 a := by rw [addNz, Int.toNat_natCast, hK]
    rw [← hNe, ← hks]
    refine phg W 0 9 [8] rfl rfl (fun PW => ?_)
    refine pho PW 0 8 [] [] rfl rfl trivial rfl rfl ?_
    refine phe PW 0 [] [] rfl trivial rfl ?_
    refine go_retS W 0 300 1 rfl (by first | exact True.intro | (simp only [AllC, AllP, addN, Int.toNat_natCast, true_and, and_true, Option.getD, List.length_set, wrapU, pw1, pw7, pw8, pw16, pw23, pw32, pw52, Holds] <;> first | omega | ((repeat' apply And.intro) <;> first | omega | (intros; rfl))) | (simp [AllC, AllP, addN, cloL, clo, mrgL, mrg, wrapU, Holds] <;> omega)) rfl (by first | exact True.intro | (simp only [AllC, AllP, addN, Int.toNat_natCast, true_and, and_true, Option.getD, List.length_set, wrapU, pw1, pw7, pw8, pw16, pw23, pw32, pw52, Holds] <;> first | omega | ((repeat' apply And.intro) <;> first | omega | (intros; rfl))) | (simp [AllC, AllP, addN, cloL, clo, mrgL, mrg, wrapU, Holds] <;> omega)) (.tup [.agg [.int .i64 v, .sl 0 g1 0 N.length, .fz rs.length (grR rs)], .int .i64 (K.getD (addN 0 ((a : Nat) : Int).toNat) 0)]) .refl rfl ⟨g1, rfl, rfl⟩
end Pf
/- Graphs in new memory, and their marks -/
namespace Pf
open Go Go.Proofs
theorem toNodeG_new (l : List Gn) (hl : l.length ≤ 1048576) : AFun Tryz.prog 22 [.fz l.length (gnR l)] [] fun u H => u = .sl 0 0 0 l.length ∧ H = [.tab 0 l.length (gnR l)] := by
  refine afun_of Tryz.func22 Tryz.call22 rfl Tryz.ntmps22 rfl ?_
  have W : Walk Tryz.prog TT 22 _ := Walk.of TT_ok Tryz.func22 Tryz.results22
  refine lp W 0 (σ := Nat × (Nat → Gn)) (fun s => [(0, .fz l.length (gnR l)), (3, .sl 0 0 0 l.length), (4, .int .i64 s.1)]) (fun s => [.tab 0 l.length fun j => [.int .i64 (s.2 j).k, .int .i64 (s.2 j).a, .int .i64 (s.2 j).b, .int .i64 (s.2 j).n, .str (s.2 j).t]]) (fun s => l.length - s.1) (fun s => s.1 ≤ l.length ∧ ∀ j, j < s.1 → s.2 j = l.getD j g0) (0, fun _ => g0) [0, 3, 4] rfl rfl rfl ⟨Nat.zero_le _, fun j hj => by omega⟩ ?_
  rintro ⟨i, F⟩ ⟨hi, he⟩ ih
  dsimp only at hi he ih ⊢
  refine sp W 0 rfl rfl rfl (fun h2 => ?_) (fun h2 => ?_)
  · have h2 : i < l.length := by omega
    refine ce W 0 rfl rfl (toGraphNode_ok (l.getD i g0)) rfl ?_
    refine bd W 0 1 [0, 3, 4] rfl rfl rfl rfl rfl (ih (i + 1, fun j => ⟨if j = i then (l.getD i g0).k else (F j).k, if j = i then (l.getD i g0).a else (F j).a, if j = i then (l.getD i g0).b else (F j).b, if j = i then (l.getD i g0).n else (F j).n, if j = i then (l.getD i g0).t else (F j).t⟩) ⟨by dsimp only; omega, fun j hj => ?_⟩ (by dsimp only; omega))
    dsimp only at hj ⊢
    by_cases hji : j = i
    · subst hji; simp only [if_true]
    · simp only [if_neg hji]; exact he j (by omega)
  · refine go_tab 0 l.length (gnR l) rfl rfl rfl (Nat.le_refl _) (fun j hj => ?_) (.inl rfl) ?_
    · have e := he j (by omega)
      unfold gnR
      rw [← e]
    refine rg W 0 rfl (⟨rfl, rfl⟩)
theorem toRelG_new (l : List Gr) (hl : l.length ≤ 1048576) : AFun Tryz.prog 23 [.fz l.length (grR l)] [] fun u H => u = .sl 0 0 0 l.length ∧ H = [.tab 0 l.length (grR l)] := by
  refine afun_of Tryz.func23 Tryz.call23 rfl Tryz.ntmps23 rfl ?_
  have W : Walk Tryz.prog TT 23 _ := Walk.of TT_ok Tryz.func23 Tryz.results23
  refine lp W 0 (σ := Nat × (Nat → Gr)) (fun s => [(0, .fz l.length (grR l)), (3, .sl 0 0 0 l.length), (4, .int .i64 s.1)]) (fun s => [.tab 0 l.length fun j => [.int .i64 (s.2 j).k, .int .i64 (s.2 j).l, .int .i64 (s.2 j).r]]) (fun s => l.length - s.1) (fun s => s.1 ≤ l.length ∧ ∀ j, j < s.1 → s.2 j = l.getD j r0) (0, fun _ => r0) [0, 3, 4] rfl rfl rfl ⟨Nat.zero_le _, fun j hj => by omega⟩ ?_
  rintro ⟨i, F⟩ ⟨hi, he⟩ ih
  dsimp only at hi he ih ⊢
  refine sp W 0 rfl rfl rfl (fun h2 => ?_) (fun h2 => ?_)
  · have h2 : i < l.length := by omega
    refine ce W 0 rfl rfl (toGraphRel_ok (l.getD i r0)) rfl ?_
    refine bd W 0 1 [0, 3, 4] rfl rfl rfl rfl rfl (ih (i + 1, fun j => ⟨if j = i then (l.getD i r0).k else (F j).k, if j = i then (l.getD i r0).l else (F j).l, if j = i then (l.getD i r0).r else (F j).r⟩) ⟨by dsimp only; omega, fun j hj => ?_⟩ (by dsimp only; omega))
    dsimp only at hj ⊢
    by_cases hji : j = i
    · subst hji; simp only [if_true]
    · simp only [if_neg hji]; exact he j (by omega)
  · refine go_tab 0 l.length (grR l) rfl rfl rfl (Nat.le_refl _) (fun j hj => ?_) (.inl rfl) ?_
    · have e := he j (by omega)
      unfold grR
      rw [← e]
    refine rg W 0 rfl (⟨rfl, rfl⟩)
theorem toGraph_new (v : Int) (l : List Gn) (rs : List Gr) (hl : l.length ≤ 1048576) (hr : rs.length ≤ 1048576) : AFun Tryz.prog 7 [graphV v l rs] [] fun u H => u = .agg [.int .i64 v, .sl 3 0 0 l.length, .sl 4 0 0 rs.length] ∧ H = [.lst 0 [[.int .i64 v, .fz l.length (gnR l), .fz rs.length (grR rs)]], .lst 0 [[.int .i64 v, .sl 3 0 0 l.length, .sl 4 0 0 rs.length]], .lst 0 [[.int .i64 v, .sl 3 0 0 l.length, .sl 4 0 0 rs.length]], .tab 0 l.length (gnR l), .tab 0 rs.length (grR rs)] := by
  refine afun_of Tryz.func7 Tryz.call7 rfl Tryz.ntmps7 rfl ?_
  have W : Walk Tryz.prog TT 7 _ := Walk.of TT_ok Tryz.func7 Tryz.results7
  refine cx W 0 rfl rfl (toNodeG_new l hl) (fun u H h => by obtain ⟨rfl, rfl⟩ := h; exact ⟨rfl, fun _ _ => rfl, trivial⟩) ?_
  rintro _ _ ⟨rfl, rfl⟩
  refine ⟨_, _, rfl, rfl, ?_⟩
  refine cx W 0 rfl rfl (toRelG_new rs hr) (fun u H h => by obtain ⟨rfl, rfl⟩ := h; exact ⟨rfl, fun _ _ => rfl, trivial⟩) ?_
  rintro _ _ ⟨rfl, rfl⟩
  refine ⟨_, _, rfl, rfl, ?_⟩
  refine rg W 0 rfl (⟨rfl, rfl⟩)
/-- What a node and a relation look like that bear marks. -/
def mkGn (k : Nat) : Gn := ⟨k, (k + 1 : Nat), (k + 2 : Nat), (k + 3 : Nat), mt (k + 4)⟩
def mkGr (k : Nat) : Gr := ⟨k, (k + 1 : Nat), (k + 2 : Nat)⟩
def heldN (k : Nat) (l : List Gn) : Prop := ∀ i, i < l.length → l.getD i g0 = mkGn (k + 5 * i)
def heldR (k : Nat) (l : List Gr) : Prop := ∀ i, i < l.length → l.getD i r0 = mkGr (k + 3 * i)
theorem markGnS_ok (n k : Nat) (l : List Gn) (hl : l.length = n) (hn : n ≤ 1048576) (h1 : 1 ≤ k) (hk : k ≤ 1048576000) : AFunM Tryz.prog 29 [.sl 0 0 0 n, .int .i64 k] [.tab 0 n (gnR l)] fun u bs => u = .int .i64 (k + 5 * n : Nat) ∧ ∃ l' : List Gn, l'.length = n ∧ heldN k l' ∧ bs = [.tab 0 n (gnR l')] := by
  refine afun_of Tryz.func29 Tryz.call29 rfl Tryz.ntmps29 rfl ?_
  have W : Walk Tryz.prog TT 29 _ := Walk.of TT_ok Tryz.func29 Tryz.results29
  refine lp W 0 (σ := Nat × (Nat → Int) × (Nat → Int) × (Nat → Int) × (Nat → Int) × (Nat → List UInt8)) (fun s => [(0, .sl 0 0 0 n), (1, .int .i64 (k + 5 * s.1 : Nat)), (5, .int .i64 s.1)]) (fun s => [.tab 0 n fun j => [.int .i64 (s.2.1 j), .int .i64 (s.2.2.1 j), .int .i64 (s.2.2.2.1 j), .int .i64 (s.2.2.2.2.1 j), .str (s.2.2.2.2.2 j)]]) (fun s => n - s.1) (fun s => s.1 ≤ n ∧ ∀ j, j < s.1 → (⟨s.2.1 j, s.2.2.1 j, s.2.2.2.1 j, s.2.2.2.2.1 j, s.2.2.2.2.2 j⟩ : Gn) = mkGn (k + 5 * j)) (0, fun j => (l.getD j g0).k, fun j => (l.getD j g0).a, fun j => (l.getD j g0).b, fun j => (l.getD j g0).n, fun j => (l.getD j g0).t) [0, 1, 5] rfl rfl rfl ⟨Nat.zero_le _, fun j hj => by omega⟩ ?_
  rintro ⟨i, F, A, B, C, S⟩ ⟨hi, he⟩ ih
  dsimp only at hi he ih ⊢
  refine sp W 0 rfl rfl rfl (fun h2 => ?_) (fun h2 => ?_)
  · have h2 : i < n := by omega
    have km := markText_ok (k + 5 * i + 4) (by omega) (by omega)
    refine ce W 0 rfl rfl (km) rfl ?_
    refine bd W 0 1 [0, 1, 5] rfl rfl rfl rfl rfl (ih (i + 1, _, _, _, _, _) ⟨by dsimp only; omega, fun j hj => ?_⟩ (by dsimp only; omega))
    dsimp only at hj ⊢
    have hq : addN 0 ((i : Nat) : Int).toNat = i := by rw [addNz, Int.toNat_natCast]
    generalize addN 0 ((i : Nat) : Int).toNat = q at *
    subst hq
    generalize instDecidableEqNat j q = dd
    cases dd with
    | isTrue h => subst h; simp only [if_true, mkGn]; refine Gn.eq ?_ ?_ ?_ ?_ rfl <;> dsimp only <;> omega
    | isFalse h => simp only [if_neg h]; exact he j (by omega)
  · have e : i = n := by omega
    subst e
    let l' : List Gn := (List.range i).map fun j => ⟨F j, A j, B j, C j, S j⟩
    have hl' : l'.length = i := by simp [l']
    have hg : ∀ j, j < i → l'.getD j g0 = ⟨F j, A j, B j, C j, S j⟩ := fun j hj => by simp [l', List.getD_eq_getElem?_getD, hj]
    refine go_tab 0 i (gnR l') rfl rfl rfl (Nat.le_refl _) (fun j hj => ?_) (.inl rfl) ?_
    · unfold gnR
      rw [hg j hj]
    refine rmT W 0 [.tab 0 i (gnR l')] rfl rfl rfl ⟨rfl, trivial⟩ ⟨fun _ _ => rfl, trivial⟩ rfl (.int .i64 (k + 5 * i : Nat)) rfl .refl ⟨rfl, l', hl', fun j hj => by rw [hg j (by omega)]; exact he j (by omega), rfl⟩
theorem markGrS_ok (n k : Nat) (l : List Gr) (hl : l.length = n) (hn : n ≤ 1048576) (h1 : 1 ≤ k) (hk : k ≤ 1048576000) : AFunM Tryz.prog 30 [.sl 0 0 0 n, .int .i64 k] [.tab 0 n (grR l)] fun u bs => u = .int .i64 (k + 3 * n : Nat) ∧ ∃ l' : List Gr, l'.length = n ∧ heldR k l' ∧ bs = [.tab 0 n (grR l')] := by
  refine afun_of Tryz.func30 Tryz.call30 rfl Tryz.ntmps30 rfl ?_
  have W : Walk Tryz.prog TT 30 _ := Walk.of TT_ok Tryz.func30 Tryz.results30
  refine lp W 0 (σ := Nat × (Nat → Int) × (Nat → Int) × (Nat → Int)) (fun s => [(0, .sl 0 0 0 n), (1, .int .i64 (k + 3 * s.1 : Nat)), (5, .int .i64 s.1)]) (fun s => [.tab 0 n fun j => [.int .i64 (s.2.1 j), .int .i64 (s.2.2.1 j), .int .i64 (s.2.2.2 j)]]) (fun s => n - s.1) (fun s => s.1 ≤ n ∧ ∀ j, j < s.1 → (⟨s.2.1 j, s.2.2.1 j, s.2.2.2 j⟩ : Gr) = mkGr (k + 3 * j)) (0, fun j => (l.getD j r0).k, fun j => (l.getD j r0).l, fun j => (l.getD j r0).r) [0, 1, 5] rfl rfl rfl ⟨Nat.zero_le _, fun j hj => by omega⟩ ?_
  rintro ⟨i, F, A, B⟩ ⟨hi, he⟩ ih
  dsimp only at hi he ih ⊢
  refine sp W 0 rfl rfl rfl (fun h2 => ?_) (fun h2 => ?_)
  · have h2 : i < n := by omega
    refine bd W 0 1 [0, 1, 5] rfl rfl rfl rfl rfl (ih (i + 1, _, _, _) ⟨by dsimp only; omega, fun j hj => ?_⟩ (by dsimp only; omega))
    dsimp only at hj ⊢
    have hq : addN 0 ((i : Nat) : Int).toNat = i := by rw [addNz, Int.toNat_natCast]
    generalize addN 0 ((i : Nat) : Int).toNat = q at *
    subst hq
    generalize instDecidableEqNat j q = dd
    cases dd with
    | isTrue h => subst h; simp only [if_true, mkGr]; refine Gr.eq ?_ ?_ ?_ <;> dsimp only <;> omega
    | isFalse h => simp only [if_neg h]; exact he j (by omega)
  · have e : i = n := by omega
    subst e
    let l' : List Gr := (List.range i).map fun j => ⟨F j, A j, B j⟩
    have hl' : l'.length = i := by simp [l']
    have hg : ∀ j, j < i → l'.getD j r0 = ⟨F j, A j, B j⟩ := fun j hj => by simp [l', List.getD_eq_getElem?_getD, hj]
    refine go_tab 0 i (grR l') rfl rfl rfl (Nat.le_refl _) (fun j hj => ?_) (.inl rfl) ?_
    · unfold grR
      rw [hg j hj]
    refine rmT W 0 [.tab 0 i (grR l')] rfl rfl rfl ⟨rfl, trivial⟩ ⟨fun _ _ => rfl, trivial⟩ rfl (.int .i64 (k + 3 * i : Nat)) rfl .refl ⟨rfl, l', hl', fun j hj => by rw [hg j (by omega)]; exact he j (by omega), rfl⟩
theorem heldGnS_ok (k : Nat) (l : List Gn) (hn : l.length ≤ 1048576) (h1 : 1 ≤ k) (hk : k ≤ 1048576000) (hr : heldN k l) : AFunP Tryz.prog 31 [.fz l.length (gnR l), .int .i64 k] (· = .int .i64 (k + 5 * l.length : Nat)) := by
  refine afun_of Tryz.func31 Tryz.call31 rfl Tryz.ntmps31 rfl ?_
  have W : Walk Tryz.prog TT 31 _ := Walk.of TT_ok Tryz.func31 Tryz.results31
  refine lp W 0 (σ := Nat) (fun i => [(0, .fz l.length (gnR l)), (1, .int .i64 (k + 5 * i : Nat)), (5, .int .i64 i)]) (fun _ => []) (fun i => l.length - i) (fun i => i ≤ l.length) 0 [0, 1, 5] rfl rfl rfl (Nat.zero_le _) ?_
  rintro i hi ih
  refine sp W 0 rfl rfl rfl (fun h2 => ?_) (fun h2 => ?_)
  · have h2 : i < l.length := by omega
    have km := markText_ok (k + 5 * i + 4) (by omega) (by omega)
    have hri := hr i h2
    have hq : ((i : Nat) : Int).toNat = i := Int.toNat_natCast i
    refine sp W 0 rfl rfl rfl (fun a1 => ?_) (fun a1 => ?_)
    · rw [hq, hri] at a1; exact absurd rfl a1
    refine sp W 0 rfl rfl rfl (fun a2 => ?_) (fun a2 => ?_)
    · rw [hq, hri] at a2; exfalso; simp only [mkGn] at a2; omega
    refine sp W 0 rfl rfl rfl (fun a3 => ?_) (fun a3 => ?_)
    · rw [hq, hri] at a3; exfalso; simp only [mkGn] at a3; omega
    refine sp W 0 rfl rfl rfl (fun a4 => ?_) (fun a4 => ?_)
    · rw [hq, hri] at a4; exfalso; simp only [mkGn] at a4; omega
    refine dre W 0 7 [] [.str (mt (k + 5 * i + 4))] rfl rfl rfl ⟨km.at rfl _, trivial⟩ rfl ?_
    refine sp W 0 rfl rfl rfl (fun a5 => ?_) (fun a5 => ?_)
    · rw [hq, hri] at a5; exact absurd rfl a5
    refine bd W 0 0 [0, 1, 5] rfl rfl rfl rfl rfl (ih (i + 1) (by omega) (by omega))
  · have e : i = l.length := by omega
    subst e
    refine rp W 0 rfl rfl rfl (.refl)
theorem heldGrS_ok (k : Nat) (l : List Gr) (hn : l.length ≤ 1048576) (h1 : 1 ≤ k) (hk : k ≤ 1048576000) (hr : heldR k l) : AFunP Tryz.prog 32 [.fz l.length (grR l), .int .i64 k] (· = .int .i64 (k + 3 * l.length : Nat)) := by
  refine afun_of Tryz.func32 Tryz.call32 rfl Tryz.ntmps32 rfl ?_
  have W : Walk Tryz.prog TT 32 _ := Walk.of TT_ok Tryz.func32 Tryz.results32
  refine lp W 0 (σ := Nat) (fun i => [(0, .fz l.length (grR l)), (1, .int .i64 (k + 3 * i : Nat)), (5, .int .i64 i)]) (fun _ => []) (fun i => l.length - i) (fun i => i ≤ l.length) 0 [0, 1, 5] rfl rfl rfl (Nat.zero_le _) ?_
  rintro i hi ih
  refine sp W 0 rfl rfl rfl (fun h2 => ?_) (fun h2 => ?_)
  · have h2 : i < l.length := by omega
    have hri := hr i h2
    have hq : ((i : Nat) : Int).toNat = i := Int.toNat_natCast i
    refine sp W 0 rfl rfl rfl (fun a1 => ?_) (fun a1 => ?_)
    · rw [hq, hri] at a1; exact absurd rfl a1
    refine sp W 0 rfl rfl rfl (fun a2 => ?_) (fun a2 => ?_)
    · rw [hq, hri] at a2; exfalso; simp only [mkGr] at a2; omega
    refine sp W 0 rfl rfl rfl (fun a3 => ?_) (fun a3 => ?_)
    · rw [hq, hri] at a3; exfalso; simp only [mkGr] at a3; omega
    refine bd W 0 0 [0, 1, 5] rfl rfl rfl rfl rfl (ih (i + 1) (by omega) (by omega))
  · have e : i = l.length := by omega
    subst e
    refine rp W 0 rfl rfl rfl (.refl)
theorem markGraph_ok (v : Int) (n m k : Nat) (l : List Gn) (rs : List Gr) (hl : l.length = n) (hr : rs.length = m) (hn : n ≤ 1048576) (hm : m ≤ 1048576) (h1 : 1 ≤ k) (hk : k ≤ 1048576) : AFunM Tryz.prog 10 [.agg [.int .i64 v, .sl 0 0 0 n, .sl 1 0 0 m], .int .i64 k] [.tab 0 n (gnR l), .tab 0 m (grR rs)] fun u bs => u = .int .i64 (k + 5 * n + 3 * m : Nat) ∧ ∃ (l' : List Gn) (r' : List Gr), (l'.length = n ∧ r'.length = m) ∧ (heldN k l' ∧ heldR (k + 5 * n) r') ∧ bs = [.tab 0 n (gnR l'), .tab 0 m (grR r')] := by
  refine afun_of Tryz.func10 Tryz.call10 rfl Tryz.ntmps10 rfl ?_
  have W : Walk Tryz.prog TT 10 _ := Walk.of TT_ok Tryz.func10 Tryz.results10
  refine cmT W 0 [(0, 0)] rfl (markGnS_ok n k l hl hn h1 (by omega)) ⟨rfl, trivial⟩ rfl rfl ⟨fun _ _ => rfl, trivial⟩ ?_
  rintro _ _ ⟨rfl, l', hl', hh, rfl⟩
  refine ⟨_, _, rfl, rfl, ?_⟩
  refine cmT W 0 [(1, 0)] rfl (markGrS_ok m (k + 5 * n) rs hr hm (by omega) (by omega)) ⟨rfl, trivial⟩ rfl rfl ⟨fun _ _ => rfl, trivial⟩ ?_
  rintro _ _ ⟨rfl, r', hr', hh', rfl⟩
  refine ⟨_, _, rfl, rfl, ?_⟩
  refine rmT W 0 [.tab 0 n (gnR l'), .tab 0 m (grR r')] rfl rfl rfl ⟨rfl, rfl, trivial⟩ ⟨fun _ _ => rfl, fun _ _ => rfl, trivial⟩ rfl (.int .i64 (k + 5 * n + 3 * m : Nat)) rfl .refl ⟨rfl, l', r', ⟨hl', hr'⟩, ⟨hh, hh'⟩, rfl⟩
theorem heldGraph_ok (v : Int) (k : Nat) (l : List Gn) (rs : List Gr) (hn : l.length ≤ 1048576) (hm : rs.length ≤ 1048576) (h1 : 1 ≤ k) (hk : k ≤ 1048576) (h2 : heldN k l) (h3 : heldR (k + 5 * l.length) rs) : AFunP Tryz.prog 11 [graphV v l rs, .int .i64 k] (· = .int .i64 (k + 5 * l.length + 3 * rs.length : Nat)) := by
  refine afun_of Tryz.func11 Tryz.call11 rfl Tryz.ntmps11 rfl ?_
  have W : Walk Tryz.prog TT 11 _ := Walk.of TT_ok Tryz.func11 Tryz.results11
  refine ce W 0 rfl rfl (heldGnS_ok k l hn h1 (by omega) h2) rfl ?_
  refine sp W 0 rfl rfl rfl (fun h4 => ?_) (fun h4 => ?_)
  · exfalso; omega
  refine ce W 0 rfl rfl (heldGrS_ok (k + 5 * l.length) rs hm (by omega) (by omega) h3) rfl ?_
  refine sp W 0 rfl rfl rfl (fun h5 => ?_) (fun h5 => ?_)
  · exfalso; omega
  · refine rp W 0 rfl rfl rfl (.refl)
theorem markGnS_nil (k : Int) : AFunP Tryz.prog 29 [.nils, .int .i64 k] (· = .int .i64 k) := by
  refine afun_of Tryz.func29 Tryz.call29 rfl Tryz.ntmps29 rfl ?_
  have W : Walk Tryz.prog TT 29 _ := Walk.of TT_ok Tryz.func29 Tryz.results29
  refine lp W 0 (σ := Unit) (fun s => [(0, .nils), (1, .int .i64 k), (5, .int .i64 0)]) (fun _ => []) (fun s => 0) (fun s => True) () [0, 1, 5] rfl rfl rfl trivial ?_
  rintro i hi ih
  refine sp W 0 rfl rfl rfl (fun h2 => ?_) (fun h2 => ?_)
  · exfalso; omega
  · refine rp W 0 rfl rfl rfl (.refl)
theorem markGrS_nil (k : Int) : AFunP Tryz.prog 30 [.nils, .int .i64 k] (· = .int .i64 k) := by
  refine afun_of Tryz.func30 Tryz.call30 rfl Tryz.ntmps30 rfl ?_
  have W : Walk Tryz.prog TT 30 _ := Walk.of TT_ok Tryz.func30 Tryz.results30
  refine lp W 0 (σ := Unit) (fun s => [(0, .nils), (1, .int .i64 k), (5, .int .i64 0)]) (fun _ => []) (fun s => 0) (fun s => True) () [0, 1, 5] rfl rfl rfl trivial ?_
  rintro i hi ih
  refine sp W 0 rfl rfl rfl (fun h2 => ?_) (fun h2 => ?_)
  · exfalso; omega
  · refine rp W 0 rfl rfl rfl (.refl)
theorem markGraph_nil (k : Int) : AFunP Tryz.prog 10 [.agg [.int .i64 0, .nils, .nils], .int .i64 k] (· = .int .i64 k) := by
  refine afun_of Tryz.func10 Tryz.call10 rfl Tryz.ntmps10 rfl ?_
  have W : Walk Tryz.prog TT 10 _ := Walk.of TT_ok Tryz.func10 Tryz.results10
  refine ce W 0 rfl rfl (markGnS_nil k) rfl ?_
  refine ce W 0 rfl rfl (markGrS_nil k) rfl ?_
  refine rp W 0 rfl rfl rfl (.refl)
end Pf
/- SlopeMake: both sides -/
namespace Pf
open Go Go.Proofs
/-- A block of what is handed back is forgotten. -/
theorem AFun.kill {P : Program} {f : FuncId} {args : List AV} {Hs : AHeap} {Q : AV → AHeap → Prop} (b : Nat) (h : AFun P f args Hs fun u H => ∃ H2, setM ABlk.dead H b = some H2 ∧ Q u H2) : AFun P f args Hs Q := by
  refine ⟨h.1, fun FM β cs w cargs hv hh => ?_⟩
  obtain ⟨v, w', fr, av, FM1, β1, H1, ⟨H2, e2, hq⟩, h1, hH, h3, h4, h5, h6⟩ := h.2 FM β cs w cargs hv hh
  exact ⟨v, w', fr, av, FM1, β1, H2, hq, h1, hH.ded e2, h3.trans (Ext.ded e2), h4, h5, h6⟩
/-- A node's slope as the law's functions answer it. -/
noncomputable def mkG (v w : Int) (l : List Gn) (a : Nat) : List Gn := (slS (reachG v l a) l w (a + 1)).1
noncomputable def mkK (v w : Int) (l : List Gn) (a : Nat) : Int := (slS (reachG v l a) l w (a + 1)).2 a
def mkOk (v w : Int) (l : List Gn) (rs : List Gr) (a : Int) : Prop := (slopeP v l rs a ∧ 0 ≤ w ∧ w < v) ∧ (mkG v w l a.toNat).length ≤ 120
end Pf
/- SlopeMake: the law -/
namespace Pf
open Go Go.Proofs
theorem AFun.args {P : Program} {f : FuncId} {args args' : List AV} {Hs : AHeap} {Q : AV → AHeap → Prop} (h : AFun P f args Hs Q) (hs : Subs args' args) : AFun P f args' Hs Q :=
  ⟨h.1, fun FM β cs w cargs hv hh => h.2 FM β cs w cargs ⟨by rw [hs.len]; exact hv.1, fun i hi => hs.get i (by rw [← hs.len]; exact hi) hi _ _ _ (hv.2 i _)⟩ hh⟩
theorem eqGraph_no : AFunP Tryz.prog 9 [.agg [.int .i64 0, .nils, .nils], graphV 0 [] []] (· = .pr True) :=
  AFun.args (eqGraph_ok 0 [] [] (by simp) (by simp)) ⟨.agg ⟨.refl, .nils_fz, .nils_fz, trivial⟩, .refl, trivial⟩
end Pf
/- Slopes: what is laid down may stand in a graph (plain) -/
namespace Pf
open Go Go.Proofs
/-! ### What is laid down may stand in a graph (plain) -/
theorem lit_one {c : UInt8} (h : c = 48 ∨ c = 49 ∨ c = 50 ∨ c = 51 ∨ c = 52 ∨ c = 53 ∨ c = 54 ∨ c = 55 ∨ c = 56) : litP [c] := by
  have h1 : cutL [c] 101 = [c] := by rcases h with h | h | h | h | h | h | h | h | h <;> (subst h; decide)
  have h2 : cutL [c] 46 = [c] := by rcases h with h | h | h | h | h | h | h | h | h <;> (subst h; decide)
  unfold litP
  rw [h1, h2]
  refine ⟨⟨⟨by simp, ?_⟩, ?_⟩, fun k => ?_, fun k => ?_⟩
  · rcases h with h | h | h | h | h | h | h | h | h <;> (subst h; decide)
  · rcases h with h | h | h | h | h | h | h | h | h <;> (subst h; decide)
  · exfalso; revert k; rcases h with h | h | h | h | h | h | h | h | h <;> (subst h; decide)
  · exfalso; revert k; rcases h with h | h | h | h | h | h | h | h | h <;> (subst h; decide)
theorem lit_dig {n : Nat} (h : n ≤ 8) : litP (Lib.decDigits n) ∧ (Lib.decDigits n).length ≤ 60 := by
  rw [Lib.decDigits_one (by omega)]
  rcases (show n = 0 ∨ n = 1 ∨ n = 2 ∨ n = 3 ∨ n = 4 ∨ n = 5 ∨ n = 6 ∨ n = 7 ∨ n = 8 by omega) with rfl | rfl | rfl | rfl | rfl | rfl | rfl | rfl | rfl
  all_goals exact ⟨lit_one (by decide), by decide⟩
theorem okG_num {s : List UInt8} (h : litP s ∧ s.length ≤ 60) (n : Nat) : okG (numG s) n ∧ s.length ≤ 60 := by
  have e : pzG (numG s) = 0 := by unfold pzG partsZ; rw [if_pos rfl, if_pos ⟨rfl, h.1, h.2⟩]
  exact ⟨(okG_iff (by simp) (by rw [e]; exact Int.le_refl _)).2 ⟨fun k => by omega, fun k => by omega, fun _ => rfl, fun _ => rfl⟩, h.2⟩
theorem okG_one {k a e : Int} {n : Nat} (hk : (k = 3 ∧ e = 0) ∨ (k = 8 ∧ 0 ≤ e ∧ e ≤ 8)) (ha : 0 ≤ a ∧ a < n) : okG ⟨k, a, 0, e, []⟩ n ∧ ([] : List UInt8).length ≤ 60 := by
  have z : pzG ⟨k, a, 0, e, []⟩ = 1 := by
    unfold pzG partsZ
    rcases hk with ⟨rfl, rfl⟩ | ⟨rfl, h⟩
    · simp
    · simp [h.1, h.2]
  refine ⟨(okG_iff (by dsimp only; omega) (by omega)).2 ⟨fun _ => ?_, fun k => by omega, fun k => by omega, fun _ => rfl⟩, by simp⟩
  exact ha
theorem okG_two {k a b : Int} {n : Nat} (hk : k = 4 ∨ k = 5 ∨ k = 6 ∨ k = 7) (ha : 0 ≤ a ∧ a < n) (hb : 0 ≤ b ∧ b < n) : okG ⟨k, a, b, 0, []⟩ n ∧ ([] : List UInt8).length ≤ 60 := by
  have z : pzG ⟨k, a, b, 0, []⟩ = 2 := by
    unfold pzG partsZ
    rcases hk with rfl | rfl | rfl | rfl <;> simp
  exact ⟨(okG_iff (by dsimp only; omega) (by omega)).2 ⟨fun _ => ha, fun _ => hb, fun k => by omega, fun k => by omega⟩, by simp⟩
theorem okG_up {x : Gn} {n m : Nat} (h : okG x n) (hm : n ≤ m) : okG x m := ⟨h.1, fun k hk => by have := h.2 k hk; omega⟩
/-- What a program puts may stand there. -/
def Pg.wf : Pg → Nat → Prop
  | .ret v, n => 0 ≤ v ∧ v < n
  | .put x k, n => (okG x n ∧ x.t.length ≤ 60) ∧ ∀ (i : Int) (m : Nat), n ≤ m → 0 ≤ i → i < m → (k i).wf m
  | .is _ _ k, n => ∀ t, (k t).wf n
/-- All nodes may stand where they stand. -/
def wfG (v : Int) (N : List Gn) : Prop := (∀ i, i < N.length → nodeP v N i) ∧ gtxtOk N
theorem wfG_app {v : Int} {N : List Gn} {x : Gn} (h : wfG v N) (hv : v ≤ N.length) (hx : x ∉ N) (ho : okG x N.length) (ht : x.t.length ≤ 1048576) : wfG v (N ++ [x]) := by
  have e1 : ∀ i, i < N.length → (N ++ [x]).getD i g0 = N.getD i g0 := fun i hi => by rw [List.getD_eq_getElem?_getD, List.getElem?_append_left hi, ← List.getD_eq_getElem?_getD]
  have e2 : (N ++ [x]).getD N.length g0 = x := by simp [List.getD_eq_getElem?_getD]
  have hlen : (N ++ [x]).length = N.length + 1 := by simp
  constructor
  · intro i hi
    rw [hlen] at hi
    by_cases hin : i < N.length
    · have := h.1 i hin
      unfold nodeP at this ⊢
      rw [e1 i hin]
      exact ⟨this.1, fun k => ⟨(this.2 k).1, fun j hj => by rw [e1 j (by omega)]; exact (this.2 k).2 j hj⟩⟩
    · obtain rfl : i = N.length := by omega
      unfold nodeP
      rw [e2]
      exact ⟨fun k => by omega, fun _ => ⟨ho, fun j hj => by rw [e1 j hj]; exact fun k => hx (by rw [← k]; exact getD_mem hj)⟩⟩
  · intro i hi
    rw [hlen] at hi
    by_cases hin : i < N.length
    · rw [e1 i hin]; exact h.2 i hin
    · obtain rfl : i = N.length := by omega
      rw [e2]; exact ht
theorem runS_wf {v : Int} {P : Pg} : ∀ {n : Nat} {N : List Gn}, P.wf n → n ≤ N.length → v ≤ N.length → wfG v N → wfG v (runS P N).2 := by
  induction P with
  | ret u => intro n N h hn hv hw; exact hw
  | put x k ih =>
    intro n N h hn hv hw
    simp only [runS]
    split
    · rename_i hx
      have := (idxG_get hx).1
      exact ih _ (h.2 _ N.length hn (by omega) (by omega)) (Nat.le_refl _) hv hw
    · rename_i hx
      exact ih _ (h.2 _ (N.length + 1) (by omega) (by omega) (by omega)) (by simp) (by simp; omega) (wfG_app hw hv hx (okG_up h.1.1 hn) (by have := h.1.2; omega))
  | is a s k ih => intro n N h hn hv hw; simp only [runS]; exact ih _ (h _) hn hv hw
theorem Pg.wf_bind {P : Pg} {f : Int → Pg} : ∀ {n : Nat}, P.wf n → (∀ (r : Int) (m : Nat), n ≤ m → 0 ≤ r → r < m → (f r).wf m) → (P.bind f).wf n := by
  induction P with
  | ret v => intro n h hf; exact hf v n (Nat.le_refl _) h.1 h.2
  | put x k ih => intro n h hf; exact ⟨h.1, fun i m hm h0 h1 => ih i (h.2 i m hm h0 h1) fun r q hq a b => hf r q (by omega) a b⟩
  | is a s k ih => intro n h hf t; exact ih t (h t) hf
theorem wf_num {s : List UInt8} (h : litP s ∧ s.length ≤ 60) (n : Nat) : (numP s).wf n := ⟨okG_num h n, fun i m _ h0 h1 => ⟨h0, h1⟩⟩
theorem wf_neg {a : Int} {n : Nat} (h : 0 ≤ a ∧ a < n) : (negP a).wf n := fun t => by cases t <;> first | exact h | exact ⟨okG_one (.inl ⟨rfl, rfl⟩) h, fun i m _ h0 h1 => ⟨h0, h1⟩⟩
theorem wf_sum {a b : Int} {n : Nat} (ha : 0 ≤ a ∧ a < n) (hb : 0 ≤ b ∧ b < n) : (sumP' a b).wf n := fun t => by cases t <;> first | exact hb | (intro t; cases t <;> first | exact ha | exact ⟨okG_two (by omega) ha hb, fun i m _ h0 h1 => ⟨h0, h1⟩⟩)
theorem wf_less {a b : Int} {n : Nat} (ha : 0 ≤ a ∧ a < n) (hb : 0 ≤ b ∧ b < n) : (lessP a b).wf n := fun t => by cases t <;> first | exact ha | (intro t; cases t <;> first | exact wf_neg hb | exact ⟨okG_two (by omega) ha hb, fun i m _ h0 h1 => ⟨h0, h1⟩⟩)
theorem wf_times {a b : Int} {n : Nat} (ha : 0 ≤ a ∧ a < n) (hb : 0 ≤ b ∧ b < n) : (timesP a b).wf n := fun t => by cases t <;> first | exact ha | (intro t; cases t <;> first | exact ha | (intro t; cases t <;> first | exact hb | (intro t; cases t <;> first | exact hb | exact ⟨okG_two (by omega) ha hb, fun i m _ h0 h1 => ⟨h0, h1⟩⟩)))
theorem wf_by {a b : Int} {n : Nat} (ha : 0 ≤ a ∧ a < n) (hb : 0 ≤ b ∧ b < n) : (byP a b).wf n := fun t => by cases t <;> first | exact ha | exact ⟨okG_two (by omega) ha hb, fun i m _ h0 h1 => ⟨h0, h1⟩⟩
theorem wf_raised {a e : Int} {n : Nat} (he : 0 ≤ e ∧ e ≤ 8) (ha : 0 ≤ a ∧ a < n) : (raisedP a e).wf n := by unfold raisedP; split; exact ha; exact ⟨okG_one (.inr ⟨rfl, he⟩) ha, fun i m _ h0 h1 => ⟨h0, h1⟩⟩
theorem slopeG_wf {at' w : Int} {x : Gn} {of : Int → Int} {n : Nat} (hat : 0 ≤ at' ∧ at' < n) (hof : ∀ i, 0 ≤ of i ∧ of i < n) (hn : 0 ≤ x.n ∧ x.n ≤ 8) (hpa : 3 ≤ x.k → 0 ≤ x.a ∧ x.a < n) (hpb : 4 ≤ x.k ∧ x.k ≤ 7 → 0 ≤ x.b ∧ x.b < n) : (slopeG at' x w of).wf n := by
  have up : ∀ {z : Int} {n m : Nat}, (0 ≤ z ∧ z < n) → n ≤ m → 0 ≤ z ∧ z < m := fun h hm => ⟨h.1, by have := h.2; omega⟩
  have n0 : litP t0 ∧ t0.length ≤ 60 := ⟨lit_one (by decide), by decide⟩
  have n1 : litP t1 ∧ t1.length ≤ 60 := ⟨lit_one (by decide), by decide⟩
  have n2 : litP [50] ∧ ([50] : List UInt8).length ≤ 60 := ⟨lit_one (by decide), by decide⟩
  unfold slopeG
  split
  · split
    · exact wf_num n1 _
    · exact wf_num n0 _
  split
  · exact wf_neg (hof _)
  split
  · exact wf_sum (hof _) (hof _)
  split
  · exact wf_less (hof _) (hof _)
  split
  · have ha := hpa (by omega); have hb := hpb (by omega)
    exact Pg.wf_bind (wf_times (hof _) hb) fun l m hm l0 l1 => Pg.wf_bind (wf_times (up ha hm) (up (hof _) hm)) fun r q hq r0 r1 => wf_sum (up ⟨l0, l1⟩ hq) ⟨r0, r1⟩
  split
  · have ha := hpa (by omega); have hb := hpb (by omega)
    refine Pg.wf_bind (wf_times (hof _) hb) fun l m hm l0 l1 => Pg.wf_bind (wf_times (up ha hm) (up (hof _) hm)) fun r q hq r0 r1 => Pg.wf_bind (wf_less (up ⟨l0, l1⟩ hq) ⟨r0, r1⟩) fun u p hp u0 u1 => fun t => ?_
    cases t
    · exact Pg.wf_bind (wf_raised (by omega) (up hb (by omega))) fun z o ho z0 z1 => wf_by (up ⟨u0, u1⟩ ho) ⟨z0, z1⟩
    · exact ⟨u0, u1⟩
  split
  · have ha := hpa (by omega)
    split
    · exact wf_num n0 _
    split
    · exact hof _
    · intro t
      cases t
      · exact Pg.wf_bind (wf_num (lit_dig (by omega)) _) fun f m hm f0 f1 => Pg.wf_bind (wf_raised (by omega) (up ha hm)) fun r q hq r0 r1 => Pg.wf_bind (wf_times (up ⟨f0, f1⟩ hq) ⟨r0, r1⟩) fun y p hp y0 y1 => wf_times ⟨y0, y1⟩ (up (hof _) (by omega))
      · exact hof _
  split
  · intro t
    cases t
    · exact Pg.wf_bind (wf_num n2 _) fun c m hm c0 c1 => Pg.wf_bind (wf_times ⟨c0, c1⟩ (up hat hm)) fun y q hq y0 y1 => wf_by (up (hof _) (by omega)) ⟨y0, y1⟩
    · exact hof _
  · exact wf_num n0 _
theorem slS_wf {v : Int} {l : List Gn} {w : Int} {a : Nat} (hv : 1 ≤ v ∧ v ≤ 6) (hvl : v ≤ l.length) (ha : a < l.length) (hn : wfG v l) (hs : smoothP v l a) : ∀ i, i ≤ l.length → wfG v (slS (reachG v l a) l w i).1
  | 0, _ => hn
  | i + 1, hi => by
    have ih := slS_wf (w := w) hv hvl ha hn hs i (by omega)
    have hle := slS_len (R := reachG v l a) (l := l) (w := w) i
    have hin := slS_in (w := w) hv.2 (by omega) ha hn.1 hs i (by omega)
    simp only [slS]
    split
    · rename_i hr
      obtain ⟨f1, f2, f3, f4, f5⟩ := slope_facts hv.2 (hn.1 i (by omega)) (hs i hr)
      exact runS_wf (slopeG_wf (n := (slS (reachG v l a) l w i).1.length) ⟨by omega, by omega⟩ (fun z => hin _) f2 (fun h => by have := f4 h; omega) (fun h => by have := f5 h; omega)) (Nat.le_refl _) (by omega) ih
    · exact ih
end Pf
/- Slopes of a relation (plain) -/
namespace Pf
open Go Go.Proofs
/-! ### A relation's difference and its slopes (plain) -/
theorem reach_same {v : Int} {l N : List Gn} {a : Nat} (hn : ∀ i, i < l.length → nodeP v l i) (ha : a < l.length) (he : ∀ j, j < l.length → N.getD j g0 = l.getD j g0) {i : Nat} (h : reachG v N a i) : reachG v l a i := by
  induction h with
  | start => exact .start
  | step h hv hk ih =>
    have := reach_le hn ha ih
    rw [he _ (by omega)] at hk
    exact .step ih hv hk
theorem smooth_same {v : Int} {l N : List Gn} {a : Nat} (hn : ∀ i, i < l.length → nodeP v l i) (ha : a < l.length) (he : ∀ j, j < l.length → N.getD j g0 = l.getD j g0) (hs : smoothP v l a) : smoothP v N a := fun i hr => by
  have h := reach_same hn ha he hr
  have := reach_le hn ha h
  rw [he _ (by omega)]
  exact hs i h
abbrev subG (L R : Int) : Gn := ⟨5, L, R, 0, []⟩
theorem sub_smooth {v : Int} {l N : List Gn} {a L R : Nat} (hn : ∀ i, i < l.length → nodeP v l i) (hL : L < l.length) (hR : R < l.length) (he : ∀ j, j < l.length → N.getD j g0 = l.getD j g0) (ha : N.getD a g0 = subG L R) (sL : smoothP v l L) (sR : smoothP v l R) : smoothP v N a := by
  have key : ∀ i, reachG v N a i → i = a ∨ reachG v l L i ∨ reachG v l R i := fun i hr => by
    induction hr with
    | start => exact .inl rfl
    | step h hv hk ih =>
      rcases ih with rfl | ih | ih
      · rw [ha] at hk
        have z : plG (subG L R) = [(L : Int), (R : Int)] := by
          have z2 : pzG (subG L R) = 2 := by unfold pzG partsZ; simp
          unfold plG
          rw [if_neg (by simp), if_neg (by omega), if_pos z2]
        rw [z] at hk
        rcases List.mem_cons.1 hk with e | e
        · rw [e, Int.toNat_natCast]; exact .inr (.inl .start)
        · rw [List.mem_singleton.1 e, Int.toNat_natCast]; exact .inr (.inr .start)
      · have := reach_le hn hL ih
        rw [he _ (by omega)] at hk
        exact .inr (.inl (.step ih hv hk))
      · have := reach_le hn hR ih
        rw [he _ (by omega)] at hk
        exact .inr (.inr (.step ih hv hk))
  intro i hr
  rcases key i hr with rfl | h | h
  · rw [ha]; simp
  · have := reach_le hn hL h
    rw [he _ (by omega)]; exact sL i h
  · have := reach_le hn hR h
    rw [he _ (by omega)]; exact sR i h
/-- The nodes when i slopes are laid down. -/
noncomputable def relN (v : Int) (l : List Gn) (L R : Int) : Nat → List Gn
  | 0 => (runS (.put (subG L R) .ret) l).2
  | i + 1 => mkG v i (relN v l L R i) (runS (.put (subG L R) .ret) l).1.toNat
noncomputable def relA (l : List Gn) (L R : Int) : Nat := (runS (.put (subG L R) .ret) l).1.toNat
noncomputable def relK (v : Int) (l : List Gn) (L R : Int) (i : Nat) : Int := mkK v i (relN v l L R i) (relA l L R)
theorem relA_cast (l : List Gn) (L R : Int) : (runS (.put (subG L R) .ret) l).1 = (relA l L R : Nat) := by
  unfold relA
  simp only [runS]
  split <;> simp
theorem put_sub (l : List Gn) (x : Gn) : (runS (.put x .ret) l).1.toNat < (runS (.put x .ret) l).2.length ∧ (runS (.put x .ret) l).2.getD (runS (.put x .ret) l).1.toNat g0 = x ∧ (runS (.put x .ret) l).2.length ≤ l.length + 1 ∧ l.length ≤ (runS (.put x .ret) l).2.length := by
  simp only [runS]
  split
  · rename_i h
    have := idxG_get h
    rw [Int.toNat_natCast]
    exact ⟨this.1, this.2, Nat.le_add_right _ _, Nat.le_refl _⟩
  · rw [Int.toNat_natCast]
    exact ⟨by simp, by simp [List.getD_eq_getElem?_getD], by simp, by simp⟩
/-- What a relation must be like for its slopes. -/
structure RelP (v : Int) (l : List Gn) (L R : Nat) : Prop where
  hv : 1 ≤ v ∧ v ≤ 6
  hvl : v ≤ l.length
  hn : wfG v l
  hL : L < l.length
  hR : R < l.length
  sL : smoothP v l L
  sR : smoothP v l R
theorem RelP.all {v : Int} {l : List Gn} {L R : Nat} (h : RelP v l L R) : ∀ i, wfG v (relN v l L R i) ∧ l.length ≤ (relN v l L R i).length ∧ relA l L R < (relN v l L R i).length ∧ smoothP v (relN v l L R i) (relA l L R)
  | 0 => by
    obtain ⟨p1, p2, p3, p4⟩ := put_sub l (subG L R)
    have he : ∀ j, j < l.length → (relN v l L R 0).getD j g0 = l.getD j g0 := fun j hj => runS_keep _ _ _ hj
    refine ⟨runS_wf (n := l.length) ⟨okG_two (.inr (.inl rfl)) ⟨by omega, by have := h.hL; omega⟩ ⟨by omega, by have := h.hR; omega⟩, fun i m _ h0 h1 => ⟨h0, h1⟩⟩ (Nat.le_refl _) h.hvl h.hn, p4, p1, sub_smooth h.hn.1 h.hL h.hR he p2 h.sL h.sR⟩
  | i + 1 => by
    obtain ⟨q1, q2, q3, q4⟩ := h.all i
    have hle := slS_len (R := reachG v (relN v l L R i) (relA l L R)) (l := relN v l L R i) (w := (i : Int)) (relA l L R + 1)
    have hk : ∀ j, j < (relN v l L R i).length → (relN v l L R (i + 1)).getD j g0 = (relN v l L R i).getD j g0 := fun j hj => slS_keep hj _
    exact ⟨slS_wf h.hv (by have := h.hvl; omega) q3 q1 q4 (relA l L R + 1) (by omega), Nat.le_trans q2 hle, Nat.lt_of_lt_of_le q3 hle, smooth_same q1.1 q3 hk q4⟩
theorem relN_mono {v : Int} {l : List Gn} {L R : Int} (i : Nat) : (relN v l L R i).length ≤ (relN v l L R (i + 1)).length := slS_len _
theorem relN_mono2 {v : Int} {l : List Gn} {L R : Int} {i j : Nat} (h : i ≤ j) : (relN v l L R i).length ≤ (relN v l L R j).length := by
  induction h with
  | refl => exact Nat.le_refl _
  | step _ ih => exact Nat.le_trans ih (relN_mono _)
noncomputable def relKs (v : Int) (l : List Gn) (L R : Int) (n : Nat) : List Int := (List.range n).map (relK v l L R)
theorem relKs_next (v : Int) (l : List Gn) (L R : Int) (n : Nat) : relKs v l L R (n + 1) = relKs v l L R n ++ [relK v l L R n] := by unfold relKs; rw [List.range_succ, List.map_append]; rfl
theorem relKs_len (v : Int) (l : List Gn) (L R : Int) (n : Nat) : (relKs v l L R n).length = n := by unfold relKs; simp
/-- Are a relation's slopes laid down? -/
def relOk (v : Int) (l : List Gn) (rs : List Gr) (r : Int) : Prop := (slopeP v l rs (rs.getD r.toNat r0).l ∧ slopeP v l rs (rs.getD r.toNat r0).r ∧ 0 ≤ r ∧ r < rs.length) ∧ (relN v l (rs.getD r.toNat r0).l (rs.getD r.toNat r0).r v.toNat).length ≤ 120
theorem RelP.of {v : Int} {l : List Gn} {rs : List Gr} {L R : Int} (hx : gtxtOk l) (hl : slopeP v l rs L) (hr : slopeP v l rs R) : ∃ a b : Nat, L = a ∧ R = b ∧ RelP v l a b := by
  have h1 := hl.2.1
  have h2 := hr.2.1
  refine ⟨L.toNat, R.toNat, by omega, by omega, hl.1.1.1, hl.1.1.2.1.1, ⟨hl.1.2.1, hx⟩, by omega, by omega, hl.2.2, hr.2.2⟩
end Pf
/- Slopes of a relation: the model -/
namespace Pf
open Go Go.Proofs
/-- What SlopeRel answers. -/
noncomputable abbrev relV (v : Int) (l : List Gn) (rs : List Gr) (r : Int) : AV := .tup [graphV v (relN v l (rs.getD r.toNat r0).l (rs.getD r.toNat r0).r v.toNat) rs, .int .i64 (relA l (rs.getD r.toNat r0).l (rs.getD r.toNat r0).r : Nat), .fi .i64 (relKs v l (rs.getD r.toNat r0).l (rs.getD r.toNat r0).r v.toNat), .bool true]
abbrev relX : AV := .tup [graphV 0 [] [], .int .i64 0, .fi .i64 [], .bool false]
def RelQ (v : Int) (l : List Gn) (rs : List Gr) (r : Int) (u : AV) : Prop := (relOk v l rs r → u = relV v l rs r) ∧ (¬ relOk v l rs r → u = relX)
theorem relX_sub : Sub (.tup [.agg [.int .i64 0, .nils, .nils], .int .i64 0, .nils, .bool false]) relX := .tup ⟨.agg ⟨.refl, .nils_fz, .nils_fz, trivial⟩, .refl, .nils_fi, .refl, trivial⟩
theorem specRel_ok (v : Int) (l : List Gn) (rs : List Gr) (r : Int) (hl : l.length ≤ 1048576) (hr : rs.length ≤ 1048576) (hx : gtxtOk l) : AFunP Tryz.prog 12 [graphV v l rs, .int .i64 r] (RelQ v l rs r) := by
  have no : (¬ relOk v l rs r) → RelQ v l rs r relX := fun h => ⟨fun k => absurd k h, fun _ => rfl⟩
  refine afun_of Tryz.func12 Tryz.call12 rfl Tryz.ntmps12 rfl ?_
  have W : Walk Tryz.prog TT 12 _ := Walk.of TT_ok Tryz.func12 Tryz.results12
  have k1 := specGraphOk_ok v l rs hl hr hx
  have k2 := specSmooth_ok v l rs (rs.getD r.toNat r0).l hl hr hx
  have k3 := specSmooth_ok v l rs (rs.getD r.toNat r0).r hl hr hx
  by_cases h1 : ¬ graphP v l rs
  · refine dre W 0 36 [(16, true), (20, true), (27, true), (38, true)] [.pr (graphP v l rs)] rfl rfl rfl ⟨k1.at rfl _, trivial⟩ rfl ?_ (hp := by simp only [AllP, Holds, Option.getD, true_and, and_true, Classical.not_not]; simp only [h1, not_true, not_false_iff, true_and, and_true] <;> omega)
    refine rq W 0 rfl rfl relX (no fun k => h1 k.1.1.1) rfl relX_sub
  have h1 := Classical.not_not.1 h1
  by_cases h2 : r < 0
  · refine dre W 0 36 [(16, false), (20, true), (27, true), (38, true)] [.pr (graphP v l rs)] rfl rfl rfl ⟨k1.at rfl _, trivial⟩ rfl ?_ (hp := by simp only [AllP, Holds, Option.getD, true_and, and_true, Classical.not_not]; simp only [h1, not_true, not_false_iff, true_and, and_true] <;> omega)
    refine rq W 0 rfl rfl relX (no fun k => by have := k.1.2.2.1; omega) rfl relX_sub
  by_cases h3 : (rs.length : Int) ≤ r
  · refine dre W 0 36 [(16, false), (20, false), (27, true), (38, true)] [.pr (graphP v l rs)] rfl rfl rfl ⟨k1.at rfl _, trivial⟩ rfl ?_ (hp := by simp only [AllP, Holds, Option.getD, true_and, and_true, Classical.not_not]; simp only [h1, not_true, not_false_iff, true_and, and_true] <;> omega)
    refine rq W 0 rfl rfl relX (no fun k => by have := k.1.2.2.2; omega) rfl relX_sub
  by_cases h4 : ¬ slopeP v l rs (rs.getD r.toNat r0).l
  · refine dre W 0 36 [(16, false), (20, false), (27, false), (38, true)] [.pr (graphP v l rs), .pr (slopeP v l rs (rs.getD r.toNat r0).l)] rfl rfl rfl ⟨k1.at rfl _, k2.at rfl _, trivial⟩ rfl ?_ (hp := by simp only [AllP, Holds, Option.getD, true_and, and_true, Classical.not_not]; simp only [h1, h4, not_true, not_false_iff, true_and, and_true] <;> omega)
    refine rq W 0 rfl rfl relX (no fun k => h4 k.1.1) rfl relX_sub
  have h4 := Classical.not_not.1 h4
  refine dre W 0 36 [(16, false), (20, false), (27, false), (38, false)] [.pr (graphP v l rs), .pr (slopeP v l rs (rs.getD r.toNat r0).l), .pr (slopeP v l rs (rs.getD r.toNat r0).r)] rfl rfl rfl ⟨k1.at rfl _, k2.at rfl _, k3.at rfl _, trivial⟩ rfl ?_ (hp := by simp only [AllP, Holds, Option.getD, true_and, and_true, Classical.not_not]; simp only [h1, h4, not_true, not_false_iff, true_and, and_true] <;> omega)
  refine sp W 0 rfl rfl rfl (fun h5 => ?_) (fun h5 => ?_)
  · refine rq W 0 rfl rfl relX (no fun k => h5 k.1.2.1) rfl relX_sub
  have h5 := Classical.not_not.1 h5
  obtain ⟨a, b, eL, eR, hp⟩ := RelP.of hx h4 h5
  have hlen := h1.1
  obtain ⟨m, rfl⟩ : ∃ m : Nat, v = m := ⟨v.toNat, by omega⟩
  have no2 : ∀ i, i ≤ m → 120 < (relN m l a b i).length → RelQ m l rs r relX := fun i hi h => no fun k => by
    have h2 := k.2
    rw [eL, eR, Int.toNat_natCast] at h2
    have := relN_mono2 (v := m) (l := l) (L := a) (R := b) hi
    omega
  have yes : (relN m l a b m).length ≤ 120 → RelQ m l rs r (.tup [graphV m (relN m l a b m) rs, .int .i64 (relA l a b : Nat), .fi .i64 (relKs m l a b m), .bool true]) := fun h => by
    refine ⟨fun _ => ?_, fun k => absurd ⟨⟨h4, h5, by omega, by omega⟩, by rw [eL, eR, Int.toNat_natCast]; exact h⟩ k⟩
    unfold relV
    rw [eL, eR, Int.toNat_natCast]
  have c1 := l17Graph_ok m l rs (by omega) (by omega)
  have c2 : ∀ g, AFun Tryz.prog 34 [.agg [.int .i64 m, .sl 0 g 0 l.length, .fz rs.length (grR rs)], .agg [.int .i64 5, .int .i64 (rs.getD r.toNat r0).l, .int .i64 (rs.getD r.toNat r0).r, .int .i64 0, .str []]] [.tab g l.length (gnR l)] (fun u H => ∃ g', u = .tup [.agg [.int .i64 m, .sl 0 g' 0 (relN m l a b 0).length, .fz rs.length (grR rs)], .int .i64 (relA l a b : Nat)] ∧ H = [.tab g' (relN m l a b 0).length (gnR (relN m l a b 0))]) :=
    fun g => by rw [eL, eR]; exact (l15Put_ok (subG a b) m l rs g (by omega)).mono fun u H ⟨g', e1, e2⟩ => ⟨g', e1.trans (by rw [← relA_cast]; rfl), e2⟩
  have hall := hp.all
  have h0 : (relN m l a b 0).length ≤ 121 := by
    have := (put_sub l (subG a b)).2.2.1
    show (runS _ l).2.length ≤ 121
    omega
  refine phg W 0 21 [1, 15, 19, 20] rfl rfl (fun PW => ?_)
  refine phl PW 0 [1, 19] [] [] rfl rfl trivial ⟨?_, ?_, trivial⟩ (hp := by simp only [AllP, Holds, Option.getD, true_and, and_true]; omega)
  · refine nx_call PW rfl (AFun.sub (ρ := []) c1 rfl trivial trivial (by decide)) ?_
    rintro _ _ ⟨_, _, ⟨g, rfl, rfl⟩, rfl, hq1⟩
    obtain rfl := Option.some.inj (show some _ = some _ from hq1)
    refine ⟨_, rfl, ?_⟩
    refine phl PW 0 [15, 19] [] [] rfl rfl trivial ⟨?_, ?_, trivial⟩ (hp := by simp only [AllP, Holds, Option.getD, true_and, and_true]; omega)
    · refine nx_call PW rfl (AFun.sub (ρ := [5]) (c2 g) rfl ⟨fun _ _ => rfl, trivial⟩ ⟨rfl, trivial⟩ (by decide)) ?_
      rintro _ _ ⟨_, _, ⟨g2, rfl, rfl⟩, rfl, hq2⟩
      obtain rfl := Option.some.inj (show some _ = some _ from hq2)
      refine ⟨_, rfl, ?_⟩
      refine pho PW 0 19 [] [] rfl rfl trivial rfl rfl ?_
      refine pho PW 0 20 [] [] rfl rfl trivial rfl rfl ?_
      refine phe PW 0 [] [] rfl trivial rfl ?_
      refine atl W rfl ?_
      refine go_nilT 10 (.ints 0 .i64 []) rfl rfl rfl rfl rfl ?_
      refine lp W 0 (σ := Nat × Nat × Nat) (fun s => [(2, .ptr 0 0 0 0), (4, .ptr 1 0 0 0), (5, .int .i64 0), (6, .nils), (7, .bool false), (8, .ptr 7 0 0 0), (9, .int .i64 (relA l a b : Nat)), (10, .sl 8 s.2.2 0 s.1), (11, .int .i64 s.1)]) (fun s => [.lst 0 [[.int .i64 m, .fz l.length (gnR l), .fz rs.length (grR rs)]], .lst 0 [[.int .i64 0, .nils, .nils]], .dead, .lst 0 [[.int .i64 m, .sl 5 g 0 l.length, .fz rs.length (grR rs)]], .lst 0 [[.int .i64 m, .sl 5 g 0 l.length, .fz rs.length (grR rs)]], .tab s.2.1 (relN m l a b s.1).length (gnR (relN m l a b s.1)), .dead, .lst 0 [[.int .i64 m, .sl 5 s.2.1 0 (relN m l a b s.1).length, .fz rs.length (grR rs)]], .ints s.2.2 .i64 (relKs m l a b s.1)]) (fun s => m - s.1) (fun s => s.1 ≤ m ∧ (s.1 = 0 ∨ (relN m l a b s.1).length ≤ 120)) (0, g2, 0) [2, 4, 5, 6, 7, 8, 9, 10, 11] rfl rfl rfl ⟨Nat.zero_le _, .inl rfl⟩ ?_
      rintro ⟨i, g3, g4⟩ ⟨hi, hi2⟩ ih
      dsimp only at hi hi2 ih ⊢
      refine sp W 0 rfl rfl rfl (fun z1 => ?_) (fun z1 => ?_)
      · have hi3 : i < m := by omega
        obtain ⟨w1, w2, w3, w4⟩ := hall i
        have hN : (relN m l a b i).length ≤ 121 := by
          rcases hi2 with rfl | h
          · exact h0
          · omega
        have c : AFun Tryz.prog 20 [.agg [.int .i64 m, .sl 0 g3 0 (relN m l a b i).length, .fz rs.length (grR rs)], .int .i64 (relA l a b : Nat), .int .i64 (i : Nat)] [.tab g3 (relN m l a b i).length (gnR (relN m l a b i))] (fun u H => ∃ g', u = .tup [.agg [.int .i64 m, .sl 0 g' 0 (relN m l a b (i + 1)).length, .fz rs.length (grR rs)], .int .i64 (relK m l a b i)] ∧ H = [.tab g' (relN m l a b (i + 1)).length (gnR (relN m l a b (i + 1)))]) := l17Slope_ok m i (relN m l a b i) rs (relA l a b) w3 (by omega) w1.2 (by omega) w1.1 w4 g3
        refine go_callS W 0 300 [5] rfl (by first | exact True.intro | (simp only [AllC, AllP, addN, Int.toNat_natCast, true_and, and_true, Option.getD, List.length_set, wrapU, pw1, pw7, pw8, pw16, pw23, pw32, pw52, Holds] <;> first | omega | ((repeat' apply And.intro) <;> first | omega | (intros; rfl))) | (simp [AllC, AllP, addN, cloL, clo, mrgL, mrg, wrapU, Holds] <;> omega)) c rfl rfl ⟨fun _ _ => rfl, trivial⟩ ⟨rfl, trivial⟩ rfl ?_
        rintro _ _ ⟨g5, rfl, rfl⟩
        refine ⟨_, _, rfl, rfl, ?_⟩
        have kl := relKs_len m l a b i
        refine sp W 0 rfl rfl rfl (fun z2 => ?_) (fun z2 => ?_) (hc := by simp only [AllC, Nat.zero_add, kl, List.length_singleton, true_and, and_true]; omega)
        · refine rq W 0 rfl rfl relX (no2 (i + 1) (by omega) (by omega)) rfl relX_sub
        · have nx := ih (i + 1, g5, g4 + 1) ⟨by dsimp only; omega, .inr (by dsimp only; omega)⟩ (by dsimp only; omega)
          dsimp only at nx
          rw [relKs_next] at nx
          refine bd W 0 9 [2, 4, 5, 6, 7, 8, 9, 10, 11] rfl rfl rfl rfl rfl (nx)
      · have him : i = m := by omega
        subst him
        have kl := relKs_len i l a b i
        refine rq W 0 rfl rfl (.tup [graphV i (relN i l a b i) rs, .int .i64 (relA l a b : Nat), .fi .i64 (relKs i l a b i), .bool true]) (yes (by rcases hi2 with h | h <;> omega)) rfl (.tup ⟨.agg ⟨.refl, .fz fun _ _ => rfl, .refl, trivial⟩, .refl, .fi ?_, .refl, trivial⟩)
        · first | rfl | (rw [← kl]; simp) | simp [kl]
    · refine nx_op PW 0 rfl rfl ?_
      refine phl PW 0 [15] [] [] rfl rfl trivial ⟨?_, trivial⟩ (hp := by simp only [AllP, Holds, Option.getD, true_and, and_true]; omega)
      refine nx_call PW rfl (AFun.sub (ρ := [5]) (c2 g) rfl ⟨fun _ _ => rfl, trivial⟩ ⟨rfl, trivial⟩ (by decide)) ?_
      rintro _ _ ⟨_, _, ⟨g2, rfl, rfl⟩, rfl, hq2⟩
      obtain rfl := Option.some.inj (show some _ = some _ from hq2)
      refine ⟨_, rfl, ?_⟩
      refine pho PW 0 20 [] [] rfl rfl trivial rfl rfl ?_
      refine phe PW 0 [] [] rfl trivial rfl ?_
      refine atl W rfl ?_
      refine go_nilT 10 (.ints 0 .i64 []) rfl rfl rfl rfl rfl ?_
      refine lp W 0 (σ := Nat × Nat × Nat) (fun s => [(2, .ptr 0 0 0 0), (4, .ptr 1 0 0 0), (5, .int .i64 0), (6, .nils), (7, .bool false), (8, .ptr 7 0 0 0), (9, .int .i64 (relA l a b : Nat)), (10, .sl 8 s.2.2 0 s.1), (11, .int .i64 s.1)]) (fun s => [.lst 0 [[.int .i64 m, .fz l.length (gnR l), .fz rs.length (grR rs)]], .lst 0 [[.int .i64 0, .nils, .nils]], .dead, .lst 0 [[.int .i64 m, .sl 5 g 0 l.length, .fz rs.length (grR rs)]], .lst 0 [[.int .i64 m, .sl 5 g 0 l.length, .fz rs.length (grR rs)]], .tab s.2.1 (relN m l a b s.1).length (gnR (relN m l a b s.1)), .dead, .lst 0 [[.int .i64 m, .sl 5 s.2.1 0 (relN m l a b s.1).length, .fz rs.length (grR rs)]], .ints s.2.2 .i64 (relKs m l a b s.1)]) (fun s => m - s.1) (fun s => s.1 ≤ m ∧ (s.1 = 0 ∨ (relN m l a b s.1).length ≤ 120)) (0, g2, 0) [2, 4, 5, 6, 7, 8, 9, 10, 11] rfl rfl rfl ⟨Nat.zero_le _, .inl rfl⟩ ?_
      rintro ⟨i, g3, g4⟩ ⟨hi, hi2⟩ ih
      dsimp only at hi hi2 ih ⊢
      refine sp W 0 rfl rfl rfl (fun z1 => ?_) (fun z1 => ?_)
      · have hi3 : i < m := by omega
        obtain ⟨w1, w2, w3, w4⟩ := hall i
        have hN : (relN m l a b i).length ≤ 121 := by
          rcases hi2 with rfl | h
          · exact h0
          · omega
        have c : AFun Tryz.prog 20 [.agg [.int .i64 m, .sl 0 g3 0 (relN m l a b i).length, .fz rs.length (grR rs)], .int .i64 (relA l a b : Nat), .int .i64 (i : Nat)] [.tab g3 (relN m l a b i).length (gnR (relN m l a b i))] (fun u H => ∃ g', u = .tup [.agg [.int .i64 m, .sl 0 g' 0 (relN m l a b (i + 1)).length, .fz rs.length (grR rs)], .int .i64 (relK m l a b i)] ∧ H = [.tab g' (relN m l a b (i + 1)).length (gnR (relN m l a b (i + 1)))]) := l17Slope_ok m i (relN m l a b i) rs (relA l a b) w3 (by omega) w1.2 (by omega) w1.1 w4 g3
        refine go_callS W 0 300 [5] rfl (by first | exact True.intro | (simp only [AllC, AllP, addN, Int.toNat_natCast, true_and, and_true, Option.getD, List.length_set, wrapU, pw1, pw7, pw8, pw16, pw23, pw32, pw52, Holds] <;> first | omega | ((repeat' apply And.intro) <;> first | omega | (intros; rfl))) | (simp [AllC, AllP, addN, cloL, clo, mrgL, mrg, wrapU, Holds] <;> omega)) c rfl rfl ⟨fun _ _ => rfl, trivial⟩ ⟨rfl, trivial⟩ rfl ?_
        rintro _ _ ⟨g5, rfl, rfl⟩
        refine ⟨_, _, rfl, rfl, ?_⟩
        have kl := relKs_len m l a b i
        refine sp W 0 rfl rfl rfl (fun z2 => ?_) (fun z2 => ?_) (hc := by simp only [AllC, Nat.zero_add, kl, List.length_singleton, true_and, and_true]; omega)
        · refine rq W 0 rfl rfl relX (no2 (i + 1) (by omega) (by omega)) rfl relX_sub
        · have nx := ih (i + 1, g5, g4 + 1) ⟨by dsimp only; omega, .inr (by dsimp only; omega)⟩ (by dsimp only; omega)
          dsimp only at nx
          rw [relKs_next] at nx
          refine bd W 0 9 [2, 4, 5, 6, 7, 8, 9, 10, 11] rfl rfl rfl rfl rfl (nx)
      · have him : i = m := by omega
        subst him
        have kl := relKs_len i l a b i
        refine rq W 0 rfl rfl (.tup [graphV i (relN i l a b i) rs, .int .i64 (relA l a b : Nat), .fi .i64 (relKs i l a b i), .bool true]) (yes (by rcases hi2 with h | h <;> omega)) rfl (.tup ⟨.agg ⟨.refl, .fz fun _ _ => rfl, .refl, trivial⟩, .refl, .fi ?_, .refl, trivial⟩)
        · first | rfl | (rw [← kl]; simp) | simp [kl]
  · refine nx_op PW 0 rfl rfl ?_
    refine phl PW 0 [1] [] [] rfl rfl trivial ⟨?_, trivial⟩ (hp := by simp only [AllP, Holds, Option.getD, true_and, and_true]; omega)
    refine nx_call PW rfl (AFun.sub (ρ := []) c1 rfl trivial trivial (by decide)) ?_
    rintro _ _ ⟨_, _, ⟨g, rfl, rfl⟩, rfl, hq1⟩
    obtain rfl := Option.some.inj (show some _ = some _ from hq1)
    refine ⟨_, rfl, ?_⟩
    refine phl PW 0 [15] [] [] rfl rfl trivial ⟨?_, trivial⟩ (hp := by simp only [AllP, Holds, Option.getD, true_and, and_true]; omega)
    refine nx_call PW rfl (AFun.sub (ρ := [6]) (c2 g) rfl ⟨fun _ _ => rfl, trivial⟩ ⟨rfl, trivial⟩ (by decide)) ?_
    rintro _ _ ⟨_, _, ⟨g2, rfl, rfl⟩, rfl, hq2⟩
    obtain rfl := Option.some.inj (show some _ = some _ from hq2)
    refine ⟨_, rfl, ?_⟩
    refine pho PW 0 20 [] [] rfl rfl trivial rfl rfl ?_
    refine phe PW 0 [] [] rfl trivial rfl ?_
    refine atl W rfl ?_
    refine go_nilT 10 (.ints 0 .i64 []) rfl rfl rfl rfl rfl ?_
    refine lp W 0 (σ := Nat × Nat × Nat) (fun s => [(2, .ptr 0 0 0 0), (4, .ptr 1 0 0 0), (5, .int .i64 0), (6, .nils), (7, .bool false), (8, .ptr 2 0 0 0), (9, .int .i64 (relA l a b : Nat)), (10, .sl 8 s.2.2 0 s.1), (11, .int .i64 s.1)]) (fun s => [.lst 0 [[.int .i64 m, .fz l.length (gnR l), .fz rs.length (grR rs)]], .lst 0 [[.int .i64 0, .nils, .nils]], .lst 0 [[.int .i64 m, .sl 6 s.2.1 0 (relN m l a b s.1).length, .fz rs.length (grR rs)]], .dead, .lst 0 [[.int .i64 m, .sl 6 g 0 l.length, .fz rs.length (grR rs)]], .lst 0 [[.int .i64 m, .sl 6 g 0 l.length, .fz rs.length (grR rs)]], .tab s.2.1 (relN m l a b s.1).length (gnR (relN m l a b s.1)), .dead, .ints s.2.2 .i64 (relKs m l a b s.1)]) (fun s => m - s.1) (fun s => s.1 ≤ m ∧ (s.1 = 0 ∨ (relN m l a b s.1).length ≤ 120)) (0, g2, 0) [2, 4, 5, 6, 7, 8, 9, 10, 11] rfl rfl rfl ⟨Nat.zero_le _, .inl rfl⟩ ?_
    rintro ⟨i, g3, g4⟩ ⟨hi, hi2⟩ ih
    dsimp only at hi hi2 ih ⊢
    refine sp W 0 rfl rfl rfl (fun z1 => ?_) (fun z1 => ?_)
    · have hi3 : i < m := by omega
      obtain ⟨w1, w2, w3, w4⟩ := hall i
      have hN : (relN m l a b i).length ≤ 121 := by
        rcases hi2 with rfl | h
        · exact h0
        · omega
      have c : AFun Tryz.prog 20 [.agg [.int .i64 m, .sl 0 g3 0 (relN m l a b i).length, .fz rs.length (grR rs)], .int .i64 (relA l a b : Nat), .int .i64 (i : Nat)] [.tab g3 (relN m l a b i).length (gnR (relN m l a b i))] (fun u H => ∃ g', u = .tup [.agg [.int .i64 m, .sl 0 g' 0 (relN m l a b (i + 1)).length, .fz rs.length (grR rs)], .int .i64 (relK m l a b i)] ∧ H = [.tab g' (relN m l a b (i + 1)).length (gnR (relN m l a b (i + 1)))]) := l17Slope_ok m i (relN m l a b i) rs (relA l a b) w3 (by omega) w1.2 (by omega) w1.1 w4 g3
      refine go_callS W 0 300 [6] rfl (by first | exact True.intro | (simp only [AllC, AllP, addN, Int.toNat_natCast, true_and, and_true, Option.getD, List.length_set, wrapU, pw1, pw7, pw8, pw16, pw23, pw32, pw52, Holds] <;> first | omega | ((repeat' apply And.intro) <;> first | omega | (intros; rfl))) | (simp [AllC, AllP, addN, cloL, clo, mrgL, mrg, wrapU, Holds] <;> omega)) c rfl rfl ⟨fun _ _ => rfl, trivial⟩ ⟨rfl, trivial⟩ rfl ?_
      rintro _ _ ⟨g5, rfl, rfl⟩
      refine ⟨_, _, rfl, rfl, ?_⟩
      have kl := relKs_len m l a b i
      refine sp W 0 rfl rfl rfl (fun z2 => ?_) (fun z2 => ?_) (hc := by simp only [AllC, Nat.zero_add, kl, List.length_singleton, true_and, and_true]; omega)
      · refine rq W 0 rfl rfl relX (no2 (i + 1) (by omega) (by omega)) rfl relX_sub
      · have nx := ih (i + 1, g5, g4 + 1) ⟨by dsimp only; omega, .inr (by dsimp only; omega)⟩ (by dsimp only; omega)
        dsimp only at nx
        rw [relKs_next] at nx
        refine bd W 0 9 [2, 4, 5, 6, 7, 8, 9, 10, 11] rfl rfl rfl rfl rfl (nx)
    · have him : i = m := by omega
      subst him
      have kl := relKs_len i l a b i
      refine rq W 0 rfl rfl (.tup [graphV i (relN i l a b i) rs, .int .i64 (relA l a b : Nat), .fi .i64 (relKs i l a b i), .bool true]) (yes (by rcases hi2 with h | h <;> omega)) rfl (.tup ⟨.agg ⟨.refl, .fz fun _ _ => rfl, .refl, trivial⟩, .refl, .fi ?_, .refl, trivial⟩)
      · first | rfl | (rw [← kl]; simp) | simp [kl]
end Pf
