/- Part 4 of the lemmas that the claim rests on: an abstract machine over the model, what it is sound for, and the contracts of the functions that the law reaches. -/
import Derived.Test.YtbginchbgejilaaA3
set_option linter.unusedSimpArgs false
set_option linter.unusedVariables false
set_option maxRecDepth 20000
set_option maxHeartbeats 4000000
/- Draws of fractions (l32) -/
namespace Pf
open Go Go.Proofs
theorem natM_ok (b : List Int) (p : Int) (hb : BytesOk b) (h0 : 0 ≤ p) (h1 : p ≤ 999990000) : AFunM Try.prog 58 [.ptr 0 0 0 0] [rdB b p] (RdQ b p 600 fun u => ∃ l, u = .fi .i64 l ∧ l.length ≤ 256) := by
  refine AFun.mono (nat32_ok b p hb h0 h1) ?_
  rintro v H ⟨q, l, a1, a2, a3, g, rfl, rfl⟩
  exact ⟨_, _, _, _, _, [rdB b q], rfl, by simp [AllC], .refl, rfl, rfl, trivial, ⟨rfl, trivial⟩, rfl, rfl, q, rfl, a1, a2, l, rfl, a3⟩
def RawV (u : AV) : Prop := ∃ l, u = .fi .i64 l ∧ l.length ≤ 258
theorem raw32_ok (b : List Int) (p : Int) (hb : BytesOk b) (h0 : 0 ≤ p) (h1 : p ≤ 999980000) : AFunM Try.prog 73 [.ptr 0 0 0 0] [rdB b p] (RdQ b p 700 RawV) := by
  refine afun_of Try.func73 Try.call73 rfl Try.ntmps73 rfl ?_
  have W : Walk Try.prog TT 73 _ := Walk.of TT_ok Try.func73 Try.results73
  refine go_call W 0 300 rfl trivial (nat32_ok b p hb h0 (by omega)) ?_
  rintro _ _ ⟨q, l, a1, a2, a3, g, rfl, rfl⟩
  refine ⟨_, rfl, ?_⟩
  refine cm W 0 [(0, 0)] rfl (pick32_ok b q 80 hb (by omega) (by omega) (by unfold InI; omega)) ⟨rfl, trivial⟩ rfl rfl rfl ?_
  rintro _ _ ⟨q1, rfl, q1a, q1b, k, rfl, ka, kb⟩
  refine ⟨_, _, rfl, rfl, ?_⟩
  refine sp W 0 rfl rfl rfl (fun c0 => ?_) (fun c0 => ?_)
  · refine rm W 0 [rdB b q1] rfl rfl rfl ⟨rfl, trivial⟩ rfl rfl (.fi .i64 (l ++ [0])) rfl (.refl) (⟨q1, rfl, by omega, by omega, _, rfl, by simp; omega⟩)
  refine sp W 0 rfl rfl rfl (fun c1 => ?_) (fun c1 => ?_)
  · refine rm W 0 [rdB b q1] rfl rfl rfl ⟨rfl, trivial⟩ rfl rfl (.fi .i64 (l ++ [65536])) rfl (.refl) (⟨q1, rfl, by omega, by omega, _, rfl, by simp; omega⟩)
  refine sp W 0 rfl rfl rfl (fun c2 => ?_) (fun c2 => ?_)
  · refine rm W 0 [rdB b q1] rfl rfl rfl ⟨rfl, trivial⟩ rfl rfl (.fi .i64 (l ++ [-1])) rfl (.refl) (⟨q1, rfl, by omega, by omega, _, rfl, by simp; omega⟩)
  refine sp W 0 rfl rfl rfl (fun c3 => ?_) (fun c3 => ?_)
  · refine lp W 0 (σ := Nat × List Int × Nat) (fun s => [(3, .sl 1 s.2.2 0 s.1)]) (fun s => [rdB b q1, .ints s.2.2 .i64 s.2.1]) (fun s => 300 - s.1) (fun s => s.2.1.length = s.1 ∧ s.1 ≤ 257) (l.length, l, g) [3] rfl rfl rfl ⟨rfl, by dsimp only; omega⟩ ?_
    rintro ⟨i, L, g2⟩ ⟨e1, e2⟩ ih
    dsimp only at e1 e2 ih ⊢
    refine sp W 0 rfl rfl rfl (fun d0 => ?_) (fun d0 => ?_)
    · refine bd W 0 2 [3] rfl rfl rfl rfl rfl (ih (i + 1, L ++ [1], g2 + 1) ⟨by simp; omega, by dsimp only; omega⟩ (by dsimp only; omega)) (hc := by simp only [AllC, addN, Int.toNat_natCast, true_and, and_true, eq_self, List.length_set, List.length_cons, List.length_nil, List.length_append, List.length_replicate, wrapU, pw1, pw7, pw8, pw16, pw23, pw32, pw52] <;> first | omega | ((repeat' apply And.intro) <;> first | omega | (intros; rfl)))
    · subst e1
      refine rm W 0 [rdB b q1] rfl rfl rfl ⟨rfl, trivial⟩ rfl rfl (.fi .i64 L) rfl (.refl) (⟨q1, rfl, by omega, by omega, _, rfl, by omega⟩)
  · refine rm W 0 [rdB b q1] rfl rfl rfl ⟨rfl, trivial⟩ rfl rfl (.fi .i64 l) rfl (.refl) (⟨q1, rfl, by omega, by omega, _, rfl, by omega⟩)
theorem fracOf32 (p : Prop) (t u : List Int) (ht : t.length ≤ 300) (hu : u.length ≤ 300) : ∃ ok p' t' d', AFunP Try.prog 59 [.pr p, .fi .i64 t, .fi .i64 u] (· = .tup [frF p' t' d', .pr ok]) ∧ t'.length ≤ 256 ∧ d'.length ≤ 256 := by
  by_cases h : natOk t ∧ natOk u ∧ u ≠ []
  · obtain ⟨h1, h2, h3⟩ := h
    obtain ⟨a, rfl, la⟩ := natOk_dig h1
    obtain ⟨c, rfl, lc⟩ := natOk_dig h2
    obtain ⟨ok, q, t', d', k, l1, l2, -⟩ := fracOf_any p a c (fun h => h3 (dig_nil.2 h)) la lc
    exact ⟨_, _, _, _, k, l1, l2⟩
  · refine ⟨False, False, [], [], ?_, by simp, by simp⟩
    refine afun_of Try.func59 Try.call59 rfl Try.ntmps59 rfl ?_
    have W : Walk Try.prog TT 59 _ := Walk.of TT_ok Try.func59 Try.results59
    refine ce W 0 rfl rfl (specNatOk_ok t (by omega)) rfl ?_
    refine sp W 0 rfl rfl rfl (fun h1 => ?_) (fun h1 => ?_)
    · refine rp W 0 rfl rfl rfl (sub_noF)
    refine ce W 0 rfl rfl (specNatOk_ok u (by omega)) rfl ?_
    refine sp W 0 rfl rfl rfl (fun h2 => ?_) (fun h2 => ?_)
    · refine rp W 0 rfl rfl rfl (sub_noF)
    refine sp W 0 rfl rfl rfl (fun h3 => ?_) (fun h3 => ?_)
    · refine rp W 0 rfl rfl rfl (sub_noF)
    · exact absurd ⟨Classical.not_not.1 h1, Classical.not_not.1 h2, fun k => h3 (by subst k; rfl)⟩ h
theorem specFracInt_any (n : Int) (hn : -100 ≤ n ∧ n ≤ 100) : AFunP Try.prog 60 [.int .i64 n] FracV := by
  obtain ⟨m, hm⟩ : ∃ m : Nat, (m : Int) = if n < 0 then -n else n := ⟨n.natAbs, by split <;> omega⟩
  have lm := dlen1 (m := m) (by split at hm <;> omega)
  have kn := specNatOf_ok m (by split at hm <;> omega)
  refine afun_of Try.func60 Try.call60 rfl Try.ntmps60 rfl ?_
  have W : Walk Try.prog TT 60 _ := Walk.of TT_ok Try.func60 Try.results60
  refine sp W 0 rfl rfl rfl (fun h1 => ?_) (fun h1 => ?_)
  · rw [if_pos h1] at hm
    have e1 : IntKind.u64.wrap (-(IntKind.u64.wrap n)) = (m : Int) := by simp only [wrapU]; omega
    rw [← e1] at kn
    refine ce W 1 rfl rfl (kn) rfl ?_
    refine rq W 0 rfl rfl (frF (n < 0) (dig m) [1]) (⟨_, _, _, rfl, by omega, by simp⟩) rfl .refl
  · rw [if_neg h1] at hm
    rw [hm] at kn
    refine ce W 0 rfl rfl (kn) rfl ?_
    refine rq W 0 rfl rfl (frF (n < 0) (dig m) [1]) (⟨_, _, _, rfl, by omega, by simp⟩) rfl .refl
theorem good32_ok (b : List Int) (p : Int) (hb : BytesOk b) (h0 : 0 ≤ p) (h1 : p ≤ 999970000) : AFunM Try.prog 29 [.ptr 0 0 0 0] [rdB b p] (RdQ b p 1300 FracV) := by
  refine afun_of Try.func29 Try.call29 rfl Try.ntmps29 rfl ?_
  have W : Walk Try.prog TT 29 _ := Walk.of TT_ok Try.func29 Try.results29
  refine cm W 0 [(0, 0)] rfl (natM_ok b p hb (by omega) (by omega)) ⟨rfl, trivial⟩ rfl rfl rfl ?_
  rintro _ _ ⟨p1, rfl, p1a, p1b, ⟨l, rfl, l0⟩⟩
  refine ⟨_, _, rfl, rfl, ?_⟩
  refine sp W 0 rfl rfl rfl (fun c0 => ?_) (fun c0 => ?_)
  · refine cm W 0 [(0, 0)] rfl (pick32_ok b p1 9 hb (by omega) (by omega) (by unfold InI; omega)) ⟨rfl, trivial⟩ rfl rfl rfl ?_
    rintro _ _ ⟨p2, rfl, p2a, p2b, y, rfl, ya, yb⟩
    refine ⟨_, _, rfl, rfl, ?_⟩
    refine cm W 0 [(0, 0)] rfl (pick32_ok b p2 2 hb (by omega) (by omega) (by unfold InI; omega)) ⟨rfl, trivial⟩ rfl rfl rfl ?_
    rintro _ _ ⟨pa, rfl, paa, pab, x, rfl, xa, xb⟩
    refine ⟨_, _, rfl, rfl, ?_⟩
    refine cm W 0 [(0, 0)] rfl (natM_ok b pa hb (by omega) (by omega)) ⟨rfl, trivial⟩ rfl rfl rfl ?_
    rintro _ _ ⟨pb, rfl, pba, pbb, ⟨m, rfl, m0⟩⟩
    refine ⟨_, _, rfl, rfl, ?_⟩
    obtain ⟨ok, q, t, d, kf, k1, k2⟩ := fracOf32 (x = 0) m [1 + y] (by omega) (by simp)
    refine cf W 0 [2] [0, 2] rfl rfl rfl rfl rfl rfl (kf) rfl ?_
    refine sp W 0 rfl rfl rfl (fun c5 => ?_) (fun c5 => ?_)
    · refine cm W 0 [(0, 0)] rfl (pick32_ok b pb 9 hb (by omega) (by omega) (by unfold InI; omega)) ⟨rfl, trivial⟩ rfl rfl rfl ?_
      rintro _ _ ⟨pz, rfl, pza, pzb, z, rfl, za, zb⟩
      refine ⟨_, _, rfl, rfl, ?_⟩
      refine cq W 0 rfl rfl (specFracInt_any (z - 4) (by omega)) ?_
      rintro _ ⟨q', t', d', rfl, m1, m2⟩
      refine ⟨_, rfl, ?_⟩
      refine rm W 0 [rdB b pz] rfl rfl rfl ⟨rfl, trivial⟩ rfl rfl (frF q' t' d') rfl (.refl) (⟨_, rfl, by omega, by omega, _, _, _, rfl, m1, m2⟩)
    · refine rm W 0 [rdB b pb] rfl rfl rfl ⟨rfl, trivial⟩ rfl rfl (frF q t d) rfl (.refl) (⟨_, rfl, by omega, by omega, _, _, _, rfl, k1, k2⟩)
  · refine cm W 0 [(0, 0)] rfl (pick32_ok b p1 3 hb (by omega) (by omega) (by unfold InI; omega)) ⟨rfl, trivial⟩ rfl rfl rfl ?_
    rintro _ _ ⟨p2, rfl, p2a, p2b, w, rfl, wa, wb⟩
    refine ⟨_, _, rfl, rfl, ?_⟩
    refine sp W 0 rfl rfl rfl (fun c1 => ?_) (fun c1 => ?_)
    · refine cm W 0 [(0, 0)] rfl (pick32_ok b p2 9 hb (by omega) (by omega) (by unfold InI; omega)) ⟨rfl, trivial⟩ rfl rfl rfl ?_
      rintro _ _ ⟨p3, rfl, p3a, p3b, y, rfl, ya, yb⟩
      refine ⟨_, _, rfl, rfl, ?_⟩
      refine cm W 0 [(0, 0)] rfl (pick32_ok b p3 2 hb (by omega) (by omega) (by unfold InI; omega)) ⟨rfl, trivial⟩ rfl rfl rfl ?_
      rintro _ _ ⟨pa, rfl, paa, pab, x, rfl, xa, xb⟩
      refine ⟨_, _, rfl, rfl, ?_⟩
      refine cm W 0 [(0, 0)] rfl (natM_ok b pa hb (by omega) (by omega)) ⟨rfl, trivial⟩ rfl rfl rfl ?_
      rintro _ _ ⟨pb, rfl, pba, pbb, ⟨m, rfl, m0⟩⟩
      refine ⟨_, _, rfl, rfl, ?_⟩
      obtain ⟨ok, q, t, d, kf, k1, k2⟩ := fracOf32 (x = 0) m [1 + y] (by omega) (by simp)
      refine cf W 0 [2] [0, 2] rfl rfl rfl rfl rfl rfl (kf) rfl ?_
      refine sp W 0 rfl rfl rfl (fun c5 => ?_) (fun c5 => ?_)
      · refine cm W 0 [(0, 0)] rfl (pick32_ok b pb 9 hb (by omega) (by omega) (by unfold InI; omega)) ⟨rfl, trivial⟩ rfl rfl rfl ?_
        rintro _ _ ⟨pz, rfl, pza, pzb, z, rfl, za, zb⟩
        refine ⟨_, _, rfl, rfl, ?_⟩
        refine cq W 0 rfl rfl (specFracInt_any (z - 4) (by omega)) ?_
        rintro _ ⟨q', t', d', rfl, m1, m2⟩
        refine ⟨_, rfl, ?_⟩
        refine rm W 0 [rdB b pz] rfl rfl rfl ⟨rfl, trivial⟩ rfl rfl (frF q' t' d') rfl (.refl) (⟨_, rfl, by omega, by omega, _, _, _, rfl, m1, m2⟩)
      · refine rm W 0 [rdB b pb] rfl rfl rfl ⟨rfl, trivial⟩ rfl rfl (frF q t d) rfl (.refl) (⟨_, rfl, by omega, by omega, _, _, _, rfl, k1, k2⟩)
    · skip
      refine cm W 0 [(0, 0)] rfl (pick32_ok b p2 2 hb (by omega) (by omega) (by unfold InI; omega)) ⟨rfl, trivial⟩ rfl rfl rfl ?_
      rintro _ _ ⟨pa, rfl, paa, pab, x, rfl, xa, xb⟩
      refine ⟨_, _, rfl, rfl, ?_⟩
      refine cm W 0 [(0, 0)] rfl (natM_ok b pa hb (by omega) (by omega)) ⟨rfl, trivial⟩ rfl rfl rfl ?_
      rintro _ _ ⟨pb, rfl, pba, pbb, ⟨m, rfl, m0⟩⟩
      refine ⟨_, _, rfl, rfl, ?_⟩
      obtain ⟨ok, q, t, d, kf, k1, k2⟩ := fracOf32 (x = 0) m l (by omega) (by omega)
      refine ce W 0 rfl rfl (kf) rfl ?_
      refine sp W 0 rfl rfl rfl (fun c5 => ?_) (fun c5 => ?_)
      · refine cm W 0 [(0, 0)] rfl (pick32_ok b pb 9 hb (by omega) (by omega) (by unfold InI; omega)) ⟨rfl, trivial⟩ rfl rfl rfl ?_
        rintro _ _ ⟨pz, rfl, pza, pzb, z, rfl, za, zb⟩
        refine ⟨_, _, rfl, rfl, ?_⟩
        refine cq W 0 rfl rfl (specFracInt_any (z - 4) (by omega)) ?_
        rintro _ ⟨q', t', d', rfl, m1, m2⟩
        refine ⟨_, rfl, ?_⟩
        refine rm W 0 [rdB b pz] rfl rfl rfl ⟨rfl, trivial⟩ rfl rfl (frF q' t' d') rfl (.refl) (⟨_, rfl, by omega, by omega, _, _, _, rfl, m1, m2⟩)
      · refine rm W 0 [rdB b pb] rfl rfl rfl ⟨rfl, trivial⟩ rfl rfl (frF q t d) rfl (.refl) (⟨_, rfl, by omega, by omega, _, _, _, rfl, k1, k2⟩)
def FracW (u : AV) : Prop := ∃ p t d, u = frF p t d ∧ t.length ≤ 300 ∧ d.length ≤ 300
theorem frac32_ok (b : List Int) (p : Int) (hb : BytesOk b) (h0 : 0 ≤ p) (h1 : p ≤ 999960000) : AFunM Try.prog 46 [.ptr 0 0 0 0] [rdB b p] (RdQ b p 2100 FracW) := by
  refine afun_of Try.func46 Try.call46 rfl Try.ntmps46 rfl ?_
  have W : Walk Try.prog TT 46 _ := Walk.of TT_ok Try.func46 Try.results46
  refine cm W 0 [(0, 0)] rfl (good32_ok b p hb (by omega) (by omega)) ⟨rfl, trivial⟩ rfl rfl rfl ?_
  rintro _ _ ⟨p1, rfl, p1a, p1b, ⟨q, t, d, rfl, l1, l2⟩⟩
  refine ⟨_, _, rfl, rfl, ?_⟩
  refine cm W 0 [(0, 0)] rfl (pick32_ok b p1 60 hb (by omega) (by omega) (by unfold InI; omega)) ⟨rfl, trivial⟩ rfl rfl rfl ?_
  rintro _ _ ⟨p2, rfl, p2a, p2b, k, rfl, ka, kb⟩
  refine ⟨_, _, rfl, rfl, ?_⟩
  refine sp W 0 rfl rfl rfl (fun c0 => ?_) (fun c0 => ?_)
  · refine rm W 0 [rdB b p2] rfl rfl rfl ⟨rfl, trivial⟩ rfl rfl (frF (¬ q) t d) rfl (.refl) (⟨p2, rfl, by omega, by omega, _, _, _, rfl, by omega, by omega⟩)
  refine sp W 0 rfl rfl rfl (fun c1 => ?_) (fun c1 => ?_)
  · refine rm W 0 [rdB b p2] rfl rfl rfl ⟨rfl, trivial⟩ rfl rfl (frF q t []) rfl (.agg ⟨.refl, .refl, .nils_fi, trivial⟩) (⟨p2, rfl, by omega, by omega, _, _, _, rfl, by omega, by simp⟩)
  refine sp W 0 rfl rfl rfl (fun c2 => ?_) (fun c2 => ?_)
  · refine rm W 0 [rdB b p2] rfl rfl rfl ⟨rfl, trivial⟩ rfl rfl (frF q ([0] ++ t) ([0] ++ d)) rfl (.refl) (⟨p2, rfl, by omega, by omega, _, _, _, rfl, by simp; omega, by simp; omega⟩)
  refine sp W 0 rfl rfl rfl (fun c3 => ?_) (fun c3 => ?_)
  · refine cm W 0 [(0, 0)] rfl (raw32_ok b p2 hb (by omega) (by omega)) ⟨rfl, trivial⟩ rfl rfl rfl ?_
    rintro _ _ ⟨p3, rfl, p3a, p3b, ⟨l, rfl, l3⟩⟩
    refine ⟨_, _, rfl, rfl, ?_⟩
    refine rm W 0 [rdB b p3] rfl rfl rfl ⟨rfl, trivial⟩ rfl rfl (frF q l d) rfl (.refl) (⟨p3, rfl, by omega, by omega, _, _, _, rfl, by omega, by omega⟩)
  · refine rm W 0 [rdB b p2] rfl rfl rfl ⟨rfl, trivial⟩ rfl rfl (frF q t d) rfl (.refl) (⟨p2, rfl, by omega, by omega, _, _, _, rfl, by omega, by omega⟩)
theorem l32Fracs_ok (b : List Int) (hb : ∀ x ∈ b, 0 ≤ x ∧ x ≤ 255) : AFunP Try.prog 27 [.fi .u8 b] (fun u => ∃ p t d q x y, u = .tup [frF p t d, frF q x y] ∧ t.length ≤ 300 ∧ d.length ≤ 300 ∧ x.length ≤ 300 ∧ y.length ≤ 300) := by
  refine afun_of Try.func27 Try.call27 rfl Try.ntmps27 rfl ?_
  have W : Walk Try.prog TT 27 _ := Walk.of TT_ok Try.func27 Try.results27
  refine cx W 0 rfl rfl (l32Open_ok b hb) (OpenQ.flat) ?_
  rintro _ _ ⟨rfl, c, rfl, hc⟩
  refine ⟨_, _, rfl, rfl, ?_⟩
  refine cm W 0 [(2, 0)] rfl (frac32_ok c 0 hc (by omega) (by omega)) ⟨rfl, trivial⟩ rfl rfl rfl ?_
  rintro _ _ ⟨p1, rfl, p1a, p1b, ⟨q1, t1, d1, rfl, l1, l2⟩⟩
  refine ⟨_, _, rfl, rfl, ?_⟩
  refine cm W 0 [(2, 0)] rfl (frac32_ok c p1 hc (by omega) (by omega)) ⟨rfl, trivial⟩ rfl rfl rfl ?_
  rintro _ _ ⟨p2, rfl, p2a, p2b, ⟨q2, t2, d2, rfl, l3, l4⟩⟩
  refine ⟨_, _, rfl, rfl, ?_⟩
  refine cm W 0 [(2, 0)] rfl (pick32_ok c p2 6 hc (by omega) (by omega) (by unfold InI; omega)) ⟨rfl, trivial⟩ rfl rfl rfl ?_
  rintro _ _ ⟨p3, rfl, p3a, p3b, ⟨k, rfl, k0, k1⟩⟩
  refine ⟨_, _, rfl, rfl, ?_⟩
  obtain ⟨q3, t3, d3, e3, m1, m2⟩ := resF_tup (frOk q1 t1 d1) (¬ q1 ∧ t1 ≠ []) t1 d1 (fun h => ⟨h.1.1, h.2.1.1⟩)
  have kn : AFunP Try.prog 57 [frF q1 t1 d1] (· = .tup [frF q3 t3 d3, .pr (frOk q1 t1 d1)]) := by
    have := specFracNeg_ok q1 t1 d1 (by omega) (by omega)
    rw [negR, e3] at this
    exact this
  refine sp W 0 rfl rfl rfl (fun c0 => ?_) (fun c0 => ?_)
  · refine ce W 0 rfl rfl (kn) rfl ?_
    refine phg W 0 3 [2] rfl rfl (fun PW => ?_)
    refine pho PW 0 2 [] [] rfl rfl trivial rfl rfl ?_
    refine phe PW 0 [] [] rfl trivial rfl ?_
    refine rq W 0 rfl rfl (.tup [frF q1 t1 d1, frF q3 t3 d3]) (⟨_, _, _, _, _, _, rfl, l1, l2, by omega, by omega⟩) rfl .refl
  · skip
    refine phg W 0 3 [2] rfl rfl (fun PW => ?_)
    refine pho PW 0 2 [] [] rfl rfl trivial rfl rfl ?_
    refine phe PW 0 [] [] rfl trivial rfl ?_
    refine rq W 0 rfl rfl (.tup [frF q1 t1 d1, frF q2 t2 d2]) (⟨_, _, _, _, _, _, rfl, l1, l2, l3, l4⟩) rfl .refl
theorem goodFrac_ok (b : List Int) (hb : ∀ x ∈ b, 0 ≤ x ∧ x ≤ 255) : AFunP Try.prog 7 [.fi .u8 b] FracW := by
  refine afun_of Try.func7 Try.call7 rfl Try.ntmps7 rfl ?_
  have W : Walk Try.prog TT 7 _ := Walk.of TT_ok Try.func7 Try.results7
  refine cx W 0 rfl rfl (l32Open_ok b hb) (OpenQ.flat) ?_
  rintro _ _ ⟨rfl, c, rfl, hc⟩
  refine ⟨_, _, rfl, rfl, ?_⟩
  refine cm W 0 [(1, 0)] rfl (good32_ok c 0 hc (by omega) (by omega)) ⟨rfl, trivial⟩ rfl rfl rfl ?_
  rintro _ _ ⟨p1, rfl, p1a, p1b, ⟨q1, t1, d1, rfl, l1, l2⟩⟩
  refine ⟨_, _, rfl, rfl, ?_⟩
  refine rq W 0 rfl rfl (frF q1 t1 d1) (⟨_, _, _, rfl, by omega, by omega⟩) rfl .refl
theorem drawFracCmp_ok (b : List Int) (hb : ∀ x ∈ b, 0 ≤ x ∧ x ≤ 255) : AFunP Try.prog 6 [.fi .u8 b] (fun u => ∃ p t d q x y, u = .tup [frF p t d, frF q x y] ∧ t.length ≤ 300 ∧ d.length ≤ 300 ∧ x.length ≤ 300 ∧ y.length ≤ 300) := by
  refine afun_of Try.func6 Try.call6 rfl Try.ntmps6 rfl ?_
  have W : Walk Try.prog TT 6 _ := Walk.of TT_ok Try.func6 Try.results6
  refine cq W 0 rfl rfl (l32Fracs_ok b hb) ?_
  rintro _ ⟨p, t, d, q, x, y, rfl, l1, l2, l3, l4⟩
  refine ⟨_, rfl, ?_⟩
  refine phg W 0 3 [2] rfl rfl (fun PW => ?_)
  refine pho PW 0 2 [] [] rfl rfl trivial rfl rfl ?_
  refine phe PW 0 [] [] rfl trivial rfl ?_
  refine rq W 0 rfl rfl (.tup [frF p t d, frF q x y]) (⟨_, _, _, _, _, _, rfl, l1, l2, l3, l4⟩) rfl .refl
theorem drawFracAdd_ok (b : List Int) (hb : ∀ x ∈ b, 0 ≤ x ∧ x ≤ 255) : AFunP Try.prog 14 [.fi .u8 b] (fun u => ∃ p t d q x y, u = .tup [frF p t d, frF q x y] ∧ t.length ≤ 300 ∧ d.length ≤ 300 ∧ x.length ≤ 300 ∧ y.length ≤ 300) := by
  refine afun_of Try.func14 Try.call14 rfl Try.ntmps14 rfl ?_
  have W : Walk Try.prog TT 14 _ := Walk.of TT_ok Try.func14 Try.results14
  refine cq W 0 rfl rfl (l32Fracs_ok b hb) ?_
  rintro _ ⟨p, t, d, q, x, y, rfl, l1, l2, l3, l4⟩
  refine ⟨_, rfl, ?_⟩
  refine phg W 0 3 [2] rfl rfl (fun PW => ?_)
  refine pho PW 0 2 [] [] rfl rfl trivial rfl rfl ?_
  refine phe PW 0 [] [] rfl trivial rfl ?_
  refine rq W 0 rfl rfl (.tup [frF p t d, frF q x y]) (⟨_, _, _, _, _, _, rfl, l1, l2, l3, l4⟩) rfl .refl
theorem drawFracRoot_ok (b : List Int) (hb : ∀ x ∈ b, 0 ≤ x ∧ x ≤ 255) : AFunP Try.prog 20 [.fi .u8 b] FracW := by
  refine afun_of Try.func20 Try.call20 rfl Try.ntmps20 rfl ?_
  have W : Walk Try.prog TT 20 _ := Walk.of TT_ok Try.func20 Try.results20
  refine cx W 0 rfl rfl (l32Open_ok b hb) (OpenQ.flat) ?_
  rintro _ _ ⟨rfl, c, rfl, hc⟩
  refine ⟨_, _, rfl, rfl, ?_⟩
  refine cm W 0 [(1, 0)] rfl (frac32_ok c 0 hc (by omega) (by omega)) ⟨rfl, trivial⟩ rfl rfl rfl ?_
  rintro _ _ ⟨p1, rfl, p1a, p1b, ⟨q1, t1, d1, rfl, l1, l2⟩⟩
  refine ⟨_, _, rfl, rfl, ?_⟩
  refine cm W 0 [(1, 0)] rfl (pick32_ok c p1 3 hc (by omega) (by omega) (by unfold InI; omega)) ⟨rfl, trivial⟩ rfl rfl rfl ?_
  rintro _ _ ⟨p3, rfl, p3a, p3b, ⟨k, rfl, k0, k1⟩⟩
  refine ⟨_, _, rfl, rfl, ?_⟩
  obtain ⟨ok2, q2, t2, d2, k2, m1, m2⟩ := fracMul_any q1 q1 t1 d1 t1 d1 (by omega) (by omega) (by omega) (by omega)
  refine sp W 0 rfl rfl rfl (fun c0 => ?_) (fun c0 => ?_)
  · refine ce W 0 rfl rfl (k2) rfl ?_
    refine sp W 0 rfl rfl rfl (fun c1 => ?_) (fun c1 => ?_)
    · refine rq W 0 rfl rfl (frF q2 t2 d2) (⟨_, _, _, rfl, by omega, by omega⟩) rfl .refl
    · refine rq W 0 rfl rfl (frF q1 t1 d1) (⟨_, _, _, rfl, by omega, by omega⟩) rfl .refl
  · refine rq W 0 rfl rfl (frF q1 t1 d1) (⟨_, _, _, rfl, by omega, by omega⟩) rfl .refl
end Pf
/- The law of FracOrder -/
namespace Pf
open Go Go.Proofs
theorem cmp_eq0 {r s : Rat} (h : cmpR r s = 0) : r = s := by
  unfold cmpR at h
  split at h
  · cases h
  · split at h
    · assumption
    · cases h
theorem cmp_sub (r s : Rat) : cmpR (r - s) 0 = cmpR r s := by
  have := cmpR_add (r - s) 0 s
  rw [Rat.sub_add_cancel, Rat.zero_add] at this
  exact this.symm
theorem fsgn_cmp (r : Rat) : fsgn (r < 0) (dt r) = cmpR r 0 := by
  unfold fsgn cmpR
  by_cases h : r < 0
  · rw [if_pos h, if_pos h]
  · rw [if_neg h, if_neg h]
    by_cases h0 : r = 0
    · rw [if_pos (dt_nil.2 h0), if_pos h0]
    · rw [if_neg (fun k => h0 (dt_nil.1 k)), if_neg h0]
theorem cmp_trans {r s t : Rat} (h : cmpR r s = cmpR s t) : cmpR r t = cmpR r s := by
  rcases (by have := cmpR_rng r s; omega : cmpR r s = -1 ∨ cmpR r s = 0 ∨ cmpR r s = 1) with e | e | e
  · have e2 : cmpR s t = -1 := by omega
    rw [e]
    have lt : ∀ {a b : Rat}, cmpR a b = -1 → a < b := fun {a b} h => by
      unfold cmpR at h
      split at h
      · assumption
      · split at h <;> cases h
    have h1 := lt e
    have h2 := lt e2
    have h3 : r < t := by
      refine Rat.not_le.1 fun k => ?_
      exact Rat.not_le.2 h2 (Rat.le_trans k (Rat.le_of_lt h1))
    unfold cmpR; rw [if_pos h3]
  · rw [e]
    have := cmp_eq0 e
    subst this
    rw [← h, e]
  · have e2 : cmpR s t = 1 := by omega
    rw [e]
    have lt : ∀ {a b : Rat}, cmpR a b = 1 → b < a := fun {a b} h => by
      unfold cmpR at h
      split at h
      · cases h
      · split at h
        · cases h
        · rename_i k1 k2; exact Rat.lt_of_le_of_ne (Rat.not_lt.1 k1) (Ne.symm k2)
    have h1 := lt e
    have h2 := lt e2
    have h3 : t < r := by
      refine Rat.not_le.1 fun k => ?_
      exact Rat.not_le.2 h1 (Rat.le_trans k (Rat.le_of_lt h2))
    unfold cmpR; rw [if_neg (Rat.not_lt.2 (Rat.le_of_lt h3)), if_neg (Rat.ne_of_gt h3)]
theorem fnFracOrder_law (b m : List Int) (hb : ∀ x ∈ b, 0 ≤ x ∧ x ≤ 255) (hm : ∀ x ∈ m, 0 ≤ x ∧ x ≤ 255) : AFunP Try.prog 3 [.fi .u8 b, .fi .u8 m] (· = .pr True) := by
  refine afun_of Try.func3 Try.call3 rfl Try.ntmps3 rfl ?_
  have W : Walk Try.prog TT 3 _ := Walk.of TT_ok Try.func3 Try.results3
  refine sp W 0 rfl rfl rfl (fun h1 => ?_) (fun h1 => ?_)
  · refine rp W 0 rfl rfl rfl (.yes trivial)
  refine sp W 0 rfl rfl rfl (fun h2 => ?_) (fun h2 => ?_)
  · refine rp W 0 rfl rfl rfl (.yes trivial)
  refine cq W 0 rfl rfl (drawFracCmp_ok b hb) ?_
  rintro _ ⟨p, t, u, q, x, y, rfl, lt, lu, lx, ly⟩
  refine ⟨_, rfl, ?_⟩
  refine cq W 0 rfl rfl (goodFrac_ok m hm) ?_
  rintro _ ⟨o, v, w, rfl, lv, lw⟩
  refine ⟨_, rfl, ?_⟩
  refine ce W 0 rfl rfl (implFracCmp_ok p t u q x y (by omega) (by omega) (by omega) (by omega)) rfl ?_
  refine ce W 0 rfl rfl (specFracCmp_ok p t u q x y (by omega) (by omega) (by omega) (by omega)) rfl ?_
  refine sp W 0 rfl rfl rfl (fun a1 => ?_) (fun a1 => ?_)
  · exact absurd rfl a1
  by_cases h : frOk p t u ∧ frOk q x y
  · obtain ⟨ra, sa, ea⟩ := frOk_ex h.1
    obtain ⟨rb, sb, eb⟩ := frOk_ex h.2
    obtain ⟨rfl, rfl, rfl⟩ := ea
    obtain ⟨rfl, rfl, rfl⟩ := eb
    have e1 : fcmpN (ra < 0) (dt ra) (db ra) (rb < 0) (dt rb) (db rb) = cmpR ra rb := by rw [fcmpN, if_pos h, rat_frR, rat_frR]
    have e2 : fcmpN (rb < 0) (dt rb) (db rb) (ra < 0) (dt ra) (db ra) = cmpR rb ra := by rw [fcmpN, if_pos ⟨h.2, h.1⟩, rat_frR, rat_frR]
    have kba := implFracCmp_ok (rb < 0) (dt rb) (db rb) (ra < 0) (dt ra) (db ra) (by omega) (by omega) (by omega) (by omega)
    rw [e2, cmpR_swap] at kba
    rw [e1]
    have hr := cmpR_rng ra rb
    refine sp W 0 rfl rfl rfl (fun a2 => ?_) (fun a2 => ?_)
    · refine ce W 0 rfl rfl (kba) rfl ?_
      refine sp W 0 rfl rfl rfl (fun a3 => ?_) (fun a3 => ?_)
      · exfalso; omega
      refine sp W 0 rfl rfl rfl (fun a4 => ?_) (fun a4 => ?_)
      · exfalso; omega
      have kS := subI sa sb
      by_cases hs : small (ra - rb)
      · have kg := implFracSign_ok (ra - rb < 0) (dt (ra - rb)) (db (ra - rb)) (by have := hs.1; omega) (by have := hs.2; omega)
        rw [if_pos (small_frOk hs), fsgn_cmp, cmp_sub] at kg
        refine cn W 0 rfl rfl rfl (kS.yes hs) ?_
        rintro _ _ ⟨rfl, rfl⟩
        refine ⟨_, _, rfl, rfl, ?_⟩
        refine sp W 0 rfl rfl rfl (fun d1 => ?_) (fun d1 => ?_)
        · refine cb W 0 rfl rfl rfl rfl (kg) rfl ?_
          refine sp W 0 rfl rfl rfl (fun d2 => ?_) (fun d2 => ?_)
          · exact absurd rfl d2
          · skip
            refine sp W 0 rfl rfl rfl (fun b1 => ?_) (fun b1 => ?_)
            · have e0 := cmp_eq0 b1
              refine ce W 0 rfl rfl (pwFrac_ok (ra < 0) (rb < 0) (dt ra) (db ra) (dt rb) (db rb) (by omega) (by omega)) rfl ?_
              refine sp W 0 rfl rfl rfl (fun b2 => ?_) (fun b2 => ?_)
              · exact absurd (by rw [e0]; exact ⟨Iff.rfl, rfl, rfl⟩) b2
              · skip
                refine ce W 0 rfl rfl (implFracCmp_ok (rb < 0) (dt rb) (db rb) o v w (by omega) (by omega) (by omega) (by omega)) rfl ?_
                refine sp W 0 rfl rfl rfl (fun b3 => ?_) (fun b3 => ?_)
                · refine rp W 0 rfl rfl rfl (.yes trivial)
                · have b3 := Classical.not_not.1 b3
                  refine ce W 0 rfl rfl (implFracCmp_ok (ra < 0) (dt ra) (db ra) o v w (by omega) (by omega) (by omega) (by omega)) rfl ?_
                  have hc : frOk o v w := by
                    refine Classical.byContradiction fun k => ?_
                    rw [fcmpN, if_neg (fun k2 => k k2.2)] at b3
                    omega
                  rw [fcmpN, if_pos ⟨h.2, hc⟩, rat_frR] at b3
                  have e3 := cmp_trans b3
                  refine rp W 0 rfl rfl rfl (.pr ⟨fun _ => trivial, fun _ => by rw [fcmpN, if_pos ⟨h.1, hc⟩, rat_frR, e3]⟩)
            · skip
              refine ce W 0 rfl rfl (implFracCmp_ok (rb < 0) (dt rb) (db rb) o v w (by omega) (by omega) (by omega) (by omega)) rfl ?_
              refine sp W 0 rfl rfl rfl (fun b3 => ?_) (fun b3 => ?_)
              · refine rp W 0 rfl rfl rfl (.yes trivial)
              · have b3 := Classical.not_not.1 b3
                refine ce W 0 rfl rfl (implFracCmp_ok (ra < 0) (dt ra) (db ra) o v w (by omega) (by omega) (by omega) (by omega)) rfl ?_
                have hc : frOk o v w := by
                  refine Classical.byContradiction fun k => ?_
                  rw [fcmpN, if_neg (fun k2 => k k2.2)] at b3
                  omega
                rw [fcmpN, if_pos ⟨h.2, hc⟩, rat_frR] at b3
                have e3 := cmp_trans b3
                refine rp W 0 rfl rfl rfl (.pr ⟨fun _ => trivial, fun _ => by rw [fcmpN, if_pos ⟨h.1, hc⟩, rat_frR, e3]⟩)
        · exact absurd trivial d1
      · refine ce W 0 rfl rfl (kS.no hs) rfl ?_
        refine sp W 0 rfl rfl rfl (fun b1 => ?_) (fun b1 => ?_)
        · have e0 := cmp_eq0 b1
          refine ce W 0 rfl rfl (pwFrac_ok (ra < 0) (rb < 0) (dt ra) (db ra) (dt rb) (db rb) (by omega) (by omega)) rfl ?_
          refine sp W 0 rfl rfl rfl (fun b2 => ?_) (fun b2 => ?_)
          · exact absurd (by rw [e0]; exact ⟨Iff.rfl, rfl, rfl⟩) b2
          · skip
            refine ce W 0 rfl rfl (implFracCmp_ok (rb < 0) (dt rb) (db rb) o v w (by omega) (by omega) (by omega) (by omega)) rfl ?_
            refine sp W 0 rfl rfl rfl (fun b3 => ?_) (fun b3 => ?_)
            · refine rp W 0 rfl rfl rfl (.yes trivial)
            · have b3 := Classical.not_not.1 b3
              refine ce W 0 rfl rfl (implFracCmp_ok (ra < 0) (dt ra) (db ra) o v w (by omega) (by omega) (by omega) (by omega)) rfl ?_
              have hc : frOk o v w := by
                refine Classical.byContradiction fun k => ?_
                rw [fcmpN, if_neg (fun k2 => k k2.2)] at b3
                omega
              rw [fcmpN, if_pos ⟨h.2, hc⟩, rat_frR] at b3
              have e3 := cmp_trans b3
              refine rp W 0 rfl rfl rfl (.pr ⟨fun _ => trivial, fun _ => by rw [fcmpN, if_pos ⟨h.1, hc⟩, rat_frR, e3]⟩)
        · skip
          refine ce W 0 rfl rfl (implFracCmp_ok (rb < 0) (dt rb) (db rb) o v w (by omega) (by omega) (by omega) (by omega)) rfl ?_
          refine sp W 0 rfl rfl rfl (fun b3 => ?_) (fun b3 => ?_)
          · refine rp W 0 rfl rfl rfl (.yes trivial)
          · have b3 := Classical.not_not.1 b3
            refine ce W 0 rfl rfl (implFracCmp_ok (ra < 0) (dt ra) (db ra) o v w (by omega) (by omega) (by omega) (by omega)) rfl ?_
            have hc : frOk o v w := by
              refine Classical.byContradiction fun k => ?_
              rw [fcmpN, if_neg (fun k2 => k k2.2)] at b3
              omega
            rw [fcmpN, if_pos ⟨h.2, hc⟩, rat_frR] at b3
            have e3 := cmp_trans b3
            refine rp W 0 rfl rfl rfl (.pr ⟨fun _ => trivial, fun _ => by rw [fcmpN, if_pos ⟨h.1, hc⟩, rat_frR, e3]⟩)
    · exfalso; omega
  · have e1 : fcmpN p t u q x y = 2 := by rw [fcmpN, if_neg h]
    rw [e1]
    refine sp W 0 rfl rfl rfl (fun a2 => ?_) (fun a2 => ?_)
    · exact absurd rfl a2
    · refine sp W 0 rfl rfl rfl (fun a3 => ?_) (fun a3 => ?_)
      · refine ce W 0 rfl rfl (specFracOk_ok p t u (by omega) (by omega)) rfl ?_
        refine sp W 0 rfl rfl rfl (fun a4 => ?_) (fun a4 => ?_)
        · refine rp W 0 rfl rfl rfl (.yes trivial)
        · refine ce W 0 rfl rfl (specFracOk_ok q x y (by omega) (by omega)) rfl ?_
          refine rp W 0 rfl rfl rfl (.pr ⟨fun _ => trivial, fun _ k => h ⟨Classical.not_not.1 a4, k⟩⟩)
      · exact absurd rfl a3
end Pf
/- The law of NumTop -/
namespace Pf
open Go Go.Proofs
/-- A fraction that was made; nothing, if it has too many digits. -/
def PR (z : Rat) : Prop := small z ∧ z < 0
open Classical in
noncomputable def TR (z : Rat) : List Int := if small z then dt z else []
open Classical in
noncomputable def UR (z : Rat) : List Int := if small z then db z else []
noncomputable abbrev fR (z : Rat) : AV := frF (PR z) (TR z) (UR z)
noncomputable abbrev resR (z : Rat) : AV := .tup [fR z, .pr (small z)]
theorem PR_eq {z : Rat} (h : small z) : PR z = (z < 0) := propext ⟨fun k => k.2, fun k => ⟨h, k⟩⟩
theorem TR_eq {z : Rat} (h : small z) : TR z = dt z := if_pos h
theorem UR_eq {z : Rat} (h : small z) : UR z = db z := if_pos h
theorem fR_eq {z : Rat} (h : small z) : fR z = frR z := by unfold fR; rw [PR_eq h, TR_eq h, UR_eq h]; rfl
theorem TR_len (z : Rat) : (TR z).length ≤ 256 := by unfold TR; split <;> simp_all [small]
theorem UR_len (z : Rat) : (UR z).length ≤ 256 := by unfold UR; split <;> simp_all [small]
theorem fR_frOk {z : Rat} (h : small z) : frOk (PR z) (TR z) (UR z) := by rw [PR_eq h, TR_eq h, UR_eq h]; exact small_frOk h
theorem fR_rat {z : Rat} (h : small z) : rat (PR z) (TR z) (UR z) = z := by rw [PR_eq h, TR_eq h, UR_eq h]; exact rat_frR z
theorem frOk_ex' {p : Prop} {t u : List Int} (h : frOk p t u) : ∃ r : Rat, small r ∧ p = PR r ∧ t = TR r ∧ u = UR r := by
  obtain ⟨r, h1, h2, h3, h4⟩ := frOk_ex h
  exact ⟨r, h1, by rw [PR_eq h1, h2], by rw [TR_eq h1, h3], by rw [UR_eq h1, h4]⟩
theorem av_ofRat {ok : Prop} {z : Rat} (ho : ok) : (FRes.ofRat ok z).av = resR z := by
  unfold FRes.av FRes.ofRat
  by_cases h : small z
  · rw [resF_yes ⟨ho, h⟩, resR, fR_eq h, eq_true h]; rfl
  · rw [resF_no (fun k => h k.2), resR]
    have e1 : PR z = False := eq_false (fun k => h k.1)
    have e2 : TR z = [] := if_neg h
    have e3 : UR z = [] := if_neg h
    rw [fR, e1, e2, e3, eq_false h]
theorem addE {r s : Rat} (hr : small r) (hs : small s) : AFunP Try.prog 15 [fR r, fR s] (· = resR (r + s)) := by
  have h1 := TR_len r; have h2 := UR_len r; have h3 := TR_len s; have h4 := UR_len s
  have h := (implFracAdd_f (PR r) (PR s) (TR r) (UR r) (TR s) (UR s) (by omega) (by omega) (by omega) (by omega)).fz rfl (by simp [AllC]) rfl
  rw [addS_rat (fR_frOk hr) (fR_frOk hs), fR_rat hr, fR_rat hs, av_ofRat ⟨fR_frOk hr, fR_frOk hs⟩] at h
  exact h
theorem mulE {r s : Rat} (hr : small r) (hs : small s) : AFunP Try.prog 17 [fR r, fR s] (· = resR (r * s)) := by
  have h1 := TR_len r; have h2 := UR_len r; have h3 := TR_len s; have h4 := UR_len s
  have h := (implFracMul_f (PR r) (PR s) (TR r) (UR r) (TR s) (UR s) (by omega) (by omega) (by omega) (by omega)).fz rfl (by simp [AllC]) rfl
  rw [mulS_rat (fR_frOk hr) (fR_frOk hs), fR_rat hr, fR_rat hs, av_ofRat ⟨fR_frOk hr, fR_frOk hs⟩] at h
  exact h
theorem subE {r s : Rat} (hr : small r) (hs : small s) : AFunP Try.prog 11 [fR r, fR s] (· = resR (r - s)) := by
  have h1 := TR_len r; have h2 := UR_len r; have h3 := TR_len s; have h4 := UR_len s
  have h := (implFracSub_f (PR r) (PR s) (TR r) (UR r) (TR s) (UR s) (by omega) (by omega) (by omega) (by omega)).fz rfl (by simp [AllC]) rfl
  rw [subS_rat (fR_frOk hr) (fR_frOk hs), fR_rat hr, fR_rat hs, av_ofRat ⟨fR_frOk hr, fR_frOk hs⟩] at h
  exact h
theorem divE {r s : Rat} (hr : small r) (hs : small s) (h0 : s ≠ 0) : AFunP Try.prog 19 [fR r, fR s] (· = resR (r / s)) := by
  have h1 := TR_len r; have h2 := UR_len r; have h3 := TR_len s; have h4 := UR_len s
  have h := (implFracDiv_f (PR r) (PR s) (TR r) (UR r) (TR s) (UR s) (by omega) (by omega) (by omega) (by omega)).fz rfl (by simp [AllC]) rfl
  have hn : TR s ≠ [] := by rw [TR_eq hs]; exact fun k => h0 (dt_nil.1 k)
  rw [divS_rat (fR_frOk hr) (fR_frOk hs) hn, fR_rat hr, fR_rat hs, av_ofRat ⟨fR_frOk hr, fR_frOk hs, hn⟩] at h
  exact h
theorem specAddE {r s : Rat} (hr : small r) (hs : small s) : AFunP Try.prog 16 [fR r, fR s] (· = resR (r + s)) := by
  have h1 := TR_len r; have h2 := UR_len r; have h3 := TR_len s; have h4 := UR_len s
  have h : AFunP Try.prog 16 [fR r, fR s] (· = (addS (PR r) (TR r) (UR r) (PR s) (TR s) (UR s)).av) := specFracAdd_ok _ _ _ _ _ _ (by omega) (by omega) (by omega) (by omega)
  rw [addS_rat (fR_frOk hr) (fR_frOk hs), fR_rat hr, fR_rat hs, av_ofRat ⟨fR_frOk hr, fR_frOk hs⟩] at h
  exact h
theorem specMulE {r s : Rat} (hr : small r) (hs : small s) : AFunP Try.prog 18 [fR r, fR s] (· = resR (r * s)) := by
  have h1 := TR_len r; have h2 := UR_len r; have h3 := TR_len s; have h4 := UR_len s
  have h : AFunP Try.prog 18 [fR r, fR s] (· = (mulS (PR r) (TR r) (UR r) (PR s) (TR s) (UR s)).av) := specFracMul_ok _ _ _ _ _ _ (by omega) (by omega) (by omega) (by omega)
  rw [mulS_rat (fR_frOk hr) (fR_frOk hs), fR_rat hr, fR_rat hs, av_ofRat ⟨fR_frOk hr, fR_frOk hs⟩] at h
  exact h
theorem signE {z : Rat} (h : small z) : AFunP Try.prog 12 [fR z] (· = .int .i64 (cmpR z 0)) := by
  have h1 := TR_len z; have h2 := UR_len z
  have k := implFracSign_ok (PR z) (TR z) (UR z) (by omega) (by omega)
  rw [if_pos (fR_frOk h)] at k
  rw [show cmpR z 0 = fsgn (PR z) (TR z) by rw [PR_eq h, TR_eq h, fsgn_cmp]]
  exact k
noncomputable abbrev noR : AV := .tup [frF False [] [], .pr False]
theorem addNo {p q : Prop} {t u x y : List Int} (ht : t.length ≤ 1048576) (hu : u.length ≤ 1048576) (hx : x.length ≤ 1048576) (hy : y.length ≤ 1048576) (h : ¬ (frOk p t u ∧ frOk q x y)) : AFunP Try.prog 15 [frF p t u, frF q x y] (· = noR) ∧ AFunP Try.prog 16 [frF p t u, frF q x y] (· = noR) := by
  have e : (addS p t u q x y).av = noR := resF_no (fun k => h k.1)
  have k1 := (implFracAdd_f p q t u x y ht hu hx hy).fz rfl (by simp [AllC]) rfl
  have k2 : AFunP Try.prog 16 [frF p t u, frF q x y] (· = (addS p t u q x y).av) := specFracAdd_ok _ _ _ _ _ _ ht hu hx hy
  rw [e] at k1 k2
  exact ⟨k1, k2⟩
theorem mulNo {p q : Prop} {t u x y : List Int} (ht : t.length ≤ 1048576) (hu : u.length ≤ 1048576) (hx : x.length ≤ 1048576) (hy : y.length ≤ 1048576) (h : ¬ (frOk p t u ∧ frOk q x y)) : AFunP Try.prog 17 [frF p t u, frF q x y] (· = noR) ∧ AFunP Try.prog 18 [frF p t u, frF q x y] (· = noR) := by
  have e : (mulS p t u q x y).av = noR := resF_no (fun k => h k.1)
  have k1 := (implFracMul_f p q t u x y ht hu hx hy).fz rfl (by simp [AllC]) rfl
  have k2 : AFunP Try.prog 18 [frF p t u, frF q x y] (· = (mulS p t u q x y).av) := specFracMul_ok _ _ _ _ _ _ ht hu hx hy
  rw [e] at k1 k2
  exact ⟨k1, k2⟩
theorem pwR (z : Rat) : AFunP Try.prog 13 [fR z, fR z] (· = .pr True) := by
  have h1 := TR_len z; have h2 := UR_len z
  have h := pwFrac_ok (PR z) (PR z) (TR z) (UR z) (TR z) (UR z) (by omega) (by omega)
  rw [eq_true (show (PR z ↔ PR z) ∧ TR z = TR z ∧ UR z = UR z from ⟨Iff.rfl, rfl, rfl⟩)] at h
  exact h
theorem pwNo : AFunP Try.prog 13 [frF False [] [], frF False [] []] (· = .pr True) := by
  have h := pwFrac_ok False False [] [] [] [] (by simp) (by simp)
  rw [eq_true (show (False ↔ False) ∧ ([] : List Int) = [] ∧ ([] : List Int) = [] from ⟨Iff.rfl, rfl, rfl⟩)] at h
  exact h
theorem fnNumTop_law (b m : List Int) (hb : ∀ x ∈ b, 0 ≤ x ∧ x ≤ 255) (hm : ∀ x ∈ m, 0 ≤ x ∧ x ≤ 255) : AFunP Try.prog 4 [.fi .u8 b, .fi .u8 m] (· = .pr True) := by
  refine afun_of Try.func4 Try.call4 rfl Try.ntmps4 rfl ?_
  have W : Walk Try.prog TT 4 _ := Walk.of TT_ok Try.func4 Try.results4
  refine sp W 0 rfl rfl rfl (fun h1 => ?_) (fun h1 => ?_)
  · refine rp W 0 rfl rfl rfl (.yes trivial)
  refine sp W 0 rfl rfl rfl (fun h2 => ?_) (fun h2 => ?_)
  · refine rp W 0 rfl rfl rfl (.yes trivial)
  refine cq W 0 rfl rfl (drawFracAdd_ok b hb) ?_
  rintro _ ⟨p, t, u, q, x, y, rfl, lt, lu, lx, ly⟩
  refine ⟨_, rfl, ?_⟩
  refine cq W 0 rfl rfl (goodFrac_ok m hm) ?_
  rintro _ ⟨o, v, w, rfl, lv, lw⟩
  refine ⟨_, rfl, ?_⟩
  by_cases h : frOk p t u ∧ frOk q x y
  · obtain ⟨A, sa, rfl, rfl, rfl⟩ := frOk_ex' h.1
    obtain ⟨B, sb, rfl, rfl, rfl⟩ := frOk_ex' h.2
    refine ce W 0 rfl rfl (addE sa sb) rfl ?_
    refine ce W 0 rfl rfl (specAddE sa sb) rfl ?_
    refine sp W 0 rfl rfl rfl (fun a1 => ?_) (fun a1 => ?_)
    · exact absurd Iff.rfl a1
    refine ce W 0 rfl rfl (pwR (A + B)) rfl ?_
    refine sp W 0 rfl rfl rfl (fun a2 => ?_) (fun a2 => ?_)
    · exact absurd trivial a2
    refine ce W 0 rfl rfl (mulE sa sb) rfl ?_
    refine ce W 0 rfl rfl (specMulE sa sb) rfl ?_
    refine sp W 0 rfl rfl rfl (fun a3 => ?_) (fun a3 => ?_)
    · exact absurd Iff.rfl a3
    refine ce W 0 rfl rfl (pwR (A * B)) rfl ?_
    refine sp W 0 rfl rfl rfl (fun a4 => ?_) (fun a4 => ?_)
    · exact absurd trivial a4
    refine sp W 0 rfl rfl rfl (fun a5 => ?_) (fun a5 => ?_)
    · refine rp W 0 rfl rfl rfl (.yes trivial)
    refine sp W 0 rfl rfl rfl (fun a6 => ?_) (fun a6 => ?_)
    · refine rp W 0 rfl rfl rfl (.yes trivial)
    have hs := Classical.not_not.1 a5
    have hp := Classical.not_not.1 a6
    have kb := addE sb sa
    rw [Rat.add_comm] at kb
    refine ce W 0 rfl rfl (kb) rfl ?_
    have km := mulE sb sa
    rw [Rat.mul_comm] at km
    refine ce W 0 rfl rfl (km) rfl ?_
    refine sp W 0 rfl rfl rfl (fun b1 => ?_) (fun b1 => ?_)
    · exact absurd hs b1
    refine sp W 0 rfl rfl rfl (fun b2 => ?_) (fun b2 => ?_)
    · exact absurd hp b2
    refine ce W 0 rfl rfl (pwR (A + B)) rfl ?_
    refine sp W 0 rfl rfl rfl (fun b3 => ?_) (fun b3 => ?_)
    · exact absurd trivial b3
    refine ce W 0 rfl rfl (pwR (A * B)) rfl ?_
    refine sp W 0 rfl rfl rfl (fun b4 => ?_) (fun b4 => ?_)
    · exact absurd trivial b4
    have ks := subE hs sb
    rw [Rat.add_sub_cancel] at ks
    refine ce W 0 rfl rfl (ks) rfl ?_
    refine sp W 0 rfl rfl rfl (fun b5 => ?_) (fun b5 => ?_)
    · exact absurd sa b5
    refine ce W 0 rfl rfl (pwR A) rfl ?_
    refine sp W 0 rfl rfl rfl (fun b6 => ?_) (fun b6 => ?_)
    · exact absurd trivial b6
    refine ce W 0 rfl rfl (signE sb) rfl ?_
    refine sp W 0 rfl rfl rfl (fun b7 => ?_) (fun b7 => ?_)
    · have hB : B ≠ 0 := fun k => b7 (by subst k; unfold cmpR; rw [if_neg Rat.lt_irrefl, if_pos rfl])
      have kq := divE hp sb hB
      rw [Rat.mul_div_cancel hB] at kq
      refine ce W 0 rfl rfl (kq) rfl ?_
      refine sp W 0 rfl rfl rfl (fun b8 => ?_) (fun b8 => ?_)
      · exact absurd sa b8
      refine ce W 0 rfl rfl (pwR A) rfl ?_
      refine sp W 0 rfl rfl rfl (fun b9 => ?_) (fun b9 => ?_)
      · exact absurd trivial b9
      by_cases hc : frOk o v w
      · obtain ⟨C, sc, rfl, rfl, rfl⟩ := frOk_ex' hc
        refine ce W 0 rfl rfl (addE sb sc) rfl ?_
        refine ce W 0 rfl rfl (mulE sb sc) rfl ?_
        refine ce W 0 rfl rfl (mulE sa sc) rfl ?_
        refine sp W 0 rfl rfl rfl (fun c1 => ?_) (fun c1 => ?_)
        · refine sp W 0 rfl rfl rfl (fun c2 => ?_) (fun c2 => ?_)
          · refine sp W 0 rfl rfl rfl (fun c3 => ?_) (fun c3 => ?_)
            · have hi := c1
              have hj := c2
              have hk := c3
              have kd1 := addE sa hi
              rw [← Rat.add_assoc] at kd1
              have kd2 := mulE sa hj
              rw [← Rat.mul_assoc] at kd2
              have kd3 := mulE sa hi
              have kd4 := addE hp hk
              rw [← Rat.mul_add] at kd4
              refine ce W 0 rfl rfl (addE hs sc) rfl ?_
              refine ce W 0 rfl rfl (kd1) rfl ?_
              refine sp W 0 rfl rfl rfl (fun g1 => ?_) (fun g1 => ?_)
              · exact absurd Iff.rfl g1
              refine sp W 0 rfl rfl rfl (fun g1' => ?_) (fun g1' => ?_)
              · refine ce W 0 rfl rfl (pwR (A + B + C)) rfl ?_
                refine sp W 0 rfl rfl rfl (fun g1'' => ?_) (fun g1'' => ?_)
                · exact absurd trivial g1''
                refine ce W 0 rfl rfl (mulE hp sc) rfl ?_
                refine ce W 0 rfl rfl (kd2) rfl ?_
                refine sp W 0 rfl rfl rfl (fun g2 => ?_) (fun g2 => ?_)
                · exact absurd Iff.rfl g2
                refine sp W 0 rfl rfl rfl (fun g2' => ?_) (fun g2' => ?_)
                · refine ce W 0 rfl rfl (pwR (A * B * C)) rfl ?_
                  refine sp W 0 rfl rfl rfl (fun g2'' => ?_) (fun g2'' => ?_)
                  · exact absurd trivial g2''
                  refine ce W 0 rfl rfl (kd3) rfl ?_
                  refine ce W 0 rfl rfl (kd4) rfl ?_
                  refine sp W 0 rfl rfl rfl (fun g3 => ?_) (fun g3 => ?_)
                  · exact absurd Iff.rfl g3
                  refine sp W 0 rfl rfl rfl (fun g3' => ?_) (fun g3' => ?_)
                  · refine ce W 0 rfl rfl (pwR (A * (B + C))) rfl ?_
                    refine sp W 0 rfl rfl rfl (fun g3'' => ?_) (fun g3'' => ?_)
                    · exact absurd trivial g3''
                    refine rp W 0 rfl rfl rfl (.yes trivial)
                  · skip
                    refine rp W 0 rfl rfl rfl (.yes trivial)
                · skip
                  refine ce W 0 rfl rfl (kd3) rfl ?_
                  refine ce W 0 rfl rfl (kd4) rfl ?_
                  refine sp W 0 rfl rfl rfl (fun g3 => ?_) (fun g3 => ?_)
                  · exact absurd Iff.rfl g3
                  refine sp W 0 rfl rfl rfl (fun g3' => ?_) (fun g3' => ?_)
                  · refine ce W 0 rfl rfl (pwR (A * (B + C))) rfl ?_
                    refine sp W 0 rfl rfl rfl (fun g3'' => ?_) (fun g3'' => ?_)
                    · exact absurd trivial g3''
                    refine rp W 0 rfl rfl rfl (.yes trivial)
                  · skip
                    refine rp W 0 rfl rfl rfl (.yes trivial)
              · skip
                refine ce W 0 rfl rfl (mulE hp sc) rfl ?_
                refine ce W 0 rfl rfl (kd2) rfl ?_
                refine sp W 0 rfl rfl rfl (fun g2 => ?_) (fun g2 => ?_)
                · exact absurd Iff.rfl g2
                refine sp W 0 rfl rfl rfl (fun g2' => ?_) (fun g2' => ?_)
                · refine ce W 0 rfl rfl (pwR (A * B * C)) rfl ?_
                  refine sp W 0 rfl rfl rfl (fun g2'' => ?_) (fun g2'' => ?_)
                  · exact absurd trivial g2''
                  refine ce W 0 rfl rfl (kd3) rfl ?_
                  refine ce W 0 rfl rfl (kd4) rfl ?_
                  refine sp W 0 rfl rfl rfl (fun g3 => ?_) (fun g3 => ?_)
                  · exact absurd Iff.rfl g3
                  refine sp W 0 rfl rfl rfl (fun g3' => ?_) (fun g3' => ?_)
                  · refine ce W 0 rfl rfl (pwR (A * (B + C))) rfl ?_
                    refine sp W 0 rfl rfl rfl (fun g3'' => ?_) (fun g3'' => ?_)
                    · exact absurd trivial g3''
                    refine rp W 0 rfl rfl rfl (.yes trivial)
                  · skip
                    refine rp W 0 rfl rfl rfl (.yes trivial)
                · skip
                  refine ce W 0 rfl rfl (kd3) rfl ?_
                  refine ce W 0 rfl rfl (kd4) rfl ?_
                  refine sp W 0 rfl rfl rfl (fun g3 => ?_) (fun g3 => ?_)
                  · exact absurd Iff.rfl g3
                  refine sp W 0 rfl rfl rfl (fun g3' => ?_) (fun g3' => ?_)
                  · refine ce W 0 rfl rfl (pwR (A * (B + C))) rfl ?_
                    refine sp W 0 rfl rfl rfl (fun g3'' => ?_) (fun g3'' => ?_)
                    · exact absurd trivial g3''
                    refine rp W 0 rfl rfl rfl (.yes trivial)
                  · skip
                    refine rp W 0 rfl rfl rfl (.yes trivial)
            · refine rp W 0 rfl rfl rfl (.yes trivial)
          · refine rp W 0 rfl rfl rfl (.yes trivial)
        · refine rp W 0 rfl rfl rfl (.yes trivial)
      · obtain ⟨n1, -⟩ := addNo (by have := TR_len B; omega) (by have := UR_len B; omega) (by omega) (by omega) (fun k : frOk (PR B) (TR B) (UR B) ∧ frOk o v w => hc k.2)
        obtain ⟨n2, -⟩ := mulNo (by have := TR_len B; omega) (by have := UR_len B; omega) (by omega) (by omega) (fun k : frOk (PR B) (TR B) (UR B) ∧ frOk o v w => hc k.2)
        obtain ⟨n3, -⟩ := mulNo (by have := TR_len A; omega) (by have := UR_len A; omega) (by omega) (by omega) (fun k : frOk (PR A) (TR A) (UR A) ∧ frOk o v w => hc k.2)
        refine ce W 0 rfl rfl (n1) rfl ?_
        refine ce W 0 rfl rfl (n2) rfl ?_
        refine ce W 0 rfl rfl (n3) rfl ?_
        refine sp W 0 rfl rfl rfl (fun c1 => ?_) (fun c1 => ?_)
        · exact absurd c1 id
        · refine rp W 0 rfl rfl rfl (.yes trivial)
    · skip
      by_cases hc : frOk o v w
      · obtain ⟨C, sc, rfl, rfl, rfl⟩ := frOk_ex' hc
        refine ce W 0 rfl rfl (addE sb sc) rfl ?_
        refine ce W 0 rfl rfl (mulE sb sc) rfl ?_
        refine ce W 0 rfl rfl (mulE sa sc) rfl ?_
        refine sp W 0 rfl rfl rfl (fun c1 => ?_) (fun c1 => ?_)
        · refine sp W 0 rfl rfl rfl (fun c2 => ?_) (fun c2 => ?_)
          · refine sp W 0 rfl rfl rfl (fun c3 => ?_) (fun c3 => ?_)
            · have hi := c1
              have hj := c2
              have hk := c3
              have kd1 := addE sa hi
              rw [← Rat.add_assoc] at kd1
              have kd2 := mulE sa hj
              rw [← Rat.mul_assoc] at kd2
              have kd3 := mulE sa hi
              have kd4 := addE hp hk
              rw [← Rat.mul_add] at kd4
              refine ce W 0 rfl rfl (addE hs sc) rfl ?_
              refine ce W 0 rfl rfl (kd1) rfl ?_
              refine sp W 0 rfl rfl rfl (fun g1 => ?_) (fun g1 => ?_)
              · exact absurd Iff.rfl g1
              refine sp W 0 rfl rfl rfl (fun g1' => ?_) (fun g1' => ?_)
              · refine ce W 0 rfl rfl (pwR (A + B + C)) rfl ?_
                refine sp W 0 rfl rfl rfl (fun g1'' => ?_) (fun g1'' => ?_)
                · exact absurd trivial g1''
                refine ce W 0 rfl rfl (mulE hp sc) rfl ?_
                refine ce W 0 rfl rfl (kd2) rfl ?_
                refine sp W 0 rfl rfl rfl (fun g2 => ?_) (fun g2 => ?_)
                · exact absurd Iff.rfl g2
                refine sp W 0 rfl rfl rfl (fun g2' => ?_) (fun g2' => ?_)
                · refine ce W 0 rfl rfl (pwR (A * B * C)) rfl ?_
                  refine sp W 0 rfl rfl rfl (fun g2'' => ?_) (fun g2'' => ?_)
                  · exact absurd trivial g2''
                  refine ce W 0 rfl rfl (kd3) rfl ?_
                  refine ce W 0 rfl rfl (kd4) rfl ?_
                  refine sp W 0 rfl rfl rfl (fun g3 => ?_) (fun g3 => ?_)
                  · exact absurd Iff.rfl g3
                  refine sp W 0 rfl rfl rfl (fun g3' => ?_) (fun g3' => ?_)
                  · refine ce W 0 rfl rfl (pwR (A * (B + C))) rfl ?_
                    refine sp W 0 rfl rfl rfl (fun g3'' => ?_) (fun g3'' => ?_)
                    · exact absurd trivial g3''
                    refine rp W 0 rfl rfl rfl (.yes trivial)
                  · skip
                    refine rp W 0 rfl rfl rfl (.yes trivial)
                · skip
                  refine ce W 0 rfl rfl (kd3) rfl ?_
                  refine ce W 0 rfl rfl (kd4) rfl ?_
                  refine sp W 0 rfl rfl rfl (fun g3 => ?_) (fun g3 => ?_)
                  · exact absurd Iff.rfl g3
                  refine sp W 0 rfl rfl rfl (fun g3' => ?_) (fun g3' => ?_)
                  · refine ce W 0 rfl rfl (pwR (A * (B + C))) rfl ?_
                    refine sp W 0 rfl rfl rfl (fun g3'' => ?_) (fun g3'' => ?_)
                    · exact absurd trivial g3''
                    refine rp W 0 rfl rfl rfl (.yes trivial)
                  · skip
                    refine rp W 0 rfl rfl rfl (.yes trivial)
              · skip
                refine ce W 0 rfl rfl (mulE hp sc) rfl ?_
                refine ce W 0 rfl rfl (kd2) rfl ?_
                refine sp W 0 rfl rfl rfl (fun g2 => ?_) (fun g2 => ?_)
                · exact absurd Iff.rfl g2
                refine sp W 0 rfl rfl rfl (fun g2' => ?_) (fun g2' => ?_)
                · refine ce W 0 rfl rfl (pwR (A * B * C)) rfl ?_
                  refine sp W 0 rfl rfl rfl (fun g2'' => ?_) (fun g2'' => ?_)
                  · exact absurd trivial g2''
                  refine ce W 0 rfl rfl (kd3) rfl ?_
                  refine ce W 0 rfl rfl (kd4) rfl ?_
                  refine sp W 0 rfl rfl rfl (fun g3 => ?_) (fun g3 => ?_)
                  · exact absurd Iff.rfl g3
                  refine sp W 0 rfl rfl rfl (fun g3' => ?_) (fun g3' => ?_)
                  · refine ce W 0 rfl rfl (pwR (A * (B + C))) rfl ?_
                    refine sp W 0 rfl rfl rfl (fun g3'' => ?_) (fun g3'' => ?_)
                    · exact absurd trivial g3''
                    refine rp W 0 rfl rfl rfl (.yes trivial)
                  · skip
                    refine rp W 0 rfl rfl rfl (.yes trivial)
                · skip
                  refine ce W 0 rfl rfl (kd3) rfl ?_
                  refine ce W 0 rfl rfl (kd4) rfl ?_
                  refine sp W 0 rfl rfl rfl (fun g3 => ?_) (fun g3 => ?_)
                  · exact absurd Iff.rfl g3
                  refine sp W 0 rfl rfl rfl (fun g3' => ?_) (fun g3' => ?_)
                  · refine ce W 0 rfl rfl (pwR (A * (B + C))) rfl ?_
                    refine sp W 0 rfl rfl rfl (fun g3'' => ?_) (fun g3'' => ?_)
                    · exact absurd trivial g3''
                    refine rp W 0 rfl rfl rfl (.yes trivial)
                  · skip
                    refine rp W 0 rfl rfl rfl (.yes trivial)
            · refine rp W 0 rfl rfl rfl (.yes trivial)
          · refine rp W 0 rfl rfl rfl (.yes trivial)
        · refine rp W 0 rfl rfl rfl (.yes trivial)
      · obtain ⟨n1, -⟩ := addNo (by have := TR_len B; omega) (by have := UR_len B; omega) (by omega) (by omega) (fun k : frOk (PR B) (TR B) (UR B) ∧ frOk o v w => hc k.2)
        obtain ⟨n2, -⟩ := mulNo (by have := TR_len B; omega) (by have := UR_len B; omega) (by omega) (by omega) (fun k : frOk (PR B) (TR B) (UR B) ∧ frOk o v w => hc k.2)
        obtain ⟨n3, -⟩ := mulNo (by have := TR_len A; omega) (by have := UR_len A; omega) (by omega) (by omega) (fun k : frOk (PR A) (TR A) (UR A) ∧ frOk o v w => hc k.2)
        refine ce W 0 rfl rfl (n1) rfl ?_
        refine ce W 0 rfl rfl (n2) rfl ?_
        refine ce W 0 rfl rfl (n3) rfl ?_
        refine sp W 0 rfl rfl rfl (fun c1 => ?_) (fun c1 => ?_)
        · exact absurd c1 id
        · refine rp W 0 rfl rfl rfl (.yes trivial)
  · obtain ⟨k1, k2⟩ := addNo (by omega) (by omega) (by omega) (by omega) h
    obtain ⟨k3, k4⟩ := mulNo (by omega) (by omega) (by omega) (by omega) h
    refine ce W 0 rfl rfl (k1) rfl ?_
    refine ce W 0 rfl rfl (k2) rfl ?_
    refine sp W 0 rfl rfl rfl (fun a1 => ?_) (fun a1 => ?_)
    · exact absurd Iff.rfl a1
    refine ce W 0 rfl rfl (pwNo) rfl ?_
    refine sp W 0 rfl rfl rfl (fun a2 => ?_) (fun a2 => ?_)
    · exact absurd trivial a2
    refine ce W 0 rfl rfl (k3) rfl ?_
    refine ce W 0 rfl rfl (k4) rfl ?_
    refine sp W 0 rfl rfl rfl (fun a3 => ?_) (fun a3 => ?_)
    · exact absurd Iff.rfl a3
    refine ce W 0 rfl rfl (pwNo) rfl ?_
    refine sp W 0 rfl rfl rfl (fun a4 => ?_) (fun a4 => ?_)
    · exact absurd trivial a4
    refine sp W 0 rfl rfl rfl (fun a5 => ?_) (fun a5 => ?_)
    · refine rp W 0 rfl rfl rfl (.yes trivial)
    · exact absurd a5 (by simp)
end Pf
/- impl's FracAbs, FracFloor, FracRoot -/
namespace Pf
open Go Go.Proofs
theorem isq_self (n : Nat) : isq (n * n) = n := isq_eq (Nat.le_refl _) (by rw [Nat.add_mul, Nat.mul_add]; omega)
theorem isq_le' (n : Nat) : isq n ≤ n := Nat.le_trans (Nat.le_mul_self _) (isq_le n)
theorem fracAbs1_ok (p : Prop) (t u : List Int) : AFunP Try.prog 51 [frF p t u] (· = frF False t u) := by
  refine afun_of Try.func51 Try.call51 rfl Try.ntmps51 rfl ?_
  have W : Walk Try.prog TT 51 _ := Walk.of TT_ok Try.func51 Try.results51
  refine rp W 0 rfl rfl rfl (.agg ⟨.no id, .refl, .refl, trivial⟩)
theorem implFracAbs_f (p : Prop) (t u : List Int) (ht : t.length ≤ 1048576) (hu : u.length ≤ 1048576) : ImplF 23 [frF p t u] ⟨frOk p t u, False, t, u⟩ := by
  refine ⟨fun h => ?no, fun h => ?yes, fun h => h.1.1, fun h => h.2.1.1⟩
  case no =>
    refine afun_of Try.func23 Try.call23 rfl Try.ntmps23 rfl ?_
    have W : Walk Try.prog TT 23 _ := Walk.of TT_ok Try.func23 Try.results23
    refine ce W 0 rfl rfl (one_no p t u _ (by omega) (by omega) h) rfl ?_
    refine rp W 0 rfl rfl rfl (.refl)
  case yes =>
    have h : frOk p t u := h
    refine afun_of Try.func23 Try.call23 rfl Try.ntmps23 rfl ?_
    have W : Walk Try.prog TT 23 _ := Walk.of TT_ok Try.func23 Try.results23
    refine cn W 0 rfl rfl rfl (one_yes p False t u t u _ h.1.1 h.2.1.1 h (fracAbs1_ok p t u)) ?_
    rintro _ _ ⟨rfl, rfl⟩
    refine ⟨_, _, rfl, rfl, ?_⟩
    refine rn W 0 rfl rfl rfl (.tup [.agg [.pr False, .sl 0 0 0 t.length, .sl 1 0 0 u.length], .pr True]) rfl .refl ⟨rfl, by simp [blksM]⟩
open Classical in
noncomputable def flN (p : Prop) (a b : Nat) : Nat := a / b + if p ∧ a % b ≠ 0 then 1 else 0
theorem flN_le {p : Prop} {a b : Nat} (hb : b ≠ 0) : flN p a b ≤ a := by
  unfold flN
  have h1 := Nat.div_add_mod a b
  have h2 := Nat.mod_lt a (show b > 0 by omega)
  split
  · rename_i h
    have hb2 : 2 ≤ b := by
      rcases (by omega : b = 1 ∨ 2 ≤ b) with rfl | h3
      · have := h.2; omega
      · exact h3
    have : 2 * (a / b) ≤ b * (a / b) := Nat.mul_le_mul_right _ hb2
    omega
  · have : 1 * (a / b) ≤ b * (a / b) := Nat.mul_le_mul_right _ (by omega)
    omega
theorem fracFloor1_ok (p : Prop) (a b : Nat) (hb : b ≠ 0) (ha : (dig a).length ≤ 256) (hbl : (dig b).length ≤ 256) : AFunP Try.prog 52 [frF p (dig a) (dig b)] (· = frF (p ∧ flN p a b ≠ 0) (dig (flN p a b)) [1]) := by
  have l1 := dig_mono (Nat.div_le_self a b) ha
  have e0 : (0 : Int) < (dig (a % b)).length ↔ a % b ≠ 0 := by rw [len_nil, ne_eq, dig_nil]
  have lf := dig_mono (flN_le (p := p) (a := a) hb) ha
  have kw := whole_ok p (flN p a b) (by omega)
  refine afun_of Try.func52 Try.call52 rfl Try.ntmps52 rfl ?_
  have W : Walk Try.prog TT 52 _ := Walk.of TT_ok Try.func52 Try.results52
  refine ce W 0 rfl rfl (natDiv_ok a b hb (by omega) (by omega)) rfl ?_
  refine sp W 0 rfl rfl rfl (fun h1 => ?_) (fun h1 => ?_)
  · refine sp W 0 rfl rfl rfl (fun h2 => ?_) (fun h2 => ?_)
    · have e1 : flN p a b = a / b + 1 := by rw [flN, if_pos ⟨h1, e0.1 h2⟩]
      rw [e1] at kw ⊢
      have ka := natAdd_ok (a / b) 1 (by omega) (by rw [dig_one]; simp)
      rw [dig_one] at ka
      refine cf W 0 [2] [1, 2, 4] rfl rfl rfl rfl rfl rfl (ka) rfl ?_
      refine ce W 0 rfl rfl (kw) rfl ?_
      refine rp W 0 rfl rfl rfl (.refl)
    · have e1 : flN p a b = a / b := by rw [flN, if_neg (fun k => h2 (e0.2 k.2))]; rfl
      rw [e1] at kw ⊢
      refine ce W 0 rfl rfl (kw) rfl ?_
      refine rp W 0 rfl rfl rfl (.refl)
  · have e1 : flN p a b = a / b := by rw [flN, if_neg (fun k => h1 k.1)]; rfl
    rw [e1] at kw ⊢
    refine ce W 0 rfl rfl (kw) rfl ?_
    refine rp W 0 rfl rfl rfl (.refl)
theorem implFracFloor_f (p : Prop) (t u : List Int) (ht : t.length ≤ 1048576) (hu : u.length ≤ 1048576) : ImplF 24 [frF p t u] ⟨frOk p t u, p ∧ flN p (nm t) (nm u) ≠ 0, dig (flN p (nm t) (nm u)), [1]⟩ := by
  have hl : frOk p t u → (dig (flN p (nm t) (nm u))).length ≤ 256 := fun h => by
    obtain ⟨a, b, rfl, rfl, ha, hb, hb0, hap, hab⟩ := frOk_dig h
    rw [nm_dig, nm_dig]
    exact dig_mono (flN_le hb0) ha
  refine ⟨fun h => ?no, fun h => ?yes, hl, fun h => by simp⟩
  case no =>
    refine afun_of Try.func24 Try.call24 rfl Try.ntmps24 rfl ?_
    have W : Walk Try.prog TT 24 _ := Walk.of TT_ok Try.func24 Try.results24
    refine ce W 0 rfl rfl (one_no p t u _ (by omega) (by omega) h) rfl ?_
    refine rp W 0 rfl rfl rfl (.refl)
  case yes =>
    have h : frOk p t u := h
    have hl := hl h
    obtain ⟨a, b, rfl, rfl, ha, hb, hb0, hap, hab⟩ := frOk_dig h
    rw [nm_dig, nm_dig] at hl ⊢
    have k1 := fracFloor1_ok p a b hb0 ha hb
    dsimp only
    generalize flN p a b = q at *
    refine afun_of Try.func24 Try.call24 rfl Try.ntmps24 rfl ?_
    have W : Walk Try.prog TT 24 _ := Walk.of TT_ok Try.func24 Try.results24
    refine cn W 0 rfl rfl rfl (one_yes p (p ∧ q ≠ 0) (dig a) (dig b) (dig q) [1] _ hl (by simp) h k1) ?_
    rintro _ _ ⟨rfl, rfl⟩
    refine ⟨_, _, rfl, rfl, ?_⟩
    refine rn W 0 rfl rfl rfl (.tup [.agg [.pr (p ∧ q ≠ 0), .sl 0 0 0 (dig q).length, .sl 1 0 0 1], .pr True]) rfl .refl ⟨rfl, by simp [blksM]⟩
theorem implFracRoot_f (p : Prop) (t u : List Int) (ht : t.length ≤ 1048576) (hu : u.length ≤ 1048576) : ImplF 21 [frF p t u] ⟨frOk p t u ∧ ¬ p ∧ isq (nm t) * isq (nm t) = nm t ∧ isq (nm u) * isq (nm u) = nm u, False, dig (isq (nm t)), dig (isq (nm u))⟩ := by
  have hl : frOk p t u → (dig (isq (nm t))).length ≤ 256 ∧ (dig (isq (nm u))).length ≤ 256 := fun h => by
    obtain ⟨a, b, rfl, rfl, ha, hb, hb0, hap, hab⟩ := frOk_dig h
    rw [nm_dig, nm_dig]
    exact ⟨dig_mono (isq_le' a) ha, dig_mono (isq_le' b) hb⟩
  refine ⟨fun h => ?no, fun h => ?yes, fun h => (hl h.1).1, fun h => (hl h.1).2⟩
  case no =>
    refine afun_of Try.func21 Try.call21 rfl Try.ntmps21 rfl ?_
    have W : Walk Try.prog TT 21 _ := Walk.of TT_ok Try.func21 Try.results21
    refine ce W 0 rfl rfl (implFracOk_ok p t u (by omega) (by omega)) rfl ?_
    refine sp W 0 rfl rfl rfl (fun h1 => ?_) (fun h1 => ?_)
    · refine rp W 0 rfl rfl rfl (.refl)
    have h1 : frOk p t u := Classical.not_not.1 h1
    refine sp W 0 rfl rfl rfl (fun h2 => ?_) (fun h2 => ?_)
    · refine rp W 0 rfl rfl rfl (.refl)
    obtain ⟨a, b, rfl, rfl, ha, hb, hb0, hap, hab⟩ := frOk_dig h1
    rw [nm_dig, nm_dig] at h
    refine ce W 0 rfl rfl (natRoot_ok a (by omega)) rfl ?_
    refine ce W 0 rfl rfl (natRoot_ok b (by omega)) rfl ?_
    refine sp W 0 rfl rfl rfl (fun h3 => ?_) (fun h3 => ?_)
    · refine rp W 0 rfl rfl rfl (.refl)
    refine sp W 0 rfl rfl rfl (fun h4 => ?_) (fun h4 => ?_)
    · refine rp W 0 rfl rfl rfl (.refl)
    · exact absurd ⟨h1, h2, Classical.not_not.1 h3, Classical.not_not.1 h4⟩ h
  case yes =>
    obtain ⟨h1, h2, h3, h4⟩ := h
    have hl := hl h1
    refine afun_of Try.func21 Try.call21 rfl Try.ntmps21 rfl ?_
    have W : Walk Try.prog TT 21 _ := Walk.of TT_ok Try.func21 Try.results21
    refine ce W 0 rfl rfl (implFracOk_ok p t u (by omega) (by omega)) rfl ?_
    refine sp W 0 rfl rfl rfl (fun a1 => ?_) (fun a1 => ?_)
    · exact absurd h1 a1
    refine sp W 0 rfl rfl rfl (fun a2 => ?_) (fun a2 => ?_)
    · exact absurd a2 h2
    obtain ⟨a, b, rfl, rfl, ha, hb, hb0, hap, hab⟩ := frOk_dig h1
    rw [nm_dig] at h3
    rw [nm_dig] at h4
    rw [nm_dig, nm_dig] at hl
    refine ce W 0 rfl rfl (natRoot_ok a (by omega)) rfl ?_
    refine ce W 0 rfl rfl (natRoot_ok b (by omega)) rfl ?_
    refine sp W 0 rfl rfl rfl (fun a3 => ?_) (fun a3 => ?_)
    · exact absurd h3 a3
    refine sp W 0 rfl rfl rfl (fun a4 => ?_) (fun a4 => ?_)
    · exact absurd h4 a4
    refine cn W 0 rfl rfl rfl (AFun.sub (args := [.agg [.bool false, .fi .i64 (dig (isq a)), .fi .i64 (dig (isq b))]]) (given_new False (dig (isq a)) (dig (isq b)) hl.1 hl.2) ⟨.agg ⟨.no id, .refl, .refl, trivial⟩, trivial⟩) ?_
    rintro _ _ ⟨rfl, rfl⟩
    refine ⟨_, _, rfl, rfl, ?_⟩
    refine rn W 0 rfl rfl rfl (.tup [.agg [.pr False, .sl 0 0 0 (dig (isq a)).length, .sl 1 0 0 (dig (isq b)).length], .pr True]) rfl .refl ?_
    rw [nm_dig, nm_dig]
    exact ⟨rfl, by simp [blksM]⟩
theorem specNatRoot_ok (a : Nat) (ha : (dig a).length ≤ 256) : AFunP Try.prog 49 [.fi .i64 (dig a)] (· = .tup [.fi .i64 (dig (isq a)), .pr (isq a * isq a = a), .pr True]) := by
  have l1 := dig_mono (isq_le' a) ha
  have l2 := dig_len_mul l1 l1
  have kc := l5Cmp_ok (isq a * isq a) a (by omega) (by omega)
  have km := l5Mul_ok (isq a) (isq a) (by omega) (by omega)
  have e : sgn (((isq a * isq a : Nat) : Int) - a) = 0 ↔ isq a * isq a = a := by unfold sgn; omega
  generalize isq a * isq a = c at *
  refine afun_of Try.func49 Try.call49 rfl Try.ntmps49 rfl ?_
  have W : Walk Try.prog TT 49 _ := Walk.of TT_ok Try.func49 Try.results49
  refine ce W 0 rfl rfl (specNatOk_ok (dig a) (by omega)) rfl ?_
  refine sp W 0 rfl rfl rfl (fun h1 => ?_) (fun h1 => ?_)
  · exact absurd (natOk_of ha) h1
  refine ce W 0 rfl rfl (l5Root_ok a (by omega)) rfl ?_
  refine ce W 0 rfl rfl (km) rfl ?_
  refine ce W 0 rfl rfl (kc) rfl ?_
  refine rp W 0 rfl rfl rfl (.tup ⟨.refl, .pr e, .yes trivial, trivial⟩)
theorem specFracRoot_any (p : Prop) (t u : List Int) (ht : t.length ≤ 1048576) (hu : u.length ≤ 1048576) : ∃ P T U, AFunP Try.prog 22 [frF p t u] (· = .tup [frF P T U, .pr (frOk p t u ∧ ¬ p ∧ isq (nm t) * isq (nm t) = nm t ∧ isq (nm u) * isq (nm u) = nm u)]) := by
  by_cases h : frOk p t u ∧ ¬ p ∧ isq (nm t) * isq (nm t) = nm t ∧ isq (nm u) * isq (nm u) = nm u
  · refine ⟨False, dig (isq (nm t)), dig (isq (nm u)), ?_⟩
    rw [eq_true h]
    obtain ⟨h1, h2, h3, h4⟩ := h
    refine afun_of Try.func22 Try.call22 rfl Try.ntmps22 rfl ?_
    have W : Walk Try.prog TT 22 _ := Walk.of TT_ok Try.func22 Try.results22
    refine ce W 0 rfl rfl (specFracOk_ok p t u (by omega) (by omega)) rfl ?_
    refine sp W 0 rfl rfl rfl (fun a1 => ?_) (fun a1 => ?_)
    · exact absurd h1 a1
    refine sp W 0 rfl rfl rfl (fun a2 => ?_) (fun a2 => ?_)
    · exact absurd a2 h2
    obtain ⟨a, b, rfl, rfl, ha, hb, hb0, hap, hab⟩ := frOk_dig h1
    rw [nm_dig] at h3
    rw [nm_dig] at h4
    rw [nm_dig, nm_dig]
    refine ce W 0 rfl rfl (specNatRoot_ok a ha) rfl ?_
    refine ce W 0 rfl rfl (specNatRoot_ok b hb) rfl ?_
    refine sp W 0 rfl rfl rfl (fun a3 => ?_) (fun a3 => ?_)
    · exact absurd h3 a3
    refine sp W 0 rfl rfl rfl (fun a4 => ?_) (fun a4 => ?_)
    · exact absurd h4 a4
    refine rp W 0 rfl rfl rfl (.tup ⟨.agg ⟨.no id, .refl, .refl, trivial⟩, .yes trivial, trivial⟩)
  · refine ⟨False, [], [], ?_⟩
    rw [eq_false h]
    refine afun_of Try.func22 Try.call22 rfl Try.ntmps22 rfl ?_
    have W : Walk Try.prog TT 22 _ := Walk.of TT_ok Try.func22 Try.results22
    refine ce W 0 rfl rfl (specFracOk_ok p t u (by omega) (by omega)) rfl ?_
    refine sp W 0 rfl rfl rfl (fun a1 => ?_) (fun a1 => ?_)
    · refine rp W 0 rfl rfl rfl (sub_noF)
    have h1 : frOk p t u := Classical.not_not.1 a1
    refine sp W 0 rfl rfl rfl (fun a2 => ?_) (fun a2 => ?_)
    · refine rp W 0 rfl rfl rfl (sub_noF)
    obtain ⟨a, b, rfl, rfl, ha, hb, hb0, hap, hab⟩ := frOk_dig h1
    rw [nm_dig, nm_dig] at h
    refine ce W 0 rfl rfl (specNatRoot_ok a ha) rfl ?_
    refine ce W 0 rfl rfl (specNatRoot_ok b hb) rfl ?_
    refine sp W 0 rfl rfl rfl (fun a3 => ?_) (fun a3 => ?_)
    · refine rp W 0 rfl rfl rfl (sub_noF)
    refine sp W 0 rfl rfl rfl (fun a4 => ?_) (fun a4 => ?_)
    · refine rp W 0 rfl rfl rfl (sub_noF)
    · exact absurd ⟨h1, a2, Classical.not_not.1 a3, Classical.not_not.1 a4⟩ h
theorem implFracInt1_ok : AFunP Try.prog 25 [.int .i64 1] (· = frF False [1] [1]) := by
  have kn := natOf_ok 1 (by omega)
  have kw := whole_ok ((1 : Int) < 0) 1 (by rw [dig_one]; simp)
  rw [dig_one] at kn kw
  have e : ((1 : Int) < 0 ∧ (1 : Nat) ≠ 0) = False := by simp
  rw [e] at kw
  refine afun_of Try.func25 Try.call25 rfl Try.ntmps25 rfl ?_
  have W : Walk Try.prog TT 25 _ := Walk.of TT_ok Try.func25 Try.results25
  refine sp W 0 rfl rfl rfl (fun h1 => ?_) (fun h1 => ?_)
  · exfalso; omega
  refine ce W 0 rfl rfl (kn) rfl ?_
  refine ce W 0 rfl rfl (kw) rfl ?_
  refine cn W 0 rfl rfl rfl (given_new False [1] [1] (by simp) (by simp)) ?_
  rintro _ _ ⟨rfl, rfl⟩
  refine ⟨_, _, rfl, rfl, ?_⟩
  refine rp W 0 rfl rfl rfl (.refl)
/-- A whole number as a fraction. -/
theorem frF_int (z : Int) : frF (z < 0) (dig z.natAbs) [1] = frR (z : Rat) := by
  unfold frR dt db
  have e1 : ((z : Rat) < 0) = (z < 0) := propext Rat.intCast_neg_iff
  have e2 : (z : Rat).num = z := rfl
  have e3 : (z : Rat).den = 1 := rfl
  rw [e1, e2, e3, dig_one]
theorem one_int : frF False [1] [1] = fR 1 := by
  have hs : small 1 := ⟨by show (dig 1).length ≤ 256; rw [dig_one]; simp, by show (dig 1).length ≤ 256; rw [dig_one]; simp⟩
  have := frF_int 1
  rw [show ((1 : Int) < 0) = False by simp, show (1 : Int).natAbs = 1 from rfl, dig_one] at this
  rw [fR_eq hs, this]; rfl
theorem small_one : small 1 := ⟨by show (dig 1).length ≤ 256; rw [dig_one]; simp, by show (dig 1).length ≤ 256; rw [dig_one]; simp⟩
open Classical in
/-- The greatest whole number that is not above. -/
noncomputable def flZ (r : Rat) : Int := if r < 0 then -(flN (r < 0) r.num.natAbs r.den : Int) else flN (r < 0) r.num.natAbs r.den
theorem flZ_ok (r : Rat) : cmpR (flZ r : Rat) r ≤ 0 ∧ cmpR r ((flZ r : Rat) + 1) = -1 := by
  have hd : 0 < r.den := Nat.pos_of_ne_zero r.den_nz
  have e1 : ((flZ r : Rat) + 1) = mkRat (flZ r + 1) 1 := by
    rw [show mkRat (flZ r + 1) 1 = ((flZ r + 1 : Int) : Rat) from Rat.mkRat_self ((flZ r + 1 : Int) : Rat)]
    simp [Rat.intCast_add]
  have e2 : (flZ r : Rat) = mkRat (flZ r) 1 := (Rat.mkRat_self (flZ r : Rat)).symm
  have hr : mkRat r.num r.den = r := Rat.mkRat_self r
  have h1 := Nat.div_add_mod r.num.natAbs r.den
  have h2 := Nat.mod_lt r.num.natAbs hd
  have hq : (flN (r < 0) r.num.natAbs r.den : Int) * r.den = r.den * (r.num.natAbs / r.den : Nat) + (if r < 0 ∧ r.num.natAbs % r.den ≠ 0 then (r.den : Int) else 0) := by
    unfold flN
    split
    · rw [Int.natCast_add, Int.add_mul, Int.mul_comm]; simp
    · simp [Int.mul_comm]
  have h1' : (r.den : Int) * (r.num.natAbs / r.den : Nat) + (r.num.natAbs % r.den : Nat) = r.num.natAbs := by exact_mod_cast h1
  have key : flZ r * r.den ≤ r.num ∧ r.num < (flZ r + 1) * r.den := by
    rw [Int.add_mul, Int.one_mul]
    unfold flZ
    by_cases hn : r < 0
    · have := num_neg.1 hn
      rw [if_pos hn, Int.neg_mul, hq]
      generalize (r.den : Int) * (r.num.natAbs / r.den : Nat) = Q at *
      generalize r.num.natAbs % r.den = S at *
      split <;> rename_i h3
      · omega
      · have : S = 0 := Classical.byContradiction fun k => h3 ⟨hn, k⟩
        omega
    · have := mt num_neg.2 hn
      rw [if_neg hn, hq, if_neg (fun k => hn k.1)]
      generalize (r.den : Int) * (r.num.natAbs / r.den : Nat) = Q at *
      generalize r.num.natAbs % r.den = S at *
      omega
  clear hq
  generalize flZ r = z at *
  constructor
  · rw [e2]
    conv => lhs; rw [← hr]
    rw [cmpR_mk (by omega) r.den_nz]
    unfold sgn; omega
  · rw [e1]
    conv => lhs; rw [← hr]
    rw [cmpR_mk r.den_nz (by omega)]
    unfold sgn; omega
theorem floorE {r : Rat} (h : small r) : AFunP Try.prog 24 [fR r] (· = resR (flZ r)) ∧ small (flZ r : Rat) := by
  have h1 := TR_len r; have h2 := UR_len r
  have k := (implFracFloor_f (PR r) (TR r) (UR r) (by omega) (by omega)).fz rfl (by simp [AllC]) rfl
  have hl : (dig (flN (r < 0) r.num.natAbs r.den)).length ≤ 256 := dig_mono (flN_le r.den_nz) h.1
  have ea : (flZ r).natAbs = flN (r < 0) r.num.natAbs r.den := by unfold flZ; split <;> omega
  have ep : (flZ r < 0) = (r < 0 ∧ flN (r < 0) r.num.natAbs r.den ≠ 0) := by
    unfold flZ
    split
    · rename_i hn; exact propext ⟨fun k => ⟨hn, by omega⟩, fun k => by omega⟩
    · rename_i hn; exact propext ⟨fun k => by omega, fun k => absurd k.1 hn⟩
  have ef := frF_int (flZ r)
  rw [ea, ep] at ef
  have hs : small (flZ r : Rat) := by
    refine ⟨?_, ?_⟩
    · show (dig (flZ r).natAbs).length ≤ 256
      rw [ea]; exact hl
    · show (dig 1).length ≤ 256
      rw [dig_one]; simp
  refine ⟨?_, hs⟩
  have e1 : nm (TR r) = r.num.natAbs := by rw [TR_eq h]; exact nm_dig _
  have e2 : nm (UR r) = r.den := by rw [UR_eq h]; exact nm_dig _
  have ev : (⟨frOk (PR r) (TR r) (UR r), PR r ∧ flN (PR r) (nm (TR r)) (nm (UR r)) ≠ 0, dig (flN (PR r) (nm (TR r)) (nm (UR r))), [1]⟩ : FRes).av = resR (flZ r) := by
    rw [FRes.av, resF_yes (fR_frOk h), e1, e2, PR_eq h, ef, resR, fR_eq hs, eq_true hs]
  rw [ev] at k
  exact k
end Pf
/- The law of FracRoot -/
namespace Pf
open Go Go.Proofs
/-- A fraction that is a square; its root; a fraction without its sign. -/
def sqP (r : Rat) : Prop := ¬ r < 0 ∧ isq r.num.natAbs * isq r.num.natAbs = r.num.natAbs ∧ isq r.den * isq r.den = r.den
noncomputable def rt (r : Rat) : Rat := mkRat (isq r.num.natAbs : Int) (isq r.den)
open Classical in
noncomputable def absR (r : Rat) : Rat := if r < 0 then -r else r
theorem mk_cop {a b : Nat} (hb : b ≠ 0) (h : Nat.gcd a b = 1) : dt (mkRat (a : Int) b) = dig a ∧ db (mkRat (a : Int) b) = dig b ∧ ¬ mkRat (a : Int) b < 0 := by
  obtain ⟨h1, h2, h3⟩ := mkRat_parts False a b hb
  rw [sg_no id] at h1 h2 h3
  unfold lT at h1
  unfold lB at h2
  rw [h, Nat.div_one] at h1 h2
  exact ⟨h1.symm, h2.symm, fun k => (h3.2 k).1⟩
theorem rt_ok {r : Rat} (h : small r) (hs : sqP r) : frF False (dig (isq r.num.natAbs)) (dig (isq r.den)) = fR (rt r) ∧ small (rt r) ∧ rt r * rt r = r ∧ ¬ rt r < 0 := by
  obtain ⟨h1, h2, h3⟩ := hs
  have hb : isq r.den ≠ 0 := fun k => by rw [k] at h3; exact r.den_nz h3.symm
  have hg : Nat.gcd (isq r.num.natAbs) (isq r.den) = 1 := by
    refine Nat.eq_one_of_dvd_one ?_
    have hr : Nat.gcd r.num.natAbs r.den = 1 := r.reduced
    rw [← hr]
    refine Nat.dvd_gcd ?_ ?_
    · conv => rhs; rw [← h2]
      exact Nat.dvd_trans (Nat.gcd_dvd_left _ _) (Nat.dvd_mul_right _ _)
    · conv => rhs; rw [← h3]
      exact Nat.dvd_trans (Nat.gcd_dvd_right _ _) (Nat.dvd_mul_right _ _)
  obtain ⟨e1, e2, e3⟩ := mk_cop hb hg
  have hsm : small (rt r) := by
    unfold small rt
    rw [e1, e2]
    exact ⟨dig_mono (isq_le' _) h.1, dig_mono (isq_le' _) h.2⟩
  refine ⟨?_, hsm, ?_, e3⟩
  · rw [fR_eq hsm]
    unfold frR rt
    rw [e1, e2, eq_false e3]
  · unfold rt
    rw [Rat.mkRat_mul_mkRat, h3, ← Int.natCast_mul, h2]
    have := mk_R r
    rwa [sg_no h1] at this
theorem sq_sq (r : Rat) : sqP (r * r) ∧ rt (r * r) = absR r := by
  have hd2 : r.den * r.den ≠ 0 := Nat.mul_ne_zero r.den_nz r.den_nz
  have hc : Nat.Coprime r.num.natAbs r.den := r.reduced
  have hg : Nat.gcd (r.num.natAbs * r.num.natAbs) (r.den * r.den) = 1 := Nat.Coprime.mul_right (Nat.Coprime.mul_left hc hc) (Nat.Coprime.mul_left hc hc)
  have e : r * r = mkRat ((r.num.natAbs * r.num.natAbs : Nat) : Int) (r.den * r.den) := by
    conv => lhs; rw [← mk_R r]
    rw [Rat.mkRat_mul_mkRat]
    congr 1
    rw [Int.natCast_mul]
    unfold sg
    split
    · rw [Int.neg_mul_neg]
    · rfl
  obtain ⟨e1, e2, e3⟩ := mk_cop hd2 hg
  rw [← e] at e1 e2 e3
  have n1 : (r * r).num.natAbs = r.num.natAbs * r.num.natAbs := dig_inj e1
  have n2 : (r * r).den = r.den * r.den := dig_inj e2
  refine ⟨⟨e3, ?_, ?_⟩, ?_⟩
  · rw [n1, isq_self]
  · rw [n2, isq_self]
  · unfold rt
    rw [n1, n2, isq_self, isq_self]
    unfold absR
    have := mk_R r
    split
    · rename_i hn
      rw [sg_yes hn] at this
      rw [← this, Rat.neg_mkRat, Int.neg_neg, this]
    · rename_i hn
      rwa [sg_no hn] at this
theorem rootE {r : Rat} (h : small r) : (sqP r → AFunP Try.prog 21 [fR r] (· = .tup [fR (rt r), .pr True])) ∧ (¬ sqP r → AFunP Try.prog 21 [fR r] (· = noR)) ∧
    ∃ P T U, AFunP Try.prog 22 [fR r] (· = .tup [frF P T U, .pr (sqP r)]) := by
  have h1 := TR_len r; have h2 := UR_len r
  have k := (implFracRoot_f (PR r) (TR r) (UR r) (by omega) (by omega)).fz rfl (by simp [AllC]) rfl
  obtain ⟨P, T, U, k2⟩ := specFracRoot_any (PR r) (TR r) (UR r) (by omega) (by omega)
  have e1 : nm (TR r) = r.num.natAbs := by rw [TR_eq h]; exact nm_dig _
  have e2 : nm (UR r) = r.den := by rw [UR_eq h]; exact nm_dig _
  have eo : (frOk (PR r) (TR r) (UR r) ∧ ¬ PR r ∧ isq (nm (TR r)) * isq (nm (TR r)) = nm (TR r) ∧ isq (nm (UR r)) * isq (nm (UR r)) = nm (UR r)) = sqP r := by
    unfold sqP
    have := fR_frOk h
    rw [e1, e2, eq_true this, PR_eq h, true_and]
  rw [eo] at k2
  refine ⟨fun hs => ?_, fun hs => ?_, P, T, U, k2⟩
  · rw [FRes.av, resF_yes (by rw [eo]; exact hs), e1, e2, (rt_ok h hs).1] at k
    exact k
  · rw [FRes.av, resF_no (by rw [eo]; exact hs)] at k
    exact k
theorem absE {r : Rat} (h : small r) : AFunP Try.prog 23 [fR r] (· = .tup [fR (absR r), .pr True]) := by
  have h1 := TR_len r; have h2 := UR_len r
  have k := (implFracAbs_f (PR r) (TR r) (UR r) (by omega) (by omega)).fz rfl (by simp [AllC]) rfl
  have hd : dt (absR r) = dt r ∧ db (absR r) = db r ∧ ¬ absR r < 0 := by
    unfold absR
    split
    · rename_i hn
      refine ⟨by unfold dt; rw [Rat.neg_num, Int.natAbs_neg], by unfold db; rw [Rat.neg_den], ?_⟩
      rw [num_neg, Rat.neg_num]; have := num_neg.1 hn; omega
    · rename_i hn; exact ⟨rfl, rfl, hn⟩
  have hs : small (absR r) := by unfold small; rw [hd.1, hd.2.1]; exact h
  have ev : (⟨frOk (PR r) (TR r) (UR r), False, TR r, UR r⟩ : FRes).av = .tup [fR (absR r), .pr True] := by
    rw [FRes.av, resF_yes (fR_frOk h), fR_eq hs]
    unfold frR
    rw [hd.1, hd.2.1, eq_false hd.2.2, TR_eq h, UR_eq h]
  rw [ev] at k
  exact k
theorem cmpE {r s : Rat} (hr : small r) (hs : small s) : AFunP Try.prog 8 [fR r, fR s] (· = .int .i64 (cmpR r s)) := by
  have h1 := TR_len r; have h2 := UR_len r; have h3 := TR_len s; have h4 := UR_len s
  have k := implFracCmp_ok (PR r) (TR r) (UR r) (PR s) (TR s) (UR s) (by omega) (by omega) (by omega) (by omega)
  rw [fcmpN, if_pos ⟨fR_frOk hr, fR_frOk hs⟩, fR_rat hr, fR_rat hs] at k
  exact k
theorem fnFracRoot_law (b : List Int) (hb : ∀ x ∈ b, 0 ≤ x ∧ x ≤ 255) : AFunP Try.prog 5 [.fi .u8 b] (· = .pr True) := by
  refine afun_of Try.func5 Try.call5 rfl Try.ntmps5 rfl ?_
  have W : Walk Try.prog TT 5 _ := Walk.of TT_ok Try.func5 Try.results5
  refine sp W 0 rfl rfl rfl (fun h1 => ?_) (fun h1 => ?_)
  · refine rp W 0 rfl rfl rfl (.yes trivial)
  refine cq W 0 rfl rfl (drawFracRoot_ok b hb) ?_
  rintro _ ⟨p, t, u, rfl, lt, lu⟩
  refine ⟨_, rfl, ?_⟩
  by_cases h : frOk p t u
  · obtain ⟨r, sr, rfl, rfl, rfl⟩ := frOk_ex' h
    obtain ⟨k1, k2, P, T, U, k3⟩ := rootE sr
    obtain ⟨f1, f2⟩ := floorE sr
    obtain ⟨z1, z2⟩ := flZ_ok r
    have k0 := specFracOk_ok (PR r) (TR r) (UR r) (by omega) (by omega)
    have ka := addE f2 small_one
    have fok := fR_frOk sr
    have hi1 := implFracInt1_ok
    rw [one_int] at hi1
    have kc1 := cmpE f2 sr
    have hu : UR (flZ r : Rat) = [1] := by rw [UR_eq f2]; exact dig_one
    have ks := pwSame_ok (UR (flZ r : Rat)) [1] (by have := UR_len (flZ r : Rat); omega)
    by_cases hq : sqP r
    · refine ce W 0 rfl rfl (k1 hq) rfl ?_
      refine ce W 0 rfl rfl (k3) rfl ?_
      obtain ⟨q1, q2, q3, q4⟩ := rt_ok sr hq
      have km := mulE q2 q2
      rw [q3] at km
      refine sp W 0 rfl rfl rfl (fun a1 => ?_) (fun a1 => ?_)
      · exact absurd (by simp [hq]) a1
      refine sp W 0 rfl rfl rfl (fun a0 => ?_) (fun a0 => ?_)
      · refine ce W 0 rfl rfl (km) rfl ?_
        refine sp W 0 rfl rfl rfl (fun a2 => ?_) (fun a2 => ?_)
        · exact absurd sr a2
        refine ce W 0 rfl rfl (pwR r) rfl ?_
        refine sp W 0 rfl rfl rfl (fun a3 => ?_) (fun a3 => ?_)
        · exact absurd trivial a3
        refine ce W 0 rfl rfl (signE q2) rfl ?_
        refine sp W 0 rfl rfl rfl (fun a4 => ?_) (fun a4 => ?_)
        · exact absurd a4 (by unfold cmpR; rw [if_neg q4]; split <;> omega)
        refine ce W 0 rfl rfl (mulE sr sr) rfl ?_
        refine sp W 0 rfl rfl rfl (fun c1 => ?_) (fun c1 => ?_)
        · obtain ⟨s1, s2, P2, T2, U2, s3⟩ := rootE c1
          obtain ⟨q5, q6⟩ := sq_sq r
          have s1 := s1 q5
          rw [q6] at s1
          refine ce W 0 rfl rfl (s1) rfl ?_
          refine ce W 0 rfl rfl (absE sr) rfl ?_
          refine sp W 0 rfl rfl rfl (fun c2 => ?_) (fun c2 => ?_)
          · exact absurd trivial c2
          refine sp W 0 rfl rfl rfl (fun c3 => ?_) (fun c3 => ?_)
          · exact absurd trivial c3
          refine ce W 0 rfl rfl (pwR (absR r)) rfl ?_
          refine sp W 0 rfl rfl rfl (fun c4 => ?_) (fun c4 => ?_)
          · exact absurd trivial c4
          refine ce W 0 rfl rfl (f1) rfl ?_
          refine ce W 0 rfl rfl (k0) rfl ?_
          refine sp W 0 rfl rfl rfl (fun d1 => ?_) (fun d1 => ?_)
          · exact absurd ⟨fun _ => fok, fun _ => f2⟩ d1
          refine sp W 0 rfl rfl rfl (fun d2 => ?_) (fun d2 => ?_)
          · exact absurd f2 d2
          refine phg W 0 8 [6, 7] rfl rfl (fun PW => ?_)
          refine pho PW 0 6 [] [fR 1, resR ((flZ r : Rat) + 1)] rfl rfl ⟨hi1.at rfl _, ka.at rfl _, trivial⟩ rfl rfl ?_
          refine pho PW 0 7 [] [fR 1, resR ((flZ r : Rat) + 1)] rfl rfl ⟨hi1.at rfl _, ka.at rfl _, trivial⟩ rfl rfl ?_
          refine phe PW 0 [] [] rfl trivial rfl ?_
          refine ce W 0 rfl rfl (kc1) rfl ?_
          refine sp W 0 rfl rfl rfl (fun e1 => ?_) (fun e1 => ?_)
          · refine sp W 0 rfl rfl rfl (fun e2 => ?_) (fun e2 => ?_)
            · refine cb W 0 rfl rfl rfl rfl (ks) rfl ?_
              refine rp W 0 rfl rfl rfl (.pr ⟨fun _ => trivial, fun _ => hu⟩)
            · skip
              have e3 := Classical.not_not.1 e2
              refine ce W 0 rfl rfl (cmpE sr e3) rfl ?_
              refine sp W 0 rfl rfl rfl (fun e4 => ?_) (fun e4 => ?_)
              · refine cb W 0 rfl rfl rfl rfl (ks) rfl ?_
                refine rp W 0 rfl rfl rfl (.pr ⟨fun _ => trivial, fun _ => hu⟩)
              · exact absurd z2 e4
          · exact absurd z1 e1
        · skip
          refine ce W 0 rfl rfl (f1) rfl ?_
          refine ce W 0 rfl rfl (k0) rfl ?_
          refine sp W 0 rfl rfl rfl (fun d1 => ?_) (fun d1 => ?_)
          · exact absurd ⟨fun _ => fok, fun _ => f2⟩ d1
          refine sp W 0 rfl rfl rfl (fun d2 => ?_) (fun d2 => ?_)
          · exact absurd f2 d2
          refine phg W 0 8 [6, 7] rfl rfl (fun PW => ?_)
          refine pho PW 0 6 [] [fR 1, resR ((flZ r : Rat) + 1)] rfl rfl ⟨hi1.at rfl _, ka.at rfl _, trivial⟩ rfl rfl ?_
          refine pho PW 0 7 [] [fR 1, resR ((flZ r : Rat) + 1)] rfl rfl ⟨hi1.at rfl _, ka.at rfl _, trivial⟩ rfl rfl ?_
          refine phe PW 0 [] [] rfl trivial rfl ?_
          refine ce W 0 rfl rfl (kc1) rfl ?_
          refine sp W 0 rfl rfl rfl (fun e1 => ?_) (fun e1 => ?_)
          · refine sp W 0 rfl rfl rfl (fun e2 => ?_) (fun e2 => ?_)
            · refine cb W 0 rfl rfl rfl rfl (ks) rfl ?_
              refine rp W 0 rfl rfl rfl (.pr ⟨fun _ => trivial, fun _ => hu⟩)
            · skip
              have e3 := Classical.not_not.1 e2
              refine ce W 0 rfl rfl (cmpE sr e3) rfl ?_
              refine sp W 0 rfl rfl rfl (fun e4 => ?_) (fun e4 => ?_)
              · refine cb W 0 rfl rfl rfl rfl (ks) rfl ?_
                refine rp W 0 rfl rfl rfl (.pr ⟨fun _ => trivial, fun _ => hu⟩)
              · exact absurd z2 e4
          · exact absurd z1 e1
      · exact absurd trivial a0
    · refine ce W 0 rfl rfl (k2 hq) rfl ?_
      refine ce W 0 rfl rfl (k3) rfl ?_
      refine sp W 0 rfl rfl rfl (fun a1 => ?_) (fun a1 => ?_)
      · exact absurd (by simp [hq]) a1
      refine sp W 0 rfl rfl rfl (fun a0 => ?_) (fun a0 => ?_)
      · exact absurd a0 id
      refine ce W 0 rfl rfl (mulE sr sr) rfl ?_
      refine sp W 0 rfl rfl rfl (fun c1 => ?_) (fun c1 => ?_)
      · obtain ⟨s1, s2, P2, T2, U2, s3⟩ := rootE c1
        obtain ⟨q5, q6⟩ := sq_sq r
        have s1 := s1 q5
        rw [q6] at s1
        refine ce W 0 rfl rfl (s1) rfl ?_
        refine ce W 0 rfl rfl (absE sr) rfl ?_
        refine sp W 0 rfl rfl rfl (fun c2 => ?_) (fun c2 => ?_)
        · exact absurd trivial c2
        refine sp W 0 rfl rfl rfl (fun c3 => ?_) (fun c3 => ?_)
        · exact absurd trivial c3
        refine ce W 0 rfl rfl (pwR (absR r)) rfl ?_
        refine sp W 0 rfl rfl rfl (fun c4 => ?_) (fun c4 => ?_)
        · exact absurd trivial c4
        refine ce W 0 rfl rfl (f1) rfl ?_
        refine ce W 0 rfl rfl (k0) rfl ?_
        refine sp W 0 rfl rfl rfl (fun d1 => ?_) (fun d1 => ?_)
        · exact absurd ⟨fun _ => fok, fun _ => f2⟩ d1
        refine sp W 0 rfl rfl rfl (fun d2 => ?_) (fun d2 => ?_)
        · exact absurd f2 d2
        refine phg W 0 8 [6, 7] rfl rfl (fun PW => ?_)
        refine pho PW 0 6 [] [fR 1, resR ((flZ r : Rat) + 1)] rfl rfl ⟨hi1.at rfl _, ka.at rfl _, trivial⟩ rfl rfl ?_
        refine pho PW 0 7 [] [fR 1, resR ((flZ r : Rat) + 1)] rfl rfl ⟨hi1.at rfl _, ka.at rfl _, trivial⟩ rfl rfl ?_
        refine phe PW 0 [] [] rfl trivial rfl ?_
        refine ce W 0 rfl rfl (kc1) rfl ?_
        refine sp W 0 rfl rfl rfl (fun e1 => ?_) (fun e1 => ?_)
        · refine sp W 0 rfl rfl rfl (fun e2 => ?_) (fun e2 => ?_)
          · refine cb W 0 rfl rfl rfl rfl (ks) rfl ?_
            refine rp W 0 rfl rfl rfl (.pr ⟨fun _ => trivial, fun _ => hu⟩)
          · skip
            have e3 := Classical.not_not.1 e2
            refine ce W 0 rfl rfl (cmpE sr e3) rfl ?_
            refine sp W 0 rfl rfl rfl (fun e4 => ?_) (fun e4 => ?_)
            · refine cb W 0 rfl rfl rfl rfl (ks) rfl ?_
              refine rp W 0 rfl rfl rfl (.pr ⟨fun _ => trivial, fun _ => hu⟩)
            · exact absurd z2 e4
        · exact absurd z1 e1
      · skip
        refine ce W 0 rfl rfl (f1) rfl ?_
        refine ce W 0 rfl rfl (k0) rfl ?_
        refine sp W 0 rfl rfl rfl (fun d1 => ?_) (fun d1 => ?_)
        · exact absurd ⟨fun _ => fok, fun _ => f2⟩ d1
        refine sp W 0 rfl rfl rfl (fun d2 => ?_) (fun d2 => ?_)
        · exact absurd f2 d2
        refine phg W 0 8 [6, 7] rfl rfl (fun PW => ?_)
        refine pho PW 0 6 [] [fR 1, resR ((flZ r : Rat) + 1)] rfl rfl ⟨hi1.at rfl _, ka.at rfl _, trivial⟩ rfl rfl ?_
        refine pho PW 0 7 [] [fR 1, resR ((flZ r : Rat) + 1)] rfl rfl ⟨hi1.at rfl _, ka.at rfl _, trivial⟩ rfl rfl ?_
        refine phe PW 0 [] [] rfl trivial rfl ?_
        refine ce W 0 rfl rfl (kc1) rfl ?_
        refine sp W 0 rfl rfl rfl (fun e1 => ?_) (fun e1 => ?_)
        · refine sp W 0 rfl rfl rfl (fun e2 => ?_) (fun e2 => ?_)
          · refine cb W 0 rfl rfl rfl rfl (ks) rfl ?_
            refine rp W 0 rfl rfl rfl (.pr ⟨fun _ => trivial, fun _ => hu⟩)
          · skip
            have e3 := Classical.not_not.1 e2
            refine ce W 0 rfl rfl (cmpE sr e3) rfl ?_
            refine sp W 0 rfl rfl rfl (fun e4 => ?_) (fun e4 => ?_)
            · refine cb W 0 rfl rfl rfl rfl (ks) rfl ?_
              refine rp W 0 rfl rfl rfl (.pr ⟨fun _ => trivial, fun _ => hu⟩)
            · exact absurd z2 e4
        · exact absurd z1 e1
  · have kr := (implFracRoot_f p t u (by omega) (by omega)).fz rfl (by simp [AllC]) rfl
    rw [FRes.av, resF_no (fun k => h k.1)] at kr
    obtain ⟨P, T, U, ks⟩ := specFracRoot_any p t u (by omega) (by omega)
    obtain ⟨n1, -⟩ := mulNo (p := p) (q := p) (t := t) (u := u) (x := t) (y := u) (by omega) (by omega) (by omega) (by omega) (fun k => h k.1)
    have kf := (implFracFloor_f p t u (by omega) (by omega)).fz rfl (by simp [AllC]) rfl
    rw [FRes.av, resF_no h] at kf
    refine ce W 0 rfl rfl (kr) rfl ?_
    refine ce W 0 rfl rfl (ks) rfl ?_
    refine sp W 0 rfl rfl rfl (fun a1 => ?_) (fun a1 => ?_)
    · exact absurd (by simp [h]) a1
    refine sp W 0 rfl rfl rfl (fun a0 => ?_) (fun a0 => ?_)
    · exact absurd a0 id
    refine ce W 0 rfl rfl (n1) rfl ?_
    refine sp W 0 rfl rfl rfl (fun a2 => ?_) (fun a2 => ?_)
    · exact absurd a2 id
    refine ce W 0 rfl rfl (kf) rfl ?_
    refine ce W 0 rfl rfl (specFracOk_ok p t u (by omega) (by omega)) rfl ?_
    refine sp W 0 rfl rfl rfl (fun b1 => ?_) (fun b1 => ?_)
    · exact absurd ⟨False.elim, fun k => h k⟩ b1
    refine sp W 0 rfl rfl rfl (fun b2 => ?_) (fun b2 => ?_)
    · refine rp W 0 rfl rfl rfl (.pr ⟨fun _ => trivial, fun _ => id⟩)
    · exact absurd b2 (fun k => k id)
end Pf
