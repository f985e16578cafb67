/- Part 4 of the lemmas that the claim rests on: an abstract machine over the model, what it is sound for, and the contracts of the functions that the law reaches. -/
import Derived.Test.YtbginchbgejilaaA3
set_option linter.unusedSimpArgs false
set_option linter.unusedVariables false
set_option maxRecDepth 20000
set_option maxHeartbeats 4000000
/- Draws of fractions (l32) -/
namespace Pf
open Go Go.Proofs
theorem natM_ok (b : List Int) (p : Int) (hb : BytesOk b) (h0 : 0 ≤ p) (h1 : p ≤ 999990000) : AFunM Try.prog 58 [.ptr 0 0 0 0] [rdB b p] (RdQ b p 600 fun u => ∃ l, u = .fi .i64 l ∧ l.length ≤ 256) := by
  refine AFun.mono (nat32_ok b p hb h0 h1) ?_
  rintro v H ⟨q, l, a1, a2, a3, g, rfl, rfl⟩
  exact ⟨_, _, _, _, _, [rdB b q], rfl, by simp [AllC], .refl, rfl, rfl, trivial, ⟨rfl, trivial⟩, rfl, rfl, q, rfl, a1, a2, l, rfl, a3⟩
def RawV (u : AV) : Prop := ∃ l, u = .fi .i64 l ∧ l.length ≤ 258
theorem raw32_ok (b : List Int) (p : Int) (hb : BytesOk b) (h0 : 0 ≤ p) (h1 : p ≤ 999980000) : AFunM Try.prog 73 [.ptr 0 0 0 0] [rdB b p] (RdQ b p 700 RawV) := by
  refine afun_of Try.func73 Try.call73 rfl Try.ntmps73 rfl ?_
  have W : Walk Try.prog TT 73 _ := Walk.of TT_ok Try.func73 Try.results73
  refine go_call W 0 300 rfl trivial (nat32_ok b p hb h0 (by omega)) ?_
  rintro _ _ ⟨q, l, a1, a2, a3, g, rfl, rfl⟩
  refine ⟨_, rfl, ?_⟩
  refine cm W 0 [(0, 0)] rfl (pick32_ok b q 80 hb (by omega) (by omega) (by unfold InI; omega)) ⟨rfl, trivial⟩ rfl rfl rfl ?_
  rintro _ _ ⟨q1, rfl, q1a, q1b, k, rfl, ka, kb⟩
  refine ⟨_, _, rfl, rfl, ?_⟩
  refine sp W 0 rfl rfl rfl (fun c0 => ?_) (fun c0 => ?_)
  · refine rm W 0 [rdB b q1] rfl rfl rfl ⟨rfl, trivial⟩ rfl rfl (.fi .i64 (l ++ [0])) rfl (.refl) (⟨q1, rfl, by omega, by omega, _, rfl, by simp; omega⟩)
  refine sp W 0 rfl rfl rfl (fun c1 => ?_) (fun c1 => ?_)
  · refine rm W 0 [rdB b q1] rfl rfl rfl ⟨rfl, trivial⟩ rfl rfl (.fi .i64 (l ++ [65536])) rfl (.refl) (⟨q1, rfl, by omega, by omega, _, rfl, by simp; omega⟩)
  refine sp W 0 rfl rfl rfl (fun c2 => ?_) (fun c2 => ?_)
  · refine rm W 0 [rdB b q1] rfl rfl rfl ⟨rfl, trivial⟩ rfl rfl (.fi .i64 (l ++ [-1])) rfl (.refl) (⟨q1, rfl, by omega, by omega, _, rfl, by simp; omega⟩)
  refine sp W 0 rfl rfl rfl (fun c3 => ?_) (fun c3 => ?_)
  · refine lp W 0 (σ := Nat × List Int × Nat) (fun s => [(3, .sl 1 s.2.2 0 s.1)]) (fun s => [rdB b q1, .ints s.2.2 .i64 s.2.1]) (fun s => 300 - s.1) (fun s => s.2.1.length = s.1 ∧ s.1 ≤ 257) (l.length, l, g) [3] rfl rfl rfl ⟨rfl, by dsimp only; omega⟩ ?_
    rintro ⟨i, L, g2⟩ ⟨e1, e2⟩ ih
    dsimp only at e1 e2 ih ⊢
    refine sp W 0 rfl rfl rfl (fun d0 => ?_) (fun d0 => ?_)
    · refine bd W 0 2 [3] rfl rfl rfl rfl rfl (ih (i + 1, L ++ [1], g2 + 1) ⟨by simp; omega, by dsimp only; omega⟩ (by dsimp only; omega)) (hc := by simp only [AllC, addN, Int.toNat_natCast, true_and, and_true, eq_self, List.length_set, List.length_cons, List.length_nil, List.length_append, List.length_replicate, wrapU, pw1, pw7, pw8, pw16, pw23, pw32, pw52] <;> first | omega | ((repeat' apply And.intro) <;> first | omega | (intros; rfl)))
    · subst e1
      refine rm W 0 [rdB b q1] rfl rfl rfl ⟨rfl, trivial⟩ rfl rfl (.fi .i64 L) rfl (.refl) (⟨q1, rfl, by omega, by omega, _, rfl, by omega⟩)
  · refine rm W 0 [rdB b q1] rfl rfl rfl ⟨rfl, trivial⟩ rfl rfl (.fi .i64 l) rfl (.refl) (⟨q1, rfl, by omega, by omega, _, rfl, by omega⟩)
theorem fracOf32 (p : Prop) (t u : List Int) (ht : t.length ≤ 300) (hu : u.length ≤ 300) : ∃ ok p' t' d', AFunP Try.prog 59 [.pr p, .fi .i64 t, .fi .i64 u] (· = .tup [frF p' t' d', .pr ok]) ∧ t'.length ≤ 256 ∧ d'.length ≤ 256 := by
  by_cases h : natOk t ∧ natOk u ∧ u ≠ []
  · obtain ⟨h1, h2, h3⟩ := h
    obtain ⟨a, rfl, la⟩ := natOk_dig h1
    obtain ⟨c, rfl, lc⟩ := natOk_dig h2
    obtain ⟨ok, q, t', d', k, l1, l2, -⟩ := fracOf_any p a c (fun h => h3 (dig_nil.2 h)) la lc
    exact ⟨_, _, _, _, k, l1, l2⟩
  · refine ⟨False, False, [], [], ?_, by simp, by simp⟩
    refine afun_of Try.func59 Try.call59 rfl Try.ntmps59 rfl ?_
    have W : Walk Try.prog TT 59 _ := Walk.of TT_ok Try.func59 Try.results59
    refine ce W 0 rfl rfl (specNatOk_ok t (by omega)) rfl ?_
    refine sp W 0 rfl rfl rfl (fun h1 => ?_) (fun h1 => ?_)
    · refine rp W 0 rfl rfl rfl (sub_noF)
    refine ce W 0 rfl rfl (specNatOk_ok u (by omega)) rfl ?_
    refine sp W 0 rfl rfl rfl (fun h2 => ?_) (fun h2 => ?_)
    · refine rp W 0 rfl rfl rfl (sub_noF)
    refine sp W 0 rfl rfl rfl (fun h3 => ?_) (fun h3 => ?_)
    · refine rp W 0 rfl rfl rfl (sub_noF)
    · exact absurd ⟨Classical.not_not.1 h1, Classical.not_not.1 h2, fun k => h3 (by subst k; rfl)⟩ h
theorem specFracInt_any (n : Int) (hn : -100 ≤ n ∧ n ≤ 100) : AFunP Try.prog 60 [.int .i64 n] FracV := by
  obtain ⟨m, hm⟩ : ∃ m : Nat, (m : Int) = if n < 0 then -n else n := ⟨n.natAbs, by split <;> omega⟩
  have lm := dlen1 (m := m) (by split at hm <;> omega)
  have kn := specNatOf_ok m (by split at hm <;> omega)
  refine afun_of Try.func60 Try.call60 rfl Try.ntmps60 rfl ?_
  have W : Walk Try.prog TT 60 _ := Walk.of TT_ok Try.func60 Try.results60
  refine sp W 0 rfl rfl rfl (fun h1 => ?_) (fun h1 => ?_)
  · rw [if_pos h1] at hm
    have e1 : IntKind.u64.wrap (-(IntKind.u64.wrap n)) = (m : Int) := by simp only [wrapU]; omega
    rw [← e1] at kn
    refine ce W 1 rfl rfl (kn) rfl ?_
    refine rq W 0 rfl rfl (frF (n < 0) (dig m) [1]) (⟨_, _, _, rfl, by omega, by simp⟩) rfl .refl
  · rw [if_neg h1] at hm
    rw [hm] at kn
    refine ce W 0 rfl rfl (kn) rfl ?_
    refine rq W 0 rfl rfl (frF (n < 0) (dig m) [1]) (⟨_, _, _, rfl, by omega, by simp⟩) rfl .refl
theorem good32_ok (b : List Int) (p : Int) (hb : BytesOk b) (h0 : 0 ≤ p) (h1 : p ≤ 999970000) : AFunM Try.prog 29 [.ptr 0 0 0 0] [rdB b p] (RdQ b p 1300 FracV) := by
  refine afun_of Try.func29 Try.call29 rfl Try.ntmps29 rfl ?_
  have W : Walk Try.prog TT 29 _ := Walk.of TT_ok Try.func29 Try.results29
  refine cm W 0 [(0, 0)] rfl (natM_ok b p hb (by omega) (by omega)) ⟨rfl, trivial⟩ rfl rfl rfl ?_
  rintro _ _ ⟨p1, rfl, p1a, p1b, ⟨l, rfl, l0⟩⟩
  refine ⟨_, _, rfl, rfl, ?_⟩
  refine sp W 0 rfl rfl rfl (fun c0 => ?_) (fun c0 => ?_)
  · refine cm W 0 [(0, 0)] rfl (pick32_ok b p1 9 hb (by omega) (by omega) (by unfold InI; omega)) ⟨rfl, trivial⟩ rfl rfl rfl ?_
    rintro _ _ ⟨p2, rfl, p2a, p2b, y, rfl, ya, yb⟩
    refine ⟨_, _, rfl, rfl, ?_⟩
    refine cm W 0 [(0, 0)] rfl (pick32_ok b p2 2 hb (by omega) (by omega) (by unfold InI; omega)) ⟨rfl, trivial⟩ rfl rfl rfl ?_
    rintro _ _ ⟨pa, rfl, paa, pab, x, rfl, xa, xb⟩
    refine ⟨_, _, rfl, rfl, ?_⟩
    refine cm W 0 [(0, 0)] rfl (natM_ok b pa hb (by omega) (by omega)) ⟨rfl, trivial⟩ rfl rfl rfl ?_
    rintro _ _ ⟨pb, rfl, pba, pbb, ⟨m, rfl, m0⟩⟩
    refine ⟨_, _, rfl, rfl, ?_⟩
    obtain ⟨ok, q, t, d, kf, k1, k2⟩ := fracOf32 (x = 0) m [1 + y] (by omega) (by simp)
    refine cf W 0 [2] [0, 2] rfl rfl rfl rfl rfl rfl (kf) rfl ?_
    refine sp W 0 rfl rfl rfl (fun c5 => ?_) (fun c5 => ?_)
    · refine cm W 0 [(0, 0)] rfl (pick32_ok b pb 9 hb (by omega) (by omega) (by unfold InI; omega)) ⟨rfl, trivial⟩ rfl rfl rfl ?_
      rintro _ _ ⟨pz, rfl, pza, pzb, z, rfl, za, zb⟩
      refine ⟨_, _, rfl, rfl, ?_⟩
      refine cq W 0 rfl rfl (specFracInt_any (z - 4) (by omega)) ?_
      rintro _ ⟨q', t', d', rfl, m1, m2⟩
      refine ⟨_, rfl, ?_⟩
      refine rm W 0 [rdB b pz] rfl rfl rfl ⟨rfl, trivial⟩ rfl rfl (frF q' t' d') rfl (.refl) (⟨_, rfl, by omega, by omega, _, _, _, rfl, m1, m2⟩)
    · refine rm W 0 [rdB b pb] rfl rfl rfl ⟨rfl, trivial⟩ rfl rfl (frF q t d) rfl (.refl) (⟨_, rfl, by omega, by omega, _, _, _, rfl, k1, k2⟩)
  · refine cm W 0 [(0, 0)] rfl (pick32_ok b p1 3 hb (by omega) (by omega) (by unfold InI; omega)) ⟨rfl, trivial⟩ rfl rfl rfl ?_
    rintro _ _ ⟨p2, rfl, p2a, p2b, w, rfl, wa, wb⟩
    refine ⟨_, _, rfl, rfl, ?_⟩
    refine sp W 0 rfl rfl rfl (fun c1 => ?_) (fun c1 => ?_)
    · refine cm W 0 [(0, 0)] rfl (pick32_ok b p2 9 hb (by omega) (by omega) (by unfold InI; omega)) ⟨rfl, trivial⟩ rfl rfl rfl ?_
      rintro _ _ ⟨p3, rfl, p3a, p3b, y, rfl, ya, yb⟩
      refine ⟨_, _, rfl, rfl, ?_⟩
      refine cm W 0 [(0, 0)] rfl (pick32_ok b p3 2 hb (by omega) (by omega) (by unfold InI; omega)) ⟨rfl, trivial⟩ rfl rfl rfl ?_
      rintro _ _ ⟨pa, rfl, paa, pab, x, rfl, xa, xb⟩
      refine ⟨_, _, rfl, rfl, ?_⟩
      refine cm W 0 [(0, 0)] rfl (natM_ok b pa hb (by omega) (by omega)) ⟨rfl, trivial⟩ rfl rfl rfl ?_
      rintro _ _ ⟨pb, rfl, pba, pbb, ⟨m, rfl, m0⟩⟩
      refine ⟨_, _, rfl, rfl, ?_⟩
      obtain ⟨ok, q, t, d, kf, k1, k2⟩ := fracOf32 (x = 0) m [1 + y] (by omega) (by simp)
      refine cf W 0 [2] [0, 2] rfl rfl rfl rfl rfl rfl (kf) rfl ?_
      refine sp W 0 rfl rfl rfl (fun c5 => ?_) (fun c5 => ?_)
      · refine cm W 0 [(0, 0)] rfl (pick32_ok b pb 9 hb (by omega) (by omega) (by unfold InI; omega)) ⟨rfl, trivial⟩ rfl rfl rfl ?_
        rintro _ _ ⟨pz, rfl, pza, pzb, z, rfl, za, zb⟩
        refine ⟨_, _, rfl, rfl, ?_⟩
        refine cq W 0 rfl rfl (specFracInt_any (z - 4) (by omega)) ?_
        rintro _ ⟨q', t', d', rfl, m1, m2⟩
        refine ⟨_, rfl, ?_⟩
        refine rm W 0 [rdB b pz] rfl rfl rfl ⟨rfl, trivial⟩ rfl rfl (frF q' t' d') rfl (.refl) (⟨_, rfl, by omega, by omega, _, _, _, rfl, m1, m2⟩)
      · refine rm W 0 [rdB b pb] rfl rfl rfl ⟨rfl, trivial⟩ rfl rfl (frF q t d) rfl (.refl) (⟨_, rfl, by omega, by omega, _, _, _, rfl, k1, k2⟩)
    · skip
      refine cm W 0 [(0, 0)] rfl (pick32_ok b p2 2 hb (by omega) (by omega) (by unfold InI; omega)) ⟨rfl, trivial⟩ rfl rfl rfl ?_
      rintro _ _ ⟨pa, rfl, paa, pab, x, rfl, xa, xb⟩
      refine ⟨_, _, rfl, rfl, ?_⟩
      refine cm W 0 [(0, 0)] rfl (natM_ok b pa hb (by omega) (by omega)) ⟨rfl, trivial⟩ rfl rfl rfl ?_
      rintro _ _ ⟨pb, rfl, pba, pbb, ⟨m, rfl, m0⟩⟩
      refine ⟨_, _, rfl, rfl, ?_⟩
      obtain ⟨ok, q, t, d, kf, k1, k2⟩ := fracOf32 (x = 0) m l (by omega) (by omega)
      refine ce W 0 rfl rfl (kf) rfl ?_
      refine sp W 0 rfl rfl rfl (fun c5 => ?_) (fun c5 => ?_)
      · refine cm W 0 [(0, 0)] rfl (pick32_ok b pb 9 hb (by omega) (by omega) (by unfold InI; omega)) ⟨rfl, trivial⟩ rfl rfl rfl ?_
        rintro _ _ ⟨pz, rfl, pza, pzb, z, rfl, za, zb⟩
        refine ⟨_, _, rfl, rfl, ?_⟩
        refine cq W 0 rfl rfl (specFracInt_any (z - 4) (by omega)) ?_
        rintro _ ⟨q', t', d', rfl, m1, m2⟩
        refine ⟨_, rfl, ?_⟩
        refine rm W 0 [rdB b pz] rfl rfl rfl ⟨rfl, trivial⟩ rfl rfl (frF q' t' d') rfl (.refl) (⟨_, rfl, by omega, by omega, _, _, _, rfl, m1, m2⟩)
      · refine rm W 0 [rdB b pb] rfl rfl rfl ⟨rfl, trivial⟩ rfl rfl (frF q t d) rfl (.refl) (⟨_, rfl, by omega, by omega, _, _, _, rfl, k1, k2⟩)
def FracW (u : AV) : Prop := ∃ p t d, u = frF p t d ∧ t.length ≤ 300 ∧ d.length ≤ 300
theorem frac32_ok (b : List Int) (p : Int) (hb : BytesOk b) (h0 : 0 ≤ p) (h1 : p ≤ 999960000) : AFunM Try.prog 46 [.ptr 0 0 0 0] [rdB b p] (RdQ b p 2100 FracW) := by
  refine afun_of Try.func46 Try.call46 rfl Try.ntmps46 rfl ?_
  have W : Walk Try.prog TT 46 _ := Walk.of TT_ok Try.func46 Try.results46
  refine cm W 0 [(0, 0)] rfl (good32_ok b p hb (by omega) (by omega)) ⟨rfl, trivial⟩ rfl rfl rfl ?_
  rintro _ _ ⟨p1, rfl, p1a, p1b, ⟨q, t, d, rfl, l1, l2⟩⟩
  refine ⟨_, _, rfl, rfl, ?_⟩
  refine cm W 0 [(0, 0)] rfl (pick32_ok b p1 60 hb (by omega) (by omega) (by unfold InI; omega)) ⟨rfl, trivial⟩ rfl rfl rfl ?_
  rintro _ _ ⟨p2, rfl, p2a, p2b, k, rfl, ka, kb⟩
  refine ⟨_, _, rfl, rfl, ?_⟩
  refine sp W 0 rfl rfl rfl (fun c0 => ?_) (fun c0 => ?_)
  · refine rm W 0 [rdB b p2] rfl rfl rfl ⟨rfl, trivial⟩ rfl rfl (frF (¬ q) t d) rfl (.refl) (⟨p2, rfl, by omega, by omega, _, _, _, rfl, by omega, by omega⟩)
  refine sp W 0 rfl rfl rfl (fun c1 => ?_) (fun c1 => ?_)
  · refine rm W 0 [rdB b p2] rfl rfl rfl ⟨rfl, trivial⟩ rfl rfl (frF q t []) rfl (.agg ⟨.refl, .refl, .nils_fi, trivial⟩) (⟨p2, rfl, by omega, by omega, _, _, _, rfl, by omega, by simp⟩)
  refine sp W 0 rfl rfl rfl (fun c2 => ?_) (fun c2 => ?_)
  · refine rm W 0 [rdB b p2] rfl rfl rfl ⟨rfl, trivial⟩ rfl rfl (frF q ([0] ++ t) ([0] ++ d)) rfl (.refl) (⟨p2, rfl, by omega, by omega, _, _, _, rfl, by simp; omega, by simp; omega⟩)
  refine sp W 0 rfl rfl rfl (fun c3 => ?_) (fun c3 => ?_)
  · refine cm W 0 [(0, 0)] rfl (raw32_ok b p2 hb (by omega) (by omega)) ⟨rfl, trivial⟩ rfl rfl rfl ?_
    rintro _ _ ⟨p3, rfl, p3a, p3b, ⟨l, rfl, l3⟩⟩
    refine ⟨_, _, rfl, rfl, ?_⟩
    refine rm W 0 [rdB b p3] rfl rfl rfl ⟨rfl, trivial⟩ rfl rfl (frF q l d) rfl (.refl) (⟨p3, rfl, by omega, by omega, _, _, _, rfl, by omega, by omega⟩)
  · refine rm W 0 [rdB b p2] rfl rfl rfl ⟨rfl, trivial⟩ rfl rfl (frF q t d) rfl (.refl) (⟨p2, rfl, by omega, by omega, _, _, _, rfl, by omega, by omega⟩)
theorem l32Fracs_ok (b : List Int) (hb : ∀ x ∈ b, 0 ≤ x ∧ x ≤ 255) : AFunP Try.prog 27 [.fi .u8 b] (fun u => ∃ p t d q x y, u = .tup [frF p t d, frF q x y] ∧ t.length ≤ 300 ∧ d.length ≤ 300 ∧ x.length ≤ 300 ∧ y.length ≤ 300) := by
  refine afun_of Try.func27 Try.call27 rfl Try.ntmps27 rfl ?_
  have W : Walk Try.prog TT 27 _ := Walk.of TT_ok Try.func27 Try.results27
  refine cx W 0 rfl rfl (l32Open_ok b hb) (OpenQ.flat) ?_
  rintro _ _ ⟨rfl, c, rfl, hc⟩
  refine ⟨_, _, rfl, rfl, ?_⟩
  refine cm W 0 [(2, 0)] rfl (frac32_ok c 0 hc (by omega) (by omega)) ⟨rfl, trivial⟩ rfl rfl rfl ?_
  rintro _ _ ⟨p1, rfl, p1a, p1b, ⟨q1, t1, d1, rfl, l1, l2⟩⟩
  refine ⟨_, _, rfl, rfl, ?_⟩
  refine cm W 0 [(2, 0)] rfl (frac32_ok c p1 hc (by omega) (by omega)) ⟨rfl, trivial⟩ rfl rfl rfl ?_
  rintro _ _ ⟨p2, rfl, p2a, p2b, ⟨q2, t2, d2, rfl, l3, l4⟩⟩
  refine ⟨_, _, rfl, rfl, ?_⟩
  refine cm W 0 [(2, 0)] rfl (pick32_ok c p2 6 hc (by omega) (by omega) (by unfold InI; omega)) ⟨rfl, trivial⟩ rfl rfl rfl ?_
  rintro _ _ ⟨p3, rfl, p3a, p3b, ⟨k, rfl, k0, k1⟩⟩
  refine ⟨_, _, rfl, rfl, ?_⟩
  obtain ⟨q3, t3, d3, e3, m1, m2⟩ := resF_tup (frOk q1 t1 d1) (¬ q1 ∧ t1 ≠ []) t1 d1 (fun h => ⟨h.1.1, h.2.1.1⟩)
  have kn : AFunP Try.prog 57 [frF q1 t1 d1] (· = .tup [frF q3 t3 d3, .pr (frOk q1 t1 d1)]) := by
    have := specFracNeg_ok q1 t1 d1 (by omega) (by omega)
    rw [negR, e3] at this
    exact this
  refine sp W 0 rfl rfl rfl (fun c0 => ?_) (fun c0 => ?_)
  · refine ce W 0 rfl rfl (kn) rfl ?_
    refine phg W 0 3 [2] rfl rfl (fun PW => ?_)
    refine pho PW 0 2 [] [] rfl rfl trivial rfl rfl ?_
    refine phe PW 0 [] [] rfl trivial rfl ?_
    refine rq W 0 rfl rfl (.tup [frF q1 t1 d1, frF q3 t3 d3]) (⟨_, _, _, _, _, _, rfl, l1, l2, by omega, by omega⟩) rfl .refl
  · skip
    refine phg W 0 3 [2] rfl rfl (fun PW => ?_)
    refine pho PW 0 2 [] [] rfl rfl trivial rfl rfl ?_
    refine phe PW 0 [] [] rfl trivial rfl ?_
    refine rq W 0 rfl rfl (.tup [frF q1 t1 d1, frF q2 t2 d2]) (⟨_, _, _, _, _, _, rfl, l1, l2, l3, l4⟩) rfl .refl
theorem goodFrac_ok (b : List Int) (hb : ∀ x ∈ b, 0 ≤ x ∧ x ≤ 255) : AFunP Try.prog 7 [.fi .u8 b] FracW := by
  refine afun_of Try.func7 Try.call7 rfl Try.ntmps7 rfl ?_
  have W : Walk Try.prog TT 7 _ := Walk.of TT_ok Try.func7 Try.results7
  refine cx W 0 rfl rfl (l32Open_ok b hb) (OpenQ.flat) ?_
  rintro _ _ ⟨rfl, c, rfl, hc⟩
  refine ⟨_, _, rfl, rfl, ?_⟩
  refine cm W 0 [(1, 0)] rfl (good32_ok c 0 hc (by omega) (by omega)) ⟨rfl, trivial⟩ rfl rfl rfl ?_
  rintro _ _ ⟨p1, rfl, p1a, p1b, ⟨q1, t1, d1, rfl, l1, l2⟩⟩
  refine ⟨_, _, rfl, rfl, ?_⟩
  refine rq W 0 rfl rfl (frF q1 t1 d1) (⟨_, _, _, rfl, by omega, by omega⟩) rfl .refl
theorem drawFracCmp_ok (b : List Int) (hb : ∀ x ∈ b, 0 ≤ x ∧ x ≤ 255) : AFunP Try.prog 6 [.fi .u8 b] (fun u => ∃ p t d q x y, u = .tup [frF p t d, frF q x y] ∧ t.length ≤ 300 ∧ d.length ≤ 300 ∧ x.length ≤ 300 ∧ y.length ≤ 300) := by
  refine afun_of Try.func6 Try.call6 rfl Try.ntmps6 rfl ?_
  have W : Walk Try.prog TT 6 _ := Walk.of TT_ok Try.func6 Try.results6
  refine cq W 0 rfl rfl (l32Fracs_ok b hb) ?_
  rintro _ ⟨p, t, d, q, x, y, rfl, l1, l2, l3, l4⟩
  refine ⟨_, rfl, ?_⟩
  refine phg W 0 3 [2] rfl rfl (fun PW => ?_)
  refine pho PW 0 2 [] [] rfl rfl trivial rfl rfl ?_
  refine phe PW 0 [] [] rfl trivial rfl ?_
  refine rq W 0 rfl rfl (.tup [frF p t d, frF q x y]) (⟨_, _, _, _, _, _, rfl, l1, l2, l3, l4⟩) rfl .refl
theorem drawFracAdd_ok (b : List Int) (hb : ∀ x ∈ b, 0 ≤ x ∧ x ≤ 255) : AFunP Try.prog 14 [.fi .u8 b] (fun u => ∃ p t d q x y, u = .tup [frF p t d, frF q x y] ∧ t.length ≤ 300 ∧ d.length ≤ 300 ∧ x.length ≤ 300 ∧ y.length ≤ 300) := by
  refine afun_of Try.func14 Try.call14 rfl Try.ntmps14 rfl ?_
  have W : Walk Try.prog TT 14 _ := Walk.of TT_ok Try.func14 Try.results14
  refine cq W 0 rfl rfl (l32Fracs_ok b hb) ?_
  rintro _ ⟨p, t, d, q, x, y, rfl, l1, l2, l3, l4⟩
  refine ⟨_, rfl, ?_⟩
  refine phg W 0 3 [2] rfl rfl (fun PW => ?_)
  refine pho PW 0 2 [] [] rfl rfl trivial rfl rfl ?_
  refine phe PW 0 [] [] rfl trivial rfl ?_
  refine rq W 0 rfl rfl (.tup [frF p t d, frF q x y]) (⟨_, _, _, _, _, _, rfl, l1, l2, l3, l4⟩) rfl .refl
theorem drawFracRoot_ok (b : List Int) (hb : ∀ x ∈ b, 0 ≤ x ∧ x ≤ 255) : AFunP Try.prog 20 [.fi .u8 b] FracW := by
  refine afun_of Try.func20 Try.call20 rfl Try.ntmps20 rfl ?_
  have W : Walk Try.prog TT 20 _ := Walk.of TT_ok Try.func20 Try.results20
  refine cx W 0 rfl rfl (l32Open_ok b hb) (OpenQ.flat) ?_
  rintro _ _ ⟨rfl, c, rfl, hc⟩
  refine ⟨_, _, rfl, rfl, ?_⟩
  refine cm W 0 [(1, 0)] rfl (frac32_ok c 0 hc (by omega) (by omega)) ⟨rfl, trivial⟩ rfl rfl rfl ?_
  rintro _ _ ⟨p1, rfl, p1a, p1b, ⟨q1, t1, d1, rfl, l1, l2⟩⟩
  refine ⟨_, _, rfl, rfl, ?_⟩
  refine cm W 0 [(1, 0)] rfl (pick32_ok c p1 3 hc (by omega) (by omega) (by unfold InI; omega)) ⟨rfl, trivial⟩ rfl rfl rfl ?_
  rintro _ _ ⟨p3, rfl, p3a, p3b, ⟨k, rfl, k0, k1⟩⟩
  refine ⟨_, _, rfl, rfl, ?_⟩
  obtain ⟨ok2, q2, t2, d2, k2, m1, m2⟩ := fracMul_any q1 q1 t1 d1 t1 d1 (by omega) (by omega) (by omega) (by omega)
  refine sp W 0 rfl rfl rfl (fun c0 => ?_) (fun c0 => ?_)
  · refine ce W 0 rfl rfl (k2) rfl ?_
    refine sp W 0 rfl rfl rfl (fun c1 => ?_) (fun c1 => ?_)
    · refine rq W 0 rfl rfl (frF q2 t2 d2) (⟨_, _, _, rfl, by omega, by omega⟩) rfl .refl
    · refine rq W 0 rfl rfl (frF q1 t1 d1) (⟨_, _, _, rfl, by omega, by omega⟩) rfl .refl
  · refine rq W 0 rfl rfl (frF q1 t1 d1) (⟨_, _, _, rfl, by omega, by omega⟩) rfl .refl
end Pf
/- The law of FracOrder -/
namespace Pf
open Go Go.Proofs
theorem cmp_eq0 {r s : Rat} (h : cmpR r s = 0) : r = s := by
  unfold cmpR at h
  split at h
  · cases h
  · split at h
    · assumption
    · cases h
theorem cmp_sub (r s : Rat) : cmpR (r - s) 0 = cmpR r s := by
  have := cmpR_add (r - s) 0 s
  rw [Rat.sub_add_cancel, Rat.zero_add] at this
  exact this.symm
theorem fsgn_cmp (r : Rat) : fsgn (r < 0) (dt r) = cmpR r 0 := by
  unfold fsgn cmpR
  by_cases h : r < 0
  · rw [if_pos h, if_pos h]
  · rw [if_neg h, if_neg h]
    by_cases h0 : r = 0
    · rw [if_pos (dt_nil.2 h0), if_pos h0]
    · rw [if_neg (fun k => h0 (dt_nil.1 k)), if_neg h0]
theorem cmp_trans {r s t : Rat} (h : cmpR r s = cmpR s t) : cmpR r t = cmpR r s := by
  rcases (by have := cmpR_rng r s; omega : cmpR r s = -1 ∨ cmpR r s = 0 ∨ cmpR r s = 1) with e | e | e
  · have e2 : cmpR s t = -1 := by omega
    rw [e]
    have lt : ∀ {a b : Rat}, cmpR a b = -1 → a < b := fun {a b} h => by
      unfold cmpR at h
      split at h
      · assumption
      · split at h <;> cases h
    have h1 := lt e
    have h2 := lt e2
    have h3 : r < t := by
      refine Rat.not_le.1 fun k => ?_
      exact Rat.not_le.2 h2 (Rat.le_trans k (Rat.le_of_lt h1))
    unfold cmpR; rw [if_pos h3]
  · rw [e]
    have := cmp_eq0 e
    subst this
    rw [← h, e]
  · have e2 : cmpR s t = 1 := by omega
    rw [e]
    have lt : ∀ {a b : Rat}, cmpR a b = 1 → b < a := fun {a b} h => by
      unfold cmpR at h
      split at h
      · cases h
      · split at h
        · cases h
        · rename_i k1 k2; exact Rat.lt_of_le_of_ne (Rat.not_lt.1 k1) (Ne.symm k2)
    have h1 := lt e
    have h2 := lt e2
    have h3 : t < r := by
      refine Rat.not_le.1 fun k => ?_
      exact Rat.not_le.2 h1 (Rat.le_trans k (Rat.le_of_lt h2))
    unfold cmpR; rw [if_neg (Rat.not_lt.2 (Rat.le_of_lt h3)), if_neg (Rat.ne_of_gt h3)]
theorem fnFracOrder_law (b m : List Int) (hb : ∀ x ∈ b, 0 ≤ x ∧ x ≤ 255) (hm : ∀ x ∈ m, 0 ≤ x ∧ x ≤ 255) : AFunP Try.prog 3 [.fi .u8 b, .fi .u8 m] (· = .pr True) := by
  refine afun_of Try.func3 Try.call3 rfl Try.ntmps3 rfl ?_
  have W : Walk Try.prog TT 3 _ := Walk.of TT_ok Try.func3 Try.results3
  refine sp W 0 rfl rfl rfl (fun h1 => ?_) (fun h1 => ?_)
  · refine rp W 0 rfl rfl rfl (.yes trivial)
  refine sp W 0 rfl rfl rfl (fun h2 => ?_) (fun h2 => ?_)
  · refine rp W 0 rfl rfl rfl (.yes trivial)
  refine cq W 0 rfl rfl (drawFracCmp_ok b hb) ?_
  rintro _ ⟨p, t, u, q, x, y, rfl, lt, lu, lx, ly⟩
  refine ⟨_, rfl, ?_⟩
  refine cq W 0 rfl rfl (goodFrac_ok m hm) ?_
  rintro _ ⟨o, v, w, rfl, lv, lw⟩
  refine ⟨_, rfl, ?_⟩
  refine ce W 0 rfl rfl (implFracCmp_ok p t u q x y (by omega) (by omega) (by omega) (by omega)) rfl ?_
  refine ce W 0 rfl rfl (specFracCmp_ok p t u q x y (by omega) (by omega) (by omega) (by omega)) rfl ?_
  refine sp W 0 rfl rfl rfl (fun a1 => ?_) (fun a1 => ?_)
  · exact absurd rfl a1
  by_cases h : frOk p t u ∧ frOk q x y
  · obtain ⟨ra, sa, ea⟩ := frOk_ex h.1
    obtain ⟨rb, sb, eb⟩ := frOk_ex h.2
    obtain ⟨rfl, rfl, rfl⟩ := ea
    obtain ⟨rfl, rfl, rfl⟩ := eb
    have e1 : fcmpN (ra < 0) (dt ra) (db ra) (rb < 0) (dt rb) (db rb) = cmpR ra rb := by rw [fcmpN, if_pos h, rat_frR, rat_frR]
    have e2 : fcmpN (rb < 0) (dt rb) (db rb) (ra < 0) (dt ra) (db ra) = cmpR rb ra := by rw [fcmpN, if_pos ⟨h.2, h.1⟩, rat_frR, rat_frR]
    have kba := implFracCmp_ok (rb < 0) (dt rb) (db rb) (ra < 0) (dt ra) (db ra) (by omega) (by omega) (by omega) (by omega)
    rw [e2, cmpR_swap] at kba
    rw [e1]
    have hr := cmpR_rng ra rb
    refine sp W 0 rfl rfl rfl (fun a2 => ?_) (fun a2 => ?_)
    · refine ce W 0 rfl rfl (kba) rfl ?_
      refine sp W 0 rfl rfl rfl (fun a3 => ?_) (fun a3 => ?_)
      · exfalso; omega
      refine sp W 0 rfl rfl rfl (fun a4 => ?_) (fun a4 => ?_)
      · exfalso; omega
      have kS := subI sa sb
      by_cases hs : small (ra - rb)
      · have kg := implFracSign_ok (ra - rb < 0) (dt (ra - rb)) (db (ra - rb)) (by have := hs.1; omega) (by have := hs.2; omega)
        rw [if_pos (small_frOk hs), fsgn_cmp, cmp_sub] at kg
        refine cn W 0 rfl rfl rfl (kS.yes hs) ?_
        rintro _ _ ⟨rfl, rfl⟩
        refine ⟨_, _, rfl, rfl, ?_⟩
        refine sp W 0 rfl rfl rfl (fun d1 => ?_) (fun d1 => ?_)
        · refine cb W 0 rfl rfl rfl rfl (kg) rfl ?_
          refine sp W 0 rfl rfl rfl (fun d2 => ?_) (fun d2 => ?_)
          · exact absurd rfl d2
          · skip
            refine sp W 0 rfl rfl rfl (fun b1 => ?_) (fun b1 => ?_)
            · have e0 := cmp_eq0 b1
              refine ce W 0 rfl rfl (pwFrac_ok (ra < 0) (rb < 0) (dt ra) (db ra) (dt rb) (db rb) (by omega) (by omega)) rfl ?_
              refine sp W 0 rfl rfl rfl (fun b2 => ?_) (fun b2 => ?_)
              · exact absurd (by rw [e0]; exact ⟨Iff.rfl, rfl, rfl⟩) b2
              · skip
                refine ce W 0 rfl rfl (implFracCmp_ok (rb < 0) (dt rb) (db rb) o v w (by omega) (by omega) (by omega) (by omega)) rfl ?_
                refine sp W 0 rfl rfl rfl (fun b3 => ?_) (fun b3 => ?_)
                · refine rp W 0 rfl rfl rfl (.yes trivial)
                · have b3 := Classical.not_not.1 b3
                  refine ce W 0 rfl rfl (implFracCmp_ok (ra < 0) (dt ra) (db ra) o v w (by omega) (by omega) (by omega) (by omega)) rfl ?_
                  have hc : frOk o v w := by
                    refine Classical.byContradiction fun k => ?_
                    rw [fcmpN, if_neg (fun k2 => k k2.2)] at b3
                    omega
                  rw [fcmpN, if_pos ⟨h.2, hc⟩, rat_frR] at b3
                  have e3 := cmp_trans b3
                  refine rp W 0 rfl rfl rfl (.pr ⟨fun _ => trivial, fun _ => by rw [fcmpN, if_pos ⟨h.1, hc⟩, rat_frR, e3]⟩)
            · skip
              refine ce W 0 rfl rfl (implFracCmp_ok (rb < 0) (dt rb) (db rb) o v w (by omega) (by omega) (by omega) (by omega)) rfl ?_
              refine sp W 0 rfl rfl rfl (fun b3 => ?_) (fun b3 => ?_)
              · refine rp W 0 rfl rfl rfl (.yes trivial)
              · have b3 := Classical.not_not.1 b3
                refine ce W 0 rfl rfl (implFracCmp_ok (ra < 0) (dt ra) (db ra) o v w (by omega) (by omega) (by omega) (by omega)) rfl ?_
                have hc : frOk o v w := by
                  refine Classical.byContradiction fun k => ?_
                  rw [fcmpN, if_neg (fun k2 => k k2.2)] at b3
                  omega
                rw [fcmpN, if_pos ⟨h.2, hc⟩, rat_frR] at b3
                have e3 := cmp_trans b3
                refine rp W 0 rfl rfl rfl (.pr ⟨fun _ => trivial, fun _ => by rw [fcmpN, if_pos ⟨h.1, hc⟩, rat_frR, e3]⟩)
        · exact absurd trivial d1
      · refine ce W 0 rfl rfl (kS.no hs) rfl ?_
        refine sp W 0 rfl rfl rfl (fun b1 => ?_) (fun b1 => ?_)
        · have e0 := cmp_eq0 b1
          refine ce W 0 rfl rfl (pwFrac_ok (ra < 0) (rb < 0) (dt ra) (db ra) (dt rb) (db rb) (by omega) (by omega)) rfl ?_
          refine sp W 0 rfl rfl rfl (fun b2 => ?_) (fun b2 => ?_)
          · exact absurd (by rw [e0]; exact ⟨Iff.rfl, rfl, rfl⟩) b2
          · skip
            refine ce W 0 rfl rfl (implFracCmp_ok (rb < 0) (dt rb) (db rb) o v w (by omega) (by omega) (by omega) (by omega)) rfl ?_
            refine sp W 0 rfl rfl rfl (fun b3 => ?_) (fun b3 => ?_)
            · refine rp W 0 rfl rfl rfl (.yes trivial)
            · have b3 := Classical.not_not.1 b3
              refine ce W 0 rfl rfl (implFracCmp_ok (ra < 0) (dt ra) (db ra) o v w (by omega) (by omega) (by omega) (by omega)) rfl ?_
              have hc : frOk o v w := by
                refine Classical.byContradiction fun k => ?_
                rw [fcmpN, if_neg (fun k2 => k k2.2)] at b3
                omega
              rw [fcmpN, if_pos ⟨h.2, hc⟩, rat_frR] at b3
              have e3 := cmp_trans b3
              refine rp W 0 rfl rfl rfl (.pr ⟨fun _ => trivial, fun _ => by rw [fcmpN, if_pos ⟨h.1, hc⟩, rat_frR, e3]⟩)
        · skip
          refine ce W 0 rfl rfl (implFracCmp_ok (rb < 0) (dt rb) (db rb) o v w (by omega) (by omega) (by omega) (by omega)) rfl ?_
          refine sp W 0 rfl rfl rfl (fun b3 => ?_) (fun b3 => ?_)
          · refine rp W 0 rfl rfl rfl (.yes trivial)
          · have b3 := Classical.not_not.1 b3
            refine ce W 0 rfl rfl (implFracCmp_ok (ra < 0) (dt ra) (db ra) o v w (by omega) (by omega) (by omega) (by omega)) rfl ?_
            have hc : frOk o v w := by
              refine Classical.byContradiction fun k => ?_
              rw [fcmpN, if_neg (fun k2 => k k2.2)] at b3
              omega
            rw [fcmpN, if_pos ⟨h.2, hc⟩, rat_frR] at b3
            have e3 := cmp_trans b3
            refine rp W 0 rfl rfl rfl (.pr ⟨fun _ => trivial, fun _ => by rw [fcmpN, if_pos ⟨h.1, hc⟩, rat_frR, e3]⟩)
    · exfalso; omega
  · have e1 : fcmpN p t u q x y = 2 := by rw [fcmpN, if_neg h]
    rw [e1]
    refine sp W 0 rfl rfl rfl (fun a2 => ?_) (fun a2 => ?_)
    · exact absurd rfl a2
    · refine sp W 0 rfl rfl rfl (fun a3 => ?_) (fun a3 => ?_)
      · refine ce W 0 rfl rfl (specFracOk_ok p t u (by omega) (by omega)) rfl ?_
        refine sp W 0 rfl rfl rfl (fun a4 => ?_) (fun a4 => ?_)
        · refine rp W 0 rfl rfl rfl (.yes trivial)
        · refine ce W 0 rfl rfl (specFracOk_ok q x y (by omega) (by omega)) rfl ?_
          refine rp W 0 rfl rfl rfl (.pr ⟨fun _ => trivial, fun _ k => h ⟨Classical.not_not.1 a4, k⟩⟩)
      · exact absurd rfl a3
end Pf
/- The law of NumTop -/
namespace Pf
open Go Go.Proofs
/-- A fraction that was made; nothing, if it has too many digits. -/
def PR (z : Rat) : Prop := small z ∧ z < 0
open Classical in
noncomputable def TR (z : Rat) : List Int := if small z then dt z else []
open Classical in
noncomputable def UR (z : Rat) : List Int := if small z then db z else []
noncomputable abbrev fR (z : Rat) : AV := frF (PR z) (TR z) (UR z)
noncomputable abbrev resR (z : Rat) : AV := .tup [fR z, .pr (small z)]
theorem PR_eq {z : Rat} (h : small z) : PR z = (z < 0) := propext ⟨fun k => k.2, fun k => ⟨h, k⟩⟩
theorem TR_eq {z : Rat} (h : small z) : TR z = dt z := if_pos h
theorem UR_eq {z : Rat} (h : small z) : UR z = db z := if_pos h
theorem fR_eq {z : Rat} (h : small z) : fR z = frR z := by unfold fR; rw [PR_eq h, TR_eq h, UR_eq h]; rfl
theorem TR_len (z : Rat) : (TR z).length ≤ 256 := by unfold TR; split <;> simp_all [small]
theorem UR_len (z : Rat) : (UR z).length ≤ 256 := by unfold UR; split <;> simp_all [small]
theorem fR_frOk {z : Rat} (h : small z) : frOk (PR z) (TR z) (UR z) := by rw [PR_eq h, TR_eq h, UR_eq h]; exact small_frOk h
theorem fR_rat {z : Rat} (h : small z) : rat (PR z) (TR z) (UR z) = z := by rw [PR_eq h, TR_eq h, UR_eq h]; exact rat_frR z
theorem frOk_ex' {p : Prop} {t u : List Int} (h : frOk p t u) : ∃ r : Rat, small r ∧ p = PR r ∧ t = TR r ∧ u = UR r := by
  obtain ⟨r, h1, h2, h3, h4⟩ := frOk_ex h
  exact ⟨r, h1, by rw [PR_eq h1, h2], by rw [TR_eq h1, h3], by rw [UR_eq h1, h4]⟩
theorem av_ofRat {ok : Prop} {z : Rat} (ho : ok) : (FRes.ofRat ok z).av = resR z := by
  unfold FRes.av FRes.ofRat
  by_cases h : small z
  · rw [resF_yes ⟨ho, h⟩, resR, fR_eq h, eq_true h]; rfl
  · rw [resF_no (fun k => h k.2), resR]
    have e1 : PR z = False := eq_false (fun k => h k.1)
    have e2 : TR z = [] := if_neg h
    have e3 : UR z = [] := if_neg h
    rw [fR, e1, e2, e3, eq_false h]
theorem addE {r s : Rat} (hr : small r) (hs : small s) : AFunP Try.prog 15 [fR r, fR s] (· = resR (r + s)) := by
  have h1 := TR_len r; have h2 := UR_len r; have h3 := TR_len s; have h4 := UR_len s
  have h := (implFracAdd_f (PR r) (PR s) (TR r) (UR r) (TR s) (UR s) (by omega) (by omega) (by omega) (by omega)).fz rfl (by simp [AllC]) rfl
  rw [addS_rat (fR_frOk hr) (fR_frOk hs), fR_rat hr, fR_rat hs, av_ofRat ⟨fR_frOk hr, fR_frOk hs⟩] at h
  exact h
theorem mulE {r s : Rat} (hr : small r) (hs : small s) : AFunP Try.prog 17 [fR r, fR s] (· = resR (r * s)) := by
  have h1 := TR_len r; have h2 := UR_len r; have h3 := TR_len s; have h4 := UR_len s
  have h := (implFracMul_f (PR r) (PR s) (TR r) (UR r) (TR s) (UR s) (by omega) (by omega) (by omega) (by omega)).fz rfl (by simp [AllC]) rfl
  rw [mulS_rat (fR_frOk hr) (fR_frOk hs), fR_rat hr, fR_rat hs, av_ofRat ⟨fR_frOk hr, fR_frOk hs⟩] at h
  exact h
theorem subE {r s : Rat} (hr : small r) (hs : small s) : AFunP Try.prog 11 [fR r, fR s] (· = resR (r - s)) := by
  have h1 := TR_len r; have h2 := UR_len r; have h3 := TR_len s; have h4 := UR_len s
  have h := (implFracSub_f (PR r) (PR s) (TR r) (UR r) (TR s) (UR s) (by omega) (by omega) (by omega) (by omega)).fz rfl (by simp [AllC]) rfl
  rw [subS_rat (fR_frOk hr) (fR_frOk hs), fR_rat hr, fR_rat hs, av_ofRat ⟨fR_frOk hr, fR_frOk hs⟩] at h
  exact h
theorem divE {r s : Rat} (hr : small r) (hs : small s) (h0 : s ≠ 0) : AFunP Try.prog 19 [fR r, fR s] (· = resR (r / s)) := by
  have h1 := TR_len r; have h2 := UR_len r; have h3 := TR_len s; have h4 := UR_len s
  have h := (implFracDiv_f (PR r) (PR s) (TR r) (UR r) (TR s) (UR s) (by omega) (by omega) (by omega) (by omega)).fz rfl (by simp [AllC]) rfl
  have hn : TR s ≠ [] := by rw [TR_eq hs]; exact fun k => h0 (dt_nil.1 k)
  rw [divS_rat (fR_frOk hr) (fR_frOk hs) hn, fR_rat hr, fR_rat hs, av_ofRat ⟨fR_frOk hr, fR_frOk hs, hn⟩] at h
  exact h
theorem specAddE {r s : Rat} (hr : small r) (hs : small s) : AFunP Try.prog 16 [fR r, fR s] (· = resR (r + s)) := by
  have h1 := TR_len r; have h2 := UR_len r; have h3 := TR_len s; have h4 := UR_len s
  have h : AFunP Try.prog 16 [fR r, fR s] (· = (addS (PR r) (TR r) (UR r) (PR s) (TR s) (UR s)).av) := specFracAdd_ok _ _ _ _ _ _ (by omega) (by omega) (by omega) (by omega)
  rw [addS_rat (fR_frOk hr) (fR_frOk hs), fR_rat hr, fR_rat hs, av_ofRat ⟨fR_frOk hr, fR_frOk hs⟩] at h
  exact h
theorem specMulE {r s : Rat} (hr : small r) (hs : small s) : AFunP Try.prog 18 [fR r, fR s] (· = resR (r * s)) := by
  have h1 := TR_len r; have h2 := UR_len r; have h3 := TR_len s; have h4 := UR_len s
  have h : AFunP Try.prog 18 [fR r, fR s] (· = (mulS (PR r) (TR r) (UR r) (PR s) (TR s) (UR s)).av) := specFracMul_ok _ _ _ _ _ _ (by omega) (by omega) (by omega) (by omega)
  rw [mulS_rat (fR_frOk hr) (fR_frOk hs), fR_rat hr, fR_rat hs, av_ofRat ⟨fR_frOk hr, fR_frOk hs⟩] at h
  exact h
theorem signE {z : Rat} (h : small z) : AFunP Try.prog 12 [fR z] (· = .int .i64 (cmpR z 0)) := by
  have h1 := TR_len z; have h2 := UR_len z
  have k := implFracSign_ok (PR z) (TR z) (UR z) (by omega) (by omega)
  rw [if_pos (fR_frOk h)] at k
  rw [show cmpR z 0 = fsgn (PR z) (TR z) by rw [PR_eq h, TR_eq h, fsgn_cmp]]
  exact k
noncomputable abbrev noR : AV := .tup [frF False [] [], .pr False]
theorem addNo {p q : Prop} {t u x y : List Int} (ht : t.length ≤ 1048576) (hu : u.length ≤ 1048576) (hx : x.length ≤ 1048576) (hy : y.length ≤ 1048576) (h : ¬ (frOk p t u ∧ frOk q x y)) : AFunP Try.prog 15 [frF p t u, frF q x y] (· = noR) ∧ AFunP Try.prog 16 [frF p t u, frF q x y] (· = noR) := by
  have e : (addS p t u q x y).av = noR := resF_no (fun k => h k.1)
  have k1 := (implFracAdd_f p q t u x y ht hu hx hy).fz rfl (by simp [AllC]) rfl
  have k2 : AFunP Try.prog 16 [frF p t u, frF q x y] (· = (addS p t u q x y).av) := specFracAdd_ok _ _ _ _ _ _ ht hu hx hy
  rw [e] at k1 k2
  exact ⟨k1, k2⟩
theorem mulNo {p q : Prop} {t u x y : List Int} (ht : t.length ≤ 1048576) (hu : u.length ≤ 1048576) (hx : x.length ≤ 1048576) (hy : y.length ≤ 1048576) (h : ¬ (frOk p t u ∧ frOk q x y)) : AFunP Try.prog 17 [frF p t u, frF q x y] (· = noR) ∧ AFunP Try.prog 18 [frF p t u, frF q x y] (· = noR) := by
  have e : (mulS p t u q x y).av = noR := resF_no (fun k => h k.1)
  have k1 := (implFracMul_f p q t u x y ht hu hx hy).fz rfl (by simp [AllC]) rfl
  have k2 : AFunP Try.prog 18 [frF p t u, frF q x y] (· = (mulS p t u q x y).av) := specFracMul_ok _ _ _ _ _ _ ht hu hx hy
  rw [e] at k1 k2
  exact ⟨k1, k2⟩
theorem pwR (z : Rat) : AFunP Try.prog 13 [fR z, fR z] (· = .pr True) := by
  have h1 := TR_len z; have h2 := UR_len z
  have h := pwFrac_ok (PR z) (PR z) (TR z) (UR z) (TR z) (UR z) (by omega) (by omega)
  rw [eq_true (show (PR z ↔ PR z) ∧ TR z = TR z ∧ UR z = UR z from ⟨Iff.rfl, rfl, rfl⟩)] at h
  exact h
theorem pwNo : AFunP Try.prog 13 [frF False [] [], frF False [] []] (· = .pr True) := by
  have h := pwFrac_ok False False [] [] [] [] (by simp) (by simp)
  rw [eq_true (show (False ↔ False) ∧ ([] : List Int) = [] ∧ ([] : List Int) = [] from ⟨Iff.rfl, rfl, rfl⟩)] at h
  exact h
theorem fnNumTop_law (b m : List Int) (hb : ∀ x ∈ b, 0 ≤ x ∧ x ≤ 255) (hm : ∀ x ∈ m, 0 ≤ x ∧ x ≤ 255) : AFunP Try.prog 4 [.fi .u8 b, .fi .u8 m] (· = .pr True) := by
  refine afun_of Try.func4 Try.call4 rfl Try.ntmps4 rfl ?_
  have W : Walk Try.prog TT 4 _ := Walk.of TT_ok Try.func4 Try.results4
  refine sp W 0 rfl rfl rfl (fun h1 => ?_) (fun h1 => ?_)
  · refine rp W 0 rfl rfl rfl (.yes trivial)
  refine sp W 0 rfl rfl rfl (fun h2 => ?_) (fun h2 => ?_)
  · refine rp W 0 rfl rfl rfl (.yes trivial)
  refine cq W 0 rfl rfl (drawFracAdd_ok b hb) ?_
  rintro _ ⟨p, t, u, q, x, y, rfl, lt, lu, lx, ly⟩
  refine ⟨_, rfl, ?_⟩
  refine cq W 0 rfl rfl (goodFrac_ok m hm) ?_
  rintro _ ⟨o, v, w, rfl, lv, lw⟩
  refine ⟨_, rfl, ?_⟩
  by_cases h : frOk p t u ∧ frOk q x y
  · obtain ⟨A, sa, rfl, rfl, rfl⟩ := frOk_ex' h.1
    obtain ⟨B, sb, rfl, rfl, rfl⟩ := frOk_ex' h.2
    refine ce W 0 rfl rfl (addE sa sb) rfl ?_
    refine ce W 0 rfl rfl (specAddE sa sb) rfl ?_
    refine sp W 0 rfl rfl rfl (fun a1 => ?_) (fun a1 => ?_)
    · exact absurd Iff.rfl a1
    refine ce W 0 rfl rfl (pwR (A + B)) rfl ?_
    refine sp W 0 rfl rfl rfl (fun a2 => ?_) (fun a2 => ?_)
    · exact absurd trivial a2
    refine ce W 0 rfl rfl (mulE sa sb) rfl ?_
    refine ce W 0 rfl rfl (specMulE sa sb) rfl ?_
    refine sp W 0 rfl rfl rfl (fun a3 => ?_) (fun a3 => ?_)
    · exact absurd Iff.rfl a3
    refine ce W 0 rfl rfl (pwR (A * B)) rfl ?_
    refine sp W 0 rfl rfl rfl (fun a4 => ?_) (fun a4 => ?_)
    · exact absurd trivial a4
    refine sp W 0 rfl rfl rfl (fun a5 => ?_) (fun a5 => ?_)
    · refine rp W 0 rfl rfl rfl (.yes trivial)
    refine sp W 0 rfl rfl rfl (fun a6 => ?_) (fun a6 => ?_)
    · refine rp W 0 rfl rfl rfl (.yes trivial)
    have hs := Classical.not_not.1 a5
    have hp := Classical.not_not.1 a6
    have kb := addE sb sa
    rw [Rat.add_comm] at kb
    refine ce W 0 rfl rfl (kb) rfl ?_
    have km := mulE sb sa
    rw [Rat.mul_comm] at km
    refine ce W 0 rfl rfl (km) rfl ?_
    refine sp W 0 rfl rfl rfl (fun b1 => ?_) (fun b1 => ?_)
    · exact absurd hs b1
    refine sp W 0 rfl rfl rfl (fun b2 => ?_) (fun b2 => ?_)
    · exact absurd hp b2
    refine ce W 0 rfl rfl (pwR (A + B)) rfl ?_
    refine sp W 0 rfl rfl rfl (fun b3 => ?_) (fun b3 => ?_)
    · exact absurd trivial b3
    refine ce W 0 rfl rfl (pwR (A * B)) rfl ?_
    refine sp W 0 rfl rfl rfl (fun b4 => ?_) (fun b4 => ?_)
    · exact absurd trivial b4
    have ks := subE hs sb
    rw [Rat.add_sub_cancel] at ks
    refine ce W 0 rfl rfl (ks) rfl ?_
    refine sp W 0 rfl rfl rfl (fun b5 => ?_) (fun b5 => ?_)
    · exact absurd sa b5
    refine ce W 0 rfl rfl (pwR A) rfl ?_
    refine sp W 0 rfl rfl rfl (fun b6 => ?_) (fun b6 => ?_)
    · exact absurd trivial b6
    refine ce W 0 rfl rfl (signE sb) rfl ?_
    refine sp W 0 rfl rfl rfl (fun b7 => ?_) (fun b7 => ?_)
    · have hB : B ≠ 0 := fun k => b7 (by subst k; unfold cmpR; rw [if_neg Rat.lt_irrefl, if_pos rfl])
      have kq := divE hp sb hB
      rw [Rat.mul_div_cancel hB] at kq
      refine ce W 0 rfl rfl (kq) rfl ?_
      refine sp W 0 rfl rfl rfl (fun b8 => ?_) (fun b8 => ?_)
      · exact absurd sa b8
      refine ce W 0 rfl rfl (pwR A) rfl ?_
      refine sp W 0 rfl rfl rfl (fun b9 => ?_) (fun b9 => ?_)
      · exact absurd trivial b9
      by_cases hc : frOk o v w
      · obtain ⟨C, sc, rfl, rfl, rfl⟩ := frOk_ex' hc
        refine ce W 0 rfl rfl (addE sb sc) rfl ?_
        refine ce W 0 rfl rfl (mulE sb sc) rfl ?_
        refine ce W 0 rfl rfl (mulE sa sc) rfl ?_
        refine sp W 0 rfl rfl rfl (fun c1 => ?_) (fun c1 => ?_)
        · refine sp W 0 rfl rfl rfl (fun c2 => ?_) (fun c2 => ?_)
          · refine sp W 0 rfl rfl rfl (fun c3 => ?_) (fun c3 => ?_)
            · have hi := c1
              have hj := c2
              have hk := c3
              have kd1 := addE sa hi
              rw [← Rat.add_assoc] at kd1
              have kd2 := mulE sa hj
              rw [← Rat.mul_assoc] at kd2
              have kd3 := mulE sa hi
              have kd4 := addE hp hk
              rw [← Rat.mul_add] at kd4
              refine ce W 0 rfl rfl (addE hs sc) rfl ?_
              refine ce W 0 rfl rfl (kd1) rfl ?_
              refine sp W 0 rfl rfl rfl (fun g1 => ?_) (fun g1 => ?_)
              · exact absurd Iff.rfl g1
              refine sp W 0 rfl rfl rfl (fun g1' => ?_) (fun g1' => ?_)
              · refine ce W 0 rfl rfl (pwR (A + B + C)) rfl ?_
                refine sp W 0 rfl rfl rfl (fun g1'' => ?_) (fun g1'' => ?_)
                · exact absurd trivial g1''
                refine ce W 0 rfl rfl (mulE hp sc) rfl ?_
                refine ce W 0 rfl rfl (kd2) rfl ?_
                refine sp W 0 rfl rfl rfl (fun g2 => ?_) (fun g2 => ?_)
                · exact absurd Iff.rfl g2
                refine sp W 0 rfl rfl rfl (fun g2' => ?_) (fun g2' => ?_)
                · refine ce W 0 rfl rfl (pwR (A * B * C)) rfl ?_
                  refine sp W 0 rfl rfl rfl (fun g2'' => ?_) (fun g2'' => ?_)
                  · exact absurd trivial g2''
                  refine ce W 0 rfl rfl (kd3) rfl ?_
                  refine ce W 0 rfl rfl (kd4) rfl ?_
                  refine sp W 0 rfl rfl rfl (fun g3 => ?_) (fun g3 => ?_)
                  · exact absurd Iff.rfl g3
                  refine sp W 0 rfl rfl rfl (fun g3' => ?_) (fun g3' => ?_)
                  · refine ce W 0 rfl rfl (pwR (A * (B + C))) rfl ?_
                    refine sp W 0 rfl rfl rfl (fun g3'' => ?_) (fun g3'' => ?_)
                    · exact absurd trivial g3''
                    refine rp W 0 rfl rfl rfl (.yes trivial)
                  · skip
                    refine rp W 0 rfl rfl rfl (.yes trivial)
                · skip
                  refine ce W 0 rfl rfl (kd3) rfl ?_
                  refine ce W 0 rfl rfl (kd4) rfl ?_
                  refine sp W 0 rfl rfl rfl (fun g3 => ?_) (fun g3 => ?_)
                  · exact absurd Iff.rfl g3
                  refine sp W 0 rfl rfl rfl (fun g3' => ?_) (fun g3' => ?_)
                  · refine ce W 0 rfl rfl (pwR (A * (B + C))) rfl ?_
                    refine sp W 0 rfl rfl rfl (fun g3'' => ?_) (fun g3'' => ?_)
                    · exact absurd trivial g3''
                    refine rp W 0 rfl rfl rfl (.yes trivial)
                  · skip
                    refine rp W 0 rfl rfl rfl (.yes trivial)
              · skip
                refine ce W 0 rfl rfl (mulE hp sc) rfl ?_
                refine ce W 0 rfl rfl (kd2) rfl ?_
                refine sp W 0 rfl rfl rfl (fun g2 => ?_) (fun g2 => ?_)
                · exact absurd Iff.rfl g2
                refine sp W 0 rfl rfl rfl (fun g2' => ?_) (fun g2' => ?_)
                · refine ce W 0 rfl rfl (pwR (A * B * C)) rfl ?_
                  refine sp W 0 rfl rfl rfl (fun g2'' => ?_) (fun g2'' => ?_)
                  · exact absurd trivial g2''
                  refine ce W 0 rfl rfl (kd3) rfl ?_
                  refine ce W 0 rfl rfl (kd4) rfl ?_
                  refine sp W 0 rfl rfl rfl (fun g3 => ?_) (fun g3 => ?_)
                  · exact absurd Iff.rfl g3
                  refine sp W 0 rfl rfl rfl (fun g3' => ?_) (fun g3' => ?_)
                  · refine ce W 0 rfl rfl (pwR (A * (B + C))) rfl ?_
                    refine sp W 0 rfl rfl rfl (fun g3'' => ?_) (fun g3'' => ?_)
                    · exact absurd trivial g3''
                    refine rp W 0 rfl rfl rfl (.yes trivial)
                  · skip
                    refine rp W 0 rfl rfl rfl (.yes trivial)
                · skip
                  refine ce W 0 rfl rfl (kd3) rfl ?_
                  refine ce W 0 rfl rfl (kd4) rfl ?_
                  refine sp W 0 rfl rfl rfl (fun g3 => ?_) (fun g3 => ?_)
                  · exact absurd Iff.rfl g3
                  refine sp W 0 rfl rfl rfl (fun g3' => ?_) (fun g3' => ?_)
                  · refine ce W 0 rfl rfl (pwR (A * (B + C))) rfl ?_
                    refine sp W 0 rfl rfl rfl (fun g3'' => ?_) (fun g3'' => ?_)
                    · exact absurd trivial g3''
                    refine rp W 0 rfl rfl rfl (.yes trivial)
                  · skip
                    refine rp W 0 rfl rfl rfl (.yes trivial)
            · refine rp W 0 rfl rfl rfl (.yes trivial)
          · refine rp W 0 rfl rfl rfl (.yes trivial)
        · refine rp W 0 rfl rfl rfl (.yes trivial)
      · obtain ⟨n1, -⟩ := addNo (by have := TR_len B; omega) (by have := UR_len B; omega) (by omega) (by omega) (fun k : frOk (PR B) (TR B) (UR B) ∧ frOk o v w => hc k.2)
        obtain ⟨n2, -⟩ := mulNo (by have := TR_len B; omega) (by have := UR_len B; omega) (by omega) (by omega) (fun k : frOk (PR B) (TR B) (UR B) ∧ frOk o v w => hc k.2)
        obtain ⟨n3, -⟩ := mulNo (by have := TR_len A; omega) (by have := UR_len A; omega) (by omega) (by omega) (fun k : frOk (PR A) (TR A) (UR A) ∧ frOk o v w => hc k.2)
        refine ce W 0 rfl rfl (n1) rfl ?_
        refine ce W 0 rfl rfl (n2) rfl ?_
        refine ce W 0 rfl rfl (n3) rfl ?_
        refine sp W 0 rfl rfl rfl (fun c1 => ?_) (fun c1 => ?_)
        · exact absurd c1 id
        · refine rp W 0 rfl rfl rfl (.yes trivial)
    · skip
      by_cases hc : frOk o v w
      · obtain ⟨C, sc, rfl, rfl, rfl⟩ := frOk_ex' hc
        refine ce W 0 rfl rfl (addE sb sc) rfl ?_
        refine ce W 0 rfl rfl (mulE sb sc) rfl ?_
        refine ce W 0 rfl rfl (mulE sa sc) rfl ?_
        refine sp W 0 rfl rfl rfl (fun c1 => ?_) (fun c1 => ?_)
        · refine sp W 0 rfl rfl rfl (fun c2 => ?_) (fun c2 => ?_)
          · refine sp W 0 rfl rfl rfl (fun c3 => ?_) (fun c3 => ?_)
            · have hi := c1
              have hj := c2
              have hk := c3
              have kd1 := addE sa hi
              rw [← Rat.add_assoc] at kd1
              have kd2 := mulE sa hj
              rw [← Rat.mul_assoc] at kd2
              have kd3 := mulE sa hi
              have kd4 := addE hp hk
              rw [← Rat.mul_add] at kd4
              refine ce W 0 rfl rfl (addE hs sc) rfl ?_
              refine ce W 0 rfl rfl (kd1) rfl ?_
              refine sp W 0 rfl rfl rfl (fun g1 => ?_) (fun g1 => ?_)
              · exact absurd Iff.rfl g1
              refine sp W 0 rfl rfl rfl (fun g1' => ?_) (fun g1' => ?_)
              · refine ce W 0 rfl rfl (pwR (A + B + C)) rfl ?_
                refine sp W 0 rfl rfl rfl (fun g1'' => ?_) (fun g1'' => ?_)
                · exact absurd trivial g1''
                refine ce W 0 rfl rfl (mulE hp sc) rfl ?_
                refine ce W 0 rfl rfl (kd2) rfl ?_
                refine sp W 0 rfl rfl rfl (fun g2 => ?_) (fun g2 => ?_)
                · exact absurd Iff.rfl g2
                refine sp W 0 rfl rfl rfl (fun g2' => ?_) (fun g2' => ?_)
                · refine ce W 0 rfl rfl (pwR (A * B * C)) rfl ?_
                  refine sp W 0 rfl rfl rfl (fun g2'' => ?_) (fun g2'' => ?_)
                  · exact absurd trivial g2''
                  refine ce W 0 rfl rfl (kd3) rfl ?_
                  refine ce W 0 rfl rfl (kd4) rfl ?_
                  refine sp W 0 rfl rfl rfl (fun g3 => ?_) (fun g3 => ?_)
                  · exact absurd Iff.rfl g3
                  refine sp W 0 rfl rfl rfl (fun g3' => ?_) (fun g3' => ?_)
                  · refine ce W 0 rfl rfl (pwR (A * (B + C))) rfl ?_
                    refine sp W 0 rfl rfl rfl (fun g3'' => ?_) (fun g3'' => ?_)
                    · exact absurd trivial g3''
                    refine rp W 0 rfl rfl rfl (.yes trivial)
                  · skip
                    refine rp W 0 rfl rfl rfl (.yes trivial)
                · skip
                  refine ce W 0 rfl rfl (kd3) rfl ?_
                  refine ce W 0 rfl rfl (kd4) rfl ?_
                  refine sp W 0 rfl rfl rfl (fun g3 => ?_) (fun g3 => ?_)
                  · exact absurd Iff.rfl g3
                  refine sp W 0 rfl rfl rfl (fun g3' => ?_) (fun g3' => ?_)
                  · refine ce W 0 rfl rfl (pwR (A * (B + C))) rfl ?_
                    refine sp W 0 rfl rfl rfl (fun g3'' => ?_) (fun g3'' => ?_)
                    · exact absurd trivial g3''
                    refine rp W 0 rfl rfl rfl (.yes trivial)
                  · skip
                    refine rp W 0 rfl rfl rfl (.yes trivial)
              · skip
                refine ce W 0 rfl rfl (mulE hp sc) rfl ?_
                refine ce W 0 rfl rfl (kd2) rfl ?_
                refine sp W 0 rfl rfl rfl (fun g2 => ?_) (fun g2 => ?_)
                · exact absurd Iff.rfl g2
                refine sp W 0 rfl rfl rfl (fun g2' => ?_) (fun g2' => ?_)
                · refine ce W 0 rfl rfl (pwR (A * B * C)) rfl ?_
                  refine sp W 0 rfl rfl rfl (fun g2'' => ?_) (fun g2'' => ?_)
                  · exact absurd trivial g2''
                  refine ce W 0 rfl rfl (kd3) rfl ?_
                  refine ce W 0 rfl rfl (kd4) rfl ?_
                  refine sp W 0 rfl rfl rfl (fun g3 => ?_) (fun g3 => ?_)
                  · exact absurd Iff.rfl g3
                  refine sp W 0 rfl rfl rfl (fun g3' => ?_) (fun g3' => ?_)
                  · refine ce W 0 rfl rfl (pwR (A * (B + C))) rfl ?_
                    refine sp W 0 rfl rfl rfl (fun g3'' => ?_) (fun g3'' => ?_)
                    · exact absurd trivial g3''
                    refine rp W 0 rfl rfl rfl (.yes trivial)
                  · skip
                    refine rp W 0 rfl rfl rfl (.yes trivial)
                · skip
                  refine ce W 0 rfl rfl (kd3) rfl ?_
                  refine ce W 0 rfl rfl (kd4) rfl ?_
                  refine sp W 0 rfl rfl rfl (fun g3 => ?_) (fun g3 => ?_)
                  · exact absurd Iff.rfl g3
                  refine sp W 0 rfl rfl rfl (fun g3' => ?_) (fun g3' => ?_)
                  · refine ce W 0 rfl rfl (pwR (A * (B + C))) rfl ?_
                    refine sp W 0 rfl rfl rfl (fun g3'' => ?_) (fun g3'' => ?_)
                    · exact absurd trivial g3''
                    refine rp W 0 rfl rfl rfl (.yes trivial)
                  · skip
                    refine rp W 0 rfl rfl rfl (.yes trivial)
            · refine rp W 0 rfl rfl rfl (.yes trivial)
          · refine rp W 0 rfl rfl rfl (.yes trivial)
        · refine rp W 0 rfl rfl rfl (.yes trivial)
      · obtain ⟨n1, -⟩ := addNo (by have := TR_len B; omega) (by have := UR_len B; omega) (by omega) (by omega) (fun k : frOk (PR B) (TR B) (UR B) ∧ frOk o v w => hc k.2)
        obtain ⟨n2, -⟩ := mulNo (by have := TR_len B; omega) (by have := UR_len B; omega) (by omega) (by omega) (fun k : frOk (PR B) (TR B) (UR B) ∧ frOk o v w => hc k.2)
        obtain ⟨n3, -⟩ := mulNo (by have := TR_len A; omega) (by have := UR_len A; omega) (by omega) (by omega) (fun k : frOk (PR A) (TR A) (UR A) ∧ frOk o v w => hc k.2)
        refine ce W 0 rfl rfl (n1) rfl ?_
        refine ce W 0 rfl rfl (n2) rfl ?_
        refine ce W 0 rfl rfl (n3) rfl ?_
        refine sp W 0 rfl rfl rfl (fun c1 => ?_) (fun c1 => ?_)
        · exact absurd c1 id
        · refine rp W 0 rfl rfl rfl (.yes trivial)
  · obtain ⟨k1, k2⟩ := addNo (by omega) (by omega) (by omega) (by omega) h
    obtain ⟨k3, k4⟩ := mulNo (by omega) (by omega) (by omega) (by omega) h
    refine ce W 0 rfl rfl (k1) rfl ?_
    refine ce W 0 rfl rfl (k2) rfl ?_
    refine sp W 0 rfl rfl rfl (fun a1 => ?_) (fun a1 => ?_)
    · exact absurd Iff.rfl a1
    refine ce W 0 rfl rfl (pwNo) rfl ?_
    refine sp W 0 rfl rfl rfl (fun a2 => ?_) (fun a2 => ?_)
    · exact absurd trivial a2
    refine ce W 0 rfl rfl (k3) rfl ?_
    refine ce W 0 rfl rfl (k4) rfl ?_
    refine sp W 0 rfl rfl rfl (fun a3 => ?_) (fun a3 => ?_)
    · exact absurd Iff.rfl a3
    refine ce W 0 rfl rfl (pwNo) rfl ?_
    refine sp W 0 rfl rfl rfl (fun a4 => ?_) (fun a4 => ?_)
    · exact absurd trivial a4
    refine sp W 0 rfl rfl rfl (fun a5 => ?_) (fun a5 => ?_)
    · refine rp W 0 rfl rfl rfl (.yes trivial)
    · exact absurd a5 (by simp)
end Pf
