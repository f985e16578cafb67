/- Part 4 of the lemmas that the claim rests on: an abstract machine over the model, what it is sound for, and the contracts of the functions that the law reaches. -/
import Derived.Test.YtnfolpmgecpplaaGreatDoorA3
set_option linter.unusedSimpArgs false
set_option linter.unusedVariables false
set_option maxHeartbeats 4000000
/- Slopes: the layer's methods -/
namespace Pf
open Go Go.Proofs
/-- The places of nodes, as a map. -/
def mpK : Nat → List Gn → List (MKey × Int)
  | _, [] => []
  | k, y :: l => (gk y, (k : Int)) :: mpK (k + 1) l
def mpi (N : List Gn) : List (MKey × Int) := mpK 0 N
theorem mpK_get {x : Gn} : ∀ {l : List Gn} {k : Nat}, x ∈ l → mget (mpK k l) (gk x) = ((k + idxG l x : Nat) : Int)
  | [], _, h => by simp at h
  | y :: l, k, h => by
    simp only [mpK, mget, idxG]
    by_cases e : y = x
    · subst e; simp
    · have e2 : ¬ gk x = gk y := fun q => e (gk_inj q).symm
      rw [if_neg e2, if_neg e]
      have hm : x ∈ l := by
        rcases List.mem_cons.1 h with h | h
        · exact absurd h.symm e
        · exact h
      rw [mpK_get hm]
      congr 1; omega
theorem mpK_mem {x : Gn} : ∀ {l : List Gn} {k : Nat}, gk x ∈ (mpK k l).map Prod.fst ↔ x ∈ l
  | [], _ => by simp [mpK]
  | y :: l, k => by
    simp only [mpK, List.map_cons, List.mem_cons]
    rw [mpK_mem]
    constructor
    · rintro (h | h)
      · exact .inl (gk_inj h)
      · exact .inr h
    · rintro (h | h)
      · exact .inl (by rw [h])
      · exact .inr h
theorem mpK_put {x : Gn} : ∀ {l : List Gn} {k : Nat}, x ∉ l → mput (mpK k l) (gk x) ((k + l.length : Nat) : Int) = mpK k (l ++ [x])
  | [], k, _ => by simp [mpK, mput]
  | y :: l, k, h => by
    simp only [mpK, mput, List.cons_append]
    rw [if_neg fun q => h (by rw [gk_inj q]; exact List.mem_cons_self ..)]
    have := mpK_put (x := x) (l := l) (k := k + 1) fun q => h (List.mem_cons_of_mem _ q)
    rw [← this, List.length_cons]
    congr 2; omega
theorem mpi_get {x : Gn} {N : List Gn} (h : x ∈ N) : mget (mpi N) (gk x) = (idxG N x : Nat) := by
  unfold mpi; rw [mpK_get h]; congr 1; omega
theorem mpi_mem {x : Gn} {N : List Gn} : gk x ∈ (mpi N).map Prod.fst ↔ x ∈ N := mpK_mem
theorem mpi_put {x : Gn} {N : List Gn} (h : x ∉ N) : mput (mpi N) (gk x) (N.length : Nat) = mpi (N ++ [x]) := by
  have := mpK_put (k := 0) h
  rw [Nat.zero_add] at this
  exact this
theorem addNz (k : Nat) : addN 0 k = k := by cases k <;> rfl
theorem gnR_app (N : List Gn) (x : Gn) (j : Nat) (hj : j < N.length + 1) : mrgL (j < N.length) (gnR N j) [.int .i64 x.k, .int .i64 x.a, .int .i64 x.b, .int .i64 x.n, .str x.t] = gnR (N ++ [x]) j := by
  unfold gnR
  by_cases h : j < N.length
  · have e : (N ++ [x]).getD j g0 = N.getD j g0 := by rw [List.getD_eq_getElem?_getD, List.getElem?_append_left h, ← List.getD_eq_getElem?_getD]
    rw [e]
    simp [mrgL, mrg, h]
  · have hj : j = N.length := by omega
    subst hj
    have e : (N ++ [x]).getD N.length g0 = x := by simp [List.getD_eq_getElem?_getD]
    rw [e]
    simp [mrgL, mrg]
/-- A layer in memory: itself, its nodes, their places. -/
abbrev shG : Option (List Bool) := some [false, false, false, false, true]
def LayS (N : List Gn) (F : Bool) (g : Nat) : AHeap := [.lst 0 [[.sl 1 g 0 N.length, .mp 2, .bool F]], .tab g N.length (gnR N), .mp false shG (mpi N)]
def LayQ (r : Int × List Gn × Bool) (u : AV) (H : AHeap) : Prop := ∃ g', u = .int .i64 r.1 ∧ H = LayS r.2.1 r.2.2 g'
theorem is_ok (a : Int) (s : List UInt8) (N : List Gn) (F : Bool) (g : Nat) (ha : 0 ≤ a) (hN : N.length ≤ 120) : AFun Tryz.prog 79 [.ptr 0 0 0 0, .int .i64 a, .str s] (LayS N F g) (fun u H => u = .pr (a < N.length ∧ N.getD a.toNat g0 = numG s) ∧ H = LayS N F g) := by
  refine AFun.trim 3 ?_ (by simp [LayS])
  refine afun_of Tryz.func79 Tryz.call79 rfl Tryz.ntmps79 rfl ?_
  have W : Walk Tryz.prog TT 79 _ := Walk.of TT_ok Tryz.func79 Tryz.results79
  refine sp W 0 rfl rfl rfl (fun h1 => ?_) (fun h1 => ?_)
  · refine go_retS W 0 300 3 rfl (by first | exact True.intro | (simp only [AllC, AllP, addN, Int.toNat_natCast, true_and, and_true, Option.getD, List.length_set, wrapU, pw1, pw7, pw8, pw16, pw23, pw32, pw52, Holds] <;> first | omega | ((repeat' apply And.intro) <;> first | omega | (intros; rfl))) | (simp [AllC, AllP, addN, cloL, clo, mrgL, mrg, wrapU, Holds] <;> omega)) rfl (by first | exact True.intro | (simp only [AllC, AllP, addN, Int.toNat_natCast, true_and, and_true, Option.getD, List.length_set, wrapU, pw1, pw7, pw8, pw16, pw23, pw32, pw52, Holds] <;> first | omega | ((repeat' apply And.intro) <;> first | omega | (intros; rfl))) | (simp [AllC, AllP, addN, cloL, clo, mrgL, mrg, wrapU, Holds] <;> omega)) (.pr (a < N.length ∧ N.getD a.toNat g0 = numG s)) (.pr ?_) rfl ⟨rfl, rfl⟩
    rw [addNz]
    constructor
    · intro h; exact ⟨h1, gk_inj (y := numG s) h⟩
    · intro h; rw [h.2]
  · refine go_retS W 0 300 3 rfl (by first | exact True.intro | (simp only [AllC, AllP, addN, Int.toNat_natCast, true_and, and_true, Option.getD, List.length_set, wrapU, pw1, pw7, pw8, pw16, pw23, pw32, pw52, Holds] <;> first | omega | ((repeat' apply And.intro) <;> first | omega | (intros; rfl))) | (simp [AllC, AllP, addN, cloL, clo, mrgL, mrg, wrapU, Holds] <;> omega)) rfl (by first | exact True.intro | (simp only [AllC, AllP, addN, Int.toNat_natCast, true_and, and_true, Option.getD, List.length_set, wrapU, pw1, pw7, pw8, pw16, pw23, pw32, pw52, Holds] <;> first | omega | ((repeat' apply And.intro) <;> first | omega | (intros; rfl))) | (simp [AllC, AllP, addN, cloL, clo, mrgL, mrg, wrapU, Holds] <;> omega)) (.pr (a < N.length ∧ N.getD a.toNat g0 = numG s)) (.no (fun k => h1 k.1)) rfl ⟨rfl, rfl⟩
theorem lay_ok (x : Gn) (N : List Gn) (F : Bool) (g : Nat) (hN : N.length ≤ 120) : AFun Tryz.prog 38 [.ptr 0 0 0 0, gnV x] (LayS N F g) (LayQ (runI (.put x .ret) N F)) := by
  unfold gnV
  refine AFun.trim 3 ?_ (by simp [LayS])
  refine afun_of Tryz.func38 Tryz.call38 rfl Tryz.ntmps38 rfl ?_
  have W : Walk Tryz.prog TT 38 _ := Walk.of TT_ok Tryz.func38 Tryz.results38
  refine dre W 0 10 [] [] rfl rfl rfl trivial rfl ?_
  refine sp W 0 rfl rfl rfl (fun h1 => ?_) (fun h1 => ?_)
  · have hx : x ∈ N := mpi_mem.1 h1
    have e : runI (.put x .ret) N F = (((idxG N x : Nat) : Int), N, F) := by simp only [runI]; rw [if_pos hx]
    rw [e]
    refine go_retS W 0 300 3 rfl (by first | exact True.intro | (simp only [AllC, AllP, addN, Int.toNat_natCast, true_and, and_true, Option.getD, List.length_set, wrapU, pw1, pw7, pw8, pw16, pw23, pw32, pw52, Holds] <;> first | omega | ((repeat' apply And.intro) <;> first | omega | (intros; rfl))) | (simp [AllC, AllP, addN, cloL, clo, mrgL, mrg, wrapU, Holds] <;> omega)) rfl (by first | exact True.intro | (simp only [AllC, AllP, addN, Int.toNat_natCast, true_and, and_true, Option.getD, List.length_set, wrapU, pw1, pw7, pw8, pw16, pw23, pw32, pw52, Holds] <;> first | omega | ((repeat' apply And.intro) <;> first | omega | (intros; rfl))) | (simp [AllC, AllP, addN, cloL, clo, mrgL, mrg, wrapU, Holds] <;> omega)) (.int .i64 (idxG N x : Nat)) (.int (mpi_get hx)) rfl ⟨g, rfl, rfl⟩
  have hx : x ∉ N := fun k => h1 (mpi_mem.2 k)
  refine sp W 0 rfl rfl rfl (fun h2 => ?_) (fun h2 => ?_)
  · have e : runI (.put x .ret) N F = (0, N, true) := by simp only [runI]; rw [if_neg hx, if_pos (by omega)]
    rw [e]
    refine go_retS W 0 300 3 rfl (by first | exact True.intro | (simp only [AllC, AllP, addN, Int.toNat_natCast, true_and, and_true, Option.getD, List.length_set, wrapU, pw1, pw7, pw8, pw16, pw23, pw32, pw52, Holds] <;> first | omega | ((repeat' apply And.intro) <;> first | omega | (intros; rfl))) | (simp [AllC, AllP, addN, cloL, clo, mrgL, mrg, wrapU, Holds] <;> omega)) rfl (by first | exact True.intro | (simp only [AllC, AllP, addN, Int.toNat_natCast, true_and, and_true, Option.getD, List.length_set, wrapU, pw1, pw7, pw8, pw16, pw23, pw32, pw52, Holds] <;> first | omega | ((repeat' apply And.intro) <;> first | omega | (intros; rfl))) | (simp [AllC, AllP, addN, cloL, clo, mrgL, mrg, wrapU, Holds] <;> omega)) (.int .i64 0) .refl rfl ⟨g, rfl, rfl⟩
  · have e : runI (.put x .ret) N F = (((N.length : Nat) : Int), N ++ [x], F) := by simp only [runI]; rw [if_neg hx, if_neg (by omega)]
    rw [e]
    refine phg W 0 8 [6, 7] rfl rfl (fun PW => ?_)
    refine pho PW 0 6 [] [] rfl rfl trivial rfl rfl ?_
    refine pho PW 0 7 [] [] rfl rfl trivial rfl rfl ?_
    refine phe PW 0 [] [] rfl trivial rfl ?_
    refine go_tab 1 (N.length + 1) (gnR (N ++ [x])) rfl rfl rfl (by rw [addNz]; exact Nat.le_refl _) (fun j hj => ?_) (.inl rfl) ?_
    · rw [addNz]
      exact (gnR_app N x j hj).symm
    refine dre W 0 11 [] [] rfl rfl rfl trivial rfl ?_
    have e2 : ((N.length + 1 : Nat) : Int) - 1 = (N.length : Nat) := by omega
    refine go_retS W 0 300 3 rfl (by first | exact True.intro | (simp only [AllC, AllP, addN, Int.toNat_natCast, true_and, and_true, Option.getD, List.length_set, wrapU, pw1, pw7, pw8, pw16, pw23, pw32, pw52, Holds] <;> first | omega | ((repeat' apply And.intro) <;> first | omega | (intros; rfl))) | (simp [AllC, AllP, addN, cloL, clo, mrgL, mrg, wrapU, Holds] <;> omega)) rfl (by first | exact True.intro | (simp only [AllC, AllP, addN, Int.toNat_natCast, true_and, and_true, Option.getD, List.length_set, wrapU, pw1, pw7, pw8, pw16, pw23, pw32, pw52, Holds] <;> first | omega | ((repeat' apply And.intro) <;> first | omega | (intros; rfl))) | (simp [AllC, AllP, addN, cloL, clo, mrgL, mrg, wrapU, Holds] <;> omega)) (.int .i64 (N.length : Nat)) (.int e2) rfl ⟨g + 1, rfl, ?_⟩
    unfold LayS
    rw [e2, List.length_append, ← mpi_put hx]
    rfl
open Classical in
theorem runI_t {a : Int} {s : List UInt8} {p q : Pg} {N : List Gn} {F : Bool} (h : a < N.length ∧ N.getD a.toNat g0 = numG s) : runI (.is a s fun t => if t then p else q) N F = runI p N F := by
  simp only [runI]; rw [decide_eq_true h]; rfl
open Classical in
theorem runI_f {a : Int} {s : List UInt8} {p q : Pg} {N : List Gn} {F : Bool} (h : ¬ (a < N.length ∧ N.getD a.toNat g0 = numG s)) : runI (.is a s fun t => if t then p else q) N F = runI q N F := by
  simp only [runI]; rw [decide_eq_false h]; rfl
theorem neg_ok (a : Int) (N : List Gn) (F : Bool) (g : Nat) (ha : 0 ≤ a) (hN : N.length ≤ 120) : AFun Tryz.prog 75 [.ptr 0 0 0 0, .int .i64 a] (LayS N F g) (LayQ (runI (negP a) N F)) := by
  refine afun_of Tryz.func75 Tryz.call75 rfl Tryz.ntmps75 rfl ?_
  have W : Walk Tryz.prog TT 75 _ := Walk.of TT_ok Tryz.func75 Tryz.results75
  refine go_call W 0 300 rfl (by first | exact True.intro | (simp only [AllC, AllP, addN, Int.toNat_natCast, true_and, and_true, Option.getD, List.length_set, wrapU, pw1, pw7, pw8, pw16, pw23, pw32, pw52, Holds] <;> first | omega | ((repeat' apply And.intro) <;> first | omega | (intros; rfl))) | (simp [AllC, AllP, addN, cloL, clo, mrgL, mrg, wrapU, Holds] <;> omega)) (is_ok a t0 N F g ha hN) ?_
  rintro _ _ ⟨rfl, rfl⟩
  refine ⟨_, rfl, ?_⟩
  refine sp W 0 rfl rfl rfl (fun h1 => ?_) (fun h1 => ?_)
  · rw [negP, runI_t h1]
    refine rg W 0 rfl (⟨g, rfl, rfl⟩)
  · rw [negP, runI_f h1]
    refine go_call W 0 300 rfl (by first | exact True.intro | (simp only [AllC, AllP, addN, Int.toNat_natCast, true_and, and_true, Option.getD, List.length_set, wrapU, pw1, pw7, pw8, pw16, pw23, pw32, pw52, Holds] <;> first | omega | ((repeat' apply And.intro) <;> first | omega | (intros; rfl))) | (simp [AllC, AllP, addN, cloL, clo, mrgL, mrg, wrapU, Holds] <;> omega)) (lay_ok ⟨3, a, 0, 0, []⟩ N F g hN) ?_
    rintro _ _ ⟨g', rfl, rfl⟩
    refine ⟨_, rfl, ?_⟩
    refine rg W 0 rfl (⟨g', rfl, rfl⟩)
theorem sum_ok (a b : Int) (N : List Gn) (F : Bool) (g : Nat) (ha : 0 ≤ a) (hb : 0 ≤ b) (hN : N.length ≤ 120) : AFun Tryz.prog 76 [.ptr 0 0 0 0, .int .i64 a, .int .i64 b] (LayS N F g) (LayQ (runI (sumP' a b) N F)) := by
  refine afun_of Tryz.func76 Tryz.call76 rfl Tryz.ntmps76 rfl ?_
  have W : Walk Tryz.prog TT 76 _ := Walk.of TT_ok Tryz.func76 Tryz.results76
  unfold sumP'
  refine go_call W 0 300 rfl (by first | exact True.intro | (simp only [AllC, AllP, addN, Int.toNat_natCast, true_and, and_true, Option.getD, List.length_set, wrapU, pw1, pw7, pw8, pw16, pw23, pw32, pw52, Holds] <;> first | omega | ((repeat' apply And.intro) <;> first | omega | (intros; rfl))) | (simp [AllC, AllP, addN, cloL, clo, mrgL, mrg, wrapU, Holds] <;> omega)) (is_ok a t0 N F g ha hN) ?_
  rintro _ _ ⟨rfl, rfl⟩
  refine ⟨_, rfl, ?_⟩
  refine sp W 0 rfl rfl rfl (fun z2 => ?_) (fun z2 => ?_)
  · rw [runI_t z2]
    refine rg W 0 rfl (⟨g, rfl, rfl⟩)
  · rw [runI_f z2]
    refine go_call W 0 300 rfl (by first | exact True.intro | (simp only [AllC, AllP, addN, Int.toNat_natCast, true_and, and_true, Option.getD, List.length_set, wrapU, pw1, pw7, pw8, pw16, pw23, pw32, pw52, Holds] <;> first | omega | ((repeat' apply And.intro) <;> first | omega | (intros; rfl))) | (simp [AllC, AllP, addN, cloL, clo, mrgL, mrg, wrapU, Holds] <;> omega)) (is_ok b t0 N F g hb hN) ?_
    rintro _ _ ⟨rfl, rfl⟩
    refine ⟨_, rfl, ?_⟩
    refine sp W 0 rfl rfl rfl (fun z1 => ?_) (fun z1 => ?_)
    · rw [runI_t z1]
      refine rg W 0 rfl (⟨g, rfl, rfl⟩)
    · rw [runI_f z1]
      refine go_call W 0 300 rfl (by first | exact True.intro | (simp only [AllC, AllP, addN, Int.toNat_natCast, true_and, and_true, Option.getD, List.length_set, wrapU, pw1, pw7, pw8, pw16, pw23, pw32, pw52, Holds] <;> first | omega | ((repeat' apply And.intro) <;> first | omega | (intros; rfl))) | (simp [AllC, AllP, addN, cloL, clo, mrgL, mrg, wrapU, Holds] <;> omega)) (lay_ok ⟨4, a, b, 0, []⟩ N F g hN) ?_
      rintro _ _ ⟨g', rfl, rfl⟩
      refine ⟨_, rfl, ?_⟩
      refine rg W 0 rfl (⟨g', rfl, rfl⟩)
theorem less_ok (a b : Int) (N : List Gn) (F : Bool) (g : Nat) (ha : 0 ≤ a) (hb : 0 ≤ b) (hN : N.length ≤ 120) : AFun Tryz.prog 77 [.ptr 0 0 0 0, .int .i64 a, .int .i64 b] (LayS N F g) (LayQ (runI (lessP a b) N F)) := by
  refine afun_of Tryz.func77 Tryz.call77 rfl Tryz.ntmps77 rfl ?_
  have W : Walk Tryz.prog TT 77 _ := Walk.of TT_ok Tryz.func77 Tryz.results77
  unfold lessP
  refine go_call W 0 300 rfl (by first | exact True.intro | (simp only [AllC, AllP, addN, Int.toNat_natCast, true_and, and_true, Option.getD, List.length_set, wrapU, pw1, pw7, pw8, pw16, pw23, pw32, pw52, Holds] <;> first | omega | ((repeat' apply And.intro) <;> first | omega | (intros; rfl))) | (simp [AllC, AllP, addN, cloL, clo, mrgL, mrg, wrapU, Holds] <;> omega)) (is_ok b t0 N F g hb hN) ?_
  rintro _ _ ⟨rfl, rfl⟩
  refine ⟨_, rfl, ?_⟩
  refine sp W 0 rfl rfl rfl (fun z2 => ?_) (fun z2 => ?_)
  · rw [runI_t z2]
    refine rg W 0 rfl (⟨g, rfl, rfl⟩)
  · rw [runI_f z2]
    refine go_call W 0 300 rfl (by first | exact True.intro | (simp only [AllC, AllP, addN, Int.toNat_natCast, true_and, and_true, Option.getD, List.length_set, wrapU, pw1, pw7, pw8, pw16, pw23, pw32, pw52, Holds] <;> first | omega | ((repeat' apply And.intro) <;> first | omega | (intros; rfl))) | (simp [AllC, AllP, addN, cloL, clo, mrgL, mrg, wrapU, Holds] <;> omega)) (is_ok a t0 N F g ha hN) ?_
    rintro _ _ ⟨rfl, rfl⟩
    refine ⟨_, rfl, ?_⟩
    refine sp W 0 rfl rfl rfl (fun z1 => ?_) (fun z1 => ?_)
    · rw [runI_t z1]
      refine go_call W 0 300 rfl (by first | exact True.intro | (simp only [AllC, AllP, addN, Int.toNat_natCast, true_and, and_true, Option.getD, List.length_set, wrapU, pw1, pw7, pw8, pw16, pw23, pw32, pw52, Holds] <;> first | omega | ((repeat' apply And.intro) <;> first | omega | (intros; rfl))) | (simp [AllC, AllP, addN, cloL, clo, mrgL, mrg, wrapU, Holds] <;> omega)) (neg_ok b N F g hb hN) ?_
      rintro _ _ ⟨g', rfl, rfl⟩
      refine ⟨_, rfl, ?_⟩
      refine rg W 0 rfl (⟨g', rfl, rfl⟩)
    · rw [runI_f z1]
      refine go_call W 0 300 rfl (by first | exact True.intro | (simp only [AllC, AllP, addN, Int.toNat_natCast, true_and, and_true, Option.getD, List.length_set, wrapU, pw1, pw7, pw8, pw16, pw23, pw32, pw52, Holds] <;> first | omega | ((repeat' apply And.intro) <;> first | omega | (intros; rfl))) | (simp [AllC, AllP, addN, cloL, clo, mrgL, mrg, wrapU, Holds] <;> omega)) (lay_ok ⟨5, a, b, 0, []⟩ N F g hN) ?_
      rintro _ _ ⟨g', rfl, rfl⟩
      refine ⟨_, rfl, ?_⟩
      refine rg W 0 rfl (⟨g', rfl, rfl⟩)
theorem times_ok (a b : Int) (N : List Gn) (F : Bool) (g : Nat) (ha : 0 ≤ a) (hb : 0 ≤ b) (hN : N.length ≤ 120) : AFun Tryz.prog 78 [.ptr 0 0 0 0, .int .i64 a, .int .i64 b] (LayS N F g) (LayQ (runI (timesP a b) N F)) := by
  refine afun_of Tryz.func78 Tryz.call78 rfl Tryz.ntmps78 rfl ?_
  have W : Walk Tryz.prog TT 78 _ := Walk.of TT_ok Tryz.func78 Tryz.results78
  unfold timesP
  refine go_call W 0 300 rfl (by first | exact True.intro | (simp only [AllC, AllP, addN, Int.toNat_natCast, true_and, and_true, Option.getD, List.length_set, wrapU, pw1, pw7, pw8, pw16, pw23, pw32, pw52, Holds] <;> first | omega | ((repeat' apply And.intro) <;> first | omega | (intros; rfl))) | (simp [AllC, AllP, addN, cloL, clo, mrgL, mrg, wrapU, Holds] <;> omega)) (is_ok a t0 N F g ha hN) ?_
  rintro _ _ ⟨rfl, rfl⟩
  refine ⟨_, rfl, ?_⟩
  refine sp W 0 rfl rfl rfl (fun z4 => ?_) (fun z4 => ?_)
  · rw [runI_t z4]
    refine rg W 0 rfl (⟨g, rfl, rfl⟩)
  · rw [runI_f z4]
    refine go_call W 0 300 rfl (by first | exact True.intro | (simp only [AllC, AllP, addN, Int.toNat_natCast, true_and, and_true, Option.getD, List.length_set, wrapU, pw1, pw7, pw8, pw16, pw23, pw32, pw52, Holds] <;> first | omega | ((repeat' apply And.intro) <;> first | omega | (intros; rfl))) | (simp [AllC, AllP, addN, cloL, clo, mrgL, mrg, wrapU, Holds] <;> omega)) (is_ok b t1 N F g hb hN) ?_
    rintro _ _ ⟨rfl, rfl⟩
    refine ⟨_, rfl, ?_⟩
    refine sp W 0 rfl rfl rfl (fun z3 => ?_) (fun z3 => ?_)
    · rw [runI_t z3]
      refine rg W 0 rfl (⟨g, rfl, rfl⟩)
    · rw [runI_f z3]
      refine go_call W 0 300 rfl (by first | exact True.intro | (simp only [AllC, AllP, addN, Int.toNat_natCast, true_and, and_true, Option.getD, List.length_set, wrapU, pw1, pw7, pw8, pw16, pw23, pw32, pw52, Holds] <;> first | omega | ((repeat' apply And.intro) <;> first | omega | (intros; rfl))) | (simp [AllC, AllP, addN, cloL, clo, mrgL, mrg, wrapU, Holds] <;> omega)) (is_ok b t0 N F g hb hN) ?_
      rintro _ _ ⟨rfl, rfl⟩
      refine ⟨_, rfl, ?_⟩
      refine sp W 0 rfl rfl rfl (fun z2 => ?_) (fun z2 => ?_)
      · rw [runI_t z2]
        refine rg W 0 rfl (⟨g, rfl, rfl⟩)
      · rw [runI_f z2]
        refine go_call W 0 300 rfl (by first | exact True.intro | (simp only [AllC, AllP, addN, Int.toNat_natCast, true_and, and_true, Option.getD, List.length_set, wrapU, pw1, pw7, pw8, pw16, pw23, pw32, pw52, Holds] <;> first | omega | ((repeat' apply And.intro) <;> first | omega | (intros; rfl))) | (simp [AllC, AllP, addN, cloL, clo, mrgL, mrg, wrapU, Holds] <;> omega)) (is_ok a t1 N F g ha hN) ?_
        rintro _ _ ⟨rfl, rfl⟩
        refine ⟨_, rfl, ?_⟩
        refine sp W 0 rfl rfl rfl (fun z1 => ?_) (fun z1 => ?_)
        · rw [runI_t z1]
          refine rg W 0 rfl (⟨g, rfl, rfl⟩)
        · rw [runI_f z1]
          refine go_call W 0 300 rfl (by first | exact True.intro | (simp only [AllC, AllP, addN, Int.toNat_natCast, true_and, and_true, Option.getD, List.length_set, wrapU, pw1, pw7, pw8, pw16, pw23, pw32, pw52, Holds] <;> first | omega | ((repeat' apply And.intro) <;> first | omega | (intros; rfl))) | (simp [AllC, AllP, addN, cloL, clo, mrgL, mrg, wrapU, Holds] <;> omega)) (lay_ok ⟨6, a, b, 0, []⟩ N F g hN) ?_
          rintro _ _ ⟨g', rfl, rfl⟩
          refine ⟨_, rfl, ?_⟩
          refine rg W 0 rfl (⟨g', rfl, rfl⟩)
theorem by_ok (a b : Int) (N : List Gn) (F : Bool) (g : Nat) (ha : 0 ≤ a) (hb : 0 ≤ b) (hN : N.length ≤ 120) : AFun Tryz.prog 80 [.ptr 0 0 0 0, .int .i64 a, .int .i64 b] (LayS N F g) (LayQ (runI (byP a b) N F)) := by
  refine afun_of Tryz.func80 Tryz.call80 rfl Tryz.ntmps80 rfl ?_
  have W : Walk Tryz.prog TT 80 _ := Walk.of TT_ok Tryz.func80 Tryz.results80
  unfold byP
  refine go_call W 0 300 rfl (by first | exact True.intro | (simp only [AllC, AllP, addN, Int.toNat_natCast, true_and, and_true, Option.getD, List.length_set, wrapU, pw1, pw7, pw8, pw16, pw23, pw32, pw52, Holds] <;> first | omega | ((repeat' apply And.intro) <;> first | omega | (intros; rfl))) | (simp [AllC, AllP, addN, cloL, clo, mrgL, mrg, wrapU, Holds] <;> omega)) (is_ok a t0 N F g ha hN) ?_
  rintro _ _ ⟨rfl, rfl⟩
  refine ⟨_, rfl, ?_⟩
  refine sp W 0 rfl rfl rfl (fun z1 => ?_) (fun z1 => ?_)
  · rw [runI_t z1]
    refine rg W 0 rfl (⟨g, rfl, rfl⟩)
  · rw [runI_f z1]
    refine go_call W 0 300 rfl (by first | exact True.intro | (simp only [AllC, AllP, addN, Int.toNat_natCast, true_and, and_true, Option.getD, List.length_set, wrapU, pw1, pw7, pw8, pw16, pw23, pw32, pw52, Holds] <;> first | omega | ((repeat' apply And.intro) <;> first | omega | (intros; rfl))) | (simp [AllC, AllP, addN, cloL, clo, mrgL, mrg, wrapU, Holds] <;> omega)) (lay_ok ⟨7, a, b, 0, []⟩ N F g hN) ?_
    rintro _ _ ⟨g', rfl, rfl⟩
    refine ⟨_, rfl, ?_⟩
    refine rg W 0 rfl (⟨g', rfl, rfl⟩)

theorem raised_ok (a n : Int) (N : List Gn) (F : Bool) (g : Nat) (hN : N.length ≤ 120) : AFun Tryz.prog 81 [.ptr 0 0 0 0, .int .i64 a, .int .i64 n] (LayS N F g) (LayQ (runI (raisedP a n) N F)) := by
  refine afun_of Tryz.func81 Tryz.call81 rfl Tryz.ntmps81 rfl ?_
  have W : Walk Tryz.prog TT 81 _ := Walk.of TT_ok Tryz.func81 Tryz.results81
  unfold raisedP
  refine sp W 0 rfl rfl rfl (fun h1 => ?_) (fun h1 => ?_)
  · rw [if_pos h1]
    refine rg W 0 rfl (⟨g, rfl, rfl⟩)
  · rw [if_neg h1]
    refine go_call W 0 300 rfl (by first | exact True.intro | (simp only [AllC, AllP, addN, Int.toNat_natCast, true_and, and_true, Option.getD, List.length_set, wrapU, pw1, pw7, pw8, pw16, pw23, pw32, pw52, Holds] <;> first | omega | ((repeat' apply And.intro) <;> first | omega | (intros; rfl))) | (simp [AllC, AllP, addN, cloL, clo, mrgL, mrg, wrapU, Holds] <;> omega)) (lay_ok ⟨8, a, 0, n, []⟩ N F g hN) ?_
    rintro _ _ ⟨g', rfl, rfl⟩
    refine ⟨_, rfl, ?_⟩
    refine rg W 0 rfl (⟨g', rfl, rfl⟩)
theorem number_ok (n : Int) (N : List Gn) (F : Bool) (g : Nat) (h0 : 0 ≤ n) (h1 : n ≤ 1000000) (hN : N.length ≤ 120) : AFun Tryz.prog 74 [.ptr 0 0 0 0, .int .i64 n] (LayS N F g) (LayQ (runI (numP (Lib.decDigits n.toNat)) N F)) := by
  refine afun_of Tryz.func74 Tryz.call74 rfl Tryz.ntmps74 rfl ?_
  have W : Walk Tryz.prog TT 74 _ := Walk.of TT_ok Tryz.func74 Tryz.results74
  refine ce W 0 rfl rfl (itoaAll_ok n h0 (by omega)) rfl ?_
  refine go_call W 0 300 rfl (by first | exact True.intro | (simp only [AllC, AllP, addN, Int.toNat_natCast, true_and, and_true, Option.getD, List.length_set, wrapU, pw1, pw7, pw8, pw16, pw23, pw32, pw52, Holds] <;> first | omega | ((repeat' apply And.intro) <;> first | omega | (intros; rfl))) | (simp [AllC, AllP, addN, cloL, clo, mrgL, mrg, wrapU, Holds] <;> omega)) (lay_ok (numG (Lib.decDigits n.toNat)) N F g hN) ?_
  rintro _ _ ⟨g', rfl, rfl⟩
  refine ⟨_, rfl, ?_⟩
  refine rg W 0 rfl (⟨g', rfl, rfl⟩)
end Pf
/- Slopes: the layer's slope of a node -/
namespace Pf
open Go Go.Proofs
theorem Pg.x : True := trivial
/-- What a program returns is a place. -/
def Pg.nn : Pg → Prop
  | .ret v => 0 ≤ v
  | .put _ k => ∀ i, 0 ≤ i → (k i).nn
  | .is _ _ k => ∀ t, (k t).nn
open Classical in
theorem runI_nn {P : Pg} (h : P.nn) : ∀ N F, 0 ≤ (runI P N F).1 := by
  induction P with
  | ret v => intro N F; exact h
  | put x k ih =>
    intro N F
    simp only [runI]
    split
    · exact ih _ (h _ (by omega)) _ _
    · split
      · exact ih _ (h _ (by omega)) _ _
      · exact ih _ (h _ (by omega)) _ _
  | is a s k ih => intro N F; simp only [runI]; exact ih _ (h _) _ _
theorem nn_num (s : List UInt8) : (numP s).nn := fun i h => h
theorem nn_neg {a : Int} (h : 0 ≤ a) : (negP a).nn := fun t => by cases t <;> first | exact h | exact fun i h => h
theorem nn_sum {a b : Int} (ha : 0 ≤ a) (hb : 0 ≤ b) : (sumP' a b).nn := fun t => by cases t <;> first | exact hb | (intro t; cases t <;> first | exact ha | exact fun i h => h)
theorem nn_less {a b : Int} (ha : 0 ≤ a) (hb : 0 ≤ b) : (lessP a b).nn := fun t => by cases t <;> first | exact ha | (intro t; cases t <;> first | exact nn_neg hb | exact fun i h => h)
theorem nn_times {a b : Int} (ha : 0 ≤ a) (hb : 0 ≤ b) : (timesP a b).nn := fun t => by cases t <;> first | exact ha | (intro t; cases t <;> first | exact ha | (intro t; cases t <;> first | exact hb | (intro t; cases t <;> first | exact hb | exact fun i h => h)))
theorem nn_by {a b : Int} (ha : 0 ≤ a) (hb : 0 ≤ b) : (byP a b).nn := fun t => by cases t <;> first | exact ha | exact fun i h => h
theorem nn_raised {a : Int} (n : Int) (ha : 0 ≤ a) : (raisedP a n).nn := by unfold raisedP; split; exact ha; exact fun i h => h
/-- The slopes of the parts, by their places. -/
def ofK (K : List Int) (i : Int) : Int := K.getD i.toNat 0
def SlQ (r : Int × List Gn × Bool) (h : Nat) (K : List Int) (u : AV) (H : AHeap) : Prop := ∃ g', u = .int .i64 r.1 ∧ H = LayS r.2.1 r.2.2 g' ++ [.ints h .i64 K]
theorem slope_ok (at' v : Int) (x : Gn) (K : List Int) (N : List Gn) (F : Bool) (g h : Nat) (hN : N.length ≤ 120) (hat : 0 ≤ at') (hK : ∀ i, 0 ≤ K.getD i 0) (hn : 0 ≤ x.n ∧ x.n ≤ 1000000)
    (hpa : 3 ≤ x.k ∧ x.k ≤ 9 → 0 ≤ x.a ∧ x.a < K.length) (hpb : 4 ≤ x.k ∧ x.k ≤ 7 → 0 ≤ x.b ∧ x.b < K.length) : AFun Tryz.prog 48 [.ptr 0 0 0 0, .int .i64 at', gnV x, .int .i64 v, .sl 3 h 0 K.length] (LayS N F g ++ [.ints h .i64 K]) (SlQ (runI (slopeG at' x v (ofK K)) N F) h K) := by
  have hA : 0 ≤ ofK K x.a := hK _
  have hB : 0 ≤ ofK K x.b := hK _
  unfold gnV
  refine AFun.trim 4 ?_ (by simp [LayS])
  refine afun_of Tryz.func48 Tryz.call48 rfl Tryz.ntmps48 rfl ?_
  have W : Walk Tryz.prog TT 48 _ := Walk.of TT_ok Tryz.func48 Tryz.results48
  refine dre W 0 5 [] [] rfl rfl rfl trivial rfl ?_
  unfold slopeG
  refine sp W 0 rfl rfl rfl (fun h1 => ?_) (fun h1 => ?_)
  · rw [if_pos h1]
    refine sp W 0 rfl rfl rfl (fun h2 => ?_) (fun h2 => ?_)
    · rw [if_pos h2]
      obtain ⟨⟨r1, N1, F1⟩, e1⟩ : ∃ q, runI (numP t1) N F = q := ⟨_, rfl⟩
      have c1 : AFun Tryz.prog 74 [.ptr 0 0 0 0, .int .i64 (1)] (LayS N F g) (LayQ (r1, N1, F1)) := by
        have := (show AFun _ _ _ _ (LayQ (runI (numP (Lib.decDigits 1)) N F)) from number_ok (1) N F g (by omega) (by omega) hN)
        rw [dec_small (by omega)] at this
        have this : AFun _ _ _ _ (LayQ (runI (numP t1) N F)) := this
        rw [e1] at this
        exact this
      have hr1 : 0 ≤ r1 := by
        have := runI_nn (P := numP t1) (nn_num _) N F
        rw [e1] at this
        exact this
      have hN1 : N1.length ≤ 120 := by
        have := runI_len (numP t1) N F hN
        rw [e1] at this
        exact this
      refine go_callS W 0 300 [0, 1, 2] rfl (by first | exact True.intro | (simp only [AllC, AllP, addN, Int.toNat_natCast, true_and, and_true, Option.getD, List.length_set, wrapU, pw1, pw7, pw8, pw16, pw23, pw32, pw52, Holds] <;> first | omega | ((repeat' apply And.intro) <;> first | omega | (intros; rfl))) | (simp [AllC, AllP, addN, cloL, clo, mrgL, mrg, wrapU, Holds] <;> omega)) c1 rfl rfl ⟨rfl, fun _ _ => rfl, trivial, trivial⟩ ⟨rfl, rfl, rfl, trivial⟩ rfl ?_
      rintro _ _ ⟨g1, rfl, rfl⟩
      refine ⟨_, _, rfl, rfl, ?_⟩
      rw [e1]
      refine go_retS W 0 300 4 rfl (by first | exact True.intro | (simp only [AllC, AllP, addN, Int.toNat_natCast, true_and, and_true, Option.getD, List.length_set, wrapU, pw1, pw7, pw8, pw16, pw23, pw32, pw52, Holds] <;> first | omega | ((repeat' apply And.intro) <;> first | omega | (intros; rfl))) | (simp [AllC, AllP, addN, cloL, clo, mrgL, mrg, wrapU, Holds] <;> omega)) rfl (by first | exact True.intro | (simp only [AllC, AllP, addN, Int.toNat_natCast, true_and, and_true, Option.getD, List.length_set, wrapU, pw1, pw7, pw8, pw16, pw23, pw32, pw52, Holds] <;> first | omega | ((repeat' apply And.intro) <;> first | omega | (intros; rfl))) | (simp [AllC, AllP, addN, cloL, clo, mrgL, mrg, wrapU, Holds] <;> omega)) (.int .i64 (r1)) .refl rfl ⟨g1, rfl, rfl⟩
    · rw [if_neg h2]
      obtain ⟨⟨r1, N1, F1⟩, e1⟩ : ∃ q, runI (numP t0) N F = q := ⟨_, rfl⟩
      have c1 : AFun Tryz.prog 74 [.ptr 0 0 0 0, .int .i64 (0)] (LayS N F g) (LayQ (r1, N1, F1)) := by
        have := (show AFun _ _ _ _ (LayQ (runI (numP (Lib.decDigits 0)) N F)) from number_ok (0) N F g (by omega) (by omega) hN)
        rw [dec_small (by omega)] at this
        have this : AFun _ _ _ _ (LayQ (runI (numP t0) N F)) := this
        rw [e1] at this
        exact this
      have hr1 : 0 ≤ r1 := by
        have := runI_nn (P := numP t0) (nn_num _) N F
        rw [e1] at this
        exact this
      have hN1 : N1.length ≤ 120 := by
        have := runI_len (numP t0) N F hN
        rw [e1] at this
        exact this
      refine go_callS W 0 300 [0, 1, 2] rfl (by first | exact True.intro | (simp only [AllC, AllP, addN, Int.toNat_natCast, true_and, and_true, Option.getD, List.length_set, wrapU, pw1, pw7, pw8, pw16, pw23, pw32, pw52, Holds] <;> first | omega | ((repeat' apply And.intro) <;> first | omega | (intros; rfl))) | (simp [AllC, AllP, addN, cloL, clo, mrgL, mrg, wrapU, Holds] <;> omega)) c1 rfl rfl ⟨rfl, fun _ _ => rfl, trivial, trivial⟩ ⟨rfl, rfl, rfl, trivial⟩ rfl ?_
      rintro _ _ ⟨g1, rfl, rfl⟩
      refine ⟨_, _, rfl, rfl, ?_⟩
      rw [e1]
      refine go_retS W 0 300 4 rfl (by first | exact True.intro | (simp only [AllC, AllP, addN, Int.toNat_natCast, true_and, and_true, Option.getD, List.length_set, wrapU, pw1, pw7, pw8, pw16, pw23, pw32, pw52, Holds] <;> first | omega | ((repeat' apply And.intro) <;> first | omega | (intros; rfl))) | (simp [AllC, AllP, addN, cloL, clo, mrgL, mrg, wrapU, Holds] <;> omega)) rfl (by first | exact True.intro | (simp only [AllC, AllP, addN, Int.toNat_natCast, true_and, and_true, Option.getD, List.length_set, wrapU, pw1, pw7, pw8, pw16, pw23, pw32, pw52, Holds] <;> first | omega | ((repeat' apply And.intro) <;> first | omega | (intros; rfl))) | (simp [AllC, AllP, addN, cloL, clo, mrgL, mrg, wrapU, Holds] <;> omega)) (.int .i64 (r1)) .refl rfl ⟨g1, rfl, rfl⟩
  rw [if_neg h1]
  refine sp W 0 rfl rfl rfl (fun k3 => ?_) (fun k3 => ?_)
  · rw [if_pos k3]
    have hxa := (hpa (by omega)).1
    have ha2 := (hpa (by omega)).2
    have zA : addN 0 x.a.toNat = x.a.toNat := addNz _
    have zB : addN 0 x.b.toNat = x.b.toNat := addNz _
    obtain ⟨⟨r1, N1, F1⟩, e1⟩ : ∃ q, runI (negP (ofK K x.a)) N F = q := ⟨_, rfl⟩
    have c1 : AFun Tryz.prog 75 [.ptr 0 0 0 0, .int .i64 (K.getD (addN 0 x.a.toNat) 0)] (LayS N F g) (LayQ (r1, N1, F1)) := by
      have := neg_ok (ofK K x.a) N F g hA hN
      rw [e1] at this
      rw [addNz]
      exact this
    have hr1 : 0 ≤ r1 := by
      have := runI_nn (P := negP (ofK K x.a)) (nn_neg hA) N F
      rw [e1] at this
      exact this
    have hN1 : N1.length ≤ 120 := by
      have := runI_len (negP (ofK K x.a)) N F hN
      rw [e1] at this
      exact this
    refine go_callS W 0 300 [0, 1, 2] rfl (by first | exact True.intro | (simp only [AllC, AllP, addN, Int.toNat_natCast, true_and, and_true, Option.getD, List.length_set, wrapU, pw1, pw7, pw8, pw16, pw23, pw32, pw52, Holds] <;> first | omega | ((repeat' apply And.intro) <;> first | omega | (intros; rfl))) | (simp [AllC, AllP, addN, cloL, clo, mrgL, mrg, wrapU, Holds] <;> omega)) c1 rfl rfl ⟨rfl, fun _ _ => rfl, trivial, trivial⟩ ⟨rfl, rfl, rfl, trivial⟩ rfl ?_
    rintro _ _ ⟨g1, rfl, rfl⟩
    refine ⟨_, _, rfl, rfl, ?_⟩
    rw [e1]
    refine go_retS W 0 300 4 rfl (by first | exact True.intro | (simp only [AllC, AllP, addN, Int.toNat_natCast, true_and, and_true, Option.getD, List.length_set, wrapU, pw1, pw7, pw8, pw16, pw23, pw32, pw52, Holds] <;> first | omega | ((repeat' apply And.intro) <;> first | omega | (intros; rfl))) | (simp [AllC, AllP, addN, cloL, clo, mrgL, mrg, wrapU, Holds] <;> omega)) rfl (by first | exact True.intro | (simp only [AllC, AllP, addN, Int.toNat_natCast, true_and, and_true, Option.getD, List.length_set, wrapU, pw1, pw7, pw8, pw16, pw23, pw32, pw52, Holds] <;> first | omega | ((repeat' apply And.intro) <;> first | omega | (intros; rfl))) | (simp [AllC, AllP, addN, cloL, clo, mrgL, mrg, wrapU, Holds] <;> omega)) (.int .i64 (r1)) .refl rfl ⟨g1, rfl, rfl⟩
  rw [if_neg k3]
  refine sp W 0 rfl rfl rfl (fun k4 => ?_) (fun k4 => ?_)
  · rw [if_pos k4]
    have hxa := (hpa (by omega)).1
    have hxb := (hpb (by omega)).1
    have hb2 := (hpb (by omega)).2
    have ha2 := (hpa (by omega)).2
    have zA : addN 0 x.a.toNat = x.a.toNat := addNz _
    have zB : addN 0 x.b.toNat = x.b.toNat := addNz _
    obtain ⟨⟨r1, N1, F1⟩, e1⟩ : ∃ q, runI (sumP' (ofK K x.a) (ofK K x.b)) N F = q := ⟨_, rfl⟩
    have c1 : AFun Tryz.prog 76 [.ptr 0 0 0 0, .int .i64 (K.getD (addN 0 x.a.toNat) 0), .int .i64 (K.getD (addN 0 x.b.toNat) 0)] (LayS N F g) (LayQ (r1, N1, F1)) := by
      have := sum_ok (ofK K x.a) (ofK K x.b) N F g hA hB hN
      rw [e1] at this
      rw [addNz, addNz]
      exact this
    have hr1 : 0 ≤ r1 := by
      have := runI_nn (P := sumP' (ofK K x.a) (ofK K x.b)) (nn_sum hA hB) N F
      rw [e1] at this
      exact this
    have hN1 : N1.length ≤ 120 := by
      have := runI_len (sumP' (ofK K x.a) (ofK K x.b)) N F hN
      rw [e1] at this
      exact this
    refine dre W 0 9 [] [] rfl rfl rfl trivial rfl ?_ (hp := by simp only [AllP, Holds, Option.getD, true_and, and_true]; omega)
    refine go_callS W 0 300 [0, 1, 2] rfl (by first | exact True.intro | (simp only [AllC, AllP, addN, Int.toNat_natCast, true_and, and_true, Option.getD, List.length_set, wrapU, pw1, pw7, pw8, pw16, pw23, pw32, pw52, Holds] <;> first | omega | ((repeat' apply And.intro) <;> first | omega | (intros; rfl))) | (simp [AllC, AllP, addN, cloL, clo, mrgL, mrg, wrapU, Holds] <;> omega)) c1 rfl rfl ⟨rfl, fun _ _ => rfl, trivial, trivial⟩ ⟨rfl, rfl, rfl, trivial⟩ rfl ?_
    rintro _ _ ⟨g1, rfl, rfl⟩
    refine ⟨_, _, rfl, rfl, ?_⟩
    rw [e1]
    refine go_retS W 0 300 4 rfl (by first | exact True.intro | (simp only [AllC, AllP, addN, Int.toNat_natCast, true_and, and_true, Option.getD, List.length_set, wrapU, pw1, pw7, pw8, pw16, pw23, pw32, pw52, Holds] <;> first | omega | ((repeat' apply And.intro) <;> first | omega | (intros; rfl))) | (simp [AllC, AllP, addN, cloL, clo, mrgL, mrg, wrapU, Holds] <;> omega)) rfl (by first | exact True.intro | (simp only [AllC, AllP, addN, Int.toNat_natCast, true_and, and_true, Option.getD, List.length_set, wrapU, pw1, pw7, pw8, pw16, pw23, pw32, pw52, Holds] <;> first | omega | ((repeat' apply And.intro) <;> first | omega | (intros; rfl))) | (simp [AllC, AllP, addN, cloL, clo, mrgL, mrg, wrapU, Holds] <;> omega)) (.int .i64 (r1)) .refl rfl ⟨g1, rfl, rfl⟩
  rw [if_neg k4]
  refine sp W 0 rfl rfl rfl (fun k5 => ?_) (fun k5 => ?_)
  · rw [if_pos k5]
    have hxa := (hpa (by omega)).1
    have hxb := (hpb (by omega)).1
    have hb2 := (hpb (by omega)).2
    have ha2 := (hpa (by omega)).2
    have zA : addN 0 x.a.toNat = x.a.toNat := addNz _
    have zB : addN 0 x.b.toNat = x.b.toNat := addNz _
    obtain ⟨⟨r1, N1, F1⟩, e1⟩ : ∃ q, runI (lessP (ofK K x.a) (ofK K x.b)) N F = q := ⟨_, rfl⟩
    have c1 : AFun Tryz.prog 77 [.ptr 0 0 0 0, .int .i64 (K.getD (addN 0 x.a.toNat) 0), .int .i64 (K.getD (addN 0 x.b.toNat) 0)] (LayS N F g) (LayQ (r1, N1, F1)) := by
      have := less_ok (ofK K x.a) (ofK K x.b) N F g hA hB hN
      rw [e1] at this
      rw [addNz, addNz]
      exact this
    have hr1 : 0 ≤ r1 := by
      have := runI_nn (P := lessP (ofK K x.a) (ofK K x.b)) (nn_less hA hB) N F
      rw [e1] at this
      exact this
    have hN1 : N1.length ≤ 120 := by
      have := runI_len (lessP (ofK K x.a) (ofK K x.b)) N F hN
      rw [e1] at this
      exact this
    refine dre W 0 9 [] [] rfl rfl rfl trivial rfl ?_ (hp := by simp only [AllP, Holds, Option.getD, true_and, and_true]; omega)
    refine go_callS W 0 300 [0, 1, 2] rfl (by first | exact True.intro | (simp only [AllC, AllP, addN, Int.toNat_natCast, true_and, and_true, Option.getD, List.length_set, wrapU, pw1, pw7, pw8, pw16, pw23, pw32, pw52, Holds] <;> first | omega | ((repeat' apply And.intro) <;> first | omega | (intros; rfl))) | (simp [AllC, AllP, addN, cloL, clo, mrgL, mrg, wrapU, Holds] <;> omega)) c1 rfl rfl ⟨rfl, fun _ _ => rfl, trivial, trivial⟩ ⟨rfl, rfl, rfl, trivial⟩ rfl ?_
    rintro _ _ ⟨g1, rfl, rfl⟩
    refine ⟨_, _, rfl, rfl, ?_⟩
    rw [e1]
    refine go_retS W 0 300 4 rfl (by first | exact True.intro | (simp only [AllC, AllP, addN, Int.toNat_natCast, true_and, and_true, Option.getD, List.length_set, wrapU, pw1, pw7, pw8, pw16, pw23, pw32, pw52, Holds] <;> first | omega | ((repeat' apply And.intro) <;> first | omega | (intros; rfl))) | (simp [AllC, AllP, addN, cloL, clo, mrgL, mrg, wrapU, Holds] <;> omega)) rfl (by first | exact True.intro | (simp only [AllC, AllP, addN, Int.toNat_natCast, true_and, and_true, Option.getD, List.length_set, wrapU, pw1, pw7, pw8, pw16, pw23, pw32, pw52, Holds] <;> first | omega | ((repeat' apply And.intro) <;> first | omega | (intros; rfl))) | (simp [AllC, AllP, addN, cloL, clo, mrgL, mrg, wrapU, Holds] <;> omega)) (.int .i64 (r1)) .refl rfl ⟨g1, rfl, rfl⟩
  rw [if_neg k5]
  refine sp W 0 rfl rfl rfl (fun k6 => ?_) (fun k6 => ?_)
  · rw [if_pos k6]
    have hxa := (hpa (by omega)).1
    have hxb := (hpb (by omega)).1
    have hb2 := (hpb (by omega)).2
    have ha2 := (hpa (by omega)).2
    have zA : addN 0 x.a.toNat = x.a.toNat := addNz _
    have zB : addN 0 x.b.toNat = x.b.toNat := addNz _
    obtain ⟨⟨r1, N1, F1⟩, e1⟩ : ∃ q, runI (timesP (ofK K x.a) (x.b)) N F = q := ⟨_, rfl⟩
    have c1 : AFun Tryz.prog 78 [.ptr 0 0 0 0, .int .i64 (K.getD (addN 0 x.a.toNat) 0), .int .i64 (x.b)] (LayS N F g) (LayQ (r1, N1, F1)) := by
      have := times_ok (ofK K x.a) (x.b) N F g hA hxb hN
      rw [e1] at this
      rw [addNz]
      exact this
    have hr1 : 0 ≤ r1 := by
      have := runI_nn (P := timesP (ofK K x.a) (x.b)) (nn_times hA hxb) N F
      rw [e1] at this
      exact this
    have hN1 : N1.length ≤ 120 := by
      have := runI_len (timesP (ofK K x.a) (x.b)) N F hN
      rw [e1] at this
      exact this
    refine go_callS W 0 300 [0, 1, 2] rfl (by first | exact True.intro | (simp only [AllC, AllP, addN, Int.toNat_natCast, true_and, and_true, Option.getD, List.length_set, wrapU, pw1, pw7, pw8, pw16, pw23, pw32, pw52, Holds] <;> first | omega | ((repeat' apply And.intro) <;> first | omega | (intros; rfl))) | (simp [AllC, AllP, addN, cloL, clo, mrgL, mrg, wrapU, Holds] <;> omega)) c1 rfl rfl ⟨rfl, fun _ _ => rfl, trivial, trivial⟩ ⟨rfl, rfl, rfl, trivial⟩ rfl ?_
    rintro _ _ ⟨g1, rfl, rfl⟩
    refine ⟨_, _, rfl, rfl, ?_⟩
    rw [runI_bind, e1]
    dsimp only
    obtain ⟨⟨r2, N2, F2⟩, e2⟩ : ∃ q, runI (timesP (x.a) (ofK K x.b)) N1 F1 = q := ⟨_, rfl⟩
    have c2 : AFun Tryz.prog 78 [.ptr 0 0 0 0, .int .i64 (x.a), .int .i64 (K.getD (addN 0 x.b.toNat) 0)] (LayS N1 F1 g1) (LayQ (r2, N2, F2)) := by
      have := times_ok (x.a) (ofK K x.b) N1 F1 g1 hxa hB hN1
      rw [e2] at this
      rw [addNz]
      exact this
    have hr2 : 0 ≤ r2 := by
      have := runI_nn (P := timesP (x.a) (ofK K x.b)) (nn_times hxa hB) N1 F1
      rw [e2] at this
      exact this
    have hN2 : N2.length ≤ 120 := by
      have := runI_len (timesP (x.a) (ofK K x.b)) N1 F1 hN1
      rw [e2] at this
      exact this
    refine go_callS W 0 300 [0, 1, 2] rfl (by first | exact True.intro | (simp only [AllC, AllP, addN, Int.toNat_natCast, true_and, and_true, Option.getD, List.length_set, wrapU, pw1, pw7, pw8, pw16, pw23, pw32, pw52, Holds] <;> first | omega | ((repeat' apply And.intro) <;> first | omega | (intros; rfl))) | (simp [AllC, AllP, addN, cloL, clo, mrgL, mrg, wrapU, Holds] <;> omega)) c2 rfl rfl ⟨rfl, fun _ _ => rfl, trivial, trivial⟩ ⟨rfl, rfl, rfl, trivial⟩ rfl ?_
    rintro _ _ ⟨g2, rfl, rfl⟩
    refine ⟨_, _, rfl, rfl, ?_⟩
    rw [runI_bind, e2]
    dsimp only
    obtain ⟨⟨r3, N3, F3⟩, e3⟩ : ∃ q, runI (sumP' (r1) (r2)) N2 F2 = q := ⟨_, rfl⟩
    have c3 : AFun Tryz.prog 76 [.ptr 0 0 0 0, .int .i64 (r1), .int .i64 (r2)] (LayS N2 F2 g2) (LayQ (r3, N3, F3)) := by
      have := sum_ok (r1) (r2) N2 F2 g2 hr1 hr2 hN2
      rw [e3] at this
      exact this
    have hr3 : 0 ≤ r3 := by
      have := runI_nn (P := sumP' (r1) (r2)) (nn_sum hr1 hr2) N2 F2
      rw [e3] at this
      exact this
    have hN3 : N3.length ≤ 120 := by
      have := runI_len (sumP' (r1) (r2)) N2 F2 hN2
      rw [e3] at this
      exact this
    refine go_callS W 0 300 [0, 1, 2] rfl (by first | exact True.intro | (simp only [AllC, AllP, addN, Int.toNat_natCast, true_and, and_true, Option.getD, List.length_set, wrapU, pw1, pw7, pw8, pw16, pw23, pw32, pw52, Holds] <;> first | omega | ((repeat' apply And.intro) <;> first | omega | (intros; rfl))) | (simp [AllC, AllP, addN, cloL, clo, mrgL, mrg, wrapU, Holds] <;> omega)) c3 rfl rfl ⟨rfl, fun _ _ => rfl, trivial, trivial⟩ ⟨rfl, rfl, rfl, trivial⟩ rfl ?_
    rintro _ _ ⟨g3, rfl, rfl⟩
    refine ⟨_, _, rfl, rfl, ?_⟩
    rw [e3]
    refine go_retS W 0 300 4 rfl (by first | exact True.intro | (simp only [AllC, AllP, addN, Int.toNat_natCast, true_and, and_true, Option.getD, List.length_set, wrapU, pw1, pw7, pw8, pw16, pw23, pw32, pw52, Holds] <;> first | omega | ((repeat' apply And.intro) <;> first | omega | (intros; rfl))) | (simp [AllC, AllP, addN, cloL, clo, mrgL, mrg, wrapU, Holds] <;> omega)) rfl (by first | exact True.intro | (simp only [AllC, AllP, addN, Int.toNat_natCast, true_and, and_true, Option.getD, List.length_set, wrapU, pw1, pw7, pw8, pw16, pw23, pw32, pw52, Holds] <;> first | omega | ((repeat' apply And.intro) <;> first | omega | (intros; rfl))) | (simp [AllC, AllP, addN, cloL, clo, mrgL, mrg, wrapU, Holds] <;> omega)) (.int .i64 (r3)) .refl rfl ⟨g3, rfl, rfl⟩
  rw [if_neg k6]
  refine sp W 0 rfl rfl rfl (fun k7 => ?_) (fun k7 => ?_)
  · rw [if_pos k7]
    have hxa := (hpa (by omega)).1
    have hxb := (hpb (by omega)).1
    have hb2 := (hpb (by omega)).2
    have ha2 := (hpa (by omega)).2
    have zA : addN 0 x.a.toNat = x.a.toNat := addNz _
    have zB : addN 0 x.b.toNat = x.b.toNat := addNz _
    obtain ⟨⟨r1, N1, F1⟩, e1⟩ : ∃ q, runI (timesP (ofK K x.a) (x.b)) N F = q := ⟨_, rfl⟩
    have c1 : AFun Tryz.prog 78 [.ptr 0 0 0 0, .int .i64 (K.getD (addN 0 x.a.toNat) 0), .int .i64 (x.b)] (LayS N F g) (LayQ (r1, N1, F1)) := by
      have := times_ok (ofK K x.a) (x.b) N F g hA hxb hN
      rw [e1] at this
      rw [addNz]
      exact this
    have hr1 : 0 ≤ r1 := by
      have := runI_nn (P := timesP (ofK K x.a) (x.b)) (nn_times hA hxb) N F
      rw [e1] at this
      exact this
    have hN1 : N1.length ≤ 120 := by
      have := runI_len (timesP (ofK K x.a) (x.b)) N F hN
      rw [e1] at this
      exact this
    refine go_callS W 0 300 [0, 1, 2] rfl (by first | exact True.intro | (simp only [AllC, AllP, addN, Int.toNat_natCast, true_and, and_true, Option.getD, List.length_set, wrapU, pw1, pw7, pw8, pw16, pw23, pw32, pw52, Holds] <;> first | omega | ((repeat' apply And.intro) <;> first | omega | (intros; rfl))) | (simp [AllC, AllP, addN, cloL, clo, mrgL, mrg, wrapU, Holds] <;> omega)) c1 rfl rfl ⟨rfl, fun _ _ => rfl, trivial, trivial⟩ ⟨rfl, rfl, rfl, trivial⟩ rfl ?_
    rintro _ _ ⟨g1, rfl, rfl⟩
    refine ⟨_, _, rfl, rfl, ?_⟩
    rw [runI_bind, e1]
    dsimp only
    obtain ⟨⟨r2, N2, F2⟩, e2⟩ : ∃ q, runI (timesP (x.a) (ofK K x.b)) N1 F1 = q := ⟨_, rfl⟩
    have c2 : AFun Tryz.prog 78 [.ptr 0 0 0 0, .int .i64 (x.a), .int .i64 (K.getD (addN 0 x.b.toNat) 0)] (LayS N1 F1 g1) (LayQ (r2, N2, F2)) := by
      have := times_ok (x.a) (ofK K x.b) N1 F1 g1 hxa hB hN1
      rw [e2] at this
      rw [addNz]
      exact this
    have hr2 : 0 ≤ r2 := by
      have := runI_nn (P := timesP (x.a) (ofK K x.b)) (nn_times hxa hB) N1 F1
      rw [e2] at this
      exact this
    have hN2 : N2.length ≤ 120 := by
      have := runI_len (timesP (x.a) (ofK K x.b)) N1 F1 hN1
      rw [e2] at this
      exact this
    refine go_callS W 0 300 [0, 1, 2] rfl (by first | exact True.intro | (simp only [AllC, AllP, addN, Int.toNat_natCast, true_and, and_true, Option.getD, List.length_set, wrapU, pw1, pw7, pw8, pw16, pw23, pw32, pw52, Holds] <;> first | omega | ((repeat' apply And.intro) <;> first | omega | (intros; rfl))) | (simp [AllC, AllP, addN, cloL, clo, mrgL, mrg, wrapU, Holds] <;> omega)) c2 rfl rfl ⟨rfl, fun _ _ => rfl, trivial, trivial⟩ ⟨rfl, rfl, rfl, trivial⟩ rfl ?_
    rintro _ _ ⟨g2, rfl, rfl⟩
    refine ⟨_, _, rfl, rfl, ?_⟩
    rw [runI_bind, e2]
    dsimp only
    obtain ⟨⟨r3, N3, F3⟩, e3⟩ : ∃ q, runI (lessP (r1) (r2)) N2 F2 = q := ⟨_, rfl⟩
    have c3 : AFun Tryz.prog 77 [.ptr 0 0 0 0, .int .i64 (r1), .int .i64 (r2)] (LayS N2 F2 g2) (LayQ (r3, N3, F3)) := by
      have := less_ok (r1) (r2) N2 F2 g2 hr1 hr2 hN2
      rw [e3] at this
      exact this
    have hr3 : 0 ≤ r3 := by
      have := runI_nn (P := lessP (r1) (r2)) (nn_less hr1 hr2) N2 F2
      rw [e3] at this
      exact this
    have hN3 : N3.length ≤ 120 := by
      have := runI_len (lessP (r1) (r2)) N2 F2 hN2
      rw [e3] at this
      exact this
    refine go_callS W 0 300 [0, 1, 2] rfl (by first | exact True.intro | (simp only [AllC, AllP, addN, Int.toNat_natCast, true_and, and_true, Option.getD, List.length_set, wrapU, pw1, pw7, pw8, pw16, pw23, pw32, pw52, Holds] <;> first | omega | ((repeat' apply And.intro) <;> first | omega | (intros; rfl))) | (simp [AllC, AllP, addN, cloL, clo, mrgL, mrg, wrapU, Holds] <;> omega)) c3 rfl rfl ⟨rfl, fun _ _ => rfl, trivial, trivial⟩ ⟨rfl, rfl, rfl, trivial⟩ rfl ?_
    rintro _ _ ⟨g3, rfl, rfl⟩
    refine ⟨_, _, rfl, rfl, ?_⟩
    rw [runI_bind, e3]
    dsimp only
    have ci3 : AFun Tryz.prog 79 [.ptr 0 0 0 0, .int .i64 (r3), .str t0] (LayS N3 F3 g3) (fun u H => u = .pr ((r3) < N3.length ∧ N3.getD (r3).toNat g0 = numG t0) ∧ H = LayS N3 F3 g3) := by
      have := is_ok (r3) t0 N3 F3 g3 hr3 hN3
      exact this
    refine go_callS W 0 300 [0, 1, 2] rfl (by first | exact True.intro | (simp only [AllC, AllP, addN, Int.toNat_natCast, true_and, and_true, Option.getD, List.length_set, wrapU, pw1, pw7, pw8, pw16, pw23, pw32, pw52, Holds] <;> first | omega | ((repeat' apply And.intro) <;> first | omega | (intros; rfl))) | (simp [AllC, AllP, addN, cloL, clo, mrgL, mrg, wrapU, Holds] <;> omega)) ci3 rfl rfl ⟨rfl, fun _ _ => rfl, trivial, trivial⟩ ⟨rfl, rfl, rfl, trivial⟩ rfl ?_
    rintro _ _ ⟨rfl, rfl⟩
    refine ⟨_, _, rfl, rfl, ?_⟩
    refine sp W 0 rfl rfl rfl (fun y3 => ?_) (fun y3 => ?_)
    · rw [runI_t y3]
      refine go_retS W 0 300 4 rfl (by first | exact True.intro | (simp only [AllC, AllP, addN, Int.toNat_natCast, true_and, and_true, Option.getD, List.length_set, wrapU, pw1, pw7, pw8, pw16, pw23, pw32, pw52, Holds] <;> first | omega | ((repeat' apply And.intro) <;> first | omega | (intros; rfl))) | (simp [AllC, AllP, addN, cloL, clo, mrgL, mrg, wrapU, Holds] <;> omega)) rfl (by first | exact True.intro | (simp only [AllC, AllP, addN, Int.toNat_natCast, true_and, and_true, Option.getD, List.length_set, wrapU, pw1, pw7, pw8, pw16, pw23, pw32, pw52, Holds] <;> first | omega | ((repeat' apply And.intro) <;> first | omega | (intros; rfl))) | (simp [AllC, AllP, addN, cloL, clo, mrgL, mrg, wrapU, Holds] <;> omega)) (.int .i64 (r3)) .refl rfl ⟨g3, rfl, rfl⟩
    · rw [runI_f y3]
      obtain ⟨⟨r4, N4, F4⟩, e4⟩ : ∃ q, runI (raisedP (x.b) (2)) N3 F3 = q := ⟨_, rfl⟩
      have c4 : AFun Tryz.prog 81 [.ptr 0 0 0 0, .int .i64 (x.b), .int .i64 (2)] (LayS N3 F3 g3) (LayQ (r4, N4, F4)) := by
        have := raised_ok (x.b) (2) N3 F3 g3 hN3
        rw [e4] at this
        exact this
      have hr4 : 0 ≤ r4 := by
        have := runI_nn (P := raisedP (x.b) (2)) (nn_raised _ hxb) N3 F3
        rw [e4] at this
        exact this
      have hN4 : N4.length ≤ 120 := by
        have := runI_len (raisedP (x.b) (2)) N3 F3 hN3
        rw [e4] at this
        exact this
      refine go_callS W 0 300 [0, 1, 2] rfl (by first | exact True.intro | (simp only [AllC, AllP, addN, Int.toNat_natCast, true_and, and_true, Option.getD, List.length_set, wrapU, pw1, pw7, pw8, pw16, pw23, pw32, pw52, Holds] <;> first | omega | ((repeat' apply And.intro) <;> first | omega | (intros; rfl))) | (simp [AllC, AllP, addN, cloL, clo, mrgL, mrg, wrapU, Holds] <;> omega)) c4 rfl rfl ⟨rfl, fun _ _ => rfl, trivial, trivial⟩ ⟨rfl, rfl, rfl, trivial⟩ rfl ?_
      rintro _ _ ⟨g4, rfl, rfl⟩
      refine ⟨_, _, rfl, rfl, ?_⟩
      rw [runI_bind, e4]
      dsimp only
      obtain ⟨⟨r5, N5, F5⟩, e5⟩ : ∃ q, runI (byP (r3) (r4)) N4 F4 = q := ⟨_, rfl⟩
      have c5 : AFun Tryz.prog 80 [.ptr 0 0 0 0, .int .i64 (r3), .int .i64 (r4)] (LayS N4 F4 g4) (LayQ (r5, N5, F5)) := by
        have := by_ok (r3) (r4) N4 F4 g4 hr3 hr4 hN4
        rw [e5] at this
        exact this
      have hr5 : 0 ≤ r5 := by
        have := runI_nn (P := byP (r3) (r4)) (nn_by hr3 hr4) N4 F4
        rw [e5] at this
        exact this
      have hN5 : N5.length ≤ 120 := by
        have := runI_len (byP (r3) (r4)) N4 F4 hN4
        rw [e5] at this
        exact this
      refine go_callS W 0 300 [0, 1, 2] rfl (by first | exact True.intro | (simp only [AllC, AllP, addN, Int.toNat_natCast, true_and, and_true, Option.getD, List.length_set, wrapU, pw1, pw7, pw8, pw16, pw23, pw32, pw52, Holds] <;> first | omega | ((repeat' apply And.intro) <;> first | omega | (intros; rfl))) | (simp [AllC, AllP, addN, cloL, clo, mrgL, mrg, wrapU, Holds] <;> omega)) c5 rfl rfl ⟨rfl, fun _ _ => rfl, trivial, trivial⟩ ⟨rfl, rfl, rfl, trivial⟩ rfl ?_
      rintro _ _ ⟨g5, rfl, rfl⟩
      refine ⟨_, _, rfl, rfl, ?_⟩
      rw [e5]
      refine go_retS W 0 300 4 rfl (by first | exact True.intro | (simp only [AllC, AllP, addN, Int.toNat_natCast, true_and, and_true, Option.getD, List.length_set, wrapU, pw1, pw7, pw8, pw16, pw23, pw32, pw52, Holds] <;> first | omega | ((repeat' apply And.intro) <;> first | omega | (intros; rfl))) | (simp [AllC, AllP, addN, cloL, clo, mrgL, mrg, wrapU, Holds] <;> omega)) rfl (by first | exact True.intro | (simp only [AllC, AllP, addN, Int.toNat_natCast, true_and, and_true, Option.getD, List.length_set, wrapU, pw1, pw7, pw8, pw16, pw23, pw32, pw52, Holds] <;> first | omega | ((repeat' apply And.intro) <;> first | omega | (intros; rfl))) | (simp [AllC, AllP, addN, cloL, clo, mrgL, mrg, wrapU, Holds] <;> omega)) (.int .i64 (r5)) .refl rfl ⟨g5, rfl, rfl⟩
  rw [if_neg k7]
  refine sp W 0 rfl rfl rfl (fun k8 => ?_) (fun k8 => ?_)
  · rw [if_pos k8]
    have hxa := (hpa (by omega)).1
    have ha2 := (hpa (by omega)).2
    have zA : addN 0 x.a.toNat = x.a.toNat := addNz _
    have zB : addN 0 x.b.toNat = x.b.toNat := addNz _
    refine sp W 0 rfl rfl rfl (fun w1 => ?_) (fun w1 => ?_)
    · rw [if_pos w1]
      obtain ⟨⟨r1, N1, F1⟩, e1⟩ : ∃ q, runI (numP t0) N F = q := ⟨_, rfl⟩
      have c1 : AFun Tryz.prog 74 [.ptr 0 0 0 0, .int .i64 (0)] (LayS N F g) (LayQ (r1, N1, F1)) := by
        have := (show AFun _ _ _ _ (LayQ (runI (numP (Lib.decDigits 0)) N F)) from number_ok (0) N F g (by omega) (by omega) hN)
        rw [dec_small (by omega)] at this
        have this : AFun _ _ _ _ (LayQ (runI (numP t0) N F)) := this
        rw [e1] at this
        exact this
      have hr1 : 0 ≤ r1 := by
        have := runI_nn (P := numP t0) (nn_num _) N F
        rw [e1] at this
        exact this
      have hN1 : N1.length ≤ 120 := by
        have := runI_len (numP t0) N F hN
        rw [e1] at this
        exact this
      refine go_callS W 0 300 [0, 1, 2] rfl (by first | exact True.intro | (simp only [AllC, AllP, addN, Int.toNat_natCast, true_and, and_true, Option.getD, List.length_set, wrapU, pw1, pw7, pw8, pw16, pw23, pw32, pw52, Holds] <;> first | omega | ((repeat' apply And.intro) <;> first | omega | (intros; rfl))) | (simp [AllC, AllP, addN, cloL, clo, mrgL, mrg, wrapU, Holds] <;> omega)) c1 rfl rfl ⟨rfl, fun _ _ => rfl, trivial, trivial⟩ ⟨rfl, rfl, rfl, trivial⟩ rfl ?_
      rintro _ _ ⟨g1, rfl, rfl⟩
      refine ⟨_, _, rfl, rfl, ?_⟩
      rw [e1]
      refine go_retS W 0 300 4 rfl (by first | exact True.intro | (simp only [AllC, AllP, addN, Int.toNat_natCast, true_and, and_true, Option.getD, List.length_set, wrapU, pw1, pw7, pw8, pw16, pw23, pw32, pw52, Holds] <;> first | omega | ((repeat' apply And.intro) <;> first | omega | (intros; rfl))) | (simp [AllC, AllP, addN, cloL, clo, mrgL, mrg, wrapU, Holds] <;> omega)) rfl (by first | exact True.intro | (simp only [AllC, AllP, addN, Int.toNat_natCast, true_and, and_true, Option.getD, List.length_set, wrapU, pw1, pw7, pw8, pw16, pw23, pw32, pw52, Holds] <;> first | omega | ((repeat' apply And.intro) <;> first | omega | (intros; rfl))) | (simp [AllC, AllP, addN, cloL, clo, mrgL, mrg, wrapU, Holds] <;> omega)) (.int .i64 (r1)) .refl rfl ⟨g1, rfl, rfl⟩
    rw [if_neg w1]
    refine sp W 0 rfl rfl rfl (fun w2 => ?_) (fun w2 => ?_)
    · rw [if_pos w2]
      refine go_retS W 0 300 4 rfl (by first | exact True.intro | (simp only [AllC, AllP, addN, Int.toNat_natCast, true_and, and_true, Option.getD, List.length_set, wrapU, pw1, pw7, pw8, pw16, pw23, pw32, pw52, Holds] <;> first | omega | ((repeat' apply And.intro) <;> first | omega | (intros; rfl))) | (simp [AllC, AllP, addN, cloL, clo, mrgL, mrg, wrapU, Holds] <;> omega)) rfl (by first | exact True.intro | (simp only [AllC, AllP, addN, Int.toNat_natCast, true_and, and_true, Option.getD, List.length_set, wrapU, pw1, pw7, pw8, pw16, pw23, pw32, pw52, Holds] <;> first | omega | ((repeat' apply And.intro) <;> first | omega | (intros; rfl))) | (simp [AllC, AllP, addN, cloL, clo, mrgL, mrg, wrapU, Holds] <;> omega)) (.int .i64 (ofK K x.a)) (.int (by rw [addNz]; rfl)) rfl ⟨g, rfl, rfl⟩
    rw [if_neg w2]
    have ci0 : AFun Tryz.prog 79 [.ptr 0 0 0 0, .int .i64 (K.getD (addN 0 x.a.toNat) 0), .str t0] (LayS N F g) (fun u H => u = .pr ((ofK K x.a) < N.length ∧ N.getD (ofK K x.a).toNat g0 = numG t0) ∧ H = LayS N F g) := by
      have := is_ok (ofK K x.a) t0 N F g hA hN
      rw [addNz]
      exact this
    refine go_callS W 0 300 [0, 1, 2] rfl (by first | exact True.intro | (simp only [AllC, AllP, addN, Int.toNat_natCast, true_and, and_true, Option.getD, List.length_set, wrapU, pw1, pw7, pw8, pw16, pw23, pw32, pw52, Holds] <;> first | omega | ((repeat' apply And.intro) <;> first | omega | (intros; rfl))) | (simp [AllC, AllP, addN, cloL, clo, mrgL, mrg, wrapU, Holds] <;> omega)) ci0 rfl rfl ⟨rfl, fun _ _ => rfl, trivial, trivial⟩ ⟨rfl, rfl, rfl, trivial⟩ rfl ?_
    rintro _ _ ⟨rfl, rfl⟩
    refine ⟨_, _, rfl, rfl, ?_⟩
    refine sp W 0 rfl rfl rfl (fun y0 => ?_) (fun y0 => ?_)
    · rw [runI_t y0]
      refine go_retS W 0 300 4 rfl (by first | exact True.intro | (simp only [AllC, AllP, addN, Int.toNat_natCast, true_and, and_true, Option.getD, List.length_set, wrapU, pw1, pw7, pw8, pw16, pw23, pw32, pw52, Holds] <;> first | omega | ((repeat' apply And.intro) <;> first | omega | (intros; rfl))) | (simp [AllC, AllP, addN, cloL, clo, mrgL, mrg, wrapU, Holds] <;> omega)) rfl (by first | exact True.intro | (simp only [AllC, AllP, addN, Int.toNat_natCast, true_and, and_true, Option.getD, List.length_set, wrapU, pw1, pw7, pw8, pw16, pw23, pw32, pw52, Holds] <;> first | omega | ((repeat' apply And.intro) <;> first | omega | (intros; rfl))) | (simp [AllC, AllP, addN, cloL, clo, mrgL, mrg, wrapU, Holds] <;> omega)) (.int .i64 (ofK K x.a)) (.int (by rw [addNz]; rfl)) rfl ⟨g, rfl, rfl⟩
    · rw [runI_f y0]
      obtain ⟨⟨r1, N1, F1⟩, e1⟩ : ∃ q, runI (numP (Lib.decDigits (x.n).toNat)) N F = q := ⟨_, rfl⟩
      have c1 : AFun Tryz.prog 74 [.ptr 0 0 0 0, .int .i64 (x.n)] (LayS N F g) (LayQ (r1, N1, F1)) := by
        have := number_ok (x.n) N F g (by omega) (by omega) hN
        rw [e1] at this
        exact this
      have hr1 : 0 ≤ r1 := by
        have := runI_nn (P := numP (Lib.decDigits (x.n).toNat)) (nn_num _) N F
        rw [e1] at this
        exact this
      have hN1 : N1.length ≤ 120 := by
        have := runI_len (numP (Lib.decDigits (x.n).toNat)) N F hN
        rw [e1] at this
        exact this
      refine go_callS W 0 300 [0, 1, 2] rfl (by first | exact True.intro | (simp only [AllC, AllP, addN, Int.toNat_natCast, true_and, and_true, Option.getD, List.length_set, wrapU, pw1, pw7, pw8, pw16, pw23, pw32, pw52, Holds] <;> first | omega | ((repeat' apply And.intro) <;> first | omega | (intros; rfl))) | (simp [AllC, AllP, addN, cloL, clo, mrgL, mrg, wrapU, Holds] <;> omega)) c1 rfl rfl ⟨rfl, fun _ _ => rfl, trivial, trivial⟩ ⟨rfl, rfl, rfl, trivial⟩ rfl ?_
      rintro _ _ ⟨g1, rfl, rfl⟩
      refine ⟨_, _, rfl, rfl, ?_⟩
      rw [runI_bind, e1]
      dsimp only
      obtain ⟨⟨r2, N2, F2⟩, e2⟩ : ∃ q, runI (raisedP (x.a) (x.n - 1)) N1 F1 = q := ⟨_, rfl⟩
      have c2 : AFun Tryz.prog 81 [.ptr 0 0 0 0, .int .i64 (x.a), .int .i64 (x.n - 1)] (LayS N1 F1 g1) (LayQ (r2, N2, F2)) := by
        have := raised_ok (x.a) (x.n - 1) N1 F1 g1 hN1
        rw [e2] at this
        exact this
      have hr2 : 0 ≤ r2 := by
        have := runI_nn (P := raisedP (x.a) (x.n - 1)) (nn_raised _ hxa) N1 F1
        rw [e2] at this
        exact this
      have hN2 : N2.length ≤ 120 := by
        have := runI_len (raisedP (x.a) (x.n - 1)) N1 F1 hN1
        rw [e2] at this
        exact this
      refine phg W 0 14 [8, 9] rfl rfl (fun PW => ?_)
      refine phl PW 0 [8] [] [] rfl rfl trivial ⟨?_, trivial⟩ (hp := by simp only [AllP, Holds, Option.getD, true_and, and_true]; omega)
      refine nx_call PW rfl (AFun.sub (ρ := [0, 1, 2]) c2 rfl ⟨rfl, fun _ _ => rfl, trivial, trivial⟩ ⟨rfl, rfl, rfl, trivial⟩ (by decide)) ?_
      rintro _ _ ⟨_, _, ⟨g2, rfl, rfl⟩, rfl, hl2⟩
      obtain rfl := Option.some.inj (show some _ = some _ from hl2)
      refine ⟨_, rfl, ?_⟩
      rw [runI_bind, e2]
      dsimp only
      obtain ⟨⟨r3, N3, F3⟩, e3⟩ : ∃ q, runI (timesP (r1) (r2)) N2 F2 = q := ⟨_, rfl⟩
      have c3 : AFun Tryz.prog 78 [.ptr 0 0 0 0, .int .i64 (r1), .int .i64 (r2)] (LayS N2 F2 g2) (LayQ (r3, N3, F3)) := by
        have := times_ok (r1) (r2) N2 F2 g2 hr1 hr2 hN2
        rw [e3] at this
        exact this
      have hr3 : 0 ≤ r3 := by
        have := runI_nn (P := timesP (r1) (r2)) (nn_times hr1 hr2) N2 F2
        rw [e3] at this
        exact this
      have hN3 : N3.length ≤ 120 := by
        have := runI_len (timesP (r1) (r2)) N2 F2 hN2
        rw [e3] at this
        exact this
      refine phl PW 0 [9] [] [] rfl rfl trivial ⟨?_, trivial⟩ (hp := by simp only [AllP, Holds, Option.getD, true_and, and_true]; omega)
      refine nx_call PW rfl (AFun.sub (ρ := [0, 1, 2]) c3 rfl ⟨rfl, fun _ _ => rfl, trivial, trivial⟩ ⟨rfl, rfl, rfl, trivial⟩ (by decide)) ?_
      rintro _ _ ⟨_, _, ⟨g3, rfl, rfl⟩, rfl, hl3⟩
      obtain rfl := Option.some.inj (show some _ = some _ from hl3)
      refine ⟨_, rfl, ?_⟩
      refine phe PW 0 [] [] rfl trivial rfl ?_
      rw [runI_bind, e3]
      dsimp only
      obtain ⟨⟨r4, N4, F4⟩, e4⟩ : ∃ q, runI (timesP (r3) (ofK K x.a)) N3 F3 = q := ⟨_, rfl⟩
      have c4 : AFun Tryz.prog 78 [.ptr 0 0 0 0, .int .i64 (r3), .int .i64 (K.getD (addN 0 x.a.toNat) 0)] (LayS N3 F3 g3) (LayQ (r4, N4, F4)) := by
        have := times_ok (r3) (ofK K x.a) N3 F3 g3 hr3 hA hN3
        rw [e4] at this
        rw [addNz]
        exact this
      have hr4 : 0 ≤ r4 := by
        have := runI_nn (P := timesP (r3) (ofK K x.a)) (nn_times hr3 hA) N3 F3
        rw [e4] at this
        exact this
      have hN4 : N4.length ≤ 120 := by
        have := runI_len (timesP (r3) (ofK K x.a)) N3 F3 hN3
        rw [e4] at this
        exact this
      refine go_callS W 0 300 [0, 1, 2] rfl (by first | exact True.intro | (simp only [AllC, AllP, addN, Int.toNat_natCast, true_and, and_true, Option.getD, List.length_set, wrapU, pw1, pw7, pw8, pw16, pw23, pw32, pw52, Holds] <;> first | omega | ((repeat' apply And.intro) <;> first | omega | (intros; rfl))) | (simp [AllC, AllP, addN, cloL, clo, mrgL, mrg, wrapU, Holds] <;> omega)) c4 rfl rfl ⟨rfl, fun _ _ => rfl, trivial, trivial⟩ ⟨rfl, rfl, rfl, trivial⟩ rfl ?_
      rintro _ _ ⟨g4, rfl, rfl⟩
      refine ⟨_, _, rfl, rfl, ?_⟩
      rw [e4]
      refine go_retS W 0 300 4 rfl (by first | exact True.intro | (simp only [AllC, AllP, addN, Int.toNat_natCast, true_and, and_true, Option.getD, List.length_set, wrapU, pw1, pw7, pw8, pw16, pw23, pw32, pw52, Holds] <;> first | omega | ((repeat' apply And.intro) <;> first | omega | (intros; rfl))) | (simp [AllC, AllP, addN, cloL, clo, mrgL, mrg, wrapU, Holds] <;> omega)) rfl (by first | exact True.intro | (simp only [AllC, AllP, addN, Int.toNat_natCast, true_and, and_true, Option.getD, List.length_set, wrapU, pw1, pw7, pw8, pw16, pw23, pw32, pw52, Holds] <;> first | omega | ((repeat' apply And.intro) <;> first | omega | (intros; rfl))) | (simp [AllC, AllP, addN, cloL, clo, mrgL, mrg, wrapU, Holds] <;> omega)) (.int .i64 (r4)) .refl rfl ⟨g4, rfl, rfl⟩
  rw [if_neg k8]
  refine sp W 0 rfl rfl rfl (fun k9 => ?_) (fun k9 => ?_)
  · rw [if_pos k9]
    have hxa := (hpa (by omega)).1
    have ha2 := (hpa (by omega)).2
    have zA : addN 0 x.a.toNat = x.a.toNat := addNz _
    have zB : addN 0 x.b.toNat = x.b.toNat := addNz _
    have ci0 : AFun Tryz.prog 79 [.ptr 0 0 0 0, .int .i64 (K.getD (addN 0 x.a.toNat) 0), .str t0] (LayS N F g) (fun u H => u = .pr ((ofK K x.a) < N.length ∧ N.getD (ofK K x.a).toNat g0 = numG t0) ∧ H = LayS N F g) := by
      have := is_ok (ofK K x.a) t0 N F g hA hN
      rw [addNz]
      exact this
    refine go_callS W 0 300 [0, 1, 2] rfl (by first | exact True.intro | (simp only [AllC, AllP, addN, Int.toNat_natCast, true_and, and_true, Option.getD, List.length_set, wrapU, pw1, pw7, pw8, pw16, pw23, pw32, pw52, Holds] <;> first | omega | ((repeat' apply And.intro) <;> first | omega | (intros; rfl))) | (simp [AllC, AllP, addN, cloL, clo, mrgL, mrg, wrapU, Holds] <;> omega)) ci0 rfl rfl ⟨rfl, fun _ _ => rfl, trivial, trivial⟩ ⟨rfl, rfl, rfl, trivial⟩ rfl ?_
    rintro _ _ ⟨rfl, rfl⟩
    refine ⟨_, _, rfl, rfl, ?_⟩
    refine sp W 0 rfl rfl rfl (fun y0 => ?_) (fun y0 => ?_)
    · rw [runI_t y0]
      refine go_retS W 0 300 4 rfl (by first | exact True.intro | (simp only [AllC, AllP, addN, Int.toNat_natCast, true_and, and_true, Option.getD, List.length_set, wrapU, pw1, pw7, pw8, pw16, pw23, pw32, pw52, Holds] <;> first | omega | ((repeat' apply And.intro) <;> first | omega | (intros; rfl))) | (simp [AllC, AllP, addN, cloL, clo, mrgL, mrg, wrapU, Holds] <;> omega)) rfl (by first | exact True.intro | (simp only [AllC, AllP, addN, Int.toNat_natCast, true_and, and_true, Option.getD, List.length_set, wrapU, pw1, pw7, pw8, pw16, pw23, pw32, pw52, Holds] <;> first | omega | ((repeat' apply And.intro) <;> first | omega | (intros; rfl))) | (simp [AllC, AllP, addN, cloL, clo, mrgL, mrg, wrapU, Holds] <;> omega)) (.int .i64 (ofK K x.a)) (.int (by rw [addNz]; rfl)) rfl ⟨g, rfl, rfl⟩
    · rw [runI_f y0]
      obtain ⟨⟨r1, N1, F1⟩, e1⟩ : ∃ q, runI (numP [50]) N F = q := ⟨_, rfl⟩
      have c1 : AFun Tryz.prog 74 [.ptr 0 0 0 0, .int .i64 (2)] (LayS N F g) (LayQ (r1, N1, F1)) := by
        have := (show AFun _ _ _ _ (LayQ (runI (numP (Lib.decDigits 2)) N F)) from number_ok (2) N F g (by omega) (by omega) hN)
        rw [dec_small (by omega)] at this
        have this : AFun _ _ _ _ (LayQ (runI (numP [50]) N F)) := this
        rw [e1] at this
        exact this
      have hr1 : 0 ≤ r1 := by
        have := runI_nn (P := numP [50]) (nn_num _) N F
        rw [e1] at this
        exact this
      have hN1 : N1.length ≤ 120 := by
        have := runI_len (numP [50]) N F hN
        rw [e1] at this
        exact this
      refine go_callS W 0 300 [0, 1, 2] rfl (by first | exact True.intro | (simp only [AllC, AllP, addN, Int.toNat_natCast, true_and, and_true, Option.getD, List.length_set, wrapU, pw1, pw7, pw8, pw16, pw23, pw32, pw52, Holds] <;> first | omega | ((repeat' apply And.intro) <;> first | omega | (intros; rfl))) | (simp [AllC, AllP, addN, cloL, clo, mrgL, mrg, wrapU, Holds] <;> omega)) c1 rfl rfl ⟨rfl, fun _ _ => rfl, trivial, trivial⟩ ⟨rfl, rfl, rfl, trivial⟩ rfl ?_
      rintro _ _ ⟨g1, rfl, rfl⟩
      refine ⟨_, _, rfl, rfl, ?_⟩
      rw [runI_bind, e1]
      dsimp only
      obtain ⟨⟨r2, N2, F2⟩, e2⟩ : ∃ q, runI (timesP (r1) (at')) N1 F1 = q := ⟨_, rfl⟩
      have c2 : AFun Tryz.prog 78 [.ptr 0 0 0 0, .int .i64 (r1), .int .i64 (at')] (LayS N1 F1 g1) (LayQ (r2, N2, F2)) := by
        have := times_ok (r1) (at') N1 F1 g1 hr1 hat hN1
        rw [e2] at this
        exact this
      have hr2 : 0 ≤ r2 := by
        have := runI_nn (P := timesP (r1) (at')) (nn_times hr1 hat) N1 F1
        rw [e2] at this
        exact this
      have hN2 : N2.length ≤ 120 := by
        have := runI_len (timesP (r1) (at')) N1 F1 hN1
        rw [e2] at this
        exact this
      refine phg W 0 9 [8] rfl rfl (fun PW => ?_)
      refine phl PW 0 [8] [] [] rfl rfl trivial ⟨?_, trivial⟩ (hp := by simp only [AllP, Holds, Option.getD, true_and, and_true]; omega)
      refine nx_call PW rfl (AFun.sub (ρ := [0, 1, 2]) c2 rfl ⟨rfl, fun _ _ => rfl, trivial, trivial⟩ ⟨rfl, rfl, rfl, trivial⟩ (by decide)) ?_
      rintro _ _ ⟨_, _, ⟨g2, rfl, rfl⟩, rfl, hl2⟩
      obtain rfl := Option.some.inj (show some _ = some _ from hl2)
      refine ⟨_, rfl, ?_⟩
      refine phe PW 0 [] [] rfl trivial rfl ?_
      rw [runI_bind, e2]
      dsimp only
      obtain ⟨⟨r3, N3, F3⟩, e3⟩ : ∃ q, runI (byP (ofK K x.a) (r2)) N2 F2 = q := ⟨_, rfl⟩
      have c3 : AFun Tryz.prog 80 [.ptr 0 0 0 0, .int .i64 (K.getD (addN 0 x.a.toNat) 0), .int .i64 (r2)] (LayS N2 F2 g2) (LayQ (r3, N3, F3)) := by
        have := by_ok (ofK K x.a) (r2) N2 F2 g2 hA hr2 hN2
        rw [e3] at this
        rw [addNz]
        exact this
      have hr3 : 0 ≤ r3 := by
        have := runI_nn (P := byP (ofK K x.a) (r2)) (nn_by hA hr2) N2 F2
        rw [e3] at this
        exact this
      have hN3 : N3.length ≤ 120 := by
        have := runI_len (byP (ofK K x.a) (r2)) N2 F2 hN2
        rw [e3] at this
        exact this
      refine go_callS W 0 300 [0, 1, 2] rfl (by first | exact True.intro | (simp only [AllC, AllP, addN, Int.toNat_natCast, true_and, and_true, Option.getD, List.length_set, wrapU, pw1, pw7, pw8, pw16, pw23, pw32, pw52, Holds] <;> first | omega | ((repeat' apply And.intro) <;> first | omega | (intros; rfl))) | (simp [AllC, AllP, addN, cloL, clo, mrgL, mrg, wrapU, Holds] <;> omega)) c3 rfl rfl ⟨rfl, fun _ _ => rfl, trivial, trivial⟩ ⟨rfl, rfl, rfl, trivial⟩ rfl ?_
      rintro _ _ ⟨g3, rfl, rfl⟩
      refine ⟨_, _, rfl, rfl, ?_⟩
      rw [e3]
      refine go_retS W 0 300 4 rfl (by first | exact True.intro | (simp only [AllC, AllP, addN, Int.toNat_natCast, true_and, and_true, Option.getD, List.length_set, wrapU, pw1, pw7, pw8, pw16, pw23, pw32, pw52, Holds] <;> first | omega | ((repeat' apply And.intro) <;> first | omega | (intros; rfl))) | (simp [AllC, AllP, addN, cloL, clo, mrgL, mrg, wrapU, Holds] <;> omega)) rfl (by first | exact True.intro | (simp only [AllC, AllP, addN, Int.toNat_natCast, true_and, and_true, Option.getD, List.length_set, wrapU, pw1, pw7, pw8, pw16, pw23, pw32, pw52, Holds] <;> first | omega | ((repeat' apply And.intro) <;> first | omega | (intros; rfl))) | (simp [AllC, AllP, addN, cloL, clo, mrgL, mrg, wrapU, Holds] <;> omega)) (.int .i64 (r3)) .refl rfl ⟨g3, rfl, rfl⟩
  rw [if_neg k9]
  obtain ⟨⟨r1, N1, F1⟩, e1⟩ : ∃ q, runI (numP t0) N F = q := ⟨_, rfl⟩
  have c1 : AFun Tryz.prog 74 [.ptr 0 0 0 0, .int .i64 (0)] (LayS N F g) (LayQ (r1, N1, F1)) := by
    have := (show AFun _ _ _ _ (LayQ (runI (numP (Lib.decDigits 0)) N F)) from number_ok (0) N F g (by omega) (by omega) hN)
    rw [dec_small (by omega)] at this
    have this : AFun _ _ _ _ (LayQ (runI (numP t0) N F)) := this
    rw [e1] at this
    exact this
  have hr1 : 0 ≤ r1 := by
    have := runI_nn (P := numP t0) (nn_num _) N F
    rw [e1] at this
    exact this
  have hN1 : N1.length ≤ 120 := by
    have := runI_len (numP t0) N F hN
    rw [e1] at this
    exact this
  refine go_callS W 0 300 [0, 1, 2] rfl (by first | exact True.intro | (simp only [AllC, AllP, addN, Int.toNat_natCast, true_and, and_true, Option.getD, List.length_set, wrapU, pw1, pw7, pw8, pw16, pw23, pw32, pw52, Holds] <;> first | omega | ((repeat' apply And.intro) <;> first | omega | (intros; rfl))) | (simp [AllC, AllP, addN, cloL, clo, mrgL, mrg, wrapU, Holds] <;> omega)) c1 rfl rfl ⟨rfl, fun _ _ => rfl, trivial, trivial⟩ ⟨rfl, rfl, rfl, trivial⟩ rfl ?_
  rintro _ _ ⟨g1, rfl, rfl⟩
  refine ⟨_, _, rfl, rfl, ?_⟩
  rw [e1]
  refine go_retS W 0 300 4 rfl (by first | exact True.intro | (simp only [AllC, AllP, addN, Int.toNat_natCast, true_and, and_true, Option.getD, List.length_set, wrapU, pw1, pw7, pw8, pw16, pw23, pw32, pw52, Holds] <;> first | omega | ((repeat' apply And.intro) <;> first | omega | (intros; rfl))) | (simp [AllC, AllP, addN, cloL, clo, mrgL, mrg, wrapU, Holds] <;> omega)) rfl (by first | exact True.intro | (simp only [AllC, AllP, addN, Int.toNat_natCast, true_and, and_true, Option.getD, List.length_set, wrapU, pw1, pw7, pw8, pw16, pw23, pw32, pw52, Holds] <;> first | omega | ((repeat' apply And.intro) <;> first | omega | (intros; rfl))) | (simp [AllC, AllP, addN, cloL, clo, mrgL, mrg, wrapU, Holds] <;> omega)) (.int .i64 (r1)) .refl rfl ⟨g1, rfl, rfl⟩

end Pf
/- Slopes: the model's maker -/
namespace Pf
open Go Go.Proofs
/-- A graph that nodes are put into. -/
def PutQ (v : Int) (rs : List Gr) (r : Int × List Gn) (u : AV) (H : AHeap) : Prop := ∃ g', u = .tup [.agg [.int .i64 v, .sl 0 g' 0 r.2.length, .fz rs.length (grR rs)], .int .i64 r.1] ∧ H = [.tab g' r.2.length (gnR r.2)]
theorem l15Put_ok (x : Gn) (v : Int) (N : List Gn) (rs : List Gr) (g : Nat) (hN : N.length ≤ 1000000) : AFun Tryz.prog 34 [.agg [.int .i64 v, .sl 0 g 0 N.length, .fz rs.length (grR rs)], gnV x] [.tab g N.length (gnR N)] (PutQ v rs (runS (.put x .ret) N)) := by
  unfold gnV
  refine AFun.trim 1 ?_ (by simp)
  refine afun_of Tryz.func34 Tryz.call34 rfl Tryz.ntmps34 rfl ?_
  have W : Walk Tryz.prog TT 34 _ := Walk.of TT_ok Tryz.func34 Tryz.results34
  refine lp W 0 (σ := Nat) (fun i => [(2, .ptr 1 0 0 0), (3, .ptr 2 0 0 0), (4, .ptr 3 0 0 0), (6, .int .i64 i)]) (fun _ => [.tab g N.length (gnR N), .lst 0 [[.int .i64 v, .sl 0 g 0 N.length, .fz rs.length (grR rs)]], .lst 0 [[.int .i64 x.k, .int .i64 x.a, .int .i64 x.b, .int .i64 x.n, .str x.t]], .lst 0 [[.int .i64 0, .nils, .nils]]]) (fun i => N.length - i) (fun i => i ≤ N.length ∧ ∀ j, j < i → N.getD j g0 ≠ x) 0 [2, 3, 4, 6] rfl rfl rfl ⟨Nat.zero_le _, fun j hj => by omega⟩ ?_
  rintro i ⟨hi, he⟩ ih
  refine sp W 0 rfl rfl rfl (fun z1 => ?_) (fun z1 => ?_)
  · have hi2 : i < N.length := by omega
    have iN : addN 0 ((i : Nat) : Int).toNat = i := by rw [addNz, Int.toNat_natCast]
    refine dre W 0 6 [] [] rfl rfl rfl trivial rfl ?_ (hp := by simp only [AllP, Holds, Option.getD, true_and, and_true]; omega)
    rw [iN]
    refine sp W 0 rfl rfl rfl (fun z2 => ?_) (fun z2 => ?_)
    · have hz : N.getD i g0 = x := gk_inj z2
      have hx : x ∈ N := by rw [← hz]; exact getD_mem hi2
      have e : runS (.put x .ret) N = (((i : Nat) : Int), N) := by simp only [runS]; rw [if_pos hx, idxG_first hi2 hz he]
      rw [e]
      refine go_retS W 0 300 1 rfl (by first | exact True.intro | (simp only [AllC, AllP, addN, Int.toNat_natCast, true_and, and_true, Option.getD, List.length_set, wrapU, pw1, pw7, pw8, pw16, pw23, pw32, pw52, Holds] <;> first | omega | ((repeat' apply And.intro) <;> first | omega | (intros; rfl))) | (simp [AllC, AllP, addN, cloL, clo, mrgL, mrg, wrapU, Holds] <;> omega)) rfl (by first | exact True.intro | (simp only [AllC, AllP, addN, Int.toNat_natCast, true_and, and_true, Option.getD, List.length_set, wrapU, pw1, pw7, pw8, pw16, pw23, pw32, pw52, Holds] <;> first | omega | ((repeat' apply And.intro) <;> first | omega | (intros; rfl))) | (simp [AllC, AllP, addN, cloL, clo, mrgL, mrg, wrapU, Holds] <;> omega)) (.tup [.agg [.int .i64 v, .sl 0 g 0 N.length, .fz rs.length (grR rs)], .int .i64 (i : Nat)]) .refl rfl ⟨g, rfl, rfl⟩
    · refine bd W 0 4 [2, 3, 4, 6] rfl rfl rfl rfl rfl (ih (i + 1) ⟨by omega, fun j hj => ?_⟩ (by omega))
      by_cases hji : j = i
      · subst hji; exact fun k => z2 (by rw [k])
      · exact he j (by omega)
  · have hx : x ∉ N := fun k => by
      obtain ⟨j, hj, e⟩ := mem_getD g0 k
      exact he j (by omega) e
    have e : runS (.put x .ret) N = (((N.length : Nat) : Int), N ++ [x]) := by simp only [runS]; rw [if_neg hx]
    rw [e]
    refine phg W 0 6 [5] rfl rfl (fun PW => ?_)
    refine pho PW 0 5 [] [] rfl rfl trivial rfl rfl ?_
    refine phe PW 0 [] [] rfl trivial rfl ?_
    refine go_tab 0 (N.length + 1) (gnR (N ++ [x])) rfl rfl rfl (by rw [addNz]; exact Nat.le_refl _) (fun j hj => ?_) (.inl rfl) ?_
    · rw [addNz]
      exact (gnR_app N x j hj).symm
    have e2 : ((N.length + 1 : Nat) : Int) - 1 = (N.length : Nat) := by omega
    have e3 : (N ++ [x]).length = N.length + 1 := by simp
    refine go_retS W 0 300 1 rfl (by first | exact True.intro | (simp only [AllC, AllP, addN, Int.toNat_natCast, true_and, and_true, Option.getD, List.length_set, wrapU, pw1, pw7, pw8, pw16, pw23, pw32, pw52, Holds] <;> first | omega | ((repeat' apply And.intro) <;> first | omega | (intros; rfl))) | (simp [AllC, AllP, addN, cloL, clo, mrgL, mrg, wrapU, Holds] <;> omega)) rfl (by first | exact True.intro | (simp only [AllC, AllP, addN, Int.toNat_natCast, true_and, and_true, Option.getD, List.length_set, wrapU, pw1, pw7, pw8, pw16, pw23, pw32, pw52, Holds] <;> first | omega | ((repeat' apply And.intro) <;> first | omega | (intros; rfl))) | (simp [AllC, AllP, addN, cloL, clo, mrgL, mrg, wrapU, Holds] <;> omega)) (.tup [.agg [.int .i64 v, .sl 0 (g + 1) 0 (N.length + 1), .fz rs.length (grR rs)], .int .i64 (N.length : Nat)]) (.tup ⟨.refl, .int e2, trivial⟩) rfl ⟨g + 1, by dsimp only; rw [e3], by dsimp only; rw [e3]⟩
def MkS (v : Int) (rs : List Gr) (N : List Gn) (g : Nat) : AHeap := [.lst 0 [[.int .i64 v, .sl 1 g 0 N.length, .fz rs.length (grR rs)]], .tab g N.length (gnR N)]
def MkQ (v : Int) (rs : List Gr) (r : Int × List Gn) (u : AV) (H : AHeap) : Prop := ∃ g', u = .int .i64 r.1 ∧ H = MkS v rs r.2 g'
theorem mput_ok (x : Gn) (v : Int) (N : List Gn) (rs : List Gr) (g : Nat) (hN : N.length ≤ 1000000) : AFun Tryz.prog 87 [.ptr 0 0 0 0, gnV x] (MkS v rs N g) (MkQ v rs (runS (.put x .ret) N)) := by
  have c := l15Put_ok x v N rs g hN
  unfold gnV at c ⊢
  refine AFun.trim 2 ?_ (by simp [MkS])
  refine afun_of Tryz.func87 Tryz.call87 rfl Tryz.ntmps87 rfl ?_
  have W : Walk Tryz.prog TT 87 _ := Walk.of TT_ok Tryz.func87 Tryz.results87
  obtain ⟨⟨r1, N1⟩, e1⟩ : ∃ q, runS (.put x .ret) N = q := ⟨_, rfl⟩
  rw [e1] at c ⊢
  refine phg W 0 11 [5, 9, 10] rfl rfl (fun PW => ?_)
  refine phl PW 0 [5, 9] [] [] rfl rfl trivial ⟨?_, ?_, trivial⟩
  · refine nx_call PW rfl (AFun.sub (ρ := [1]) c rfl ⟨fun _ _ => rfl, trivial⟩ ⟨rfl, trivial⟩ (by decide)) ?_
    rintro _ _ ⟨_, _, ⟨g1, rfl, rfl⟩, rfl, hl1⟩
    obtain rfl := Option.some.inj (show some _ = some _ from hl1)
    refine ⟨_, rfl, ?_⟩
    refine pho PW 0 9 [] [] rfl rfl trivial rfl rfl ?_
    refine pho PW 0 10 [] [] rfl rfl trivial rfl rfl ?_
    refine phe PW 0 [] [] rfl trivial rfl ?_
    refine go_retS W 0 300 2 rfl (by first | exact True.intro | (simp only [AllC, AllP, addN, Int.toNat_natCast, true_and, and_true, Option.getD, List.length_set, wrapU, pw1, pw7, pw8, pw16, pw23, pw32, pw52, Holds] <;> first | omega | ((repeat' apply And.intro) <;> first | omega | (intros; rfl))) | (simp [AllC, AllP, addN, cloL, clo, mrgL, mrg, wrapU, Holds] <;> omega)) rfl (by first | exact True.intro | (simp only [AllC, AllP, addN, Int.toNat_natCast, true_and, and_true, Option.getD, List.length_set, wrapU, pw1, pw7, pw8, pw16, pw23, pw32, pw52, Holds] <;> first | omega | ((repeat' apply And.intro) <;> first | omega | (intros; rfl))) | (simp [AllC, AllP, addN, cloL, clo, mrgL, mrg, wrapU, Holds] <;> omega)) (.int .i64 r1) .refl rfl ⟨g1, rfl, rfl⟩
  · refine nx_op PW 0 rfl rfl ?_
    refine phl PW 0 [5] [] [] rfl rfl trivial ⟨?_, trivial⟩
    refine nx_call PW rfl (AFun.sub (ρ := [1]) c rfl ⟨fun _ _ => rfl, trivial⟩ ⟨rfl, trivial⟩ (by decide)) ?_
    rintro _ _ ⟨_, _, ⟨g1, rfl, rfl⟩, rfl, hl1⟩
    obtain rfl := Option.some.inj (show some _ = some _ from hl1)
    refine ⟨_, rfl, ?_⟩
    refine pho PW 0 10 [] [] rfl rfl trivial rfl rfl ?_
    refine phe PW 0 [] [] rfl trivial rfl ?_
    refine go_retS W 0 300 2 rfl (by first | exact True.intro | (simp only [AllC, AllP, addN, Int.toNat_natCast, true_and, and_true, Option.getD, List.length_set, wrapU, pw1, pw7, pw8, pw16, pw23, pw32, pw52, Holds] <;> first | omega | ((repeat' apply And.intro) <;> first | omega | (intros; rfl))) | (simp [AllC, AllP, addN, cloL, clo, mrgL, mrg, wrapU, Holds] <;> omega)) rfl (by first | exact True.intro | (simp only [AllC, AllP, addN, Int.toNat_natCast, true_and, and_true, Option.getD, List.length_set, wrapU, pw1, pw7, pw8, pw16, pw23, pw32, pw52, Holds] <;> first | omega | ((repeat' apply And.intro) <;> first | omega | (intros; rfl))) | (simp [AllC, AllP, addN, cloL, clo, mrgL, mrg, wrapU, Holds] <;> omega)) (.int .i64 r1) .refl rfl ⟨g1, rfl, rfl⟩
theorem mis_ok (a : Int) (s : List UInt8) (v : Int) (N : List Gn) (rs : List Gr) (g : Nat) (ha : 0 ≤ a ∧ a < N.length) : AFun Tryz.prog 69 [.ptr 0 0 0 0, .int .i64 a, .str s] (MkS v rs N g) (fun u H => u = .pr (N.getD a.toNat g0 = numG s) ∧ H = MkS v rs N g) := by
  refine AFun.trim 2 ?_ (by simp [MkS])
  refine afun_of Tryz.func69 Tryz.call69 rfl Tryz.ntmps69 rfl ?_
  have W : Walk Tryz.prog TT 69 _ := Walk.of TT_ok Tryz.func69 Tryz.results69
  refine go_retS W 0 300 2 rfl (by simp only [AllC, addNz, true_and, and_true]; omega) rfl (by first | exact True.intro | (simp only [AllC, AllP, addN, Int.toNat_natCast, true_and, and_true, Option.getD, List.length_set, wrapU, pw1, pw7, pw8, pw16, pw23, pw32, pw52, Holds] <;> first | omega | ((repeat' apply And.intro) <;> first | omega | (intros; rfl))) | (simp [AllC, AllP, addN, cloL, clo, mrgL, mrg, wrapU, Holds] <;> omega)) (.pr (N.getD a.toNat g0 = numG s)) (.pr ?_) rfl ⟨rfl, rfl⟩
  rw [addNz]
  exact ⟨fun h => gk_inj (y := numG s) h, fun h => by rw [h]⟩
open Classical in
theorem runS_t {a : Int} {s : List UInt8} {p q : Pg} {N : List Gn} (h : N.getD a.toNat g0 = numG s) : runS (.is a s fun t => if t then p else q) N = runS p N := by
  simp only [runS]; rw [decide_eq_true h]; rfl
open Classical in
theorem runS_f {a : Int} {s : List UInt8} {p q : Pg} {N : List Gn} (h : ¬ N.getD a.toNat g0 = numG s) : runS (.is a s fun t => if t then p else q) N = runS q N := by
  simp only [runS]; rw [decide_eq_false h]; rfl
/-- What a program returns is the place of a node. -/
def Pg.ok : Pg → Nat → Prop
  | .ret v, n => 0 ≤ v ∧ v < n
  | .put _ k, n => ∀ (i : Int) (m : Nat), n ≤ m → 0 ≤ i → i < m → (k i).ok m
  | .is _ _ k, n => ∀ t, (k t).ok n
theorem runS_ok {P : Pg} : ∀ {n : Nat} {N : List Gn}, P.ok n → n ≤ N.length → 0 ≤ (runS P N).1 ∧ (runS P N).1 < (runS P N).2.length := by
  induction P with
  | ret v => intro n N h hn; exact ⟨h.1, by have := h.2; show v < (N.length : Int); omega⟩
  | put x k ih =>
    intro n N h hn
    simp only [runS]
    split
    · rename_i hx
      have := (idxG_get hx).1
      exact ih _ (h _ N.length hn (by omega) (by omega)) (Nat.le_refl _)
    · exact ih _ (h _ (N.length + 1) (by omega) (by omega) (by omega)) (by simp)
  | is a s k ih => intro n N h hn; simp only [runS]; exact ih _ (h _) hn
theorem ok_num (s : List UInt8) (n : Nat) : (numP s).ok n := fun i m _ h0 h1 => ⟨h0, h1⟩
theorem ok_neg {a : Int} {n : Nat} (h : 0 ≤ a ∧ a < n) : (negP a).ok n := fun t => by cases t <;> first | exact h | exact fun i m _ h0 h1 => ⟨h0, h1⟩
theorem ok_sum {a b : Int} {n : Nat} (ha : 0 ≤ a ∧ a < n) (hb : 0 ≤ b ∧ b < n) : (sumP' a b).ok n := fun t => by cases t <;> first | exact hb | (intro t; cases t <;> first | exact ha | exact fun i m _ h0 h1 => ⟨h0, h1⟩)
theorem ok_less {a b : Int} {n : Nat} (ha : 0 ≤ a ∧ a < n) (hb : 0 ≤ b ∧ b < n) : (lessP a b).ok n := fun t => by cases t <;> first | exact ha | (intro t; cases t <;> first | exact ok_neg hb | exact fun i m _ h0 h1 => ⟨h0, h1⟩)
theorem ok_times {a b : Int} {n : Nat} (ha : 0 ≤ a ∧ a < n) (hb : 0 ≤ b ∧ b < n) : (timesP a b).ok n := fun t => by cases t <;> first | exact ha | (intro t; cases t <;> first | exact ha | (intro t; cases t <;> first | exact hb | (intro t; cases t <;> first | exact hb | exact fun i m _ h0 h1 => ⟨h0, h1⟩)))
theorem ok_by {a b : Int} {n : Nat} (ha : 0 ≤ a ∧ a < n) : (byP a b).ok n := fun t => by cases t <;> first | exact ha | exact fun i m _ h0 h1 => ⟨h0, h1⟩
theorem ok_raised {a : Int} (e : Int) {n : Nat} (ha : 0 ≤ a ∧ a < n) : (raisedP a e).ok n := by unfold raisedP; split; exact ha; exact fun i m _ h0 h1 => ⟨h0, h1⟩
theorem mtwo_ok (k a b : Int) (v : Int) (N : List Gn) (rs : List Gr) (g : Nat) (hN : N.length ≤ 1000000) : AFun Tryz.prog 88 [.ptr 0 0 0 0, .int .i64 k, .int .i64 a, .int .i64 b] (MkS v rs N g) (MkQ v rs (runS (.put ⟨k, a, b, 0, []⟩ .ret) N)) := by
  refine afun_of Tryz.func88 Tryz.call88 rfl Tryz.ntmps88 rfl ?_
  have W : Walk Tryz.prog TT 88 _ := Walk.of TT_ok Tryz.func88 Tryz.results88
  refine go_call W 0 300 rfl (by first | exact True.intro | (simp only [AllC, AllP, addN, Int.toNat_natCast, true_and, and_true, Option.getD, List.length_set, wrapU, pw1, pw7, pw8, pw16, pw23, pw32, pw52, Holds] <;> first | omega | ((repeat' apply And.intro) <;> first | omega | (intros; rfl))) | (simp [AllC, AllP, addN, cloL, clo, mrgL, mrg, wrapU, Holds] <;> omega)) (mput_ok ⟨k, a, b, 0, []⟩ v N rs g hN) ?_
  rintro _ _ ⟨g', rfl, rfl⟩
  refine ⟨_, rfl, ?_⟩
  refine rg W 0 rfl (⟨g', rfl, rfl⟩)
theorem mnumber_ok (s : List UInt8) (v : Int) (N : List Gn) (rs : List Gr) (g : Nat) (hN : N.length ≤ 1000000) : AFun Tryz.prog 64 [.ptr 0 0 0 0, .str s] (MkS v rs N g) (MkQ v rs (runS (numP s) N)) := by
  refine afun_of Tryz.func64 Tryz.call64 rfl Tryz.ntmps64 rfl ?_
  have W : Walk Tryz.prog TT 64 _ := Walk.of TT_ok Tryz.func64 Tryz.results64
  refine go_call W 0 300 rfl (by first | exact True.intro | (simp only [AllC, AllP, addN, Int.toNat_natCast, true_and, and_true, Option.getD, List.length_set, wrapU, pw1, pw7, pw8, pw16, pw23, pw32, pw52, Holds] <;> first | omega | ((repeat' apply And.intro) <;> first | omega | (intros; rfl))) | (simp [AllC, AllP, addN, cloL, clo, mrgL, mrg, wrapU, Holds] <;> omega)) (mput_ok (numG s) v N rs g hN) ?_
  rintro _ _ ⟨g', rfl, rfl⟩
  refine ⟨_, rfl, ?_⟩
  refine rg W 0 rfl (⟨g', rfl, rfl⟩)
theorem mpow_ok (a n : Int) (v : Int) (N : List Gn) (rs : List Gr) (g : Nat) (hN : N.length ≤ 1000000) : AFun Tryz.prog 71 [.ptr 0 0 0 0, .int .i64 a, .int .i64 n] (MkS v rs N g) (MkQ v rs (runS (raisedP a n) N)) := by
  refine afun_of Tryz.func71 Tryz.call71 rfl Tryz.ntmps71 rfl ?_
  have W : Walk Tryz.prog TT 71 _ := Walk.of TT_ok Tryz.func71 Tryz.results71
  unfold raisedP
  refine sp W 0 rfl rfl rfl (fun h1 => ?_) (fun h1 => ?_)
  · rw [if_pos h1]
    refine rg W 0 rfl (⟨g, rfl, rfl⟩)
  · rw [if_neg h1]
    refine go_call W 0 300 rfl (by first | exact True.intro | (simp only [AllC, AllP, addN, Int.toNat_natCast, true_and, and_true, Option.getD, List.length_set, wrapU, pw1, pw7, pw8, pw16, pw23, pw32, pw52, Holds] <;> first | omega | ((repeat' apply And.intro) <;> first | omega | (intros; rfl))) | (simp [AllC, AllP, addN, cloL, clo, mrgL, mrg, wrapU, Holds] <;> omega)) (mput_ok ⟨8, a, 0, n, []⟩ v N rs g hN) ?_
    rintro _ _ ⟨g', rfl, rfl⟩
    refine ⟨_, rfl, ?_⟩
    refine rg W 0 rfl (⟨g', rfl, rfl⟩)
theorem mneg_ok (a : Int) (v : Int) (N : List Gn) (rs : List Gr) (g : Nat) (ha : 0 ≤ a ∧ a < N.length) (hN : N.length ≤ 1000000) : AFun Tryz.prog 65 [.ptr 0 0 0 0, .int .i64 a] (MkS v rs N g) (MkQ v rs (runS (negP a) N)) := by
  refine afun_of Tryz.func65 Tryz.call65 rfl Tryz.ntmps65 rfl ?_
  have W : Walk Tryz.prog TT 65 _ := Walk.of TT_ok Tryz.func65 Tryz.results65
  unfold negP
  refine go_call W 0 300 rfl (by first | exact True.intro | (simp only [AllC, AllP, addN, Int.toNat_natCast, true_and, and_true, Option.getD, List.length_set, wrapU, pw1, pw7, pw8, pw16, pw23, pw32, pw52, Holds] <;> first | omega | ((repeat' apply And.intro) <;> first | omega | (intros; rfl))) | (simp [AllC, AllP, addN, cloL, clo, mrgL, mrg, wrapU, Holds] <;> omega)) (mis_ok a t0 v N rs g ha) ?_
  rintro _ _ ⟨rfl, rfl⟩
  refine ⟨_, rfl, ?_⟩
  refine sp W 0 rfl rfl rfl (fun z1 => ?_) (fun z1 => ?_)
  · rw [runS_t z1]
    refine rg W 0 rfl (⟨g, rfl, rfl⟩)
  · rw [runS_f z1]
    refine go_call W 0 300 rfl (by first | exact True.intro | (simp only [AllC, AllP, addN, Int.toNat_natCast, true_and, and_true, Option.getD, List.length_set, wrapU, pw1, pw7, pw8, pw16, pw23, pw32, pw52, Holds] <;> first | omega | ((repeat' apply And.intro) <;> first | omega | (intros; rfl))) | (simp [AllC, AllP, addN, cloL, clo, mrgL, mrg, wrapU, Holds] <;> omega)) (mput_ok ⟨3, a, 0, 0, []⟩ v N rs g hN) ?_
    rintro _ _ ⟨g', rfl, rfl⟩
    refine ⟨_, rfl, ?_⟩
    refine rg W 0 rfl (⟨g', rfl, rfl⟩)
theorem madd_ok (a b : Int) (v : Int) (N : List Gn) (rs : List Gr) (g : Nat) (ha : 0 ≤ a ∧ a < N.length) (hb : 0 ≤ b ∧ b < N.length) (hN : N.length ≤ 1000000) : AFun Tryz.prog 66 [.ptr 0 0 0 0, .int .i64 a, .int .i64 b] (MkS v rs N g) (MkQ v rs (runS (sumP' a b) N)) := by
  refine afun_of Tryz.func66 Tryz.call66 rfl Tryz.ntmps66 rfl ?_
  have W : Walk Tryz.prog TT 66 _ := Walk.of TT_ok Tryz.func66 Tryz.results66
  unfold sumP'
  refine go_call W 0 300 rfl (by first | exact True.intro | (simp only [AllC, AllP, addN, Int.toNat_natCast, true_and, and_true, Option.getD, List.length_set, wrapU, pw1, pw7, pw8, pw16, pw23, pw32, pw52, Holds] <;> first | omega | ((repeat' apply And.intro) <;> first | omega | (intros; rfl))) | (simp [AllC, AllP, addN, cloL, clo, mrgL, mrg, wrapU, Holds] <;> omega)) (mis_ok a t0 v N rs g ha) ?_
  rintro _ _ ⟨rfl, rfl⟩
  refine ⟨_, rfl, ?_⟩
  refine sp W 0 rfl rfl rfl (fun z2 => ?_) (fun z2 => ?_)
  · rw [runS_t z2]
    refine rg W 0 rfl (⟨g, rfl, rfl⟩)
  · rw [runS_f z2]
    refine go_call W 0 300 rfl (by first | exact True.intro | (simp only [AllC, AllP, addN, Int.toNat_natCast, true_and, and_true, Option.getD, List.length_set, wrapU, pw1, pw7, pw8, pw16, pw23, pw32, pw52, Holds] <;> first | omega | ((repeat' apply And.intro) <;> first | omega | (intros; rfl))) | (simp [AllC, AllP, addN, cloL, clo, mrgL, mrg, wrapU, Holds] <;> omega)) (mis_ok b t0 v N rs g hb) ?_
    rintro _ _ ⟨rfl, rfl⟩
    refine ⟨_, rfl, ?_⟩
    refine sp W 0 rfl rfl rfl (fun z1 => ?_) (fun z1 => ?_)
    · rw [runS_t z1]
      refine rg W 0 rfl (⟨g, rfl, rfl⟩)
    · rw [runS_f z1]
      refine go_call W 0 300 rfl (by first | exact True.intro | (simp only [AllC, AllP, addN, Int.toNat_natCast, true_and, and_true, Option.getD, List.length_set, wrapU, pw1, pw7, pw8, pw16, pw23, pw32, pw52, Holds] <;> first | omega | ((repeat' apply And.intro) <;> first | omega | (intros; rfl))) | (simp [AllC, AllP, addN, cloL, clo, mrgL, mrg, wrapU, Holds] <;> omega)) (mtwo_ok 4 a b v N rs g hN) ?_
      rintro _ _ ⟨g', rfl, rfl⟩
      refine ⟨_, rfl, ?_⟩
      refine rg W 0 rfl (⟨g', rfl, rfl⟩)
theorem msub_ok (a b : Int) (v : Int) (N : List Gn) (rs : List Gr) (g : Nat) (ha : 0 ≤ a ∧ a < N.length) (hb : 0 ≤ b ∧ b < N.length) (hN : N.length ≤ 1000000) : AFun Tryz.prog 67 [.ptr 0 0 0 0, .int .i64 a, .int .i64 b] (MkS v rs N g) (MkQ v rs (runS (lessP a b) N)) := by
  refine afun_of Tryz.func67 Tryz.call67 rfl Tryz.ntmps67 rfl ?_
  have W : Walk Tryz.prog TT 67 _ := Walk.of TT_ok Tryz.func67 Tryz.results67
  unfold lessP
  refine go_call W 0 300 rfl (by first | exact True.intro | (simp only [AllC, AllP, addN, Int.toNat_natCast, true_and, and_true, Option.getD, List.length_set, wrapU, pw1, pw7, pw8, pw16, pw23, pw32, pw52, Holds] <;> first | omega | ((repeat' apply And.intro) <;> first | omega | (intros; rfl))) | (simp [AllC, AllP, addN, cloL, clo, mrgL, mrg, wrapU, Holds] <;> omega)) (mis_ok b t0 v N rs g hb) ?_
  rintro _ _ ⟨rfl, rfl⟩
  refine ⟨_, rfl, ?_⟩
  refine sp W 0 rfl rfl rfl (fun z2 => ?_) (fun z2 => ?_)
  · rw [runS_t z2]
    refine rg W 0 rfl (⟨g, rfl, rfl⟩)
  · rw [runS_f z2]
    refine go_call W 0 300 rfl (by first | exact True.intro | (simp only [AllC, AllP, addN, Int.toNat_natCast, true_and, and_true, Option.getD, List.length_set, wrapU, pw1, pw7, pw8, pw16, pw23, pw32, pw52, Holds] <;> first | omega | ((repeat' apply And.intro) <;> first | omega | (intros; rfl))) | (simp [AllC, AllP, addN, cloL, clo, mrgL, mrg, wrapU, Holds] <;> omega)) (mis_ok a t0 v N rs g ha) ?_
    rintro _ _ ⟨rfl, rfl⟩
    refine ⟨_, rfl, ?_⟩
    refine sp W 0 rfl rfl rfl (fun z1 => ?_) (fun z1 => ?_)
    · rw [runS_t z1]
      refine go_call W 0 300 rfl (by first | exact True.intro | (simp only [AllC, AllP, addN, Int.toNat_natCast, true_and, and_true, Option.getD, List.length_set, wrapU, pw1, pw7, pw8, pw16, pw23, pw32, pw52, Holds] <;> first | omega | ((repeat' apply And.intro) <;> first | omega | (intros; rfl))) | (simp [AllC, AllP, addN, cloL, clo, mrgL, mrg, wrapU, Holds] <;> omega)) (mneg_ok b v N rs g hb hN) ?_
      rintro _ _ ⟨g', rfl, rfl⟩
      refine ⟨_, rfl, ?_⟩
      refine rg W 0 rfl (⟨g', rfl, rfl⟩)
    · rw [runS_f z1]
      refine go_call W 0 300 rfl (by first | exact True.intro | (simp only [AllC, AllP, addN, Int.toNat_natCast, true_and, and_true, Option.getD, List.length_set, wrapU, pw1, pw7, pw8, pw16, pw23, pw32, pw52, Holds] <;> first | omega | ((repeat' apply And.intro) <;> first | omega | (intros; rfl))) | (simp [AllC, AllP, addN, cloL, clo, mrgL, mrg, wrapU, Holds] <;> omega)) (mtwo_ok 5 a b v N rs g hN) ?_
      rintro _ _ ⟨g', rfl, rfl⟩
      refine ⟨_, rfl, ?_⟩
      refine rg W 0 rfl (⟨g', rfl, rfl⟩)
theorem mmul_ok (a b : Int) (v : Int) (N : List Gn) (rs : List Gr) (g : Nat) (ha : 0 ≤ a ∧ a < N.length) (hb : 0 ≤ b ∧ b < N.length) (hN : N.length ≤ 1000000) : AFun Tryz.prog 68 [.ptr 0 0 0 0, .int .i64 a, .int .i64 b] (MkS v rs N g) (MkQ v rs (runS (timesP a b) N)) := by
  refine afun_of Tryz.func68 Tryz.call68 rfl Tryz.ntmps68 rfl ?_
  have W : Walk Tryz.prog TT 68 _ := Walk.of TT_ok Tryz.func68 Tryz.results68
  unfold timesP
  refine go_call W 0 300 rfl (by first | exact True.intro | (simp only [AllC, AllP, addN, Int.toNat_natCast, true_and, and_true, Option.getD, List.length_set, wrapU, pw1, pw7, pw8, pw16, pw23, pw32, pw52, Holds] <;> first | omega | ((repeat' apply And.intro) <;> first | omega | (intros; rfl))) | (simp [AllC, AllP, addN, cloL, clo, mrgL, mrg, wrapU, Holds] <;> omega)) (mis_ok a t0 v N rs g ha) ?_
  rintro _ _ ⟨rfl, rfl⟩
  refine ⟨_, rfl, ?_⟩
  refine sp W 0 rfl rfl rfl (fun z4 => ?_) (fun z4 => ?_)
  · rw [runS_t z4]
    refine rg W 0 rfl (⟨g, rfl, rfl⟩)
  · rw [runS_f z4]
    refine go_call W 0 300 rfl (by first | exact True.intro | (simp only [AllC, AllP, addN, Int.toNat_natCast, true_and, and_true, Option.getD, List.length_set, wrapU, pw1, pw7, pw8, pw16, pw23, pw32, pw52, Holds] <;> first | omega | ((repeat' apply And.intro) <;> first | omega | (intros; rfl))) | (simp [AllC, AllP, addN, cloL, clo, mrgL, mrg, wrapU, Holds] <;> omega)) (mis_ok b t1 v N rs g hb) ?_
    rintro _ _ ⟨rfl, rfl⟩
    refine ⟨_, rfl, ?_⟩
    refine sp W 0 rfl rfl rfl (fun z3 => ?_) (fun z3 => ?_)
    · rw [runS_t z3]
      refine rg W 0 rfl (⟨g, rfl, rfl⟩)
    · rw [runS_f z3]
      refine go_call W 0 300 rfl (by first | exact True.intro | (simp only [AllC, AllP, addN, Int.toNat_natCast, true_and, and_true, Option.getD, List.length_set, wrapU, pw1, pw7, pw8, pw16, pw23, pw32, pw52, Holds] <;> first | omega | ((repeat' apply And.intro) <;> first | omega | (intros; rfl))) | (simp [AllC, AllP, addN, cloL, clo, mrgL, mrg, wrapU, Holds] <;> omega)) (mis_ok b t0 v N rs g hb) ?_
      rintro _ _ ⟨rfl, rfl⟩
      refine ⟨_, rfl, ?_⟩
      refine sp W 0 rfl rfl rfl (fun z2 => ?_) (fun z2 => ?_)
      · rw [runS_t z2]
        refine rg W 0 rfl (⟨g, rfl, rfl⟩)
      · rw [runS_f z2]
        refine go_call W 0 300 rfl (by first | exact True.intro | (simp only [AllC, AllP, addN, Int.toNat_natCast, true_and, and_true, Option.getD, List.length_set, wrapU, pw1, pw7, pw8, pw16, pw23, pw32, pw52, Holds] <;> first | omega | ((repeat' apply And.intro) <;> first | omega | (intros; rfl))) | (simp [AllC, AllP, addN, cloL, clo, mrgL, mrg, wrapU, Holds] <;> omega)) (mis_ok a t1 v N rs g ha) ?_
        rintro _ _ ⟨rfl, rfl⟩
        refine ⟨_, rfl, ?_⟩
        refine sp W 0 rfl rfl rfl (fun z1 => ?_) (fun z1 => ?_)
        · rw [runS_t z1]
          refine rg W 0 rfl (⟨g, rfl, rfl⟩)
        · rw [runS_f z1]
          refine go_call W 0 300 rfl (by first | exact True.intro | (simp only [AllC, AllP, addN, Int.toNat_natCast, true_and, and_true, Option.getD, List.length_set, wrapU, pw1, pw7, pw8, pw16, pw23, pw32, pw52, Holds] <;> first | omega | ((repeat' apply And.intro) <;> first | omega | (intros; rfl))) | (simp [AllC, AllP, addN, cloL, clo, mrgL, mrg, wrapU, Holds] <;> omega)) (mtwo_ok 6 a b v N rs g hN) ?_
          rintro _ _ ⟨g', rfl, rfl⟩
          refine ⟨_, rfl, ?_⟩
          refine rg W 0 rfl (⟨g', rfl, rfl⟩)
theorem mdiv_ok (a b : Int) (v : Int) (N : List Gn) (rs : List Gr) (g : Nat) (ha : 0 ≤ a ∧ a < N.length) (hb : 0 ≤ b ∧ b < N.length) (hN : N.length ≤ 1000000) : AFun Tryz.prog 70 [.ptr 0 0 0 0, .int .i64 a, .int .i64 b] (MkS v rs N g) (MkQ v rs (runS (byP a b) N)) := by
  refine afun_of Tryz.func70 Tryz.call70 rfl Tryz.ntmps70 rfl ?_
  have W : Walk Tryz.prog TT 70 _ := Walk.of TT_ok Tryz.func70 Tryz.results70
  unfold byP
  refine go_call W 0 300 rfl (by first | exact True.intro | (simp only [AllC, AllP, addN, Int.toNat_natCast, true_and, and_true, Option.getD, List.length_set, wrapU, pw1, pw7, pw8, pw16, pw23, pw32, pw52, Holds] <;> first | omega | ((repeat' apply And.intro) <;> first | omega | (intros; rfl))) | (simp [AllC, AllP, addN, cloL, clo, mrgL, mrg, wrapU, Holds] <;> omega)) (mis_ok a t0 v N rs g ha) ?_
  rintro _ _ ⟨rfl, rfl⟩
  refine ⟨_, rfl, ?_⟩
  refine sp W 0 rfl rfl rfl (fun z1 => ?_) (fun z1 => ?_)
  · rw [runS_t z1]
    refine rg W 0 rfl (⟨g, rfl, rfl⟩)
  · rw [runS_f z1]
    refine go_call W 0 300 rfl (by first | exact True.intro | (simp only [AllC, AllP, addN, Int.toNat_natCast, true_and, and_true, Option.getD, List.length_set, wrapU, pw1, pw7, pw8, pw16, pw23, pw32, pw52, Holds] <;> first | omega | ((repeat' apply And.intro) <;> first | omega | (intros; rfl))) | (simp [AllC, AllP, addN, cloL, clo, mrgL, mrg, wrapU, Holds] <;> omega)) (mtwo_ok 7 a b v N rs g hN) ?_
    rintro _ _ ⟨g', rfl, rfl⟩
    refine ⟨_, rfl, ?_⟩
    refine rg W 0 rfl (⟨g', rfl, rfl⟩)

end Pf
/- Whole numbers: differences and products. -/
namespace Pf
open Go Go.Proofs

theorem val_split (l : List Int) (i : Nat) (h : i ≤ l.length) : val l = val (l.take i) + 65536 ^ i * val (l.drop i) := by
  conv => lhs; rw [← List.take_append_drop i l, val_app]
  simp [Nat.min_eq_left h]
theorem getD_take {l : List Int} {n j : Nat} (h : j < n) : (l.take n).getD j 0 = l.getD j 0 := by
  simp [List.getD_eq_getElem?_getD, List.getElem?_take, h]
theorem dgs_take {l : List Int} {n : Nat} (hn : n ≤ l.length) (h : ∀ j, j < n → 0 ≤ l.getD j 0 ∧ l.getD j 0 < 65536) : Dgs (l.take n) := by
  refine dgs_of_getD fun j hj => ?_
  have hj : j < n := by simp at hj; omega
  rw [getD_take hj]; exact h j hj
/-- Digits below a last one: it is not less than 0, if the number is not. -/
theorem top_nonneg {l : List Int} {n : Nat} (hn : l.length = n + 1) (h : ∀ j, j < n → 0 ≤ l.getD j 0 ∧ l.getD j 0 < 65536) (hv : 0 ≤ val l) : 0 ≤ l.getD n 0 := by
  have h1 := val_take_succ (l := l) (k := n) (by omega)
  rw [List.take_of_length_le (by omega)] at h1
  have h2 := val_lt (dgs_take (by omega) h)
  have e : (l.take n).length = n := by simp; omega
  rw [e] at h2
  have hp : (0 : Int) < 65536 ^ n := Int.pow_pos (by omega)
  rcases Int.lt_or_le (l.getD n 0) 0 with h3 | h3
  · have : (65536 : Int) ^ n * l.getD n 0 ≤ 65536 ^ n * (-1) := Int.mul_le_mul_of_nonneg_left (by omega) (by omega)
    omega
  · exact h3
end Pf
/- Whole numbers: bits and shifts. -/
namespace Pf
open Go Go.Proofs

theorem bitL_mul : ∀ (k n : Nat), n ≠ 0 → bitL (n * 2 ^ k) = bitL n + k := by
  intro k n hn
  have h : 2 ^ k ≤ n * 2 ^ k := Nat.le_mul_of_pos_left _ (by omega)
  have := bitL_shift k (n * 2 ^ k) h
  rwa [Nat.mul_div_cancel _ (Nat.pow_pos (by omega))] at this
theorem bitL_dig : ∀ (n : Nat), n ≠ 0 → (bitL n : Int) = 16 * ((dig n).length - 1) + bitL ((dig n).getD ((dig n).length - 1) 0).toNat := by
  intro n
  induction n using Nat.strongRecOn with
  | ind n ih =>
    intro hn
    by_cases h : n / 65536 = 0
    · rw [dig_pos hn, h, dig_zero]
      have : n % 65536 = n := Nat.mod_eq_of_lt (by omega)
      simp [this]
    · have e := bitL_shift 16 n (by omega)
      have e2 := ih (n / 65536) (by omega) h
      have hl : 0 < (dig (n / 65536)).length := by
        cases hd : dig (n / 65536) with
        | nil => exact absurd (dig_nil.1 hd) h
        | cons a l => simp
      rw [dig_pos hn]
      simp only [List.length_cons]
      have e3 : ((((n % 65536 : Nat) : Int) :: dig (n / 65536)).getD ((dig (n / 65536)).length + 1 - 1) 0) = (dig (n / 65536)).getD ((dig (n / 65536)).length - 1) 0 := by
        obtain ⟨m, hm⟩ : ∃ m, (dig (n / 65536)).length = m + 1 := ⟨_, (Nat.sub_add_cancel hl).symm⟩
        rw [hm]; simp
      rw [e3, show (2 : Nat) ^ 16 = 65536 from rfl] at *
      omega
theorem bor_add {r : Nat} {a c : Int} (hr : r ≤ 62) (h0 : 0 ≤ a) (h1 : a < 2 ^ r) (h2 : 0 ≤ c) (h3 : 2 ^ r * c ≤ 4611686018427387903) : bor .i64 a (2 ^ r * c) = a + 2 ^ r * c ∧ bor .i64 (2 ^ r * c) a = a + 2 ^ r * c := by
  obtain ⟨m, rfl⟩ : ∃ m : Nat, a = m := ⟨a.toNat, by omega⟩
  obtain ⟨n, rfl⟩ : ∃ n : Nat, c = n := ⟨c.toNat, by omega⟩
  have e2 : (2 : Int) ^ r * n = ((2 ^ r * n : Nat) : Int) := by simp
  have h1' : m < 2 ^ r := by
    have : ((m : Nat) : Int) < ((2 ^ r : Nat) : Int) := by simpa using h1
    omega
  have h2r : (2 : Nat) ^ r ≤ 2 ^ 62 := Nat.pow_le_pow_right (by omega) hr
  rw [e2] at h3 ⊢
  have key : m ||| 2 ^ r * n = 2 ^ r * n + m := by rw [Nat.or_comm]; exact (Nat.two_pow_add_eq_or_of_lt h1' n).symm
  have key2 : 2 ^ r * n ||| m = 2 ^ r * n + m := (Nat.two_pow_add_eq_or_of_lt h1' n).symm
  have a1 : (BitVec.ofInt 64 (m : Int)).toNat = m := by rw [BitVec.toNat_ofInt]; omega
  have a2 : (BitVec.ofInt 64 ((2 ^ r * n : Nat) : Int)).toNat = 2 ^ r * n := by rw [BitVec.toNat_ofInt]; omega
  have e : bor .i64 (m : Int) ((2 ^ r * n : Nat) : Int) = IntKind.i64.wrap (((BitVec.ofInt 64 (m : Int) ||| BitVec.ofInt 64 ((2 ^ r * n : Nat) : Int)).toNat : Nat) : Int) := rfl
  have e' : bor .i64 ((2 ^ r * n : Nat) : Int) (m : Int) = IntKind.i64.wrap (((BitVec.ofInt 64 ((2 ^ r * n : Nat) : Int) ||| BitVec.ofInt 64 (m : Int)).toNat : Nat) : Int) := rfl
  rw [e, e', BitVec.toNat_or, BitVec.toNat_or, a1, a2, key, key2, wrap_id (k := .i64) rfl (by omega)]
  omega
/-- Digits shifted down, each with what comes from the next. -/
def shr (r : Nat) : List Int → List Int
  | [] => []
  | d :: l => (d / 2 ^ r + l.getD 0 0 * 2 ^ (16 - r) % 65536) :: shr r l
theorem shr_len (r : Nat) : ∀ l, (shr r l).length = l.length
  | [] => rfl
  | d :: l => by simp [shr, shr_len r l]
theorem shr_get (r : Nat) : ∀ (l : List Int) (i : Nat), i < l.length → (shr r l).getD i 0 = l.getD i 0 / 2 ^ r + l.getD (i + 1) 0 * 2 ^ (16 - r) % 65536
  | [], i, h => by simp at h
  | d :: l, 0, h => by simp [shr]
  | d :: l, i + 1, h => by simpa [shr] using shr_get r l i (by simpa using h)
theorem shr_ok {r : Nat} (hr : r < 16) : ∀ {l : List Int}, Dgs l → Dgs (shr r l) ∧ val (shr r l) = val l / 2 ^ r
  | [], h => ⟨Dgs.nil, by simp [shr, val]⟩
  | d :: l, h => by
    obtain ⟨r1, r2, r3, r4, r5⟩ := (by decide : ∀ r, r < 16 → (1 : Int) ≤ 2 ^ r ∧ (2 : Int) ^ r ≤ 32768 ∧ (2 : Int) ^ r * 2 ^ (16 - r) = 65536 ∧ (1 : Int) ≤ 2 ^ (16 - r) ∧ r ≤ 62) r hr
    obtain ⟨i1, i2⟩ := shr_ok hr h.tail
    have hd := h.head
    have hv : val l = l.getD 0 0 + 65536 * val l.tail := by cases l <;> simp [val]
    have g0 := h.tail.get 0
    generalize hee : l.getD 0 0 = e at *
    have em : e * 2 ^ (16 - r) % 65536 = 2 ^ (16 - r) * (e % 2 ^ r) := by
      rw [Int.mul_comm, ← r3, Int.mul_comm (2 ^ r) (2 ^ (16 - r)), Int.mul_emod_mul_of_pos _ _ (by omega)]
    have m0 := Int.emod_nonneg e (b := 2 ^ r) (by omega)
    have m1 := Int.emod_lt_of_pos e (b := 2 ^ r) (by omega)
    have d0 : 0 ≤ d / 2 ^ r := Int.ediv_nonneg hd.1 (by omega)
    have d1 : d / 2 ^ r < 2 ^ (16 - r) := Int.ediv_lt_of_lt_mul (by omega) (by rw [Int.mul_comm, r3]; exact hd.2)
    have m5 : 2 ^ (16 - r) * (e % 2 ^ r) ≤ 65536 - 2 ^ (16 - r) := by
      have : 2 ^ (16 - r) * (e % 2 ^ r) ≤ 2 ^ (16 - r) * (2 ^ r - 1) := Int.mul_le_mul_of_nonneg_left (by omega) (by omega)
      rw [Int.mul_sub, Int.mul_comm (2 ^ (16 - r)) (2 ^ r), r3] at this
      omega
    have m6 : 0 ≤ 2 ^ (16 - r) * (e % 2 ^ r) := Int.mul_nonneg (by omega) m0
    refine ⟨?_, ?_⟩
    · simp only [shr, hee]
      exact i1.cons (by rw [em]; omega) (by rw [em]; omega)
    · simp only [shr, hee, val, i2]
      have e1 : (d + 65536 * val l) / 2 ^ r = d / 2 ^ r + 2 ^ (16 - r) * val l := by
        rw [← r3, Int.mul_assoc, Int.add_mul_ediv_left _ _ (by omega)]
      have e2 : val l % 2 ^ r = e % 2 ^ r := by
        rw [hv, ← r3, Int.mul_assoc, Int.add_mul_emod_self_left]
      have e3 := Int.mul_ediv_add_emod (val l) (2 ^ r)
      have e4 : 2 ^ (16 - r) * val l = 65536 * (val l / 2 ^ r) + 2 ^ (16 - r) * (e % 2 ^ r) := by
        conv => lhs; rw [← e3, e2, Int.mul_add, ← Int.mul_assoc, Int.mul_comm (2 ^ (16 - r)) (2 ^ r), r3]
      rw [e1, e4, em]; omega
theorem val_drop {a : Nat} {q : Nat} : val ((dig a).drop q) = (a : Int) / 65536 ^ q := by
  induction q generalizing a with
  | zero => simp [val_dig]
  | succ q ih =>
    by_cases h : a = 0
    · subst h; simp [dig_zero, val]
    · rw [dig_pos h, List.drop_succ_cons, ih, Int.pow_succ, Int.mul_comm, ← Int.ediv_ediv_of_nonneg (by omega)]
      simp
end Pf
/- Whole numbers: guesses of a quotient's digit. -/
namespace Pf
open Go Go.Proofs

/-- A number w = w0 + P X by a number B = v0 + P Y. -/
structure Gs (P X Y w B : Int) : Prop where
  p : 0 < P
  w0 : P * X ≤ w
  w1 : w < P * (X + 1)
  b0 : P * Y ≤ B
  b1 : B < P * (Y + 1)
theorem Gs.over {P X Y w B : Int} (h : Gs P X Y w B) {q : Int} (hq : 0 ≤ q) (hx : X + 1 ≤ q * Y) : w < q * B := by
  have h1 := Int.mul_le_mul_of_nonneg_left hx (Int.le_of_lt h.p)
  have h2 := Int.mul_le_mul_of_nonneg_left h.b0 hq
  have e : q * (P * Y) = P * (q * Y) := by rw [← Int.mul_assoc, Int.mul_comm q P, Int.mul_assoc]
  have := h.w1
  omega
theorem Gs.under {P X Y w B : Int} (h : Gs P X Y w B) {q : Int} (hq : 0 ≤ q) (hx : q * (Y + 1) ≤ X) : q * B ≤ w := by
  have h1 := Int.mul_le_mul_of_nonneg_left hx (Int.le_of_lt h.p)
  have h2 := Int.mul_le_mul_of_nonneg_left (Int.le_of_lt h.b1) hq
  have e : q * (P * (Y + 1)) = P * (q * (Y + 1)) := by rw [← Int.mul_assoc, Int.mul_comm q P, Int.mul_assoc]
  have := h.w0
  omega
theorem Gs.top {P X Y w B : Int} (h : Gs P X Y w B) (hw : w < 65536 * B) : X < 65536 * (Y + 1) := by
  rcases Int.lt_or_le X (65536 * (Y + 1)) with h1 | h1
  · exact h1
  · have h2 := Int.mul_le_mul_of_nonneg_left h1 (Int.le_of_lt h.p)
    have e : P * (65536 * (Y + 1)) = 65536 * (P * (Y + 1)) := by rw [← Int.mul_assoc, Int.mul_comm P 65536, Int.mul_assoc]
    have := h.w0; have := h.b1
    omega
/-- What the guesses keep: T the two highest digits, x the third; v, z the highest digits of the divisor. -/
structure Gd (T x v z w B Q : Int) : Prop where
  g : ∃ P, Gs P (65536 * T + x) (65536 * v + z) w B
  x0 : 0 ≤ x
  x1 : x < 65536
  v0 : 32768 ≤ v
  v1 : v < 65536
  z0 : 0 ≤ z
  z1 : z < 65536
  t0 : 0 ≤ T
  w1 : w < 65536 * B
  q0 : 0 ≤ Q
  qw : Q * B ≤ w
  wq : w < (Q + 1) * B
theorem Gd.bpos {T x v z w B Q : Int} (h : Gd T x v z w B Q) : 0 < B := by
  rcases Int.lt_or_le 0 B with h1 | h1
  · exact h1
  · have := h.wq; have := h.qw; rw [Int.add_mul] at *; omega
theorem Gd.t1 {T x v z w B Q : Int} (h : Gd T x v z w B Q) : T ≤ 65536 * v + z := by
  obtain ⟨P, g⟩ := h.g
  have := g.top h.w1; have := h.x0; omega
theorem Gd.lt {T x v z w B Q q : Int} (h : Gd T x v z w B Q) (hq : w < q * B) : Q + 1 ≤ q := by
  rcases Int.lt_or_le Q q with h1 | h1
  · omega
  · have := Int.mul_le_mul_of_nonneg_right h1 (Int.le_of_lt h.bpos)
    have := h.qw; omega
theorem Gd.q1 {T x v z w B Q : Int} (h : Gd T x v z w B Q) : Q + 1 ≤ 65536 := h.lt h.w1
theorem Gd.first {T x v z w B Q : Int} (h : Gd T x v z w B Q) : Q ≤ T / v ∧ T / v ≤ 65537 ∧ 0 ≤ T % v ∧ T % v < 65536 ∧ T / v * v + T % v = T := by
  obtain ⟨P, g⟩ := h.g
  have hv : 0 < v := by have := h.v0; omega
  refine ⟨?_, ?_, Int.emod_nonneg _ (by omega), by have := Int.emod_lt_of_pos T hv; have := h.v1; omega, by rw [Int.mul_comm]; exact Int.mul_ediv_add_emod T v⟩
  · refine (Int.le_ediv_iff_mul_le hv).2 ?_
    rcases Int.lt_or_le T (Q * v) with h1 | h1
    · have h2 := g.over h.q0 (by
        have e : Q * (65536 * v + z) = 65536 * (Q * v) + Q * z := by rw [Int.mul_add]; congr 1; rw [← Int.mul_assoc, Int.mul_comm Q, Int.mul_assoc]
        have := Int.mul_nonneg h.q0 h.z0
        have := h.x1; omega)
      have := h.qw; omega
    · exact h1
  · have h2 : T / v < 65538 := Int.ediv_lt_of_lt_mul hv (by have := h.t1; have := h.z1; have := h.v0; omega)
    omega
theorem Gd.less {T x v z w B Q q r : Int} (h : Gd T x v z w B Q) (he : q * v + r = T) (hq : Q ≤ q) (hx : 65536 ≤ q ∨ 65536 * r + x < q * z) : Q ≤ q - 1 := by
  rcases hx with hx | hx
  · have := h.q1; omega
  · obtain ⟨P, g⟩ := h.g
    have h2 := g.over (q := q) (by have := h.q0; omega) (by
      have e : q * (65536 * v + z) = 65536 * (q * v) + q * z := by rw [Int.mul_add]; congr 1; rw [← Int.mul_assoc, Int.mul_comm q, Int.mul_assoc]
      omega)
    have := h.lt h2; omega
theorem Gd.done {T x v z w B Q q r : Int} (h : Gd T x v z w B Q) (he : q * v + r = T) (hq : Q ≤ q) (h1 : q < 65536) (hx : q * z ≤ 65536 * r + x) : q ≤ Q + 1 := by
  rcases Int.lt_or_le q 1 with h0 | h0
  · have := h.q0; omega
  obtain ⟨P, g⟩ := h.g
  have h2 := g.under (q := q - 1) (by omega) (by
    have e : q * (65536 * v + z) = 65536 * (q * v) + q * z := by rw [Int.mul_add]; congr 1; rw [← Int.mul_assoc, Int.mul_comm q, Int.mul_assoc]
    rw [Int.sub_mul, Int.mul_add q, e]
    have := h.v0; have := h.z0
    omega)
  rcases Int.lt_or_le (Q + 1) q with h3 | h3
  · have h4 : (Q + 1) * B ≤ (q - 1) * B := Int.mul_le_mul_of_nonneg_right (by omega) (Int.le_of_lt h.bpos)
    have := h.wq; omega
  · exact h3
/-- A guess whose rest is past the base. -/
theorem Gd.past {T x v z w B Q q r : Int} (h : Gd T x v z w B Q) (he : q * v + r = T) (hq : Q ≤ q) (hr : 65536 ≤ r) : q < 65536 ∧ q * z ≤ 65536 * r + x := by
  have hv := h.v0
  have h1 : q < 65536 := by
    rcases Int.lt_or_le q 65536 with h1 | h1
    · exact h1
    · have h2 : 65536 * v ≤ q * v := Int.mul_le_mul_of_nonneg_right h1 (by omega)
      have := h.t1; have := h.z1; omega
  refine ⟨h1, ?_⟩
  have h2 : q * z ≤ 65535 * 65535 := Int.mul_le_mul (by omega) (by have := h.z1; omega) h.z0 (by omega)
  have := h.x0; omega
theorem getD_drop {l : List Int} {n j : Nat} : (l.drop n).getD j 0 = l.getD (n + j) 0 := by
  simp [List.getD_eq_getElem?_getD]
theorem lt_pow_mul {k : Nat} {x y c : Int} (hc : 0 ≤ c) (h : c + 65536 ^ k * x < 65536 ^ k * y) : x < y := by
  rcases Int.lt_or_le x y with h1 | h1
  · exact h1
  · have := Int.mul_le_mul_of_nonneg_left h1 (show (0 : Int) ≤ 65536 ^ k from Int.pow_nonneg (by omega))
    omega
theorem Gd.of {V u : List Int} {p j : Nat} (dV : Dgs V) (hV : V.length = p + 2) (hv : 32768 ≤ V.getD (p + 1) 0) (du : Dgs u) (hj : j + (p + 2) < u.length) (hu : val u < 65536 ^ (j + 1) * val V) :
    val u = val (u.take j) + 65536 ^ j * val (u.drop j) ∧ val (u.drop (j + (p + 3))) = 0 ∧
    Gd (65536 * u.getD (j + (p + 2)) 0 + u.getD (j + (p + 1)) 0) (u.getD (j + p) 0) (V.getD (p + 1) 0) (V.getD p 0) (val (u.drop j)) (val V) (val (u.drop j) / val V) := by
  have hs := val_split u j (by omega)
  have l0 := val_nonneg (du.take j)
  have hW := val_nonneg (du.drop j)
  have dW := du.drop j
  have hwl : val (u.drop j) < 65536 * val V := by
    refine lt_pow_mul (k := j) l0 ?_
    rw [← hs, ← Int.mul_assoc, ← Int.pow_succ]; exact hu
  have V1 : val V = val (V.take p) + 65536 ^ p * (65536 * V.getD (p + 1) 0 + V.getD p 0) := by
    have h1 := val_take_succ (l := V) (k := p + 1) (by omega)
    have h2 := val_take_succ (l := V) (k := p) (by omega)
    rw [List.take_of_length_le (by omega)] at h1
    rw [h1, h2, Int.pow_succ, Int.mul_add, ← Int.mul_assoc]; omega
  have V2 := val_lt (dV.take p)
  rw [show (V.take p).length = p by simp; omega] at V2
  have V3 := val_nonneg (dV.take p)
  have gv0 := dV.get p
  have gv1 := dV.get (p + 1)
  have u0 := du.get (j + p)
  have u1 := du.get (j + (p + 1))
  have u2 := du.get (j + (p + 2))
  have hP : (0 : Int) < 65536 ^ p := Int.pow_pos (by omega)
  have Vp : 0 < val V := by
    have : 0 < (65536 : Int) ^ p * (65536 * V.getD (p + 1) 0 + V.getD p 0) := Int.mul_pos hP (by omega)
    omega
  have Vlt := val_lt dV
  rw [hV] at Vlt
  have top0 : val (u.drop (j + (p + 3))) = 0 := by
    have h1 := val_split (u.drop j) (p + 3) (by simp; omega)
    rw [List.drop_drop] at h1
    have h2 := val_nonneg (dW.take (p + 3))
    have h3 := val_nonneg (du.drop (j + (p + 3)))
    have h4 : val (u.drop (j + (p + 3))) < 1 := by
      refine lt_pow_mul (k := p + 3) h2 ?_
      rw [← h1, Int.mul_one, Int.pow_succ]; omega
    omega
  have W1 : val (u.drop j) = val ((u.drop j).take p) + 65536 ^ p * (65536 * (65536 * u.getD (j + (p + 2)) 0 + u.getD (j + (p + 1)) 0) + u.getD (j + p) 0) := by
    have h0 := val_split (u.drop j) (p + 3) (by simp; omega)
    rw [List.drop_drop, top0] at h0
    have h1 : val ((u.drop j).take (p + 3)) = val ((u.drop j).take (p + 2)) + 65536 ^ (p + 2) * (u.drop j).getD (p + 2) 0 := val_take_succ (by simp; omega)
    have h2 : val ((u.drop j).take (p + 2)) = val ((u.drop j).take (p + 1)) + 65536 ^ (p + 1) * (u.drop j).getD (p + 1) 0 := val_take_succ (by simp; omega)
    have h3 := val_take_succ (l := u.drop j) (k := p) (by simp; omega)
    simp only [getD_drop] at h1 h2 h3
    have e2 : (65536 : Int) ^ (p + 1) = 65536 ^ p * 65536 := Int.pow_succ ..
    have e3 : (65536 : Int) ^ (p + 2) = 65536 ^ p * 65536 * 65536 := by rw [Int.pow_succ, e2]
    rw [h0, h1, h2, h3, Int.mul_zero, e3, e2]
    simp only [Int.mul_add, Int.mul_assoc]
    omega
  have W2 := val_lt (dW.take p)
  rw [show ((u.drop j).take p).length = p by simp; omega] at W2
  have W3 := val_nonneg (dW.take p)
  refine ⟨hs, top0, ⟨⟨65536 ^ p, ⟨hP, by omega, by rw [Int.mul_add, Int.mul_one]; omega, by omega, by rw [Int.mul_add, Int.mul_one]; omega⟩⟩, u0.1, u0.2, hv, gv1.2, gv0.1, gv0.2, by omega, hwl, Int.ediv_nonneg hW (by omega), Int.ediv_mul_le _ (by omega), Int.lt_ediv_add_one_mul_self _ Vp⟩⟩

end Pf
/- Whole numbers: quotients. -/
namespace Pf
open Go Go.Proofs

theorem addN0 (k : Nat) : addN 0 k = k := by simp [addN]
theorem Dgs.set {l : List Int} (h : Dgs l) {k : Nat} {x : Int} (x0 : 0 ≤ x) (x1 : x < 65536) : Dgs (l.set k x) := fun d hd => by
  rcases List.mem_or_eq_of_mem_set hd with h1 | h1
  · exact h d h1
  · subst h1; exact ⟨x0, x1⟩
/-- A rest that is met in several places: it is told by its first use. -/
structure Later (X : Prop) : Prop where
  get : X
theorem cutK {X G : Prop} (main : Later X → G) (k : X) : G := main ⟨k⟩
theorem divmod {a b : Nat} {x y : Int} (h : x * b + y = a) (y0 : 0 ≤ y) (y1 : y < b) : x = ((a / b : Nat) : Int) ∧ y = ((a % b : Nat) : Int) := by
  have e1 : (a : Int) / b = x := by
    rw [← h, Int.add_comm, Int.add_mul_ediv_right _ _ (by omega), Int.ediv_eq_zero_of_lt y0 y1]; omega
  have e2 : (a : Int) % b = y := by
    rw [← h, Int.add_comm, Int.add_mul_emod_self_right, Int.emod_eq_of_lt y0 y1]
  exact ⟨by rw [← e1]; simp, by rw [← e2]; simp⟩
end Pf
/- Whole numbers: common divisors and roots. -/
namespace Pf
open Go Go.Proofs

theorem newton {a x q y : Nat} (hq : a < (q + 1) * x) (hy : x + q ≤ 2 * y + 1) : a < (y + 1) * (y + 1) := by
  have h1 : 4 * (((q : Int) + 1) * x) ≤ (x + (q + 1)) * (x + (q + 1)) := by
    have h2 : 0 ≤ ((x : Int) - (q + 1)) * (x - (q + 1)) := by
      rcases Int.le_total 0 ((x : Int) - (q + 1)) with h | h
      · exact Int.mul_nonneg h h
      · exact Int.mul_nonneg_of_nonpos_of_nonpos h h
    generalize ((q : Int) + 1) = z at *
    simp only [Int.sub_mul, Int.mul_sub, Int.add_mul, Int.mul_add, Int.mul_comm z x] at *
    omega
  have h3 : (x + (q + 1)) * (x + (q + 1)) ≤ (2 * (y + 1)) * (2 * (y + 1)) := Nat.mul_le_mul (by omega) (by omega)
  have h4 : (2 * (y + 1)) * (2 * (y + 1)) = 4 * ((y + 1) * (y + 1)) := by
    rw [Nat.mul_assoc, ← Nat.mul_assoc (y + 1) 2, Nat.mul_comm (y + 1) 2, Nat.mul_assoc 2, ← Nat.mul_assoc 2 2]
  have h5 : 4 * ((q + 1) * x) ≤ (x + (q + 1)) * (x + (q + 1)) := by
    have e1 : ((4 * ((q + 1) * x) : Nat) : Int) = 4 * (((q : Int) + 1) * x) := by simp
    have e2 : (((x + (q + 1)) * (x + (q + 1)) : Nat) : Int) = ((x : Int) + (q + 1)) * (x + (q + 1)) := by simp
    omega
  omega
theorem root_ex : ∀ a : Nat, ∃ r, r * r ≤ a ∧ a < (r + 1) * (r + 1)
  | 0 => ⟨0, by omega, by omega⟩
  | a + 1 => by
    obtain ⟨r, h1, h2⟩ := root_ex a
    by_cases h : (r + 1) * (r + 1) ≤ a + 1
    · refine ⟨r + 1, h, ?_⟩
      have : (r + 1 + 1) * (r + 1 + 1) = (r + 1) * (r + 1) + 2 * (r + 1) + 1 := by simp only [Nat.add_mul, Nat.mul_add]; omega
      omega
    · exact ⟨r, by omega, by omega⟩
/-- The root, down. -/
noncomputable def isq (a : Nat) : Nat := Classical.choose (root_ex a)
theorem isq_le (a : Nat) : isq a * isq a ≤ a := (Classical.choose_spec (root_ex a)).1
theorem isq_lt (a : Nat) : a < (isq a + 1) * (isq a + 1) := (Classical.choose_spec (root_ex a)).2
theorem isq_eq {a r : Nat} (h1 : r * r ≤ a) (h2 : a < (r + 1) * (r + 1)) : isq a = r := by
  have lt : ∀ {x y : Nat}, x * x < (y + 1) * (y + 1) → x ≤ y := fun {x y} h => by
    rcases Nat.lt_or_ge y x with h3 | h3
    · have := Nat.mul_le_mul (show y + 1 ≤ x by omega) (show y + 1 ≤ x by omega); omega
    · exact h3
  have := lt (Nat.lt_of_le_of_lt (isq_le a) h2)
  have := lt (Nat.lt_of_le_of_lt h1 (isq_lt a))
  omega
theorem dig_one : dig 1 = [1] := by rw [dig_pos (by omega)]; simp [dig_zero]
end Pf
/- Boxes: slices of pairs. -/
namespace Pf
open Go Go.Proofs

/-- Rows of pairs. -/
def prow (l : List (Int × Int)) : Nat → List AV := fun i => [.int .i64 (l.getD i (0, 0)).1, .int .i64 (l.getD i (0, 0)).2]
def bx (l : List (Int × Int)) : AV := .agg [.fz l.length (prow l)]
def boxOk (w : Int) (l : List (Int × Int)) : Prop := 1 ≤ l.length ∧ l.length ≤ 6 ∧ ∀ a ∈ l, pairOk w a.1 a.2
end Pf
/- Whole numbers: which digits are one. -/
namespace Pf
open Go Go.Proofs

theorem indexInt_ok (l : List Int) (g : FuncId) (cs : List AV) (p : Int → Prop) (hl : l.length ≤ 9223372036854775806) (hc : cloL cs = true)
    (h : ∀ a ∈ l, AFunP Tryz.prog g (.int .i64 a :: cs) (· = .pr (p a))) :
    AFunP Tryz.prog 83 [.fi .i64 l, .fn g [] cs] (fun u => ∃ r, u = .int .i64 r ∧ (0 ≤ r ↔ ∃ a ∈ l, p a)) := by
  refine afun_of Tryz.func83 Tryz.call83 rfl Tryz.ntmps83 rfl ?_
  have W : Walk Tryz.prog TT 83 _ := Walk.of TT_ok Tryz.func83 Tryz.results83
  refine go_loop W 0 200 (σ := Nat) (fun i => [(0, .fi .i64 l), (1, .fn g [] cs), (7, .int .i64 l.length), (8, .int .i64 i)]) (fun _ => []) (fun i => l.length - i) (fun i => i ≤ l.length ∧ ∀ j, j < i → ¬ p (l.getD j 0)) 0 [0, 1, 7, 8] rfl rfl rfl trivial
    ⟨Nat.zero_le _, fun j hj => by omega⟩ ?_
  rintro i ⟨hi, he⟩ ih
  refine sp W 0 rfl rfl rfl (fun h1 => ?_) (fun h1 => ?_)
  · have h1 : i < l.length := by omega
    refine go_callE W 0 300 rfl (by first | exact True.intro | (simp only [AllC, AllP, addN, Int.toNat_natCast, true_and, and_true, Option.getD, List.length_set, wrapU, pw1, pw7, pw8, pw16, pw23, pw32, pw52, Holds] <;> first | omega | ((repeat' apply And.intro) <;> first | omega | (intros; rfl))) | (simp [AllC, AllP, addN, cloL, clo, mrgL, mrg, wrapU, Holds] <;> omega)) (by simp [cloL, clo, hc]) (h (l.getD i 0) (getD_mem h1)) rfl ?_
    refine sp W 0 rfl rfl rfl (fun h2 => ?_) (fun h2 => ?_)
    · refine rq W 0 rfl rfl (.int .i64 (i : Int)) (⟨_, rfl, ?_⟩) rfl .refl
      simp only [Int.natCast_nonneg, true_iff]
      exact ⟨_, getD_mem h1, h2⟩
    · refine go_back W 0 200 (ds := [0, 1, 7, 8]) rfl rfl (by first | exact True.intro | (simp only [AllC, AllP, addN, Int.toNat_natCast, true_and, and_true, Option.getD, List.length_set, wrapU, pw1, pw7, pw8, pw16, pw23, pw32, pw52, Holds] <;> first | omega | ((repeat' apply And.intro) <;> first | omega | (intros; rfl))) | (simp [AllC, AllP, addN, cloL, clo, mrgL, mrg, wrapU, Holds] <;> omega)) (ih (i + 1) ⟨by omega, fun j hj => ?_⟩ (by omega))
      by_cases hji : j = i
      · subst hji; exact h2
      · exact he j (by omega)
  · refine rq W 0 rfl rfl (.int .i64 (-1)) (⟨_, rfl, ?_⟩) rfl .refl
    constructor
    · intro h; omega
    · rintro ⟨a, ha, hp⟩
      obtain ⟨j, hj, rfl⟩ := mem_getD 0 ha
      exact absurd hp (he j (by omega))
theorem containsInt_ok (l : List Int) (g : FuncId) (cs : List AV) (p : Int → Prop) (hl : l.length ≤ 9223372036854775806) (hc : cloL cs = true)
    (h : ∀ a ∈ l, AFunP Tryz.prog g (.int .i64 a :: cs) (· = .pr (p a))) :
    AFunP Tryz.prog 55 [.fi .i64 l, .fn g [] cs] (· = .pr (∃ a ∈ l, p a)) := by
  refine afun_of Tryz.func55 Tryz.call55 rfl Tryz.ntmps55 rfl ?_
  have W : Walk Tryz.prog TT 55 _ := Walk.of TT_ok Tryz.func55 Tryz.results55
  refine go_callQ W 0 300 rfl (by first | exact True.intro | (simp only [AllC, AllP, addN, Int.toNat_natCast, true_and, and_true, Option.getD, List.length_set, wrapU, pw1, pw7, pw8, pw16, pw23, pw32, pw52, Holds] <;> first | omega | ((repeat' apply And.intro) <;> first | omega | (intros; rfl))) | (simp [AllC, AllP, addN, cloL, clo, mrgL, mrg, wrapU, Holds] <;> omega)) (by simp [cloL, clo, hc]) (indexInt_ok l g cs p hl hc h) ?_
  rintro _ ⟨r, rfl, hr⟩
  refine ⟨_, rfl, ?_⟩
  refine rp W 0 rfl rfl rfl (.pr hr)
/-- Digits of a number that is not too long. -/
def natOk (l : List Int) : Prop := l.length ≤ 256 ∧ (l.length = 0 ∨ l.getD (l.length - 1) 0 ≠ 0) ∧ Dgs l
/-- They are the digits of a number. -/
theorem natOk_dig {l : List Int} (h : natOk l) : ∃ n : Nat, l = dig n ∧ (dig n).length ≤ 256 := by
  obtain ⟨h1, h2, h3⟩ := h
  have e : l = dig (val l).toNat := by
    rw [← trimL_dig h3]
    rcases h2 with h2 | h2
    · rw [List.eq_nil_of_length_eq_zero h2, trimL_nil]
    · rcases List.eq_nil_or_concat l with h4 | ⟨m, d, h4⟩
      · subst h4; rfl
      · subst h4
        have h5 : d ≠ 0 := by simpa using h2
        simp only [List.concat_eq_append] at *
        rw [trimL_snoc, if_neg h5]
  exact ⟨_, e, by rw [← e]; exact h1⟩
theorem dig_top : ∀ n : Nat, n ≠ 0 → (dig n).getD ((dig n).length - 1) 0 ≠ 0 := by
  intro n
  induction n using Nat.strongRecOn with
  | ind n ih =>
    intro hn
    by_cases h : n / 65536 = 0
    · rw [dig_pos hn, h, dig_zero]; simp; omega
    · have := ih (n / 65536) (by omega) h
      have hl : 0 < (dig (n / 65536)).length := by
        cases hd : dig (n / 65536) with
        | nil => exact absurd (dig_nil.1 hd) h
        | cons a l => simp
      rw [dig_pos hn]
      simp only [List.length_cons]
      obtain ⟨m, hm⟩ : ∃ m, (dig (n / 65536)).length = m + 1 := ⟨_, (Nat.sub_add_cancel hl).symm⟩
      rw [hm] at this ⊢
      simpa using this
theorem natOk_of {n : Nat} (h : (dig n).length ≤ 256) : natOk (dig n) := by
  refine ⟨h, ?_, dig_dgs n⟩
  by_cases hn : n = 0
  · left; rw [hn, dig_zero]; rfl
  · right; exact dig_top n hn
end Pf
/- Fractions: which are one. -/
namespace Pf
open Go Go.Proofs

theorem AFun.subj {P : Program} {f : FuncId} {args args' : List AV} {H : AHeap} {R : AV → AHeap → Prop} (h : AFun P f args' H R) (s : Subs args args') : AFun P f args H R :=
  ⟨h.enters, fun FM β cs w cargs hv hh => h.run FM β cs w cargs ⟨by rw [s.len]; exact hv.1, fun i hi => s.get i (by rw [← s.len]; exact hi) hi _ _ _ (hv.2 i (by rw [← s.len]; exact hi))⟩ hh⟩
end Pf
/- Fractions: impl's own functions. -/
namespace Pf
open Go Go.Proofs

theorem len_nil {t : List Int} : (0 : Int) < (t.length : Int) ↔ t ≠ [] := by
  cases t <;> simp
open Classical in
/-- The sign of a fraction. -/
noncomputable def fsgn (p : Prop) (t : List Int) : Int := if p then -1 else if t = [] then 0 else 1
theorem dig_len_mul {a b m n : Nat} (ha : (dig a).length ≤ m) (hb : (dig b).length ≤ n) : (dig (a * b)).length ≤ m + n := by
  rw [dig_len_le] at *
  rw [Nat.pow_add]
  exact Nat.mul_lt_mul'' ha hb
end Pf
/- Fractions: sums. -/
namespace Pf
open Go Go.Proofs

open Classical in
/-- The numerator of a sum, and whether it is below 0: of a/b and c/d, x = a d and y = c b. -/
noncomputable def sumT (p q : Prop) (x y : Nat) : Nat := if (p ↔ q) then x + y else if y ≤ x then x - y else y - x
def sumP (p q : Prop) (x y : Nat) : Prop := if (y ≤ x) then p else q
end Pf
/- Fractions: what is handed out. -/
namespace Pf
open Go Go.Proofs

section
variable {P : Program} {TT : TypeId → Option TI} {f N n0 : Nat} {k : List Item} {T : Env} {H : AHeap} {R : AV → AHeap → Prop}
variable {nf : Nat} {ops : Array Oper} {past op pend' : List Nat} {vin ws vs' : List (Option Nat × AV)} {ps : List Prop} {cl : List CallM}
/-- An effect that is a call which makes blocks. -/
theorem phx (W : PW P TT N ops nf) (m e : Nat) (hs : List (Nat × Bool)) (us : List AV) {d : Option Nat} {g : FuncId} {args : List AV} {Q : AV → AHeap → Prop}
    (hd : phM TT m ops.toList (dropD (dstsM nf ops.toList) T) H hs past (needsAll ops.toList past []) (e :: pend') op vin nf 0 [] us = some (ps, cl, ws)) (hch : (chainM ops.toList nf e pend' && subM (e :: pend') op) = true) (hcl : AllCalls P H cl)
    (he : effC ops.toList (dropD (dstsM nf ops.toList) T) ws e = some (d, g, args)) (hc : cloL args = true) (hq : AFun P g args [] Q) (hfl : ∀ u H2, Q u H2 → flat u = true ∧ flatH H2)
    (next : ∀ u H2, Q u H2 → ∃ vs' H1, setM (d, shf (lenM H) u) ws e = some vs' ∧ appM H (H2.map (shfB (lenM H))) = some H1 ∧ Ph1 P f N n0 nf ops k T R (e :: past) pend' (e :: pend') vs' H1) (hp : AllP ps := by first | exact True.intro | (simp only [AllC, AllP, addN, Int.toNat_natCast, true_and, and_true, Option.getD, List.length_set, wrapU, pw1, pw7, pw8, pw16, pw23, pw32, pw52, Holds] <;> first | omega | ((repeat' apply And.intro) <;> first | omega | (intros; rfl))) | (simp [AllC, AllP, addN, cloL, clo, mrgL, mrg, wrapU, Holds] <;> omega)) : Ph1 P f N n0 nf ops k T R past (e :: pend') op vin H :=
  ph_call W m e hs us hd hch hp hcl he (hq.frame hc hfl H) fun v H1 ⟨u, H2, r1, r2, r3⟩ => by
    obtain ⟨vs', H1', q1, q2, q3⟩ := next u H2 r1
    rw [appM_eq] at q2
    rw [lenM_eq] at q1 q2
    cases q2
    subst r2; subst r3
    exact ⟨vs', q1, q3⟩
/-- .. that makes blocks of whole numbers. -/
theorem phn (W : PW P TT N ops nf) (m e : Nat) (hs : List (Nat × Bool)) (us : List AV) {d : Option Nat} {g : FuncId} {args args' : List AV} {ss : List Prop} {Q : AV → AHeap → Prop}
    (hd : phM TT m ops.toList (dropD (dstsM nf ops.toList) T) H hs past (needsAll ops.toList past []) (e :: pend') op vin nf 0 [] us = some (ps, cl, ws)) (hch : (chainM ops.toList nf e pend' && subM (e :: pend') op) = true) (hcl : AllCalls P H cl)
    (he : effC ops.toList (dropD (dstsM nf ops.toList) T) ws e = some (d, g, args)) (ef : mapF (frz (fun _ => true) H 9) args = some (ss, args')) (hc : cloL args' = true) (hq : AFunN P g args' Q)
    (next : ∀ u H2, Q u H2 → ∃ vs' H1, setM (d, shf (lenM H) u) ws e = some vs' ∧ appM H H2 = some H1 ∧ Ph1 P f N n0 nf ops k T R (e :: past) pend' (e :: pend') vs' H1) (hp : AllP ps := by first | exact True.intro | (simp only [AllC, AllP, addN, Int.toNat_natCast, true_and, and_true, Option.getD, List.length_set, wrapU, pw1, pw7, pw8, pw16, pw23, pw32, pw52, Holds] <;> first | omega | ((repeat' apply And.intro) <;> first | omega | (intros; rfl))) | (simp [AllC, AllP, addN, cloL, clo, mrgL, mrg, wrapU, Holds] <;> omega)) (hss : AllC ss := by first | exact True.intro | (simp only [AllC, AllP, addN, Int.toNat_natCast, true_and, and_true, Option.getD, List.length_set, wrapU, pw1, pw7, pw8, pw16, pw23, pw32, pw52, Holds] <;> first | omega | ((repeat' apply And.intro) <;> first | omega | (intros; rfl))) | (simp [AllC, AllP, addN, cloL, clo, mrgL, mrg, wrapU, Holds] <;> omega)) : Ph1 P f N n0 nf ops k T R past (e :: pend') op vin H :=
  ph_call W m e hs us hd hch hp hcl he (hq.at ef hss hc) fun v H1 ⟨u, H2, r1, r2, r3⟩ => by
    obtain ⟨vs', H1', q1, q2, q3⟩ := next u H2 r1
    rw [r3] at q2
    cases q2
    subst r2
    exact ⟨vs', q1, q3⟩
end
end Pf
/- Fractions: impl's exported functions. -/
namespace Pf
open Go Go.Proofs

/-- The digits are those of a fraction. -/
def frOk (p : Prop) (t u : List Int) : Prop := natOk t ∧ natOk u ∧ u ≠ [] ∧ (t = [] → ¬ p) ∧ Nat.gcd (val t).toNat (val u).toNat = 1
/-- No fraction, as it stands in memory. -/
abbrev nilF : AV := .tup [.agg [.bool false, .nils, .nils], .bool false]
theorem AFunP.subv {P : Program} {f : FuncId} {args : List AV} {v u : AV} (h : AFunP P f args (· = v)) (hs : Sub v u) (hc : clo u = true) : AFunP P f args (· = u) :=
  AFun.mono h fun _ _ ⟨ps, u0, u1, h1, h2, h3, _, h5⟩ => ⟨ps, u0, u, h1, h2, fun FM β cv h => hs FM β cv (by have := h3 FM β cv h; rwa [h5] at this), hc, rfl⟩
/-- A new fraction and true. -/
def NewFT (p : Prop) (t u : List Int) (v : AV) (H : AHeap) : Prop := v = .tup [.agg [.pr p, .sl 0 0 0 t.length, .sl 1 0 0 u.length], .pr True] ∧ H = [.ints 0 .i64 t, .ints 0 .i64 u]
end Pf
/- Whole numbers: the model's own functions. -/
namespace Pf
open Go Go.Proofs

theorem l5Trim_ok (l : List Int) (hl : l.length ≤ 1000000000) : AFunP Tryz.prog 97 [.fi .i64 l] (· = .fi .i64 (trimL l)) := by
  refine afun_of Tryz.func97 Tryz.call97 rfl Tryz.ntmps97 rfl ?_
  have W : Walk Tryz.prog TT 97 _ := Walk.of TT_ok Tryz.func97 Tryz.results97
  refine' cutK (fun K => ?main) ?k
  case main =>
    refine lp W 0 (σ := List Int) (fun m => [(0, .fi .i64 l), (2, .nils), (3, .int .i64 m.length)]) (fun _ => []) (fun m => m.length) (fun m => trimL m = trimL l ∧ ∃ z, l = m ++ z) l [0, 2, 3] rfl rfl rfl ⟨rfl, [], by simp⟩ ?_
    rintro m ⟨h1, z, h2⟩ ih
    have hml : m.length ≤ l.length := by rw [h2]; simp
    refine sp W 0 rfl rfl rfl (fun h3 => ?_) (fun h3 => ?_)
    · have h3 : 0 < m.length := by omega
      have hne : m ≠ [] := by rintro rfl; simp at h3
      obtain ⟨n, d, rfl⟩ : ∃ n d, m = n ++ [d] := ⟨_, _, (List.dropLast_concat_getLast hne).symm⟩
      have e1 : (((n ++ [d]).length : Int) - 1).toNat = n.length := by simp
      have e2 : l.getD n.length 0 = d := by rw [h2]; simp
      refine sp W 0 rfl rfl rfl (fun h4 => ?_) (fun h4 => ?_)
      · rw [e1, e2] at h4
        have e3 : (((n ++ [d]).length : Int) - 1) = n.length := by simp
        have hnl : n.length ≤ 1000000000 := by rw [h2] at hl; simp at hl; omega
        refine bk W 0 [0, 2, 3] rfl rfl (by rw [e3]; exact ih n ⟨by rw [← h1, trimL_snoc, if_pos h4], d :: z, by rw [h2]; simp⟩ (by simp)) (hc := ?_)
        simp only [AllC, e3, true_and, and_true]; omega
      · rw [e1, e2] at h4
        have e3 : trimL l = n ++ [d] := by rw [← h1, trimL_snoc, if_neg h4]
        refine atl W rfl ?_
        refine go_nilT 4 (.ints 0 .i64 []) rfl rfl rfl rfl rfl ?_
        refine lp W 0 (σ := Nat × Nat × List Int) (fun s => [(0, .fi .i64 l), (3, .int .i64 (trimL l).length), (4, .sl 0 s.2.1 0 s.1), (5, .int .i64 s.1)]) (fun s => [.ints s.2.1 .i64 s.2.2]) (fun s => (trimL l).length - s.1)
          (fun s => (∃ z, l = trimL l ++ z) ∧ s.1 ≤ (trimL l).length ∧ s.2.2 = l.take s.1) (0, 0, []) [0, 3, 4, 5] rfl (by rw [e3]; rfl) rfl ⟨⟨z, by rw [e3]; exact h2⟩, Nat.zero_le _, by simp⟩ K.get
    · have hm : m = [] := List.eq_nil_of_length_eq_zero (by omega)
      subst hm
      have e3 : trimL l = [] := by rw [← h1]; rfl
      refine atl W rfl ?_
      refine go_nilT 4 (.ints 0 .i64 []) rfl rfl rfl rfl rfl ?_
      refine lp W 0 (σ := Nat × Nat × List Int) (fun s => [(0, .fi .i64 l), (3, .int .i64 (trimL l).length), (4, .sl 0 s.2.1 0 s.1), (5, .int .i64 s.1)]) (fun s => [.ints s.2.1 .i64 s.2.2]) (fun s => (trimL l).length - s.1)
          (fun s => (∃ z, l = trimL l ++ z) ∧ s.1 ≤ (trimL l).length ∧ s.2.2 = l.take s.1) (0, 0, []) [0, 3, 4, 5] rfl (by rw [e3]; rfl) rfl ⟨⟨l, by rw [e3]; rfl⟩, Nat.zero_le _, by simp⟩ K.get
  case k =>
    rintro ⟨i, g, o⟩ ⟨⟨z, hz⟩, hi, ho⟩ ih
    dsimp only at hi ho ih ⊢
    have hlt : (trimL l).length ≤ l.length := by conv => rhs; rw [hz]
                                                 simp
    have hol : o.length = i := by rw [ho]; simp; omega
    refine sp W 0 rfl rfl rfl (fun h1 => ?_) (fun h1 => ?_)
    · have h1 : i < l.length := by omega
      refine bd W 0 1 [0, 3, 4, 5] rfl rfl rfl rfl rfl (ih (i + 1, g + 1, o ++ [l.getD i 0]) ⟨⟨z, hz⟩, by dsimp only; omega, ?_⟩ (by dsimp only; omega))
      rw [ho, List.take_add_one, List.getD_eq_getElem?_getD, List.getElem?_eq_getElem h1]; rfl
    · have hiL : i = (trimL l).length := by omega
      have e4 : o = trimL l := by
        rw [ho, hiL]
        have := congrArg (List.take (trimL l).length) hz
        rwa [List.take_left] at this
      refine rp W 0 rfl rfl rfl (.fi e4)
end Pf
/- Whole numbers: digits by numbers alone. -/
namespace Pf
open Go Go.Proofs

/-- Digits whose number is as long as they are, are the number's. -/
theorem dig_of_top {l : List Int} (h : Dgs l) (hv : l = [] ∨ 65536 ^ l.length ≤ 65536 * val l) : dig (val l).toNat = l := by
  refine dig_val h fun hne h0 => ?_
  rcases hv with rfl | hv
  · exact hne rfl
  obtain ⟨m, d, rfl⟩ : ∃ m d, l = m ++ [d] := ⟨_, _, (List.dropLast_concat_getLast hne).symm⟩
  simp at h0
  subst h0
  have hm : Dgs m := fun x hx => h x (by simp [hx])
  have h1 := val_lt hm
  rw [val_app, val_single, Int.mul_zero, Int.add_zero, List.length_append, List.length_singleton, Int.pow_succ] at hv
  omega
theorem val_take_any (l : List Int) (k : Nat) : val (l.take (k + 1)) = val (l.take k) + 65536 ^ k * l.getD k 0 := by
  rcases Nat.lt_or_ge k l.length with h | h
  · exact val_take_succ h
  · rw [List.take_of_length_le (by omega), List.take_of_length_le h, getD_over h]; simp
theorem val_snoc (l : List Int) (d : Int) {k : Nat} (h : l.length = k) : val (l ++ [d]) = val l + 65536 ^ k * d := by
  subst h; rw [val_app, val_single]
/-- A digit, by the number. -/
theorem dig_get (a k : Nat) : (dig a).getD k 0 = ((a / 65536 ^ k % 65536 : Nat) : Int) := by
  induction k generalizing a with
  | zero =>
    by_cases h : a = 0
    · subst h; simp [dig_zero]
    · rw [dig_pos h]; simp
  | succ k ih =>
    by_cases h : a = 0
    · subst h; simp [dig_zero]
    · rw [dig_pos h, Nat.pow_succ, Nat.mul_comm, ← Nat.div_div_eq_div_mul]
      simpa using ih (a / 65536)
theorem dig_drop (a k : Nat) : (dig a).drop k = dig (a / 65536 ^ k) := by
  induction k generalizing a with
  | zero => simp
  | succ k ih =>
    by_cases h : a = 0
    · subst h; simp [dig_zero]
    · rw [dig_pos h, List.drop_succ_cons, ih, Nat.pow_succ, Nat.mul_comm, ← Nat.div_div_eq_div_mul]
theorem dig_shl (a : Nat) (h : a ≠ 0) : ∀ k, List.replicate k (0 : Int) ++ dig a = dig (a * 65536 ^ k)
  | 0 => by simp
  | k + 1 => by
    have h1 : a * 65536 ^ (k + 1) ≠ 0 := Nat.mul_ne_zero h (Nat.pos_iff_ne_zero.1 (Nat.pow_pos (by omega)))
    rw [List.replicate_succ, List.cons_append, dig_shl a h k, dig_pos h1, Nat.pow_succ, ← Nat.mul_assoc]
    simp
theorem dig_small {d : Nat} (h : d < 65536) : dig d = if d = 0 then [] else [(d : Int)] := by
  split
  · rename_i h0; subst h0; exact dig_zero
  · rename_i h0
    rw [dig_pos h0, Nat.mod_eq_of_lt h, Nat.div_eq_of_lt h, dig_zero]
theorem dig_lt {a n : Nat} (h : (dig a).length ≤ n) : a < 65536 ^ n := dig_len_le.1 h
theorem dig_len_add {a b n : Nat} (ha : (dig a).length ≤ n) (hb : (dig b).length ≤ n) : (dig (a + b)).length ≤ n + 1 := by
  rw [dig_len_le] at *
  rw [Nat.pow_succ]; omega
/-- The two highest digits. -/
theorem dig_two {r n : Nat} (h : r < 65536 ^ (n + 2)) : (dig r).getD (n + 1) 0 * 65536 + (dig r).getD n 0 = ((r / 65536 ^ n : Nat) : Int) := by
  rw [dig_get, dig_get]
  have h1 : r / 65536 ^ (n + 1) = r / 65536 ^ n / 65536 := by rw [Nat.pow_succ, Nat.div_div_eq_div_mul]
  have h2 : r / 65536 ^ n < 65536 * 65536 := by
    refine Nat.div_lt_of_lt_mul ?_
    rw [show 65536 ^ n * (65536 * 65536) = 65536 ^ (n + 2) by rw [Nat.pow_succ, Nat.pow_succ, Nat.mul_assoc]]; exact h
  rw [h1]
  generalize r / 65536 ^ n = x at *
  omega
/-- A guess by the highest digits is not below. -/
theorem guess_ge {r y n Q : Nat} (hy : 65536 ^ n ≤ y) (hQ : Q * y ≤ r) : Q ≤ r / 65536 ^ n / (y / 65536 ^ n) := by
  have hp : 0 < 65536 ^ n := Nat.pow_pos (by omega)
  have hv : 0 < y / 65536 ^ n := Nat.div_pos hy hp
  rw [Nat.le_div_iff_mul_le hv, Nat.le_div_iff_mul_le hp, Nat.mul_assoc]
  exact Nat.le_trans (Nat.mul_le_mul_left _ (Nat.div_mul_le_self _ _)) hQ
end Pf
/- Whole numbers: the model's own functions, simple ones. -/
namespace Pf
open Go Go.Proofs
theorem specNatOk_ok (l : List Int) (hl : l.length ≤ 9223372036854775806) : AFunP Tryz.prog 89 [.fi .i64 l] (· = .pr (natOk l)) := by
  refine afun_of Tryz.func89 Tryz.call89 rfl Tryz.ntmps89 rfl ?_
  have W : Walk Tryz.prog TT 89 _ := Walk.of TT_ok Tryz.func89 Tryz.results89
  refine sp W 0 rfl rfl rfl (fun h1 => ?_) (fun h1 => ?_)
  · refine rp W 0 rfl rfl rfl (.no (fun h => by have := h.1; omega))
  refine lp W 0 (σ := Nat) (fun i => [(0, .fi .i64 l), (3, .int .i64 i)]) (fun _ => []) (fun i => l.length - i) (fun i => i ≤ l.length ∧ ∀ j, j < i → 0 ≤ l.getD j 0 ∧ l.getD j 0 < 65536) 0 [0, 3] rfl rfl rfl ⟨Nat.zero_le _, fun j hj => by omega⟩ ?_
  rintro i ⟨hi, he⟩ ih
  have bad : ∀ h : i < l.length, ¬ (0 ≤ l.getD i 0 ∧ l.getD i 0 < 65536) → ¬ natOk l := fun h h2 h3 => h2 (h3.2.2 _ (getD_mem h))
  refine sp W 0 rfl rfl rfl (fun h2 => ?_) (fun h2 => ?_)
  · have h2 : i < l.length := by omega
    refine sp W 0 rfl rfl rfl (fun h3 => ?_) (fun h3 => ?_)
    · rw [Int.toNat_natCast] at h3
      refine rp W 0 rfl rfl rfl (.no (bad h2 (by omega)))
    · refine sp W 0 rfl rfl rfl (fun h4 => ?_) (fun h4 => ?_)
      · rw [Int.toNat_natCast] at h4
        refine rp W 0 rfl rfl rfl (.no (bad h2 (by omega)))
      · rw [Int.toNat_natCast] at h3 h4
        refine bk W 0 [0, 3] rfl rfl (ih (i + 1) ⟨by omega, fun j hj => ?_⟩ (by omega))
        by_cases hji : j = i
        · subst hji; omega
        · exact he j (by omega)
  · have hil : i = l.length := by omega
    subst hil
    have hd : Dgs l := dgs_of_getD he
    refine sp W 0 rfl rfl rfl (fun h3 => ?_) (fun h3 => ?_)
    · refine rp W 0 rfl rfl rfl (.yes ⟨by omega, .inl (by omega), hd⟩)
    · have e : ((l.length : Int) - 1).toNat = l.length - 1 := by omega
      refine rp W 0 rfl rfl rfl (.pr (by rw [e]; exact ⟨fun h => ⟨by omega, .inr h, hd⟩, fun h => h.2.1.resolve_left (by omega)⟩))
theorem specNatOf_ok (n : Nat) (h1 : n ≤ 18446744073709551615) : AFunP Tryz.prog 73 [.int .u64 n] (· = .fi .i64 (dig n)) := by
  refine afun_of Tryz.func73 Tryz.call73 rfl Tryz.ntmps73 rfl ?_
  have W : Walk Tryz.prog TT 73 _ := Walk.of TT_ok Tryz.func73 Tryz.results73
  refine atl W rfl ?_
  refine go_nilT 3 (.ints 0 .i64 []) rfl rfl rfl rfl rfl ?_
  refine lp W 0 (σ := Nat × Nat × List Int) (fun s => [(0, .int .u64 s.1), (3, .sl 0 s.2.1 0 s.2.2.length)]) (fun s => [.ints s.2.1 .i64 s.2.2]) (fun s => s.1) (fun s => s.1 ≤ 18446744073709551615 ∧ s.2.2 ++ dig s.1 = dig n) (n, 0, []) [0, 3] rfl rfl rfl ⟨h1, rfl⟩ ?_
  rintro ⟨m, g, l⟩ ⟨hm, he⟩ ih
  dsimp only at hm he ih ⊢
  have hl : l.length ≤ 4 := by
    have h2 := congrArg List.length he
    rw [List.length_append] at h2
    have h3 : (dig n).length ≤ 4 := dig_len_le.2 (by omega)
    omega
  refine sp W 0 rfl rfl rfl (fun h2 => ?_) (fun h2 => ?_)
  · have hm0 : m ≠ 0 := by omega
    have e1 : ((m : Int) % 65536) = ((m % 65536 : Nat) : Int) := by omega
    have e2 : ((m : Int) / 65536) = ((m / 65536 : Nat) : Int) := by omega
    rw [dig_pos hm0] at he
    have nx := ih (m / 65536, g + 1, l ++ [((m % 65536 : Nat) : Int)]) ⟨by dsimp only; omega, by simpa using he⟩ (by dsimp only; omega)
    dsimp only at nx
    rw [List.length_append, ← e1, ← e2] at nx
    refine bd W 0 1 [0, 3] rfl rfl rfl rfl rfl (nx)
  · have hm0 : m = 0 := by omega
    subst hm0
    rw [dig_zero, List.append_nil] at he
    refine rp W 0 rfl rfl rfl (.fi he)
end Pf
/- Whole numbers: the model's own functions, sums, products, shifts. -/
namespace Pf
open Go Go.Proofs
theorem l5DivSmall_ok (a d : Nat) (hd0 : 0 < d) (hd : d < 65536) (ha : (dig a).length ≤ 10000000) : AFunP Tryz.prog 90 [.fi .i64 (dig a), .int .i64 d] (· = .tup [.fi .i64 (dig (a / d)), .int .i64 ((a % d : Nat) : Int)]) := by
  refine afun_of Tryz.func90 Tryz.call90 rfl Tryz.ntmps90 rfl ?_
  have W : Walk Tryz.prog TT 90 _ := Walk.of TT_ok Tryz.func90 Tryz.results90
  have da := dig_dgs a
  refine lp W 0 (σ := Nat × Int × List Int) (fun s => [(0, .fi .i64 (dig a)), (1, .int .i64 d), (6, .sl 0 0 0 (dig a).length), (7, .int .i64 s.2.1), (8, .int .i64 ((s.1 : Int) - 1))]) (fun s => [.ints 0 .i64 s.2.2]) (fun s => s.1)
      (fun s => s.1 ≤ (dig a).length ∧ s.2.2.length = (dig a).length ∧ 0 ≤ s.2.1 ∧ s.2.1 < d ∧ val s.2.2 * d + s.2.1 * 65536 ^ s.1 + val ((dig a).take s.1) = a ∧ ∀ j, 0 ≤ s.2.2.getD j 0 ∧ s.2.2.getD j 0 < 65536 ∧ (j < s.1 → s.2.2.getD j 0 = 0))
      ((dig a).length, 0, List.replicate (dig a).length 0) [0, 1, 6, 7, 8] rfl rfl rfl ⟨Nat.le_refl _, by simp, by simp, by dsimp only; omega, by simp [val_replicate, val, List.take_length, val_dig], fun j => ?_⟩ ?_
  · have : (List.replicate (dig a).length (0 : Int)).getD j 0 = 0 := by
      rw [List.getD_eq_getElem?_getD, List.getElem?_replicate]; split <;> rfl
    dsimp only; omega
  rintro ⟨t, r, l⟩ ⟨ht, hl, r0, r1, hv, hdd⟩ ih
  dsimp only at ht hl r0 r1 hv hdd ih ⊢
  refine sp W 0 rfl rfl rfl (fun h3 => ?_) (fun h3 => ?_)
  · obtain ⟨t, rfl⟩ : ∃ m, t = m + 1 := ⟨t - 1, by omega⟩
    have et : (((t + 1 : Nat) : Int) - 1) = (t : Int) := by omega
    have ga := da.get t
    obtain ⟨N, hN⟩ : ∃ N, r * 65536 + (dig a).getD t 0 = N := ⟨_, rfl⟩
    have n0 : 0 ≤ N := by omega
    have q0 : 0 ≤ N / d := Int.ediv_nonneg n0 (by omega)
    have q1 : N / d < 65536 := Int.ediv_lt_of_lt_mul (by omega) (by omega)
    have m0 := Int.emod_nonneg N (b := d) (by omega)
    have m1 := Int.emod_lt_of_pos N (b := d) (by omega)
    have gl := (hdd t).2.2 (by omega)
    have nx := ih (t, N % d, l.set t (N / d)) ⟨by dsimp only; omega, by simpa using hl, m0, m1, ?_, fun j => ?_⟩ (by dsimp only; omega)
    · rw [et]
      rw [← hN] at nx
      refine bk W 0 [0, 1, 6, 7, 8] rfl rfl (nx) (hc := by simp only [AllC, addN, Int.toNat_natCast, true_and, and_true, eq_self, List.length_set, List.length_cons, List.length_nil, List.length_append, List.length_replicate, wrapU, pw1, pw7, pw8, pw16, pw23, pw32, pw52] <;> first | omega | ((repeat' apply And.intro) <;> first | omega | (intros; rfl)))
    · dsimp only
      rw [val_take_succ (show t < (dig a).length by omega), Int.pow_succ] at hv
      rw [val_set _ _ _ (by omega), gl, Int.sub_zero, Int.add_mul, Int.mul_assoc (65536 ^ t), Int.mul_comm (N % d)]
      have e1 : N / d * d + N % d = r * 65536 + (dig a).getD t 0 := by rw [Int.mul_comm]; rw [hN]; exact Int.mul_ediv_add_emod N d
      have e2 : 65536 ^ t * (N / d * d) + 65536 ^ t * (N % d) = r * (65536 ^ t * 65536) + 65536 ^ t * (dig a).getD t 0 := by
        rw [← Int.mul_add, e1, Int.mul_add]; congr 1; simp only [Int.mul_assoc, Int.mul_comm, Int.mul_left_comm]
      omega
    · dsimp only
      rw [getD_set _ _ _ _ (by omega)]
      have := hdd j
      split <;> omega
  · obtain rfl : t = 0 := by omega
    have dl : Dgs l := dgs_of_getD fun j hj => by have := hdd j; omega
    simp only [List.take_zero, val, Int.pow_zero, Int.mul_one, Int.add_zero] at hv
    have v0 := val_nonneg dl
    obtain ⟨u1, u2⟩ := divmod hv r0 r1
    refine cf W 0 [0] [7] rfl rfl rfl rfl rfl rfl (l5Trim_ok l (by omega)) rfl ?_
    refine rp W 0 rfl rfl rfl (.tup ⟨.fi (by rw [trimL_dig dl, u1, Int.toNat_natCast]), .int u2, trivial⟩)
end Pf
/- Whole numbers: the model's own quotient -/
namespace Pf
open Go Go.Proofs
end Pf
/- Fractions: the model's own parts -/
namespace Pf
open Go Go.Proofs
theorem bitL_len {a : Nat} : bitL a ≤ 16 * (dig a).length := by
  rw [bitL_lt, show (2 : Nat) ^ (16 * (dig a).length) = (2 ^ 16) ^ (dig a).length from Nat.pow_mul 2 16 _]
  exact dig_lt (Nat.le_refl _)
open Classical in
/-- A fraction of a and b, in lowest terms, if it has not too many digits. -/
noncomputable def made (p : Prop) (a b : Nat) : AV := if (dig (a / Nat.gcd a b)).length ≤ 256 ∧ (dig (b / Nat.gcd a b)).length ≤ 256 then .tup [frF (p ∧ a ≠ 0) (dig (a / Nat.gcd a b)) (dig (b / Nat.gcd a b)), .pr True] else .tup [frF False [] [], .pr False]
end Pf
/- Fractions: the model's sums and products -/
namespace Pf
open Go Go.Proofs
open Classical in
/-- A fraction and true; nothing and false. -/
noncomputable def resF (ok p : Prop) (t u : List Int) : AV := if ok then .tup [frF p t u, .pr True] else .tup [frF False [] [], .pr False]
theorem resF_no {ok p : Prop} {t u : List Int} (h : ¬ ok) : resF ok p t u = .tup [frF False [] [], .pr False] := if_neg h
theorem resF_yes {ok p : Prop} {t u : List Int} (h : ok) : resF ok p t u = .tup [frF p t u, .pr True] := if_pos h
theorem sub_noF : Sub (.tup [.agg [.bool false, .nils, .nils], .bool false]) (.tup [frF False [] [], .pr False]) := .tup ⟨.agg ⟨.no id, .nils_fi, .nils_fi, trivial⟩, .no id, trivial⟩
/-- The number of digits. -/
def nm (l : List Int) : Nat := (val l).toNat
theorem nm_dig (a : Nat) : nm (dig a) = a := by unfold nm; rw [val_dig]; simp
/-- In lowest terms. -/
def lT (a b : Nat) : List Int := dig (a / Nat.gcd a b)
def lB (a b : Nat) : List Int := dig (b / Nat.gcd a b)
def fits (a b : Nat) : Prop := (lT a b).length ≤ 256 ∧ (lB a b).length ≤ 256
theorem made_eq (p : Prop) (a b : Nat) : made p a b = resF (fits a b) (p ∧ a ≠ 0) (lT a b) (lB a b) := by
  unfold made
  by_cases h : fits a b
  · rw [resF_yes h]; exact if_pos h
  · rw [resF_no h]; exact if_neg h
theorem frOk_dig {p : Prop} {t u : List Int} (h : frOk p t u) : ∃ a b : Nat, t = dig a ∧ u = dig b ∧ (dig a).length ≤ 256 ∧ (dig b).length ≤ 256 ∧ b ≠ 0 ∧ (a = 0 → ¬ p) ∧ Nat.gcd a b = 1 := by
  obtain ⟨a, rfl, ha⟩ := natOk_dig h.1
  obtain ⟨b, rfl, hb⟩ := natOk_dig h.2.1
  refine ⟨a, b, rfl, rfl, ha, hb, fun h0 => h.2.2.1 (by rw [h0, dig_zero]), fun h0 => h.2.2.2.1 (by rw [h0, dig_zero]), ?_⟩
  have := h.2.2.2.2
  rw [val_dig, val_dig] at this
  simpa using this
noncomputable def negR (p : Prop) (t u : List Int) : AV := resF (frOk p t u) (¬ p ∧ t ≠ []) t u
noncomputable def mulR (p : Prop) (t u : List Int) (q : Prop) (x y : List Int) : AV :=
  resF ((frOk p t u ∧ frOk q x y) ∧ fits (nm t * nm x) (nm u * nm y)) (¬ (p ↔ q) ∧ nm t * nm x ≠ 0) (lT (nm t * nm x) (nm u * nm y)) (lB (nm t * nm x) (nm u * nm y))
noncomputable def divR (p : Prop) (t u : List Int) (q : Prop) (x y : List Int) : AV :=
  resF ((frOk p t u ∧ frOk q x y ∧ x ≠ []) ∧ fits (nm t * nm y) (nm u * nm x)) (¬ (p ↔ q) ∧ nm t * nm y ≠ 0) (lT (nm t * nm y) (nm u * nm x)) (lB (nm t * nm y) (nm u * nm x))
noncomputable def sT (p : Prop) (t u : List Int) (q : Prop) (x y : List Int) : Nat := sumT p q (nm t * nm y) (nm x * nm u)
noncomputable def sP (p : Prop) (t u : List Int) (q : Prop) (x y : List Int) : Prop := sumP p q (nm t * nm y) (nm x * nm u)
noncomputable def addR (p : Prop) (t u : List Int) (q : Prop) (x y : List Int) : AV :=
  resF ((frOk p t u ∧ frOk q x y) ∧ fits (sT p t u q x y) (nm u * nm y)) (sP p t u q x y ∧ sT p t u q x y ≠ 0) (lT (sT p t u q x y) (nm u * nm y)) (lB (sT p t u q x y) (nm u * nm y))
theorem sT_len {p q : Prop} {a b c d : Nat} (ha : (dig a).length ≤ 1000) (hbl : (dig b).length ≤ 1000) (hc : (dig c).length ≤ 1000) (hdl : (dig d).length ≤ 1000) : (dig (sumT p q (a * d) (c * b))).length ≤ 2001 := by
  have l1 : (dig (a * d)).length ≤ 1000 + 1000 := dig_len_mul ha hdl
  have l2 : (dig (c * b)).length ≤ 1000 + 1000 := dig_len_mul hc hbl
  have l4 := dig_len_add l1 l2
  have : sumT p q (a * d) (c * b) ≤ a * d + c * b := by unfold sumT; split <;> (try split) <;> omega
  exact Nat.le_trans (dig_len_mono this) l4
theorem frOk_neg {q : Prop} {x y : List Int} (h : frOk q x y) : frOk (¬ q ∧ x ≠ []) x y := ⟨h.1, h.2.1, h.2.2.1, fun h0 h1 => h1.2 h0, h.2.2.2.2⟩
noncomputable def subR (p : Prop) (t u : List Int) (q : Prop) (x y : List Int) : AV :=
  resF ((frOk p t u ∧ frOk q x y) ∧ fits (sT p t u (¬ q ∧ x ≠ []) x y) (nm u * nm y)) (sP p t u (¬ q ∧ x ≠ []) x y ∧ sT p t u (¬ q ∧ x ≠ []) x y ≠ 0) (lT (sT p t u (¬ q ∧ x ≠ []) x y) (nm u * nm y)) (lB (sT p t u (¬ q ∧ x ≠ []) x y) (nm u * nm y))
theorem subR_eq {p q : Prop} {t u x y : List Int} (h : frOk q x y) : subR p t u q x y = addR p t u (¬ q ∧ x ≠ []) x y := by
  unfold subR addR; congr 1
  exact propext ⟨fun k => ⟨⟨k.1.1, frOk_neg h⟩, k.2⟩, fun k => ⟨⟨k.1.1, h⟩, k.2⟩⟩
end Pf
/- Fractions: impl's exported sums and products -/
namespace Pf
open Go Go.Proofs
/-- What a function over fractions answers: whether there is a fraction, and which. -/
structure FRes where
  ok : Prop
  p : Prop
  t : List Int
  u : List Int
noncomputable def FRes.av (r : FRes) : AV := resF r.ok r.p r.t r.u
noncomputable def negS (p : Prop) (t u : List Int) : FRes := ⟨frOk p t u, ¬ p ∧ t ≠ [], t, u⟩
noncomputable def mulS (p : Prop) (t u : List Int) (q : Prop) (x y : List Int) : FRes :=
  ⟨(frOk p t u ∧ frOk q x y) ∧ fits (nm t * nm x) (nm u * nm y), ¬ (p ↔ q) ∧ nm t * nm x ≠ 0, lT (nm t * nm x) (nm u * nm y), lB (nm t * nm x) (nm u * nm y)⟩
noncomputable def divS (p : Prop) (t u : List Int) (q : Prop) (x y : List Int) : FRes :=
  ⟨(frOk p t u ∧ frOk q x y ∧ x ≠ []) ∧ fits (nm t * nm y) (nm u * nm x), ¬ (p ↔ q) ∧ nm t * nm y ≠ 0, lT (nm t * nm y) (nm u * nm x), lB (nm t * nm y) (nm u * nm x)⟩
noncomputable def addS (p : Prop) (t u : List Int) (q : Prop) (x y : List Int) : FRes :=
  ⟨(frOk p t u ∧ frOk q x y) ∧ fits (sT p t u q x y) (nm u * nm y), sP p t u q x y ∧ sT p t u q x y ≠ 0, lT (sT p t u q x y) (nm u * nm y), lB (sT p t u q x y) (nm u * nm y)⟩
noncomputable def subS (p : Prop) (t u : List Int) (q : Prop) (x y : List Int) : FRes :=
  ⟨(frOk p t u ∧ frOk q x y) ∧ fits (sT p t u (¬ q ∧ x ≠ []) x y) (nm u * nm y), sP p t u (¬ q ∧ x ≠ []) x y ∧ sT p t u (¬ q ∧ x ≠ []) x y ≠ 0, lT (sT p t u (¬ q ∧ x ≠ []) x y) (nm u * nm y), lB (sT p t u (¬ q ∧ x ≠ []) x y) (nm u * nm y)⟩
/-- A function answers so, in new memory. -/
structure ImplF (g : FuncId) (args : List AV) (r : FRes) : Prop where
  no : ¬ r.ok → AFunP Tryz.prog g args (· = nilF)
  yes : r.ok → AFunN Tryz.prog g args (NewFT r.p r.t r.u)
  lt : r.ok → r.t.length ≤ 256
  lu : r.ok → r.u.length ≤ 256
theorem ImplF.fz {g : FuncId} {args : List AV} {r : FRes} (h : ImplF g args r) {ss : List Prop} (e : mapF (frz (fun _ => true) [] 9) args = some (ss, args)) (hs : AllC ss) (hc : cloL args = true) : AFunP Tryz.prog g args (· = r.av) := by
  by_cases ho : r.ok
  · refine (h.yes ho).toP e hs hc fun u H2 ⟨h1, h2⟩ => ?_
    subst h1; subst h2
    exact ⟨_, _, .tup [frF r.p r.t r.u, .pr True], rfl, ⟨⟨trivial, rfl, rfl⟩, rfl, rfl⟩, .refl, rfl, (resF_yes ho).symm⟩
  · have e : r.av = _ := resF_no ho
    rw [e]; exact (h.no ho).subv sub_noF rfl
end Pf
/- Fractions as rational numbers -/
namespace Pf
open Go Go.Proofs
/-- Fractions as rational numbers. -/
def dt (r : Rat) : List Int := dig r.num.natAbs
def db (r : Rat) : List Int := dig r.den
def frR (r : Rat) : AV := frF (r < 0) (dt r) (db r)
def small (r : Rat) : Prop := (dt r).length ≤ 256 ∧ (db r).length ≤ 256
open Classical in
/-- A number with a sign. -/
noncomputable def sg (p : Prop) (a : Nat) : Int := if p then -(a : Int) else a
theorem sg_yes {p : Prop} {a : Nat} (h : p) : sg p a = -(a : Int) := if_pos h
theorem sg_no {p : Prop} {a : Nat} (h : ¬ p) : sg p a = a := if_neg h
theorem sg_abs (p : Prop) (a : Nat) : (sg p a).natAbs = a := by unfold sg; split <;> simp
theorem num_neg {r : Rat} : r < 0 ↔ r.num < 0 := by
  rw [← Rat.not_le, ← Rat.num_nonneg]; omega
theorem sg_num (r : Rat) : sg (r < 0) r.num.natAbs = r.num := by
  by_cases h : r < 0
  · rw [sg_yes h]; have := num_neg.1 h; omega
  · have : ¬ r.num < 0 := fun k => h (num_neg.2 k)
    rw [sg_no h]; omega
theorem mkRat_parts (p : Prop) (a b : Nat) (hb : b ≠ 0) : lT a b = dt (mkRat (sg p a) b) ∧ lB a b = db (mkRat (sg p a) b) ∧ ((p ∧ a ≠ 0) ↔ mkRat (sg p a) b < 0) := by
  have hb0 : 0 < b := by omega
  have hg : (b.gcd (sg p a).natAbs : Nat) = a.gcd b := by rw [sg_abs, Nat.gcd_comm]
  have hgp : 0 < a.gcd b := Nat.gcd_pos_of_pos_right a hb0
  have hq : (a : Int) / ((a.gcd b : Nat) : Int) = ((a / a.gcd b : Nat) : Int) := by simp
  refine ⟨?_, ?_, ?_⟩
  · unfold lT dt
    rw [Rat.num_mkRat, if_neg hb, hg]
    congr 1
    unfold sg
    split
    · rw [Int.neg_ediv_of_dvd (Int.natCast_dvd_natCast.2 (Nat.gcd_dvd_left a b)), Int.natAbs_neg, hq, Int.natAbs_natCast]
    · rw [hq, Int.natAbs_natCast]
  · unfold lB db
    rw [Rat.den_mkRat, if_neg hb, hg]
  · rw [num_neg, Rat.num_mkRat, if_neg hb, hg]
    have hd : ((a.gcd b : Nat) : Int) ∣ (a : Int) := Int.natCast_dvd_natCast.2 (Nat.gcd_dvd_left a b)
    unfold sg
    split
    · rename_i hp
      rw [Int.neg_ediv_of_dvd hd]
      constructor
      · rintro ⟨_, h0⟩
        have h1 : 0 < a / a.gcd b := Nat.div_pos (Nat.gcd_le_left b (by omega)) hgp
        rw [hq]; have := Int.natCast_pos.2 h1; omega
      · intro h
        refine ⟨hp, fun h0 => ?_⟩
        subst h0; simp at h
    · rename_i hp
      constructor
      · exact fun h => absurd h.1 hp
      · intro h
        rw [hq] at h; exact absurd h (Int.not_lt.2 (Int.natCast_nonneg _))
/-- A fraction's number. -/
noncomputable def rat (p : Prop) (t u : List Int) : Rat := mkRat (sg p (nm t)) (nm u)
theorem frOk_rat {p : Prop} {t u : List Int} (h : frOk p t u) : t = dt (rat p t u) ∧ u = db (rat p t u) ∧ (p ↔ rat p t u < 0) := by
  obtain ⟨a, b, rfl, rfl, ha, hb, hb0, hap, hab⟩ := frOk_dig h
  obtain ⟨h1, h2, h3⟩ := mkRat_parts p a b hb0
  unfold rat
  rw [nm_dig, nm_dig, ← h1, ← h2, ← h3]
  unfold lT lB
  rw [hab, Nat.div_one, Nat.div_one]
  exact ⟨rfl, rfl, fun hp => ⟨hp, fun h0 => hap h0 hp⟩, fun h => h.1⟩
theorem frR_eq {p : Prop} {t u : List Int} (h : frOk p t u) : frF p t u = frR (rat p t u) := by
  obtain ⟨h1, h2, h3⟩ := frOk_rat h
  unfold frR
  rw [← h1, ← h2, ← propext h3]
theorem rat_frR (r : Rat) : rat (r < 0) (dt r) (db r) = r := by
  unfold rat dt db
  rw [nm_dig, nm_dig, sg_num, Rat.mkRat_self]
theorem dt_nil {r : Rat} : dt r = [] ↔ r = 0 := by
  unfold dt; rw [dig_nil, Int.natAbs_eq_zero, Rat.num_eq_zero]
theorem frOk_iff {r : Rat} : frOk (r < 0) (dt r) (db r) ↔ small r := by
  constructor
  · intro h; exact ⟨h.1.1, h.2.1.1⟩
  · intro h
    refine ⟨natOk_of h.1, natOk_of h.2, fun h0 => r.den_nz (dig_nil.1 h0), fun h0 h1 => ?_, ?_⟩
    · rw [dt_nil] at h0; subst h0; exact Rat.lt_irrefl h1
    · unfold dt db
      rw [val_dig, val_dig]
      simpa using r.reduced
theorem fits_iff (p : Prop) (a b : Nat) (hb : b ≠ 0) : fits a b ↔ small (mkRat (sg p a) b) := by
  obtain ⟨h1, h2, _⟩ := mkRat_parts p a b hb
  unfold fits small; rw [h1, h2]
/-- What is answered, by a number. -/
noncomputable def FRes.ofRat (ok : Prop) (r : Rat) : FRes := ⟨ok ∧ small r, r < 0, dt r, db r⟩
theorem res_eq {ok p : Prop} {a b : Nat} {r : Rat} (hb : b ≠ 0) (h : mkRat (sg p a) b = r) : (⟨ok ∧ fits a b, p ∧ a ≠ 0, lT a b, lB a b⟩ : FRes) = .ofRat ok r := by
  obtain ⟨h1, h2, h3⟩ := mkRat_parts p a b hb
  unfold FRes.ofRat
  rw [fits_iff p a b hb, h] 
  rw [h] at h1 h2 h3
  rw [h1, h2, propext h3]
theorem sg_mul (p q : Prop) (a b : Nat) : sg (¬ (p ↔ q)) (a * b) = sg p a * sg q b := by
  by_cases hp : p <;> by_cases hq : q <;> simp [sg, hp, hq, Int.neg_mul, Int.mul_neg]
theorem sg_sum (p q : Prop) (x y : Nat) : sg (sumP p q x y) (sumT p q x y) = sg p x + sg q y := by
  by_cases hp : p <;> by_cases hq : q <;> by_cases hy : y ≤ x <;> simp [sg, sumP, sumT, hp, hq, hy] <;> omega
theorem sg_mul_nat (p : Prop) (a b : Nat) : sg p (a * b) = sg p a * b := by
  unfold sg; split <;> simp [Int.neg_mul]
theorem nz_of {p : Prop} {t u : List Int} (h : frOk p t u) : nm u ≠ 0 := by
  obtain ⟨a, b, rfl, rfl, ha, hb, hb0, hap, hab⟩ := frOk_dig h
  rwa [nm_dig]
theorem ofRat_false {ok : Prop} (h : ¬ ok) (p : Prop) (t u : List Int) (r : Rat) (x : Prop) : ((⟨ok ∧ x, p, t, u⟩ : FRes).av = (FRes.ofRat ok r).av) := by
  unfold FRes.ofRat FRes.av
  rw [resF_no (fun k => h k.1), resF_no (fun k => h k.1)]
theorem mulS_rat {p q : Prop} {t u x y : List Int} (h1 : frOk p t u) (h2 : frOk q x y) : mulS p t u q x y = .ofRat (frOk p t u ∧ frOk q x y) (rat p t u * rat q x y) := by
  unfold mulS
  refine res_eq (Nat.mul_ne_zero (nz_of h1) (nz_of h2)) ?_
  unfold rat
  rw [Rat.mkRat_mul_mkRat, sg_mul]
theorem addS_rat {p q : Prop} {t u x y : List Int} (h1 : frOk p t u) (h2 : frOk q x y) : addS p t u q x y = .ofRat (frOk p t u ∧ frOk q x y) (rat p t u + rat q x y) := by
  unfold addS sT sP
  refine res_eq (Nat.mul_ne_zero (nz_of h1) (nz_of h2)) ?_
  unfold rat
  rw [Rat.mkRat_add_mkRat _ _ (nz_of h1) (nz_of h2), sg_sum, sg_mul_nat, sg_mul_nat]
theorem rat_neg {q : Prop} {x y : List Int} (h : frOk q x y) : rat (¬ q ∧ x ≠ []) x y = - rat q x y := by
  obtain ⟨a, b, rfl, rfl, ha, hb, hb0, hap, hab⟩ := frOk_dig h
  unfold rat
  rw [nm_dig, nm_dig, Rat.neg_mkRat]
  congr 1
  by_cases h0 : a = 0
  · subst h0; simp [sg]
  · have : dig a ≠ [] := fun h => h0 (dig_nil.1 h)
    by_cases hq : q <;> simp [sg, hq, this]
theorem subS_rat {p q : Prop} {t u x y : List Int} (h1 : frOk p t u) (h2 : frOk q x y) : subS p t u q x y = .ofRat (frOk p t u ∧ frOk q x y) (rat p t u - rat q x y) := by
  have e : rat p t u - rat q x y = rat p t u + rat (¬ q ∧ x ≠ []) x y := by rw [rat_neg h2, Rat.sub_eq_add_neg]
  rw [e]
  unfold subS sT sP
  refine res_eq (Nat.mul_ne_zero (nz_of h1) (nz_of h2)) ?_
  unfold rat
  rw [Rat.mkRat_add_mkRat _ _ (nz_of h1) (nz_of h2), sg_sum, sg_mul_nat, sg_mul_nat]
theorem divS_rat {p q : Prop} {t u x y : List Int} (h1 : frOk p t u) (h2 : frOk q x y) (h3 : x ≠ []) : divS p t u q x y = .ofRat (frOk p t u ∧ frOk q x y ∧ x ≠ []) (rat p t u / rat q x y) := by
  have hx : nm x ≠ 0 := by
    obtain ⟨a, b, rfl, rfl, ha, hb, hb0, hap, hab⟩ := frOk_dig h2
    rw [nm_dig]; exact fun h => h3 (dig_nil.2 h)
  have hu := nz_of h1
  have hy := nz_of h2
  unfold divS
  refine res_eq (Nat.mul_ne_zero hu hx) ?_
  unfold rat
  rw [Rat.div_def, ← Rat.divInt_ofNat, ← Rat.divInt_ofNat, ← Rat.divInt_ofNat, Rat.inv_divInt, Rat.divInt_mul_divInt]
  by_cases hq : q
  · have e1 : sg q (nm x) = -((nm x : Nat) : Int) := sg_yes hq
    have e2 : sg (¬ (p ↔ q)) (nm t * nm y) = -(sg p (nm t) * (nm y : Int)) := by by_cases hp : p <;> simp [sg, hp, hq, Int.neg_mul]
    rw [e1, e2, Int.mul_neg, ← Rat.neg_divInt_neg, Int.neg_neg]
    simp
  · have e1 : sg q (nm x) = ((nm x : Nat) : Int) := sg_no hq
    have e2 : sg (¬ (p ↔ q)) (nm t * nm y) = sg p (nm t) * (nm y : Int) := by by_cases hp : p <;> simp [sg, hp, hq, Int.neg_mul]
    rw [e1, e2]
    simp
end Pf
/- Floats: values and roundings, numbers alone -/
namespace Pf
open Go Go.Proofs
/-- The value of a float from 0 on, in the least float's units; F: the bits of a fraction. -/
def fv (F n : Nat) : Nat := if n < 2 ^ F then n else (2 ^ F + n % 2 ^ F) * 2 ^ (n / 2 ^ F - 1)
theorem fv_at (F e q : Nat) (h : q < 2 ^ (F + 1)) (h2 : e = 0 ∨ 2 ^ F ≤ q) : fv F (e * 2 ^ F + q) = q * 2 ^ e := by
  have hp : 0 < 2 ^ F := Nat.pow_pos (by omega)
  rw [Nat.pow_succ] at h
  unfold fv
  by_cases hq : q < 2 ^ F
  · have : e = 0 := h2.resolve_right (by omega)
    subst this
    rw [if_pos (by omega)]; simp
  · have h3 : e * 2 ^ F + q = (q - 2 ^ F) + 2 ^ F * (e + 1) := by rw [Nat.mul_add, Nat.mul_comm e]; omega
    have h4 : q - 2 ^ F < 2 ^ F := by omega
    rw [if_neg (by omega), h3, Nat.add_mul_mod_self_left, Nat.mod_eq_of_lt h4, Nat.add_mul_div_left _ _ hp, Nat.div_eq_of_lt h4]
    congr 1
    · omega
    · congr 1; omega
theorem fv_next (F e q : Nat) (h : q < 2 ^ (F + 1)) (h2 : e = 0 ∨ 2 ^ F ≤ q) : fv F (e * 2 ^ F + q + 1) = (q + 1) * 2 ^ e := by
  by_cases hq : q + 1 < 2 ^ (F + 1)
  · exact fv_at F e (q + 1) hq (h2.imp id (by omega))
  · have e1 : q + 1 = 2 ^ F * 2 := by rw [Nat.pow_succ] at h hq; omega
    have e2 : e * 2 ^ F + q + 1 = (e + 1) * 2 ^ F + 2 ^ F := by rw [Nat.add_mul]; omega
    have hp : 0 < 2 ^ F := Nat.pow_pos (by omega)
    rw [e2, fv_at F (e + 1) (2 ^ F) (by rw [Nat.pow_succ]; omega) (.inr (Nat.le_refl _)), e1, Nat.pow_succ 2 e, Nat.mul_assoc, Nat.mul_comm 2]
theorem fv_parts (F n : Nat) : ∃ e q, n = e * 2 ^ F + q ∧ q < 2 ^ (F + 1) ∧ (e = 0 ∨ 2 ^ F ≤ q) := by
  have hp : 0 < 2 ^ F := Nat.pow_pos (by omega)
  by_cases h : n < 2 ^ F
  · exact ⟨0, n, by omega, by rw [Nat.pow_succ]; omega, .inl rfl⟩
  · have h1 : 0 < n / 2 ^ F := Nat.div_pos (by omega) hp
    have h2 := Nat.div_add_mod n (2 ^ F)
    have h3 := Nat.mod_lt n hp
    refine ⟨n / 2 ^ F - 1, 2 ^ F + n % 2 ^ F, ?_, by rw [Nat.pow_succ]; omega, .inr (by omega)⟩
    rw [Nat.sub_mul, Nat.mul_comm (n / 2 ^ F), Nat.one_mul]
    have : 2 ^ F ≤ 2 ^ F * (n / 2 ^ F) := Nat.le_mul_of_pos_right _ h1
    omega
theorem fv_step (F n : Nat) : fv F n < fv F (n + 1) := by
  obtain ⟨e, q, h1, h2, h3⟩ := fv_parts F n
  rw [h1, fv_at F e q h2 h3, fv_next F e q h2 h3]
  exact Nat.mul_lt_mul_of_pos_right (by omega) (Nat.pow_pos (by omega))
theorem fv_lt {F m n : Nat} (h : m < n) : fv F m < fv F n := by
  induction n with
  | zero => omega
  | succ n ih =>
    have := fv_step F n
    rcases (by omega : m = n ∨ m < n) with rfl | h1
    · exact this
    · have := ih h1; omega
theorem fv_le {F m n : Nat} (h : m ≤ n) : fv F m ≤ fv F n := by
  rcases (by omega : m = n ∨ m < n) with rfl | h1
  · exact Nat.le_refl _
  · exact Nat.le_of_lt (fv_lt h1)
theorem fv_zero (F : Nat) : fv F 0 = 0 := by
  unfold fv; rw [if_pos (Nat.pow_pos (by omega))]
/-- The greatest float below T whose value is not above X. -/
theorem tr_ex (F T X : Nat) : ∃ n, n ≤ T - 1 ∧ fv F n ≤ X ∧ (n = T - 1 ∨ X < fv F (n + 1)) := by
  generalize T - 1 = M
  induction M with
  | zero => exact ⟨0, by omega, by rw [fv_zero]; omega, .inl rfl⟩
  | succ M ih =>
    obtain ⟨n, h1, h2, h3⟩ := ih
    rcases h3 with rfl | h3
    · by_cases h : fv F (n + 1) ≤ X
      · exact ⟨n + 1, by omega, h, .inl rfl⟩
      · exact ⟨n, by omega, h2, .inr (by omega)⟩
    · exact ⟨n, by omega, h2, .inr h3⟩
noncomputable def trn (F T X : Nat) : Nat := Classical.choose (tr_ex F T X)
theorem trn_le (F T X : Nat) : trn F T X ≤ T - 1 := (Classical.choose_spec (tr_ex F T X)).1
theorem trn_fv (F T X : Nat) : fv F (trn F T X) ≤ X := (Classical.choose_spec (tr_ex F T X)).2.1
theorem trn_next (F T X : Nat) : trn F T X = T - 1 ∨ X < fv F (trn F T X + 1) := (Classical.choose_spec (tr_ex F T X)).2.2
theorem trn_eq {F T X n : Nat} (h1 : n ≤ T - 1) (h2 : fv F n ≤ X) (h3 : n = T - 1 ∨ X < fv F (n + 1)) : trn F T X = n := by
  have g1 := trn_le F T X
  have g2 := trn_fv F T X
  have g3 := trn_next F T X
  generalize trn F T X = m at *
  rcases Nat.lt_trichotomy m n with h | h | h
  · rcases g3 with g3 | g3
    · omega
    · have := fv_le (F := F) (show m + 1 ≤ n by omega); omega
  · exact h
  · rcases h3 with h3 | h3
    · omega
    · have := fv_le (F := F) (show n + 1 ≤ m by omega); omega
/-- What is reckoned by bits: A / b in the least float's units. -/
theorem round_core {F T A b e q : Nat} (hT : 0 < T) (hb : 0 < b) (hq : q = A / (b * 2 ^ e)) (h : q < 2 ^ (F + 1)) (h2 : e = 0 ∨ 2 ^ F ≤ q) :
    trn F T (A / b) = (if e * 2 ^ F + q < T then e * 2 ^ F + q else T - 1) ∧ (fv F (trn F T (A / b)) * b = A ↔ e * 2 ^ F + q < T ∧ A % (b * 2 ^ e) = 0) := by
  have hp : 0 < 2 ^ e := Nat.pow_pos (by omega)
  have hbe : 0 < b * 2 ^ e := Nat.mul_pos hb hp
  have f1 := fv_at F e q h h2
  have f2 := fv_next F e q h h2
  have hqX : q = A / b / 2 ^ e := by rw [hq, Nat.div_div_eq_div_mul]
  have x1 : q * 2 ^ e ≤ A / b := by rw [hqX]; exact Nat.div_mul_le_self _ _
  have x2 : A / b < (q + 1) * 2 ^ e := by rw [hqX]; exact (Nat.div_lt_iff_lt_mul hp).1 (Nat.lt_succ_self _)
  have hAb := Nat.div_mul_le_self A b
  by_cases hn : e * 2 ^ F + q < T
  · have e1 : trn F T (A / b) = e * 2 ^ F + q := trn_eq (by omega) (by omega) (.inr (by omega))
    rw [if_pos hn]
    refine ⟨e1, ?_⟩
    rw [e1, f1]
    have h3 := Nat.div_add_mod A (b * 2 ^ e)
    rw [← hq] at h3
    have h4 : q * 2 ^ e * b = b * 2 ^ e * q := by simp only [Nat.mul_comm, Nat.mul_left_comm]
    rw [h4]
    constructor
    · intro h5; exact ⟨hn, by omega⟩
    · intro h5; omega
  · have l1 : fv F (T - 1) < fv F (e * 2 ^ F + q) := fv_lt (by omega)
    have e1 : trn F T (A / b) = T - 1 := trn_eq (Nat.le_refl _) (by omega) (.inl rfl)
    rw [if_neg hn]
    refine ⟨e1, ?_⟩
    rw [e1]
    constructor
    · intro h5
      have : fv F (T - 1) * b < A / b * b := Nat.mul_lt_mul_of_pos_right (by omega) hb
      omega
    · intro h5; exact absurd h5.1 hn
end Pf
/- Floats: roundings of rationals -/
namespace Pf
open Go Go.Proofs
/-- The bits of a fraction, the power of the least float (without sign), the greatest exponent, the infinite float. -/
def fF (w : Int) : Nat := if w = 32 then 23 else 52
def fK (w : Int) : Nat := if w = 32 then 149 else 1074
def fG (w : Int) : Nat := if w = 32 then 127 else 1023
def fT (w : Int) : Nat := (2 * fG w + 1) * 2 ^ fF w
theorem top_fT {w : Int} (hw : w = 32 ∨ w = 64) : top w = fT w := by rcases hw with rfl | rfl <;> rfl
theorem fT_pos (w : Int) : 0 < fT w := Nat.mul_pos (by omega) (Nat.pow_pos (by omega))
theorem fT_rng (w : Int) : 2 ≤ fT w ∧ fT w ≤ 9218868437227405312 := by
  unfold fT fG fF; split <;> decide
theorem fKG (w : Int) : fK w + 1 = fG w + fF w := by unfold fK fG fF; split <;> rfl
/-- The greatest float that is not above a / b, and whether it is it. -/
noncomputable def tvN (w : Int) (a b : Nat) : Nat := trn (fF w) (fT w) (a * 2 ^ fK w / b)
def teN (w : Int) (a b : Nat) : Prop := fv (fF w) (tvN w a b) * b = a * 2 ^ fK w
theorem tvN_scale (w : Int) (a b c : Nat) (hc : 0 < c) : tvN w (a * c) (b * c) = tvN w a b := by
  unfold tvN
  rw [Nat.mul_right_comm, Nat.mul_div_mul_right _ _ hc]
theorem teN_scale (w : Int) (a b c : Nat) (hc : 0 < c) : teN w (a * c) (b * c) ↔ teN w a b := by
  unfold teN
  rw [tvN_scale w a b c hc, Nat.mul_right_comm a, ← Nat.mul_assoc]
  exact Nat.mul_left_inj (by omega)
theorem mkRat_scale {p : Prop} {a b : Nat} {r : Rat} (hb : b ≠ 0) (h : mkRat (sg p a) b = r) : ∃ c, 0 < c ∧ a = r.num.natAbs * c ∧ b = r.den * c := by
  obtain ⟨h1, h2, _⟩ := mkRat_parts p a b hb
  rw [h] at h1 h2
  have h1 := dig_inj h1
  have h2 := dig_inj h2
  refine ⟨a.gcd b, Nat.gcd_pos_of_pos_right a (by omega), ?_, ?_⟩
  · rw [← h1, Nat.div_mul_cancel (Nat.gcd_dvd_left a b)]
  · rw [← h2, Nat.div_mul_cancel (Nat.gcd_dvd_right a b)]
noncomputable def tv (w : Int) (r : Rat) : Nat := tvN w r.num.natAbs r.den
def te (w : Int) (r : Rat) : Prop := teN w r.num.natAbs r.den
theorem tv_of {w : Int} {p : Prop} {a b : Nat} {r : Rat} (hb : b ≠ 0) (h : mkRat (sg p a) b = r) : tvN w a b = tv w r ∧ (teN w a b ↔ te w r) := by
  obtain ⟨c, hc, rfl, rfl⟩ := mkRat_scale hb h
  exact ⟨tvN_scale _ _ _ _ hc, teN_scale _ _ _ _ hc⟩
open Classical in
/-- The next float behind the greatest that is not above. -/
noncomputable def nx (w : Int) (r : Rat) : Nat := if te w r then tv w r else tv w r + 1
open Classical in
/-- The greatest float that is not above a number; the least that is not below. -/
noncomputable def dn (w : Int) (r : Rat) : Int := if r < 0 then -(nx w r : Int) else tv w r
open Classical in
noncomputable def up (w : Int) (r : Rat) : Int := if r < 0 then -(tv w r : Int) else nx w r
theorem tv_le (w : Int) (r : Rat) : tv w r + 1 ≤ fT w := by
  have := trn_le (fF w) (fT w) (r.num.natAbs * 2 ^ fK w / r.den)
  have h := fT_pos w
  unfold tv tvN; omega
theorem nx_le (w : Int) (r : Rat) : tv w r ≤ nx w r ∧ nx w r ≤ tv w r + 1 := by unfold nx; split <;> omega
theorem te_zero (w : Int) : tv w 0 = 0 ∧ te w 0 := by
  have h : tv w 0 = 0 := by
    have := fT_pos w
    unfold tv tvN
    refine trn_eq (Nat.zero_le _) (by rw [fv_zero]; exact Nat.zero_le _) (.inr ?_)
    have := fv_step (fF w) 0
    have e : (Rat.num 0).natAbs * 2 ^ fK w / Rat.den 0 = 0 := by simp
    rw [e]; omega
  refine ⟨h, ?_⟩
  unfold te teN
  unfold tv at h
  rw [h, fv_zero]; simp
theorem dn_zero (w : Int) : dn w 0 = 0 ∧ up w 0 = 0 := by
  obtain ⟨h1, h2⟩ := te_zero w
  unfold dn up nx
  rw [if_neg Rat.lt_irrefl, if_neg Rat.lt_irrefl, if_pos h2, h1]
  exact ⟨rfl, rfl⟩
theorem tv_neg (w : Int) (r : Rat) : tv w (-r) = tv w r ∧ (te w (-r) ↔ te w r) := by
  unfold tv te
  rw [Rat.neg_num, Int.natAbs_neg, Rat.neg_den]
  exact ⟨rfl, Iff.rfl⟩
theorem nx_neg (w : Int) (r : Rat) : nx w (-r) = nx w r := by
  unfold nx
  rw [(tv_neg w r).1, propext (tv_neg w r).2]
theorem up_neg (w : Int) (r : Rat) : up w (-r) = - dn w r := by
  by_cases h0 : r = 0
  · subst h0
    rw [Rat.neg_zero, (dn_zero w).1, (dn_zero w).2]; rfl
  · unfold up dn
    rw [nx_neg, (tv_neg w r).1]
    rcases Rat.le_total (a := r) (b := 0) with h | h
    · have h1 : r < 0 := Rat.lt_of_le_of_ne h h0
      have h2 : ¬ -r < 0 := by
        rw [Rat.neg_lt_iff, Rat.neg_zero, Rat.not_lt]; exact h
      rw [if_pos h1, if_neg h2, Int.neg_neg]
    · have h1 : 0 < r := Rat.lt_of_le_of_ne h (Ne.symm h0)
      have h2 : -r < 0 := by rw [Rat.neg_lt_iff, Rat.neg_zero]; exact h1
      rw [if_neg (Rat.not_lt.2 h), if_pos h2]
theorem dn_neg (w : Int) (r : Rat) : dn w (-r) = - up w r := by
  have := up_neg w (-r)
  rw [Rat.neg_neg] at this
  omega
theorem dn_rng (w : Int) (r : Rat) : -(fT w : Int) ≤ dn w r ∧ dn w r < fT w := by
  have h1 := tv_le w r
  have h2 := nx_le w r
  unfold dn; split <;> omega
theorem up_rng (w : Int) (r : Rat) : -(fT w : Int) < up w r ∧ up w r ≤ fT w := by
  have h1 := tv_le w r
  have h2 := nx_le w r
  unfold up; split <;> omega
theorem trn_mono {F T X Y : Nat} (h : X ≤ Y) : trn F T X ≤ trn F T Y := by
  have g1 := trn_le F T X
  have g2 := trn_fv F T X
  have k1 := trn_le F T Y
  have k3 := trn_next F T Y
  rcases Nat.lt_or_ge (trn F T Y) (trn F T X) with h1 | h1
  · rcases k3 with k3 | k3
    · omega
    · have := fv_le (F := F) (show trn F T Y + 1 ≤ trn F T X by omega); omega
  · exact h1
theorem div_mono {a b c d k : Nat} (hb : 0 < b) (hd : 0 < d) (h : a * d ≤ c * b) : a * k / b ≤ c * k / d := by
  rw [Nat.le_div_iff_mul_le hd]
  have h1 : a * k / b * d * b ≤ c * k * b := by
    calc a * k / b * d * b = a * k / b * b * d := Nat.mul_right_comm _ _ _
      _ ≤ a * k * d := Nat.mul_le_mul_right _ (Nat.div_mul_le_self _ _)
      _ = a * d * k := Nat.mul_right_comm _ _ _
      _ ≤ c * b * k := Nat.mul_le_mul_right _ h
      _ = c * k * b := Nat.mul_right_comm _ _ _
  exact Nat.le_of_mul_le_mul_right h1 hb
theorem tv_mono {w : Int} {r s : Rat} (h0 : 0 ≤ r) (h : r ≤ s) : tv w r ≤ tv w s := by
  unfold tv tvN
  refine trn_mono (div_mono (by have := r.den_nz; omega) (by have := s.den_nz; omega) ?_)
  have h1 := (Rat.le_iff r s).1 h
  have h2 := Rat.num_nonneg.2 h0
  have h3 := Rat.num_nonneg.2 (Rat.le_trans h0 h)
  have e1 : (r.num.natAbs : Int) = r.num := by omega
  have e2 : (s.num.natAbs : Int) = s.num := by omega
  rw [← e1, ← e2] at h1
  exact_mod_cast h1
theorem dn_le_up {w : Int} {r s : Rat} (h : r ≤ s) : dn w r ≤ up w s := by
  unfold dn up
  have n1 := nx_le w r
  have n2 := nx_le w s
  by_cases hr : r < 0
  · rw [if_pos hr]
    by_cases hs : s < 0
    · rw [if_pos hs]
      have h1 : tv w (-s) ≤ tv w (-r) := tv_mono (by rw [Rat.le_neg_iff, Rat.neg_zero]; exact Rat.le_of_lt hs) (Rat.neg_le_neg h)
      rw [(tv_neg w s).1, (tv_neg w r).1] at h1
      omega
    · rw [if_neg hs]; omega
  · rw [if_neg hr]
    have h0 := Rat.not_lt.1 hr
    rw [if_neg (Rat.not_lt.2 (Rat.le_trans h0 h))]
    have h1 := tv_mono (w := w) h0 h
    omega
end Pf
/- Noughts that a number ends in -/
namespace Pf
open Go Go.Proofs
/-- How many noughts a number ends in. -/
def tzN (n : Nat) : Nat := if h : n = 0 then 0 else if n % 2 = 0 then tzN (n / 2) + 1 else 0
termination_by n
decreasing_by omega
theorem tzN_ok : ∀ n : Nat, n ≠ 0 → ∃ q, n = q * 2 ^ tzN n ∧ q % 2 = 1 := by
  intro n
  induction n using Nat.strongRecOn with
  | ind n ih =>
    intro h
    by_cases h2 : n % 2 = 0
    · obtain ⟨q, h3, h4⟩ := ih (n / 2) (by omega) (by omega)
      have e : tzN n = tzN (n / 2) + 1 := by rw [tzN]; simp [h, h2]
      refine ⟨q, ?_, h4⟩
      rw [e, Nat.pow_succ, ← Nat.mul_assoc, ← h3]; omega
    · have e : tzN n = 0 := by rw [tzN]; simp [h2]
      exact ⟨n, by rw [e]; simp, by omega⟩
theorem low_bit {x z q : Nat} (hx : x = q * 2 ^ z) (hq : q % 2 = 1) (hz : z < 64) (h : x < 2 ^ 64) : x &&& (2 ^ 64 - x) = 2 ^ z := by
  obtain ⟨k, rfl⟩ : ∃ k, q = 2 * k + 1 := ⟨q / 2, by omega⟩
  have hp : 0 < 2 ^ z := Nat.pow_pos (by omega)
  have hx0 : 0 < x := by rw [hx]; exact Nat.mul_pos (by omega) hp
  have e1 : x = 2 ^ z * (2 * k + 1) + 0 := by rw [hx, Nat.mul_comm]; rfl
  have e2 : x - 1 = 2 ^ z * (2 * k) + (2 ^ z - 1) := by rw [hx, Nat.mul_comm, Nat.mul_add, Nat.mul_one]; omega
  refine Nat.eq_of_testBit_eq fun i => ?_
  rw [Nat.testBit_and, show 2 ^ 64 - x = 2 ^ 64 - ((x - 1) + 1) by omega, Nat.testBit_two_pow_sub_succ (by omega), e2, Nat.testBit_two_pow_mul_add _ (by omega)]
  conv => lhs; rw [e1, Nat.testBit_two_pow_mul_add _ hp]
  rw [Nat.testBit_two_pow]
  by_cases hi : i < z
  · have : ¬ z = i := by omega
    simp [hi, this]
  · rw [if_neg hi, if_neg hi]
    by_cases hiz : i = z
    · subst hiz
      have h0 : (2 * k).testBit 0 = false := by simp
      simp [hz, h0]
    · obtain ⟨j, hj⟩ : ∃ j, i - z = j + 1 := ⟨i - z - 1, by omega⟩
      have n1 : ¬ z = i := by omega
      have t1 : (2 * k + 1).testBit (j + 1) = k.testBit j := by rw [Nat.testBit_succ]; congr 1; omega
      have t2 : (2 * k).testBit (j + 1) = k.testBit j := by rw [Nat.testBit_succ]; congr 1; omega
      rw [hj, t1, t2]
      cases k.testBit j <;> simp [n1]
theorem band_neg {n : Nat} (h0 : n ≠ 0) (h1 : n < 2 ^ 64) (hz : tzN n < 64) : band .u64 n (IntKind.u64.wrap (-(n : Int))) = ((2 ^ tzN n : Nat) : Int) := by
  obtain ⟨q, h3, h4⟩ := tzN_ok n h0
  have hb := low_bit h3 h4 hz h1
  have e0 : IntKind.u64.wrap (-(n : Int)) = ((2 ^ 64 - n : Nat) : Int) := by rw [wrapU]; omega
  rw [e0]
  have a1 : (BitVec.ofInt 64 (n : Int)).toNat = n := by rw [BitVec.toNat_ofInt]; omega
  have a2 : (BitVec.ofInt 64 ((2 ^ 64 - n : Nat) : Int)).toNat = 2 ^ 64 - n := by rw [BitVec.toNat_ofInt]; omega
  have e : band .u64 (n : Int) ((2 ^ 64 - n : Nat) : Int) = IntKind.u64.wrap (((BitVec.ofInt 64 (n : Int) &&& BitVec.ofInt 64 ((2 ^ 64 - n : Nat) : Int)).toNat : Nat) : Int) := rfl
  rw [e, BitVec.toNat_and, a1, a2, hb, wrapU]
  have : 2 ^ tzN n < 2 ^ 64 := Nat.pow_lt_pow_right (by omega) hz
  have h5 : (18446744073709551616 : Int) = ((2 ^ 64 : Nat) : Int) := by decide
  rw [h5]
  exact Int.emod_eq_of_lt (Int.natCast_nonneg _) (Int.ofNat_lt.2 this)
theorem tzN_lt {n : Nat} (h0 : n ≠ 0) (h1 : n < 2 ^ 64) : tzN n < 64 := by
  obtain ⟨q, h3, h4⟩ := tzN_ok n h0
  rcases Nat.lt_or_ge (tzN n) 64 with h | h
  · exact h
  · have h5 : 2 ^ 64 ≤ 2 ^ tzN n := Nat.pow_le_pow_right (by omega) h
    have h6 : 1 * 2 ^ tzN n ≤ q * 2 ^ tzN n := Nat.mul_le_mul_right _ (by omega)
    omega
end Pf
/- The parts of a float -/
namespace Pf
open Go Go.Proofs
theorem band_lowU {n : Int} (h0 : 0 ≤ n) (h1 : n ≤ 18446744073709551615) : band .u64 n 65535 = n % 65536 := by
  obtain ⟨m, rfl⟩ : ∃ m : Nat, n = m := ⟨n.toNat, by omega⟩
  have e1 : (BitVec.ofInt 64 (m : Int) &&& BitVec.ofInt 64 65535).toNat = m % 65536 := by
    rw [BitVec.toNat_and]
    have a1 : (BitVec.ofInt 64 (m : Int)).toNat = m := by rw [BitVec.toNat_ofInt]; omega
    have a2 : (BitVec.ofInt 64 65535).toNat = 65535 := by decide
    rw [a1, a2]
    exact Nat.and_two_pow_sub_one_eq_mod m 16
  have e2 : band .u64 (m : Int) 65535 = IntKind.u64.wrap (((BitVec.ofInt 64 (m : Int) &&& BitVec.ofInt 64 65535).toNat : Nat) : Int) := rfl
  rw [e2, e1, wrapU]
  omega
theorem band_mask {k : Nat} {n : Int} (hk : k ≤ 62) (h0 : 0 ≤ n) (h1 : n ≤ 9223372036854775807) : band .i64 n (2 ^ k - 1) = n % 2 ^ k := by
  obtain ⟨m, rfl⟩ : ∃ m : Nat, n = m := ⟨n.toNat, by omega⟩
  have hp : 2 ^ k ≤ 2 ^ 62 := Nat.pow_le_pow_right (by omega) hk
  have hp0 : 0 < 2 ^ k := Nat.pow_pos (by omega)
  have e0 : ((2 : Int) ^ k - 1) = ((2 ^ k - 1 : Nat) : Int) := by
    have : ((2 ^ k : Nat) : Int) = 2 ^ k := by simp
    omega
  have e3 : (m : Int) % 2 ^ k = ((m % 2 ^ k : Nat) : Int) := by simp
  rw [e0, e3]
  have a1 : (BitVec.ofInt 64 (m : Int)).toNat = m := by rw [BitVec.toNat_ofInt]; omega
  have a2 : (BitVec.ofInt 64 ((2 ^ k - 1 : Nat) : Int)).toNat = 2 ^ k - 1 := by rw [BitVec.toNat_ofInt]; omega
  have e1 : (BitVec.ofInt 64 (m : Int) &&& BitVec.ofInt 64 ((2 ^ k - 1 : Nat) : Int)).toNat = m % 2 ^ k := by
    rw [BitVec.toNat_and, a1, a2]
    exact Nat.and_two_pow_sub_one_eq_mod m k
  have e2 : band .i64 (m : Int) ((2 ^ k - 1 : Nat) : Int) = IntKind.i64.wrap (((BitVec.ofInt 64 (m : Int) &&& BitVec.ofInt 64 ((2 ^ k - 1 : Nat) : Int)).toNat : Nat) : Int) := rfl
  have hm : m % 2 ^ k ≤ m := Nat.mod_le _ _
  rw [e2, e1, wrap_id (k := .i64) (C := -9223372036854775808 ≤ ((m % 2 ^ k : Nat) : Int) ∧ ((m % 2 ^ k : Nat) : Int) ≤ 9223372036854775807) rfl (by omega)]
/-- The parts of a float from 0 on: the number, the power in the least float's units. -/
def fsz (F n : Nat) : Nat := if n < 2 ^ F then n else 2 ^ F + n % 2 ^ F
def fpw (F n : Nat) : Nat := n / 2 ^ F - 1
theorem fv_eq (F n : Nat) : fv F n = fsz F n * 2 ^ fpw F n := by
  unfold fv fsz fpw
  by_cases h : n < 2 ^ F
  · rw [if_pos h, if_pos h, Nat.div_eq_of_lt h]; simp
  · rw [if_neg h, if_neg h]
theorem fsz_lt (F n : Nat) : fsz F n < 2 ^ (F + 1) := by
  have := Nat.mod_lt n (Nat.pow_pos (n := F) (show 0 < 2 by omega))
  unfold fsz; rw [Nat.pow_succ]; split <;> omega
end Pf
/- The model's text of a number -/
namespace Pf
open Go Go.Proofs
/-- The model's text of a number. -/
theorem specNatText_ok (m : Nat) (hm : m ≤ 60000) : AFunP Tryz.prog 72 [.fi .i64 (dig m)] (· = .str (Lib.decDigits m)) := by
  have lm : (dig m).length ≤ 1 := dig_len_le.2 (by rw [Nat.pow_one]; omega)
  refine afun_of Tryz.func72 Tryz.call72 rfl Tryz.ntmps72 rfl ?_
  have W : Walk Tryz.prog TT 72 _ := Walk.of TT_ok Tryz.func72 Tryz.results72
  refine ce W 0 rfl rfl (specNatOk_ok (dig m) (by omega)) rfl ?_
  refine sp W 0 rfl rfl rfl (fun h1 => ?_) (fun h1 => ?_)
  · exact absurd (natOk_of (n := m) (by omega)) h1
  refine sp W 0 rfl rfl rfl (fun h2 => ?_) (fun h2 => ?_)
  · have : m = 0 := dig_nil.1 (List.length_eq_zero_iff.1 (by omega))
    subst this
    rw [dec_small (by omega)]
    refine rp W 0 rfl rfl rfl (.refl)
  have hm0 : m ≠ 0 := fun k => h2 (by rw [k, dig_zero]; rfl)
  have hb : ∀ x : Nat, UInt8.ofNat ((48 : Int) + ((x % 10 : Nat) : Int)).toNat = UInt8.ofNat (48 + x % 10) := fun x => by congr 1
  refine atl W rfl ?_
  refine go_nilT 3 (.ints 0 .u8 []) rfl rfl rfl rfl rfl ?_
  refine lp W 0 (σ := Nat × Nat × List Int) (fun s => [(3, .sl 0 s.2.1 0 s.2.2.length), (4, .fi .i64 (dig s.1))]) (fun s => [.ints s.2.1 .u8 s.2.2]) (fun s => s.1) (fun s => s.1 ≤ m ∧ (if s.1 = 0 then [] else Lib.decDigits s.1) ++ bytesT s.2.2.reverse = Lib.decDigits m) (m, 0, []) [3, 4] rfl rfl rfl ⟨Nat.le_refl _, by dsimp only; rw [if_neg hm0]; simp [bytesT]⟩ ?_
  rintro ⟨x, g, B⟩ ⟨hx, he⟩ ih
  dsimp only at hx he ih ⊢
  have lx : (dig x).length ≤ 1 := dig_len_le.2 (by rw [Nat.pow_one]; omega)
  have lB : B.length ≤ 2000 := by
    have h := congrArg List.length he
    rw [List.length_append] at h
    simp only [bytesT, List.length_map, List.length_reverse] at h
    have h4 : (Lib.decDigits m).length ≤ 5 := by rw [dec_len]; exact nDig_le (by omega) (by omega)
    omega
  refine sp W 0 rfl rfl rfl (fun h3 => ?_) (fun h3 => ?_)
  · have hx0 : x ≠ 0 := fun k => by rw [k, dig_zero] at h3; simp at h3
    refine ce W 0 rfl rfl (l5DivSmall_ok x 10 (by omega) (by omega) (by omega)) rfl ?_
    have nx := ih (x / 10, g + 1, B ++ [48 + ((x % 10 : Nat) : Int)]) ⟨by dsimp only; omega, ?_⟩ (by dsimp only; omega)
    · dsimp only at nx
      rw [List.length_append] at nx
      refine bd W 0 1 [3, 4] rfl rfl rfl rfl rfl (nx)
    · dsimp only
      rw [← he, if_neg hx0, List.reverse_append]
      simp only [List.reverse_cons, List.reverse_nil, List.nil_append, List.singleton_append, bytesT, List.map_cons]
      rw [hb]
      by_cases h10 : x < 10
      · rw [if_pos (by omega), dec_small h10, show x % 10 = x by omega]; rfl
      · rw [if_neg (by omega), dec_big h10, List.append_assoc]; rfl
  · have hx0 : x = 0 := dig_nil.1 (List.length_eq_zero_iff.1 (by omega))
    rw [if_pos hx0, List.nil_append] at he
    refine atl W rfl ?_
    refine go_nilT 7 (.ints 0 .u8 []) rfl rfl rfl rfl rfl ?_
    refine lp W 0 (σ := Nat × Nat × List Int) (fun s => [(3, .sl 0 g 0 B.length), (7, .sl 1 s.2.1 0 s.2.2.length), (8, .int .i64 ((s.1 : Int) - 1))]) (fun s => [.ints g .u8 B, .ints s.2.1 .u8 s.2.2]) (fun s => s.1) (fun s => s.1 + s.2.2.length = B.length ∧ s.2.2 = B.reverse.take s.2.2.length) (B.length, 0, []) [3, 7, 8] rfl rfl rfl ⟨rfl, rfl⟩ ?_
    rintro ⟨j, g2, O⟩ ⟨hj, hO⟩ ih2
    dsimp only at hj hO ih2 ⊢
    refine sp W 0 rfl rfl rfl (fun h4 => ?_) (fun h4 => ?_)
    · have hlast : B.getD (addN 0 ((j : Int) - 1).toNat) 0 = B.reverse.getD O.length 0 := by
        rw [addNz, show ((j : Int) - 1).toNat = B.length - 1 - O.length by omega, List.getD_eq_getElem?_getD, List.getD_eq_getElem?_getD, List.getElem?_reverse (by omega)]
      have nx := ih2 (j - 1, g2 + 1, O ++ [B.getD (addN 0 ((j : Int) - 1).toNat) 0]) ⟨by simp; omega, ?_⟩ (by dsimp only; omega)
      · dsimp only at nx
        rw [List.length_append, show ((j - 1 : Nat) : Int) = (j : Int) - 1 by omega] at nx
        refine bd W 0 2 [3, 7, 8] rfl rfl rfl rfl rfl (nx)
      · dsimp only
        rw [List.length_append, List.length_singleton, List.take_add_one, ← hO, hlast, List.getD_eq_getElem?_getD, List.getElem?_eq_getElem (by simp; omega)]
        rfl
    · have hO2 : O = B.reverse := by
        rw [hO]
        exact List.take_of_length_le (by simp; omega)
      rw [← he, ← hO2]
      refine rp W 0 rfl rfl rfl (.refl)
end Pf
/- Slopes: the model's slope of a node -/
namespace Pf
open Go Go.Proofs
/-- A program of which each way puts one node at most. -/
def Pg.one : Pg → Prop
  | .ret _ => True
  | .put _ k => ∀ i, ∃ v, k i = .ret v
  | .is _ _ k => ∀ t, (k t).one
theorem runS_one {P : Pg} (h : P.one) : ∀ N, (runS P N).2.length ≤ N.length + 1 := by
  induction P with
  | ret v => intro N; exact Nat.le_succ _
  | put x k ih =>
    intro N
    simp only [runS]
    split
    · obtain ⟨v, e⟩ := h (idxG N x)
      rw [e]; exact Nat.le_succ _
    · obtain ⟨v, e⟩ := h N.length
      rw [e]; simp [runS]
  | is a s k ih => intro N; simp only [runS]; exact ih _ (h _) N
theorem one_num (s : List UInt8) : (numP s).one := fun i => ⟨_, rfl⟩
theorem one_neg (a : Int) : (negP a).one := fun t => by cases t <;> first | exact trivial | exact fun i => ⟨_, rfl⟩
theorem one_sum (a b : Int) : (sumP' a b).one := fun t => by cases t <;> first | exact trivial | (intro t; cases t <;> first | exact trivial | exact fun i => ⟨_, rfl⟩)
theorem one_less (a b : Int) : (lessP a b).one := fun t => by cases t <;> first | exact trivial | (intro t; cases t <;> first | exact one_neg b | exact fun i => ⟨_, rfl⟩)
theorem one_times (a b : Int) : (timesP a b).one := fun t => by cases t <;> first | exact trivial | (intro t; cases t <;> first | exact trivial | (intro t; cases t <;> first | exact trivial | (intro t; cases t <;> first | exact trivial | exact fun i => ⟨_, rfl⟩)))
theorem one_by (a b : Int) : (byP a b).one := fun t => by cases t <;> first | exact trivial | exact fun i => ⟨_, rfl⟩
theorem one_raised (a n : Int) : (raisedP a n).one := by unfold raisedP; split; exact trivial; exact fun i => ⟨_, rfl⟩
theorem go_state {P : Program} {f N n0 : Nat} {k : List Item} {T : Env} {H : AHeap} {R : AV → AHeap → Prop} (ds : List Nat) (T1 : Env) (H1 : AHeap) (e : keepM T ds = some T1) (eH : H = H1) (h : AGo P f N n0 k T1 H1 R) : AGo P f N n0 k T H R := by
  subst eH
  exact fun FM β b cs a w a1 a2 a3 a4 hT hH hn => h FM β b cs a w a1 a2 a3 a4 (hT.keep e) hH hn
def MsQ (v : Int) (rs : List Gr) (r : Int × List Gn) (h : Nat) (K : List Int) (u : AV) (H : AHeap) : Prop := ∃ g', u = .int .i64 r.1 ∧ H = MkS v rs r.2 g' ++ [.ints h .i64 K]
/-- No two nodes are alike. -/
def ndG (N : List Gn) : Prop := ∀ i j, i < j → j < N.length → N.getD i g0 ≠ N.getD j g0
theorem mslope_ok (at' w : Int) (x : Gn) (K : List Int) (v : Int) (N : List Gn) (rs : List Gr) (g h : Nat) (hN : N.length ≤ 900000) (hat : 0 ≤ at' ∧ at' < N.length) (hx : N.getD at'.toNat g0 = x) (hd : ndG N)
    (hk : 1 ≤ x.k ∧ x.k ≤ 9) (hn : 0 ≤ x.n ∧ x.n ≤ 60000) (hnm : x.k = 2 → x.n = at') (hKp : 0 < N.length) (hK : ∀ i, 0 ≤ K.getD i 0 ∧ K.getD i 0 < N.length)
    (hpa : 3 ≤ x.k → (0 ≤ x.a ∧ x.a < N.length) ∧ x.a < K.length) (hpb : 4 ≤ x.k ∧ x.k ≤ 7 → (0 ≤ x.b ∧ x.b < N.length) ∧ x.b < K.length) : AFun Tryz.prog 44 [.ptr 0 0 0 0, .int .i64 at', .int .i64 w, .sl 2 h 0 K.length] (MkS v rs N g ++ [.ints h .i64 K]) (MsQ v rs (runS (slopeG at' x w (ofK K)) N) h K) := by
  have hA : 0 ≤ ofK K x.a ∧ ofK K x.a < N.length := hK _
  have hB : 0 ≤ ofK K x.b ∧ ofK K x.b < N.length := hK _
  have hN' : N.length ≤ 1000000 := by omega
  have zat : addN 0 at'.toNat = at'.toNat := addNz _
  have zA : addN 0 x.a.toNat = x.a.toNat := addNz _
  have zB : addN 0 x.b.toNat = x.b.toNat := addNz _
  have hx2 : N.getD (addN 0 at'.toNat) g0 = x := by rw [addNz]; exact hx
  have ko : AFunP Tryz.prog 73 [.int .u64 x.n] (· = .fi .i64 (dig x.n.toNat)) := by
    have := specNatOf_ok x.n.toNat (by omega)
    rwa [Int.toNat_of_nonneg hn.1] at this
  have kt := specNatText_ok x.n.toNat (by omega)
  refine AFun.trim 3 ?_ (by simp [MkS])
  refine afun_of Tryz.func44 Tryz.call44 rfl Tryz.ntmps44 rfl ?_
  have W : Walk Tryz.prog TT 44 _ := Walk.of TT_ok Tryz.func44 Tryz.results44
  unfold slopeG
  refine sp W 0 rfl rfl rfl (fun h1 => ?_) (fun h1 => ?_) (hc := by simp only [AllC, true_and, and_true]; omega)
  · rw [hx2] at h1
    rw [if_neg (by omega), if_neg (by omega), if_neg (by omega), if_neg (by omega), if_neg (by omega), if_neg (by omega), if_neg (by omega), if_neg (by omega)]
    obtain ⟨⟨r1, N1⟩, e1⟩ : ∃ q, runS (numP t0) N = q := ⟨_, rfl⟩
    have c1 : AFun Tryz.prog 64 [.ptr 0 0 0 0, .str t0] (MkS v rs N g) (MkQ v rs (r1, N1)) := by
      have := mnumber_ok t0 v N rs g hN'
      rw [e1] at this
      exact this
    have hl1 : N.length ≤ N1.length := by
      have := runS_len (numP t0) N
      rw [e1] at this
      exact this
    have hm1 : N1.length ≤ N.length + 1 := by
      have := runS_one (P := numP t0) (one_num _) N
      rw [e1] at this
      exact this
    have hr1 : 0 ≤ r1 ∧ r1 < N1.length := by
      have := runS_ok (P := numP t0) (N := N) (ok_num _ _) (Nat.le_refl _)
      rw [e1] at this
      exact this
    have hN1 : N1.length ≤ 1000000 := by omega
    refine go_callS W 0 300 [0, 1] rfl (by first | exact True.intro | (simp only [AllC, AllP, addN, Int.toNat_natCast, true_and, and_true, Option.getD, List.length_set, wrapU, pw1, pw7, pw8, pw16, pw23, pw32, pw52, Holds] <;> first | omega | ((repeat' apply And.intro) <;> first | omega | (intros; rfl))) | (simp [AllC, AllP, addN, cloL, clo, mrgL, mrg, wrapU, Holds] <;> omega)) c1 rfl rfl ⟨rfl, fun _ _ => rfl, trivial⟩ ⟨rfl, rfl, trivial⟩ rfl ?_
    rintro _ _ ⟨g1, rfl, rfl⟩
    refine ⟨_, _, rfl, rfl, ?_⟩
    rw [e1]
    refine go_retS W 0 300 3 rfl (by first | exact True.intro | (simp only [AllC, AllP, addN, Int.toNat_natCast, true_and, and_true, Option.getD, List.length_set, wrapU, pw1, pw7, pw8, pw16, pw23, pw32, pw52, Holds] <;> first | omega | ((repeat' apply And.intro) <;> first | omega | (intros; rfl))) | (simp [AllC, AllP, addN, cloL, clo, mrgL, mrg, wrapU, Holds] <;> omega)) rfl (by first | exact True.intro | (simp only [AllC, AllP, addN, Int.toNat_natCast, true_and, and_true, Option.getD, List.length_set, wrapU, pw1, pw7, pw8, pw16, pw23, pw32, pw52, Holds] <;> first | omega | ((repeat' apply And.intro) <;> first | omega | (intros; rfl))) | (simp [AllC, AllP, addN, cloL, clo, mrgL, mrg, wrapU, Holds] <;> omega)) (.int .i64 (r1)) .refl rfl ⟨g1, rfl, rfl⟩
  rw [hx2] at h1
  refine go_state [0, 1, 2, 3, 9, 28, 29] [(0, .ptr 0 0 0 0), (1, .int .i64 at'), (2, .int .i64 w), (3, .sl 2 h 0 K.length), (9, .ptr 3 0 0 0), (28, .int .i64 x.k), (29, .bool false)] [.lst 0 [[.int .i64 v, .sl 1 g 0 N.length, .fz rs.length (grR rs)]], .tab g N.length (gnR N), .ints h .i64 K, .lst 0 [[.int .i64 x.k, .int .i64 x.a, .int .i64 x.b, .int .i64 x.n, .str x.t]]] (by first | (rw [← hx2]; done) | (rw [← hx2]; rfl)) (by first | (rw [← hx2]; done) | (rw [← hx2]; rfl)) ?_
  refine sp W 0 rfl rfl rfl (fun k2 => ?_) (fun k2 => ?_)
  · rw [if_pos k2, hnm k2]
    refine sp W 0 rfl rfl rfl (fun h2 => ?_) (fun h2 => ?_)
    · rw [if_pos h2]
      obtain ⟨⟨r1, N1⟩, e1⟩ : ∃ q, runS (numP t1) N = q := ⟨_, rfl⟩
      have c1 : AFun Tryz.prog 64 [.ptr 0 0 0 0, .str t1] (MkS v rs N g) (MkQ v rs (r1, N1)) := by
        have := mnumber_ok t1 v N rs g hN'
        rw [e1] at this
        exact this
      have hl1 : N.length ≤ N1.length := by
        have := runS_len (numP t1) N
        rw [e1] at this
        exact this
      have hm1 : N1.length ≤ N.length + 1 := by
        have := runS_one (P := numP t1) (one_num _) N
        rw [e1] at this
        exact this
      have hr1 : 0 ≤ r1 ∧ r1 < N1.length := by
        have := runS_ok (P := numP t1) (N := N) (ok_num _ _) (Nat.le_refl _)
        rw [e1] at this
        exact this
      have hN1 : N1.length ≤ 1000000 := by omega
      refine go_callS W 0 300 [0, 1] rfl (by first | exact True.intro | (simp only [AllC, AllP, addN, Int.toNat_natCast, true_and, and_true, Option.getD, List.length_set, wrapU, pw1, pw7, pw8, pw16, pw23, pw32, pw52, Holds] <;> first | omega | ((repeat' apply And.intro) <;> first | omega | (intros; rfl))) | (simp [AllC, AllP, addN, cloL, clo, mrgL, mrg, wrapU, Holds] <;> omega)) c1 rfl rfl ⟨rfl, fun _ _ => rfl, trivial⟩ ⟨rfl, rfl, trivial⟩ rfl ?_
      rintro _ _ ⟨g1, rfl, rfl⟩
      refine ⟨_, _, rfl, rfl, ?_⟩
      rw [e1]
      refine go_retS W 0 300 3 rfl (by first | exact True.intro | (simp only [AllC, AllP, addN, Int.toNat_natCast, true_and, and_true, Option.getD, List.length_set, wrapU, pw1, pw7, pw8, pw16, pw23, pw32, pw52, Holds] <;> first | omega | ((repeat' apply And.intro) <;> first | omega | (intros; rfl))) | (simp [AllC, AllP, addN, cloL, clo, mrgL, mrg, wrapU, Holds] <;> omega)) rfl (by first | exact True.intro | (simp only [AllC, AllP, addN, Int.toNat_natCast, true_and, and_true, Option.getD, List.length_set, wrapU, pw1, pw7, pw8, pw16, pw23, pw32, pw52, Holds] <;> first | omega | ((repeat' apply And.intro) <;> first | omega | (intros; rfl))) | (simp [AllC, AllP, addN, cloL, clo, mrgL, mrg, wrapU, Holds] <;> omega)) (.int .i64 (r1)) .refl rfl ⟨g1, rfl, rfl⟩
    · rw [if_neg h2]
      obtain ⟨⟨r1, N1⟩, e1⟩ : ∃ q, runS (numP t0) N = q := ⟨_, rfl⟩
      have c1 : AFun Tryz.prog 64 [.ptr 0 0 0 0, .str t0] (MkS v rs N g) (MkQ v rs (r1, N1)) := by
        have := mnumber_ok t0 v N rs g hN'
        rw [e1] at this
        exact this
      have hl1 : N.length ≤ N1.length := by
        have := runS_len (numP t0) N
        rw [e1] at this
        exact this
      have hm1 : N1.length ≤ N.length + 1 := by
        have := runS_one (P := numP t0) (one_num _) N
        rw [e1] at this
        exact this
      have hr1 : 0 ≤ r1 ∧ r1 < N1.length := by
        have := runS_ok (P := numP t0) (N := N) (ok_num _ _) (Nat.le_refl _)
        rw [e1] at this
        exact this
      have hN1 : N1.length ≤ 1000000 := by omega
      refine go_callS W 0 300 [0, 1] rfl (by first | exact True.intro | (simp only [AllC, AllP, addN, Int.toNat_natCast, true_and, and_true, Option.getD, List.length_set, wrapU, pw1, pw7, pw8, pw16, pw23, pw32, pw52, Holds] <;> first | omega | ((repeat' apply And.intro) <;> first | omega | (intros; rfl))) | (simp [AllC, AllP, addN, cloL, clo, mrgL, mrg, wrapU, Holds] <;> omega)) c1 rfl rfl ⟨rfl, fun _ _ => rfl, trivial⟩ ⟨rfl, rfl, trivial⟩ rfl ?_
      rintro _ _ ⟨g1, rfl, rfl⟩
      refine ⟨_, _, rfl, rfl, ?_⟩
      rw [e1]
      refine go_retS W 0 300 3 rfl (by first | exact True.intro | (simp only [AllC, AllP, addN, Int.toNat_natCast, true_and, and_true, Option.getD, List.length_set, wrapU, pw1, pw7, pw8, pw16, pw23, pw32, pw52, Holds] <;> first | omega | ((repeat' apply And.intro) <;> first | omega | (intros; rfl))) | (simp [AllC, AllP, addN, cloL, clo, mrgL, mrg, wrapU, Holds] <;> omega)) rfl (by first | exact True.intro | (simp only [AllC, AllP, addN, Int.toNat_natCast, true_and, and_true, Option.getD, List.length_set, wrapU, pw1, pw7, pw8, pw16, pw23, pw32, pw52, Holds] <;> first | omega | ((repeat' apply And.intro) <;> first | omega | (intros; rfl))) | (simp [AllC, AllP, addN, cloL, clo, mrgL, mrg, wrapU, Holds] <;> omega)) (.int .i64 (r1)) .refl rfl ⟨g1, rfl, rfl⟩
  rw [if_neg k2]
  refine sp W 0 rfl rfl rfl (fun k3 => ?_) (fun k3 => ?_)
  · rw [if_pos k3]
    have hxa := (hpa (by omega)).1
    have ha2 := (hpa (by omega)).2
    obtain ⟨⟨r1, N1⟩, e1⟩ : ∃ q, runS (negP (ofK K x.a)) N = q := ⟨_, rfl⟩
    have c1 : AFun Tryz.prog 65 [.ptr 0 0 0 0, .int .i64 (K.getD (addN 0 x.a.toNat) 0)] (MkS v rs N g) (MkQ v rs (r1, N1)) := by
      have := mneg_ok (ofK K x.a) v N rs g hA hN'
      rw [e1] at this
      rw [addNz]
      exact this
    have hl1 : N.length ≤ N1.length := by
      have := runS_len (negP (ofK K x.a)) N
      rw [e1] at this
      exact this
    have hm1 : N1.length ≤ N.length + 1 := by
      have := runS_one (P := negP (ofK K x.a)) (one_neg _) N
      rw [e1] at this
      exact this
    have hr1 : 0 ≤ r1 ∧ r1 < N1.length := by
      have := runS_ok (P := negP (ofK K x.a)) (N := N) (ok_neg hA) (Nat.le_refl _)
      rw [e1] at this
      exact this
    have hN1 : N1.length ≤ 1000000 := by omega
    refine go_callS W 0 300 [0, 1] rfl (by first | exact True.intro | (simp only [AllC, AllP, addN, Int.toNat_natCast, true_and, and_true, Option.getD, List.length_set, wrapU, pw1, pw7, pw8, pw16, pw23, pw32, pw52, Holds] <;> first | omega | ((repeat' apply And.intro) <;> first | omega | (intros; rfl))) | (simp [AllC, AllP, addN, cloL, clo, mrgL, mrg, wrapU, Holds] <;> omega)) c1 rfl rfl ⟨rfl, fun _ _ => rfl, trivial⟩ ⟨rfl, rfl, trivial⟩ rfl ?_
    rintro _ _ ⟨g1, rfl, rfl⟩
    refine ⟨_, _, rfl, rfl, ?_⟩
    rw [e1]
    refine go_retS W 0 300 3 rfl (by first | exact True.intro | (simp only [AllC, AllP, addN, Int.toNat_natCast, true_and, and_true, Option.getD, List.length_set, wrapU, pw1, pw7, pw8, pw16, pw23, pw32, pw52, Holds] <;> first | omega | ((repeat' apply And.intro) <;> first | omega | (intros; rfl))) | (simp [AllC, AllP, addN, cloL, clo, mrgL, mrg, wrapU, Holds] <;> omega)) rfl (by first | exact True.intro | (simp only [AllC, AllP, addN, Int.toNat_natCast, true_and, and_true, Option.getD, List.length_set, wrapU, pw1, pw7, pw8, pw16, pw23, pw32, pw52, Holds] <;> first | omega | ((repeat' apply And.intro) <;> first | omega | (intros; rfl))) | (simp [AllC, AllP, addN, cloL, clo, mrgL, mrg, wrapU, Holds] <;> omega)) (.int .i64 (r1)) .refl rfl ⟨g1, rfl, rfl⟩
  rw [if_neg k3]
  refine sp W 0 rfl rfl rfl (fun k4 => ?_) (fun k4 => ?_)
  · rw [if_pos k4]
    have hxa := (hpa (by omega)).1
    have ha2 := (hpa (by omega)).2
    have hxb := (hpb (by omega)).1
    have hb2 := (hpb (by omega)).2
    obtain ⟨⟨r1, N1⟩, e1⟩ : ∃ q, runS (sumP' (ofK K x.a) (ofK K x.b)) N = q := ⟨_, rfl⟩
    have c1 : AFun Tryz.prog 66 [.ptr 0 0 0 0, .int .i64 (K.getD (addN 0 x.a.toNat) 0), .int .i64 (K.getD (addN 0 x.b.toNat) 0)] (MkS v rs N g) (MkQ v rs (r1, N1)) := by
      have := madd_ok (ofK K x.a) (ofK K x.b) v N rs g hA hB hN'
      rw [e1] at this
      rw [addNz, addNz]
      exact this
    have hl1 : N.length ≤ N1.length := by
      have := runS_len (sumP' (ofK K x.a) (ofK K x.b)) N
      rw [e1] at this
      exact this
    have hm1 : N1.length ≤ N.length + 1 := by
      have := runS_one (P := sumP' (ofK K x.a) (ofK K x.b)) (one_sum _ _) N
      rw [e1] at this
      exact this
    have hr1 : 0 ≤ r1 ∧ r1 < N1.length := by
      have := runS_ok (P := sumP' (ofK K x.a) (ofK K x.b)) (N := N) (ok_sum hA hB) (Nat.le_refl _)
      rw [e1] at this
      exact this
    have hN1 : N1.length ≤ 1000000 := by omega
    refine dre W 0 11 [] [] rfl rfl rfl trivial rfl ?_ (hp := by simp only [AllP, Holds, Option.getD, true_and, and_true]; omega)
    refine go_callS W 0 300 [0, 1] rfl (by first | exact True.intro | (simp only [AllC, AllP, addN, Int.toNat_natCast, true_and, and_true, Option.getD, List.length_set, wrapU, pw1, pw7, pw8, pw16, pw23, pw32, pw52, Holds] <;> first | omega | ((repeat' apply And.intro) <;> first | omega | (intros; rfl))) | (simp [AllC, AllP, addN, cloL, clo, mrgL, mrg, wrapU, Holds] <;> omega)) c1 rfl rfl ⟨rfl, fun _ _ => rfl, trivial⟩ ⟨rfl, rfl, trivial⟩ rfl ?_
    rintro _ _ ⟨g1, rfl, rfl⟩
    refine ⟨_, _, rfl, rfl, ?_⟩
    rw [e1]
    refine go_retS W 0 300 3 rfl (by first | exact True.intro | (simp only [AllC, AllP, addN, Int.toNat_natCast, true_and, and_true, Option.getD, List.length_set, wrapU, pw1, pw7, pw8, pw16, pw23, pw32, pw52, Holds] <;> first | omega | ((repeat' apply And.intro) <;> first | omega | (intros; rfl))) | (simp [AllC, AllP, addN, cloL, clo, mrgL, mrg, wrapU, Holds] <;> omega)) rfl (by first | exact True.intro | (simp only [AllC, AllP, addN, Int.toNat_natCast, true_and, and_true, Option.getD, List.length_set, wrapU, pw1, pw7, pw8, pw16, pw23, pw32, pw52, Holds] <;> first | omega | ((repeat' apply And.intro) <;> first | omega | (intros; rfl))) | (simp [AllC, AllP, addN, cloL, clo, mrgL, mrg, wrapU, Holds] <;> omega)) (.int .i64 (r1)) .refl rfl ⟨g1, rfl, rfl⟩
  rw [if_neg k4]
  refine sp W 0 rfl rfl rfl (fun k5 => ?_) (fun k5 => ?_)
  · rw [if_pos k5]
    have hxa := (hpa (by omega)).1
    have ha2 := (hpa (by omega)).2
    have hxb := (hpb (by omega)).1
    have hb2 := (hpb (by omega)).2
    obtain ⟨⟨r1, N1⟩, e1⟩ : ∃ q, runS (lessP (ofK K x.a) (ofK K x.b)) N = q := ⟨_, rfl⟩
    have c1 : AFun Tryz.prog 67 [.ptr 0 0 0 0, .int .i64 (K.getD (addN 0 x.a.toNat) 0), .int .i64 (K.getD (addN 0 x.b.toNat) 0)] (MkS v rs N g) (MkQ v rs (r1, N1)) := by
      have := msub_ok (ofK K x.a) (ofK K x.b) v N rs g hA hB hN'
      rw [e1] at this
      rw [addNz, addNz]
      exact this
    have hl1 : N.length ≤ N1.length := by
      have := runS_len (lessP (ofK K x.a) (ofK K x.b)) N
      rw [e1] at this
      exact this
    have hm1 : N1.length ≤ N.length + 1 := by
      have := runS_one (P := lessP (ofK K x.a) (ofK K x.b)) (one_less _ _) N
      rw [e1] at this
      exact this
    have hr1 : 0 ≤ r1 ∧ r1 < N1.length := by
      have := runS_ok (P := lessP (ofK K x.a) (ofK K x.b)) (N := N) (ok_less hA hB) (Nat.le_refl _)
      rw [e1] at this
      exact this
    have hN1 : N1.length ≤ 1000000 := by omega
    refine dre W 0 11 [] [] rfl rfl rfl trivial rfl ?_ (hp := by simp only [AllP, Holds, Option.getD, true_and, and_true]; omega)
    refine go_callS W 0 300 [0, 1] rfl (by first | exact True.intro | (simp only [AllC, AllP, addN, Int.toNat_natCast, true_and, and_true, Option.getD, List.length_set, wrapU, pw1, pw7, pw8, pw16, pw23, pw32, pw52, Holds] <;> first | omega | ((repeat' apply And.intro) <;> first | omega | (intros; rfl))) | (simp [AllC, AllP, addN, cloL, clo, mrgL, mrg, wrapU, Holds] <;> omega)) c1 rfl rfl ⟨rfl, fun _ _ => rfl, trivial⟩ ⟨rfl, rfl, trivial⟩ rfl ?_
    rintro _ _ ⟨g1, rfl, rfl⟩
    refine ⟨_, _, rfl, rfl, ?_⟩
    rw [e1]
    refine go_retS W 0 300 3 rfl (by first | exact True.intro | (simp only [AllC, AllP, addN, Int.toNat_natCast, true_and, and_true, Option.getD, List.length_set, wrapU, pw1, pw7, pw8, pw16, pw23, pw32, pw52, Holds] <;> first | omega | ((repeat' apply And.intro) <;> first | omega | (intros; rfl))) | (simp [AllC, AllP, addN, cloL, clo, mrgL, mrg, wrapU, Holds] <;> omega)) rfl (by first | exact True.intro | (simp only [AllC, AllP, addN, Int.toNat_natCast, true_and, and_true, Option.getD, List.length_set, wrapU, pw1, pw7, pw8, pw16, pw23, pw32, pw52, Holds] <;> first | omega | ((repeat' apply And.intro) <;> first | omega | (intros; rfl))) | (simp [AllC, AllP, addN, cloL, clo, mrgL, mrg, wrapU, Holds] <;> omega)) (.int .i64 (r1)) .refl rfl ⟨g1, rfl, rfl⟩
  rw [if_neg k5]
  refine sp W 0 rfl rfl rfl (fun k6 => ?_) (fun k6 => ?_)
  · rw [if_pos k6]
    have hxa := (hpa (by omega)).1
    have ha2 := (hpa (by omega)).2
    have hxb := (hpb (by omega)).1
    have hb2 := (hpb (by omega)).2
    obtain ⟨⟨r1, N1⟩, e1⟩ : ∃ q, runS (timesP (ofK K x.a) (x.b)) N = q := ⟨_, rfl⟩
    have c1 : AFun Tryz.prog 68 [.ptr 0 0 0 0, .int .i64 (K.getD (addN 0 x.a.toNat) 0), .int .i64 (x.b)] (MkS v rs N g) (MkQ v rs (r1, N1)) := by
      have := mmul_ok (ofK K x.a) (x.b) v N rs g hA hxb hN'
      rw [e1] at this
      rw [addNz]
      exact this
    have hl1 : N.length ≤ N1.length := by
      have := runS_len (timesP (ofK K x.a) (x.b)) N
      rw [e1] at this
      exact this
    have hm1 : N1.length ≤ N.length + 1 := by
      have := runS_one (P := timesP (ofK K x.a) (x.b)) (one_times _ _) N
      rw [e1] at this
      exact this
    have hr1 : 0 ≤ r1 ∧ r1 < N1.length := by
      have := runS_ok (P := timesP (ofK K x.a) (x.b)) (N := N) (ok_times hA hxb) (Nat.le_refl _)
      rw [e1] at this
      exact this
    have hN1 : N1.length ≤ 1000000 := by omega
    refine dre W 0 8 [] [] rfl rfl rfl trivial rfl ?_ (hp := by simp only [AllP, Holds, Option.getD, true_and, and_true]; omega)
    refine go_callS W 0 300 [0, 1] rfl (by first | exact True.intro | (simp only [AllC, AllP, addN, Int.toNat_natCast, true_and, and_true, Option.getD, List.length_set, wrapU, pw1, pw7, pw8, pw16, pw23, pw32, pw52, Holds] <;> first | omega | ((repeat' apply And.intro) <;> first | omega | (intros; rfl))) | (simp [AllC, AllP, addN, cloL, clo, mrgL, mrg, wrapU, Holds] <;> omega)) c1 rfl rfl ⟨rfl, fun _ _ => rfl, trivial⟩ ⟨rfl, rfl, trivial⟩ rfl ?_
    rintro _ _ ⟨g1, rfl, rfl⟩
    refine ⟨_, _, rfl, rfl, ?_⟩
    rw [runS_bind, e1]
    dsimp only
    obtain ⟨⟨r2, N2⟩, e2⟩ : ∃ q, runS (timesP (x.a) (ofK K x.b)) N1 = q := ⟨_, rfl⟩
    have c2 : AFun Tryz.prog 68 [.ptr 0 0 0 0, .int .i64 (x.a), .int .i64 (K.getD (addN 0 x.b.toNat) 0)] (MkS v rs N1 g1) (MkQ v rs (r2, N2)) := by
      have := mmul_ok (x.a) (ofK K x.b) v N1 rs g1 ⟨hxa.1, by have := hxa.2; omega⟩ ⟨hB.1, by have := hB.2; omega⟩ hN1
      rw [e2] at this
      rw [addNz]
      exact this
    have hl2 : N1.length ≤ N2.length := by
      have := runS_len (timesP (x.a) (ofK K x.b)) N1
      rw [e2] at this
      exact this
    have hm2 : N2.length ≤ N1.length + 1 := by
      have := runS_one (P := timesP (x.a) (ofK K x.b)) (one_times _ _) N1
      rw [e2] at this
      exact this
    have hr2 : 0 ≤ r2 ∧ r2 < N2.length := by
      have := runS_ok (P := timesP (x.a) (ofK K x.b)) (N := N1) (ok_times ⟨hxa.1, by have := hxa.2; omega⟩ ⟨hB.1, by have := hB.2; omega⟩) (Nat.le_refl _)
      rw [e2] at this
      exact this
    have hN2 : N2.length ≤ 1000000 := by omega
    refine dre W 0 8 [] [] rfl rfl rfl trivial rfl ?_ (hp := by simp only [AllP, Holds, Option.getD, true_and, and_true]; omega)
    refine go_callS W 0 300 [0, 1] rfl (by first | exact True.intro | (simp only [AllC, AllP, addN, Int.toNat_natCast, true_and, and_true, Option.getD, List.length_set, wrapU, pw1, pw7, pw8, pw16, pw23, pw32, pw52, Holds] <;> first | omega | ((repeat' apply And.intro) <;> first | omega | (intros; rfl))) | (simp [AllC, AllP, addN, cloL, clo, mrgL, mrg, wrapU, Holds] <;> omega)) c2 rfl rfl ⟨rfl, fun _ _ => rfl, trivial⟩ ⟨rfl, rfl, trivial⟩ rfl ?_
    rintro _ _ ⟨g2, rfl, rfl⟩
    refine ⟨_, _, rfl, rfl, ?_⟩
    rw [runS_bind, e2]
    dsimp only
    obtain ⟨⟨r3, N3⟩, e3⟩ : ∃ q, runS (sumP' (r1) (r2)) N2 = q := ⟨_, rfl⟩
    have c3 : AFun Tryz.prog 66 [.ptr 0 0 0 0, .int .i64 (r1), .int .i64 (r2)] (MkS v rs N2 g2) (MkQ v rs (r3, N3)) := by
      have := madd_ok (r1) (r2) v N2 rs g2 ⟨hr1.1, by have := hr1.2; omega⟩ hr2 hN2
      rw [e3] at this
      exact this
    have hl3 : N2.length ≤ N3.length := by
      have := runS_len (sumP' (r1) (r2)) N2
      rw [e3] at this
      exact this
    have hm3 : N3.length ≤ N2.length + 1 := by
      have := runS_one (P := sumP' (r1) (r2)) (one_sum _ _) N2
      rw [e3] at this
      exact this
    have hr3 : 0 ≤ r3 ∧ r3 < N3.length := by
      have := runS_ok (P := sumP' (r1) (r2)) (N := N2) (ok_sum ⟨hr1.1, by have := hr1.2; omega⟩ hr2) (Nat.le_refl _)
      rw [e3] at this
      exact this
    have hN3 : N3.length ≤ 1000000 := by omega
    refine go_callS W 0 300 [0, 1] rfl (by first | exact True.intro | (simp only [AllC, AllP, addN, Int.toNat_natCast, true_and, and_true, Option.getD, List.length_set, wrapU, pw1, pw7, pw8, pw16, pw23, pw32, pw52, Holds] <;> first | omega | ((repeat' apply And.intro) <;> first | omega | (intros; rfl))) | (simp [AllC, AllP, addN, cloL, clo, mrgL, mrg, wrapU, Holds] <;> omega)) c3 rfl rfl ⟨rfl, fun _ _ => rfl, trivial⟩ ⟨rfl, rfl, trivial⟩ rfl ?_
    rintro _ _ ⟨g3, rfl, rfl⟩
    refine ⟨_, _, rfl, rfl, ?_⟩
    rw [e3]
    refine go_retS W 0 300 3 rfl (by first | exact True.intro | (simp only [AllC, AllP, addN, Int.toNat_natCast, true_and, and_true, Option.getD, List.length_set, wrapU, pw1, pw7, pw8, pw16, pw23, pw32, pw52, Holds] <;> first | omega | ((repeat' apply And.intro) <;> first | omega | (intros; rfl))) | (simp [AllC, AllP, addN, cloL, clo, mrgL, mrg, wrapU, Holds] <;> omega)) rfl (by first | exact True.intro | (simp only [AllC, AllP, addN, Int.toNat_natCast, true_and, and_true, Option.getD, List.length_set, wrapU, pw1, pw7, pw8, pw16, pw23, pw32, pw52, Holds] <;> first | omega | ((repeat' apply And.intro) <;> first | omega | (intros; rfl))) | (simp [AllC, AllP, addN, cloL, clo, mrgL, mrg, wrapU, Holds] <;> omega)) (.int .i64 (r3)) .refl rfl ⟨g3, rfl, rfl⟩
  rw [if_neg k6]
  refine sp W 0 rfl rfl rfl (fun k7 => ?_) (fun k7 => ?_)
  · rw [if_pos k7]
    have hxa := (hpa (by omega)).1
    have ha2 := (hpa (by omega)).2
    have hxb := (hpb (by omega)).1
    have hb2 := (hpb (by omega)).2
    obtain ⟨⟨r1, N1⟩, e1⟩ : ∃ q, runS (timesP (ofK K x.a) (x.b)) N = q := ⟨_, rfl⟩
    have c1 : AFun Tryz.prog 68 [.ptr 0 0 0 0, .int .i64 (K.getD (addN 0 x.a.toNat) 0), .int .i64 (x.b)] (MkS v rs N g) (MkQ v rs (r1, N1)) := by
      have := mmul_ok (ofK K x.a) (x.b) v N rs g hA hxb hN'
      rw [e1] at this
      rw [addNz]
      exact this
    have hl1 : N.length ≤ N1.length := by
      have := runS_len (timesP (ofK K x.a) (x.b)) N
      rw [e1] at this
      exact this
    have hm1 : N1.length ≤ N.length + 1 := by
      have := runS_one (P := timesP (ofK K x.a) (x.b)) (one_times _ _) N
      rw [e1] at this
      exact this
    have hr1 : 0 ≤ r1 ∧ r1 < N1.length := by
      have := runS_ok (P := timesP (ofK K x.a) (x.b)) (N := N) (ok_times hA hxb) (Nat.le_refl _)
      rw [e1] at this
      exact this
    have hN1 : N1.length ≤ 1000000 := by omega
    refine dre W 0 8 [] [] rfl rfl rfl trivial rfl ?_ (hp := by simp only [AllP, Holds, Option.getD, true_and, and_true]; omega)
    refine go_callS W 0 300 [0, 1] rfl (by first | exact True.intro | (simp only [AllC, AllP, addN, Int.toNat_natCast, true_and, and_true, Option.getD, List.length_set, wrapU, pw1, pw7, pw8, pw16, pw23, pw32, pw52, Holds] <;> first | omega | ((repeat' apply And.intro) <;> first | omega | (intros; rfl))) | (simp [AllC, AllP, addN, cloL, clo, mrgL, mrg, wrapU, Holds] <;> omega)) c1 rfl rfl ⟨rfl, fun _ _ => rfl, trivial⟩ ⟨rfl, rfl, trivial⟩ rfl ?_
    rintro _ _ ⟨g1, rfl, rfl⟩
    refine ⟨_, _, rfl, rfl, ?_⟩
    rw [runS_bind, e1]
    dsimp only
    obtain ⟨⟨r2, N2⟩, e2⟩ : ∃ q, runS (timesP (x.a) (ofK K x.b)) N1 = q := ⟨_, rfl⟩
    have c2 : AFun Tryz.prog 68 [.ptr 0 0 0 0, .int .i64 (x.a), .int .i64 (K.getD (addN 0 x.b.toNat) 0)] (MkS v rs N1 g1) (MkQ v rs (r2, N2)) := by
      have := mmul_ok (x.a) (ofK K x.b) v N1 rs g1 ⟨hxa.1, by have := hxa.2; omega⟩ ⟨hB.1, by have := hB.2; omega⟩ hN1
      rw [e2] at this
      rw [addNz]
      exact this
    have hl2 : N1.length ≤ N2.length := by
      have := runS_len (timesP (x.a) (ofK K x.b)) N1
      rw [e2] at this
      exact this
    have hm2 : N2.length ≤ N1.length + 1 := by
      have := runS_one (P := timesP (x.a) (ofK K x.b)) (one_times _ _) N1
      rw [e2] at this
      exact this
    have hr2 : 0 ≤ r2 ∧ r2 < N2.length := by
      have := runS_ok (P := timesP (x.a) (ofK K x.b)) (N := N1) (ok_times ⟨hxa.1, by have := hxa.2; omega⟩ ⟨hB.1, by have := hB.2; omega⟩) (Nat.le_refl _)
      rw [e2] at this
      exact this
    have hN2 : N2.length ≤ 1000000 := by omega
    refine dre W 0 8 [] [] rfl rfl rfl trivial rfl ?_ (hp := by simp only [AllP, Holds, Option.getD, true_and, and_true]; omega)
    refine go_callS W 0 300 [0, 1] rfl (by first | exact True.intro | (simp only [AllC, AllP, addN, Int.toNat_natCast, true_and, and_true, Option.getD, List.length_set, wrapU, pw1, pw7, pw8, pw16, pw23, pw32, pw52, Holds] <;> first | omega | ((repeat' apply And.intro) <;> first | omega | (intros; rfl))) | (simp [AllC, AllP, addN, cloL, clo, mrgL, mrg, wrapU, Holds] <;> omega)) c2 rfl rfl ⟨rfl, fun _ _ => rfl, trivial⟩ ⟨rfl, rfl, trivial⟩ rfl ?_
    rintro _ _ ⟨g2, rfl, rfl⟩
    refine ⟨_, _, rfl, rfl, ?_⟩
    rw [runS_bind, e2]
    dsimp only
    obtain ⟨⟨r3, N3⟩, e3⟩ : ∃ q, runS (lessP (r1) (r2)) N2 = q := ⟨_, rfl⟩
    have c3 : AFun Tryz.prog 67 [.ptr 0 0 0 0, .int .i64 (r1), .int .i64 (r2)] (MkS v rs N2 g2) (MkQ v rs (r3, N3)) := by
      have := msub_ok (r1) (r2) v N2 rs g2 ⟨hr1.1, by have := hr1.2; omega⟩ hr2 hN2
      rw [e3] at this
      exact this
    have hl3 : N2.length ≤ N3.length := by
      have := runS_len (lessP (r1) (r2)) N2
      rw [e3] at this
      exact this
    have hm3 : N3.length ≤ N2.length + 1 := by
      have := runS_one (P := lessP (r1) (r2)) (one_less _ _) N2
      rw [e3] at this
      exact this
    have hr3 : 0 ≤ r3 ∧ r3 < N3.length := by
      have := runS_ok (P := lessP (r1) (r2)) (N := N2) (ok_less ⟨hr1.1, by have := hr1.2; omega⟩ hr2) (Nat.le_refl _)
      rw [e3] at this
      exact this
    have hN3 : N3.length ≤ 1000000 := by omega
    refine go_callS W 0 300 [0, 1] rfl (by first | exact True.intro | (simp only [AllC, AllP, addN, Int.toNat_natCast, true_and, and_true, Option.getD, List.length_set, wrapU, pw1, pw7, pw8, pw16, pw23, pw32, pw52, Holds] <;> first | omega | ((repeat' apply And.intro) <;> first | omega | (intros; rfl))) | (simp [AllC, AllP, addN, cloL, clo, mrgL, mrg, wrapU, Holds] <;> omega)) c3 rfl rfl ⟨rfl, fun _ _ => rfl, trivial⟩ ⟨rfl, rfl, trivial⟩ rfl ?_
    rintro _ _ ⟨g3, rfl, rfl⟩
    refine ⟨_, _, rfl, rfl, ?_⟩
    rw [runS_bind, e3]
    dsimp only
    have ci3 : AFun Tryz.prog 69 [.ptr 0 0 0 0, .int .i64 (r3), .str t0] (MkS v rs N3 g3) (fun u H => u = .pr (N3.getD (r3).toNat g0 = numG t0) ∧ H = MkS v rs N3 g3) := by
      have := mis_ok (r3) t0 v N3 rs g3 hr3
      exact this
    refine go_callS W 0 300 [0, 1] rfl (by first | exact True.intro | (simp only [AllC, AllP, addN, Int.toNat_natCast, true_and, and_true, Option.getD, List.length_set, wrapU, pw1, pw7, pw8, pw16, pw23, pw32, pw52, Holds] <;> first | omega | ((repeat' apply And.intro) <;> first | omega | (intros; rfl))) | (simp [AllC, AllP, addN, cloL, clo, mrgL, mrg, wrapU, Holds] <;> omega)) ci3 rfl rfl ⟨rfl, fun _ _ => rfl, trivial⟩ ⟨rfl, rfl, trivial⟩ rfl ?_
    rintro _ _ ⟨rfl, rfl⟩
    refine ⟨_, _, rfl, rfl, ?_⟩
    refine sp W 0 rfl rfl rfl (fun y3 => ?_) (fun y3 => ?_)
    · rw [runS_t y3]
      refine go_retS W 0 300 3 rfl (by first | exact True.intro | (simp only [AllC, AllP, addN, Int.toNat_natCast, true_and, and_true, Option.getD, List.length_set, wrapU, pw1, pw7, pw8, pw16, pw23, pw32, pw52, Holds] <;> first | omega | ((repeat' apply And.intro) <;> first | omega | (intros; rfl))) | (simp [AllC, AllP, addN, cloL, clo, mrgL, mrg, wrapU, Holds] <;> omega)) rfl (by first | exact True.intro | (simp only [AllC, AllP, addN, Int.toNat_natCast, true_and, and_true, Option.getD, List.length_set, wrapU, pw1, pw7, pw8, pw16, pw23, pw32, pw52, Holds] <;> first | omega | ((repeat' apply And.intro) <;> first | omega | (intros; rfl))) | (simp [AllC, AllP, addN, cloL, clo, mrgL, mrg, wrapU, Holds] <;> omega)) (.int .i64 (r3)) .refl rfl ⟨g3, rfl, rfl⟩
    · rw [runS_f y3]
      obtain ⟨⟨r4, N4⟩, e4⟩ : ∃ q, runS (raisedP (x.b) (2)) N3 = q := ⟨_, rfl⟩
      have c4 : AFun Tryz.prog 71 [.ptr 0 0 0 0, .int .i64 (x.b), .int .i64 (2)] (MkS v rs N3 g3) (MkQ v rs (r4, N4)) := by
        have := mpow_ok (x.b) (2) v N3 rs g3 hN3
        rw [e4] at this
        exact this
      have hl4 : N3.length ≤ N4.length := by
        have := runS_len (raisedP (x.b) (2)) N3
        rw [e4] at this
        exact this
      have hm4 : N4.length ≤ N3.length + 1 := by
        have := runS_one (P := raisedP (x.b) (2)) (one_raised _ _) N3
        rw [e4] at this
        exact this
      have hr4 : 0 ≤ r4 ∧ r4 < N4.length := by
        have := runS_ok (P := raisedP (x.b) (2)) (N := N3) (ok_raised _ ⟨hxb.1, by have := hxb.2; omega⟩) (Nat.le_refl _)
        rw [e4] at this
        exact this
      have hN4 : N4.length ≤ 1000000 := by omega
      refine go_callS W 0 300 [0, 1] rfl (by first | exact True.intro | (simp only [AllC, AllP, addN, Int.toNat_natCast, true_and, and_true, Option.getD, List.length_set, wrapU, pw1, pw7, pw8, pw16, pw23, pw32, pw52, Holds] <;> first | omega | ((repeat' apply And.intro) <;> first | omega | (intros; rfl))) | (simp [AllC, AllP, addN, cloL, clo, mrgL, mrg, wrapU, Holds] <;> omega)) c4 rfl rfl ⟨rfl, fun _ _ => rfl, trivial⟩ ⟨rfl, rfl, trivial⟩ rfl ?_
      rintro _ _ ⟨g4, rfl, rfl⟩
      refine ⟨_, _, rfl, rfl, ?_⟩
      rw [runS_bind, e4]
      dsimp only
      obtain ⟨⟨r5, N5⟩, e5⟩ : ∃ q, runS (byP (r3) (r4)) N4 = q := ⟨_, rfl⟩
      have c5 : AFun Tryz.prog 70 [.ptr 0 0 0 0, .int .i64 (r3), .int .i64 (r4)] (MkS v rs N4 g4) (MkQ v rs (r5, N5)) := by
        have := mdiv_ok (r3) (r4) v N4 rs g4 ⟨hr3.1, by have := hr3.2; omega⟩ hr4 hN4
        rw [e5] at this
        exact this
      have hl5 : N4.length ≤ N5.length := by
        have := runS_len (byP (r3) (r4)) N4
        rw [e5] at this
        exact this
      have hm5 : N5.length ≤ N4.length + 1 := by
        have := runS_one (P := byP (r3) (r4)) (one_by _ _) N4
        rw [e5] at this
        exact this
      have hr5 : 0 ≤ r5 ∧ r5 < N5.length := by
        have := runS_ok (P := byP (r3) (r4)) (N := N4) (ok_by (b := r4) ⟨hr3.1, by have := hr3.2; omega⟩) (Nat.le_refl _)
        rw [e5] at this
        exact this
      have hN5 : N5.length ≤ 1000000 := by omega
      refine go_callS W 0 300 [0, 1] rfl (by first | exact True.intro | (simp only [AllC, AllP, addN, Int.toNat_natCast, true_and, and_true, Option.getD, List.length_set, wrapU, pw1, pw7, pw8, pw16, pw23, pw32, pw52, Holds] <;> first | omega | ((repeat' apply And.intro) <;> first | omega | (intros; rfl))) | (simp [AllC, AllP, addN, cloL, clo, mrgL, mrg, wrapU, Holds] <;> omega)) c5 rfl rfl ⟨rfl, fun _ _ => rfl, trivial⟩ ⟨rfl, rfl, trivial⟩ rfl ?_
      rintro _ _ ⟨g5, rfl, rfl⟩
      refine ⟨_, _, rfl, rfl, ?_⟩
      rw [e5]
      refine go_retS W 0 300 3 rfl (by first | exact True.intro | (simp only [AllC, AllP, addN, Int.toNat_natCast, true_and, and_true, Option.getD, List.length_set, wrapU, pw1, pw7, pw8, pw16, pw23, pw32, pw52, Holds] <;> first | omega | ((repeat' apply And.intro) <;> first | omega | (intros; rfl))) | (simp [AllC, AllP, addN, cloL, clo, mrgL, mrg, wrapU, Holds] <;> omega)) rfl (by first | exact True.intro | (simp only [AllC, AllP, addN, Int.toNat_natCast, true_and, and_true, Option.getD, List.length_set, wrapU, pw1, pw7, pw8, pw16, pw23, pw32, pw52, Holds] <;> first | omega | ((repeat' apply And.intro) <;> first | omega | (intros; rfl))) | (simp [AllC, AllP, addN, cloL, clo, mrgL, mrg, wrapU, Holds] <;> omega)) (.int .i64 (r5)) .refl rfl ⟨g5, rfl, rfl⟩
  rw [if_neg k7]
  refine sp W 0 rfl rfl rfl (fun k8 => ?_) (fun k8 => ?_)
  · rw [if_pos k8]
    have hxa := (hpa (by omega)).1
    have ha2 := (hpa (by omega)).2
    refine sp W 0 rfl rfl rfl (fun w1 => ?_) (fun w1 => ?_)
    · rw [if_pos w1]
      obtain ⟨⟨r1, N1⟩, e1⟩ : ∃ q, runS (numP t0) N = q := ⟨_, rfl⟩
      have c1 : AFun Tryz.prog 64 [.ptr 0 0 0 0, .str t0] (MkS v rs N g) (MkQ v rs (r1, N1)) := by
        have := mnumber_ok t0 v N rs g hN'
        rw [e1] at this
        exact this
      have hl1 : N.length ≤ N1.length := by
        have := runS_len (numP t0) N
        rw [e1] at this
        exact this
      have hm1 : N1.length ≤ N.length + 1 := by
        have := runS_one (P := numP t0) (one_num _) N
        rw [e1] at this
        exact this
      have hr1 : 0 ≤ r1 ∧ r1 < N1.length := by
        have := runS_ok (P := numP t0) (N := N) (ok_num _ _) (Nat.le_refl _)
        rw [e1] at this
        exact this
      have hN1 : N1.length ≤ 1000000 := by omega
      refine go_callS W 0 300 [0, 1] rfl (by first | exact True.intro | (simp only [AllC, AllP, addN, Int.toNat_natCast, true_and, and_true, Option.getD, List.length_set, wrapU, pw1, pw7, pw8, pw16, pw23, pw32, pw52, Holds] <;> first | omega | ((repeat' apply And.intro) <;> first | omega | (intros; rfl))) | (simp [AllC, AllP, addN, cloL, clo, mrgL, mrg, wrapU, Holds] <;> omega)) c1 rfl rfl ⟨rfl, fun _ _ => rfl, trivial⟩ ⟨rfl, rfl, trivial⟩ rfl ?_
      rintro _ _ ⟨g1, rfl, rfl⟩
      refine ⟨_, _, rfl, rfl, ?_⟩
      rw [e1]
      refine go_retS W 0 300 3 rfl (by first | exact True.intro | (simp only [AllC, AllP, addN, Int.toNat_natCast, true_and, and_true, Option.getD, List.length_set, wrapU, pw1, pw7, pw8, pw16, pw23, pw32, pw52, Holds] <;> first | omega | ((repeat' apply And.intro) <;> first | omega | (intros; rfl))) | (simp [AllC, AllP, addN, cloL, clo, mrgL, mrg, wrapU, Holds] <;> omega)) rfl (by first | exact True.intro | (simp only [AllC, AllP, addN, Int.toNat_natCast, true_and, and_true, Option.getD, List.length_set, wrapU, pw1, pw7, pw8, pw16, pw23, pw32, pw52, Holds] <;> first | omega | ((repeat' apply And.intro) <;> first | omega | (intros; rfl))) | (simp [AllC, AllP, addN, cloL, clo, mrgL, mrg, wrapU, Holds] <;> omega)) (.int .i64 (r1)) .refl rfl ⟨g1, rfl, rfl⟩
    rw [if_neg w1]
    have ci0 : AFun Tryz.prog 69 [.ptr 0 0 0 0, .int .i64 (K.getD (addN 0 x.a.toNat) 0), .str t0] (MkS v rs N g) (fun u H => u = .pr (N.getD (ofK K x.a).toNat g0 = numG t0) ∧ H = MkS v rs N g) := by
      have := mis_ok (ofK K x.a) t0 v N rs g hA
      rw [addNz]
      exact this
    refine go_callS W 0 300 [0, 1] rfl (by first | exact True.intro | (simp only [AllC, AllP, addN, Int.toNat_natCast, true_and, and_true, Option.getD, List.length_set, wrapU, pw1, pw7, pw8, pw16, pw23, pw32, pw52, Holds] <;> first | omega | ((repeat' apply And.intro) <;> first | omega | (intros; rfl))) | (simp [AllC, AllP, addN, cloL, clo, mrgL, mrg, wrapU, Holds] <;> omega)) ci0 rfl rfl ⟨rfl, fun _ _ => rfl, trivial⟩ ⟨rfl, rfl, trivial⟩ rfl ?_
    rintro _ _ ⟨rfl, rfl⟩
    refine ⟨_, _, rfl, rfl, ?_⟩
    refine sp W 0 rfl rfl rfl (fun y0 => ?_) (fun y0 => ?_)
    · have hz : idxG N (numG t0) = (ofK K x.a).toNat := idxG_first (by have := hA.2; have := hA.1; omega) y0 fun j hj e => hd j _ hj (by have := hA.2; have := hA.1; omega) (by rw [e, y0])
      have c1 : AFun Tryz.prog 64 [.ptr 0 0 0 0, .str t0] (MkS v rs N g) (MkQ v rs (ofK K x.a, N)) := by
        have := mnumber_ok t0 v N rs g hN'
        have hm : numG t0 ∈ N := by rw [← y0]; exact getD_mem (by have := hA.2; have := hA.1; omega)
        have e : runS (numP t0) N = (ofK K x.a, N) := by
          simp only [numP, runS]
          rw [if_pos hm, hz, Int.toNat_of_nonneg hA.1]
        rw [e] at this
        exact this
      have e : runS (if x.n = 1 then Pg.ret (ofK K x.a) else .is (ofK K x.a) t0 fun t => if t then .ret (ofK K x.a) else (numP (Lib.decDigits x.n.toNat)).bind fun f => (raisedP x.a (x.n - 1)).bind fun r => (timesP f r).bind fun y => timesP y (ofK K x.a)) N = (ofK K x.a, N) := by
        split
        · rfl
        · rw [runS_t y0]; rfl
      rw [e]
      refine go_callS W 0 300 [0, 1] rfl (by first | exact True.intro | (simp only [AllC, AllP, addN, Int.toNat_natCast, true_and, and_true, Option.getD, List.length_set, wrapU, pw1, pw7, pw8, pw16, pw23, pw32, pw52, Holds] <;> first | omega | ((repeat' apply And.intro) <;> first | omega | (intros; rfl))) | (simp [AllC, AllP, addN, cloL, clo, mrgL, mrg, wrapU, Holds] <;> omega)) c1 rfl rfl ⟨rfl, fun _ _ => rfl, trivial⟩ ⟨rfl, rfl, trivial⟩ rfl ?_
      rintro _ _ ⟨g1, rfl, rfl⟩
      refine ⟨_, _, rfl, rfl, ?_⟩
      refine go_retS W 0 300 3 rfl (by first | exact True.intro | (simp only [AllC, AllP, addN, Int.toNat_natCast, true_and, and_true, Option.getD, List.length_set, wrapU, pw1, pw7, pw8, pw16, pw23, pw32, pw52, Holds] <;> first | omega | ((repeat' apply And.intro) <;> first | omega | (intros; rfl))) | (simp [AllC, AllP, addN, cloL, clo, mrgL, mrg, wrapU, Holds] <;> omega)) rfl (by first | exact True.intro | (simp only [AllC, AllP, addN, Int.toNat_natCast, true_and, and_true, Option.getD, List.length_set, wrapU, pw1, pw7, pw8, pw16, pw23, pw32, pw52, Holds] <;> first | omega | ((repeat' apply And.intro) <;> first | omega | (intros; rfl))) | (simp [AllC, AllP, addN, cloL, clo, mrgL, mrg, wrapU, Holds] <;> omega)) (.int .i64 (ofK K x.a)) .refl rfl ⟨g1, rfl, rfl⟩
    · refine sp W 0 rfl rfl rfl (fun w2 => ?_) (fun w2 => ?_)
      · rw [if_pos w2]
        refine go_retS W 0 300 3 rfl (by first | exact True.intro | (simp only [AllC, AllP, addN, Int.toNat_natCast, true_and, and_true, Option.getD, List.length_set, wrapU, pw1, pw7, pw8, pw16, pw23, pw32, pw52, Holds] <;> first | omega | ((repeat' apply And.intro) <;> first | omega | (intros; rfl))) | (simp [AllC, AllP, addN, cloL, clo, mrgL, mrg, wrapU, Holds] <;> omega)) rfl (by first | exact True.intro | (simp only [AllC, AllP, addN, Int.toNat_natCast, true_and, and_true, Option.getD, List.length_set, wrapU, pw1, pw7, pw8, pw16, pw23, pw32, pw52, Holds] <;> first | omega | ((repeat' apply And.intro) <;> first | omega | (intros; rfl))) | (simp [AllC, AllP, addN, cloL, clo, mrgL, mrg, wrapU, Holds] <;> omega)) (.int .i64 (ofK K x.a)) (.int (by rw [addNz]; rfl)) rfl ⟨g, rfl, rfl⟩
      rw [if_neg w2]
      rw [runS_f y0]
      refine ce W 0 rfl rfl (ko) rfl ?_
      refine ce W 0 rfl rfl (kt) rfl ?_
      obtain ⟨⟨r1, N1⟩, e1⟩ : ∃ q, runS (numP (Lib.decDigits x.n.toNat)) N = q := ⟨_, rfl⟩
      have c1 : AFun Tryz.prog 64 [.ptr 0 0 0 0, .str (Lib.decDigits x.n.toNat)] (MkS v rs N g) (MkQ v rs (r1, N1)) := by
        have := mnumber_ok (Lib.decDigits x.n.toNat) v N rs g hN'
        rw [e1] at this
        exact this
      have hl1 : N.length ≤ N1.length := by
        have := runS_len (numP (Lib.decDigits x.n.toNat)) N
        rw [e1] at this
        exact this
      have hm1 : N1.length ≤ N.length + 1 := by
        have := runS_one (P := numP (Lib.decDigits x.n.toNat)) (one_num _) N
        rw [e1] at this
        exact this
      have hr1 : 0 ≤ r1 ∧ r1 < N1.length := by
        have := runS_ok (P := numP (Lib.decDigits x.n.toNat)) (N := N) (ok_num _ _) (Nat.le_refl _)
        rw [e1] at this
        exact this
      have hN1 : N1.length ≤ 1000000 := by omega
      refine go_callS W 0 300 [0, 1] rfl (by first | exact True.intro | (simp only [AllC, AllP, addN, Int.toNat_natCast, true_and, and_true, Option.getD, List.length_set, wrapU, pw1, pw7, pw8, pw16, pw23, pw32, pw52, Holds] <;> first | omega | ((repeat' apply And.intro) <;> first | omega | (intros; rfl))) | (simp [AllC, AllP, addN, cloL, clo, mrgL, mrg, wrapU, Holds] <;> omega)) c1 rfl rfl ⟨rfl, fun _ _ => rfl, trivial⟩ ⟨rfl, rfl, trivial⟩ rfl ?_
      rintro _ _ ⟨g1, rfl, rfl⟩
      refine ⟨_, _, rfl, rfl, ?_⟩
      rw [runS_bind, e1]
      dsimp only
      obtain ⟨⟨r2, N2⟩, e2⟩ : ∃ q, runS (raisedP (x.a) (x.n - 1)) N1 = q := ⟨_, rfl⟩
      have c2 : AFun Tryz.prog 71 [.ptr 0 0 0 0, .int .i64 (x.a), .int .i64 (x.n - 1)] (MkS v rs N1 g1) (MkQ v rs (r2, N2)) := by
        have := mpow_ok (x.a) (x.n - 1) v N1 rs g1 hN1
        rw [e2] at this
        exact this
      have hl2 : N1.length ≤ N2.length := by
        have := runS_len (raisedP (x.a) (x.n - 1)) N1
        rw [e2] at this
        exact this
      have hm2 : N2.length ≤ N1.length + 1 := by
        have := runS_one (P := raisedP (x.a) (x.n - 1)) (one_raised _ _) N1
        rw [e2] at this
        exact this
      have hr2 : 0 ≤ r2 ∧ r2 < N2.length := by
        have := runS_ok (P := raisedP (x.a) (x.n - 1)) (N := N1) (ok_raised _ ⟨hxa.1, by have := hxa.2; omega⟩) (Nat.le_refl _)
        rw [e2] at this
        exact this
      have hN2 : N2.length ≤ 1000000 := by omega
      refine go_callS W 0 300 [0, 1] rfl (by first | exact True.intro | (simp only [AllC, AllP, addN, Int.toNat_natCast, true_and, and_true, Option.getD, List.length_set, wrapU, pw1, pw7, pw8, pw16, pw23, pw32, pw52, Holds] <;> first | omega | ((repeat' apply And.intro) <;> first | omega | (intros; rfl))) | (simp [AllC, AllP, addN, cloL, clo, mrgL, mrg, wrapU, Holds] <;> omega)) c2 rfl rfl ⟨rfl, fun _ _ => rfl, trivial⟩ ⟨rfl, rfl, trivial⟩ rfl ?_
      rintro _ _ ⟨g2, rfl, rfl⟩
      refine ⟨_, _, rfl, rfl, ?_⟩
      rw [runS_bind, e2]
      dsimp only
      obtain ⟨⟨r3, N3⟩, e3⟩ : ∃ q, runS (timesP (r1) (r2)) N2 = q := ⟨_, rfl⟩
      have c3 : AFun Tryz.prog 68 [.ptr 0 0 0 0, .int .i64 (r1), .int .i64 (r2)] (MkS v rs N2 g2) (MkQ v rs (r3, N3)) := by
        have := mmul_ok (r1) (r2) v N2 rs g2 ⟨hr1.1, by have := hr1.2; omega⟩ hr2 hN2
        rw [e3] at this
        exact this
      have hl3 : N2.length ≤ N3.length := by
        have := runS_len (timesP (r1) (r2)) N2
        rw [e3] at this
        exact this
      have hm3 : N3.length ≤ N2.length + 1 := by
        have := runS_one (P := timesP (r1) (r2)) (one_times _ _) N2
        rw [e3] at this
        exact this
      have hr3 : 0 ≤ r3 ∧ r3 < N3.length := by
        have := runS_ok (P := timesP (r1) (r2)) (N := N2) (ok_times ⟨hr1.1, by have := hr1.2; omega⟩ hr2) (Nat.le_refl _)
        rw [e3] at this
        exact this
      have hN3 : N3.length ≤ 1000000 := by omega
      refine go_callS W 0 300 [0, 1] rfl (by first | exact True.intro | (simp only [AllC, AllP, addN, Int.toNat_natCast, true_and, and_true, Option.getD, List.length_set, wrapU, pw1, pw7, pw8, pw16, pw23, pw32, pw52, Holds] <;> first | omega | ((repeat' apply And.intro) <;> first | omega | (intros; rfl))) | (simp [AllC, AllP, addN, cloL, clo, mrgL, mrg, wrapU, Holds] <;> omega)) c3 rfl rfl ⟨rfl, fun _ _ => rfl, trivial⟩ ⟨rfl, rfl, trivial⟩ rfl ?_
      rintro _ _ ⟨g3, rfl, rfl⟩
      refine ⟨_, _, rfl, rfl, ?_⟩
      rw [runS_bind, e3]
      dsimp only
      obtain ⟨⟨r4, N4⟩, e4⟩ : ∃ q, runS (timesP (r3) (ofK K x.a)) N3 = q := ⟨_, rfl⟩
      have c4 : AFun Tryz.prog 68 [.ptr 0 0 0 0, .int .i64 (r3), .int .i64 (K.getD (addN 0 x.a.toNat) 0)] (MkS v rs N3 g3) (MkQ v rs (r4, N4)) := by
        have := mmul_ok (r3) (ofK K x.a) v N3 rs g3 hr3 ⟨hA.1, by have := hA.2; omega⟩ hN3
        rw [e4] at this
        rw [addNz]
        exact this
      have hl4 : N3.length ≤ N4.length := by
        have := runS_len (timesP (r3) (ofK K x.a)) N3
        rw [e4] at this
        exact this
      have hm4 : N4.length ≤ N3.length + 1 := by
        have := runS_one (P := timesP (r3) (ofK K x.a)) (one_times _ _) N3
        rw [e4] at this
        exact this
      have hr4 : 0 ≤ r4 ∧ r4 < N4.length := by
        have := runS_ok (P := timesP (r3) (ofK K x.a)) (N := N3) (ok_times hr3 ⟨hA.1, by have := hA.2; omega⟩) (Nat.le_refl _)
        rw [e4] at this
        exact this
      have hN4 : N4.length ≤ 1000000 := by omega
      refine go_callS W 0 300 [0, 1] rfl (by first | exact True.intro | (simp only [AllC, AllP, addN, Int.toNat_natCast, true_and, and_true, Option.getD, List.length_set, wrapU, pw1, pw7, pw8, pw16, pw23, pw32, pw52, Holds] <;> first | omega | ((repeat' apply And.intro) <;> first | omega | (intros; rfl))) | (simp [AllC, AllP, addN, cloL, clo, mrgL, mrg, wrapU, Holds] <;> omega)) c4 rfl rfl ⟨rfl, fun _ _ => rfl, trivial⟩ ⟨rfl, rfl, trivial⟩ rfl ?_
      rintro _ _ ⟨g4, rfl, rfl⟩
      refine ⟨_, _, rfl, rfl, ?_⟩
      rw [e4]
      refine go_retS W 0 300 3 rfl (by first | exact True.intro | (simp only [AllC, AllP, addN, Int.toNat_natCast, true_and, and_true, Option.getD, List.length_set, wrapU, pw1, pw7, pw8, pw16, pw23, pw32, pw52, Holds] <;> first | omega | ((repeat' apply And.intro) <;> first | omega | (intros; rfl))) | (simp [AllC, AllP, addN, cloL, clo, mrgL, mrg, wrapU, Holds] <;> omega)) rfl (by first | exact True.intro | (simp only [AllC, AllP, addN, Int.toNat_natCast, true_and, and_true, Option.getD, List.length_set, wrapU, pw1, pw7, pw8, pw16, pw23, pw32, pw52, Holds] <;> first | omega | ((repeat' apply And.intro) <;> first | omega | (intros; rfl))) | (simp [AllC, AllP, addN, cloL, clo, mrgL, mrg, wrapU, Holds] <;> omega)) (.int .i64 (r4)) .refl rfl ⟨g4, rfl, rfl⟩
  rw [if_neg k8]
  rw [if_pos (by omega)]
  have hxa := (hpa (by omega)).1
  have ha2 := (hpa (by omega)).2
  have ci0 : AFun Tryz.prog 69 [.ptr 0 0 0 0, .int .i64 (K.getD (addN 0 x.a.toNat) 0), .str t0] (MkS v rs N g) (fun u H => u = .pr (N.getD (ofK K x.a).toNat g0 = numG t0) ∧ H = MkS v rs N g) := by
    have := mis_ok (ofK K x.a) t0 v N rs g hA
    rw [addNz]
    exact this
  refine go_callS W 0 300 [0, 1] rfl (by first | exact True.intro | (simp only [AllC, AllP, addN, Int.toNat_natCast, true_and, and_true, Option.getD, List.length_set, wrapU, pw1, pw7, pw8, pw16, pw23, pw32, pw52, Holds] <;> first | omega | ((repeat' apply And.intro) <;> first | omega | (intros; rfl))) | (simp [AllC, AllP, addN, cloL, clo, mrgL, mrg, wrapU, Holds] <;> omega)) ci0 rfl rfl ⟨rfl, fun _ _ => rfl, trivial⟩ ⟨rfl, rfl, trivial⟩ rfl ?_
  rintro _ _ ⟨rfl, rfl⟩
  refine ⟨_, _, rfl, rfl, ?_⟩
  refine sp W 0 rfl rfl rfl (fun y0 => ?_) (fun y0 => ?_)
  · rw [runS_t y0]
    refine go_retS W 0 300 3 rfl (by first | exact True.intro | (simp only [AllC, AllP, addN, Int.toNat_natCast, true_and, and_true, Option.getD, List.length_set, wrapU, pw1, pw7, pw8, pw16, pw23, pw32, pw52, Holds] <;> first | omega | ((repeat' apply And.intro) <;> first | omega | (intros; rfl))) | (simp [AllC, AllP, addN, cloL, clo, mrgL, mrg, wrapU, Holds] <;> omega)) rfl (by first | exact True.intro | (simp only [AllC, AllP, addN, Int.toNat_natCast, true_and, and_true, Option.getD, List.length_set, wrapU, pw1, pw7, pw8, pw16, pw23, pw32, pw52, Holds] <;> first | omega | ((repeat' apply And.intro) <;> first | omega | (intros; rfl))) | (simp [AllC, AllP, addN, cloL, clo, mrgL, mrg, wrapU, Holds] <;> omega)) (.int .i64 (ofK K x.a)) (.int (by rw [addNz]; rfl)) rfl ⟨g, rfl, rfl⟩
  · rw [runS_f y0]
    obtain ⟨⟨r1, N1⟩, e1⟩ : ∃ q, runS (numP [50]) N = q := ⟨_, rfl⟩
    have c1 : AFun Tryz.prog 64 [.ptr 0 0 0 0, .str [50]] (MkS v rs N g) (MkQ v rs (r1, N1)) := by
      have := mnumber_ok [50] v N rs g hN'
      rw [e1] at this
      exact this
    have hl1 : N.length ≤ N1.length := by
      have := runS_len (numP [50]) N
      rw [e1] at this
      exact this
    have hm1 : N1.length ≤ N.length + 1 := by
      have := runS_one (P := numP [50]) (one_num _) N
      rw [e1] at this
      exact this
    have hr1 : 0 ≤ r1 ∧ r1 < N1.length := by
      have := runS_ok (P := numP [50]) (N := N) (ok_num _ _) (Nat.le_refl _)
      rw [e1] at this
      exact this
    have hN1 : N1.length ≤ 1000000 := by omega
    refine go_callS W 0 300 [0, 1] rfl (by first | exact True.intro | (simp only [AllC, AllP, addN, Int.toNat_natCast, true_and, and_true, Option.getD, List.length_set, wrapU, pw1, pw7, pw8, pw16, pw23, pw32, pw52, Holds] <;> first | omega | ((repeat' apply And.intro) <;> first | omega | (intros; rfl))) | (simp [AllC, AllP, addN, cloL, clo, mrgL, mrg, wrapU, Holds] <;> omega)) c1 rfl rfl ⟨rfl, fun _ _ => rfl, trivial⟩ ⟨rfl, rfl, trivial⟩ rfl ?_
    rintro _ _ ⟨g1, rfl, rfl⟩
    refine ⟨_, _, rfl, rfl, ?_⟩
    rw [runS_bind, e1]
    dsimp only
    obtain ⟨⟨r2, N2⟩, e2⟩ : ∃ q, runS (timesP (r1) (at')) N1 = q := ⟨_, rfl⟩
    have c2 : AFun Tryz.prog 68 [.ptr 0 0 0 0, .int .i64 (r1), .int .i64 (at')] (MkS v rs N1 g1) (MkQ v rs (r2, N2)) := by
      have := mmul_ok (r1) (at') v N1 rs g1 hr1 ⟨hat.1, by have := hat.2; omega⟩ hN1
      rw [e2] at this
      exact this
    have hl2 : N1.length ≤ N2.length := by
      have := runS_len (timesP (r1) (at')) N1
      rw [e2] at this
      exact this
    have hm2 : N2.length ≤ N1.length + 1 := by
      have := runS_one (P := timesP (r1) (at')) (one_times _ _) N1
      rw [e2] at this
      exact this
    have hr2 : 0 ≤ r2 ∧ r2 < N2.length := by
      have := runS_ok (P := timesP (r1) (at')) (N := N1) (ok_times hr1 ⟨hat.1, by have := hat.2; omega⟩) (Nat.le_refl _)
      rw [e2] at this
      exact this
    have hN2 : N2.length ≤ 1000000 := by omega
    refine go_callS W 0 300 [0, 1] rfl (by first | exact True.intro | (simp only [AllC, AllP, addN, Int.toNat_natCast, true_and, and_true, Option.getD, List.length_set, wrapU, pw1, pw7, pw8, pw16, pw23, pw32, pw52, Holds] <;> first | omega | ((repeat' apply And.intro) <;> first | omega | (intros; rfl))) | (simp [AllC, AllP, addN, cloL, clo, mrgL, mrg, wrapU, Holds] <;> omega)) c2 rfl rfl ⟨rfl, fun _ _ => rfl, trivial⟩ ⟨rfl, rfl, trivial⟩ rfl ?_
    rintro _ _ ⟨g2, rfl, rfl⟩
    refine ⟨_, _, rfl, rfl, ?_⟩
    rw [runS_bind, e2]
    dsimp only
    obtain ⟨⟨r3, N3⟩, e3⟩ : ∃ q, runS (byP (ofK K x.a) (r2)) N2 = q := ⟨_, rfl⟩
    have c3 : AFun Tryz.prog 70 [.ptr 0 0 0 0, .int .i64 (K.getD (addN 0 x.a.toNat) 0), .int .i64 (r2)] (MkS v rs N2 g2) (MkQ v rs (r3, N3)) := by
      have := mdiv_ok (ofK K x.a) (r2) v N2 rs g2 ⟨hA.1, by have := hA.2; omega⟩ hr2 hN2
      rw [e3] at this
      rw [addNz]
      exact this
    have hl3 : N2.length ≤ N3.length := by
      have := runS_len (byP (ofK K x.a) (r2)) N2
      rw [e3] at this
      exact this
    have hm3 : N3.length ≤ N2.length + 1 := by
      have := runS_one (P := byP (ofK K x.a) (r2)) (one_by _ _) N2
      rw [e3] at this
      exact this
    have hr3 : 0 ≤ r3 ∧ r3 < N3.length := by
      have := runS_ok (P := byP (ofK K x.a) (r2)) (N := N2) (ok_by (b := r2) ⟨hA.1, by have := hA.2; omega⟩) (Nat.le_refl _)
      rw [e3] at this
      exact this
    have hN3 : N3.length ≤ 1000000 := by omega
    refine go_callS W 0 300 [0, 1] rfl (by first | exact True.intro | (simp only [AllC, AllP, addN, Int.toNat_natCast, true_and, and_true, Option.getD, List.length_set, wrapU, pw1, pw7, pw8, pw16, pw23, pw32, pw52, Holds] <;> first | omega | ((repeat' apply And.intro) <;> first | omega | (intros; rfl))) | (simp [AllC, AllP, addN, cloL, clo, mrgL, mrg, wrapU, Holds] <;> omega)) c3 rfl rfl ⟨rfl, fun _ _ => rfl, trivial⟩ ⟨rfl, rfl, trivial⟩ rfl ?_
    rintro _ _ ⟨g3, rfl, rfl⟩
    refine ⟨_, _, rfl, rfl, ?_⟩
    rw [e3]
    refine go_retS W 0 300 3 rfl (by first | exact True.intro | (simp only [AllC, AllP, addN, Int.toNat_natCast, true_and, and_true, Option.getD, List.length_set, wrapU, pw1, pw7, pw8, pw16, pw23, pw32, pw52, Holds] <;> first | omega | ((repeat' apply And.intro) <;> first | omega | (intros; rfl))) | (simp [AllC, AllP, addN, cloL, clo, mrgL, mrg, wrapU, Holds] <;> omega)) rfl (by first | exact True.intro | (simp only [AllC, AllP, addN, Int.toNat_natCast, true_and, and_true, Option.getD, List.length_set, wrapU, pw1, pw7, pw8, pw16, pw23, pw32, pw52, Holds] <;> first | omega | ((repeat' apply And.intro) <;> first | omega | (intros; rfl))) | (simp [AllC, AllP, addN, cloL, clo, mrgL, mrg, wrapU, Holds] <;> omega)) (.int .i64 (r3)) .refl rfl ⟨g3, rfl, rfl⟩

end Pf
/- Slopes: node by node (plain) -/
namespace Pf
open Go Go.Proofs
/-! ### All slopes, node by node (plain) -/
abbrev ofF (f : Nat → Int) (i : Int) : Int := f i.toNat
open Classical in
noncomputable def slS (R : Nat → Prop) (l : List Gn) (w : Int) : Nat → List Gn × (Nat → Int)
  | 0 => (l, fun _ => 0)
  | i + 1 => if R i then ((runS (slopeG i (l.getD i g0) w (ofF (slS R l w i).2)) (slS R l w i).1).2, fun j => if j = i then (runS (slopeG i (l.getD i g0) w (ofF (slS R l w i).2)) (slS R l w i).1).1 else (slS R l w i).2 j) else slS R l w i
open Classical in
noncomputable def slI (R : Nat → Prop) (l : List Gn) (w : Int) : Nat → List Gn × Bool × (Nat → Int)
  | 0 => (l, false, fun _ => 0)
  | i + 1 => if R i ∧ (slI R l w i).2.1 = false then
      ((runI (slopeG i (l.getD i g0) w (ofF (slI R l w i).2.2)) (slI R l w i).1 false).2.1, (runI (slopeG i (l.getD i g0) w (ofF (slI R l w i).2.2)) (slI R l w i).1 false).2.2,
        fun j => if j = i then (runI (slopeG i (l.getD i g0) w (ofF (slI R l w i).2.2)) (slI R l w i).1 false).1 else (slI R l w i).2.2 j)
    else slI R l w i
theorem slS_len {R : Nat → Prop} {l : List Gn} {w : Int} : ∀ i, l.length ≤ (slS R l w i).1.length
  | 0 => Nat.le_refl _
  | i + 1 => by
    have ih := slS_len (R := R) (l := l) (w := w) i
    simp only [slS]
    split
    · exact Nat.le_trans ih (runS_len _ _)
    · exact ih
theorem slI_len {R : Nat → Prop} {l : List Gn} {w : Int} (hl : l.length ≤ 120) : ∀ i, (slI R l w i).1.length ≤ 120
  | 0 => hl
  | i + 1 => by
    have ih := slI_len (R := R) (w := w) hl i
    simp only [slI]
    split
    · exact runI_len _ _ _ ih
    · exact ih
theorem sl_lock {R : Nat → Prop} {l : List Gn} {w : Int} (hl : l.length ≤ 120) : ∀ i, ((slS R l w i).1.length ≤ 120 → slI R l w i = ((slS R l w i).1, false, (slS R l w i).2)) ∧ (120 < (slS R l w i).1.length → (slI R l w i).2.1 = true)
  | 0 => ⟨fun _ => rfl, fun h => by simp only [slS] at h; omega⟩
  | i + 1 => by
    obtain ⟨h1, h2⟩ := sl_lock (R := R) (w := w) hl i
    simp only [slS, slI]
    by_cases hr : R i
    · rw [if_pos hr]
      rcases Nat.lt_or_ge 120 (slS R l w i).1.length with hb | hb
      · have hF := h2 hb
        have := runS_len (slopeG i (l.getD i g0) w (ofF (slS R l w i).2)) (slS R l w i).1
        rw [if_neg (fun k => by rw [hF] at k; cases k.2)]
        exact ⟨fun k => by dsimp only at k; omega, fun _ => hF⟩
      · have hE := h1 hb
        rw [hE]
        rw [if_pos ⟨hr, rfl⟩]
        obtain ⟨q1, q2⟩ := lock (slopeG i (l.getD i g0) w (ofF (slS R l w i).2)) (slS R l w i).1 hb
        constructor
        · intro k
          rw [q1 k]
        · intro k
          exact q2 k
    · rw [if_neg hr, if_neg (fun k => hr k.1)]
      exact ⟨h1, h2⟩
theorem slS_stop {R : Nat → Prop} {l : List Gn} {w : Int} {a : Nat} (hR : ∀ i, a < i → ¬ R i) : ∀ n, slS R l w (a + 1 + n) = slS R l w (a + 1)
  | 0 => rfl
  | n + 1 => by
    show slS R l w (a + 1 + n + 1) = _
    rw [slS]
    rw [if_neg (hR _ (by omega)), slS_stop hR n]
theorem slI_stop {R : Nat → Prop} {l : List Gn} {w : Int} {a : Nat} (hR : ∀ i, a < i → ¬ R i) : ∀ n, slI R l w (a + 1 + n) = slI R l w (a + 1)
  | 0 => rfl
  | n + 1 => by
    show slI R l w (a + 1 + n + 1) = _
    rw [slI]
    rw [if_neg (fun k => hR _ (by omega) k.1), slI_stop hR n]
/-- The old nodes stay. -/
theorem runS_keep (P : Pg) : ∀ (N : List Gn) (j : Nat), j < N.length → (runS P N).2.getD j g0 = N.getD j g0 := by
  induction P with
  | ret v => intro N j h; rfl
  | put x k ih =>
    intro N j h
    simp only [runS]
    split
    · exact ih _ N j h
    · rw [ih _ (N ++ [x]) j (by simp; omega), List.getD_eq_getElem?_getD, List.getElem?_append_left h, ← List.getD_eq_getElem?_getD]
  | is a s k ih => intro N j h; simp only [runS]; exact ih _ N j h
theorem slS_keep {R : Nat → Prop} {l : List Gn} {w : Int} {j : Nat} (hj : j < l.length) : ∀ i, (slS R l w i).1.getD j g0 = l.getD j g0
  | 0 => rfl
  | i + 1 => by
    have ih := slS_keep (R := R) (w := w) hj i
    simp only [slS]
    split
    · rw [runS_keep _ _ _ (by have := slS_len (R := R) (l := l) (w := w) i; omega)]; exact ih
    · exact ih
theorem ndG_app {N : List Gn} {x : Gn} (h : ndG N) (hx : x ∉ N) : ndG (N ++ [x]) := by
  intro i j hij hj e
  have hi : i < N.length := by simp at hj; omega
  have e1 : (N ++ [x]).getD i g0 = N.getD i g0 := by rw [List.getD_eq_getElem?_getD, List.getElem?_append_left hi, ← List.getD_eq_getElem?_getD]
  by_cases hjl : j < N.length
  · have e2 : (N ++ [x]).getD j g0 = N.getD j g0 := by rw [List.getD_eq_getElem?_getD, List.getElem?_append_left hjl, ← List.getD_eq_getElem?_getD]
    rw [e1, e2] at e
    exact h i j hij hjl e
  · have hj2 : j = N.length := by simp at hj; omega
    subst hj2
    have e2 : (N ++ [x]).getD N.length g0 = x := by simp [List.getD_eq_getElem?_getD]
    rw [e1, e2] at e
    exact hx (by rw [← e]; exact getD_mem hi)
theorem runS_nd (P : Pg) : ∀ N, ndG N → ndG (runS P N).2 := by
  induction P with
  | ret v => intro N h; exact h
  | put x k ih =>
    intro N h
    simp only [runS]
    split
    · exact ih _ _ h
    · rename_i hx
      exact ih _ _ (ndG_app h hx)
  | is a s k ih => intro N h; simp only [runS]; exact ih _ _ h
theorem slS_nd {R : Nat → Prop} {l : List Gn} {w : Int} (h : ndG l) : ∀ i, ndG (slS R l w i).1
  | 0 => h
  | i + 1 => by
    have ih := slS_nd (R := R) (w := w) h i
    simp only [slS]
    split
    · exact runS_nd _ _ ih
    · exact ih
theorem graph_nd {v : Int} {l : List Gn} (h : ∀ i, i < l.length → nodeP v l i) : ndG l := by
  intro i j hij hj e
  have hf := fresh_node (h j hj) fun s hs => h s (by omega)
  exact hf (by rw [← e]; exact take_mem hij hj)
/-- The program of a node is well formed where its parts' slopes are places. -/
theorem Pg.ok_bind {P : Pg} {f : Int → Pg} : ∀ {n : Nat}, P.ok n → (∀ (r : Int) (m : Nat), n ≤ m → 0 ≤ r → r < m → (f r).ok m) → (P.bind f).ok n := by
  induction P with
  | ret v => intro n h hf; exact hf v n (Nat.le_refl _) h.1 h.2
  | put x k ih => intro n h hf i m hm h0 h1; exact ih i (h i m hm h0 h1) fun r q hq a b => hf r q (by omega) a b
  | is a s k ih => intro n h hf t; exact ih t (h t) hf
theorem slopeG_ok {at' w : Int} {x : Gn} {of : Int → Int} {n : Nat} (hat : 0 ≤ at' ∧ at' < n) (hof : ∀ i, 0 ≤ of i ∧ of i < n) (hpa : 3 ≤ x.k → 0 ≤ x.a ∧ x.a < n) (hpb : 4 ≤ x.k ∧ x.k ≤ 7 → 0 ≤ x.b ∧ x.b < n) : (slopeG at' x w of).ok n := by
  have up : ∀ {z : Int} {n m : Nat}, (0 ≤ z ∧ z < n) → n ≤ m → 0 ≤ z ∧ z < m := fun h hm => ⟨h.1, by have := h.2; omega⟩
  unfold slopeG
  split
  · split <;> exact ok_num _ _
  split
  · exact ok_neg (hof _)
  split
  · exact ok_sum (hof _) (hof _)
  split
  · exact ok_less (hof _) (hof _)
  split
  · have ha := hpa (by omega); have hb := hpb (by omega)
    exact Pg.ok_bind (ok_times (hof _) hb) fun l m hm l0 l1 => Pg.ok_bind (ok_times (up ha hm) (up (hof _) hm)) fun r q hq r0 r1 => ok_sum (up ⟨l0, l1⟩ hq) ⟨r0, r1⟩
  split
  · have ha := hpa (by omega); have hb := hpb (by omega)
    refine Pg.ok_bind (ok_times (hof _) hb) fun l m hm l0 l1 => Pg.ok_bind (ok_times (up ha hm) (up (hof _) hm)) fun r q hq r0 r1 => Pg.ok_bind (ok_less (up ⟨l0, l1⟩ hq) ⟨r0, r1⟩) fun u p hp u0 u1 => fun t => ?_
    cases t
    · exact Pg.ok_bind (ok_raised _ (up hb (by omega))) fun z o ho z0 z1 => ok_by (up ⟨u0, u1⟩ ho)
    · exact ⟨u0, u1⟩
  split
  · have ha := hpa (by omega)
    split
    · exact ok_num _ _
    split
    · exact hof _
    · intro t
      cases t
      · exact Pg.ok_bind (ok_num _ _) fun f m hm f0 f1 => Pg.ok_bind (ok_raised _ (up ha hm)) fun r q hq r0 r1 => Pg.ok_bind (ok_times (up ⟨f0, f1⟩ hq) ⟨r0, r1⟩) fun y p hp y0 y1 => ok_times ⟨y0, y1⟩ (up (hof _) (by omega))
      · exact hof _
  split
  · intro t
    cases t
    · exact Pg.ok_bind (ok_num _ _) fun c m hm c0 c1 => Pg.ok_bind (ok_times ⟨c0, c1⟩ (up hat hm)) fun y q hq y0 y1 => ok_by (up (hof _) (by omega))
    · exact hof _
  · exact ok_num _ _
end Pf
/- Slopes: a new layer; what nodes are like -/
namespace Pf
open Go Go.Proofs
theorem gn_lit (l : List Gn) (i : Nat) : AV.agg (gnR l i) = gnV (l.getD i g0) := rfl
theorem take_next {l : List Gn} {i : Nat} (h : i < l.length) : l.take (i + 1) = l.take i ++ [l.getD i g0] := by
  rw [List.take_add_one, List.getElem?_eq_getElem h, List.getD_eq_getElem?_getD, List.getElem?_eq_getElem h]; rfl
theorem nd_fresh {l : List Gn} (h : ndG l) {i : Nat} (hi : i < l.length) : l.getD i g0 ∉ l.take i := fun hm => by
  obtain ⟨j, hj, e⟩ := mem_getD g0 hm
  rw [List.length_take] at hj
  have e2 : (l.take i).getD j g0 = l.getD j g0 := by rw [List.getD_eq_getElem?_getD, List.getElem?_take_of_lt (by omega), ← List.getD_eq_getElem?_getD]
  rw [e2] at e
  exact h j i (by omega) hi e
/-- A new layer with the nodes of a graph. -/
def LayN (N : List Gn) (F : Bool) (g : Nat) : AHeap := [.mp false shG (mpi N), .lst 0 [[.sl 2 g 0 N.length, .mp 0, .bool F]], .tab g N.length (gnR N)]
theorem layerOf_ok (l : List Gn) (hl : l.length ≤ 120) (hd : ndG l) : AFun Tryz.prog 37 [.fz l.length (gnR l)] [] (fun u H => ∃ g, u = .ptr 1 0 0 0 ∧ H = LayN l false g) := by
  refine afun_of Tryz.func37 Tryz.call37 rfl Tryz.ntmps37 rfl ?_
  have W : Walk Tryz.prog TT 37 _ := Walk.of TT_ok Tryz.func37 Tryz.results37
  refine atl W rfl ?_
  refine go_nilC 1 0 0 ((.tab 0 0 (gnR []))) rfl rfl rfl rfl rfl rfl rfl rfl rfl ?_
  refine lp W 0 (σ := Nat × Nat) (fun s => [(3, .ptr 1 0 0 0), (9, .fz l.length (gnR l)), (10, .int .i64 l.length), (11, .int .i64 s.1)]) (fun s => [.mp false shG (mpi (l.take s.1)), .lst 0 [[.sl 2 s.2 0 (l.take s.1).length, .mp 0, .bool false]], .tab s.2 (l.take s.1).length (gnR (l.take s.1))]) (fun s => l.length - s.1) (fun s => s.1 ≤ l.length) (0, 0) [3, 9, 10, 11] rfl rfl rfl (Nat.zero_le _) ?_
  rintro ⟨i, g⟩ hi ih
  dsimp only at hi ih ⊢
  refine sp W 0 rfl rfl rfl (fun z1 => ?_) (fun z1 => ?_)
  · have hi2 : i < l.length := by omega
    have lt : (l.take i).length = i := by rw [List.length_take]; omega
    have c := lay_ok (l.getD i g0) (l.take i) false g (by omega)
    have e : runI (.put (l.getD i g0) .ret) (l.take i) false = ((((l.take i).length : Nat) : Int), l.take i ++ [l.getD i g0], false) := by
      simp only [runI]; rw [if_neg (nd_fresh hd hi2), if_neg (by omega)]
    rw [e, ← take_next hi2] at c
    unfold LayS at c
    refine go_callS W 0 300 [1, 2, 0] rfl (by first | exact True.intro | (simp only [AllC, AllP, addN, Int.toNat_natCast, true_and, and_true, Option.getD, List.length_set, wrapU, pw1, pw7, pw8, pw16, pw23, pw32, pw52, Holds] <;> first | omega | ((repeat' apply And.intro) <;> first | omega | (intros; rfl))) | (simp [AllC, AllP, addN, cloL, clo, mrgL, mrg, wrapU, Holds] <;> omega)) c rfl rfl ⟨rfl, fun _ _ => rfl, trivial, trivial⟩ ⟨rfl, rfl, rfl, trivial⟩ rfl ?_
    rintro _ _ ⟨g1, rfl, rfl⟩
    refine ⟨_, _, rfl, rfl, ?_⟩
    refine bd W 0 3 [3, 9, 10, 11] rfl rfl rfl rfl rfl (ih (i + 1, g1) (by dsimp only; omega) (by dsimp only; omega))
  · have hil : i = l.length := by omega
    subst hil
    rw [List.take_length]
    refine rg W 0 rfl (⟨g, rfl, rfl⟩)
theorem parts_kind {k n : Int} {s : List UInt8} (h : 0 ≤ partsZ k n s) (h2 : k ≠ 2) (h13 : k ≠ 13) : (k = 1 ∧ partsZ k n s = 0 ∧ n = 0) ∨ ((k = 3 ∨ k = 9 ∨ k = 10) ∧ partsZ k n s = 1 ∧ n = 0) ∨ ((k = 4 ∨ k = 5 ∨ k = 6 ∨ k = 7 ∨ k = 11 ∨ k = 12) ∧ partsZ k n s = 2 ∧ n = 0) ∨ (k = 8 ∧ partsZ k n s = 1 ∧ 0 ≤ n ∧ n ≤ 8) := by
  by_cases h1 : k = 1
  · subst h1
    left
    unfold partsZ at h ⊢
    rw [if_pos rfl] at h ⊢
    split at h
    · rename_i q; rw [if_pos q]; exact ⟨rfl, rfl, q.1⟩
    · omega
  by_cases h3 : k = 3 ∨ k = 9 ∨ k = 10
  · right; left
    unfold partsZ at h ⊢
    rw [if_neg h1, if_neg h2, if_pos h3] at h ⊢
    split at h
    · rename_i q; rw [if_pos q]; exact ⟨h3, rfl, q.1⟩
    · omega
  by_cases h4 : k = 4 ∨ k = 5 ∨ k = 6 ∨ k = 7 ∨ k = 11 ∨ k = 12
  · right; right; left
    unfold partsZ at h ⊢
    rw [if_neg h1, if_neg h2, if_neg h3, if_pos h4] at h ⊢
    split at h
    · rename_i q; rw [if_pos q]; exact ⟨h4, rfl, q.1⟩
    · omega
  by_cases h8 : k = 8
  · right; right; right
    unfold partsZ at h ⊢
    rw [if_neg h1, if_neg h2, if_neg h3, if_neg h4, if_pos h8] at h ⊢
    split at h
    · rename_i q; rw [if_pos q]; exact ⟨h8, rfl, q.1, q.2.1⟩
    · omega
  · unfold partsZ at h
    rw [if_neg h1, if_neg h2, if_neg h3, if_neg h4, if_neg h8, if_neg h13] at h
    omega
/-- What a node that is made of smooth ones is like. -/
theorem slope_facts {v : Int} {l : List Gn} {i : Nat} (hv6 : v ≤ 6) (hn : nodeP v l i) (hs : ¬((l.getD i g0).k = 10 ∨ (l.getD i g0).k = 11 ∨ (l.getD i g0).k = 12)) :
    (1 ≤ (l.getD i g0).k ∧ (l.getD i g0).k ≤ 9) ∧ (0 ≤ (l.getD i g0).n ∧ (l.getD i g0).n ≤ 8) ∧ ((l.getD i g0).k = 2 → (l.getD i g0).n = i) ∧ (3 ≤ (l.getD i g0).k → 0 ≤ (l.getD i g0).a ∧ (l.getD i g0).a < i) ∧ (4 ≤ (l.getD i g0).k ∧ (l.getD i g0).k ≤ 7 → 0 ≤ (l.getD i g0).b ∧ (l.getD i g0).b < i) := by
  by_cases hv : (i : Int) < v
  · rw [hn.1 hv]
    exact ⟨⟨by simp, by simp⟩, ⟨by simp, by dsimp only; omega⟩, fun _ => rfl, fun h => by simp at h, fun h => by simp at h⟩
  · obtain ⟨⟨⟨hk, hp⟩, hpl⟩, -⟩ := hn.2 hv
    generalize l.getD i g0 = x at *
    have h0 : 0 ≤ partsZ x.k x.n x.t := by
      rcases hp with ⟨h, -⟩ | ⟨h, -⟩ | h <;> (unfold pzG at h; omega)
    unfold plG pzG at hpl
    rw [if_neg hk] at hpl
    rcases parts_kind h0 (fun e => hk (.inl e)) (fun e => hk (.inr e)) with ⟨h1, h2, h3⟩ | ⟨h1, h2, h3⟩ | ⟨h1, h2, h3⟩ | ⟨h1, h2, h3, h4⟩
    · exact ⟨by omega, by omega, fun e => by omega, fun e => by omega, fun e => by omega⟩
    · rw [if_pos h2] at hpl
      have := hpl x.a (by simp)
      exact ⟨by omega, by omega, fun e => by omega, fun e => by omega, fun e => by omega⟩
    · rw [if_neg (by omega), if_pos h2] at hpl
      have := hpl x.a (by simp)
      have := hpl x.b (by simp)
      exact ⟨by omega, by omega, fun e => by omega, fun e => by omega, fun e => by omega⟩
    · rw [if_pos h2] at hpl
      have := hpl x.a (by simp)
      exact ⟨by omega, by omega, fun e => by omega, fun e => by omega, fun e => by omega⟩
/-- The slopes are places. -/
theorem slS_in {v : Int} {l : List Gn} {w : Int} {a : Nat} (hv6 : v ≤ 6) (hp : 0 < l.length) (ha : a < l.length) (hn : ∀ i, i < l.length → nodeP v l i) (hs : smoothP v l a) : ∀ i, i ≤ l.length → ∀ j, 0 ≤ (slS (reachG v l a) l w i).2 j ∧ (slS (reachG v l a) l w i).2 j < (slS (reachG v l a) l w i).1.length
  | 0, _, j => by simp only [slS]; omega
  | i + 1, hi, j => by
    have ih := slS_in (w := w) hv6 hp ha hn hs i (by omega)
    have hle := slS_len (R := reachG v l a) (l := l) (w := w) i
    simp only [slS]
    split
    · rename_i hr
      obtain ⟨f1, f2, f3, f4, f5⟩ := slope_facts hv6 (hn i (by omega)) (hs i hr)
      have ho : (slopeG i (l.getD i g0) w (ofF (slS (reachG v l a) l w i).2)).ok (slS (reachG v l a) l w i).1.length :=
        slopeG_ok ⟨by omega, by omega⟩ (fun z => ih _) (fun h => by have := f4 h; omega) (fun h => by have := f5 h; omega)
      have hr2 := runS_ok ho (Nat.le_refl _)
      have hl2 := runS_len (slopeG i (l.getD i g0) w (ofF (slS (reachG v l a) l w i).2)) (slS (reachG v l a) l w i).1
      dsimp only
      split
      · exact hr2
      · have := ih j; omega
    · exact ih j
end Pf
/- Slopes: a node's slope, impl -/
namespace Pf
open Go Go.Proofs
theorem sCloneN_ok (N : List Gn) (g : Nat) (hN : N.length ≤ 1000000) (h0 : 0 < N.length) : AFun Tryz.prog 60 [.sl 0 g 0 N.length] [.tab g N.length (gnR N)] (fun u H => u = .sl 1 0 0 N.length ∧ H = [.tab g N.length (gnR N), .tab 0 N.length (gnR N)]) := by
  refine afun_of Tryz.func60 Tryz.call60 rfl Tryz.ntmps60 rfl ?_
  have W : Walk Tryz.prog TT 60 _ := Walk.of TT_ok Tryz.func60 Tryz.results60
  refine sp W 0 rfl rfl rfl (fun z1 => ?_) (fun z1 => ?_)
  · exfalso; omega
  · refine rg W 0 rfl (⟨rfl, rfl⟩)
theorem sCloneR_ok (R : List Gr) (hN : R.length ≤ 1000000) (h0 : 0 < R.length) : AFun Tryz.prog 62 [.fz R.length (grR R)] [] (fun u H => u = .sl 0 0 0 R.length ∧ H = [.tab 0 R.length (grR R)]) := by
  refine afun_of Tryz.func62 Tryz.call62 rfl Tryz.ntmps62 rfl ?_
  have W : Walk Tryz.prog TT 62 _ := Walk.of TT_ok Tryz.func62 Tryz.results62
  refine sp W 0 rfl rfl rfl (fun z1 => ?_) (fun z1 => ?_)
  · exfalso; omega
  · refine rg W 0 rfl (⟨rfl, rfl⟩)
theorem sClipN_ok (n g : Nat) (row : Nat → List AV) (hN : n ≤ 1000000) : AFun Tryz.prog 59 [.sl 0 g 0 n] [.tab g n row] (fun u H => u = .sl 0 g 0 n ∧ H = [.tab g n row]) := by
  refine afun_of Tryz.func59 Tryz.call59 rfl Tryz.ntmps59 rfl ?_
  have W : Walk Tryz.prog TT 59 _ := Walk.of TT_ok Tryz.func59 Tryz.results59
  refine rg W 0 rfl (⟨rfl, rfl⟩)
theorem sClipR_ok (n g : Nat) (row : Nat → List AV) (hN : n ≤ 1000000) : AFun Tryz.prog 61 [.sl 0 g 0 n] [.tab g n row] (fun u H => u = .sl 0 g 0 n ∧ H = [.tab g n row]) := by
  refine afun_of Tryz.func61 Tryz.call61 rfl Tryz.ntmps61 rfl ?_
  have W : Walk Tryz.prog TT 61 _ := Walk.of TT_ok Tryz.func61 Tryz.results61
  refine rg W 0 rfl (⟨rfl, rfl⟩)
theorem cloneN_ok (N : List Gn) (g : Nat) (hN : N.length ≤ 1000000) (h0 : 0 < N.length) : AFun Tryz.prog 39 [.sl 0 g 0 N.length] [.tab g N.length (gnR N)] (fun u H => u = .sl 1 0 0 N.length ∧ H = [.tab g N.length (gnR N), .tab 0 N.length (gnR N)]) := by
  refine afun_of Tryz.func39 Tryz.call39 rfl Tryz.ntmps39 rfl ?_
  have W : Walk Tryz.prog TT 39 _ := Walk.of TT_ok Tryz.func39 Tryz.results39
  refine go_call W 0 300 rfl (by first | exact True.intro | (simp only [AllC, AllP, addN, Int.toNat_natCast, true_and, and_true, Option.getD, List.length_set, wrapU, pw1, pw7, pw8, pw16, pw23, pw32, pw52, Holds] <;> first | omega | ((repeat' apply And.intro) <;> first | omega | (intros; rfl))) | (simp [AllC, AllP, addN, cloL, clo, mrgL, mrg, wrapU, Holds] <;> omega)) (sCloneN_ok N g hN h0) ?_
  rintro _ _ ⟨rfl, rfl⟩
  refine ⟨_, rfl, ?_⟩
  refine go_callS W 0 300 [1] rfl (by first | exact True.intro | (simp only [AllC, AllP, addN, Int.toNat_natCast, true_and, and_true, Option.getD, List.length_set, wrapU, pw1, pw7, pw8, pw16, pw23, pw32, pw52, Holds] <;> first | omega | ((repeat' apply And.intro) <;> first | omega | (intros; rfl))) | (simp [AllC, AllP, addN, cloL, clo, mrgL, mrg, wrapU, Holds] <;> omega)) (sClipN_ok N.length 0 (gnR N) hN) rfl rfl ⟨fun _ _ => rfl, trivial⟩ ⟨rfl, trivial⟩ rfl ?_
  rintro _ _ ⟨rfl, rfl⟩
  refine ⟨_, _, rfl, rfl, ?_⟩
  refine rg W 0 rfl (⟨rfl, rfl⟩)
theorem cloneR_ok (R : List Gr) (hN : R.length ≤ 1000000) (h0 : 0 < R.length) : AFun Tryz.prog 40 [.fz R.length (grR R)] [] (fun u H => u = .sl 0 0 0 R.length ∧ H = [.tab 0 R.length (grR R)]) := by
  refine afun_of Tryz.func40 Tryz.call40 rfl Tryz.ntmps40 rfl ?_
  have W : Walk Tryz.prog TT 40 _ := Walk.of TT_ok Tryz.func40 Tryz.results40
  refine go_call W 0 300 rfl (by first | exact True.intro | (simp only [AllC, AllP, addN, Int.toNat_natCast, true_and, and_true, Option.getD, List.length_set, wrapU, pw1, pw7, pw8, pw16, pw23, pw32, pw52, Holds] <;> first | omega | ((repeat' apply And.intro) <;> first | omega | (intros; rfl))) | (simp [AllC, AllP, addN, cloL, clo, mrgL, mrg, wrapU, Holds] <;> omega)) (sCloneR_ok R hN h0) ?_
  rintro _ _ ⟨rfl, rfl⟩
  refine ⟨_, rfl, ?_⟩
  refine go_callS W 0 300 [0] rfl (by first | exact True.intro | (simp only [AllC, AllP, addN, Int.toNat_natCast, true_and, and_true, Option.getD, List.length_set, wrapU, pw1, pw7, pw8, pw16, pw23, pw32, pw52, Holds] <;> first | omega | ((repeat' apply And.intro) <;> first | omega | (intros; rfl))) | (simp [AllC, AllP, addN, cloL, clo, mrgL, mrg, wrapU, Holds] <;> omega)) (sClipR_ok R.length 0 (grR R) hN) rfl rfl ⟨fun _ _ => rfl, trivial⟩ ⟨rfl, trivial⟩ rfl ?_
  rintro _ _ ⟨rfl, rfl⟩
  refine ⟨_, _, rfl, rfl, ?_⟩
  refine rg W 0 rfl (⟨rfl, rfl⟩)
/-- What the slope of a node is, its graph in new memory. -/
def SoQ (v : Int) (rs : List Gr) (N : List Gn) (k : Int) (u : AV) (H : AHeap) : Prop :=
  (N.length ≤ 120 → u = .tup [.agg [.int .i64 v, .sl 7 0 0 N.length, .sl 8 0 0 rs.length], .int .i64 k, .bool true] ∧ H = [.dead, .lst 0 [[.int .i64 v, .sl 7 0 0 N.length, .sl 8 0 0 rs.length]], .dead, .dead, .dead, .dead, .dead, .tab 0 N.length (gnR N), .tab 0 rs.length (grR rs)]) ∧
  (120 < N.length → ∃ g1 N1 K1, u = .tup [.agg [.int .i64 0, .nils, .nils], .int .i64 0, .bool false] ∧ H = [.dead, .lst 0 [[.int .i64 0, .nils, .nils]], .dead, .lst 0 [[.sl 4 g1 0 N1.length, .mp 2, .bool true]], .tab g1 N1.length (gnR N1), .ints 0 .i64 K1, .dead])
theorem slopeOf_ok (v w : Int) (l : List Gn) (rs : List Gr) (a : Nat) (ha : a < l.length) (hl : l.length ≤ 120) (hr : 0 < rs.length ∧ rs.length ≤ 1000000) (hx : gtxtOk l) (hv : 1 ≤ v ∧ v ≤ 6) (hn : ∀ i, i < l.length → nodeP v l i) (hs : smoothP v l a) : AFun Tryz.prog 26 [graphV v l rs, .int .i64 a, .int .i64 w] [] (SoQ v rs (slS (reachG v l a) l w l.length).1 ((slS (reachG v l a) l w l.length).2 a)) := by
  have hd := graph_nd hn
  refine afun_of Tryz.func26 Tryz.call26 rfl Tryz.ntmps26 rfl ?_
  have W : Walk Tryz.prog TT 26 _ := Walk.of TT_ok Tryz.func26 Tryz.results26
  refine go_callS W 0 300 [] rfl (by first | exact True.intro | (simp only [AllC, AllP, addN, Int.toNat_natCast, true_and, and_true, Option.getD, List.length_set, wrapU, pw1, pw7, pw8, pw16, pw23, pw32, pw52, Holds] <;> first | omega | ((repeat' apply And.intro) <;> first | omega | (intros; rfl))) | (simp [AllC, AllP, addN, cloL, clo, mrgL, mrg, wrapU, Holds] <;> omega)) (layerOf_ok l hl hd) rfl rfl trivial trivial rfl ?_
  rintro _ _ ⟨g, rfl, rfl⟩
  refine ⟨_, _, rfl, rfl, ?_⟩
  refine cf W 0 [6] [1, 2, 3, 6, 9, 10] rfl rfl rfl rfl rfl rfl (madeOf_ok v l rs a ha (by omega) hx hv.1 hn) rfl ?_
  refine lp W 0 (σ := Nat × List Gn × Bool × Nat × List Int) (fun s => [(1, .int .i64 a), (2, .int .i64 w), (3, .ptr 0 0 0 0), (6, .ptr 1 0 0 0), (9, .ptr 3 0 0 0), (10, .sl 5 0 0 l.length), (23, .fz l.length fun j => [.pr (reachG v l a j)]), (24, .int .i64 l.length), (25, .int .i64 s.1)])
    (fun s => [.lst 0 [[.int .i64 v, .fz l.length (gnR l), .fz rs.length (grR rs)]], .lst 0 [[.int .i64 0, .nils, .nils]], .mp false shG (mpi s.2.1), .lst 0 [[.sl 4 s.2.2.2.1 0 s.2.1.length, .mp 2, .bool s.2.2.1]], .tab s.2.2.2.1 s.2.1.length (gnR s.2.1), .ints 0 .i64 s.2.2.2.2, .dead])
    (fun s => l.length - s.1) (fun s => s.1 ≤ l.length ∧ (s.2.1 = (slI (reachG v l a) l w s.1).1 ∧ s.2.2.1 = (slI (reachG v l a) l w s.1).2.1) ∧ s.2.2.2.2.length = l.length ∧ ∀ j, s.2.2.2.2.getD j 0 = (slI (reachG v l a) l w s.1).2.2 j) (0, l, false, g, List.replicate (l.length : Int).toNat 0) [1, 2, 3, 6, 9, 10, 23, 24, 25] rfl rfl rfl ⟨Nat.zero_le _, ⟨rfl, rfl⟩, by simp, fun j => by simp [slI, List.getD_eq_getElem?_getD, List.getElem?_replicate]; split <;> rfl⟩ ?_
  rintro ⟨i, N, F, g1, K⟩ ⟨hi, ⟨hNe, hFe⟩, hKl, hK⟩ ih
  dsimp only at hi hNe hFe hKl hK ih ⊢
  refine sp W 0 rfl rfl rfl (fun z1 => ?_) (fun z1 => ?_)
  · have hi2 : i < l.length := by omega
    have iN : ((i : Nat) : Int).toNat = i := Int.toNat_natCast i
    refine sp W 0 rfl rfl rfl (fun z2 => ?_) (fun z2 => ?_)
    · rw [iN] at z2
      rcases F with _ | _
      · have hlen : (slS (reachG v l a) l w i).1.length ≤ 120 := by
          rcases Nat.lt_or_ge 120 (slS (reachG v l a) l w i).1.length with hb | hb
          · have := (sl_lock (R := reachG v l a) (w := w) hl i).2 hb
            rw [← hFe] at this; cases this
          · exact hb
        have hE := (sl_lock (R := reachG v l a) (w := w) hl i).1 hlen
        have hin := slS_in (w := w) hv.2 (by omega) ha hn hs i hi
        have hK0 : ∀ j, 0 ≤ K.getD j 0 := fun j => by rw [hK, hE]; exact (hin j).1
        obtain ⟨f1, f2, f3, f4, f5⟩ := slope_facts hv.2 (hn i hi2) (hs i z2)
        have hN : N.length ≤ 120 := by rw [hNe]; exact slI_len hl i
        have c := slope_ok (i : Nat) w (l.getD i g0) K N false g1 0 hN (by omega) hK0 (by omega) (fun h => by have := f4 h.1; omega) (fun h => by have := f5 h; omega)
        obtain ⟨⟨r, N', F'⟩, e⟩ : ∃ q, runI (slopeG (i : Nat) (l.getD i g0) w (ofK K)) N false = q := ⟨_, rfl⟩
        rw [e, hKl] at c
        have hof : ofF (slI (reachG v l a) l w i).2.2 = ofK K := funext fun z => by unfold ofF ofK; rw [hK]
        have es : slI (reachG v l a) l w (i + 1) = (N', F', fun j => if j = i then r else (slI (reachG v l a) l w i).2.2 j) := by
          rw [slI, if_pos ⟨z2, hFe.symm⟩, hof, ← hNe, e]
        refine go_callS W 0 300 [3, 4, 2, 5] rfl (by first | exact True.intro | (simp only [AllC, AllP, addN, Int.toNat_natCast, true_and, and_true, Option.getD, List.length_set, wrapU, pw1, pw7, pw8, pw16, pw23, pw32, pw52, Holds] <;> first | omega | ((repeat' apply And.intro) <;> first | omega | (intros; rfl))) | (simp [AllC, AllP, addN, cloL, clo, mrgL, mrg, wrapU, Holds] <;> omega)) c rfl rfl ⟨rfl, fun _ _ => rfl, trivial, trivial, trivial⟩ ⟨rfl, rfl, rfl, rfl, trivial⟩ rfl ?_
        rintro _ _ ⟨g2, rfl, rfl⟩
        refine ⟨_, _, rfl, rfl, ?_⟩
        have nx := ih (i + 1, N', F', g2, K.set (addN 0 ((i : Nat) : Int).toNat) r) ⟨by dsimp only; omega, by rw [es]; exact ⟨rfl, rfl⟩, by simpa using hKl, fun j => ?_⟩ (by dsimp only; omega)
        · dsimp only at nx
          refine bd W 0 7 [1, 2, 3, 6, 9, 10, 23, 24, 25] rfl rfl rfl rfl rfl nx (hc := by simp only [AllC, addNz, iN, true_and, and_true]; omega)
        · rw [es]
          dsimp only
          rw [addNz, iN]
          by_cases hji : j = i
          · subst hji; rw [if_pos rfl, List.getD_eq_getElem?_getD, List.getElem?_set_self (by omega)]; rfl
          · rw [if_neg hji, ← hK, List.getD_eq_getElem?_getD, List.getElem?_set_ne (fun k => hji k.symm), ← List.getD_eq_getElem?_getD]
      · have es : slI (reachG v l a) l w (i + 1) = slI (reachG v l a) l w i := by rw [slI, if_neg (fun k => by rw [← hFe] at k; cases k.2)]
        refine bd W 0 7 [1, 2, 3, 6, 9, 10, 23, 24, 25] rfl rfl rfl rfl rfl (ih (i + 1, N, true, g1, K) ⟨by dsimp only; omega, by rw [es]; exact ⟨hNe, hFe⟩, hKl, by rw [es]; exact hK⟩ (by dsimp only; omega))
    · rw [iN] at z2
      have es : slI (reachG v l a) l w (i + 1) = slI (reachG v l a) l w i := by rw [slI, if_neg (fun k => z2 k.1)]
      refine bd W 0 7 [1, 2, 3, 6, 9, 10, 23, 24, 25] rfl rfl rfl rfl rfl (ih (i + 1, N, F, g1, K) ⟨by dsimp only; omega, by rw [es]; exact ⟨hNe, hFe⟩, hKl, by rw [es]; exact hK⟩ (by dsimp only; omega))
  · have hil : i = l.length := by omega
    subst hil
    have hl0 := slS_len (R := reachG v l a) (l := l) (w := w) l.length
    obtain ⟨L1, L2⟩ := sl_lock (R := reachG v l a) (w := w) hl l.length
    rcases F with _ | _
    · have hlen : (slS (reachG v l a) l w l.length).1.length ≤ 120 := by
        rcases Nat.lt_or_ge 120 (slS (reachG v l a) l w l.length).1.length with hb | hb
        · have := L2 hb
          rw [← hFe] at this; cases this
        · exact hb
      have hE := L1 hlen
      have hNs : N = (slS (reachG v l a) l w l.length).1 := by rw [hNe, hE]
      have hks : K.getD (addN 0 ((a : Nat) : Int).toNat) 0 = (slS (reachG v l a) l w l.length).2 a := by rw [addNz, Int.toNat_natCast, hK, hE]
      rw [← hNs, ← hks]
      have hN0 : 0 < N.length := by rw [hNs]; omega
      have hN1 : N.length ≤ 120 := by rw [hNs]; exact hlen
      refine phg W 0 16 [6, 9, 15] rfl rfl (fun PW => ?_)
      refine phl PW 0 [6] [] [] rfl rfl trivial ⟨?_, trivial⟩ (hp := by simp only [AllP, Holds, Option.getD, addNz, Int.toNat_natCast, true_and, and_true]; omega)
      refine nx_call PW rfl (AFun.sub (ρ := [4]) (cloneN_ok N g1 (by omega) hN0) rfl ⟨fun _ _ => rfl, trivial⟩ ⟨rfl, trivial⟩ (by decide)) ?_
      rintro _ _ ⟨_, _, ⟨rfl, rfl⟩, rfl, hq1⟩
      obtain rfl := Option.some.inj (show some _ = some _ from hq1)
      refine ⟨_, rfl, ?_⟩
      refine phl PW 0 [9] [] [] rfl rfl trivial ⟨?_, trivial⟩ (hp := by simp only [AllP, Holds, Option.getD, addNz, Int.toNat_natCast, true_and, and_true]; omega)
      refine nx_call PW rfl (AFun.sub (ρ := []) (cloneR_ok rs hr.2 hr.1) rfl trivial trivial (by decide)) ?_
      rintro _ _ ⟨_, _, ⟨rfl, rfl⟩, rfl, hq2⟩
      obtain rfl := Option.some.inj (show some _ = some _ from hq2)
      refine ⟨_, rfl, ?_⟩
      refine pho PW 0 15 [] [] rfl rfl trivial rfl rfl ?_
      refine phe PW 0 [] [] rfl trivial rfl ?_
      refine go_dead 0 rfl ?_
      refine go_dead 2 rfl ?_
      refine go_dead 3 rfl ?_
      refine go_dead 4 rfl ?_
      refine go_dead 5 rfl ?_
      refine rg W 0 rfl (⟨fun _ => ⟨rfl, rfl⟩, fun h => by omega⟩)
    · have hlen : 120 < (slS (reachG v l a) l w l.length).1.length := by
        rcases Nat.lt_or_ge 120 (slS (reachG v l a) l w l.length).1.length with hb | hb
        · exact hb
        · have := L1 hb
          rw [this] at hFe; cases hFe
      refine go_dead 0 rfl ?_
      refine go_dead 2 rfl ?_
      refine rg W 0 rfl (⟨fun h => by omega, fun _ => ⟨g1, N, K, rfl, rfl⟩⟩)
end Pf
