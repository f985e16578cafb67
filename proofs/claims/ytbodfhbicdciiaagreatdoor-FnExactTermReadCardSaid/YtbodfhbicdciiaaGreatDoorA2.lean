/- Part 2 of the lemmas that the claim rests on: an abstract machine over the model, what it is sound for, and the contracts of the functions that the law reaches. -/
import Derived.Test.YtbodfhbicdciiaaGreatDoorA1
import Derived.Below
import Derived.RowKit
import Derived.ChangeSlices
import Derived.ChangeShapes
import Derived.Deep.Slices
import Derived.Test.YtbodfhbicdciiaaGreatDoorProg
import Derived.KernelRfl
import Derived.Shelf.LaysC
import Derived.Shelf.Strconv.AtoiAll
import Derived.Shelf.Strings.Search1
import Derived.Shelf.Strconv.Itoa3
import Derived.Calls
set_option linter.unusedSimpArgs false
set_option linter.unusedVariables false
set_option maxRecDepth 100000
set_option maxHeartbeats 4000000
/- From what is shown of a law to the form that the row asks; arguments read as abstract values. -/
namespace Pf
open Go Go.RowKit
variable {P : Program} {f : Nat}

/-- All that lies in a world, as cells that nobody writes. -/
def worldFM (w : World) : FMem := fun cb o => w.cell? ⟨cb, o, none⟩
theorem worldFM_rel (w : World) (hg : GK (worldFM w) w) : RelH (worldFM w) noB [] w :=
  ⟨fun b blk g n row h => by simp at h, fun b b' blk blk' g g' n n' row row' L L' h => by simp at h, fun b blk g n row L h => by simp at h, fun cb o v hx => hx, (fun b g lo h => by cases h), hg, .nil⟩

/-- A law that is so returns true, and touches nothing. -/
theorem AFunP.calls {args : List AV} (h : AFunP P f args (· = .pr True)) {cargs : Array Value} {w : World} (hv : VRs (worldFM w) noB args cargs.toList) (hg : GK (worldFM w) w) :
    Calls P f cargs w fun e w' => e = .returned (.bool true) ∧ Below w.heap.size w w' := by
  intro cs
  obtain ⟨v, w', fr, av, FM1, β1, H1, ⟨ps, u0, u, e1, e2, es, e3, rfl⟩, h1, h2, h3, h4, h5, h6⟩ := h.2 _ noB cs w cargs hv (worldFM_rel w hg)
  have hF := frzFM_frozen (sel := fun _ => true) h2
  have hv := es _ _ _ (frz_ok h2 hF 9 e1 e2 h1)
  have e : v = .bool true := by
    cases hv with
    | pr hp => rename_i b; cases b with | true => rfl | false => exact absurd (hp.2 trivial) (by simp)
  subst e
  exact ⟨.returned (.bool true), w', fr, ⟨rfl, h3.os, h3.tape, h3.output, h3.size, fun k hk => h3.frame k hk (noImg k)⟩, h4, h5, h6⟩

/-! ### Arguments read -/
/-- Cells that read as data of the type are so. -/
def Opens (P : Program) (t : TypeId) (Q : List AV → Prop) : Prop :=
  ∀ {H : Type} (enc : TypeId × Value → H) (w : World) (base : Nat) (spare : Nat → Bool) (held : Bool) (fuel : Nat) (cs : List Value) (x : DataW H × List MemPlace),
    DataW.trod enc P w base spare held fuel t cs = some x → ∃ asx, Q asx ∧ VRs (worldFM w) noB asx cs
def InK (k : IntKind) (n : Int) : Prop := k.min ≤ n ∧ n ≤ k.max

theorem VRs.single {FM : FMem} {β : BMap} {a : AV} {v : Value} (h : VR FM β a v) : VRs FM β [a] [v] := VRs.push h ⟨rfl, fun i hi => by simp at hi⟩

theorem opens_string {t : TypeId} (ht : P.underlying t = some .string) : Opens P t fun asx => ∃ s, asx = [.str s] ∧ s.length ≤ 9223372036854775807 := by
  intro H enc w base spare held fuel cs x h
  obtain ⟨s, rfl, _, hl⟩ := DataW.trod_string ht h
  refine ⟨_, ⟨s.data.toList, rfl, ?_⟩, .single (.str rfl)⟩
  have e : s.data.toList.length = s.size := Array.length_toList
  have : maxLen = 9223372036854775807 := by decide
  omega
theorem cell_spot {w : World} {a : Addr} {v : Value} (h : w.cell? a = some v) : a = ⟨a.block, a.off, none⟩ := by
  obtain ⟨b, o, s⟩ := a
  unfold World.cell? at h
  cases s with
  | none => rfl
  | some s =>
    split at h
    · simp at h
    · cases h
/-- Fields, one behind the other. -/
def OpensF (P : Program) : List (Nat × TypeId) → (List AV → Prop) → Prop
  | [], Q => Q []
  | (_, t) :: fs, Q => ∃ Q1 : List AV → Prop, Opens P t Q1 ∧ ∀ asx, Q1 asx → OpensF P fs fun bs => Q (asx ++ bs)
def tightF (P : Program) : Nat → List (Nat × TypeId) → Bool
  | _, [] => true
  | o, (off, t) :: fs => Nat.beq o off && tightF P (o + P.cellsOf t) fs
def lastF (P : Program) : Nat → List (Nat × TypeId) → Nat
  | o, [] => o
  | o, (_, t) :: fs => lastF P (o + P.cellsOf t) fs

/-- An argument of one cell. -/
theorem Opens.one {t : TypeId} {Q : List AV → Prop} (h : Opens P t Q) {H : Type} {enc : TypeId × Value → H} {w : World} {base : Nat} {spare : Nat → Bool} {held : Bool} {v : Value} {d : DataW H} {ps : List MemPlace}
    (hd : DataW.Trod enc P w base spare held t v d ps) (hn : ∀ xs, v ≠ .agg xs) : ∃ a, Q [a] ∧ VR (worldFM w) noB a v := by
  obtain ⟨fuel, hd⟩ := hd
  obtain ⟨asx, h1, h2⟩ := h enc w base spare held fuel _ _ hd
  have e : v.cells.toList = [v] := by
    cases v <;> first | rfl | exact absurd rfl (hn _)
  rw [e] at h2
  match asx, h2.1 with
  | [a], _ => exact ⟨a, h1, h2.2 0 (by simp)⟩
/-- A struct. -/
theorem Opens.agg {t : TypeId} {Q : List AV → Prop} (h : Opens P t Q) {H : Type} {enc : TypeId × Value → H} {w : World} {base : Nat} {spare : Nat → Bool} {held : Bool} {xs : Array Value} {d : DataW H} {ps : List MemPlace}
    (hd : DataW.Trod enc P w base spare held t (.agg xs) d ps) : ∃ asx, Q asx ∧ VR (worldFM w) noB (.agg asx) (.agg xs) := by
  obtain ⟨fuel, hd⟩ := hd
  obtain ⟨asx, h1, h2⟩ := h enc w base spare held fuel _ _ hd
  exact ⟨asx, h1, .agg (by simpa [Value.cells] using h2.1) fun i hi => by rw [← toList_getD]; exact h2.2 i hi⟩

end Pf
/- The last blocks dropped. -/
namespace Pf
open Go
variable {P : Program} {TT : TypeId → Option TI} {f N n0 : Nat} {k : List Item} {T : Env} {H : AHeap} {R : AV → AHeap → Prop}

mutual
/-- Are all places of a value in the first 'n' blocks? -/
def belo (n : Nat) : AV → Bool
  | .ptr b _ _ _ => Nat.blt b n
  | .sl b _ _ _ => Nat.blt b n
  | .mp b => Nat.blt b n
  | .fn _ fs cs => match beloL n fs with | true => beloL n cs | false => false
  | .iface _ v => belo n v
  | .agg cs => beloL n cs
  | .tup cs => beloL n cs
  | _ => true
def beloL (n : Nat) : List AV → Bool
  | [] => true
  | v :: vs => match belo n v with | true => beloL n vs | false => false
end
theorem beloL_get {n : Nat} : ∀ {vs : List AV} (h : beloL n vs = true) (i : Nat) (hi : i < vs.length), belo n vs[i] = true
  | v :: vs, h, i, hi => by
    simp only [beloL] at h
    cases hv : belo n v with
    | false => simp [hv] at h
    | true =>
      simp only [hv] at h
      cases i with
      | zero => exact hv
      | succ i => exact beloL_get h i (by simpa using hi)
theorem VR.belo {FM : FMem} {β β' : BMap} {n : Nat} (hb : ∀ b g, b < n → β' b g = β b g) {v : AV} {cv : Value} (h : VR FM β v cv) (hc : Pf.belo n v = true) : VR FM β' v cv := by
  induction h with
  | top => exact .top
  | bool => exact .bool
  | pr h => exact .pr h
  | anyb h1 h2 => exact .anyb h1 h2
  | int => exact .int
  | str h => exact .str h
  | nilp => exact .nilp
  | ptr h hs => exact .ptr (by rw [hb _ _ (by simpa [Pf.belo, Nat.blt_eq] using hc)]; exact h) hs
  | fptr cv hm hv ih => exact .fptr cv hm hv
  | nils => exact .nils
  | e0 => exact .e0
  | fi0 => exact .fi0
  | fi hl hm => exact .fi hl hm
  | fz0 => exact .fz0
  | fz cv hz hl2 hl hm ho hv ih => exact .fz cv hz hl2 hl hm ho hv
  | sl h hs hr hc' hp => exact .sl (by rw [hb _ _ (by simpa [Pf.belo, Nat.blt_eq] using hc)]; exact h) hs hr hc' hp
  | sl0 h hs => exact .sl0 (by rw [hb _ _ (by simpa [Pf.belo, Nat.blt_eq] using hc)]; exact h) hs
  | fn h1 h2 hv1 hv2 ih1 ih2 =>
    simp only [Pf.belo] at hc
    split at hc
    · rename_i hf
      exact .fn h1 h2 (fun i hi => ih1 i hi hb (beloL_get hf i hi)) (fun i hi => ih2 i hi hb (beloL_get hc i hi))
    · cases hc
  | nilf => exact .nilf
  | iface h ih => exact .iface (ih hb hc)
  | nili => exact .nili
  | mp h => exact .mp (by rw [hb _ _ (by simpa [Pf.belo, Nat.blt_eq] using hc)]; exact h)
  | agg h1 hv ih => exact .agg h1 (fun i hi => ih i hi hb (beloL_get hc i hi))
  | tup h1 hv ih => exact .tup h1 (fun i hi => ih i hi hb (beloL_get hc i hi))

def beloLL (n : Nat) : List (List AV) → Bool
  | [] => true
  | r :: rs => match beloL n r with | true => beloLL n rs | false => false
theorem beloLL_get {n : Nat} : ∀ {rs : List (List AV)}, beloLL n rs = true → ∀ i (h : i < rs.length), beloL n rs[i] = true
  | r :: rs, h, i, hi => by
    simp only [beloLL] at h
    split at h
    · rename_i hr
      cases i with
      | zero => exact hr
      | succ i => exact beloLL_get h i (by simpa using hi)
    · cases h
/-- A block that leads only to the first 'n'. -/
def beloB (n : Nat) : ABlk → Option Prop
  | .lst _ rows => match beloLL n rows with | true => some True | false => none
  | .tab _ m row => some (∀ i, i < m → beloL n (row i) = true)
  | _ => some True
/-- The first 'm' blocks. -/
def dropM (n : Nat) : Nat → AHeap → Option (List Prop × AHeap)
  | 0, _ => some ([], [])
  | _ + 1, [] => none
  | m + 1, b :: bs => match beloB n b with
    | some C => match dropM n m bs with | some (cs, bs') => some (C :: cs, b :: bs') | none => none
    | none => none
theorem dropM_ok {n : Nat} : ∀ {m : Nat} {H H' : AHeap} {cs : List Prop}, dropM n m H = some (cs, H') → AllC cs → H' = H.take m ∧ m ≤ H.length ∧ ∀ (b : Nat) blk, b < m → H[b]? = some blk → ∃ C, beloB n blk = some C ∧ C
  | 0, H, H', cs, h, _ => by
    simp only [dropM, Option.some.injEq, Prod.mk.injEq] at h
    obtain ⟨_, rfl⟩ := h
    exact ⟨rfl, Nat.zero_le _, fun b blk h => by omega⟩
  | m + 1, [], H', cs, h, _ => by cases h
  | m + 1, b :: bs, H', cs, h, hc => by
    simp only [dropM] at h
    split at h
    · rename_i C hb
      split at h
      · rename_i cs' bs' hd
        simp only [Option.some.injEq, Prod.mk.injEq] at h
        obtain ⟨rfl, rfl⟩ := h
        obtain ⟨h1, h2, h3⟩ := dropM_ok hd hc.1
        refine ⟨by rw [h1]; rfl, by simp; omega, fun i blk hi hblk => ?_⟩
        cases i with
        | zero =>
          simp only [List.getElem?_cons_zero, Option.some.injEq] at hblk
          subst hblk
          exact ⟨C, hb, hc.2⟩
        | succ i => exact h3 i blk (by omega) (by simpa using hblk)
      · cases h
    · cases h
theorem beloB_row {n : Nat} {blk : ABlk} {C : Prop} (h : beloB n blk = some C) (hc : C) {g m : Nat} {row : Nat → List AV} (hv : blk.view = some (g, m, row)) : ∀ r, r < m → beloL n (row r) = true := by
  intro r hr
  cases blk with
  | dead => cases hv
  | mp => cases hv
  | lst g' rows =>
    cases hv
    simp only [beloB] at h
    split at h
    · rename_i hb
      have := beloLL_get hb r hr
      simpa [List.getD_eq_getElem?_getD, hr] using this
    · cases h
  | ints g' k l => cases hv; rfl
  | tab g' m' row' =>
    cases hv
    simp only [beloB, Option.some.injEq] at h
    subst h
    exact hc r hr
def beloT (n : Nat) : Env → Bool
  | [] => true
  | (_, v) :: T => match belo n v with | true => beloT n T | false => false
theorem beloT_get {n : Nat} : ∀ {T : Env}, beloT n T = true → ∀ d v, getM T d = some v → belo n v = true
  | [], _, d, v, h => by simp only [getM, Option.some.injEq] at h; subst h; rfl
  | (e, u) :: T, h, d, v, hv => by
    simp only [beloT] at h
    split at h
    · rename_i hu
      simp only [getM] at hv
      split at hv
      · cases hv; exact hu
      · exact beloT_get h d v hv
    · cases h

/-- Only the first 'n' blocks go on, and only the slots 'ds'. -/
theorem go_drop (n : Nat) (ds : List Nat) {T1 : Env} {H1 : AHeap} {cs : List Prop} (e1 : keepM T ds = some T1) (e2 : beloT n T1 = true) (e3 : dropM n n H = some (cs, H1)) (hn : Nat.ble n0 n = true) (hc : AllC cs)
    (h : AGo P f N n0 k T1 H1 R) : AGo P f N n0 k T H R := by
  intro FM β b cs' a w a1 a2 a3 a4 hT hH hl
  obtain ⟨rfl, hle, hbl⟩ := dropM_ok e3 hc
  have hn : n0 ≤ n := by simpa using hn
  let β1 : BMap := fun b g => if b < n then β b g else none
  have hβ : ∀ b g, b < n → β1 b g = β b g := fun b g hb => by simp [β1, hb]
  have get : ∀ {i : Nat} {blk : ABlk}, (H.take n)[i]? = some blk → i < n ∧ H[i]? = some blk := by
    intro i blk hi
    rw [List.getElem?_take] at hi
    split at hi
    · rename_i h1; exact ⟨h1, hi⟩
    · cases hi
  have sub : ∀ {i g : Nat} {lo : Option Loc}, β1 i g = some lo → i < n ∧ β i g = some lo := by
    intro i g lo hi
    simp only [β1] at hi
    split at hi
    · rename_i h1; exact ⟨h1, hi⟩
    · cases hi
  have hR : RelH FM β1 (H.take n) w := by
    have hmp : MapsOk β1 (H.take n) w := ⟨fun b1 vb sh es h => by
        obtain ⟨hi, h1⟩ := get h
        obtain ⟨L, q1, q2⟩ := hH.mp.lies b1 vb sh es h1
        exact ⟨L, by rw [hβ _ _ hi]; exact q1, q2⟩, fun b1 b2 vb vb' sh sh' es es' L L' h1 h2 h3 h4 h5 => hH.mp.inj b1 b2 vb vb' sh sh' es es' L L' (get h1).2 (sub h2).2 (get h3).2 (sub h4).2 h5⟩
    refine ⟨?_, ?_, ?_, hH.fm, ?_, hH.gk, hmp⟩
    · intro i blk g m row h1 h2
      obtain ⟨hi, h1⟩ := get h1
      obtain ⟨lo, q1, q2⟩ := hH.mem i blk g m row h1 h2
      refine ⟨lo, by rw [hβ _ _ hi]; exact q1, ?_⟩
      cases lo with
      | none => exact q2
      | some L =>
        have q2 : MemOk FM β w L m row := q2
        obtain ⟨c, ee, fr, c1, c2, c3, c4, c5⟩ := q2.cells
        refine ⟨q2.sz, q2.sh, q2.fit, ⟨c, ee, fr, c1, c2, c3, c4, fun r hr1 hr2 => ?_⟩, q2.free⟩
        obtain ⟨k3, k4⟩ := c5 r hr1 hr2
        obtain ⟨C, b1, b2⟩ := hbl i blk hi h1
        have hrow := beloB_row b1 b2 h2 r hr2
        refine ⟨k3, fun j hj => ?_⟩
        obtain ⟨cv, k5, k6⟩ := k4 j hj
        exact ⟨cv, k5, k6.belo (n := n) (fun b g hb => hβ b g hb) (beloL_get hrow j hj)⟩
    · intro b1 b2 k1 k2 g1 g2 n1 n2 row1 row2 L1 L2 h1 h2 h3 h4 h5 h6 h7
      exact hH.inj b1 b2 k1 k2 g1 g2 n1 n2 row1 row2 L1 L2 (get h1).2 h2 (sub h3).2 (get h4).2 h5 (sub h6).2 h7
    · intro i blk g m row L h1 h2 h3
      exact hH.wid i blk g m row L (get h1).2 h2 (sub h3).2
    · intro i g lo hi
      obtain ⟨q1, q2⟩ := sub hi
      refine ⟨by rw [List.length_take]; omega, fun blk g' m row h1 h2 => (hH.dom i g lo q2).2 blk g' m row (get h1).2 h2⟩
  have hT1 : RelT FM β1 T1 a := fun d v hv => ((hT.keep e1) d v hv).belo (n := n) (fun b g hb => hβ b g hb) (beloT_get e2 d v hv)
  obtain ⟨v, w', fr, av, FM', β', H', h1, h2, h3, h4, h5⟩ := h FM β1 b cs' a w a1 a2 a3 a4 hT1 hR (by rw [List.length_take]; omega)
  have hx : ExtB n0 FM β H w FM β1 (H.take n) w := ⟨fun _ _ _ h => h, fun b g lo hb e => by rw [hβ b g (by omega)]; exact e, Nat.le_refl _, fun cb _ hi => by
      obtain ⟨i, blk, g, m, row, L, q1, q2, q3, q4⟩ := hi
      exact ⟨i, blk, g, m, row, L, (get q1).2, q2, (sub q3).2, q4⟩, fun _ _ _ => rfl, fun _ _ _ h => .inl h, by rw [List.length_take]; omega, rfl, rfl, rfl⟩
  exact ⟨v, w', fr, av, FM', β', H', h1, h2, h3, hx.trans h4, h5⟩

end Pf
/- A nil slice as an empty block of its own. -/
namespace Pf
open Go
variable {P : Program} {TT : TypeId → Option TI} {f N n0 : Nat} {k : List Item} {T : Env} {H : AHeap} {R : AV → AHeap → Prop}

def isNil : AV → Bool
  | .nils | .e0 => true
  | _ => false
end Pf
/- Regions whose order is not known, with operations that change the blocks: they come one behind the other, the others in any order around them. -/
namespace Pf
open Go
variable {P : Program} {TT : TypeId → Option TI} {f N n0 : Nat} {k : List Item} {T : Env} {H : AHeap} {R : AV → AHeap → Prop}

/-- One operation that may change the blocks. -/
def EffStep (P : Program) (N : Nat) (ops : Array Oper) (o : Oper) (Ti : Env) (H : AHeap) (Q : AV → AHeap → Prop) : Prop :=
  ∀ FM β (b : Frame) (k : List Item) (i : Nat) (is : List Nat) cs a w, ops[i]? = some o → a.tmps.size = N → RelT FM β Ti a → RelH FM β H w →
    ∃ cv w' FM' β' v H', Q v H' ∧ VR FM' β' v cv ∧ RelH FM' β' H' w' ∧ Ext FM β H w FM' β' H' w' ∧ Steps P (lone (b.at a (.inRegion ops (i :: is) :: k)) cs w) (lone (b.at (a.put o.dst cv) (.inRegion ops is :: k)) cs w')

theorem EffStep.run {ops : Array Oper} {o : Oper} {Ti : Env} {v : AV} {H' : AHeap} (hg : guardM ops.toList Ti o.guard = some none)
    (h : ∀ FM β a w, RelT FM β Ti a → RelH FM β H w → Yields ((execOp a.eval o).run P w) FM β H w v H') : EffStep P N ops o Ti H fun u H1 => u = v ∧ H1 = H' := by
  intro FM β b k i is cs a w ho e4 hrt hh
  obtain ⟨cv, w1, FM1, β1, h1, h2, h3, h4⟩ := h FM β a w hrt hh
  have hg' := stepG_op (P := P) (b := b) (k := k) (cs := cs) (w := w) (rest := is) ho (guardM_yes hg hrt)
  have hfin : ∀ v, (b.at a (.inRegion ops (i :: is) :: k)).finish v = b.at (a.put o.dst v) (.inRegion ops is :: k) := by
    intro v; rw [Frame.finish_at, ho]; rfl
  refine ⟨cv, w1, FM1, β1, v, H', ⟨rfl, rfl⟩, h2, h3, h4, .one (step_lone_go ?_)⟩
  rcases h1 with h1 | ⟨h1, rfl⟩
  · rw [hg', ← hfin]; simp [stepG.apply, h1]
  · rw [hg', ← hfin]; simp [stepG.apply, h1]
theorem EffStep.ok {ops : Array Oper} {o : Oper} {Ti : Env} {v : AV} {H' : AHeap} (hT : TTok P TT) (m : Nat) (hg : guardM ops.toList Ti o.guard = some none) (h : stepOp TT m o.op Ti H = .ok v H') : EffStep P N ops o Ti H fun u H1 => u = v ∧ H1 = H' :=
  .run hg (fun FM β a w hr hh => by have := stepOp_good (o := o) hT m hr hh; rw [h] at this; exact this)
theorem EffStep.okc {ops : Array Oper} {o : Oper} {Ti : Env} {v : AV} {H' : AHeap} {C : Prop} (hT : TTok P TT) (m : Nat) (hg : guardM ops.toList Ti o.guard = some none) (h : stepOp TT m o.op Ti H = .okc C v H') (hc : C) : EffStep P N ops o Ti H fun u H1 => u = v ∧ H1 = H' :=
  .run hg (fun FM β a w hr hh => by have := stepOp_good (o := o) hT m hr hh; rw [h] at this; exact this hc)
theorem EffStep.call {ops : Array Oper} {o : Oper} {Ti : Env} {g : FuncId} {args : List AV} {Q : AV → AHeap → Prop} (hg : guardM ops.toList Ti o.guard = some none) (hk : opKind o.op Ti = .call g args)
    (hq : AFun P g args H Q) : EffStep P N ops o Ti H Q := by
  intro FM β b k i is cs a w ho e4 hrt hh
  obtain ⟨cargs, h1, h2⟩ := opKind_call hk hq.1 (w := w) hh.gk hrt
  have hg' := stepG_op (P := P) (b := b) (k := k) (cs := cs) (w := w) (rest := is) ho (guardM_yes hg hrt)
  have hfin : ∀ v, (b.at a (.inRegion ops (i :: is) :: k)).finish v = b.at (a.put o.dst v) (.inRegion ops is :: k) := by
    intro v; rw [Frame.finish_at, ho]; rfl
  obtain ⟨cv, w1, fr, av, FM1, β1, H1, hQ, h5, h6, h7, h8, h9, h10⟩ := hq.2 FM β (b.at a (.inRegion ops (i :: is) :: k) :: cs) w cargs h2 hh
  have henter : Go.step P (lone (b.at a (.inRegion ops (i :: is) :: k)) cs w) = .next (lone (Frame.enter P g cargs .normal) (b.at a (.inRegion ops (i :: is) :: k) :: cs) w) :=
    step_lone_go (by rw [hg']; simp [stepG.apply, h1, Frame.at])
  refine ⟨cv, w1, FM1, β1, av, H1, hQ, h5, h6, h7, .head henter (h8.trans (.one ?_))⟩
  rw [← hfin]; exact step_leave_returned h10

/-- Does 'i' hang on one of these? -/
def anyM (pend : List Nat) : List Nat → Bool
  | [] => false
  | x :: xs => match memM pend x with | true => true | false => anyM pend xs
def touch (ops : List Oper) (pend : List Nat) (i : Nat) : Bool := anyM pend (i :: needs ops i i [])
theorem anyM_iff {pend : List Nat} : ∀ {xs : List Nat}, anyM pend xs = true ↔ ∃ x ∈ xs, x ∈ pend
  | [] => by simp [anyM]
  | x :: xs => by
    simp only [anyM]
    cases hb : memM pend x with
    | true => simp [memM_iff.1 hb]
    | false =>
      have : x ∉ pend := fun h => by rw [memM_iff.2 h] at hb; cases hb
      simp [anyM_iff (xs := xs), this]
theorem touch_false {ops : List Oper} {pend : List Nat} {i : Nat} (h1 : i ∉ pend) (h2 : ∀ p ∈ needs ops i i [], p ∉ pend) : touch ops pend i = false := by
  cases hb : touch ops pend i with
  | false => rfl
  | true =>
    obtain ⟨x, hx, hp⟩ := anyM_iff.1 hb
    rcases List.mem_cons.1 hx with rfl | hx
    · exact absurd hp h1
    · exact absurd hp (h2 x hx)

/-- Where a region stands: these effects are done, those are still to come ('op': they stood out ahead of the last one); 'vs': what the slots hold, of what is done. -/
def Ph (P : Program) (f N n0 : Nat) (ops : Array Oper) (k : List Item) (T : Env) (R : AV → AHeap → Prop) (past pend op : List Nat) (vs : List (Option Nat × AV)) (H : AHeap) : Prop :=
  ∀ l done, OrdL ops done l → (∀ j, done j = true → ∀ p ∈ preds ops.toList j, done p = true) → (∀ j, vs.length ≤ j → j < ops.size → done j = false) → (∀ p ∈ pend, done p = false) → (∀ p ∈ past, done p = true) →
    (∀ j, j < vs.length → done j = true → j ∈ past ∨ touch ops.toList op j = false) → AGo P f N n0 (.inRegion ops l :: k) (TS done 0 vs T) H R

theorem RelT.TS_same {FM : FMem} {β : BMap} {a : Act} {S : Nat → Bool} {vs ws : List (Option Nat × AV)} (hd : distD vs = true) (hl : vs.map (·.1) = ws.map (·.1)) (he : ∀ j (h : j < vs.length) (h' : j < ws.length), S j = true → vs[j] = ws[j])
    (h : RelT FM β (TS S 0 vs T) a) : RelT FM β (TS S 0 ws T) a := by
  have hd' : distD ws = true := by rw [← distD_fst hl]; exact hd
  have hlen : vs.length = ws.length := by simpa using congrArg List.length hl
  intro d v hv
  rcases TS_get (S := S) (d := d) (T := T) hd' with ⟨j, hj, q1, q2, q3⟩ | ⟨q1, q2⟩
  · rcases TS_get (S := S) (d := d) (T := T) hd with ⟨j', hj', r1, r2, r3⟩ | ⟨r1, r2⟩
    · have e := he j' hj' (by omega) r2
      rw [e] at r1
      have := dist_inj hd' j j' hj (by omega) d q1 r1
      subst this
      refine h d v ?_
      rw [r3, e, ← q3]; exact hv
    · have e := he j (by omega) hj q2
      have := r1 j (by omega) (by rw [e]; exact q1)
      rw [q2] at this; cases this
  · rcases TS_get (S := S) (d := d) (T := T) hd with ⟨j', hj', r1, r2, r3⟩ | ⟨r1, r2⟩
    · have e := he j' hj' (by omega) r2
      have := q1 j' (by omega) (by rw [← e]; exact r1)
      rw [r2] at this; cases this
    · refine h d v ?_
      rw [r2, ← q2]; exact hv

/-- What an operation needs is there. -/
theorem RelT.TS_preds {FM : FMem} {β : BMap} {a : Act} {ops : List Oper} {done : Nat → Bool} {vs : List (Option Nat × AV)} {i : Nat} (hd : distD vs = true) (hp : ∀ p ∈ preds ops i, done p = true)
    (hrt : RelT FM β (TS done 0 vs T) a) : RelT FM β (TS (memM (preds ops i)) 0 vs (dropD vs T)) a := by
  intro d v hv
  rcases TS_get (S := memM (preds ops i)) (d := d) (T := dropD vs T) hd with ⟨j, hj, q1, q2, q3⟩ | ⟨q1, q2⟩
  · rw [q3] at hv
    cases hv
    have hdj := hp j (memM_iff.1 q2)
    rcases TS_get (S := done) (d := d) (T := T) hd with ⟨j', hj', r1, r2, r3⟩ | ⟨r1, r2⟩
    · have := dist_inj hd j j' hj hj' d q1 r1
      subst this
      exact hrt d _ r3
    · have := r1 j hj q1; rw [hdj] at this; cases this
  · rw [q2] at hv
    rcases getM_dropD hv with rfl | ⟨r1, r2⟩
    · exact .top
    · rcases TS_get (S := done) (d := d) (T := T) hd with ⟨j', hj', s1, s2, s3⟩ | ⟨s1, s2⟩
      · have := hasD_iff.2 ⟨j', hj', s1⟩
        rw [r1] at this; cases this
      · exact hrt d v (by rw [s2]; exact r2)
/-- One more is done. -/
theorem RelT.TS_put {FM : FMem} {β : BMap} {a : Act} {done : Nat → Bool} {vs : List (Option Nat × AV)} {i : Nat} {cv : Value} (hd : distD vs = true) (him : i < vs.length) (hN : ∀ d, vs[i].1 = some d → d < N) (e4 : a.tmps.size = N)
    (hrt' : RelT FM β (TS done 0 vs T) a) (g1 : VR FM β vs[i].2 cv) : RelT FM β (TS (fun j => if j = i then true else done j) 0 vs T) (a.put vs[i].1 cv) := by
  intro e u hu
  cases hdst : vs[i].1 with
  | none =>
    simp only [Act.put]
    refine hrt' e u ?_
    rcases TS_get (S := fun j => if j = i then true else done j) (d := e) (T := T) hd with ⟨j, hj, q1, q2, q3⟩ | ⟨q1, q2⟩
    · have hji : j ≠ i := by rintro rfl; rw [hdst] at q1; cases q1
      simp only [if_neg hji] at q2
      rcases TS_get (S := done) (d := e) (T := T) hd with ⟨j', hj', r1, r2, r3⟩ | ⟨r1, r2⟩
      · have := dist_inj hd j j' hj hj' e q1 r1
        subst this
        rw [r3, ← q3]; exact hu
      · have := r1 j hj q1; rw [q2] at this; cases this
    · rcases TS_get (S := done) (d := e) (T := T) hd with ⟨j', hj', r1, r2, r3⟩ | ⟨r1, r2⟩
      · have := q1 j' hj' r1
        split at this
        · cases this
        · rw [r2] at this; cases this
      · rw [r2, ← q2]; exact hu
  | some d =>
    have hdN := hN d hdst
    by_cases hed : e = d
    · subst hed
      rcases TS_get (S := fun j => if j = i then true else done j) (d := e) (T := T) hd with ⟨j, hj, q1, q2, q3⟩ | ⟨q1, q2⟩
      · have := dist_inj hd j i hj him e q1 hdst
        subst this
        rw [q3] at hu
        cases hu
        simp only [Act.put, Array.getD_eq_getD_getElem?, Array.getElem?_setIfInBounds]
        rw [if_pos (show e < a.tmps.size by omega)]
        simpa using g1
      · have := q1 i him hdst
        simp at this
    · have e5 : (a.put (some d) cv).tmps.getD e undef = a.tmps.getD e undef := by
        simp only [Act.put, Array.getD_eq_getD_getElem?, Array.getElem?_setIfInBounds]
        rw [if_neg (Ne.symm hed)]
      rw [e5]
      refine hrt' e u ?_
      rcases TS_get (S := fun j => if j = i then true else done j) (d := e) (T := T) hd with ⟨j, hj, q1, q2, q3⟩ | ⟨q1, q2⟩
      · have hji : j ≠ i := by rintro rfl; rw [hdst] at q1; exact hed (Option.some.inj q1).symm
        simp only [if_neg hji] at q2
        rcases TS_get (S := done) (d := e) (T := T) hd with ⟨j', hj', r1, r2, r3⟩ | ⟨r1, r2⟩
        · have := dist_inj hd j j' hj hj' e q1 r1
          subst this
          rw [r3, ← q3]; exact hu
        · have := r1 j hj q1; rw [q2] at this; cases this
      · rcases TS_get (S := done) (d := e) (T := T) hd with ⟨j', hj', r1, r2, r3⟩ | ⟨r1, r2⟩
        · have := q1 j' hj' r1
          split at this
          · cases this
          · rw [r2] at this; cases this
        · rw [r2, ← q2]; exact hu

/-- What is shown of one stand: 'vs' the values that come in, 'ws' those of all that can be done now. -/
theorem Ph.core {ops : Array Oper} {past pend op : List Nat} {vs ws : List (Option Nat × AV)} (hb : backAll 0 ops.toList = true) (hl : lastAll ops.toList (ops.size - ws.length) ws.length = true) (hle : ws.length ≤ ops.size)
    (hd : distD ws = true) (hN : ∀ i (h : i < ws.length) d, ws[i].1 = some d → d < N) (hfst : vs.map (·.1) = ws.map (·.1))
    (hsame : ∀ j (h : j < vs.length) (h' : j < ws.length), j ∈ past ∨ touch ops.toList op j = false → vs[j] = ws[j])
    (hs : ∀ i (h : i < ws.length), i ∉ past → (∀ p ∈ past, i ∉ needs ops.toList p p []) → touch ops.toList pend i = false → ∃ o, ops[i]? = some o ∧ o.dst = ws[i].1 ∧ FreeStep P N ops o (TS (memM (preds ops.toList i)) 0 ws (dropD ws T)) H ws[i].2)
    (hpl : ∀ e ∈ pend, e < ws.length)
    (he : ∀ e ∈ pend, (∀ q ∈ needs ops.toList e e [], q ∉ pend) → ∃ o Q, ops[e]? = some o ∧ (∃ h : e < ws.length, o.dst = ws[e].1) ∧ EffStep P N ops o (TS (memM (preds ops.toList e)) 0 ws (dropD ws T)) H Q ∧
      ∀ u H1, Q u H1 → Ph P f N n0 ops k T R (e :: past) (pend.filter (· != e)) pend (ws.set e (o.dst, u)) H1)
    (htail : pend = [] → AGo P f N n0 (.inRegion ops (List.range' ws.length (ops.size - ws.length)) :: k) (TS (fun _ => true) 0 ws T) H R) : Ph P f N n0 ops k T R past pend op vs H := by
  have hlen : vs.length = ws.length := by simpa using congrArg List.length hfst
  have key : ∀ (l : List Nat) (done : Nat → Bool), OrdL ops done l → (∀ j, done j = true → ∀ p ∈ preds ops.toList j, done p = true) → (∀ j, ws.length ≤ j → j < ops.size → done j = false) → (∀ p ∈ pend, done p = false) → (∀ p ∈ past, done p = true) →
      (∀ H', H' = H → AGo P f N n0 (.inRegion ops l :: k) (TS done 0 ws T) H' R) := by
    intro l
    induction l with
    | nil =>
      intro done ho hdown hno hpd hpa H' hH'
      subst hH'
      cases ho with
      | nil hall =>
        have hmn : ws.length = ops.size := by
          rcases Nat.lt_or_ge ws.length ops.size with hh | hh
          · have := hno _ (Nat.le_refl _) hh; rw [hall _ hh] at this; cases this
          · omega
        have hp0 : pend = [] := by
          cases hpe : pend with
          | nil => rfl
          | cons e es =>
            have hm : e ∈ pend := by rw [hpe]; simp
            have h1 := hpd e hm
            rw [hall e (by have := hpl e hm; omega)] at h1
            cases h1
        have h := htail hp0
        rw [hmn, Nat.sub_self] at h
        refine h.weak fun d v hv => .inr ?_
        rcases TS_get (S := fun _ => true) (d := d) (T := T) hd with ⟨j, hj, e1, e2, e3⟩ | ⟨h3, e3⟩
        · rcases TS_get (S := done) (d := d) (T := T) hd with ⟨j', hj', e1', e2', e3'⟩ | ⟨h3', e3'⟩
          · have := dist_inj hd j j' hj hj' d e1 e1'
            subst this
            rw [e3', ← e3]; exact hv
          · have := h3' j hj e1
            rw [hall j (by omega)] at this; cases this
        · rcases TS_get (S := done) (d := d) (T := T) hd with ⟨j', hj', e1', e2', e3'⟩ | ⟨h3', e3'⟩
          · have := h3 j' hj' e1'; cases this
          · rw [e3', ← e3]; exact hv
    | cons i l ih =>
      intro done ho hdown hno hpd hpa H' hH'
      subst hH'
      cases ho with
      | cons hi hdi hp t =>
        have hneeds : ∀ q ∈ needs ops.toList i i [], done q = true := needs_done hp hdown i [] (fun p hp => by simp at hp)
        have hdown' : ∀ j, (if j = i then true else done j) = true → ∀ p ∈ preds ops.toList j, (if p = i then true else done p) = true := fun j hj p hpj => by
          by_cases hji : j = i
          · subst hji
            have := hp p hpj
            simp [this]
          · simp only [if_neg hji] at hj
            have := hdown j hj p hpj
            simp [this]
        have hnp : ∀ q ∈ needs ops.toList i i [], q ∉ pend := fun q hq hm => by have := hpd q hm; rw [hneeds q hq] at this; cases this
        rcases Nat.lt_or_ge i ws.length with him | him
        · by_cases hip : i ∈ pend
          · -- an effect
            obtain ⟨o, Q, ho1, ⟨_, ho2⟩, heff, hnext⟩ := he i hip hnp
            intro FM β b cs a w e1 e2 e3 e4 hrt hh hn0
            obtain ⟨cv, w', FM', β', v, H1, hq, g1, g2, g3, g4⟩ := heff FM β b k i l cs a w ho1 e4 (hrt.TS_preds hd hp) hh
            have nx := hnext v H1 hq l (fun j => if j = i then true else done j) t hdown' (fun j h1 h2 => by
              rw [List.length_set] at h1
              have : j ≠ i := by omega
              simp only [if_neg this]
              exact hno j h1 h2) (fun p hp' => by
              obtain ⟨h1, h2⟩ := List.mem_filter.1 hp'
              have : p ≠ i := by simpa using h2
              simp only [if_neg this]
              exact hpd p h1) (fun p hp' => by
              rcases List.mem_cons.1 hp' with rfl | hp'
              · simp
              · simp [hpa p hp']) (fun j hj hdj => by
              by_cases hji : j = i
              · subst hji; exact .inl (by simp)
              · simp only [if_neg hji] at hdj
                refine .inr (touch_false (fun hm => by have := hpd j hm; rw [hdj] at this; cases this) fun q hq hm => ?_)
                have := needs_done (hdown j hdj) hdown j [] (fun p hp => by simp at hp) q hq
                rw [hpd q hm] at this; cases this)
            refine Ext.go g3 hn0 (nx FM' β' b cs (a.put o.dst cv) w' e1 e2 (by rw [put_defers, e3]) (by rw [put_size, e4]) ?_ g2) (b := b) g4
            have him' : i < (ws.set i (o.dst, v)).length := by simpa using him
            have egi : (ws.set i (o.dst, v))[i] = (o.dst, v) := by simp
            have hfst' : ws.map (·.1) = (ws.set i (o.dst, v)).map (·.1) := by
              refine List.ext_getElem (by simp) fun j h1 h2 => ?_
              simp only [List.length_map] at h1 h2
              simp only [List.getElem_map, List.getElem_set]
              split
              · rename_i hj; subst hj; rw [ho2]
              · rfl
            have hd' : distD (ws.set i (o.dst, v)) = true := by rw [← distD_fst hfst']; exact hd
            have r1 : RelT FM' β' (TS done 0 (ws.set i (o.dst, v)) T) a := (hrt.mono g3.fm g3.bm).TS_same hd hfst' fun j h1 h2 hdj => by
              have : i ≠ j := by rintro rfl; rw [hdi] at hdj; cases hdj
              simp [List.getElem_set, this]
            have := r1.TS_put (N := N) (cv := cv) hd' him' (fun d hdst => hN i him d (by rw [egi] at hdst; rw [← ho2]; exact hdst)) e4 (by rw [egi]; exact g1)
            rw [egi] at this
            exact this
          · by_cases hin : i ∈ past
            · have := hpa i hin; rw [hdi] at this; cases this
            obtain ⟨o, ho1, ho2, hstep⟩ := hs i him hin (fun p hpp hn => by
              have := needs_done (hdown p (hpa p hpp)) hdown p [] (fun p hp => by simp at hp) i hn
              rw [hdi] at this; cases this) (touch_false hip hnp)
            intro FM β b cs a w e1 e2 e3 e4 hrt hh hn0
            obtain ⟨cv, w', FM', β', g1, g2, g3, g4⟩ := hstep FM β b k i l cs a w ho1 e4 (hrt.TS_preds hd hp) hh
            have nx := ih (fun j => if j = i then true else done j) t hdown' (fun j h1 h2 => by
              have : j ≠ i := by omega
              simp only [if_neg this]
              exact hno j h1 h2) (fun p hp' => by
              have : p ≠ i := by rintro rfl; exact hip hp'
              simp only [if_neg this]
              exact hpd p hp') (fun p hp' => by simp [hpa p hp']) H' rfl
            refine Ext.go g3 hn0 (nx FM' β' b cs (a.put o.dst cv) w' e1 e2 (by rw [put_defers, e3]) (by rw [put_size, e4]) ?_ g2) (b := b) g4
            rw [ho2]
            exact (hrt.mono g3.fm g3.bm).TS_put (N := N) hd him (hN i him) e4 g1
        · -- the tail begins
          have hla := lastE_all (lastAll_iff _ _ hl i him (by omega))
          have hall : ∀ j, j < i → done j = true := fun j hj => hneeds j (hla j hj)
          have hiv : i = ws.length := by
            rcases Nat.lt_or_ge ws.length i with hh | hh
            · have := hall _ hh
              rw [hno _ (Nat.le_refl _) (by omega)] at this; cases this
            · omega
          have hp0 : pend = [] := by
            cases hpe : pend with
            | nil => rfl
            | cons e es =>
              have hm : e ∈ pend := by rw [hpe]; simp
              have h1 := hpd e hm
              rw [hall e (by have := hpl e hm; omega)] at h1
              cases h1
          have hlist : i :: l = List.range' i (ops.size - i) := tail_list hl (done := done) (.cons hi hdi hp t) hdown (fun j hj => by
            constructor
            · intro hj'
              rcases Nat.lt_or_ge j i with hh | hh
              · exact hh
              · rw [hno j (by omega) hj] at hj'; cases hj'
            · exact hall j) him (by omega)
          rw [hlist, hiv]
          refine (htail hp0).weak fun d v hv => .inr ?_
          rcases TS_get (S := fun _ => true) (d := d) (T := T) hd with ⟨j, hj, e1, e2, e3⟩ | ⟨h3, e3⟩
          · rcases TS_get (S := done) (d := d) (T := T) hd with ⟨j', hj', e1', e2', e3'⟩ | ⟨h3', e3'⟩
            · have := dist_inj hd j j' hj hj' d e1 e1'
              subst this
              rw [e3', ← e3]; exact hv
            · have := h3' j hj e1
              rw [hall j (by omega)] at this; cases this
          · rcases TS_get (S := done) (d := d) (T := T) hd with ⟨j', hj', e1', e2', e3'⟩ | ⟨h3', e3'⟩
            · have := h3 j' hj' e1'; cases this
            · rw [e3', ← e3]; exact hv
  intro l done ho hdown hno hpd hpa hold
  intro FM β b cs a w e1 e2 e3 e4 hrt hh hn0
  refine key l done ho hdown (fun j h1 h2 => hno j (by omega) h2) hpd hpa H rfl FM β b cs a w e1 e2 e3 e4 ?_ hh hn0
  exact hrt.TS_same (by rw [distD_fst hfst]; exact hd) hfst fun j h1 h2 hdj => hsame j h1 h2 (hold j h1 hdj)

end Pf
/- Regions whose order is not known, with operations that change the blocks: the rules. -/
namespace Pf
open Go
variable {P : Program} {TT : TypeId → Option TI} {f N n0 : Nat} {k : List Item} {T : Env} {H : AHeap} {R : AV → AHeap → Prop}

/-- All that must come ahead of these. -/
def needsAll (ops : List Oper) : List Nat → List Nat → List Nat
  | [], acc => acc
  | p :: ps, acc => needsAll ops ps (match appM (needs ops p p []) acc with | some l => l | none => acc)
def orM (a b : Bool) : Bool := match a with | true => true | false => b
variable (TT : TypeId → Option TI) in
/-- The values of all that can be done while these effects are still to come. -/
def phM (m : Nat) (ops : List Oper) (T0 : Env) (H : AHeap) (hs : List (Nat × Bool)) (past pn pend op : List Nat) (vin : List (Option Nat × AV)) : Nat → Nat → List (Option Nat × AV) → List AV → Option (List Prop × List CallM × List (Option Nat × AV))
  | 0, _, vs, _ => some ([], [], vs)
  | n + 1, i, vs, us => match nthM ops i with
    | none => none
    | some o => match nthM vin i with
      | none => none
      | some old =>
        match orM (memM past i) (memM pn i) with
        | true => match appM vs [(o.dst, old.2)] with | some vs' => phM m ops T0 H hs past pn pend op vin n (i + 1) vs' us | none => none
        | false => match touch ops pend i with
          | true => match appM vs [(o.dst, .top)] with | some vs' => phM m ops T0 H hs past pn pend op vin n (i + 1) vs' us | none => none
          | false => match guardM ops (TS (memM (preds ops i)) 0 vs T0) o.guard with
            | some (some none) => match appM vs [(o.dst, .tup [])] with
              | some vs' => match phM m ops T0 H hs past pn pend op vin n (i + 1) vs' us with
                | some (ps, cs, vs2) => some ((touch ops op i = false → AV.tup [] = old.2) :: ps, cs, vs2)
                | none => none
              | none => none
            | some none => match opKind o.op (TS (memM (preds ops i)) 0 vs T0) with
              | .call g args => match us with
                | [] => none
                | u :: us => match saidM o.dst u hs with
                  | (C, u') => match appM vs [(o.dst, u')] with
                    | some vs' => match phM m ops T0 H hs past pn pend op vin n (i + 1) vs' us with
                      | some (ps, cs, vs2) => match touch ops op i with
                        | true => some (C.getD True :: ps, ⟨g, args, u⟩ :: cs, vs2)
                        | false => some ((u' = old.2) :: C.getD True :: ps, ⟨g, args, u⟩ :: cs, vs2)
                      | none => none
                    | none => none
              | .plain => match stepOp TT m o.op (TS (memM (preds ops i)) 0 vs T0) H with
                | .ok v H' => match saidM o.dst v hs with
                  | (C, u') => match appM vs [(o.dst, u')] with
                    | some vs' => match phM m ops T0 H hs past pn pend op vin n (i + 1) vs' us with
                      | some (ps, cs, vs2) => match touch ops op i with
                        | true => some ((H' = H) :: C.getD True :: ps, cs, vs2)
                        | false => some ((u' = old.2) :: (H' = H) :: C.getD True :: ps, cs, vs2)
                      | none => none
                    | none => none
                | .okc D v H' => match saidM o.dst v hs with
                  | (C, u') => match appM vs [(o.dst, u')] with
                    | some vs' => match phM m ops T0 H hs past pn pend op vin n (i + 1) vs' us with
                      | some (ps, cs, vs2) => match touch ops op i with
                        | true => some (D :: (H' = H) :: C.getD True :: ps, cs, vs2)
                        | false => some ((u' = old.2) :: D :: (H' = H) :: C.getD True :: ps, cs, vs2)
                      | none => none
                    | none => none
                | .bad => none
              | _ => none
            | _ => none

theorem phM_ok (hT : TTok P TT) {m : Nat} {ops : Array Oper} {T0 : Env} {hs : List (Nat × Bool)} {past pn pend op : List Nat} {vin : List (Option Nat × AV)} (hb : backAll 0 ops.toList = true) : ∀ (n i : Nat) (vs : List (Option Nat × AV)) (us : List AV) {ps : List Prop} {cs : List CallM} {vs2 : List (Option Nat × AV)},
    phM TT m ops.toList T0 H hs past pn pend op vin n i vs us = some (ps, cs, vs2) → vs.length = i → AllP ps → AllCalls P H cs → (∃ ws, vs2 = vs ++ ws) ∧ vs2.length = i + n ∧
      ∀ j (h : j < vs2.length), i ≤ j → ∃ o, ops[j]? = some o ∧ o.dst = vs2[j].1 ∧ ∃ h' : j < vin.length, (j ∈ past ∨ j ∈ pn → vs2[j].2 = vin[j].2) ∧
        (j ∉ past → j ∉ pn → touch ops.toList pend j = false → FreeStep P N ops o (TS (memM (preds ops.toList j)) 0 vs2 T0) H vs2[j].2 ∧ (touch ops.toList op j = false → vs2[j].2 = vin[j].2))
  | 0, i, vs, us, ps, cs, vs2, h, hl, hp, hc => by
    simp only [phM, Option.some.injEq, Prod.mk.injEq] at h
    obtain ⟨_, _, rfl⟩ := h
    exact ⟨⟨[], by simp⟩, by omega, fun j h1 h2 => by omega⟩
  | n + 1, i, vs, us, ps, cs, vs2, h, hl, hp, hc => by
    simp only [phM] at h
    split at h
    · cases h
    rename_i o ho
    split at h
    · cases h
    rename_i old hold
    have ho' : ops[i]? = some o := by rw [nthM_eq] at ho; simpa using ho
    have hold' : vin[i]? = some old := by rw [nthM_eq] at hold; exact hold
    obtain ⟨hvi, hve⟩ := List.getElem?_eq_some_iff.1 hold'
    have fin : ∀ {u : AV} {vs' : List (Option Nat × AV)} {us' : List AV} {ps' : List Prop} {cs' : List CallM}, appM vs [(o.dst, u)] = some vs' →
        phM TT m ops.toList T0 H hs past pn pend op vin n (i + 1) vs' us' = some (ps', cs', vs2) → AllP ps' → AllCalls P H cs' → (i ∈ past ∨ i ∈ pn → u = old.2) →
        (i ∉ past → i ∉ pn → touch ops.toList pend i = false → FreeStep P N ops o (TS (memM (preds ops.toList i)) 0 vs T0) H u ∧ (touch ops.toList op i = false → u = old.2)) →
        (∃ ws, vs2 = vs ++ ws) ∧ vs2.length = i + (n + 1) ∧ ∀ j (h : j < vs2.length), i ≤ j → ∃ o, ops[j]? = some o ∧ o.dst = vs2[j].1 ∧ ∃ h' : j < vin.length, (j ∈ past ∨ j ∈ pn → vs2[j].2 = vin[j].2) ∧
          (j ∉ past → j ∉ pn → touch ops.toList pend j = false → FreeStep P N ops o (TS (memM (preds ops.toList j)) 0 vs2 T0) H vs2[j].2 ∧ (touch ops.toList op j = false → vs2[j].2 = vin[j].2)) := by
      intro u vs' us' ps' cs' ha hd hp' hc' hu hf
      rw [appM_eq] at ha
      cases ha
      obtain ⟨⟨ws, rfl⟩, h2, h3⟩ := phM_ok hT hb n (i + 1) _ us' hd (by simp [hl]) hp' hc'
      refine ⟨⟨(o.dst, u) :: ws, by simp⟩, by omega, fun j hj hij => ?_⟩
      by_cases hji : j = i
      · subst hji
        have e1 : (vs ++ [(o.dst, u)] ++ ws)[j] = (o.dst, u) := by
          simp only [List.append_assoc, List.singleton_append]
          rw [List.getElem_append_right (by omega)]
          simp [hl]
        refine ⟨o, ho', by rw [e1], hvi, fun hx => by rw [e1, hve]; exact hu hx, fun q1 q2 q3 => ?_⟩
        rw [e1, hve]
        have e2 : TS (memM (preds ops.toList j)) 0 (vs ++ [(o.dst, u)] ++ ws) T0 = TS (memM (preds ops.toList j)) 0 vs T0 := by
          rw [List.append_assoc]
          refine TS_app fun q hq => ?_
          cases hm : memM (preds ops.toList j) q with
          | false => rfl
          | true => have := preds_lt hb (memM_iff.1 hm); omega
        rw [e2]
        exact hf q1 q2 q3
      · exact h3 j hj (by omega)
    split at h
    · -- done already
      rename_i hor
      split at h
      · rename_i vs' ha
        refine fin ha h hp hc (fun _ => rfl) fun q1 q2 => ?_
        exfalso
        unfold orM at hor
        split at hor
        · rename_i hm; exact q1 (memM_iff.1 hm)
        · exact q2 (memM_iff.1 hor)
      · cases h
    rename_i hor
    have hno : ¬ (i ∈ past ∨ i ∈ pn) := by
      unfold orM at hor
      split at hor
      · cases hor
      · rename_i hm
        rintro (hx | hx)
        · rw [memM_iff.2 hx] at hm; cases hm
        · rw [memM_iff.2 hx] at hor; cases hor
    split at h
    · rename_i htc
      split at h
      · rename_i vs' ha
        exact fin ha h hp hc (fun hx => absurd hx hno) fun _ _ q3 => by rw [htc] at q3; cases q3
      · cases h
    rename_i htc
    split at h
    · rename_i hg
      split at h
      · rename_i vs' ha
        split at h
        · rename_i ps' cs' vs3 hd
          simp only [Option.some.injEq, Prod.mk.injEq] at h
          obtain ⟨rfl, rfl, rfl⟩ := h
          exact fin ha hd hp.2 hc (fun hx => absurd hx hno) fun _ _ _ => ⟨.skip hg, hp.1⟩
        · cases h
      · cases h
    · rename_i hg
      split at h
      · rename_i g args hk
        split at h
        · cases h
        · rename_i u us'
          split at h
          · rename_i vs' ha
            split at h
            · rename_i ps' cs' vs3 hd
              have done : ∀ {ps2 : List Prop} {cs2 : List CallM}, AllP ((saidM o.dst u hs).1.getD True :: ps') → AllCalls P H (⟨g, args, u⟩ :: cs') → (touch ops.toList op i = false → (saidM o.dst u hs).2 = old.2) → vs3 = vs2 →
                (∃ ws, vs2 = vs ++ ws) ∧ vs2.length = i + (n + 1) ∧ ∀ j (h : j < vs2.length), i ≤ j → ∃ o, ops[j]? = some o ∧ o.dst = vs2[j].1 ∧ ∃ h' : j < vin.length, (j ∈ past ∨ j ∈ pn → vs2[j].2 = vin[j].2) ∧
                  (j ∉ past → j ∉ pn → touch ops.toList pend j = false → FreeStep P N ops o (TS (memM (preds ops.toList j)) 0 vs2 T0) H vs2[j].2 ∧ (touch ops.toList op j = false → vs2[j].2 = vin[j].2)) := by
                intro ps2 cs2 hp hc he hv
                subst hv
                refine fin ha hd hp.2 hc.2 (fun hx => absurd hx hno) fun _ _ _ => ⟨.call hg hk ⟨hc.1.1, fun FM β cs w cargs hv hh => ?_⟩, he⟩
                obtain ⟨v, w', fr, av, FM', β', H', ⟨r1, r2⟩, r3, r4⟩ := hc.1.2 FM β cs w cargs hv hh
                exact ⟨v, w', fr, _, FM', β', H', ⟨r1, rfl⟩, (saidM_ok (u := (saidM o.dst u hs).2) rfl hp.1) _ _ _ (by rw [r2] at r3; exact r3), r4⟩
              split at h
              · rename_i hto
                simp only [Option.some.injEq, Prod.mk.injEq] at h
                obtain ⟨rfl, rfl, rfl⟩ := h
                exact done (ps2 := []) (cs2 := []) hp hc (fun hx => by rw [hto] at hx; cases hx) rfl
              · simp only [Option.some.injEq, Prod.mk.injEq] at h
                obtain ⟨rfl, rfl, rfl⟩ := h
                exact done (ps2 := []) (cs2 := []) hp.2 hc (fun _ => hp.1) rfl
            · cases h
          · cases h
      · rename_i hk
        split at h
        · rename_i v H' hst
          split at h
          · rename_i vs' ha
            split at h
            · rename_i ps' cs' vs3 hd
              split at h
              · rename_i hto
                simp only [Option.some.injEq, Prod.mk.injEq] at h
                obtain ⟨rfl, rfl, rfl⟩ := h
                obtain ⟨rfl, hp1, hp2⟩ := hp
                exact fin ha hd hp2 hc (fun hx => absurd hx hno) fun _ _ _ => ⟨.ok hT m hg hst (saidM_ok (u := (saidM o.dst v hs).2) rfl hp1), fun hx => by rw [hto] at hx; cases hx⟩
              · simp only [Option.some.injEq, Prod.mk.injEq] at h
                obtain ⟨rfl, rfl, rfl⟩ := h
                obtain ⟨hp0, rfl, hp1, hp2⟩ := hp
                exact fin ha hd hp2 hc (fun hx => absurd hx hno) fun _ _ _ => ⟨.ok hT m hg hst (saidM_ok (u := (saidM o.dst v hs).2) rfl hp1), fun _ => hp0⟩
            · cases h
          · cases h
        · rename_i D v H' hst
          split at h
          · rename_i vs' ha
            split at h
            · rename_i ps' cs' vs3 hd
              split at h
              · rename_i hto
                simp only [Option.some.injEq, Prod.mk.injEq] at h
                obtain ⟨rfl, rfl, rfl⟩ := h
                obtain ⟨hD, rfl, hp1, hp2⟩ := hp
                exact fin ha hd hp2 hc (fun hx => absurd hx hno) fun _ _ _ => ⟨.okc hT m hg hst hD (saidM_ok (u := (saidM o.dst v hs).2) rfl hp1), fun hx => by rw [hto] at hx; cases hx⟩
              · simp only [Option.some.injEq, Prod.mk.injEq] at h
                obtain ⟨rfl, rfl, rfl⟩ := h
                obtain ⟨hp0, hD, rfl, hp1, hp2⟩ := hp
                exact fin ha hd hp2 hc (fun hx => absurd hx hno) fun _ _ _ => ⟨.okc hT m hg hst hD (saidM_ok (u := (saidM o.dst v hs).2) rfl hp1), fun _ => hp0⟩
            · cases h
          · cases h
        · cases h
      · cases h
    · cases h

/-- A region's form: edges point back, the tail comes in its order, the slots are apart. -/
def stM (ops : Array Oper) (N nf : Nat) : Bool :=
  backAll 0 ops.toList && lastAll ops.toList (lenM ops.toList - nf) nf && Nat.ble nf (lenM ops.toList) && distD (dstsM nf ops.toList) && allLt N (dstsM nf ops.toList)
/-- Each of the others hangs on the first. -/
def chainM (ops : List Oper) (nf e : Nat) : List Nat → Bool
  | [] => Nat.blt e nf
  | p :: ps => match memM (needs ops p p []) e with | true => (match Nat.blt p nf with | true => chainM ops nf e ps | false => false) | false => false
theorem chainM_ok {ops : List Oper} {nf e : Nat} : ∀ {ps : List Nat}, chainM ops nf e ps = true → e < nf ∧ ∀ p ∈ ps, e ∈ needs ops p p [] ∧ p < nf
  | [], h => ⟨by simpa [chainM, Nat.blt_eq] using h, fun p hp => by simp at hp⟩
  | q :: ps, h => by
    simp only [chainM] at h
    split at h
    · rename_i h1
      split at h
      · rename_i h2
        obtain ⟨h3, h4⟩ := chainM_ok h
        refine ⟨h3, fun p hp => ?_⟩
        rcases List.mem_cons.1 hp with rfl | hp
        · exact ⟨memM_iff.1 h1, by simpa [Nat.blt_eq] using h2⟩
        · exact h4 p hp
      · cases h
    · cases h
theorem needs_self {ops : List Oper} {p q : Nat} (h : q ∈ needs ops p p []) : q < p := ((needs_lt (ops := ops) (i := p) p [] (by simp) (by simp)).2 q h).elim (fun h => by simp at h) id

theorem Ph.base (hT : TTok P TT) {ops : Array Oper} {m nf : Nat} {hs : List (Nat × Bool)} {us : List AV} {past pend op : List Nat} {vin ws : List (Option Nat × AV)} {ps : List Prop} {cl : List CallM} (hst : stM ops N nf = true)
    (hd : phM TT m ops.toList (dropD (dstsM nf ops.toList) T) H hs past (needsAll ops.toList past []) pend op vin nf 0 [] us = some (ps, cl, ws)) (hp : AllP ps) (hcl : AllCalls P H cl) (hv : vin.map (·.1) = (dstsM nf ops.toList).map (·.1)) :
    backAll 0 ops.toList = true ∧ lastAll ops.toList (ops.size - ws.length) ws.length = true ∧ ws.length ≤ ops.size ∧ distD ws = true ∧ (∀ i (h : i < ws.length) d, ws[i].1 = some d → d < N) ∧ vin.map (·.1) = ws.map (·.1) ∧ ws.length = nf ∧
      dropD ws T = dropD (dstsM nf ops.toList) T ∧
      (∀ j (h : j < vin.length) (h' : j < ws.length), j ∈ past ∨ (touch ops.toList op j = false ∧ touch ops.toList pend j = false) → vin[j] = ws[j]) ∧
      ∀ i (h : i < ws.length), ∃ o, ops[i]? = some o ∧ o.dst = ws[i].1 ∧ (i ∉ past → (∀ p ∈ past, i ∉ needs ops.toList p p []) → touch ops.toList pend i = false → (∀ j, j ∈ needsAll ops.toList past [] → ∃ p ∈ past, j ∈ needs ops.toList p p []) →
        FreeStep P N ops o (TS (memM (preds ops.toList i)) 0 ws (dropD ws T)) H ws[i].2) := by
  simp only [stM, Bool.and_eq_true, lenM_eq, Array.length_toList] at hst
  obtain ⟨⟨⟨⟨b1, b2⟩, b3⟩, b4⟩, b5⟩ := hst
  have b3 : nf ≤ ops.size := by simpa using b3
  obtain ⟨_, l2, l3⟩ := phM_ok (N := N) hT b1 nf 0 [] us hd rfl hp hcl
  have hlen : ws.length = nf := by omega
  obtain ⟨d1, d2⟩ := dstsM_get (n := nf) (os := ops.toList) (by simpa using b3)
  have hfst : (dstsM nf ops.toList).map (·.1) = ws.map (·.1) := by
    refine List.ext_getElem (by simp [d1, hlen]) fun i h1 h2 => ?_
    simp only [List.length_map] at h1 h2
    simp only [List.getElem_map]
    obtain ⟨o, o1, o2, _⟩ := l3 i h2 (Nat.zero_le _)
    obtain ⟨hl, rfl⟩ := Array.getElem?_eq_some_iff.1 o1
    rw [d2 i h1 (by simpa using hl), ← o2]
    simp
  have hfst2 : vin.map (·.1) = ws.map (·.1) := hv.trans hfst
  have hdrop : dropD ws T = dropD (dstsM nf ops.toList) T := (dropD_fst hfst T).symm
  refine ⟨b1, by rw [hlen]; exact b2, by omega, by rw [← distD_fst hfst]; exact b4, fun i hi d e => ?_, hfst2, hlen, hdrop, fun j hj hj' hx => ?_, fun i hi => ?_⟩
  · have h2 : i < (dstsM nf ops.toList).length := by omega
    have e2 : (dstsM nf ops.toList)[i].1 = ws[i].1 := by
      have := congrArg (fun l => l[i]?) hfst
      simpa [h2, hi] using this
    exact allLt_iff b5 i h2 d (by rw [e2, e])
  · obtain ⟨o, o1, o2, o3, o4, o5⟩ := l3 j hj' (Nat.zero_le _)
    have e1 : vin[j].1 = ws[j].1 := by
      have := congrArg (fun l => l[j]?) hfst2
      simpa [hj, hj'] using this
    have e2 : ws[j].2 = vin[j].2 := by
      by_cases hx1 : j ∈ past ∨ j ∈ needsAll ops.toList past []
      · exact o4 hx1
      · rcases hx with hx | ⟨hx, hx2⟩
        · exact absurd (.inl hx) hx1
        · exact (o5 (fun h => hx1 (.inl h)) (fun h => hx1 (.inr h)) hx2).2 hx
    exact Prod.ext e1 e2.symm
  · obtain ⟨o, o1, o2, o3, o4, o5⟩ := l3 i hi (Nat.zero_le _)
    refine ⟨o, o1, o2, fun q1 q2 q3 q4 => ?_⟩
    have hn : i ∉ needsAll ops.toList past [] := fun h => by
      obtain ⟨p, hp1, hp2⟩ := q4 i h
      exact q2 p hp1 hp2
    rw [hdrop]
    exact (o5 q1 hn q3).1
theorem needsAll_iff {ops : List Oper} : ∀ {ps acc : List Nat} {i : Nat}, i ∈ needsAll ops ps acc → i ∈ acc ∨ ∃ p ∈ ps, i ∈ needs ops p p []
  | [], acc, i, h => .inl (by simpa [needsAll] using h)
  | p :: ps, acc, i, h => by
    simp only [needsAll, appM_eq] at h
    rcases needsAll_iff h with h | ⟨q, hq, h⟩
    · rcases List.mem_append.1 h with h | h
      · exact .inr ⟨p, by simp, h⟩
      · exact .inl h
    · exact .inr ⟨q, by simp [hq], h⟩

/-- Do the effects to come all stand among those that were to come? -/
def subM : List Nat → List Nat → Bool
  | [], _ => true
  | x :: xs, ys => match memM ys x with | true => subM xs ys | false => false
theorem subM_ok : ∀ {xs ys : List Nat}, subM xs ys = true → ∀ x ∈ xs, x ∈ ys
  | y :: xs, ys, h, x, hx => by
    simp only [subM] at h
    split at h
    · rename_i hm
      rcases List.mem_cons.1 hx with rfl | hx
      · exact memM_iff.1 hm
      · exact subM_ok h x hx
    · cases h
theorem touch_sub {ops : List Oper} {xs ys : List Nat} (h : ∀ x ∈ xs, x ∈ ys) {i : Nat} (ht : touch ops ys i = false) : touch ops xs i = false := by
  cases hb : touch ops xs i with
  | false => rfl
  | true =>
    obtain ⟨x, hx, hp⟩ := anyM_iff.1 hb
    have : touch ops ys i = true := anyM_iff.2 ⟨x, hx, h x hp⟩
    rw [this] at ht; cases ht

theorem Ph.eff (hT : TTok P TT) {ops : Array Oper} {m nf e : Nat} {hs : List (Nat × Bool)} {us : List AV} {past pend' op : List Nat} {vin ws : List (Option Nat × AV)} {ps : List Prop} {cl : List CallM} (hst : stM ops N nf = true) (hv : vin.map (·.1) = (dstsM nf ops.toList).map (·.1))
    (hch : chainM ops.toList nf e pend' = true) (hsub : subM (e :: pend') op = true)
    (hd : phM TT m ops.toList (dropD (dstsM nf ops.toList) T) H hs past (needsAll ops.toList past []) (e :: pend') op vin nf 0 [] us = some (ps, cl, ws)) (hp : AllP ps) (hcl : AllCalls P H cl)
    {o : Oper} (ho : nthM ops.toList e = some o) {Q : AV → AHeap → Prop} (he : EffStep P N ops o (TS (memM (preds ops.toList e)) 0 ws (dropD (dstsM nf ops.toList) T)) H Q)
    (next : ∀ u H1, Q u H1 → Ph P f N n0 ops k T R (e :: past) pend' (e :: pend') (ws.set e (o.dst, u)) H1) : Ph P f N n0 ops k T R past (e :: pend') op vin H := by
  obtain ⟨c1, c2, c3, c4, c5, c6, c7, c8, c9, c10⟩ := Ph.base hT hst hd hp hcl hv
  obtain ⟨h1, h2⟩ := chainM_ok hch
  have ho' : ops[e]? = some o := by rw [nthM_eq] at ho; simpa using ho
  have hfil : (e :: pend').filter (· != e) = pend' := by
    rw [List.filter_cons_of_neg (by simp), List.filter_eq_self.2]
    intro p hp
    have := needs_self (h2 p hp).1
    have : p ≠ e := by omega
    simpa using this
  refine Ph.core c1 c2 c3 c4 c5 c6 (fun j hj hj' hx => c9 j hj hj' (hx.imp id fun hx => ⟨hx, touch_sub (subM_ok hsub) hx⟩)) (fun i hi q1 q2 q3 => ?_) (fun p hp => ?_) (fun p hp hn => ?_) (fun h => by cases h)
  · obtain ⟨o, o1, o2, o3⟩ := c10 i hi
    exact ⟨o, o1, o2, o3 q1 q2 q3 fun j hj => (needsAll_iff hj).elim (fun h => by simp at h) id⟩
  · rcases List.mem_cons.1 hp with rfl | hp
    · omega
    · have := (h2 p hp).2; omega
  · have hpe : p = e := by
      rcases List.mem_cons.1 hp with rfl | hp
      · rfl
      · exact absurd (List.mem_cons_self) (hn e (h2 p hp).1)
    subst hpe
    obtain ⟨o', o1, o2, _⟩ := c10 p (by omega)
    rw [ho'] at o1
    cases o1
    refine ⟨o, Q, ho', ⟨by omega, o2⟩, by rw [c8]; exact he, fun u H1 hq => ?_⟩
    rw [hfil]
    exact next u H1 hq

theorem fst_set {ws vs : List (Option Nat × AV)} {e : Nat} {o : Oper} {u : AV} {D : List (Option Nat)} (h : ws.map (·.1) = D) (he : ∃ h : e < ws.length, o.dst = ws[e].1) (hv : setM (o.dst, u) ws e = some vs) : vs = ws.set e (o.dst, u) ∧ vs.map (·.1) = D := by
  rw [setM_eq] at hv
  obtain ⟨h1, h2⟩ := he
  rw [if_pos h1] at hv
  cases hv
  refine ⟨rfl, ?_⟩
  rw [← h]
  refine List.ext_getElem (by simp) fun j h3 h4 => ?_
  simp only [List.length_map] at h3 h4
  simp only [List.getElem_map, List.getElem_set]
  split
  · rename_i hj; subst hj; exact h2
  · rfl

/-- What a walk through a region leans on. -/
structure PW (P : Program) (TT : TypeId → Option TI) (N : Nat) (ops : Array Oper) (nf : Nat) : Prop where
  tt : TTok P TT
  st : stM ops N nf = true
/-- A region's stand, its slots being those of the region. -/
def Ph1 (P : Program) (f N n0 nf : Nat) (ops : Array Oper) (k : List Item) (T : Env) (R : AV → AHeap → Prop) (past pend op : List Nat) (vs : List (Option Nat × AV)) (H : AHeap) : Prop :=
  vs.map (·.1) = (dstsM nf ops.toList).map (·.1) → Ph P f N n0 ops k T R past pend op vs H

def ltAll (n : Nat) : List Nat → Bool
  | [] => true
  | x :: xs => match Nat.blt x n with | true => ltAll n xs | false => false
theorem ltAll_ok {n : Nat} : ∀ {xs : List Nat}, ltAll n xs = true → ∀ x ∈ xs, x < n
  | y :: xs, h, x, hx => by
    simp only [ltAll] at h
    split at h
    · rename_i hy
      rcases List.mem_cons.1 hx with rfl | hx
      · simpa [Nat.blt_eq] using hy
      · exact ltAll_ok h x hx
    · cases h
/-- Into a region that draws: these operations change the blocks. -/
theorem go_ph {rs : List ResultVar} (W : Walk P TT f rs) (m n nf : Nat) (pend : List Nat) {cs : List Prop} {id : Nat} {ops : Array Oper} {k' : List Item} {T' : Env} {H' : AHeap} (h : exec TT N rs m n [] k T H = .draw cs (.code (.region id ops true) :: k') T' H') (hc : AllC cs)
    (hst : (stM ops N nf && ltAll (lenM ops.toList) pend) = true) (h1 : PW P TT N ops nf → Ph1 P f N n0 nf ops k' T' R [] pend (upFrom 0 nf) (dstsM nf ops.toList) H') : AGo P f N n0 k T H R := by
  obtain ⟨hst, hpl⟩ := Bool.and_eq_true_iff.1 hst
  have hpl : ∀ p ∈ pend, p < ops.size := fun p hp => by have := ltAll_ok hpl p hp; rwa [lenM_eq, Array.length_toList] at this
  have h1 := h1 ⟨W.tt, hst⟩ rfl
  refine go_draw W m n h hc ?_
  simp only [stM, Bool.and_eq_true, lenM_eq, Array.length_toList] at hst
  obtain ⟨⟨⟨⟨b1, b2⟩, b3⟩, b4⟩, b5⟩ := hst
  intro FM β b cs a w e1 e2 e3 e4 hrt hh hn0
  have ho := schedule_ord b1 (P.follows .mixedOrders) (w.tape w.drawn (.order b.fn id))
  have b3 : nf ≤ ops.size := by simpa using b3
  obtain ⟨d1, d2⟩ := dstsM_get (n := nf) (os := ops.toList) (by simpa using b3)
  have small : ∀ j, (!decide (j < ops.size)) = true → ¬ j < ops.size := fun j hj => by simpa using hj
  have hk := h1 _ _ ho (fun j hj p hpj => by
    have hj' : ¬ j < ops.size := by simpa using hj
    unfold preds at hpj
    rw [nthM_eq] at hpj
    have : ops.toList[j]? = none := by simp; omega
    rw [this] at hpj
    simp at hpj) (fun j _ h2 => by simp [h2]) (fun p hp => by simp [hpl p hp]) (fun p hp => by simp at hp) (fun j hj hdj => by
    have := small j hdj
    omega)
  have hrt0 : RelT FM β (TS (fun i => !decide (i < ops.size)) 0 (dstsM nf ops.toList) T') a := by
    intro d v hv
    rcases TS_get (S := fun i => !decide (i < ops.size)) (d := d) (T := T') b4 with ⟨j, hj, q1, q2, q3⟩ | ⟨q1, q2⟩
    · have : j < ops.size := by omega
      simp [this] at q2
    · exact hrt d v (by rw [← q2]; exact hv)
  have hw : RelH FM β H' { w with drawn := w.drawn + 1 } := ⟨fun b blk g n row h1 h2 => by
      obtain ⟨lo, q1, q2⟩ := hh.mem b blk g n row h1 h2
      refine ⟨lo, q1, ?_⟩
      cases lo with
      | none => exact q2
      | some L =>
        have q2 : MemOk FM β w L n row := q2
        exact ⟨q2.sz, q2.sh, q2.fit, q2.cells, q2.free⟩, hh.inj, hh.wid, fun cb o v hx => hh.fm cb o v hx, hh.dom, hh.gk.at hh.gk.tabw, hh.mp.keep (fun _ _ _ h => h) (fun _ _ _ _ h => h) fun _ _ _ h => h⟩
  have hx : Ext FM β H' w FM β H' { w with drawn := w.drawn + 1 } :=
    ⟨fun _ _ _ h => h, fun _ _ _ h => h, Nat.le_refl _, fun _ _ h => h, fun _ _ _ => rfl, fun _ _ _ h => .inl h, Nat.le_refl _, rfl, rfl, rfl⟩
  exact Ext.go hx hn0 (hk FM β b cs a _ e1 e2 e3 e4 hrt0 hw) (b := b) (.one step_region_draw)

variable (TT : TypeId → Option TI) in
/-- What an effect comes to. -/
def effM (m : Nat) (ops : List Oper) (T0 : Env) (ws : List (Option Nat × AV)) (H : AHeap) (e : Nat) : Option (Option Nat × Prop × AV × AHeap) :=
  match nthM ops e with
  | some o => match guardM ops (TS (memM (preds ops e)) 0 ws T0) o.guard with
    | some none => match opKind o.op (TS (memM (preds ops e)) 0 ws T0) with
      | .plain => match stepOp TT m o.op (TS (memM (preds ops e)) 0 ws T0) H with
        | .ok v H' => some (o.dst, True, v, H')
        | .okc C v H' => some (o.dst, C, v, H')
        | .bad => none
      | _ => none
    | _ => none
  | none => none
def effC (ops : List Oper) (T0 : Env) (ws : List (Option Nat × AV)) (e : Nat) : Option (Option Nat × FuncId × List AV) :=
  match nthM ops e with
  | some o => match guardM ops (TS (memM (preds ops e)) 0 ws T0) o.guard with
    | some none => match opKind o.op (TS (memM (preds ops e)) 0 ws T0) with
      | .call g args => some (o.dst, g, args)
      | _ => none
    | _ => none
  | none => none
variable {nf : Nat} {ops : Array Oper} {past op pend' : List Nat} {vin ws vs' : List (Option Nat × AV)} {ps : List Prop} {cl : List CallM}

/-- The next effect: one operation. -/
theorem ph_op (W : PW P TT N ops nf) (m e : Nat) (hs : List (Nat × Bool)) (us : List AV) {d : Option Nat} {C : Prop} {v : AV} {H1 : AHeap}
    (hd : phM TT m ops.toList (dropD (dstsM nf ops.toList) T) H hs past (needsAll ops.toList past []) (e :: pend') op vin nf 0 [] us = some (ps, cl, ws)) (hch : (chainM ops.toList nf e pend' && subM (e :: pend') op) = true) (hp : AllP ps) (hcl : AllCalls P H cl)
    (he : effM TT m ops.toList (dropD (dstsM nf ops.toList) T) ws H e = some (d, C, v, H1)) (hC : C) (hset : setM (d, v) ws e = some vs') (next : Ph1 P f N n0 nf ops k T R (e :: past) pend' (e :: pend') vs' H1) : Ph1 P f N n0 nf ops k T R past (e :: pend') op vin H := by
  intro hv
  obtain ⟨hc1, hc2⟩ := Bool.and_eq_true_iff.1 hch
  unfold effM at he
  split at he
  · rename_i o ho
    split at he
    · rename_i hg
      split at he
      · have key : ∀ {v1 : AV} {H2 : AHeap}, EffStep P N ops o (TS (memM (preds ops.toList e)) 0 ws (dropD (dstsM nf ops.toList) T)) H (fun u H1 => u = v1 ∧ H1 = H2) → o.dst = d → v1 = v → H2 = H1 → Ph P f N n0 ops k T R past (e :: pend') op vin H := by
          rintro v1 H2 hE rfl rfl rfl
          refine Ph.eff W.tt W.st hv hc1 hc2 hd hp hcl ho hE ?_
          rintro _ _ ⟨rfl, rfl⟩
          obtain ⟨_, _, _, _, _, c6, c7, _, _, c10⟩ := Ph.base W.tt W.st hd hp hcl hv
          obtain ⟨h1, _⟩ := chainM_ok hc1
          obtain ⟨o', o1, o2, _⟩ := c10 e (by omega)
          have : o' = o := by rw [nthM_eq] at ho; simp at ho; rw [o1] at ho; exact Option.some.inj ho
          subst this
          obtain ⟨r1, r2⟩ := fst_set (c6.symm.trans hv) ⟨by omega, o2⟩ hset
          rw [← r1]
          exact next r2
        split at he
        · rename_i hst
          simp only [Option.some.injEq, Prod.mk.injEq] at he
          obtain ⟨r1, r2, r3, r4⟩ := he
          exact key (.ok W.tt m hg hst) r1 r3 r4
        · rename_i hst
          simp only [Option.some.injEq, Prod.mk.injEq] at he
          obtain ⟨r1, r2, r3, r4⟩ := he
          subst r2
          exact key (.okc W.tt m hg hst hC) r1 r3 r4
        · cases he
      · cases he
    · cases he
  · cases he
/-- All effects are done. -/
theorem ph_end (W : PW P TT N ops nf) (m : Nat) (hs : List (Nat × Bool)) (us : List AV) {T2 : Env}
    (hd : phM TT m ops.toList (dropD (dstsM nf ops.toList) T) H hs past (needsAll ops.toList past []) [] op vin nf 0 [] us = some (ps, cl, ws)) (hp : AllP ps) (hcl : AllCalls P H cl) (e : TS (fun _ => true) 0 ws T = T2)
    (h1 : AGo P f N n0 (.inRegion ops (upFrom nf (lenM ops.toList - nf)) :: k) T2 H R) : Ph1 P f N n0 nf ops k T R past [] op vin H := by
  intro hv
  obtain ⟨c1, c2, c3, c4, c5, c6, c7, c8, c9, c10⟩ := Ph.base W.tt W.st hd hp hcl hv
  subst e
  refine Ph.core c1 c2 c3 c4 c5 c6 (fun j hj hj' hx => c9 j hj hj' (hx.imp id fun hx => ⟨hx, touch_sub (xs := []) (fun x hx => by simp at hx) hx⟩)) (fun i hi q1 q2 q3 => ?_) (fun p hp => by simp at hp) (fun p hp => by simp at hp) (fun _ => ?_)
  · obtain ⟨o, o1, o2, o3⟩ := c10 i hi
    exact ⟨o, o1, o2, o3 q1 q2 q3 fun j hj => (needsAll_iff hj).elim (fun h => by simp at h) id⟩
  · rw [c7, ← upFrom_eq]; rw [lenM_eq, Array.length_toList] at h1; exact h1

/-- Back to a loop's head, the blocks from 'nb' on being dropped. -/
theorem go_backD {rs : List ResultVar} {TT : TypeId → Option TI} {f N n0 : Nat} {k : List Item} {T : Env} {H : AHeap} {R : AV → AHeap → Prop} (W : Walk P TT f rs) (m n nb : Nat) (ds : List Nat) {cs qs : List Prop} {c : Code} {k' : List Item} {T' T1 : Env} {H' H1 : AHeap} (h : exec TT N rs m n [] k T H = .back cs c k' T' H')
    (hk : keepM T' ds = some T1) (e2 : beloT nb T1 = true) (e3 : dropM nb nb H' = some (qs, H1)) (hn : Nat.ble n0 nb = true) (hc : AllC cs) (hq : AllC qs) (h1 : AGo P f N n0 (.inLoop c :: k') T1 H1 R) : AGo P f N n0 k T H R :=
  W.ok (by rw [h]; exact ⟨hc, go_drop nb ds hk e2 e3 hn hq h1⟩)
/-- Rows that are the same as far as they go. -/
theorem Sub.fz {n : Nat} {row row' : Nat → List AV} (h : ∀ i, i < n → row i = row' i) : Sub (.fz n row) (.fz n row') := fun FM β cv h' => by
  cases h' with
  | fz0 => exact .fz0
  | fz cv hz hc hl hm ho hv =>
    refine .fz cv hz hc (fun i hi => by rw [← h i hi]; exact hl i hi) hm ho ?_
    intro i j hi hx
    have e := h i hi
    have := hv i j hi (by rw [e]; exact hx)
    simpa [e] using this
theorem Sub.trans {a b c : AV} (h : Sub a b) (k : Sub b c) : Sub a c := fun FM β cv h' => k _ _ _ (h _ _ _ h')

/-- A call of a function that touches nothing, and is told nothing of the blocks at hand. -/
theorem go_callQ {rs : List ResultVar} {TT : TypeId → Option TI} {f N n0 : Nat} {k : List Item} {T : Env} {H : AHeap} {R : AV → AHeap → Prop} (W : Walk P TT f rs) (m n : Nat) {cs : List Prop} {g : FuncId} {args : List AV} {dst : Option Nat} {k' : List Item} {T' : Env} {H' : AHeap} {Q : AV → Prop}
    (h : exec TT N rs m n [] k T H = .call cs g args dst k' T' H') (hc : AllC cs) (hcl : cloL args = true) (hq : AFunP P g args Q) (h1 : ∀ v, Q v → ∃ T1, dstM N dst v T' = some T1 ∧ AGo P f N n0 k' T1 H' R) : AGo P f N n0 k T H R :=
  go_call W m n h hc (hq.at hcl H') fun v H1 ⟨e1, e2⟩ => by
    subst e1
    exact h1 v e2

end Pf
/- A nil slice in a cell, as an empty block of its own. -/
namespace Pf
open Go
variable {P : Program} {TT : TypeId → Option TI} {f N n0 : Nat} {k : List Item} {T : Env} {H : AHeap} {R : AV → AHeap → Prop}

/-- The cell 'c' of row 'r' of block 'b' holds no cells: from here on it is a slice of an empty block, at the heap's end. -/
theorem go_nilC (b r c : Nat) (blk : ABlk) {g : Nat} {rows rows1 : List (List AV)} {row row1 : List AV} {v : AV} {rowE : Nat → List AV} {H1 H2 : AHeap} (e0 : nthM H b = some (.lst g rows)) (er : nthM rows r = some row) (ec : nthM row c = some v) (en : isNil v = true)
    (eb : blk.view = some (0, 0, rowE)) (e1 : setM (.sl (lenM H) 0 0 0) row c = some row1) (e2 : setM row1 rows r = some rows1) (e3 : setM (.lst g rows1) H b = some H1) (e4 : appM H1 [blk] = some H2)
    (h : AGo P f N n0 k T H2 R) : AGo P f N n0 k T H R := by
  intro FM β bf cs a w a1 a2 a3 a4 hT hH hl
  rw [nthM_eq] at e0 er ec
  rw [setM_eq] at e1 e2 e3
  rw [appM_eq] at e4
  cases e4
  obtain ⟨hb, hbv⟩ := List.getElem?_eq_some_iff.1 e0
  obtain ⟨hr, hrv⟩ := List.getElem?_eq_some_iff.1 er
  obtain ⟨hc, hcv⟩ := List.getElem?_eq_some_iff.1 ec
  rw [if_pos hc] at e1
  rw [if_pos hr] at e2
  rw [if_pos hb] at e3
  cases e1; cases e2; cases e3
  simp only [lenM_eq] at *
  let β1 : BMap := fun b g => if b = H.length ∧ g = 0 then some none else β b g
  have hnone : ∀ g, β H.length g = none := by
    intro g
    cases hb : β H.length g with
    | none => rfl
    | some lo => have := (hH.dom _ _ _ hb).1; omega
  have hβ : ∀ b g lo, β b g = some lo → β1 b g = some lo := by
    intro b g lo hb
    simp only [β1]
    split
    · rename_i h1
      obtain ⟨rfl, rfl⟩ := h1
      rw [hnone] at hb; cases hb
    · exact hb
  have some1 : ∀ {i g : Nat} {L : Loc}, β1 i g = some (some L) → β i g = some (some L) := by
    intro i g L hi
    simp only [β1] at hi
    split at hi
    · cases hi
    · exact hi
  -- a block of the new heap, and what it was
  have get : ∀ {i : Nat} {bl : ABlk} {g' m : Nat} {rw1 : Nat → List AV}, ((H.set b (.lst g (rows.set r (row.set c (.sl H.length 0 0 0))))) ++ [blk])[i]? = some bl → bl.view = some (g', m, rw1) →
      (∃ bl0 rw0, i < H.length ∧ H[i]? = some bl0 ∧ bl0.view = some (g', m, rw0) ∧ bl.width = bl0.width ∧ (i ≠ b → rw1 = rw0) ∧ (i = b → rw0 = (fun i => rows.getD i []) ∧ rw1 = fun i => (rows.set r (row.set c (.sl H.length 0 0 0))).getD i [])) ∨ (i = H.length ∧ bl = blk) := by
    intro i bl g' m rw1 hi hv
    rcases Nat.lt_or_ge i H.length with h1 | h1
    · rw [List.getElem?_append_left (by simpa using h1), List.getElem?_set] at hi
      by_cases hib : b = i
      · subst hib
        rw [if_pos rfl, if_pos h1] at hi
        cases hi
        simp only [ABlk.view, Option.some.injEq, Prod.mk.injEq, List.length_set] at hv
        obtain ⟨rfl, rfl, rfl⟩ := hv
        refine .inl ⟨_, _, h1, e0, rfl, ?_, fun h => absurd rfl h, fun _ => ⟨rfl, rfl⟩⟩
        simp only [ABlk.width]
        by_cases h0 : r = 0
        · subst h0
          rw [← hrv]
          simp [List.getD_eq_getElem?_getD, hr]
        · simp [List.getD_eq_getElem?_getD, h0]
      · rw [if_neg hib] at hi
        exact .inl ⟨bl, rw1, h1, hi, hv, rfl, fun _ => rfl, fun h => absurd h.symm hib⟩
    · rw [List.getElem?_append_right (by simpa using h1)] at hi
      obtain ⟨h2, h3⟩ := List.getElem?_eq_some_iff.1 hi
      simp at h2
      have : i = H.length := by omega
      subst this
      simp at h3
      exact .inr ⟨rfl, h3.symm⟩
  have getm : ∀ (i : Nat) (vb : Bool) (sh : Option (List Bool)) (es : List (MKey × Int)), ((H.set b (.lst g (rows.set r (row.set c (.sl H.length 0 0 0))))) ++ [blk])[i]? = some (.mp vb sh es) → H[i]? = some (.mp vb sh es) := by
    intro i vb sh es hi
    rcases Nat.lt_or_ge i H.length with h1 | h1
    · rw [List.getElem?_append_left (by simpa using h1), List.getElem?_set] at hi
      by_cases hib : b = i
      · subst hib
        rw [if_pos rfl, if_pos h1] at hi
        cases hi
      · rwa [if_neg hib] at hi
    · rw [List.getElem?_append_right (by simpa using h1)] at hi
      obtain ⟨h2, h3⟩ := List.getElem?_eq_some_iff.1 hi
      simp at h2
      have : i = H.length := by omega
      subst this
      simp at h3
      subst h3
      cases eb
  have hcell : ∀ {cv : Value}, VR FM β v cv → VR FM β1 (.sl H.length 0 0 0) cv := by
    intro cv h0
    have hb : β1 H.length 0 = some none := by simp [β1]
    cases h0 with
    | nils => exact .sl0 hb fun L h => by cases h
    | e0 => exact .sl0 hb fun L h => by cases h
    | _ => cases en
  have hR : RelH FM β1 ((H.set b (.lst g (rows.set r (row.set c (.sl H.length 0 0 0))))) ++ [blk]) w := by
    have hmp : MapsOk β1 ((H.set b (.lst g (rows.set r (row.set c (.sl H.length 0 0 0))))) ++ [blk]) w := hH.mp.keep hβ getm fun _ _ _ h => h
    refine ⟨?_, ?_, ?_, hH.fm, ?_, hH.gk, hmp⟩
    · intro i bl g' m rw1 h1 h2
      rcases get h1 h2 with ⟨bl0, rw0, hi, q1, q2, _, q3, q4⟩ | ⟨rfl, rfl⟩
      · obtain ⟨lo, p1, p2⟩ := hH.mem i bl0 g' m rw0 q1 q2
        refine ⟨lo, hβ _ _ _ p1, ?_⟩
        cases lo with
        | none => exact p2
        | some L =>
          have p2 : MemOk FM β w L m rw0 := p2
          by_cases hib : i = b
          · obtain ⟨rfl, rfl⟩ := q4 hib
            obtain ⟨cc, ee, fr, c1, c2, c3, c4, c5⟩ := p2.cells
            refine ⟨p2.sz, p2.sh, p2.fit, ⟨cc, ee, fr, c1, c2, c3, c4, fun r' hr1 hr2 => ?_⟩, p2.free⟩
            obtain ⟨k1, k2⟩ := c5 r' hr1 hr2
            by_cases hrr : r' = r
            · subst hrr
              have ea : rows.getD r' [] = row := by simp [List.getD_eq_getElem?_getD, er]
              have eb' : (rows.set r' (row.set c (.sl H.length 0 0 0))).getD r' [] = row.set c (.sl H.length 0 0 0) := by simp [List.getD_eq_getElem?_getD, hr]
              rw [ea] at k1
              refine ⟨by rw [eb']; simpa using k1, ?_⟩
              rw [eb']
              intro j hj
              obtain ⟨cv, k3, k4⟩ := k2 j (by rw [ea]; simpa using hj)
              refine ⟨cv, k3, ?_⟩
              have k4 : VR FM β (row[j]'(by simpa using hj)) cv := by
                have : ∀ {l : List AV} (e : l = row) (h1 : j < l.length), VR FM β l[j] cv → VR FM β (row[j]'(by simpa using hj)) cv := by rintro _ rfl _ h; exact h
                exact this ea _ k4
              by_cases hjc : c = j
              · subst hjc
                simp only [List.getElem_set_self]
                rw [hcv] at k4
                exact hcell k4
              · rw [List.getElem_set_ne hjc]
                exact k4.mono (fun _ _ _ h => h) hβ
            · have ea : (rows.set r (row.set c (.sl H.length 0 0 0))).getD r' [] = rows.getD r' [] := by
                simp [List.getD_eq_getElem?_getD, List.getElem?_set, Ne.symm hrr]
              refine ⟨by rw [ea]; exact k1, ?_⟩
              rw [ea]
              intro j hj
              obtain ⟨cv, k3, k4⟩ := k2 j hj
              exact ⟨cv, k3, k4.mono (fun _ _ _ h => h) hβ⟩
          · rw [q3 hib]
            exact p2.still rfl hβ
      · rw [eb] at h2; cases h2
        exact ⟨none, by simp [β1], rfl⟩
    · intro b1 b2 k1 k2 g1 g2 n1 n2 row1 row2 L1 L2 h1 h2 h3 h4 h5 h6 h7
      have q3 := some1 h3
      have q6 := some1 h6
      rcases get h1 h2 with ⟨x0, y0, _, x1, x2, _⟩ | ⟨rfl, rfl⟩
      · rcases get h4 h5 with ⟨x0', y0', _, x1', x2', _⟩ | ⟨rfl, rfl⟩
        · exact hH.inj b1 b2 x0 x0' g1 g2 n1 n2 y0 y0' L1 L2 x1 x2 q3 x1' x2' q6 h7
        · rw [hnone] at q6; cases q6
      · rw [hnone] at q3; cases q3
    · intro i bl g' m rw1 L h1 h2 h3
      have q3 := some1 h3
      rcases get h1 h2 with ⟨x0, y0, _, x1, x2, x3, _⟩ | ⟨rfl, rfl⟩
      · rw [x3]; exact hH.wid i x0 g' m y0 L x1 x2 q3
      · rw [hnone] at q3; cases q3
    · intro i g' lo hi
      simp only [β1] at hi
      split at hi
      · rename_i h1
        obtain ⟨rfl, rfl⟩ := h1
        exact ⟨by simp, fun _ _ _ _ _ _ => Nat.zero_le _⟩
      · obtain ⟨q1, q2⟩ := hH.dom i g' lo hi
        refine ⟨by simp; omega, fun bl g2 m rw1 h1 h2 => ?_⟩
        rcases get h1 h2 with ⟨x0, y0, _, x1, x2, _⟩ | ⟨rfl, rfl⟩
        · exact q2 x0 g2 m y0 x1 x2
        · omega
  obtain ⟨v', w', fr, av, FM', β', H', h1, h2, h3, h4, h5⟩ := h FM β1 bf cs a w a1 a2 a3 a4 (hT.mono (fun _ _ _ h => h) hβ) hR (by simp; omega)
  have himg : ∀ cb, cb < w.heap.size → Img β1 ((H.set b (.lst g (rows.set r (row.set c (.sl H.length 0 0 0))))) ++ [blk]) cb → Img β H cb := by
    intro cb _ hi
    obtain ⟨i, bl, g', m, rw1, L, q1, q2, q3, q4⟩ := hi
    have q3 := some1 q3
    cases bl with
    | mp vb sh es => exact ⟨i, _, g', m, rw1, L, getm _ _ _ _ q1, q2, q3, q4⟩
    | dead => cases q2
    | _ =>
      rcases get q1 q2 with ⟨x0, y0, _, x1, x2, _⟩ | ⟨rfl, rfl⟩
      · exact ⟨i, x0, g', m, y0, L, x1, ABlk.vw_of x2, q3, q4⟩
      · rw [hnone] at q3; cases q3
  have hx : ExtB n0 FM β H w FM β1 ((H.set b (.lst g (rows.set r (row.set c (.sl H.length 0 0 0))))) ++ [blk]) w := ⟨fun _ _ _ h => h, fun b g lo _ e => hβ b g lo e, Nat.le_refl _, himg, fun _ _ _ => rfl, fun _ _ _ h => .inl h, by simp; omega, rfl, rfl, rfl⟩
  exact ⟨v', w', fr, av, FM', β', H', h1, h2, h3, hx.trans h4, h5⟩

end Pf
/- Functions that make blocks of any kind, called with blocks at hand. -/
namespace Pf
open Go
variable {P : Program} {TT : TypeId → Option TI} {f N n0 : Nat} {k : List Item} {T : Env} {H : AHeap} {R : AV → AHeap → Prop}

/-- A block renumbered. -/
def shfB (d : Nat) : ABlk → ABlk
  | .lst g rows => .lst g (rows.map fun r => r.map (shf d))
  | .tab g n row => .tab g n fun i => (row i).map (shf d)
  | b => b
def flatLL : List (List AV) → Bool
  | [] => true
  | r :: rs => match flatL r with | true => flatLL rs | false => false
theorem flatLL_get : ∀ {rs : List (List AV)}, flatLL rs = true → ∀ i (h : i < rs.length), flatL rs[i] = true
  | r :: rs, h, i, hi => by
    simp only [flatLL] at h
    split at h
    · rename_i hr
      cases i with
      | zero => exact hr
      | succ i => exact flatLL_get h i (by simpa using hi)
    · cases h
/-- No function values, no boxes in a block. -/
def flatB : ABlk → Prop
  | .lst _ rows => flatLL rows = true
  | .tab _ n row => ∀ i, i < n → flatL (row i) = true
  | .mp _ _ _ => False
  | _ => True
def flatH : AHeap → Prop
  | [] => True
  | b :: bs => flatB b ∧ flatH bs
theorem flatH_get : ∀ {H : AHeap}, flatH H → ∀ {i : Nat} {blk : ABlk}, H[i]? = some blk → flatB blk
  | b :: bs, h, 0, blk, e => by simp at e; subst e; exact h.1
  | b :: bs, h, i + 1, blk, e => flatH_get h.2 (i := i) (by simpa using e)
  | [], h, i, blk, e => by simp at e
theorem shfB_view {d : Nat} {blk : ABlk} {g n : Nat} {row : Nat → List AV} (h : (shfB d blk).view = some (g, n, row)) :
    ∃ row0, blk.view = some (g, n, row0) ∧ (shfB d blk).width = blk.width ∧ ∀ i, i < n → row i = (row0 i).map (shf d) := by
  cases blk with
  | dead => cases h
  | mp vb sh es => cases h
  | lst g' rows =>
    simp only [shfB, ABlk.view, Option.some.injEq, Prod.mk.injEq, List.length_map] at h
    obtain ⟨rfl, rfl, rfl⟩ := h
    refine ⟨_, rfl, ?_, fun i hi => ?_⟩
    · simp only [shfB, ABlk.width, List.getD_eq_getElem?_getD, List.getElem?_map]
      cases rows[0]? with
      | none => rfl
      | some r => simp
    · simp [List.getD_eq_getElem?_getD, hi]
  | ints g' k l =>
    simp only [shfB, ABlk.view, Option.some.injEq, Prod.mk.injEq] at h
    obtain ⟨rfl, rfl, rfl⟩ := h
    exact ⟨_, rfl, rfl, fun i hi => rfl⟩
  | tab g' n' row' =>
    simp only [shfB, ABlk.view, Option.some.injEq, Prod.mk.injEq] at h
    obtain ⟨rfl, rfl, rfl⟩ := h
    exact ⟨_, rfl, by simp [shfB, ABlk.width], fun i hi => rfl⟩
theorem shfB_mp {d : Nat} {blk : ABlk} {vb : Bool} {sh : Option (List Bool)} {es : List (MKey × Int)} (h : shfB d blk = .mp vb sh es) : blk = .mp vb sh es := by
  cases blk <;> simp only [shfB] at h <;> first | exact h | cases h
theorem flatB_row {blk : ABlk} (h : flatB blk) {g n : Nat} {row : Nat → List AV} (hv : blk.view = some (g, n, row)) : ∀ i, i < n → flatL (row i) = true := by
  intro i hi
  cases blk with
  | dead => cases hv
  | mp vb sh es => cases hv
  | lst g' rows =>
    simp only [ABlk.view, Option.some.injEq, Prod.mk.injEq] at hv
    obtain ⟨rfl, rfl, rfl⟩ := hv
    have := flatLL_get h i hi
    simpa [List.getD_eq_getElem?_getD, hi] using this
  | ints g' k l =>
    simp only [ABlk.view, Option.some.injEq, Prod.mk.injEq] at hv
    obtain ⟨rfl, rfl, rfl⟩ := hv
    rfl
  | tab g' n' row' =>
    simp only [ABlk.view, Option.some.injEq, Prod.mk.injEq] at hv
    obtain ⟨rfl, rfl, rfl⟩ := hv
    exact h i hi

/-- Blocks made: with others at hand, they come behind these. -/
theorem AFun.frame {args : List AV} {Q : AV → AHeap → Prop} (h : AFun P f args [] Q) (hc : cloL args = true) (hfl : ∀ u H2, Q u H2 → flat u = true ∧ flatH H2) (H : AHeap) :
    AFun P f args H fun v H1 => ∃ u H2, Q u H2 ∧ v = shf H.length u ∧ H1 = H ++ H2.map (shfB H.length) := by
  refine ⟨h.1, fun FM β cs w cargs hv hh => ?_⟩
  have h0 : RelH FM noB [] w := ⟨fun b blk g n row h => by simp at h, fun b b' blk blk' g g' n n' row row' L L' h => by simp at h, fun b blk g n row L h => by simp at h, hh.fm, (fun b g lo h => by cases h), hh.gk, .nil⟩
  obtain ⟨v, w', fr, av, FM1, β1, H1, hQ, h1, h2, h3, h4, h5, h6⟩ := h.2 FM noB cs w cargs ⟨hv.1, fun i hi => (hv.2 i hi).clo (cloL_get hc i hi) noB⟩ h0
  obtain ⟨f1, f2⟩ := hfl _ _ hQ
  let β' : BMap := fun b g => if b < H.length then β b g else β1 (b - H.length) g
  have hlo : ∀ {b g : Nat}, b < H.length → β' b g = β b g := fun hb => by simp [β', hb]
  have hhi : ∀ b g, β' (b + H.length) g = β1 b g := fun b g => by simp [β', show ¬ b + H.length < H.length by omega]
  have hold : ∀ b g lo, β b g = some lo → β' b g = some lo := fun b g lo hb => by rw [hlo (hh.dom _ _ _ hb).1]; exact hb
  have img1 : ∀ cb, cb < w.heap.size → ¬ Img β1 H1 cb := fun cb hl hi => noImg cb (h3.img cb hl hi)
  have fm1 : ∀ cb o v, cb < w.heap.size → FM1 cb o = some v → FM cb o = some v := by
    intro cb o v hl hx
    rcases h3.fmn _ _ _ hx with hx | hx | hx
    · exact hx
    · omega
    · exact absurd hx (noImg cb)
  have get : ∀ {i : Nat} {bl : ABlk} {g n : Nat} {row : Nat → List AV}, (H ++ H1.map (shfB H.length))[i]? = some bl → bl.view = some (g, n, row) →
      (i < H.length ∧ H[i]? = some bl) ∨ (∃ j bl0 row0, i = j + H.length ∧ H1[j]? = some bl0 ∧ bl0.view = some (g, n, row0) ∧ bl.width = bl0.width ∧ (∀ r, r < n → row r = (row0 r).map (shf H.length)) ∧ ∀ r, r < n → flatL (row0 r) = true) := by
    intro i bl g n row hi hv
    rcases Nat.lt_or_ge i H.length with hl | hl
    · rw [List.getElem?_append_left hl] at hi; exact .inl ⟨hl, hi⟩
    · rw [List.getElem?_append_right hl, List.getElem?_map] at hi
      cases hb : H1[i - H.length]? with
      | none => rw [hb] at hi; cases hi
      | some bl0 =>
        rw [hb] at hi
        simp only [Option.map_some, Option.some.injEq] at hi
        subst hi
        obtain ⟨row0, q1, q2, q3⟩ := shfB_view hv
        exact .inr ⟨i - H.length, bl0, row0, by omega, hb, q1, q2, q3, flatB_row (flatH_get f2 hb) q1⟩
  have getm : ∀ (i : Nat) (vb : Bool) (sh : Option (List Bool)) (es : List (MKey × Int)), (H ++ H1.map (shfB H.length))[i]? = some (.mp vb sh es) → H[i]? = some (.mp vb sh es) := by
    intro i vb sh es hi
    rcases Nat.lt_or_ge i H.length with hl | hl
    · rwa [List.getElem?_append_left hl] at hi
    · rw [List.getElem?_append_right hl, List.getElem?_map] at hi
      cases hb : H1[i - H.length]? with
      | none => rw [hb] at hi; cases hi
      | some bl0 =>
        rw [hb] at hi
        simp only [Option.map_some, Option.some.injEq] at hi
        have := shfB_mp hi
        subst this
        exact (flatH_get f2 hb).elim
  have small : ∀ {b g : Nat} {blk : ABlk} {n : Nat} {row : Nat → List AV} {L : Loc}, H[b]? = some blk → blk.view = some (g, n, row) → β b g = some (some L) → L.cb < w.heap.size := by
    intro b g blk n row L q1 q2 q3
    obtain ⟨lo, p1, p2⟩ := hh.mem b blk g n row q1 q2
    rw [q3] at p1
    cases p1
    have p2 : MemOk FM β w L n row := p2
    obtain ⟨c, e, frr, c1, _⟩ := p2.cells
    rcases Nat.lt_or_ge L.cb w.heap.size with hl | hl
    · exact hl
    · rw [Array.getElem?_eq_none hl] at c1; cases c1
  have big : ∀ {b g : Nat} {blk : ABlk} {n : Nat} {row : Nat → List AV} {L : Loc}, H1[b]? = some blk → blk.view = some (g, n, row) → β1 b g = some (some L) → w.heap.size ≤ L.cb := by
    intro b g blk n row L q1 q2 q3
    rcases Nat.lt_or_ge L.cb w.heap.size with hl | hl
    · exact absurd ⟨b, blk, g, n, row, L, q1, ABlk.vw_of q2, q3, rfl⟩ (img1 _ hl)
    · exact hl
  refine ⟨v, w', fr, shf H.length av, FM1, β', H ++ H1.map (shfB H.length), ⟨av, H1, hQ, rfl, rfl⟩, h1.shf hhi f1, ?_, ?_, h4, h5, h6⟩
  · have hmp : MapsOk β' (H ++ H1.map (shfB H.length)) w' := hh.mp.keep hold getm fun cb es cl h => by rw [h3.frame _ (Array.getElem?_eq_some_iff.1 h).1 (noImg _)]; exact h
    refine ⟨?_, ?_, ?_, h2.fm, ?_, h2.gk, hmp⟩
    · intro i bl g n row q1 q2
      rcases get q1 q2 with ⟨hi, q1⟩ | ⟨j, bl0, row0, rfl, p1, p2, p3, p4, p5⟩
      · obtain ⟨lo, k1, k2⟩ := hh.mem i bl g n row q1 q2
        refine ⟨lo, by rw [hlo hi]; exact k1, ?_⟩
        cases lo with
        | none => exact k2
        | some L =>
          have k2 : MemOk FM β w L n row := k2
          obtain ⟨c, e, frr, c1, c2, c3, c4, c5⟩ := k2.cells
          have hlt := small q1 q2 k1
          refine ⟨k2.sz, k2.sh, k2.fit, ⟨c, e, frr, ?_, c2, c3, c4, fun r hr1 hr2 => ?_⟩, fun o => ?_⟩
          · rw [h3.frame _ hlt (noImg _)]; exact c1
          · obtain ⟨k3, k4⟩ := c5 r hr1 hr2
            refine ⟨k3, fun j hj => ?_⟩
            obtain ⟨cv, k5, k6⟩ := k4 j hj
            exact ⟨cv, k5, k6.mono h3.fm hold⟩
          · cases hx : FM1 L.cb o with
            | none => rfl
            | some v => have := fm1 _ _ _ hlt hx; rw [k2.free o] at this; cases this
      · obtain ⟨lo, k1, k2⟩ := h2.mem j bl0 g n row0 p1 p2
        refine ⟨lo, by rw [hhi]; exact k1, ?_⟩
        cases lo with
        | none => exact k2
        | some L =>
          have k2 : MemOk FM1 β1 w' L n row0 := k2
          obtain ⟨c, e, frr, c1, c2, c3, c4, c5⟩ := k2.cells
          refine ⟨k2.sz, k2.sh, k2.fit, ⟨c, e, frr, c1, c2, c3, c4, fun r hr1 hr2 => ?_⟩, k2.free⟩
          obtain ⟨k3, k4⟩ := c5 r hr1 hr2
          rw [p4 r hr2]
          refine ⟨by simpa using k3, fun j hj => ?_⟩
          obtain ⟨cv, k5, k6⟩ := k4 j (by simpa using hj)
          refine ⟨cv, k5, ?_⟩
          rw [List.getElem_map]
          exact k6.shf hhi (flatL_get (p5 r hr2) j (by simpa using hj))
    · intro b b' k1 k1' g g' n n' row row' L L' q1 q2 q3 q1' q2' q3' he
      rcases get q1 q2 with ⟨hi, p1⟩ | ⟨j, bl0, row0, rfl, p1, p2, _⟩
      · rcases get q1' q2' with ⟨hi', p1'⟩ | ⟨j', bl0', row0', rfl, p1', p2', _⟩
        · exact hh.inj b b' k1 k1' g g' n n' row row' L L' p1 q2 (by rw [← hlo hi]; exact q3) p1' q2' (by rw [← hlo hi']; exact q3') he
        · have a := small p1 q2 (by rw [← hlo hi]; exact q3)
          have c := big p1' p2' (by rw [← hhi]; exact q3')
          omega
      · rcases get q1' q2' with ⟨hi', p1'⟩ | ⟨j', bl0', row0', rfl, p1', p2', _⟩
        · have a := small p1' q2' (by rw [← hlo hi']; exact q3')
          have c := big p1 p2 (by rw [← hhi]; exact q3)
          omega
        · have := h2.inj j j' bl0 bl0' g g' n n' row0 row0' L L' p1 p2 (by rw [← hhi]; exact q3) p1' p2' (by rw [← hhi]; exact q3') he
          omega
    · intro b bl g n row L q1 q2 q3
      rcases get q1 q2 with ⟨hi, p1⟩ | ⟨j, bl0, row0, rfl, p1, p2, p3, _⟩
      · exact hh.wid b bl g n row L p1 q2 (by rw [← hlo hi]; exact q3)
      · rw [p3]; exact h2.wid j bl0 g n row0 L p1 p2 (by rw [← hhi]; exact q3)
    · intro b g lo q
      rcases Nat.lt_or_ge b H.length with hi | hi
      · rw [hlo hi] at q
        refine ⟨by simp; omega, fun bl g' n row q1 q2 => ?_⟩
        rcases get q1 q2 with ⟨_, p1⟩ | ⟨j, _, _, rfl, _⟩
        · exact (hh.dom b g lo q).2 bl g' n row p1 q2
        · omega
      · obtain ⟨j, rfl⟩ : ∃ j, b = j + H.length := ⟨b - H.length, by omega⟩
        rw [hhi] at q
        obtain ⟨d1, d2⟩ := h2.dom j g lo q
        refine ⟨by simp; omega, fun bl g' n row q1 q2 => ?_⟩
        rcases get q1 q2 with ⟨hlt, _⟩ | ⟨j', bl0, row0, he, p1, p2, _⟩
        · omega
        · have : j' = j := by omega
          subst this
          exact d2 bl0 g' n row0 p1 p2
  · refine ⟨h3.fm, hold, h3.size, fun cb hl i => ?_, fun cb hl hi => h3.frame cb hl (noImg cb), fun cb o v hx => ?_, by simp, h3.os, h3.output, h3.tape⟩
    · obtain ⟨b, bl, g, n, row, L, q1, q2, q3, q4⟩ := i
      cases bl with
      | mp vb sh es =>
        have p1 := getm _ _ _ _ q1
        exact ⟨b, _, g, n, row, L, p1, q2, by rw [← hlo (List.getElem?_eq_some_iff.1 p1).1]; exact q3, q4⟩
      | dead => cases q2
      | _ =>
        rcases get q1 q2 with ⟨hi, p1⟩ | ⟨j, bl0, row0, rfl, p1, p2, _⟩
        · exact ⟨b, _, g, n, row, L, p1, q2, by rw [← hlo hi]; exact q3, q4⟩
        · have := big p1 p2 (by rw [← hhi]; exact q3)
          omega
    · rcases Nat.lt_or_ge cb w.heap.size with hl | hl
      · exact .inl (fm1 _ _ _ hl hx)
      · exact .inr (.inl hl)

/-- A call of a function that makes blocks. -/
theorem go_callX {rs : List ResultVar} (W : Walk P TT f rs) (m n : Nat) {cs : List Prop} {g : FuncId} {args : List AV} {dst : Option Nat} {k' : List Item} {T' : Env} {H' : AHeap} {Q : AV → AHeap → Prop}
    (h : exec TT N rs m n [] k T H = .call cs g args dst k' T' H') (hc : AllC cs) (hcl : cloL args = true) (hq : AFun P g args [] Q) (hfl : ∀ u H2, Q u H2 → flat u = true ∧ flatH H2)
    (h1 : ∀ u H2, Q u H2 → ∃ T1 H1, dstM N dst (shf (lenM H') u) T' = some T1 ∧ appM H' (H2.map (shfB (lenM H'))) = some H1 ∧ AGo P f N n0 k' T1 H1 R) : AGo P f N n0 k T H R :=
  go_call W m n h hc (hq.frame hcl hfl H') fun v H1 ⟨u, H2, r1, r2, r3⟩ => by
    obtain ⟨T1, H1', q1, q2, q3⟩ := h1 u H2 r1
    rw [appM_eq] at q2
    rw [lenM_eq] at q1 q2
    cases q2
    subst r2; subst r3
    exact ⟨T1, q1, q3⟩

end Pf
/- The rules as they are used: the conditions are shown by one tactic, said here. -/
namespace Pf
open Go
variable {P : Program} {TT : TypeId → Option TI} {f N n0 : Nat} {k : List Item} {T : Env} {H : AHeap} {R : AV → AHeap → Prop} {rs : List ResultVar}

theorem wrapU (n : Int) : IntKind.u64.wrap n = n % 18446744073709551616 := by simp [IntKind.wrap, IntKind.bits, IntKind.signed]
theorem pw1 : (2 : Int) ^ 1 = 2 := rfl
theorem pw7 : (2 : Int) ^ 7 = 128 := rfl
theorem pw8 : (2 : Int) ^ 8 = 256 := rfl
theorem pw16 : (2 : Int) ^ 16 = 65536 := rfl
theorem pw23 : (2 : Int) ^ 23 = 8388608 := rfl
theorem pw32 : (2 : Int) ^ 32 = 4294967296 := rfl
theorem pw52 : (2 : Int) ^ 52 = 4503599627370496 := rfl

/-- Conditions that are so. -/
abbrev Holds (p : Prop) : Prop := p

theorem sp (W : Walk P TT f rs) (m : Nat) {cs : List Prop} {d : Nat} {p q : Prop} {k' : List Item} {T' T1 T2 : Env} {H' : AHeap} (h : exec TT N rs m 300 [] k T H = .split cs d p q k' T' H')
    (e1 : putM d (.bool true) T' = some T1) (e2 : putM d (.bool false) T' = some T2) (h1 : p → AGo P f N n0 k' T1 H' R) (h2 : q → AGo P f N n0 k' T2 H' R) (hc : AllC cs := by first | exact True.intro | (simp only [AllC, AllP, addN, Int.toNat_natCast, true_and, and_true, Option.getD, List.length_set, wrapU, pw1, pw7, pw8, pw16, pw23, pw32, pw52, Holds] <;> first | omega | ((repeat' apply And.intro) <;> first | omega | (intros; rfl))) | (simp [AllC, AllP, addN, cloL, clo, mrgL, mrg, wrapU, Holds] <;> omega)) : AGo P f N n0 k T H R :=
  go_split W m 300 h e1 e2 hc h1 h2
theorem ce (W : Walk P TT f rs) (m : Nat) {cs : List Prop} {g : FuncId} {args : List AV} {dst : Option Nat} {k' : List Item} {T' T1 : Env} {H' : AHeap} {u : AV}
    (h : exec TT N rs m 300 [] k T H = .call cs g args dst k' T' H') (hcl : cloL args = true) (hq : AFunP P g args (· = u)) (e : dstM N dst u T' = some T1) (h1 : AGo P f N n0 k' T1 H' R) (hc : AllC cs := by first | exact True.intro | (simp only [AllC, AllP, addN, Int.toNat_natCast, true_and, and_true, Option.getD, List.length_set, wrapU, pw1, pw7, pw8, pw16, pw23, pw32, pw52, Holds] <;> first | omega | ((repeat' apply And.intro) <;> first | omega | (intros; rfl))) | (simp [AllC, AllP, addN, cloL, clo, mrgL, mrg, wrapU, Holds] <;> omega)) : AGo P f N n0 k T H R :=
  go_callE W m 300 h hc hcl hq e h1
theorem cq (W : Walk P TT f rs) (m : Nat) {cs : List Prop} {g : FuncId} {args : List AV} {dst : Option Nat} {k' : List Item} {T' : Env} {H' : AHeap} {Q : AV → Prop}
    (h : exec TT N rs m 300 [] k T H = .call cs g args dst k' T' H') (hcl : cloL args = true) (hq : AFunP P g args Q) (h1 : ∀ v, Q v → ∃ T1, dstM N dst v T' = some T1 ∧ AGo P f N n0 k' T1 H' R) (hc : AllC cs := by first | exact True.intro | (simp only [AllC, AllP, addN, Int.toNat_natCast, true_and, and_true, Option.getD, List.length_set, wrapU, pw1, pw7, pw8, pw16, pw23, pw32, pw52, Holds] <;> first | omega | ((repeat' apply And.intro) <;> first | omega | (intros; rfl))) | (simp [AllC, AllP, addN, cloL, clo, mrgL, mrg, wrapU, Holds] <;> omega)) : AGo P f N n0 k T H R :=
  go_callQ W m 300 h hc hcl hq h1
theorem cx (W : Walk P TT f rs) (m : Nat) {cs : List Prop} {g : FuncId} {args : List AV} {dst : Option Nat} {k' : List Item} {T' : Env} {H' : AHeap} {Q : AV → AHeap → Prop}
    (h : exec TT N rs m 300 [] k T H = .call cs g args dst k' T' H') (hcl : cloL args = true) (hq : AFun P g args [] Q) (hfl : ∀ u H2, Q u H2 → flat u = true ∧ flatH H2)
    (h1 : ∀ u H2, Q u H2 → ∃ T1 H1, dstM N dst (shf (lenM H') u) T' = some T1 ∧ appM H' (H2.map (shfB (lenM H'))) = some H1 ∧ AGo P f N n0 k' T1 H1 R) (hc : AllC cs := by first | exact True.intro | (simp only [AllC, AllP, addN, Int.toNat_natCast, true_and, and_true, Option.getD, List.length_set, wrapU, pw1, pw7, pw8, pw16, pw23, pw32, pw52, Holds] <;> first | omega | ((repeat' apply And.intro) <;> first | omega | (intros; rfl))) | (simp [AllC, AllP, addN, cloL, clo, mrgL, mrg, wrapU, Holds] <;> omega)) : AGo P f N n0 k T H R :=
  go_callX W m 300 h hc hcl hq hfl h1
theorem cb (W : Walk P TT f rs) (m : Nat) {cs : List Prop} {g : FuncId} {args args' : List AV} {dst : Option Nat} {k' : List Item} {T' T1 : Env} {H' : AHeap} {ss : List Prop} {u : AV}
    (h : exec TT N rs m 300 [] k T H = .call cs g args dst k' T' H') (e : mapF (frz (fun _ => true) H' 9) args = some (ss, args')) (hcl : cloL args' = true) (hn : nofm u = true)
    (hq : AFunP P g args' (· = u)) (e2 : dstM N dst u T' = some T1) (h1 : AGo P f N n0 k' T1 H' R) (hc : AllC cs := by first | exact True.intro | (simp only [AllC, AllP, addN, Int.toNat_natCast, true_and, and_true, Option.getD, List.length_set, wrapU, pw1, pw7, pw8, pw16, pw23, pw32, pw52, Holds] <;> first | omega | ((repeat' apply And.intro) <;> first | omega | (intros; rfl))) | (simp [AllC, AllP, addN, cloL, clo, mrgL, mrg, wrapU, Holds] <;> omega)) (c1 : AllC ss := by first | exact True.intro | (simp only [AllC, AllP, addN, Int.toNat_natCast, true_and, and_true, Option.getD, List.length_set, wrapU, pw1, pw7, pw8, pw16, pw23, pw32, pw52, Holds] <;> first | omega | ((repeat' apply And.intro) <;> first | omega | (intros; rfl))) | (simp [AllC, AllP, addN, cloL, clo, mrgL, mrg, wrapU, Holds] <;> omega)) : AGo P f N n0 k T H R :=
  go_callB W m 300 h hc e c1 hcl hn hq e2 h1
theorem cm (W : Walk P TT f rs) (m : Nat) (ρ : List (Nat × Nat)) {cs : List Prop} {g : FuncId} {args args' : List AV} {dst : Option Nat} {k' : List Item} {T' : Env} {H' : AHeap} {blks : List ABlk} {Q : AV → List ABlk → Prop}
    (h : exec TT N rs m 300 [] k T H = .call cs g args dst k' T' H') (hq : AFunM P g args' blks Q) (hb : getAll ρ blks H') (hρ : distP ρ = true) (e : renL ρ args = some args') (hbc : bcloL blks = true)
    (h1 : ∀ u blks', Q u blks' → ∃ T1 H1, dstM N dst u T' = some T1 ∧ setAll ρ blks' H' = some H1 ∧ AGo P f N n0 k' T1 H1 R) (hc : AllC cs := by first | exact True.intro | (simp only [AllC, AllP, addN, Int.toNat_natCast, true_and, and_true, Option.getD, List.length_set, wrapU, pw1, pw7, pw8, pw16, pw23, pw32, pw52, Holds] <;> first | omega | ((repeat' apply And.intro) <;> first | omega | (intros; rfl))) | (simp [AllC, AllP, addN, cloL, clo, mrgL, mrg, wrapU, Holds] <;> omega)) : AGo P f N n0 k T H R :=
  go_callM W m 300 ρ h hc hq hb hρ e hbc h1
/-- The same of blocks whose rows a function says. -/
theorem cmT (W : Walk P TT f rs) (m : Nat) (ρ : List (Nat × Nat)) {cs : List Prop} {g : FuncId} {args args' : List AV} {dst : Option Nat} {k' : List Item} {T' : Env} {H' : AHeap} {blks : List ABlk} {Q : AV → List ABlk → Prop}
    (h : exec TT N rs m 300 [] k T H = .call cs g args dst k' T' H') (hq : AFunM P g args' blks Q) (hb : getAll ρ blks H') (hρ : distP ρ = true) (e : renL ρ args = some args') (hbc : BC blks)
    (h1 : ∀ u blks', Q u blks' → ∃ T1 H1, dstM N dst u T' = some T1 ∧ setAll ρ blks' H' = some H1 ∧ AGo P f N n0 k' T1 H1 R) (hc : AllC cs := by first | exact True.intro | (simp only [AllC, AllP, addN, Int.toNat_natCast, true_and, and_true, Option.getD, List.length_set, wrapU, pw1, pw7, pw8, pw16, pw23, pw32, pw52, Holds] <;> first | omega | ((repeat' apply And.intro) <;> first | omega | (intros; rfl))) | (simp [AllC, AllP, addN, cloL, clo, mrgL, mrg, wrapU, Holds] <;> omega)) : AGo P f N n0 k T H R :=
  go_callMT W m 300 ρ h hc hq hb hρ e hbc h1
theorem rmT (W : Walk P TT f rs) (m : Nat) (blks : List ABlk) {nb : Nat} {Q : AV → List ABlk → Prop} {cs : List Prop} {v u : AV} {H' H2 : AHeap} {ps qs : List Prop} (h : exec TT N rs m 300 [] k T H = .ret cs v H')
    (hf : frz (geM nb) H' 9 v = some (ps, u)) (hh : frzH (geM nb) H' 9 0 H' = some (qs, H2)) (hb : firstM H2 blks) (hbc : BC blks) (hl : blks.length = nb)
    (spec : AV) (hcl : clo spec = true) (hs : Sub u spec) (hQ : Q spec blks) (hc : AllC cs := by first | exact True.intro | (simp only [AllC, AllP, addN, Int.toNat_natCast, true_and, and_true, Option.getD, List.length_set, wrapU, pw1, pw7, pw8, pw16, pw23, pw32, pw52, Holds] <;> first | omega | ((repeat' apply And.intro) <;> first | omega | (intros; rfl))) | (simp [AllC, AllP, addN, cloL, clo, mrgL, mrg, wrapU, Holds] <;> omega)) (hp : AllC ps := by first | exact True.intro | (simp only [AllC, AllP, addN, Int.toNat_natCast, true_and, and_true, Option.getD, List.length_set, wrapU, pw1, pw7, pw8, pw16, pw23, pw32, pw52, Holds] <;> first | omega | ((repeat' apply And.intro) <;> first | omega | (intros; rfl))) | (simp [AllC, AllP, addN, cloL, clo, mrgL, mrg, wrapU, Holds] <;> omega)) (hq : AllC qs := by first | exact True.intro | (simp only [AllC, AllP, addN, Int.toNat_natCast, true_and, and_true, Option.getD, List.length_set, wrapU, pw1, pw7, pw8, pw16, pw23, pw32, pw52, Holds] <;> first | omega | ((repeat' apply And.intro) <;> first | omega | (intros; rfl))) | (simp [AllC, AllP, addN, cloL, clo, mrgL, mrg, wrapU, Holds] <;> omega)) : AGo P f N n0 k T H (Writes nb Q) :=
  go_retMT W m 300 h hc hf hp hh hq hb hbc hl spec hcl hs hQ
theorem cp (W : Walk P TT f rs) (m : Nat) (bs ds : List Nat) {cs : List Prop} {g : FuncId} {args args' : List AV} {dst : Option Nat} {k' : List Item} {T' T1 T2 : Env} {H' H2 : AHeap}
    {ps qs ss : List Prop} (h : exec TT N rs m 300 [] k T H = .call cs g args dst k' T' H') (e1 : keepM T' ds = some T1) (e2 : frzT (memM bs) H' 9 T1 = some (ps, T2)) (e3 : frzH (memM bs) H' 9 0 H' = some (qs, H2))
    (e4 : mapF (frz (memM bs) H' 9) args = some (ss, args')) (e5 : cloL args' = true) {Q : AV → Prop} (hq : AFunP P g args' Q)
    (h1 : ∀ v, Q v → ∃ T3, dstM N dst v T2 = some T3 ∧ AGo P f N n0 k' T3 H2 R) (hc : AllC cs := by first | exact True.intro | (simp only [AllC, AllP, addN, Int.toNat_natCast, true_and, and_true, Option.getD, List.length_set, wrapU, pw1, pw7, pw8, pw16, pw23, pw32, pw52, Holds] <;> first | omega | ((repeat' apply And.intro) <;> first | omega | (intros; rfl))) | (simp [AllC, AllP, addN, cloL, clo, mrgL, mrg, wrapU, Holds] <;> omega)) (c1 : AllC ps := by first | exact True.intro | (simp only [AllC, AllP, addN, Int.toNat_natCast, true_and, and_true, Option.getD, List.length_set, wrapU, pw1, pw7, pw8, pw16, pw23, pw32, pw52, Holds] <;> first | omega | ((repeat' apply And.intro) <;> first | omega | (intros; rfl))) | (simp [AllC, AllP, addN, cloL, clo, mrgL, mrg, wrapU, Holds] <;> omega)) (c2 : AllC qs := by first | exact True.intro | (simp only [AllC, AllP, addN, Int.toNat_natCast, true_and, and_true, Option.getD, List.length_set, wrapU, pw1, pw7, pw8, pw16, pw23, pw32, pw52, Holds] <;> first | omega | ((repeat' apply And.intro) <;> first | omega | (intros; rfl))) | (simp [AllC, AllP, addN, cloL, clo, mrgL, mrg, wrapU, Holds] <;> omega)) (c3 : AllC ss := by first | exact True.intro | (simp only [AllC, AllP, addN, Int.toNat_natCast, true_and, and_true, Option.getD, List.length_set, wrapU, pw1, pw7, pw8, pw16, pw23, pw32, pw52, Holds] <;> first | omega | ((repeat' apply And.intro) <;> first | omega | (intros; rfl))) | (simp [AllC, AllP, addN, cloL, clo, mrgL, mrg, wrapU, Holds] <;> omega)) : AGo P f N n0 k T H R :=
  go_callP W m 300 bs ds h e1 e2 e3 e4 e5 hc c1 c2 c3 hq h1
theorem rp (W : Walk P TT f rs) (m : Nat) {cs : List Prop} {v u spec : AV} {H' : AHeap} {ps : List Prop} (h : exec TT N rs m 300 [] k T H = .ret cs v H')
    (hf : frz (fun _ => true) H' 9 v = some (ps, u)) (hcl : clo spec = true) (hs : Sub u spec) (hc : AllC cs := by first | exact True.intro | (simp only [AllC, AllP, addN, Int.toNat_natCast, true_and, and_true, Option.getD, List.length_set, wrapU, pw1, pw7, pw8, pw16, pw23, pw32, pw52, Holds] <;> first | omega | ((repeat' apply And.intro) <;> first | omega | (intros; rfl))) | (simp [AllC, AllP, addN, cloL, clo, mrgL, mrg, wrapU, Holds] <;> omega)) (hp : AllC ps := by first | exact True.intro | (simp only [AllC, AllP, addN, Int.toNat_natCast, true_and, and_true, Option.getD, List.length_set, wrapU, pw1, pw7, pw8, pw16, pw23, pw32, pw52, Holds] <;> first | omega | ((repeat' apply And.intro) <;> first | omega | (intros; rfl))) | (simp [AllC, AllP, addN, cloL, clo, mrgL, mrg, wrapU, Holds] <;> omega)) : AGo P f N n0 k T H (Pure (· = spec)) :=
  go_retP W m 300 h hc hf hp hcl hs
theorem rq (W : Walk P TT f rs) (m : Nat) {Q : AV → Prop} {cs : List Prop} {v u : AV} {H' : AHeap} {ps : List Prop} (h : exec TT N rs m 300 [] k T H = .ret cs v H')
    (hf : frz (fun _ => true) H' 9 v = some (ps, u)) (spec : AV) (hq : Q spec) (hcl : clo spec = true) (hs : Sub u spec) (hc : AllC cs := by first | exact True.intro | (simp only [AllC, AllP, addN, Int.toNat_natCast, true_and, and_true, Option.getD, List.length_set, wrapU, pw1, pw7, pw8, pw16, pw23, pw32, pw52, Holds] <;> first | omega | ((repeat' apply And.intro) <;> first | omega | (intros; rfl))) | (simp [AllC, AllP, addN, cloL, clo, mrgL, mrg, wrapU, Holds] <;> omega)) (hp : AllC ps := by first | exact True.intro | (simp only [AllC, AllP, addN, Int.toNat_natCast, true_and, and_true, Option.getD, List.length_set, wrapU, pw1, pw7, pw8, pw16, pw23, pw32, pw52, Holds] <;> first | omega | ((repeat' apply And.intro) <;> first | omega | (intros; rfl))) | (simp [AllC, AllP, addN, cloL, clo, mrgL, mrg, wrapU, Holds] <;> omega)) : AGo P f N n0 k T H (Pure Q) :=
  go_retQ W m 300 h hc hf hp spec hq hcl hs
theorem rg (W : Walk P TT f rs) (m : Nat) {cs : List Prop} {v : AV} {H' : AHeap} (h : exec TT N rs m 300 [] k T H = .ret cs v H') (hr : R v H') (hc : AllC cs := by first | exact True.intro | (simp only [AllC, AllP, addN, Int.toNat_natCast, true_and, and_true, Option.getD, List.length_set, wrapU, pw1, pw7, pw8, pw16, pw23, pw32, pw52, Holds] <;> first | omega | ((repeat' apply And.intro) <;> first | omega | (intros; rfl))) | (simp [AllC, AllP, addN, cloL, clo, mrgL, mrg, wrapU, Holds] <;> omega)) : AGo P f N n0 k T H R :=
  go_ret W m 300 h hc hr
theorem bd (W : Walk P TT f rs) (m nb : Nat) (ds : List Nat) {cs qs : List Prop} {c : Code} {k' : List Item} {T' T1 : Env} {H' H1 : AHeap} (h : exec TT N rs m 300 [] k T H = .back cs c k' T' H')
    (hk : keepM T' ds = some T1) (e2 : beloT nb T1 = true) (e3 : dropM nb nb H' = some (qs, H1)) (hn : Nat.ble n0 nb = true) (h1 : AGo P f N n0 (.inLoop c :: k') T1 H1 R) (hc : AllC cs := by first | exact True.intro | (simp only [AllC, AllP, addN, Int.toNat_natCast, true_and, and_true, Option.getD, List.length_set, wrapU, pw1, pw7, pw8, pw16, pw23, pw32, pw52, Holds] <;> first | omega | ((repeat' apply And.intro) <;> first | omega | (intros; rfl))) | (simp [AllC, AllP, addN, cloL, clo, mrgL, mrg, wrapU, Holds] <;> omega)) (hq : AllC qs := by simp only [AllC, true_and, and_true] <;> first | exact True.intro | (intros; rfl) | (refine ⟨?_, ?_⟩ <;> intros <;> rfl)) : AGo P f N n0 k T H R :=
  go_backD W m 300 nb ds h hk e2 e3 hn hc hq h1
theorem atl (W : Walk P TT f rs) {cs : List Prop} {k' : List Item} {T' : Env} {H' : AHeap} (h : exec TT N rs 6 300 [] k T H = .stop cs k' T' H') (h1 : AGo P f N n0 k' T' H' R) (hc : AllC cs := by first | exact True.intro | (simp only [AllC, AllP, addN, Int.toNat_natCast, true_and, and_true, Option.getD, List.length_set, wrapU, pw1, pw7, pw8, pw16, pw23, pw32, pw52, Holds] <;> first | omega | ((repeat' apply And.intro) <;> first | omega | (intros; rfl))) | (simp [AllC, AllP, addN, cloL, clo, mrgL, mrg, wrapU, Holds] <;> omega)) : AGo P f N n0 k T H R :=
  go_stop W 6 300 h hc h1
theorem lp (W : Walk P TT f rs) (m : Nat) {σ : Type} (Inv : σ → Env) (Hp : σ → AHeap) (mu : σ → Nat) (ok : σ → Prop) (s0 : σ) (ds : List Nat) {cs : List Prop} {c : Code} {k' : List Item} {T' : Env} {H' : AHeap}
    (h : exec TT N rs m 300 [] k T H = .loop cs c k' T' H') (hk : keepM T' ds = some (Inv s0)) (hH : H' = Hp s0) (h0 : ok s0)
    (hs : ∀ s, ok s → (∀ s', ok s' → mu s' < mu s → AGo P f N n0 (.inLoop c :: k') (Inv s') (Hp s') R) → AGo P f N n0 (.code c :: .inLoop c :: k') (Inv s) (Hp s) R) (hc : AllC cs := by first | exact True.intro | (simp only [AllC, AllP, addN, Int.toNat_natCast, true_and, and_true, Option.getD, List.length_set, wrapU, pw1, pw7, pw8, pw16, pw23, pw32, pw52, Holds] <;> first | omega | ((repeat' apply And.intro) <;> first | omega | (intros; rfl))) | (simp [AllC, AllP, addN, cloL, clo, mrgL, mrg, wrapU, Holds] <;> omega)) : AGo P f N n0 k T H R :=
  go_loop W m 300 Inv Hp mu ok s0 ds h hk hH hc h0 hs
theorem dre (W : Walk P TT f rs) (m nf : Nat) (hs : List (Nat × Bool)) (us : List AV) {cs : List Prop} {id : Nat} {ops : Array Oper} {k' : List Item} {T' T2 : Env} {H' : AHeap} {ps : List Prop} {cl : List CallM}
    {vs : List (Option Nat × AV)} (h : exec TT N rs m 300 [] k T H = .draw cs (.code (.region id ops true) :: k') T' H')
    (hd : drawM TT (modeM m) ops.toList (dropD (dstsM nf ops.toList) T') H' hs nf 0 [] us = some (ps, cl, vs))
    (hst : (backAll 0 ops.toList && lastAll ops.toList (lenM ops.toList - nf) nf && Nat.ble nf (lenM ops.toList) && distD (dstsM nf ops.toList) && allLt N (dstsM nf ops.toList)) = true)
    (hcl : AllCalls P H' cl) (e : TS (fun _ => true) 0 vs T' = T2) (h1 : AGo P f N n0 (.inRegion ops (upFrom nf (lenM ops.toList - nf)) :: k') T2 H' R) (hc : AllC cs := by first | exact True.intro | (simp only [AllC, AllP, addN, Int.toNat_natCast, true_and, and_true, Option.getD, List.length_set, wrapU, pw1, pw7, pw8, pw16, pw23, pw32, pw52, Holds] <;> first | omega | ((repeat' apply And.intro) <;> first | omega | (intros; rfl))) | (simp [AllC, AllP, addN, cloL, clo, mrgL, mrg, wrapU, Holds] <;> omega)) (hp : AllP ps := by first | exact True.intro | (simp only [AllC, AllP, addN, Int.toNat_natCast, true_and, and_true, Option.getD, List.length_set, wrapU, pw1, pw7, pw8, pw16, pw23, pw32, pw52, Holds] <;> first | omega | ((repeat' apply And.intro) <;> first | omega | (intros; rfl))) | (simp [AllC, AllP, addN, cloL, clo, mrgL, mrg, wrapU, Holds] <;> omega)) : AGo P f N n0 k T H R :=
  go_draw W m 300 h hc (go_drawE W (modeM m) 300 nf hs us (cs := []) (id := id) rfl trivial hd hst hp hcl e h1)
theorem phg (W : Walk P TT f rs) (m nf : Nat) (pend : List Nat) {cs : List Prop} {id : Nat} {ops : Array Oper} {k' : List Item} {T' : Env} {H' : AHeap} (h : exec TT N rs m 300 [] k T H = .draw cs (.code (.region id ops true) :: k') T' H')
    (hst : (stM ops N nf && ltAll (lenM ops.toList) pend) = true) (h1 : PW P TT N ops nf → Ph1 P f N n0 nf ops k' T' R [] pend (upFrom 0 nf) (dstsM nf ops.toList) H') (hc : AllC cs := by first | exact True.intro | (simp only [AllC, AllP, addN, Int.toNat_natCast, true_and, and_true, Option.getD, List.length_set, wrapU, pw1, pw7, pw8, pw16, pw23, pw32, pw52, Holds] <;> first | omega | ((repeat' apply And.intro) <;> first | omega | (intros; rfl))) | (simp [AllC, AllP, addN, cloL, clo, mrgL, mrg, wrapU, Holds] <;> omega)) : AGo P f N n0 k T H R :=
  go_ph W m 300 nf pend h hc hst h1
variable {nf : Nat} {ops : Array Oper} {past op pend' : List Nat} {vin ws vs' : List (Option Nat × AV)} {ps : List Prop} {cl : List CallM}
theorem pho (W : PW P TT N ops nf) (m e : Nat) (hs : List (Nat × Bool)) (us : List AV) {d : Option Nat} {C : Prop} {v : AV} {H1 : AHeap}
    (hd : phM TT m ops.toList (dropD (dstsM nf ops.toList) T) H hs past (needsAll ops.toList past []) (e :: pend') op vin nf 0 [] us = some (ps, cl, ws)) (hch : (chainM ops.toList nf e pend' && subM (e :: pend') op) = true) (hcl : AllCalls P H cl)
    (he : effM TT m ops.toList (dropD (dstsM nf ops.toList) T) ws H e = some (d, C, v, H1)) (hset : setM (d, v) ws e = some vs') (next : Ph1 P f N n0 nf ops k T R (e :: past) pend' (e :: pend') vs' H1) (hp : AllP ps := by first | exact True.intro | (simp only [AllC, AllP, addN, Int.toNat_natCast, true_and, and_true, Option.getD, List.length_set, wrapU, pw1, pw7, pw8, pw16, pw23, pw32, pw52, Holds] <;> first | omega | ((repeat' apply And.intro) <;> first | omega | (intros; rfl))) | (simp [AllC, AllP, addN, cloL, clo, mrgL, mrg, wrapU, Holds] <;> omega)) (hC : Holds C := by first | exact True.intro | (simp only [AllC, AllP, addN, Int.toNat_natCast, true_and, and_true, Option.getD, List.length_set, wrapU, pw1, pw7, pw8, pw16, pw23, pw32, pw52, Holds] <;> first | omega | ((repeat' apply And.intro) <;> first | omega | (intros; rfl))) | (simp [AllC, AllP, addN, cloL, clo, mrgL, mrg, wrapU, Holds] <;> omega)) : Ph1 P f N n0 nf ops k T R past (e :: pend') op vin H :=
  ph_op W m e hs us hd hch hp hcl he hC hset next
theorem phe (W : PW P TT N ops nf) (m : Nat) (hs : List (Nat × Bool)) (us : List AV) {T2 : Env}
    (hd : phM TT m ops.toList (dropD (dstsM nf ops.toList) T) H hs past (needsAll ops.toList past []) [] op vin nf 0 [] us = some (ps, cl, ws)) (hcl : AllCalls P H cl) (e : TS (fun _ => true) 0 ws T = T2)
    (h1 : AGo P f N n0 (.inRegion ops (upFrom nf (lenM ops.toList - nf)) :: k) T2 H R) (hp : AllP ps := by first | exact True.intro | (simp only [AllC, AllP, addN, Int.toNat_natCast, true_and, and_true, Option.getD, List.length_set, wrapU, pw1, pw7, pw8, pw16, pw23, pw32, pw52, Holds] <;> first | omega | ((repeat' apply And.intro) <;> first | omega | (intros; rfl))) | (simp [AllC, AllP, addN, cloL, clo, mrgL, mrg, wrapU, Holds] <;> omega)) : Ph1 P f N n0 nf ops k T R past [] op vin H :=
  ph_end W m hs us hd hp hcl e h1

end Pf
/- The types of the program that are known here. -/
namespace Pf
open Go Go.Proofs
def ttree : TTree := (.node 86 (.node 34 (.node 21 (.node 9 (.node 4 (.node 3 (.one 2 ⟨1, 8, [(.int .i64 0)], (.int .i64), false⟩) (.one 3 ⟨1, 8, [(.int .i64 0)], (.int .i64), false⟩)) (.node 5 (.one 4 ⟨1, 1, [.bool false], .bool, false⟩) (.one 5 ⟨1, 1, [(.int .u8 0)], (.int .u8), false⟩))) (.node 17 (.node 12 (.one 9 ⟨1, 16, [.str []], .string, false⟩) (.one 12 ⟨1, 8, [(.int .u64 0)], (.int .u64), false⟩)) (.node 20 (.one 17 ⟨1, 8, [.nilp], (.pointer 206), false⟩) (.one 20 ⟨1, 16, [.nili], .iface, false⟩)))) (.node 30 (.node 23 (.node 22 (.one 21 ⟨1, 4, [(.int .i32 0)], (.int .i32), false⟩) (.one 22 ⟨1, 24, [.nils], (.slice 70), false⟩)) (.node 24 (.one 23 ⟨1, 24, [.nils], (.struct [(0, 22)]), false⟩) (.one 24 ⟨1, 24, [.nils], (.struct [(0, 22)]), false⟩))) (.node 32 (.node 31 (.one 30 ⟨1, 24, [.nils], (.slice 114), false⟩) (.one 31 ⟨1, 24, [.nils], (.slice 121), false⟩)) (.node 33 (.one 32 ⟨3, 56, [(.int .i64 0), .nils, .nils], (.struct [(0, 3), (1, 30), (2, 31)]), false⟩) (.one 33 ⟨3, 56, [(.int .i64 0), .nils, .nils], (.struct [(0, 3), (1, 30), (2, 31)]), false⟩))))) (.node 68 (.node 42 (.node 40 (.node 39 (.one 34 ⟨1, 24, [.nils], (.slice 9), false⟩) (.one 39 ⟨1, 24, [.nils], (.slice 68), false⟩)) (.node 41 (.one 40 ⟨1, 24, [.nils], (.slice 82), false⟩) (.one 41 ⟨3, 56, [(.int .i64 0), .nils, .nils], (.struct [(0, 3), (1, 39), (2, 40)]), false⟩))) (.node 66 (.node 51 (.one 42 ⟨3, 56, [(.int .i64 0), .nils, .nils], (.struct [(0, 3), (1, 39), (2, 40)]), false⟩) (.one 51 ⟨1, 24, [.nils], (.slice 99), false⟩)) (.node 67 (.one 66 ⟨1, 24, [.nils], (.slice 22), false⟩) (.one 67 ⟨5, 48, [(.int .i64 0), (.int .i64 0), (.int .i64 0), (.int .i64 0), .str []], (.struct [(0, 3), (1, 3), (2, 3), (3, 3), (4, 9)]), true⟩)))) (.node 81 (.node 70 (.node 69 (.one 68 ⟨5, 48, [(.int .i64 0), (.int .i64 0), (.int .i64 0), (.int .i64 0), .str []], (.struct [(0, 3), (1, 3), (2, 3), (3, 3), (4, 9)]), true⟩) (.one 69 ⟨3, 32, [(.int .i64 0), (.int .i64 0), .str []], (.struct [(0, 3), (1, 3), (2, 9)]), true⟩)) (.node 71 (.one 70 ⟨3, 32, [(.int .i64 0), (.int .i64 0), .str []], (.struct [(0, 3), (1, 3), (2, 9)]), true⟩) (.one 71 ⟨1, 24, [.nils], (.slice 3), false⟩))) (.node 83 (.node 82 (.one 81 ⟨3, 24, [(.int .i64 0), (.int .i64 0), (.int .i64 0)], (.struct [(0, 3), (1, 3), (2, 3)]), true⟩) (.one 82 ⟨3, 24, [(.int .i64 0), (.int .i64 0), (.int .i64 0)], (.struct [(0, 3), (1, 3), (2, 3)]), true⟩)) (.node 84 (.one 83 ⟨1, 8, [.nilp], (.pointer 86), false⟩) (.node 85 (.one 84 ⟨1, 24, [.nils], (.slice 5), false⟩) (.one 85 ⟨2, 32, [.nilp, .nils], (.struct [(0, 83), (1, 84)]), false⟩))))))) (.node 122 (.node 101 (.node 91 (.node 88 (.node 87 (.one 86 ⟨2, 32, [.nilp, .nils], (.struct [(0, 83), (1, 84)]), false⟩) (.one 87 ⟨1, 24, [.nils], (.slice 89), false⟩)) (.node 89 (.one 88 ⟨2, 24, [.str [], (.int .i64 0)], (.struct [(0, 9), (1, 3)]), true⟩) (.one 89 ⟨2, 24, [.str [], (.int .i64 0)], (.struct [(0, 9), (1, 3)]), true⟩))) (.node 98 (.node 92 (.one 91 ⟨1, 16, [.nili], .iface, false⟩) (.one 92 ⟨1, 16, [.nili], .iface, false⟩)) (.node 99 (.one 98 ⟨2, 24, [(.int .i64 0), .str []], (.struct [(0, 3), (1, 9)]), true⟩) (.one 99 ⟨2, 24, [(.int .i64 0), .str []], (.struct [(0, 3), (1, 9)]), true⟩)))) (.node 110 (.node 103 (.node 102 (.one 101 ⟨1, 8, [.nilp], (.pointer 103), false⟩) (.one 102 ⟨5, 64, [.nils, (.int .i64 0), .nils, .bool false, .bool false], (.struct [(0, 51), (1, 3), (2, 22), (3, 4), (4, 4)]), false⟩)) (.node 109 (.one 103 ⟨5, 64, [.nils, (.int .i64 0), .nils, .bool false, .bool false], (.struct [(0, 51), (1, 3), (2, 22), (3, 4), (4, 4)]), false⟩) (.one 109 ⟨1, 8, [.nilp], (.pointer 111), false⟩))) (.node 114 (.node 111 (.one 110 ⟨4, 56, [.nils, .nils, .bool false, .bool false], (.struct [(0, 51), (1, 22), (2, 4), (3, 4)]), false⟩) (.one 111 ⟨4, 56, [.nils, .nils, .bool false, .bool false], (.struct [(0, 51), (1, 22), (2, 4), (3, 4)]), false⟩)) (.node 121 (.one 114 ⟨5, 48, [(.int .i64 0), (.int .i64 0), (.int .i64 0), (.int .i64 0), .str []], (.struct [(0, 3), (1, 3), (2, 3), (3, 3), (4, 9)]), true⟩) (.one 121 ⟨3, 24, [(.int .i64 0), (.int .i64 0), (.int .i64 0)], (.struct [(0, 3), (1, 3), (2, 3)]), true⟩))))) (.node 180 (.node 160 (.node 136 (.node 133 (.one 122 ⟨1, 8, [.top], (.map 68 4), false⟩) (.one 133 ⟨1, 8, [(.int .u64 0)], (.int .u64), false⟩)) (.node 157 (.one 136 ⟨1, 8, [.nilp], (.pointer 5), false⟩) (.one 157 ⟨1, 8, [(.int .u64 0)], (.int .u64), false⟩))) (.node 172 (.node 168 (.one 160 ⟨24, 24, [(.int .u8 0), (.int .u8 0), (.int .u8 0), (.int .u8 0), (.int .u8 0), (.int .u8 0), (.int .u8 0), (.int .u8 0), (.int .u8 0), (.int .u8 0), (.int .u8 0), (.int .u8 0), (.int .u8 0), (.int .u8 0), (.int .u8 0), (.int .u8 0), (.int .u8 0), (.int .u8 0), (.int .u8 0), (.int .u8 0), (.int .u8 0), (.int .u8 0), (.int .u8 0), (.int .u8 0)], (.array 24 5), false⟩) (.one 168 ⟨1, 4, [(.int .u32 0)], (.int .u32), false⟩)) (.node 174 (.one 172 ⟨1, 8, [.top], (.map 9 3), false⟩) (.one 174 ⟨20, 160, [(.int .u64 0), (.int .u64 0), (.int .u64 0), (.int .u64 0), (.int .u64 0), (.int .u64 0), (.int .u64 0), (.int .u64 0), (.int .u64 0), (.int .u64 0), (.int .u64 0), (.int .u64 0), (.int .u64 0), (.int .u64 0), (.int .u64 0), (.int .u64 0), (.int .u64 0), (.int .u64 0), (.int .u64 0), (.int .u64 0)], (.array 20 133), false⟩)))) (.node 190 (.node 187 (.node 186 (.one 180 ⟨1, 8, [.nilp], (.pointer 187), false⟩) (.one 186 ⟨3, 48, [.str [], .str [], .nili], (.struct [(0, 9), (1, 9), (2, 92)]), false⟩)) (.node 189 (.one 187 ⟨3, 48, [.str [], .str [], .nili], (.struct [(0, 9), (1, 9), (2, 92)]), false⟩) (.one 189 ⟨32, 32, [(.int .u8 0), (.int .u8 0), (.int .u8 0), (.int .u8 0), (.int .u8 0), (.int .u8 0), (.int .u8 0), (.int .u8 0), (.int .u8 0), (.int .u8 0), (.int .u8 0), (.int .u8 0), (.int .u8 0), (.int .u8 0), (.int .u8 0), (.int .u8 0), (.int .u8 0), (.int .u8 0), (.int .u8 0), (.int .u8 0), (.int .u8 0), (.int .u8 0), (.int .u8 0), (.int .u8 0), (.int .u8 0), (.int .u8 0), (.int .u8 0), (.int .u8 0), (.int .u8 0), (.int .u8 0), (.int .u8 0), (.int .u8 0)], (.array 32 5), false⟩))) (.node 193 (.node 192 (.one 190 ⟨64, 64, [(.int .u8 0), (.int .u8 0), (.int .u8 0), (.int .u8 0), (.int .u8 0), (.int .u8 0), (.int .u8 0), (.int .u8 0), (.int .u8 0), (.int .u8 0), (.int .u8 0), (.int .u8 0), (.int .u8 0), (.int .u8 0), (.int .u8 0), (.int .u8 0), (.int .u8 0), (.int .u8 0), (.int .u8 0), (.int .u8 0), (.int .u8 0), (.int .u8 0), (.int .u8 0), (.int .u8 0), (.int .u8 0), (.int .u8 0), (.int .u8 0), (.int .u8 0), (.int .u8 0), (.int .u8 0), (.int .u8 0), (.int .u8 0), (.int .u8 0), (.int .u8 0), (.int .u8 0), (.int .u8 0), (.int .u8 0), (.int .u8 0), (.int .u8 0), (.int .u8 0), (.int .u8 0), (.int .u8 0), (.int .u8 0), (.int .u8 0), (.int .u8 0), (.int .u8 0), (.int .u8 0), (.int .u8 0), (.int .u8 0), (.int .u8 0), (.int .u8 0), (.int .u8 0), (.int .u8 0), (.int .u8 0), (.int .u8 0), (.int .u8 0), (.int .u8 0), (.int .u8 0), (.int .u8 0), (.int .u8 0), (.int .u8 0), (.int .u8 0), (.int .u8 0), (.int .u8 0)], (.array 64 5), false⟩) (.one 192 ⟨1, 8, [.nilp], (.pointer 194), false⟩)) (.node 194 (.one 193 ⟨1, 16, [.str []], (.struct [(0, 9)]), true⟩) (.node 205 (.one 194 ⟨1, 16, [.str []], (.struct [(0, 9)]), true⟩) (.one 205 ⟨11, 48, [(.int .u64 0), (.int .u64 0), (.int .u32 0), (.int .u8 0), (.int .u8 0), (.int .u8 0), (.int .u8 0), .nilf, .nilp, (.int .i32 0), (.int .i32 0)], (.struct [(0, 12), (1, 12), (2, 168), (3, 200), (4, 5), (5, 5), (6, 201), (7, 202), (8, 136), (9, 203), (10, 204)]), false⟩))))))))
/-- The types that are known here. -/
abbrev TT : TypeId → Option TI := ttree.get
theorem TT_ok : TTok Tryz.prog TT := TTree.get_ok (by kernel_rfl)
end Pf
/- The bits of floats, and pairs. -/
namespace Pf
open Go Go.Proofs


theorem in_ok (n lo hi : Int) : AFunP Tryz.prog 38 [.int .i64 n, .int .i64 lo, .int .i64 hi] (· = .pr (lo ≤ n ∧ n ≤ hi)) := by
  refine afun_of Tryz.func38 Tryz.call38 rfl Tryz.ntmps38 rfl ?_
  have W : Walk Tryz.prog TT 38 _ := Walk.of TT_ok Tryz.func38 Tryz.results38
  refine go_split W 0 100 rfl rfl rfl trivial (fun h => ?_) (fun h => ?_)
  · exact go_retP W 0 100 rfl trivial rfl trivial rfl (.pr (by simp [h]))
  · exact go_retP W 0 100 rfl trivial rfl trivial rfl (.no (by simp [h]))

/-- The greatest order number of a width. -/
def top (w : Int) : Int := if w = 32 then 2139095040 else if w = 64 then 9218868437227405312 else 0
def fmt (w : Int) : List AV := if w = 32 then [.int .i64 23, .int .i64 (-149), .int .i64 127, .int .i64 2139095040] else if w = 64 then [.int .i64 52, .int .i64 (-1074), .int .i64 1023, .int .i64 9218868437227405312] else [.int .i64 0, .int .i64 0, .int .i64 0, .int .i64 0]
def frac (w : Int) : Int := if w = 32 then 23 else if w = 64 then 52 else 0
def least (w : Int) : Int := if w = 32 then -149 else if w = 64 then -1074 else 0
def greatest (w : Int) : Int := if w = 32 then 127 else if w = 64 then 1023 else 0
def bitOk (w n : Int) : Prop := (w = 32 ∨ w = 64) ∧ -top w ≤ n ∧ n ≤ top w
def pairOk (w lo hi : Int) : Prop := bitOk w lo ∧ bitOk w hi ∧ lo ≤ hi ∧ lo ≠ top w ∧ hi ≠ -top w
end Pf
/- What the laws do with lists of whole numbers. -/
namespace Pf
open Go Go.Proofs

def marks (k : Int) (n : Nat) : List Int := (List.range n).map fun i : Nat => k + (i : Int)
/-- New whole numbers, at the block 0. -/
def NewI (l : List Int) (u : AV) (H : AHeap) : Prop := u = .sl 0 0 0 l.length ∧ H = [.ints 0 .i64 l]

end Pf
/- What the laws do with fractions. -/
namespace Pf
open Go Go.Proofs

/-- A fraction, all read only. -/
def frF (p : Prop) (t d : List Int) : AV := .agg [.pr p, .fi .i64 t, .fi .i64 d]
def szF (n : Int) (t d : List Int) : Int := if n < t.length then -1 else if n - t.length < d.length then -1 else n - t.length - d.length

def NewF (p : Prop) (t d : List Int) (u : AV) (H : AHeap) : Prop := u = .agg [.pr p, .sl 0 0 0 t.length, .sl 1 0 0 d.length] ∧ H = [.ints 0 .i64 t, .ints 0 .i64 d]
end Pf
/- Whole numbers by their digits to the base 65536. -/
namespace Pf

/-- The digits of a number, the least first. -/
def dig (n : Nat) : List Int := if h : n = 0 then [] else ((n % 65536 : Nat) : Int) :: dig (n / 65536)
termination_by n
decreasing_by omega
/-- The number of digits. -/
def val : List Int → Int
  | [] => 0
  | d :: l => d + 65536 * val l
/-- Digits, all in range. -/
def Dgs (l : List Int) : Prop := ∀ d ∈ l, 0 ≤ d ∧ d < 65536

theorem Dgs.nil : Dgs [] := fun d h => by simp at h
theorem Dgs.cons {d : Int} {l : List Int} (h0 : 0 ≤ d) (h1 : d < 65536) (h : Dgs l) : Dgs (d :: l) := by
  intro e he
  rcases List.mem_cons.1 he with rfl | he
  · exact ⟨h0, h1⟩
  · exact h e he
theorem Dgs.head {d : Int} {l : List Int} (h : Dgs (d :: l)) : 0 ≤ d ∧ d < 65536 := h d (by simp)
theorem Dgs.tail {d : Int} {l : List Int} (h : Dgs (d :: l)) : Dgs l := fun e he => h e (by simp [he])
theorem Dgs.app {l m : List Int} (h : Dgs l) (k : Dgs m) : Dgs (l ++ m) := by
  intro e he
  rcases List.mem_append.1 he with he | he
  · exact h e he
  · exact k e he
theorem Dgs.get {l : List Int} (h : Dgs l) (i : Nat) : 0 ≤ l.getD i 0 ∧ l.getD i 0 < 65536 := by
  rw [List.getD_eq_getElem?_getD]
  cases hi : l[i]? with
  | none => simp
  | some d => simpa using h d (List.mem_of_getElem? hi)
theorem Dgs.take {l : List Int} (h : Dgs l) (n : Nat) : Dgs (l.take n) := fun d hd => h d (List.mem_of_mem_take hd)
theorem Dgs.drop {l : List Int} (h : Dgs l) (n : Nat) : Dgs (l.drop n) := fun d hd => h d (List.mem_of_mem_drop hd)

/-- Noughts behind the last digit dropped. -/
def trimL (l : List Int) : List Int := (l.reverse.dropWhile (· == 0)).reverse
end Pf
/- Whole numbers: the simple functions. -/
namespace Pf
open Go Go.Proofs

/-- -1, 0 or 1. -/
def sgn (n : Int) : Int := max (-1) (min 1 n)
end Pf
/- Whole numbers: sums and products. -/
namespace Pf
open Go Go.Proofs

end Pf
/- Copies. -/
namespace Pf
open Go Go.Proofs

end Pf
/- Bits of numbers, pairs; the model's own. -/
namespace Pf
open Go Go.Proofs
theorem getD_mem {α : Type} {l : List α} {i : Nat} {d : α} (h : i < l.length) : l.getD i d ∈ l := by simp [List.getD_eq_getElem?_getD, h]
theorem mem_getD {α : Type} {l : List α} {a : α} (d : α) (h : a ∈ l) : ∃ i, i < l.length ∧ l.getD i d = a := by
  obtain ⟨i, hi, rfl⟩ := List.getElem_of_mem h
  exact ⟨i, hi, by simp [List.getD_eq_getElem?_getD, hi]⟩

def InI (n : Int) : Prop := -9223372036854775808 ≤ n ∧ n ≤ 9223372036854775807
def meetOk (w : Int) (a b : Int × Int) : Prop := pairOk w a.1 a.2 ∧ pairOk w b.1 b.2 ∧ max a.1 b.1 ≤ min a.2 b.2
open Classical in
noncomputable def pmeet (w : Int) (a b : Int × Int) : Int × Int := if meetOk w a b then (max a.1 b.1, min a.2 b.2) else (0, 0)
def pairV (a : Int × Int) : AV := .agg [.int .i64 a.1, .int .i64 a.2]
/-- How many bits a number has. -/
def bitL (n : Nat) : Nat := if h : n = 0 then 0 else bitL (n / 2) + 1
termination_by n
decreasing_by omega
def bitLen (n : Int) : Int := bitL n.toNat
def bitF : Nat → Nat → Nat
  | 0, _ => 0
  | f + 1, n => match n with | 0 => 0 | n + 1 => bitF f ((n + 1) / 2) + 1
/-- The table of bits/bits_tables.go. -/
def tbl : List UInt8 := [0, 1] ++ List.replicate 2 2 ++ List.replicate 4 3 ++ List.replicate 8 4 ++ List.replicate 16 5 ++ List.replicate 32 6 ++ List.replicate 64 7 ++ List.replicate 128 8
end Pf
/- Effects of a region that come in any order, calls that write among them. -/
namespace Pf
open Go
variable {P : Program} {TT : TypeId → Option TI} {f N n0 : Nat} {k : List Item} {T : Env} {H : AHeap} {R : AV → AHeap → Prop} {nf : Nat} {ops : Array Oper} {past op op' pend' pd : List Nat} {vin ws vs' : List (Option Nat × AV)} {ps : List Prop} {cl : List CallM}

/-- What comes of an effect, it being the next. -/
def Nx (P : Program) (f N n0 nf : Nat) (ops : Array Oper) (k : List Item) (T : Env) (R : AV → AHeap → Prop) (past op' : List Nat) (ws : List (Option Nat × AV)) (H : AHeap) (e : Nat) (pd : List Nat) : Prop :=
  (∃ h : e < ws.length, ∃ o, ops[e]? = some o ∧ o.dst = ws[e].1) → ws.map (·.1) = (dstsM nf ops.toList).map (·.1) → dropD ws T = dropD (dstsM nf ops.toList) T →
    ∃ o Q, ops[e]? = some o ∧ (∃ h : e < ws.length, o.dst = ws[e].1) ∧ EffStep P N ops o (TS (memM (preds ops.toList e)) 0 ws (dropD ws T)) H Q ∧
      ∀ u H1, Q u H1 → Ph P f N n0 ops k T R (e :: past) pd op' (ws.set e (o.dst, u)) H1
/-- The others without one. -/
def dropN (e : Nat) : List Nat → List Nat
  | [] => []
  | p :: ps => match Nat.beq p e with | true => dropN e ps | false => p :: dropN e ps
/-- Does each one to come stand among the first ones, or hang on one of these? -/
def hangM (ops : List Oper) (es : List Nat) : List Nat → Bool
  | [] => true
  | p :: ps => match memM es p with
    | true => hangM ops es ps
    | false => match anyN (needs ops p p []) es with | true => hangM ops es ps | false => false
where
  anyN (ns : List Nat) : List Nat → Bool
    | [] => false
    | e :: es => match memM ns e with | true => true | false => anyN ns es
def allP (Q : Nat → Prop) : List Nat → Prop
  | [] => True
  | e :: es => Q e ∧ allP Q es
def someM : List Nat → Bool
  | [] => false
  | _ :: _ => true
end Pf
/- From a point within a region of unknown order on, nobody writes some blocks. -/
namespace Pf
open Go
variable {P : Program} {TT : TypeId → Option TI} {f N n0 : Nat} {k : List Item} {T : Env} {H : AHeap} {R : AV → AHeap → Prop} {nf : Nat} {ops : Array Oper} {past op pend : List Nat} {vs : List (Option Nat × AV)}

/-- Values that lie in these blocks, as such that nobody writes. -/
def frzV (sel : Nat → Bool) (H : AHeap) (n : Nat) : List (Option Nat × AV) → Option (List Prop × List (Option Nat × AV))
  | [] => some ([], [])
  | (d, v) :: vs => match frz sel H n v with
    | some (ps, u) => match frzV sel H n vs with
      | some (qs, us) => match appM ps qs with | some rs => some (rs, (d, u) :: us) | none => none
      | none => none
    | none => match frzV sel H n vs with
      | some (qs, us) => some (qs, (d, v) :: us)
      | none => none
end Pf
/- Digits, letters, words: both sides -/
namespace Pf
open Go Go.Proofs
/-- Digits and letters. -/
def dB (b : UInt8) : Bool := decide ((48 : Int) ≤ (b.toNat : Int) ∧ (b.toNat : Int) ≤ 57)
def lbB (b : UInt8) : Bool := decide ((97 : Int) ≤ (b.toNat : Int) ∧ (b.toNat : Int) ≤ 122)
theorem dB_iff {b : UInt8} : dB b = true ↔ (48 : Int) ≤ (b.toNat : Int) ∧ (b.toNat : Int) ≤ 57 := by simp [dB]
theorem lbB_iff {b : UInt8} : lbB b = true ↔ (97 : Int) ≤ (b.toNat : Int) ∧ (b.toNat : Int) ≤ 122 := by simp [lbB]
theorem isFigure_ok (n : Int) : AFunP Tryz.prog 67 [.int .u8 n] (· = .pr (48 ≤ n ∧ n ≤ 57)) := by
  refine afun_of Tryz.func67 Tryz.call67 rfl Tryz.ntmps67 rfl ?_
  have W : Walk Tryz.prog TT 67 _ := Walk.of TT_ok Tryz.func67 Tryz.results67
  refine sp W 0 rfl rfl rfl (fun h => ?_) (fun h => ?_)
  · refine rp W 0 rfl rfl rfl (.pr ⟨fun k => ⟨h, k⟩, fun k => k.2⟩)
  · refine rp W 0 rfl rfl rfl (.no (fun k => h k.1))
theorem isLetter_ok (n : Int) : AFunP Tryz.prog 66 [.int .u8 n] (· = .pr (97 ≤ n ∧ n ≤ 122)) := by
  refine afun_of Tryz.func66 Tryz.call66 rfl Tryz.ntmps66 rfl ?_
  have W : Walk Tryz.prog TT 66 _ := Walk.of TT_ok Tryz.func66 Tryz.results66
  refine sp W 0 rfl rfl rfl (fun h => ?_) (fun h => ?_)
  · refine rp W 0 rfl rfl rfl (.pr ⟨fun k => ⟨h, k⟩, fun k => k.2⟩)
  · refine rp W 0 rfl rfl rfl (.no (fun k => h k.1))
theorem l11Digit_ok (n : Int) : AFunP Tryz.prog 58 [.int .u8 n] (· = .pr (48 ≤ n ∧ n ≤ 57)) := by
  refine afun_of Tryz.func58 Tryz.call58 rfl Tryz.ntmps58 rfl ?_
  have W : Walk Tryz.prog TT 58 _ := Walk.of TT_ok Tryz.func58 Tryz.results58
  refine sp W 0 rfl rfl rfl (fun h => ?_) (fun h => ?_)
  · refine rp W 0 rfl rfl rfl (.pr ⟨fun k => ⟨h, k⟩, fun k => k.2⟩)
  · refine rp W 0 rfl rfl rfl (.no (fun k => h k.1))
theorem l11Letter_ok (n : Int) : AFunP Tryz.prog 57 [.int .u8 n] (· = .pr (97 ≤ n ∧ n ≤ 122)) := by
  refine afun_of Tryz.func57 Tryz.call57 rfl Tryz.ntmps57 rfl ?_
  have W : Walk Tryz.prog TT 57 _ := Walk.of TT_ok Tryz.func57 Tryz.results57
  refine sp W 0 rfl rfl rfl (fun h => ?_) (fun h => ?_)
  · refine rp W 0 rfl rfl rfl (.pr ⟨fun k => ⟨h, k⟩, fun k => k.2⟩)
  · refine rp W 0 rfl rfl rfl (.no (fun k => h k.1))
theorem all_getD {p : UInt8 → Bool} {s : List UInt8} : s.all p = true ↔ ∀ j, j < s.length → p (s.getD j 0) = true := by
  rw [List.all_eq_true]
  constructor
  · intro h j hj
    exact h _ (getD_mem hj)
  · intro h x hx
    obtain ⟨j, hj, rfl⟩ := mem_getD 0 hx
    exact h j hj
theorem isDigits_ok (s : List UInt8) (hl : s.length ≤ 9223372036854775806) : AFunP Tryz.prog 137 [.str s] (· = .pr (s ≠ [] ∧ s.all dB = true)) := by
  refine afun_of Tryz.func137 Tryz.call137 rfl Tryz.ntmps137 rfl ?_
  have W : Walk Tryz.prog TT 137 _ := Walk.of TT_ok Tryz.func137 Tryz.results137
  refine lp W 0 (σ := Nat) (fun i => [(0, .str s), (5, .int .i64 s.length), (6, .int .i64 i)]) (fun _ => []) (fun i => s.length - i) (fun i => i ≤ s.length ∧ ∀ j, j < i → dB (s.getD j 0) = true) 0 [0, 5, 6] rfl rfl rfl ⟨Nat.zero_le _, fun j hj => by omega⟩ ?_
  rintro i ⟨hi, he⟩ ih
  refine sp W 0 rfl rfl rfl (fun h2 => ?_) (fun h2 => ?_)
  · have h2 : i < s.length := by omega
    refine sp W 0 rfl rfl rfl (fun h3 => ?_) (fun h3 => ?_)
    · rw [Int.toNat_natCast] at h3
      refine rp W 0 rfl rfl rfl (.no (fun k => by have := dB_iff.1 (all_getD.1 k.2 i h2); omega))
    · refine sp W 0 rfl rfl rfl (fun h4 => ?_) (fun h4 => ?_)
      · rw [Int.toNat_natCast] at h4
        refine rp W 0 rfl rfl rfl (.no (fun k => by have := dB_iff.1 (all_getD.1 k.2 i h2); omega))
      · rw [Int.toNat_natCast] at h3 h4
        refine bd W 0 0 [0, 5, 6] rfl rfl rfl rfl rfl (ih (i + 1) ⟨by omega, fun j hj => ?_⟩ (by omega))
        by_cases hji : j = i
        · subst hji; exact dB_iff.2 ⟨by omega, by omega⟩
        · exact he j (by omega)
  · refine rp W 0 rfl rfl rfl (.pr ⟨fun k => ⟨k, all_getD.2 fun j hj => he j (by omega)⟩, fun k => k.1⟩)
/-- How many digits stand from a place on. -/
def run (s : List UInt8) (f : Nat) : Nat := ((s.drop f).takeWhile dB).length
theorem run_of {s : List UInt8} {f : Nat} : ∀ {i : Nat}, (∀ j, j < i → f + j < s.length ∧ dB (s.getD (f + j) 0) = true) → (f + i < s.length → dB (s.getD (f + i) 0) = false) → run s f = i := by
  unfold run
  suffices h : ∀ (l : List UInt8) (i : Nat), (∀ j, j < i → j < l.length ∧ dB (l.getD j 0) = true) → (i < l.length → dB (l.getD i 0) = false) → (l.takeWhile dB).length = i by
    intro i h1 h2
    have e : ∀ j, (s.drop f).getD j 0 = s.getD (f + j) 0 := fun j => by simp [List.getD_eq_getElem?_getD]
    refine h (s.drop f) i (fun j hj => ⟨by have := (h1 j hj).1; simp; omega, by rw [e]; exact (h1 j hj).2⟩) fun k => by
      rw [e]; exact h2 (by simp at k; omega)
  intro l
  induction l with
  | nil => intro i h1 _; cases i with
    | zero => rfl
    | succ i => have := (h1 0 (by omega)).1; simp at this
  | cons b l ih =>
    intro i h1 h2
    cases i with
    | zero =>
      have := h2 (by simp)
      simp only [List.getD_cons_zero] at this
      simp [this]
    | succ i =>
      have h0 := (h1 0 (by omega)).2
      simp only [List.getD_cons_zero] at h0
      simp only [List.takeWhile_cons, h0, if_true, List.length_cons]
      rw [ih i (fun j hj => ⟨by have := (h1 (j + 1) (by omega)).1; simp at this; omega, by have := (h1 (j + 1) (by omega)).2; simpa using this⟩) fun k => by have := h2 (by simp; omega); simpa using this]
theorem l11Run_ok (s : List UInt8) (f : Nat) (hl : s.length ≤ 4611686018427387903) (hf : f ≤ 4611686018427387903) : AFunP Tryz.prog 100 [.str s, .int .i64 f] (· = .int .i64 (run s f : Nat)) := by
  refine afun_of Tryz.func100 Tryz.call100 rfl Tryz.ntmps100 rfl ?_
  have W : Walk Tryz.prog TT 100 _ := Walk.of TT_ok Tryz.func100 Tryz.results100
  refine lp W 0 (σ := Nat) (fun i => [(0, .str s), (1, .int .i64 f), (5, .int .i64 i)]) (fun _ => []) (fun i => s.length - i) (fun i => i ≤ s.length ∧ ∀ j, j < i → f + j < s.length ∧ dB (s.getD (f + j) 0) = true) 0 [0, 1, 5] rfl rfl rfl ⟨Nat.zero_le _, fun j hj => by omega⟩ ?_
  rintro i ⟨hi, he⟩ ih
  refine sp W 0 rfl rfl rfl (fun h1 => ?_) (fun h1 => ?_)
  · refine ce W 0 rfl rfl (l11Digit_ok _) rfl ?_
    have e1 : ((f : Int) + (i : Int)).toNat = f + i := by omega
    refine sp W 0 rfl rfl rfl (fun h2 => ?_) (fun h2 => ?_)
    · rw [e1] at h2
      refine bd W 0 0 [0, 1, 5] rfl rfl rfl rfl rfl (ih (i + 1) ⟨by omega, fun j hj => ?_⟩ (by omega))
      by_cases hji : j = i
      · subst hji; exact ⟨by omega, dB_iff.2 h2⟩
      · exact he j (by omega)
    · rw [e1] at h2
      have hr : run s f = i := run_of he fun _ => by simpa [dB] using h2
      rw [hr]
      refine rp W 0 rfl rfl rfl (.refl)
  · have hr : run s f = i := run_of he fun k => by omega
    rw [hr]
    refine rp W 0 rfl rfl rfl (.refl)
/-- The form of a name; the language's own words. -/
def wordP (s : List UInt8) : Prop := 1 ≤ s.length ∧ s.length ≤ 8 ∧ lbB (s.getD 0 0) = true ∧ ∀ j, j < s.length → lbB (s.getD j 0) = true ∨ dB (s.getD j 0) = true
def ownW : List (List UInt8) := [[100, 101, 102], [118, 97, 114], [115, 113, 114, 116], [97, 98, 115], [109, 105, 110], [109, 97, 120]]
theorem l11Plain_ok (s : List UInt8) (hl : s.length ≤ 9223372036854775806) : AFunP Tryz.prog 61 [.str s] (· = .pr (wordP s)) := by
  refine afun_of Tryz.func61 Tryz.call61 rfl Tryz.ntmps61 rfl ?_
  have W : Walk Tryz.prog TT 61 _ := Walk.of TT_ok Tryz.func61 Tryz.results61
  refine sp W 0 rfl rfl rfl (fun h1 => ?_) (fun h1 => ?_)
  · refine rp W 0 rfl rfl rfl (.no (fun k => by have := k.1; omega))
  refine sp W 0 rfl rfl rfl (fun h2 => ?_) (fun h2 => ?_)
  · refine rp W 0 rfl rfl rfl (.no (fun k => by have := k.2.1; omega))
  refine ce W 0 rfl rfl (l11Letter_ok _) rfl ?_
  refine sp W 0 rfl rfl rfl (fun h3 => ?_) (fun h3 => ?_)
  · refine rp W 0 rfl rfl rfl (.no (fun k => h3 (lbB_iff.1 k.2.2.1)))
  have h3 : lbB (s.getD 0 0) = true := lbB_iff.2 (Classical.not_not.1 h3)
  refine lp W 0 (σ := Nat) (fun i => [(0, .str s), (3, .int .i64 i)]) (fun _ => []) (fun i => s.length - i) (fun i => i ≤ s.length ∧ ∀ j, j < i → lbB (s.getD j 0) = true ∨ dB (s.getD j 0) = true) 1 [0, 3] rfl rfl rfl ⟨by omega, fun j hj => by rw [show j = 0 by omega]; exact .inl h3⟩ ?_
  rintro i ⟨hi, he⟩ ih
  refine sp W 0 rfl rfl rfl (fun h4 => ?_) (fun h4 => ?_)
  · have h4 : i < s.length := by omega
    refine ce W 0 rfl rfl (l11Letter_ok _) rfl ?_
    refine sp W 0 rfl rfl rfl (fun h5 => ?_) (fun h5 => ?_)
    · refine ce W 0 rfl rfl (l11Digit_ok _) rfl ?_
      refine sp W 0 rfl rfl rfl (fun h6 => ?_) (fun h6 => ?_)
      · refine rp W 0 rfl rfl rfl (.no (fun k => (k.2.2.2 i (by omega)).elim (fun k => h5 (lbB_iff.1 k)) fun k => h6 (dB_iff.1 k)))
      · refine bd W 0 0 [0, 3] rfl rfl rfl rfl rfl (ih (i + 1) ⟨by omega, fun j hj => ?_⟩ (by omega))
        by_cases hji : j = i
        · subst hji; exact .inr (dB_iff.2 (Classical.not_not.1 h6))
        · exact he j (by omega)
    · refine bd W 0 0 [0, 3] rfl rfl rfl rfl rfl (ih (i + 1) ⟨by omega, fun j hj => ?_⟩ (by omega))
      by_cases hji : j = i
      · subst hji; exact .inl (lbB_iff.2 (Classical.not_not.1 h5))
      · exact he j (by omega)
  · refine rp W 0 rfl rfl rfl (.yes ⟨by omega, by omega, h3, fun j hj => he j (by omega)⟩)
theorem wordOk_ok (s : List UInt8) (hl : s.length ≤ 9223372036854775806) : AFunP Tryz.prog 70 [.str s] (· = .pr (wordP s)) := by
  refine afun_of Tryz.func70 Tryz.call70 rfl Tryz.ntmps70 rfl ?_
  have W : Walk Tryz.prog TT 70 _ := Walk.of TT_ok Tryz.func70 Tryz.results70
  refine lp W 0 (σ := Nat) (fun i => [(0, .str s), (5, .int .i64 s.length), (6, .int .i64 i)]) (fun _ => []) (fun i => s.length - i) (fun i => i ≤ s.length ∧ ∀ j, j < i → lbB (s.getD j 0) = true ∨ dB (s.getD j 0) = true) 0 [0, 5, 6] rfl rfl rfl ⟨Nat.zero_le _, fun j hj => by omega⟩ ?_
  rintro i ⟨hi, he⟩ ih
  refine sp W 0 rfl rfl rfl (fun h4 => ?_) (fun h4 => ?_)
  · have h4 : i < s.length := by omega
    refine ce W 0 rfl rfl (isLetter_ok _) rfl ?_
    refine sp W 0 rfl rfl rfl (fun h5 => ?_) (fun h5 => ?_)
    · refine ce W 0 rfl rfl (isFigure_ok _) rfl ?_
      refine sp W 0 rfl rfl rfl (fun h6 => ?_) (fun h6 => ?_)
      · refine rp W 0 rfl rfl rfl (.no (fun k => (k.2.2.2 i (by omega)).elim (fun k => h5 (lbB_iff.1 k)) fun k => h6 (dB_iff.1 k)))
      · refine bd W 0 0 [0, 5, 6] rfl rfl rfl rfl rfl (ih (i + 1) ⟨by omega, fun j hj => ?_⟩ (by omega))
        by_cases hji : j = i
        · subst hji; exact .inr (dB_iff.2 (Classical.not_not.1 h6))
        · exact he j (by omega)
    · refine bd W 0 0 [0, 5, 6] rfl rfl rfl rfl rfl (ih (i + 1) ⟨by omega, fun j hj => ?_⟩ (by omega))
      by_cases hji : j = i
      · subst hji; exact .inl (lbB_iff.2 (Classical.not_not.1 h5))
      · exact he j (by omega)
  · refine ce W 0 rfl rfl (in_ok _ _ _) rfl ?_
    refine sp W 0 rfl rfl rfl (fun h5 => ?_) (fun h5 => ?_)
    · refine ce W 0 rfl rfl (isLetter_ok _) rfl ?_
      refine rp W 0 rfl rfl rfl (.pr ⟨fun k => ⟨by omega, by omega, lbB_iff.2 k, fun j hj => he j (by omega)⟩, fun k => lbB_iff.1 k.2.2.1⟩)
    · refine rp W 0 rfl rfl rfl (.no (fun k => h5 ⟨by have := k.1; omega, by have := k.2.1; omega⟩))
theorem l11Word_ok (s : List UInt8) : AFunP Tryz.prog 112 [.str s] (· = .pr (s ∈ ownW)) := by
  refine afun_of Tryz.func112 Tryz.call112 rfl Tryz.ntmps112 rfl ?_
  have W : Walk Tryz.prog TT 112 _ := Walk.of TT_ok Tryz.func112 Tryz.results112
  refine sp W 0 rfl rfl rfl (fun h1 => ?_) (fun h1 => ?_)
  · refine rp W 0 rfl rfl rfl (.yes (by subst h1; simp [ownW]))
  refine sp W 0 rfl rfl rfl (fun h2 => ?_) (fun h2 => ?_)
  · refine rp W 0 rfl rfl rfl (.yes (by subst h2; simp [ownW]))
  refine sp W 0 rfl rfl rfl (fun h3 => ?_) (fun h3 => ?_)
  · refine rp W 0 rfl rfl rfl (.yes (by subst h3; simp [ownW]))
  refine sp W 0 rfl rfl rfl (fun h4 => ?_) (fun h4 => ?_)
  · refine rp W 0 rfl rfl rfl (.yes (by subst h4; simp [ownW]))
  refine sp W 0 rfl rfl rfl (fun h5 => ?_) (fun h5 => ?_)
  · refine rp W 0 rfl rfl rfl (.yes (by subst h5; simp [ownW]))
  have hk : s = [109, 97, 120] ↔ s ∈ ownW := by
    refine ⟨fun k => by subst k; simp [ownW], fun k => ?_⟩
    simp only [ownW, List.mem_cons, List.not_mem_nil, or_false] at k
    rcases k with k | k | k | k | k | k
    · exact absurd k h1
    · exact absurd k h2
    · exact absurd k h3
    · exact absurd k h4
    · exact absurd k h5
    · exact k
  refine rp W 0 rfl rfl rfl (.pr hk)
theorem idxStr_ok (l : List (List UInt8)) (s : List UInt8) (hl : l.length ≤ 9223372036854775806) : AFunP Tryz.prog 115 [.fz l.length fun i => [.str (l.getD i [])], .str s] (fun u => ∃ r, u = .int .i64 r ∧ (0 ≤ r ↔ s ∈ l)) := by
  refine afun_of Tryz.func115 Tryz.call115 rfl Tryz.ntmps115 rfl ?_
  have W : Walk Tryz.prog TT 115 _ := Walk.of TT_ok Tryz.func115 Tryz.results115
  refine lp W 0 (σ := Nat) (fun i => [(0, .fz l.length fun i => [.str (l.getD i [])]), (1, .str s), (7, .int .i64 l.length), (8, .int .i64 i)]) (fun _ => []) (fun i => l.length - i) (fun i => i ≤ l.length ∧ ∀ j, j < i → ¬ s = l.getD j []) 0 [0, 1, 7, 8] rfl rfl rfl ⟨Nat.zero_le _, fun j hj => by omega⟩ ?_
  rintro i ⟨hi, he⟩ ih
  refine sp W 0 rfl rfl rfl (fun h1 => ?_) (fun h1 => ?_)
  · have h1 : i < l.length := by omega
    refine sp W 0 rfl rfl rfl (fun h2 => ?_) (fun h2 => ?_)
    · refine rq W 0 rfl rfl (.int .i64 (i : Int)) (⟨_, rfl, ?_⟩) rfl .refl
      simp only [Int.natCast_nonneg, true_iff]
      rw [h2, Int.toNat_natCast]
      exact getD_mem h1
    · refine bd W 0 0 [0, 1, 7, 8] rfl rfl rfl rfl rfl (ih (i + 1) ⟨by omega, fun j hj => ?_⟩ (by omega))
      by_cases hji : j = i
      · subst hji; exact h2
      · exact he j (by omega)
  · refine rq W 0 rfl rfl (.int .i64 (-1)) (⟨_, rfl, ?_⟩) rfl .refl
    constructor
    · intro h; omega
    · intro ha
      obtain ⟨j, hj, e⟩ := mem_getD [] ha
      exact absurd e.symm (he j (by omega))
theorem indexStr_ok (l : List (List UInt8)) (s : List UInt8) (hl : l.length ≤ 9223372036854775806) : AFunP Tryz.prog 86 [.fz l.length fun i => [.str (l.getD i [])], .str s] (· = .pr (s ∈ l)) := by
  refine afun_of Tryz.func86 Tryz.call86 rfl Tryz.ntmps86 rfl ?_
  have W : Walk Tryz.prog TT 86 _ := Walk.of TT_ok Tryz.func86 Tryz.results86
  refine cq W 0 rfl rfl (idxStr_ok l s hl) ?_
  rintro _ ⟨r, rfl, hr⟩
  refine ⟨_, rfl, ?_⟩
  refine rp W 0 rfl rfl rfl (.pr hr)
theorem langNameOk_ok (s : List UInt8) (hl : s.length ≤ 9223372036854775806) : AFunP Tryz.prog 42 [.str s] (· = .pr (wordP s ∧ ¬ s ∈ ownW)) := by
  refine afun_of Tryz.func42 Tryz.call42 rfl Tryz.ntmps42 rfl ?_
  have W : Walk Tryz.prog TT 42 _ := Walk.of TT_ok Tryz.func42 Tryz.results42
  refine ce W 0 rfl rfl (wordOk_ok s hl) rfl ?_
  refine sp W 0 rfl rfl rfl (fun h1 => ?_) (fun h1 => ?_)
  · refine ce W 0 rfl rfl (indexStr_ok ownW s (by simp [ownW])) rfl ?_
    refine rp W 0 rfl rfl rfl (.pr ⟨fun k => ⟨h1, k⟩, fun k => k.2⟩)
  · refine rp W 0 rfl rfl rfl (.no (fun k => h1 k.1))
end Pf
/- The library's layings at this dump (Atoi, IndexByte, Itoa), written by the shelf's tools. -/
namespace Go.Proofs
open Go.Shelf
def Tryz.laysC172_ren : Go.Shelf.Ren := ⟨fun | 172 => 139 | 244 => 150 | 245 => 151 | 247 => 158 | 279 => 159 | 280 => 160 | 281 => 161 | 282 => 162 | 287 => 166 | 316 => 167 | 171 => 95 | 205 => 168 | 321 => 169 | 322 => 170 | 243 => 118 | 246 => 128 | 283 => 141 | 284 => 142 | 285 => 143 | 286 => 144 | 129 => 154 | 317 => 153 | 318 => 155 | 319 => 156 | 320 => 157 | 337 => 164 | 338 => 165 | n => n, fun | 9 => 9 | 3 => 3 | 75 => 92 | 76 => 93 | 4 => 4 | 5 => 5 | 167 => 177 | 37 => 84 | 0 => 0 | 85 => 178 | 2 => 2 | 168 => 180 | 53 => 133 | 175 => 184 | 46 => 157 | 210 => 187 | 127 => 136 | 145 => 194 | 143 => 192 | 21 => 21 | 171 => 160 | 173 => 163 | 212 => 174 | 51 => 168 | 20 => 20 | 213 => 175 | 232 => 189 | 233 => 190 | 80 => 95 | n => n, fun | 15 => 4 | 16 => 5 | 17 => 3 | 18 => 6 | 19 => 7 | n => n⟩
theorem Tryz.laysC172 : Go.Proofs.LaysC.n172 Tryz.prog Tryz.laysC172_ren := {
  mixed := by kernel_rfl
  f129 := Tryz.func154.trans (congrArg some (by kernel_rfl))
  f171 := Tryz.func95.trans (congrArg some (by kernel_rfl))
  f172 := Tryz.func139.trans (congrArg some (by kernel_rfl))
  f205 := Tryz.func168.trans (congrArg some (by kernel_rfl))
  f243 := Tryz.func118.trans (congrArg some (by kernel_rfl))
  f244 := Tryz.func150.trans (congrArg some (by kernel_rfl))
  f245 := Tryz.func151.trans (congrArg some (by kernel_rfl))
  f246 := Tryz.func128.trans (congrArg some (by kernel_rfl))
  f247 := Tryz.func158.trans (congrArg some (by kernel_rfl))
  f279 := Tryz.func159.trans (congrArg some (by kernel_rfl))
  f280 := Tryz.func160.trans (congrArg some (by kernel_rfl))
  f281 := Tryz.func161.trans (congrArg some (by kernel_rfl))
  f282 := Tryz.func162.trans (congrArg some (by kernel_rfl))
  f283 := Tryz.func141.trans (congrArg some (by kernel_rfl))
  f284 := Tryz.func142.trans (congrArg some (by kernel_rfl))
  f285 := Tryz.func143.trans (congrArg some (by kernel_rfl))
  f286 := Tryz.func144.trans (congrArg some (by kernel_rfl))
  f287 := Tryz.func166.trans (congrArg some (by kernel_rfl))
  f316 := Tryz.func167.trans (congrArg some (by kernel_rfl))
  f317 := Tryz.func153.trans (congrArg some (by kernel_rfl))
  f318 := Tryz.func155.trans (congrArg some (by kernel_rfl))
  f319 := Tryz.func156.trans (congrArg some (by kernel_rfl))
  f320 := Tryz.func157.trans (congrArg some (by kernel_rfl))
  f321 := Tryz.func169.trans (congrArg some (by kernel_rfl))
  f322 := Tryz.func170.trans (congrArg some (by kernel_rfl))
  f337 := Tryz.func164.trans (congrArg some (by kernel_rfl))
  f338 := Tryz.func165.trans (congrArg some (by kernel_rfl))
  t0 := Tryz.underlying0
  a0 := Tryz.isAgg0
  z0 := Tryz.sizeOf0
  v0 := Tryz.zeroValue0
  t2 := Tryz.underlying2
  a2 := Tryz.isAgg2
  z2 := Tryz.sizeOf2
  v2 := Tryz.zeroValue2
  t3 := Tryz.underlying3
  a3 := Tryz.isAgg3
  z3 := Tryz.sizeOf3
  v3 := Tryz.zeroValue3
  t4 := Tryz.underlying4
  a4 := Tryz.isAgg4
  z4 := Tryz.sizeOf4
  v4 := Tryz.zeroValue4
  t5 := Tryz.underlying5
  a5 := Tryz.isAgg5
  z5 := Tryz.sizeOf5
  v5 := Tryz.zeroValue5
  t9 := Tryz.underlying9
  a9 := Tryz.isAgg9
  z9 := Tryz.sizeOf9
  v9 := Tryz.zeroValue9
  t20 := Tryz.underlying20
  a20 := Tryz.isAgg20
  z20 := Tryz.sizeOf20
  v20 := Tryz.zeroValue20
  t21 := Tryz.underlying21
  a21 := Tryz.isAgg21
  z21 := Tryz.sizeOf21
  v21 := Tryz.zeroValue21
  t37 := Tryz.underlying84
  a37 := Tryz.isAgg84
  z37 := Tryz.sizeOf84
  v37 := Tryz.zeroValue84
  t46 := Tryz.underlying157
  a46 := Tryz.isAgg157
  z46 := Tryz.sizeOf157
  v46 := Tryz.zeroValue157
  t51 := Tryz.underlying168
  a51 := Tryz.isAgg168
  z51 := Tryz.sizeOf168
  v51 := Tryz.zeroValue168
  t53 := Tryz.underlying133
  a53 := Tryz.isAgg133
  z53 := Tryz.sizeOf133
  v53 := Tryz.zeroValue133
  t75 := Tryz.underlying92
  a75 := Tryz.isAgg92
  z75 := Tryz.sizeOf92
  v75 := Tryz.zeroValue92
  t76 := Tryz.underlying93
  a76 := Tryz.isAgg93
  z76 := Tryz.sizeOf93
  v76 := Tryz.zeroValue93
  t85 := Tryz.underlying178
  a85 := Tryz.isAgg178
  z85 := Tryz.sizeOf178
  v85 := Tryz.zeroValue178
  t127 := Tryz.underlying136
  a127 := Tryz.isAgg136
  z127 := Tryz.sizeOf136
  v127 := Tryz.zeroValue136
  t143 := Tryz.underlying192
  a143 := Tryz.isAgg192
  z143 := Tryz.sizeOf192
  v143 := Tryz.zeroValue192
  t145 := Tryz.underlying194
  a145 := Tryz.isAgg194
  z145 := Tryz.sizeOf194
  v145 := Tryz.zeroValue194
  t167 := Tryz.underlying177
  a167 := Tryz.isAgg177
  z167 := Tryz.sizeOf177
  v167 := Tryz.zeroValue177
  t168 := Tryz.underlying180
  a168 := Tryz.isAgg180
  z168 := Tryz.sizeOf180
  v168 := Tryz.zeroValue180
  t171 := Tryz.underlying160
  a171 := Tryz.isAgg160
  z171 := Tryz.sizeOf160
  v171 := Tryz.zeroValue160
  t173 := Tryz.underlying163
  a173 := Tryz.isAgg163
  z173 := Tryz.sizeOf163
  v173 := Tryz.zeroValue163
  t175 := Tryz.underlying184
  a175 := Tryz.isAgg184
  z175 := Tryz.sizeOf184
  v175 := Tryz.zeroValue184
  t210 := Tryz.underlying187
  a210 := Tryz.isAgg187
  z210 := Tryz.sizeOf187
  v210 := Tryz.zeroValue187
  t212 := Tryz.underlying174
  a212 := Tryz.isAgg174
  z212 := Tryz.sizeOf174
  v212 := Tryz.zeroValue174
  t213 := Tryz.underlying175
  a213 := Tryz.isAgg175
  z213 := Tryz.sizeOf175
  t232 := Tryz.underlying189
  a232 := Tryz.isAgg189
  z232 := Tryz.sizeOf189
  v232 := Tryz.zeroValue189
  t233 := Tryz.underlying190
  a233 := Tryz.isAgg190
  z233 := Tryz.sizeOf190
  v233 := Tryz.zeroValue190
  g15 := by kernel_rfl
  g16 := by kernel_rfl
  g17 := by kernel_rfl
  g18 := by kernel_rfl
  g19 := by kernel_rfl
  t80 := Tryz.underlying95
  a80 := Tryz.isAgg95
  z80 := Tryz.sizeOf95
  v80 := Tryz.zeroValue95
  i0 := by kernel_rfl
  i2 := by kernel_rfl
  i3 := by kernel_rfl
  i4 := by kernel_rfl
  i5 := by kernel_rfl
  i9 := by kernel_rfl
  i20 := by kernel_rfl
  i21 := by kernel_rfl
  i37 := by kernel_rfl
  i46 := by kernel_rfl
  i51 := by kernel_rfl
  i53 := by kernel_rfl
  i75 := by kernel_rfl
  i76 := by kernel_rfl
  i80 := by kernel_rfl
  i85 := by kernel_rfl
  i127 := by kernel_rfl
  i143 := by kernel_rfl
  i145 := by kernel_rfl
  i167 := by kernel_rfl
  i168 := by kernel_rfl
  i171 := by kernel_rfl
  i173 := by kernel_rfl
  i175 := by kernel_rfl
  i210 := by kernel_rfl
  i212 := by kernel_rfl
  i232 := by kernel_rfl
  i233 := by kernel_rfl
  m15 := by kernel_rfl
  m16 := by kernel_rfl
  m17 := by kernel_rfl
  m18 := by kernel_rfl
  m19 := by kernel_rfl
  c0 := by kernel_rfl
  c2 := by kernel_rfl
  c3 := by kernel_rfl
  c4 := by kernel_rfl
  c5 := by kernel_rfl
  c9 := by kernel_rfl
  c20 := by kernel_rfl
  c21 := by kernel_rfl
  c37 := by kernel_rfl
  c46 := by kernel_rfl
  c51 := by kernel_rfl
  c53 := by kernel_rfl
  c75 := by kernel_rfl
  c76 := by kernel_rfl
  c80 := by kernel_rfl
  c85 := by kernel_rfl
  c127 := by kernel_rfl
  c143 := by kernel_rfl
  c145 := by kernel_rfl
  c167 := by kernel_rfl
  c168 := by kernel_rfl
  c171 := by kernel_rfl
  c173 := by kernel_rfl
  c175 := by kernel_rfl
  c210 := by kernel_rfl
  c212 := by kernel_rfl
  c213 := by kernel_rfl
  c232 := by kernel_rfl
  c233 := by kernel_rfl }
def Tryz.lays217_ren : Go.Shelf.Ren := ⟨fun | 217 => 124 | 266 => 135 | n => n, fun | 9 => 9 | 5 => 5 | 3 => 3 | n => n, fun | n => n⟩
theorem Tryz.lays217 : Go.Proofs.Lays.n217 Tryz.prog Tryz.lays217_ren := {
  mixed := by kernel_rfl
  f217 := Tryz.func124.trans (congrArg some (by kernel_rfl))
  f266 := Tryz.func135.trans (congrArg some (by kernel_rfl))
  t3 := Tryz.underlying3
  a3 := Tryz.isAgg3
  z3 := Tryz.sizeOf3
  v3 := Tryz.zeroValue3
  t5 := Tryz.underlying5
  a5 := Tryz.isAgg5
  z5 := Tryz.sizeOf5
  v5 := Tryz.zeroValue5
  t9 := Tryz.underlying9
  a9 := Tryz.isAgg9
  z9 := Tryz.sizeOf9
  v9 := Tryz.zeroValue9 }
def Tryz.lays171_ren : Go.Shelf.Ren := ⟨fun | 171 => 95 | 243 => 118 | 246 => 128 | 283 => 141 | 284 => 142 | 285 => 143 | 286 => 144 | 129 => 154 | 317 => 153 | 318 => 155 | 319 => 156 | 320 => 157 | 337 => 164 | 338 => 165 | n => n, fun | 3 => 3 | 9 => 9 | 2 => 2 | 4 => 4 | 171 => 160 | 0 => 0 | 53 => 133 | 37 => 84 | 5 => 5 | 173 => 163 | 212 => 174 | 51 => 168 | 20 => 20 | 213 => 175 | 46 => 157 | 232 => 189 | 233 => 190 | n => n, fun | 17 => 3 | 18 => 6 | 19 => 7 | n => n⟩
end Go.Proofs
/- The library's contracts ('Calls') as contracts of this machine. -/
namespace Pf
open Go Go.RowKit
variable {P : Program} {f : FuncId}
theorem AFunP.of_calls {args : List AV} {Q : AV → Prop} (he : Enters P f)
    (h : ∀ FM β w (cargs : Array Value), RelH FM β [] w → VRs FM β args cargs.toList → Calls P f cargs w fun e w' => ∃ v u, e = .returned v ∧ Below w.heap.size w w' ∧ Pure Q u [] ∧ VR FM β u v) : AFunP P f args Q := by
  refine ⟨he, fun FM β cs w cargs hv hh => ?_⟩
  obtain ⟨e, w', fr, ⟨v, u, rfl, hb, hp, hr⟩, hc, hfn, hl⟩ := h FM β w cargs hh hv cs
  have hs : Steps P (lone (Frame.enter P f cargs .normal) cs w) (lone fr cs w') := hc
  have hcell : ∀ cb o v, FM cb o = some v → w'.cell? ⟨cb, o, none⟩ = some v := by
    intro cb o v hx
    have h1 := hh.fm _ _ _ hx
    have h2 : cb < w.heap.size := by
      simp only [World.cell?] at h1
      cases h3 : w.heap[cb]? with
      | none => simp [h3] at h1
      | some c => exact (Array.getElem?_eq_some_iff.1 h3).1
    simp only [World.cell?] at h1 ⊢
    rw [hb.block cb h2]
    exact h1
  refine ⟨v, w', fr, u, FM, β, [], hp, hr, ⟨fun b blk g n row h => by simp at h, fun b b' blk blk' g g' n n' row row' L L' h => by simp at h, fun b blk g n row L h => by simp at h, hcell, hh.dom, hh.gk.at (hh.gk.tabw.keep fun _ hlt => hb.block _ hlt), .nil⟩,
    ⟨fun _ _ _ h => h, fun _ _ _ h => h, hb.size, fun _ _ h => h, fun cb h1 _ => hb.block cb h1, fun _ _ _ h => .inl h, Nat.le_refl _, hb.os, hb.output, hb.tape⟩, hs, hfn, hl⟩
end Pf
/- The library's Atoi and IndexByte -/
namespace Pf
open Go Go.Proofs
theorem pure_of {Q : AV → Prop} {u : AV} (h : frz (fun _ => true) [] 9 u = some ([], u)) (hc : clo u = true) (hq : Q u) : Pure Q u [] := ⟨[], u, u, h, trivial, .refl, hc, hq⟩
theorem str_arg {FM : FMem} {β : BMap} {s : List UInt8} {cargs : Array Value} (h : VRs FM β [.str s] cargs.toList) : ∃ b : ByteArray, b.data.toList = s ∧ cargs = #[.string b] := by
  obtain ⟨h1, h2⟩ := h
  have h3 := h2 0 (by simp)
  obtain ⟨l⟩ := cargs
  match l, h1, h3 with
  | [x], _, h3 =>
    simp only [List.getD_cons_zero, List.getElem_cons_zero] at h3
    cases h3 with
    | str hb => exact ⟨_, hb, rfl⟩
theorem atoi_ok (s : List UInt8) (hl : s.length ≤ 281474976710656) : AFunP Tryz.prog 139 [.str s] (fun u => (∃ v, Lib.atoiAll s = .ok v ∧ u = .tup [.int .i64 v, .nili]) ∨ ((∀ v, Lib.atoiAll s ≠ .ok v) ∧ ∃ n, u = .tup [.int .i64 n, .iface 180 .top])) := by
  refine AFunP.of_calls (Enters.of Tryz.func139 (by kernel_rfl) (by kernel_rfl)) fun FM β w cargs hh hv => ?_
  obtain ⟨b, hb, rfl⟩ := str_arg hv
  have hs : b.size ≤ 281474976710656 := by rw [← hb] at hl; exact hl
  cases h : Lib.atoiAll s
  · rename_i v
    refine (Any.strconv_Atoi_ok Tryz.laysC172 b (by omega) v (by rw [hb]; exact h) w).mono ?_
    rintro e w' ⟨rfl, hw⟩
    refine ⟨_, .tup [.int .i64 v, .nili], rfl, ?_, pure_of rfl rfl (.inl ⟨v, rfl, rfl⟩), ?_⟩
    · rcases hw with rfl | ⟨t, rfl⟩
      · exact .refl _ _
      · exact Lib.bytesWorld_below _ _ _
    · refine .tup rfl fun i hi => ?_
      match i, hi with
      | 0, _ => exact .int
      | 1, _ => exact .nili
  · obtain ⟨ev, e1, e2⟩ := hh.gk.errs 4 (by decide)
    refine (Any.strconv_Atoi_syntax Tryz.laysC172 b hs (by rw [hb]; exact h) ev w (hh.fm _ _ _ e1) e2).mono ?_
    rintro e w' ⟨N, rfl, -, -, hw⟩
    refine ⟨_, .tup [.int .i64 0, .iface 180 .top], rfl, hw, pure_of rfl rfl (.inr ⟨fun v k => (by cases k), 0, rfl⟩), ?_⟩
    refine .tup rfl fun i hi => ?_
    match i, hi with
    | 0, _ => exact .int
    | 1, _ => exact .iface .top
  · obtain ⟨ev, e1, e2⟩ := hh.gk.errs 5 (by decide)
    refine (Any.strconv_Atoi_range Tryz.laysC172 b hs (by rw [hb]; exact h) ev w (hh.fm _ _ _ e1) e2).mono ?_
    rintro e w' ⟨N, rfl, -, -, hw⟩
    refine ⟨_, .tup [.int .i64 (Lib.atoiSat b.data.toList), .iface 180 .top], rfl, hw, pure_of rfl rfl (.inr ⟨fun v k => (by cases k), _, rfl⟩), ?_⟩
    refine .tup rfl fun i hi => ?_
    match i, hi with
    | 0, _ => exact .int
    | 1, _ => exact .iface .top
theorem sIndexByte_ok (s : List UInt8) (c : UInt8) : AFunP Tryz.prog 124 [.str s, .int .u8 (c.toNat : Nat)] (· = .int .i64 (Lib.indexByte s c)) := by
  refine AFunP.of_calls (Enters.of Tryz.func124 (by kernel_rfl) (by kernel_rfl)) fun FM β w cargs hh hv => ?_
  obtain ⟨b, hb, rfl⟩ : ∃ b : ByteArray, b.data.toList = s ∧ cargs = #[.string b, .int .u8 (c.toNat : Nat)] := by
    obtain ⟨h1, h2⟩ := hv
    have h3 := h2 0 (by simp)
    have h4 := h2 1 (by simp)
    obtain ⟨l⟩ := cargs
    match l, h1, h3, h4 with
    | [x, y], _, h3, h4 =>
      simp only [List.getD_cons_zero, List.getElem_cons_zero, List.getD_cons_succ, List.getElem_cons_succ] at h3 h4
      cases h3 with
      | str hb =>
        cases h4
        exact ⟨_, hb, rfl⟩
  refine (Any.stringslite_IndexByte Tryz.lays217 b c.toNat w).mono ?_
  rintro e w' ⟨rfl, rfl⟩
  have e1 : ((c.toNat : Int).toNat.toUInt8) = c := by simp
  refine ⟨_, .int .i64 (Lib.indexByte s c), rfl, .refl _ _, pure_of rfl rfl rfl, ?_⟩
  rw [hb, e1]
  exact .int
end Pf
/- strings.Cut, strings.CutPrefix at one byte -/
namespace Pf
open Go Go.Proofs
/-- Ahead of the first c; behind it. -/
def cutL (s : List UInt8) (c : UInt8) : List UInt8 := s.takeWhile (· != c)
def cutR (s : List UInt8) (c : UInt8) : List UInt8 := (s.dropWhile (· != c)).drop 1
theorem indexByte_cut (s : List UInt8) (c : UInt8) : (c ∈ s → Lib.indexByte s c = (cutL s c).length ∧ (cutL s c).length < s.length ∧ s.take (cutL s c).length = cutL s c ∧ s.drop ((cutL s c).length + 1) = cutR s c) ∧
    (c ∉ s → Lib.indexByte s c = -1 ∧ cutL s c = s ∧ cutR s c = []) := by
  induction s with
  | nil => simp [Lib.indexByte, cutL, cutR]
  | cons b l ih =>
    by_cases hb : b = c
    · subst hb
      simp [Lib.indexByte, cutL, cutR]
    · have hb' : (b == c) = false := by simpa using hb
      have hb2 : (b != c) = true := by simp [bne, hb']
      have e1 : cutL (b :: l) c = b :: cutL l c := by simp [cutL, hb2]
      have e2 : cutR (b :: l) c = cutR l c := by simp [cutR, hb2]
      rw [e1, e2]
      constructor
      · intro h
        have h : c ∈ l := by
          rcases List.mem_cons.1 h with h | h
          · exact absurd h.symm hb
          · exact h
        obtain ⟨h1, h2, h3, h4⟩ := ih.1 h
        refine ⟨?_, by simpa using h2, by simp [h3], by simpa using h4⟩
        simp only [Lib.indexByte, hb', h1]
        have : ((cutL l c).length : Int) ≠ -1 := by omega
        simp [this]
      · intro h
        have h : c ∉ l := fun k => h (List.mem_cons_of_mem _ k)
        obtain ⟨h1, h2, h3⟩ := ih.2 h
        refine ⟨by simp [Lib.indexByte, hb', h1], by rw [h2], h3⟩
theorem sIndex_ok (s : List UInt8) (c : UInt8) : AFunP Tryz.prog 122 [.str s, .str [c]] (· = .int .i64 (Lib.indexByte s c)) := by
  refine afun_of Tryz.func122 Tryz.call122 rfl Tryz.ntmps122 rfl ?_
  have W : Walk Tryz.prog TT 122 _ := Walk.of TT_ok Tryz.func122 Tryz.results122
  refine sp W 0 rfl rfl rfl (fun h1 => ?_) (fun h1 => ?_)
  · exact absurd h1 (by simp)
  refine sp W 0 rfl rfl rfl (fun h2 => ?_) (fun h2 => ?_)
  · have e : Lib.indexByte s c = 0 := by rw [← h2]; simp [Lib.indexByte]
    rw [e]
    refine rp W 0 rfl rfl rfl (.refl)
  refine sp W 0 rfl rfl rfl (fun h3 => ?_) (fun h3 => ?_)
  · refine ce W 0 rfl rfl (sIndexByte_ok s c) rfl ?_
    refine rp W 0 rfl rfl rfl (.refl)
  · exact absurd rfl h3
theorem sCut_ok (s : List UInt8) (c : UInt8) (hl : s.length ≤ 4611686018427387903) : AFunP Tryz.prog 104 [.str s, .str [c]] (· = .tup [.str (cutL s c), .str (cutR s c), .pr (c ∈ s)]) := by
  obtain ⟨k1, k2⟩ := indexByte_cut s c
  have ki := sIndex_ok s c
  by_cases h : c ∈ s
  · obtain ⟨h1, h2, h3, h4⟩ := k1 h
    rw [h1] at ki
    refine afun_of Tryz.func104 Tryz.call104 rfl Tryz.ntmps104 rfl ?_
    have W : Walk Tryz.prog TT 104 _ := Walk.of TT_ok Tryz.func104 Tryz.results104
    refine ce W 0 rfl rfl (ki) rfl ?_
    refine sp W 0 rfl rfl rfl (fun a1 => ?_) (fun a1 => ?_)
    · refine dre W 0 10 [] [] rfl rfl rfl trivial rfl ?_
      have e1 : (((cutL s c).length : Nat) : Int).toNat = (cutL s c).length := Int.toNat_natCast _
      have e2 : ((((cutL s c).length : Nat) : Int) + (([c] : List UInt8).length : Nat)).toNat = (cutL s c).length + 1 := by simp
      rw [e1, e2, h3, h4]
      refine rp W 0 rfl rfl rfl (.tup ⟨.refl, .refl, .yes h, trivial⟩)
    · exfalso; omega
  · obtain ⟨h1, h2, h3⟩ := k2 h
    rw [h1] at ki
    rw [h2, h3]
    refine afun_of Tryz.func104 Tryz.call104 rfl Tryz.ntmps104 rfl ?_
    have W : Walk Tryz.prog TT 104 _ := Walk.of TT_ok Tryz.func104 Tryz.results104
    refine ce W 0 rfl rfl (ki) rfl ?_
    refine sp W 0 rfl rfl rfl (fun a1 => ?_) (fun a1 => ?_)
    · exfalso; omega
    · refine rp W 0 rfl rfl rfl (.tup ⟨.refl, .refl, .no h, trivial⟩)
theorem cut_ok (s : List UInt8) (c : UInt8) (hl : s.length ≤ 4611686018427387903) : AFunP Tryz.prog 64 [.str s, .str [c]] (· = .tup [.str (cutL s c), .str (cutR s c), .pr (c ∈ s)]) := by
  refine afun_of Tryz.func64 Tryz.call64 rfl Tryz.ntmps64 rfl ?_
  have W : Walk Tryz.prog TT 64 _ := Walk.of TT_ok Tryz.func64 Tryz.results64
  refine ce W 0 rfl rfl (sCut_ok s c hl) rfl ?_
  refine rp W 0 rfl rfl rfl (.refl)
/-- What stands behind a sign ahead. -/
def cutP (s : List UInt8) (c : UInt8) : List UInt8 := if s.head? = some c then s.drop 1 else s
theorem hasPrefix_ok (s : List UInt8) (c : UInt8) (hl : s.length ≤ 4611686018427387903) : AFunP Tryz.prog 123 [.str s, .str [c]] (· = .pr (s.head? = some c)) := by
  refine afun_of Tryz.func123 Tryz.call123 rfl Tryz.ntmps123 rfl ?_
  have W : Walk Tryz.prog TT 123 _ := Walk.of TT_ok Tryz.func123 Tryz.results123
  refine sp W 0 rfl rfl rfl (fun h1 => ?_) (fun h1 => ?_)
  · have e : s.take 1 = [c] ↔ s.head? = some c := by cases s <;> simp
    refine rp W 0 rfl rfl rfl (.pr e)
  · have e : s = [] := by
      cases s with
      | nil => rfl
      | cons b l => exact absurd (by simp only [List.length_cons, List.length_nil]; omega) h1
    refine rp W 0 rfl rfl rfl (.no (by rw [e]; simp))
theorem sCutPrefix_ok (s : List UInt8) (c : UInt8) (hl : s.length ≤ 4611686018427387903) : AFunP Tryz.prog 149 [.str s, .str [c]] (· = .tup [.str (cutP s c), .pr (s.head? = some c)]) := by
  refine afun_of Tryz.func149 Tryz.call149 rfl Tryz.ntmps149 rfl ?_
  have W : Walk Tryz.prog TT 149 _ := Walk.of TT_ok Tryz.func149 Tryz.results149
  refine ce W 0 rfl rfl (hasPrefix_ok s c hl) rfl ?_
  refine sp W 0 rfl rfl rfl (fun h1 => ?_) (fun h1 => ?_)
  · have e : cutP s c = s := if_neg h1
    rw [e]
    refine rp W 0 rfl rfl rfl (.tup ⟨.refl, .no h1, trivial⟩)
  · have h1 : s.head? = some c := Classical.not_not.1 h1
    have e : cutP s c = s.drop 1 := if_pos h1
    have hp : 1 ≤ s.length := by cases s <;> simp_all
    rw [e]
    refine rp W 0 rfl rfl rfl (.tup ⟨.refl, .yes h1, trivial⟩)
theorem cutPrefix_ok (s : List UInt8) (c : UInt8) (hl : s.length ≤ 4611686018427387903) : AFunP Tryz.prog 138 [.str s, .str [c]] (· = .tup [.str (cutP s c), .pr (s.head? = some c)]) := by
  refine afun_of Tryz.func138 Tryz.call138 rfl Tryz.ntmps138 rfl ?_
  have W : Walk Tryz.prog TT 138 _ := Walk.of TT_ok Tryz.func138 Tryz.results138
  refine ce W 0 rfl rfl (sCutPrefix_ok s c hl) rfl ?_
  refine rp W 0 rfl rfl rfl (.refl)
end Pf
/- Literals: impl's side -/
namespace Pf
open Go Go.Proofs
/-- Digits that begin with 0 only if they are 0. -/
def wd (s : List UInt8) : Prop := (s ≠ [] ∧ s.all dB = true) ∧ (s = [48] ∨ ¬ s.getD 0 0 = 48)
theorem u8_eq {b c : UInt8} : (b.toNat : Int) = (c.toNat : Int) ↔ b = c := by
  rw [Int.ofNat_inj]
  exact UInt8.toNat_inj
theorem wholeDigits_ok (s : List UInt8) (hl : s.length ≤ 9223372036854775806) : AFunP Tryz.prog 136 [.str s] (· = .pr (wd s)) := by
  refine afun_of Tryz.func136 Tryz.call136 rfl Tryz.ntmps136 rfl ?_
  have W : Walk Tryz.prog TT 136 _ := Walk.of TT_ok Tryz.func136 Tryz.results136
  refine ce W 0 rfl rfl (isDigits_ok s hl) rfl ?_
  refine sp W 0 rfl rfl rfl (fun h1 => ?_) (fun h1 => ?_)
  · have hp : 1 ≤ s.length := by
      have := List.length_pos_iff.2 h1.1
      omega
    refine sp W 0 rfl rfl rfl (fun h2 => ?_) (fun h2 => ?_)
    · refine rp W 0 rfl rfl rfl (.yes ⟨h1, .inl h2⟩)
    · have e : ((s.getD (0 : Int).toNat 0).toNat : Int) ≠ 48 ↔ wd s :=
        ⟨fun k => ⟨h1, .inr fun e => k (by rw [show (0 : Int).toNat = 0 from rfl, e]; rfl)⟩, fun k e => k.2.elim (fun e => h2 e) fun k => k (u8_eq (c := 48).1 e)⟩
      refine rp W 0 rfl rfl rfl (.pr e)
  · refine rp W 0 rfl rfl rfl (.no (fun k => h1 k.1))
/-- What stands behind 'e' is as it should be. -/
def powP (p : List UInt8) : Prop := wd (cutP p 45) ∧ (cutP p 45).length ≤ 3 ∧ ∃ v, Lib.atoiAll (cutP p 45) = .ok v ∧ v ≤ 400 ∧ ¬ (p.head? = some 45 ∧ v = 0)
/-- A text is a literal. -/
def litP (s : List UInt8) : Prop := wd (cutL (cutL s 101) 46) ∧ (46 ∈ cutL s 101 → cutR (cutL s 101) 46 ≠ [] ∧ (cutR (cutL s 101) 46).all dB = true) ∧ (101 ∈ s → powP (cutR s 101))
theorem cutL_len (s : List UInt8) (c : UInt8) : (cutL s c).length ≤ s.length := (List.takeWhile_prefix _).length_le
theorem cutR_len (s : List UInt8) (c : UInt8) : (cutR s c).length ≤ s.length := by
  unfold cutR
  rw [List.length_drop]
  have := (List.dropWhile_suffix (l := s) (· != c)).length_le
  omega
theorem cutP_len (s : List UInt8) (c : UInt8) : (cutP s c).length ≤ s.length := by unfold cutP; split <;> simp
theorem atoi_nonneg {s : List UInt8} (h : wd s) {v : Int} (hv : Lib.atoiAll s = .ok v) : 0 ≤ v := by
  cases s with
  | nil => exact absurd rfl h.1.1
  | cons c r =>
    have hc : dB c = true := by
      have := h.1.2
      simp only [List.all_cons, Bool.and_eq_true] at this
      exact this.1
    have hc := dB_iff.1 hc
    simp only [Lib.atoiAll] at hv
    have e : ¬ c.toNat = 45 := by omega
    split at hv
    · cases hv
    · cases hv
    · simp only [e, not_false_eq_true, true_and, false_and, if_false] at hv
      split at hv
      · cases hv
      · cases hv
        omega
theorem literal_ok (s : List UInt8) (hl : s.length ≤ 281474976710656) : AFunP Tryz.prog 125 [.str s] (fun u => ∃ a b n, u = .tup [.str a, .str b, .int .i64 n, .pr (litP s)]) := by
  have l1 := cutL_len s 101
  have l2 := cutR_len s 101
  have l3 := cutL_len (cutL s 101) 46
  have l4 := cutR_len (cutL s 101) 46
  have l5 := cutP_len (cutR s 101) 45
  refine afun_of Tryz.func125 Tryz.call125 rfl Tryz.ntmps125 rfl ?_
  have W : Walk Tryz.prog TT 125 _ := Walk.of TT_ok Tryz.func125 Tryz.results125
  refine ce W 0 rfl rfl (cut_ok s 101 (by omega)) rfl ?_
  refine ce W 0 rfl rfl (cut_ok (cutL s 101) 46 (by omega)) rfl ?_
  refine ce W 0 rfl rfl (wholeDigits_ok _ (by omega)) rfl ?_
  refine sp W 0 rfl rfl rfl (fun h1 => ?_) (fun h1 => ?_)
  · refine rq W 0 rfl rfl (.tup [.str [], .str [], .int .i64 0, .pr (litP s)]) ⟨_, _, _, rfl⟩ rfl (.tup ⟨.refl, .refl, .refl, .no (fun k => h1 k.1), trivial⟩)
  have h1 : wd (cutL (cutL s 101) 46) := Classical.not_not.1 h1
  refine sp W 0 rfl rfl rfl (fun h2 => ?_) (fun h2 => ?_)
  · refine ce W 0 rfl rfl (isDigits_ok _ (by omega)) rfl ?_
    refine sp W 0 rfl rfl rfl (fun h3 => ?_) (fun h3 => ?_)
    · refine rq W 0 rfl rfl (.tup [.str [], .str [], .int .i64 0, .pr (litP s)]) ⟨_, _, _, rfl⟩ rfl (.tup ⟨.refl, .refl, .refl, .no (fun k => h3 (k.2.1 h2)), trivial⟩)
    have h3 := Classical.not_not.1 h3
    refine sp W 0 rfl rfl rfl (fun h4 => ?_) (fun h4 => ?_)
    · refine rq W 0 rfl rfl (.tup [.str (cutL (cutL s 101) 46), .str (cutR (cutL s 101) 46), .int .i64 0, .pr (litP s)]) ⟨_, _, _, rfl⟩ rfl (.tup ⟨.refl, .refl, .refl, .yes (⟨h1, fun _ => h3, fun k => absurd k h4⟩), trivial⟩)
    · skip
      have h4 : 101 ∈ s := Classical.not_not.1 h4
      refine ce W 0 rfl rfl (cutPrefix_ok _ 45 (by omega)) rfl ?_
      refine cq W 0 rfl rfl (atoi_ok (cutP (cutR s 101) 45) (by omega)) ?_
      rintro _ (⟨v, hv, rfl⟩ | ⟨hv, n, rfl⟩)
      · refine ⟨_, rfl, ?_⟩
        refine ce W 0 rfl rfl (wholeDigits_ok _ (by omega)) rfl ?_
        refine sp W 0 rfl rfl rfl (fun b1 => ?_) (fun b1 => ?_)
        · refine rq W 0 rfl rfl (.tup [.str [], .str [], .int .i64 0, .pr (litP s)]) ⟨_, _, _, rfl⟩ rfl (.tup ⟨.refl, .refl, .refl, .no (fun k => b1 (k.2.2 h4).1), trivial⟩)
        have b1 := Classical.not_not.1 b1
        have v0 := atoi_nonneg b1 hv
        refine sp W 0 rfl rfl rfl (fun b2 => ?_) (fun b2 => ?_)
        · refine rq W 0 rfl rfl (.tup [.str [], .str [], .int .i64 0, .pr (litP s)]) ⟨_, _, _, rfl⟩ rfl (.tup ⟨.refl, .refl, .refl, .no (fun k => by have := (k.2.2 h4).2.1; omega), trivial⟩)
        refine sp W 0 rfl rfl rfl (fun b3 => ?_) (fun b3 => ?_)
        · refine rq W 0 rfl rfl (.tup [.str [], .str [], .int .i64 0, .pr (litP s)]) ⟨_, _, _, rfl⟩ rfl (.tup ⟨.refl, .refl, .refl, .no (fun k => by obtain ⟨v', e, k1, k2⟩ := (k.2.2 h4).2.2; rw [hv] at e; cases e; omega), trivial⟩)
        refine sp W 0 rfl rfl rfl (fun b4 => ?_) (fun b4 => ?_)
        · refine sp W 0 rfl rfl rfl (fun b5 => ?_) (fun b5 => ?_)
          · refine rq W 0 rfl rfl (.tup [.str [], .str [], .int .i64 0, .pr (litP s)]) ⟨_, _, _, rfl⟩ rfl (.tup ⟨.refl, .refl, .refl, .no (fun k => by obtain ⟨v', e, k1, k2⟩ := (k.2.2 h4).2.2; rw [hv] at e; cases e; exact k2 ⟨b4, b5⟩), trivial⟩)
          · refine sp W 0 rfl rfl rfl (fun b6 => ?_) (fun b6 => ?_)
            · refine rq W 0 rfl rfl (.tup [.str (cutL (cutL s 101) 46), .str (cutR (cutL s 101) 46), .int .i64 (-v), .pr (litP s)]) ⟨_, _, _, rfl⟩ rfl (.tup ⟨.refl, .refl, .refl, .yes (⟨h1, fun _ => h3, fun _ => ⟨b1, by omega, v, hv, by omega, fun k => b5 k.2⟩⟩), trivial⟩)
            · exact absurd b4 b6
        · refine sp W 0 rfl rfl rfl (fun b6 => ?_) (fun b6 => ?_)
          · exact absurd b6 b4
          · refine rq W 0 rfl rfl (.tup [.str (cutL (cutL s 101) 46), .str (cutR (cutL s 101) 46), .int .i64 (v), .pr (litP s)]) ⟨_, _, _, rfl⟩ rfl (.tup ⟨.refl, .refl, .refl, .yes (⟨h1, fun _ => h3, fun _ => ⟨b1, by omega, v, hv, by omega, fun k => b4 k.1⟩⟩), trivial⟩)
      · refine ⟨_, rfl, ?_⟩
        refine rq W 0 rfl rfl (.tup [.str [], .str [], .int .i64 0, .pr (litP s)]) ⟨_, _, _, rfl⟩ rfl (.tup ⟨.refl, .refl, .refl, .no (fun k => by obtain ⟨v', e, k1, k2⟩ := (k.2.2 h4).2.2; exact hv _ e), trivial⟩)
  · refine sp W 0 rfl rfl rfl (fun h4 => ?_) (fun h4 => ?_)
    · refine rq W 0 rfl rfl (.tup [.str (cutL (cutL s 101) 46), .str (cutR (cutL s 101) 46), .int .i64 0, .pr (litP s)]) ⟨_, _, _, rfl⟩ rfl (.tup ⟨.refl, .refl, .refl, .yes (⟨h1, fun k => absurd k h2, fun k => absurd k h4⟩), trivial⟩)
    · skip
      have h4 : 101 ∈ s := Classical.not_not.1 h4
      refine ce W 0 rfl rfl (cutPrefix_ok _ 45 (by omega)) rfl ?_
      refine cq W 0 rfl rfl (atoi_ok (cutP (cutR s 101) 45) (by omega)) ?_
      rintro _ (⟨v, hv, rfl⟩ | ⟨hv, n, rfl⟩)
      · refine ⟨_, rfl, ?_⟩
        refine ce W 0 rfl rfl (wholeDigits_ok _ (by omega)) rfl ?_
        refine sp W 0 rfl rfl rfl (fun b1 => ?_) (fun b1 => ?_)
        · refine rq W 0 rfl rfl (.tup [.str [], .str [], .int .i64 0, .pr (litP s)]) ⟨_, _, _, rfl⟩ rfl (.tup ⟨.refl, .refl, .refl, .no (fun k => b1 (k.2.2 h4).1), trivial⟩)
        have b1 := Classical.not_not.1 b1
        have v0 := atoi_nonneg b1 hv
        refine sp W 0 rfl rfl rfl (fun b2 => ?_) (fun b2 => ?_)
        · refine rq W 0 rfl rfl (.tup [.str [], .str [], .int .i64 0, .pr (litP s)]) ⟨_, _, _, rfl⟩ rfl (.tup ⟨.refl, .refl, .refl, .no (fun k => by have := (k.2.2 h4).2.1; omega), trivial⟩)
        refine sp W 0 rfl rfl rfl (fun b3 => ?_) (fun b3 => ?_)
        · refine rq W 0 rfl rfl (.tup [.str [], .str [], .int .i64 0, .pr (litP s)]) ⟨_, _, _, rfl⟩ rfl (.tup ⟨.refl, .refl, .refl, .no (fun k => by obtain ⟨v', e, k1, k2⟩ := (k.2.2 h4).2.2; rw [hv] at e; cases e; omega), trivial⟩)
        refine sp W 0 rfl rfl rfl (fun b4 => ?_) (fun b4 => ?_)
        · refine sp W 0 rfl rfl rfl (fun b5 => ?_) (fun b5 => ?_)
          · refine rq W 0 rfl rfl (.tup [.str [], .str [], .int .i64 0, .pr (litP s)]) ⟨_, _, _, rfl⟩ rfl (.tup ⟨.refl, .refl, .refl, .no (fun k => by obtain ⟨v', e, k1, k2⟩ := (k.2.2 h4).2.2; rw [hv] at e; cases e; exact k2 ⟨b4, b5⟩), trivial⟩)
          · refine sp W 0 rfl rfl rfl (fun b6 => ?_) (fun b6 => ?_)
            · refine rq W 0 rfl rfl (.tup [.str (cutL (cutL s 101) 46), .str (cutR (cutL s 101) 46), .int .i64 (-v), .pr (litP s)]) ⟨_, _, _, rfl⟩ rfl (.tup ⟨.refl, .refl, .refl, .yes (⟨h1, fun k => absurd k h2, fun _ => ⟨b1, by omega, v, hv, by omega, fun k => b5 k.2⟩⟩), trivial⟩)
            · exact absurd b4 b6
        · refine sp W 0 rfl rfl rfl (fun b6 => ?_) (fun b6 => ?_)
          · exact absurd b6 b4
          · refine rq W 0 rfl rfl (.tup [.str (cutL (cutL s 101) 46), .str (cutR (cutL s 101) 46), .int .i64 (v), .pr (litP s)]) ⟨_, _, _, rfl⟩ rfl (.tup ⟨.refl, .refl, .refl, .yes (⟨h1, fun k => absurd k h2, fun _ => ⟨b1, by omega, v, hv, by omega, fun k => b4 k.1⟩⟩), trivial⟩)
      · refine ⟨_, rfl, ?_⟩
        refine rq W 0 rfl rfl (.tup [.str [], .str [], .int .i64 0, .pr (litP s)]) ⟨_, _, _, rfl⟩ rfl (.tup ⟨.refl, .refl, .refl, .no (fun k => by obtain ⟨v', e, k1, k2⟩ := (k.2.2 h4).2.2; exact hv _ e), trivial⟩)
theorem decOk_ok (s : List UInt8) (hl : s.length ≤ 281474976710656) : AFunP Tryz.prog 107 [.str s] (· = .pr (litP s ∧ s.length ≤ 60)) := by
  refine afun_of Tryz.func107 Tryz.call107 rfl Tryz.ntmps107 rfl ?_
  have W : Walk Tryz.prog TT 107 _ := Walk.of TT_ok Tryz.func107 Tryz.results107
  refine cq W 0 rfl rfl (literal_ok s hl) ?_
  rintro _ ⟨a, b, n, rfl⟩
  refine ⟨_, rfl, ?_⟩
  refine sp W 0 rfl rfl rfl (fun h1 => ?_) (fun h1 => ?_)
  · refine rp W 0 rfl rfl rfl (.pr ⟨fun k => ⟨h1, by omega⟩, fun k => by have := k.2; omega⟩)
  · refine rp W 0 rfl rfl rfl (.no (fun k => h1 k.1))
theorem implLangNumOk_ok (s : List UInt8) (hl : s.length ≤ 281474976710656) : AFunP Tryz.prog 69 [.str s] (· = .pr (litP s ∧ s.length ≤ 60)) := by
  refine afun_of Tryz.func69 Tryz.call69 rfl Tryz.ntmps69 rfl ?_
  have W : Walk Tryz.prog TT 69 _ := Walk.of TT_ok Tryz.func69 Tryz.results69
  refine ce W 0 rfl rfl (decOk_ok s hl) rfl ?_
  refine sp W 0 rfl rfl rfl (fun h1 => ?_) (fun h1 => ?_)
  · refine rp W 0 rfl rfl rfl (.pr ⟨fun k => h1, fun k => by have := k.2; omega⟩)
  · refine rp W 0 rfl rfl rfl (.no (fun k => h1 k))
end Pf
/- Literals: what impl asks of them is what the model asks -/
namespace Pf
open Go Go.Proofs
abbrev Dg (s : List UInt8) : List UInt8 := s.takeWhile dB
abbrev Rg (s : List UInt8) : List UInt8 := s.dropWhile dB
theorem dg_app (s : List UInt8) : Dg s ++ Rg s = s := List.takeWhile_append_dropWhile
theorem dg_all (s : List UInt8) : (Dg s).all dB = true := List.all_takeWhile
theorem rg_head (s : List UInt8) : Rg s = [] ∨ ∃ c t, Rg s = c :: t ∧ dB c = false := by
  cases h : Rg s with
  | nil => exact .inl rfl
  | cons c t =>
    refine .inr ⟨c, t, rfl, ?_⟩
    have := List.head_dropWhile_not dB (l := s) (by show Rg s ≠ []; rw [h]; simp)
    have e : (s.dropWhile dB) = c :: t := h
    simpa [e] using this
theorem cutL_app {a : List UInt8} {c : UInt8} (h : c ∉ a) (r : List UInt8) : cutL (a ++ r) c = a ++ cutL r c ∧ cutR (a ++ r) c = cutR r c := by
  induction a with
  | nil => exact ⟨rfl, rfl⟩
  | cons b a ih =>
    have hb : (b != c) = true := by
      simp only [bne_iff_ne]
      exact fun k => h (by rw [k]; exact List.mem_cons_self ..)
    obtain ⟨h1, h2⟩ := ih fun k => h (List.mem_cons_of_mem _ k)
    constructor
    · show cutL (b :: (a ++ r)) c = b :: (a ++ cutL r c)
      rw [← h1]; simp [cutL, hb]
    · show cutR (b :: (a ++ r)) c = cutR r c
      rw [← h2]; simp [cutR, hb]
theorem cutL_hd (c : UInt8) (t : List UInt8) : cutL (c :: t) c = [] ∧ cutR (c :: t) c = t := by simp [cutL, cutR]
theorem cutL_tl {b c : UInt8} (h : b ≠ c) (t : List UInt8) : cutL (b :: t) c = b :: cutL t c ∧ cutR (b :: t) c = cutR t c := by
  have hb : (b != c) = true := by simpa using h
  simp [cutL, cutR, hb]
theorem nodig {s : List UInt8} (h : s.all dB = true) {c : UInt8} (hc : dB c = false) : c ∉ s := fun k => by
  have := List.all_eq_true.1 h c k
  rw [hc] at this; cases this
/-- Behind 'e', as the model reads it. -/
def powE1 (t : List UInt8) : Prop := Dg (cutP t 45) ≠ [] ∧ (Dg (cutP t 45)).length ≤ 3 ∧ ¬ ((cutP t 45).getD 0 0 = 48 ∧ (1 < (Dg (cutP t 45)).length ∨ t.head? = some 45)) ∧
  ¬ ((Dg (cutP t 45)).length = 3 ∧ ¬ (Op.bytesLess (Dg (cutP t 45)) [52, 48, 48] = true ∨ Dg (cutP t 45) = [52, 48, 48])) ∧ Rg (cutP t 45) = []
def powE (r : List UInt8) : Prop := (r.head? = some 101 → powE1 (r.drop 1)) ∧ (r.head? ≠ some 101 → r = [])
def fracE (r : List UInt8) : Prop := (r.head? = some 46 → Dg (r.drop 1) ≠ [] ∧ powE (Rg (r.drop 1))) ∧ (r.head? ≠ some 46 → powE r)
def numE (s : List UInt8) : Prop := wd (Dg s) ∧ fracE (Rg s)
theorem dg_self {s : List UInt8} : Rg s = [] ↔ s.all dB = true := by
  constructor
  · intro h
    have := dg_all s
    rwa [show Dg s = s by have := dg_app s; rw [h, List.append_nil] at this; exact this] at this
  · intro h
    rcases rg_head s with h1 | ⟨c, t, h1, h2⟩
    · exact h1
    · have : c ∈ s := by rw [← dg_app s, h1]; simp
      exact absurd this (nodig h h2)
theorem dg_id {s : List UInt8} (h : s.all dB = true) : Dg s = s := by
  have := dg_app s
  rw [dg_self.2 h, List.append_nil] at this
  exact this
theorem step_ok {acc : Nat} {c : UInt8} (hc : dB c = true) (hacc : acc ≤ 100) (r : List UInt8) : Lib.parseUint10 acc (c :: r) = Lib.parseUint10 (acc * 10 + (c.toNat - 48)) r := by
  have h := dB_iff.1 hc
  rw [Lib.parseUint10, if_pos (by omega), if_neg (by omega), if_neg (by omega)]
theorem atoi_of {c : UInt8} {r : List UInt8} {n : Nat} (hc : dB c = true) (h : Lib.parseUint10 0 (c :: r) = .ok n) (hn : n ≤ 1000) : Lib.atoiAll (c :: r) = .ok (n : Int) := by
  have h0 := dB_iff.1 hc
  have e1 : ¬ (c.toNat = 43 ∨ c.toNat = 45) := by omega
  have e2 : ¬ c.toNat = 45 := by omega
  have e3 : ¬ (9223372036854775808 ≤ n) := by omega
  have e4 : Lib.parseMag (if c.toNat = 43 ∨ c.toNat = 45 then r else c :: r) = .ok n := by rw [if_neg e1, Lib.parseMag, if_neg (List.cons_ne_nil _ _), h]
  simp only [Lib.atoiAll, e4]
  simp [e2, e3]
theorem val1 {a : UInt8} (ha : dB a = true) : Lib.atoiAll [a] = .ok (((a.toNat - 48 : Nat)) : Int) := by
  have h := dB_iff.1 ha
  refine atoi_of ha ?_ (by omega)
  rw [step_ok ha (by omega), Lib.parseUint10]
  congr 1; omega
theorem val2 {a b : UInt8} (ha : dB a = true) (hb : dB b = true) : Lib.atoiAll [a, b] = .ok ((((a.toNat - 48) * 10 + (b.toNat - 48) : Nat)) : Int) := by
  have h := dB_iff.1 ha
  have h2 := dB_iff.1 hb
  refine atoi_of ha ?_ (by omega)
  rw [step_ok ha (by omega), step_ok hb (by omega), Lib.parseUint10]
  congr 1; omega
theorem val3 {a b c : UInt8} (ha : dB a = true) (hb : dB b = true) (hc : dB c = true) : Lib.atoiAll [a, b, c] = .ok (((((a.toNat - 48) * 10 + (b.toNat - 48)) * 10 + (c.toNat - 48) : Nat)) : Int) := by
  have h := dB_iff.1 ha
  have h2 := dB_iff.1 hb
  have h3 := dB_iff.1 hc
  refine atoi_of ha ?_ (by omega)
  rw [step_ok ha (by omega), step_ok hb (by omega), step_ok hc (by omega), Lib.parseUint10]
  congr 1; omega
theorem u8_lt {a b : UInt8} : (a < b) = (a.toNat < b.toNat) := propext UInt8.lt_iff_toNat_lt
theorem u8_val {a : UInt8} {n : Nat} (hn : n < 256) : a = UInt8.ofNat n ↔ a.toNat = n := by
  rw [← UInt8.toNat_inj, UInt8.toNat_ofNat']
  omega
theorem is48 {a : UInt8} : a = 48 ↔ a.toNat = 48 := u8_val (n := 48) (by omega)
theorem is52 {a : UInt8} : a = 52 ↔ a.toNat = 52 := u8_val (n := 52) (by omega)
theorem pow_ok (t : List UInt8) : powE1 t ↔ powP t := by
  unfold powE1 powP
  generalize cutP t 45 = u
  by_cases ha : u.all dB = true
  · rw [dg_id ha, dg_self.2 ha]
    unfold wd
    match u, ha with
    | [], _ => simp
    | [a], ha =>
      have ha : dB a = true := by simpa using ha
      have h := dB_iff.1 ha
      rw [val1 ha]
      have e1 : [a] = [(48 : UInt8)] ↔ a = 48 := by simp
      simp only [e1, List.getD_cons_zero, is48]
      constructor
      · rintro ⟨-, -, h3, -, -⟩
        refine ⟨⟨⟨by simp, by simpa using ha⟩, Decidable.em _⟩, by simp, _, rfl, by omega, fun k => h3 ⟨by omega, .inr k.1⟩⟩
      · rintro ⟨-, -, v, hv, h1, h2⟩
        cases hv
        refine ⟨by simp, by simp, fun k => ?_, fun k => by have := k.1; simp at this, trivial⟩
        rcases k.2 with k2 | k2
        · simp at k2
        · exact h2 ⟨k2, by omega⟩
    | [a, b], ha =>
      obtain ⟨ha, hb⟩ : dB a = true ∧ dB b = true := by simpa using ha
      have h := dB_iff.1 ha
      have h' := dB_iff.1 hb
      rw [val2 ha hb]
      have e1 : ¬ [a, b] = [(48 : UInt8)] := by simp
      simp only [e1, List.getD_cons_zero, is48, false_or]
      constructor
      · rintro ⟨-, -, h3, -, -⟩
        have h4 : ¬ a.toNat = 48 := fun k => h3 ⟨k, .inl (by simp)⟩
        refine ⟨⟨⟨by simp, by simp [ha, hb]⟩, h4⟩, by simp, _, rfl, by omega, fun k => by have := k.2; omega⟩
      · rintro ⟨⟨-, h4⟩, -, v, hv, h1, h2⟩
        exact ⟨by simp, by simp, fun k => h4 k.1, fun k => by have := k.1; simp at this, trivial⟩
    | [a, b, c], ha =>
      obtain ⟨ha, hb, hc⟩ : dB a = true ∧ dB b = true ∧ dB c = true := by simpa using ha
      have h := dB_iff.1 ha
      have h' := dB_iff.1 hb
      have h'' := dB_iff.1 hc
      rw [val3 ha hb hc]
      have e1 : ¬ [a, b, c] = [(48 : UInt8)] := by simp
      have e2 : (Op.bytesLess [a, b, c] [52, 48, 48] = true ∨ [a, b, c] = [52, 48, 48]) ↔ ((a.toNat - 48) * 10 + (b.toNat - 48)) * 10 + (c.toNat - 48) ≤ 400 := by
        simp only [Op.bytesLess, Bool.or_eq_true, Bool.and_eq_true, decide_eq_true_eq, beq_iff_eq, List.cons.injEq, and_true, is48, is52, u8_lt, Bool.false_eq_true]
        have q1 : (52 : UInt8).toNat = 52 := rfl
        have q2 : (48 : UInt8).toNat = 48 := rfl
        rw [q1, q2]
        omega
      simp only [e1, e2, List.getD_cons_zero, is48, false_or]
      constructor
      · rintro ⟨-, -, h3, h5, -⟩
        have h4 : ¬ a.toNat = 48 := fun k => h3 ⟨k, .inl (by simp)⟩
        have h6 := Classical.byContradiction fun k => h5 ⟨by simp, k⟩
        refine ⟨⟨⟨by simp, by simp [ha, hb, hc]⟩, h4⟩, by simp, _, rfl, by omega, fun k => by have := k.2; omega⟩
      · rintro ⟨⟨-, h4⟩, -, v, hv, h1, h2⟩
        cases hv
        exact ⟨by simp, by simp, fun k => h4 k.1, fun k => k.2 (by omega), trivial⟩
    | a :: b :: c :: d :: l, _ =>
      constructor
      · intro h; have := h.2.1; simp at this
      · intro h; have := h.2.1; simp at this
  · constructor
    · intro h; exact absurd (dg_self.1 h.2.2.2.2) ha
    · intro h; exact absurd h.1.1.2 ha
theorem num_ok (s : List UInt8) : numE s ↔ litP s := by
  have hs := dg_app s
  have ha := dg_all s
  unfold numE litP
  generalize hD : Dg s = a at *
  have hr := rg_head s
  generalize hR : Rg s = r at *
  have n101 : (101 : UInt8) ∉ a := nodig ha (by decide)
  have n46 : (46 : UInt8) ∉ a := nodig ha (by decide)
  subst hs
  rw [(cutL_app n101 r).1, (cutL_app n101 r).2]
  have e101 : (101 : UInt8) ∈ a ++ r ↔ (101 : UInt8) ∈ r := by simp [n101]
  rw [e101, (cutL_app n46 _).1, (cutL_app n46 _).2]
  have e46 : (46 : UInt8) ∈ a ++ cutL r 101 ↔ (46 : UInt8) ∈ cutL r 101 := by simp [n46]
  rw [e46]
  clear e46 e101 hD hR
  have bad : ∀ {c : UInt8} {l : List UInt8}, dB c = false → ¬ wd (a ++ c :: l) := fun hc k => by
    have := k.1.2
    simp [hc] at this
  rcases hr with rfl | ⟨c, t, rfl, hc⟩
  · simp [fracE, powE, cutL]
  · by_cases h46 : c = 46
    · subst h46
      rw [(cutL_tl (by decide) t).1, (cutL_tl (by decide) t).2, (cutL_hd 46 _).1, (cutL_hd 46 _).2, List.append_nil]
      have hs := dg_app t
      have hb := dg_all t
      have hq := rg_head t
      have e : fracE (46 :: t) ↔ Dg t ≠ [] ∧ powE (Rg t) := by simp [fracE]
      rw [e]
      generalize Dg t = b at *
      generalize Rg t = q at *
      subst hs
      have m101 : (101 : UInt8) ∉ b := nodig hb (by decide)
      rw [(cutL_app m101 q).1, (cutL_app m101 q).2]
      rcases hq with rfl | ⟨d, u, rfl, hd⟩
      · simp [powE, cutL, hb, m101]
      · by_cases h101 : d = 101
        · subst h101
          rw [(cutL_hd 101 u).1, (cutL_hd 101 u).2, List.append_nil]
          have := pow_ok u
          simp [powE, hb, this]
        · rw [(cutL_tl h101 u).1, (cutL_tl h101 u).2]
          constructor
          · intro k
            have := k.2.2.2 (by simp [h101])
            cases this
          · intro k
            have := (k.2.1 (by simp)).2
            simp [hd] at this
    · by_cases h101 : c = 101
      · subst h101
        rw [(cutL_hd 101 t).1, (cutL_hd 101 t).2]
        have := pow_ok t
        simp [fracE, powE, this, cutL]
      · rw [(cutL_tl h101 t).1, (cutL_tl h46 _).1]
        constructor
        · intro k
          have := (k.2.2 (by simp [h46])).2 (by simp [h101])
          cases this
        · intro k
          exact absurd k.1 (bad hc)
theorem run_dg (s : List UInt8) (f : Nat) : run s f = (Dg (s.drop f)).length := rfl
theorem drop_rg (s : List UInt8) (f : Nat) : s.drop (f + run s f) = Rg (s.drop f) := by
  rw [← List.drop_drop, run_dg]
  generalize s.drop f = l
  conv => lhs; rw [← dg_app l]
  rw [List.drop_left']
  rw [dg_app]
theorem head_at {s : List UInt8} {f : Nat} (h : f < s.length) (c : UInt8) : (s.drop f).head? = some c ↔ s.getD f 0 = c := by
  rw [List.head?_drop, List.getD_eq_getElem?_getD]
  simp [h]
end Pf
