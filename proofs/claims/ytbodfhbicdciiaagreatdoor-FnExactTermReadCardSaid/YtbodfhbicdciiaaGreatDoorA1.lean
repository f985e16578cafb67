/- Part 1 of the lemmas that the claim rests on: an abstract machine over the model, what it is sound for, and the contracts of the functions that the law reaches. -/
import Derived.Test.YtbodfhbicdciiaaGreatDoorA0
import Derived.Laws.BitsLemmas
import Derived.Laws.BytesArg
set_option linter.unusedSimpArgs false
set_option linter.unusedVariables false
/- Places in slices; lengths; numbers; texts. -/
namespace Pf
open Go
variable {P : Program} {TT : TypeId → Option TI}

theorem run_indexAddr {w : World} {t e : TypeId} {j : TI} {info' : TypeInfo} {d' : TypeDesc} {z' : Value} (hu : P.underlying t = some (.slice e)) (ok : TIok P e j info' d' z') {cb o len cap : Nat} {k : IntKind} {n : Int}
    (h0 : 0 ≤ n) (h1 : n < len) : (Instr.indexAt t (.slice (some ⟨cb, o, none⟩) len cap) (.int k n)).run P w = .ok (.pointer (some ⟨cb, o + n.toNat * j.size, none⟩)) w := by
  simp [Instr.indexAt, asIntOf, run_underlying hu, ok.run_size w, h0, h1, addr_add]

theorem indexAddrOp_good (hT : TTok P TT) {t : TypeId} {i : TI} {info : TypeInfo} {d : TypeDesc} {z : Value} (ht : TIok P t i info d z) {FM : FMem} {β : BMap} {H : AHeap} {w : World} (hh : RelH FM β H w)
    {v : AV} {cv : Value} (hv : VR FM β v cv) {k : IntKind} {n : Int} : (indexAddrOp TT i v n H).good fun u H' => SimV ((Instr.indexAt t cv (.int k n)).run P w) FM β H w u H' := by
  have hk := ht.kin
  have addN_eq : ∀ m n, addN m n = m + n := by intro m n; cases m <;> simp [addN]
  unfold indexAddrOp
  simp only [addN_eq]
  split
  · rename_i e hkk
    rw [hkk] at hk
    cases d <;> simp only [TK.fits, Bool.false_eq_true, beq_iff_eq] at hk
    subst hk
    cases hte : TT e with
    | none => trivial
    | some j =>
      simp only
      obtain ⟨info', d', z', ok⟩ := TI.fits_iff (hT _ _ hte)
      cases hv with
      | fi0 =>
        simp only
        split
        · rintro ⟨h0, h1⟩; simp at h1; omega
        · trivial
      | fi hc hm =>
        rename_i kd l cb o cap
        simp only
        split
        · rename_i hj
          rintro ⟨h0, h1⟩
          refine SimV.same (run_indexAddr ht.des ok h0 h1) ?_ hh
          have := VR.fptr (FM := FM) (β := β) (row := [.int kd (l.getD n.toNat 0)]) (c := 0) (cb := cb) (o := o + n.toNat) (fun _ => .int kd (l.getD n.toNat 0)) (fun i hi => by
              have : i = 0 := by simpa using hi
              subst this
              exact hm _ (by omega)) (fun i hi => by
              have : i = 0 := by simpa using hi
              subst this
              exact .int)
          rw [hj]
          simpa using this
        · trivial
      | fz0 =>
        simp only
        split
        · rintro ⟨h0, h1⟩; omega
        · trivial
      | fz cvs hz hc hl hm ho hvs =>
        rename_i len row cb o sz cap
        simp only
        split
        · rename_i hj
          have hj := Nat.eq_of_beq_eq_true hj
          rw [lenM_eq] at hj
          rintro ⟨h0, h1⟩
          have hlt : n.toNat < len := by omega
          refine SimV.same (run_indexAddr ht.des ok h0 h1) ?_ hh
          have hs : j.size = sz := by rw [← hj]; exact hl _ hlt
          rw [hs]
          have := VR.fptr (FM := FM) (β := β) (row := row n.toNat) (c := 0) (cb := cb) (o := o + n.toNat * sz) (cvs n.toNat) (fun q hq => hm _ _ hlt (by rw [hl _ hlt] at hq; exact hq)) (fun q hq => hvs _ _ hlt hq)
          simpa using this
        · trivial
      | sl hl hs hr hc hp =>
        rename_i b g off len cap L
        simp only [nthM_eq]
        have fin : ∀ (blk : ABlk) (nr : Nat) (row : Nat → List AV), H[b]? = some blk → blk.view = some (g, nr, row) → blk.width = j.size → 0 ≤ n → n < len →
            SimV ((Instr.indexAt t (.slice (some ⟨L.cb, (off - L.sh) * L.sz, none⟩) len cap) (.int k n)).run P w) FM β H w (.ptr b g (off + n.toNat) 0) H := by
          intro blk nr row hb hvw hwd h0 h1
          refine SimV.same (run_indexAddr ht.des ok h0 h1) ?_ hh
          have hsz : L.sz = j.size := by rw [hh.wid b blk g nr row L hb hvw hl, hwd]
          have e1 : (off - L.sh) * L.sz + n.toNat * j.size = (off + n.toNat - L.sh) * L.sz + 0 := by
            rw [hsz, ← Nat.add_mul]; congr 1; omega
          rw [e1]
          exact .ptr hl (by omega)
        split
        · rename_i g' kd l hb
          split
          · rename_i hj
            rintro ⟨h0, h1, rfl, h3⟩
            exact fin _ _ _ hb rfl (by rw [hj]; rfl) h0 h1
          · trivial
        · rename_i g' nr row hb
          split
          · rename_i hj
            have hj := Nat.eq_of_beq_eq_true hj
            rw [lenM_eq] at hj
            rintro ⟨h0, h1, rfl, h3⟩
            have hwd : (ABlk.tab g' nr row).width = j.size := by
              have hm := hh.at hb rfl hl
              obtain ⟨_, _, _, _, _, _, _, g4⟩ := hm.cells
              rw [← hh.wid b _ g' nr row L hb rfl hl, ← (g4 (off + n.toNat) (by omega) (by omega)).1, hj]
            exact fin _ _ _ hb rfl hwd h0 h1
          · trivial
        · rename_i g' rows hb
          split
          · rename_i row hrow
            split
            · rename_i h1 h2
              have h1 := Nat.eq_of_beq_eq_true h1
              have h2 := Nat.eq_of_beq_eq_true h2
              subst h2
              rw [lenM_eq] at h1
              rintro ⟨h3, h4⟩
              have hwd : (ABlk.lst g' rows).width = j.size := by
                have hm := hh.at hb rfl hl
                obtain ⟨_, _, _, _, _, _, _, g4⟩ := hm.cells
                have hlt := (List.getElem?_eq_some_iff.1 hrow).1
                have := (g4 (off + n.toNat) (by omega) hlt).1
                rw [← hh.wid b _ g' _ _ L hb rfl hl, ← this]
                simp [List.getD_eq_getElem?_getD, hrow, h1]
              exact fin _ _ _ hb rfl hwd h3 h4
            · trivial
          · trivial
        · trivial
      | sl0 hl hs =>
        simp only [nthM_eq]
        split
        · split
          · rintro ⟨h0, h1, _⟩; omega
          · trivial
        · split
          · rintro ⟨h0, h1, _⟩; omega
          · trivial
        · split
          · split
            · rintro ⟨h0, h1⟩; omega
            · trivial
          · trivial
        · trivial
      | _ => trivial
  · trivial

theorem lenOp_good {t : TypeId} {i : TI} {info : TypeInfo} {d : TypeDesc} {z : Value} (ht : TIok P t i info d z) {FM : FMem} {β : BMap} {H : AHeap} {w : World} (hh : RelH FM β H w) {ty : TypeId}
    {v : AV} {cv : Value} (hv : VR FM β v cv) : (lenOp i v H).good fun u H' => SimV ((Builtin.len_ #[t] ty #[cv]).run P w) FM β H w u H' := by
  have hk := ht.kin
  unfold lenOp
  split
  · rename_i e hkk
    rw [hkk] at hk
    cases d <;> simp only [TK.fits, Bool.false_eq_true, beq_iff_eq] at hk
    have run : ∀ a len cap, (Builtin.len_ #[t] ty #[.slice a len cap]).run P w = .ok (goInt (len : Int)) w := by
      intro a len cap
      simp [Builtin.len_, run_underlying ht.des]
    cases hv <;> first | trivial | exact SimV.same (run _ _ _) (goInt_vr rfl) hh | exact SimV.same (run _ _ _) (goInt_vr (by simp)) hh
  · rename_i hkk
    rw [hkk] at hk
    cases d <;> simp only [TK.fits, Bool.false_eq_true] at hk
    cases hv <;> try trivial
    rename_i s b hs
    refine SimV.same (cv := goInt (b.size : Int)) (by simp [Builtin.len_, run_underlying ht.des]) (goInt_vr ?_) hh
    rw [← hs, show b.data.toList.length = b.size from Array.length_toList]
  · trivial

theorem wrap_id {k : IntKind} {n : Int} {C : Prop} (h : rngM k n = some C) (c : C) : k.wrap n = n := by
  cases k <;> simp only [rngM, Option.some.injEq] at h <;> subst h <;> simp only [IntKind.wrap, IntKind.bits, IntKind.signed] <;> simp <;> omega

theorem rng0_good {k : IntKind} {n : Int} {FM : FMem} {β : BMap} {H : AHeap} {w : World} (hh : RelH FM β H w) {r : Result Value} (hr : r = .ok (.int k (k.wrap n)) w) :
    (rng0 k n H).good fun u H' => SimV r FM β H w u H' := by
  unfold rng0
  cases h : rngM k n with
  | none => trivial
  | some C => exact fun c => SimV.same hr (by rw [wrap_id h c]; exact .int) hh

theorem arith_good {m : Nat} {k : IntKind} {n : Int} {FM : FMem} {β : BMap} {H : AHeap} {w : World} (hh : RelH FM β H w) {r : Result Value} (hr : r = .ok (.int k (k.wrap n)) w) :
    (arith m k n H).good fun u H' => SimV r FM β H w u H' := by
  unfold arith
  split
  · exact SimV.same hr .int hh
  · exact rng0_good hh hr

theorem run_eqGuard_int {w : World} {op : BinOp} {t : TypeId} {x y : Operand} {k k' : IntKind} {a b : Int} : (eqGuard op t x y (.int k a) (.int k' b)).run P w = .ok () w := by
  cases op <;> simp [eqGuard]
theorem run_eqGuard_bool {w : World} {op : BinOp} {t : TypeId} {x y : Operand} {a b : Bool} : (eqGuard op t x y (.bool a) (.bool b)).run P w = .ok () w := by
  cases op <;> simp [eqGuard]
theorem run_eqGuard_str {w : World} {op : BinOp} {t : TypeId} {x y : Operand} {a b : ByteArray} : (eqGuard op t x y (.string a) (.string b)).run P w = .ok () w := by
  cases op <;> simp [eqGuard]

theorem binop_good {m : Nat} {op : BinOp} {k : IntKind} {a b : Int} {FM : FMem} {β : BMap} {H : AHeap} {w : World} (hh : RelH FM β H w) {t : TypeId} (ho1 : op ≠ .shl) (ho2 : op ≠ .shr) :
    (binop m op k a b H).good fun u H' => SimV ((binOp op t (.int k a) (.int k b)).run P w) FM β H w u H' := by
  unfold binop
  cases op <;> try contradiction
  case add => exact arith_good hh (by simp [binOp, Op.intArith])
  case sub => exact arith_good hh (by simp [binOp, Op.intArith])
  case mul => exact arith_good hh (by simp [binOp, Op.intArith])
  case quo =>
    simp only
    split
    · intro hb
      exact SimV.same (cv := .int k (k.wrap (a.tdiv b))) (by simp [binOp, Op.intDiv, hb]) .int hh
    · split
      · rintro ⟨h0, h1, h2⟩
        have hb : b ≠ 0 := by omega
        have e : a.tdiv b = a / b := Int.tdiv_eq_ediv_of_nonneg h0
        refine SimV.same (cv := .int .i64 (IntKind.i64.wrap (a.tdiv b))) (by simp [binOp, Op.intDiv, hb]) ?_ hh
        have h3 : 0 ≤ a / b := Int.ediv_nonneg h0 (by omega)
        have h4 : a / b ≤ a := Int.ediv_le_self b h0
        rw [e, wrap_id (C := -9223372036854775808 ≤ a / b ∧ a / b ≤ 9223372036854775807) rfl (by omega)]
        exact .int
      · rintro ⟨h0, h1, h2⟩
        have hb : b ≠ 0 := by omega
        have e : a.tdiv b = a / b := Int.tdiv_eq_ediv_of_nonneg h0
        refine SimV.same (cv := .int .u64 (IntKind.u64.wrap (a.tdiv b))) (by simp [binOp, Op.intDiv, hb]) ?_ hh
        have h3 : 0 ≤ a / b := Int.ediv_nonneg h0 (by omega)
        have h4 : a / b ≤ a := Int.ediv_le_self b h0
        rw [e, wrap_id (C := 0 ≤ a / b ∧ a / b ≤ 18446744073709551615) rfl (by omega)]
        exact .int
      · trivial
  case rem =>
    simp only
    split
    · intro hb
      exact SimV.same (cv := .int k (a.tmod b)) (by simp [binOp, Op.intDiv, hb]) .int hh
    · rintro ⟨h0, h1⟩
      have hb : b ≠ 0 := by omega
      refine SimV.same (cv := .int k (a.tmod b)) (by simp [binOp, Op.intDiv, hb]) ?_ hh
      rw [Int.tmod_eq_emod_of_nonneg h0]
      exact .int
  case and => exact SimV.same (cv := .int k (band k a b)) (by simp [binOp, Op.intBits, band]) .int hh
  case or => exact SimV.same (cv := .int k (bor k a b)) (by simp [binOp, Op.intBits, bor]) .int hh
  case xor => exact SimV.same (cv := .int k (bxor k a b)) (by simp [binOp, Op.intBits, bxor]) .int hh
  case andNot => exact SimV.same (cv := .int k (bandn k a b)) (by simp [binOp, Op.intBits, bandn]) .int hh
  case eql => exact SimV.same (cv := .bool (a == b)) (by simp [binOp, Op.intCmp]) (.pr (by simp)) hh
  case neq => exact SimV.same (cv := .bool (a != b)) (by simp [binOp, Op.intCmp]) (.pr (by simp)) hh
  case lss => exact SimV.same (cv := .bool (decide (a < b))) (by simp [binOp, Op.intCmp]) (.pr (by simp)) hh
  case leq => exact SimV.same (cv := .bool (decide (a ≤ b))) (by simp [binOp, Op.intCmp]) (.pr (by simp)) hh
  case gtr => exact SimV.same (cv := .bool (decide (a > b))) (by simp [binOp, Op.intCmp]) (.pr (by simp)) hh
  case geq => exact SimV.same (cv := .bool (decide (a ≥ b))) (by simp [binOp, Op.intCmp]) (.pr (by simp)) hh

theorem run_shift {w : World} {t : TypeId} {k k' : IntKind} {a b : Int} (h0 : 0 ≤ b) (h1 : b ≤ k.bits) :
    (binOp .shl t (.int k a) (.int k' b)).run P w = .ok (.int k (k.wrap (a * 2 ^ b.toNat))) w ∧ (binOp .shr t (.int k a) (.int k' b)).run P w = .ok (.int k (a / 2 ^ b.toNat)) w := by
  have hb : ¬ b < 0 := by omega
  have hm : min b.toNat k.bits = b.toNat := by omega
  have hp : (0 : Int) ≤ 2 ^ b.toNat := Int.le_of_lt (Int.pow_pos (by omega))
  constructor
  · simp [binOp, Op.shift, hb, hm]
  · simp [binOp, Op.shift, hb, hm, Int.fdiv_eq_ediv_of_nonneg _ hp]

theorem shiftop_good {m : Nat} {op : BinOp} {k k' : IntKind} {a b : Int} {FM : FMem} {β : BMap} {H : AHeap} {w : World} (hh : RelH FM β H w) {t : TypeId} :
    (shiftop m op k a b H).good fun u H' => SimV ((binOp op t (.int k a) (.int k' b)).run P w) FM β H w u H' := by
  unfold shiftop
  have b8 : 8 ≤ k.bits := by cases k <;> simp [IntKind.bits]
  split
  · split
    · cases hr : rngM k (a * 2 ^ b.toNat) with
      | none => trivial
      | some C =>
        rintro ⟨h0, h1, c⟩
        exact SimV.same (run_shift h0 (by omega)).1 (by rw [wrap_id hr c]; exact .int) hh
    · rintro ⟨h0, h1⟩
      exact SimV.same (run_shift h0 (by omega)).2 .int hh
    · trivial
  · split
    · rename_i n
      split
      · rename_i h7
        have h7 : n ≤ 7 := Nat.le_of_ble_eq_true h7
        have hs := run_shift (P := P) (w := w) (t := t) (k := k) (k' := k') (a := a) (b := (n : Int)) (by omega) (by omega)
        simp only [Int.toNat_natCast] at hs
        split
        · exact SimV.same hs.1 .int hh
        · exact SimV.same hs.2 .int hh
        · trivial
      · split
        · rename_i hk h63
          have h63 : n ≤ 63 := Nat.le_of_ble_eq_true h63
          have : k = .i64 := by cases k <;> simp_all [kid]
          subst this
          have hs := run_shift (P := P) (w := w) (t := t) (k := .i64) (k' := k') (a := a) (b := (n : Int)) (by omega) (by simp [IntKind.bits]; omega)
          simp only [Int.toNat_natCast] at hs
          split
          · exact SimV.same hs.1 .int hh
          · exact SimV.same hs.2 .int hh
          · trivial
        · rename_i hk h63
          have h63 : n ≤ 63 := Nat.le_of_ble_eq_true h63
          have : k = .u64 := by cases k <;> simp_all [kid]
          subst this
          have hs := run_shift (P := P) (w := w) (t := t) (k := .u64) (k' := k') (a := a) (b := (n : Int)) (by omega) (by simp [IntKind.bits]; omega)
          simp only [Int.toNat_natCast] at hs
          split
          · exact SimV.same hs.1 .int hh
          · exact SimV.same hs.2 .int hh
          · trivial
        · trivial
    · trivial
  · split
    · rename_i n
      split
      · rename_i hk h63
        have h63 : n ≤ 63 := Nat.le_of_ble_eq_true h63
        have : k = .i64 := by cases k <;> simp_all [kid]
        subst this
        have hs := run_shift (P := P) (w := w) (t := t) (k := .i64) (k' := k') (a := a) (b := (n : Int)) (by omega) (by simp [IntKind.bits]; omega)
        simp only [Int.toNat_natCast] at hs
        split
        · exact rng0_good hh hs.1
        · exact SimV.same hs.2 .int hh
        · trivial
      · rename_i hk h63
        have h63 : n ≤ 63 := Nat.le_of_ble_eq_true h63
        have : k = .u64 := by cases k <;> simp_all [kid]
        subst this
        have hs := run_shift (P := P) (w := w) (t := t) (k := .u64) (k' := k') (a := a) (b := (n : Int)) (by omega) (by simp [IntKind.bits]; omega)
        simp only [Int.toNat_natCast] at hs
        split
        · exact rng0_good hh hs.1
        · exact SimV.same hs.2 .int hh
        · trivial
      · trivial
    · trivial

end Pf
/- Each operation does what is said of it. -/
namespace Pf
open Go
variable {P : Program} {TT : TypeId → Option TI}

theorem run_equal_bool {w : World} {t : TypeId} (hb : P.underlying t = some .bool) {a b : Bool} : (Op.equal t (.bool a) (.bool b)).run P w = .ok (a == b) w := by
  have e : Op.equal t (.bool a) (.bool b) = Op.equalIn (9999 + 1) t (.bool a) (.bool b) := rfl
  rw [e]
  generalize 9999 = n
  simp [Op.equalIn, run_underlying hb]

theorem binopB_good {op : BinOp} {p q : Prop} {a b : Bool} (hp : a = true ↔ p) (hq : b = true ↔ q) {FM : FMem} {β : BMap} {H : AHeap} {w : World} (hh : RelH FM β H w) {t : TypeId} (hb : P.underlying t = some .bool) :
    (binopB op p q H).good fun u H' => SimV ((binOp op t (.bool a) (.bool b)).run P w) FM β H w u H' := by
  unfold binopB
  cases op <;> try trivial
  case eql =>
    refine SimV.same (cv := .bool (a == b)) (by simp [binOp, run_equal_bool hb]) (.pr ?_) hh
    rw [← hp, ← hq]
    cases a <;> cases b <;> simp
  case neq =>
    refine SimV.same (cv := .bool (!(a == b))) (by simp [binOp, run_equal_bool hb]) (.pr ?_) hh
    rw [← hp, ← hq]
    cases a <;> cases b <;> simp

theorem binopS_good {op : BinOp} {s1 s2 : List UInt8} {a b : ByteArray} (ha : a.data.toList = s1) (hb : b.data.toList = s2) {FM : FMem} {β : BMap} {H : AHeap} {w : World} (hh : RelH FM β H w) {t : TypeId} :
    (binopS op s1 s2 H).good fun u H' => SimV ((binOp op t (.string a) (.string b)).run P w) FM β H w u H' := by
  have hsa : a.size = s1.length := by rw [← ha]; exact Array.length_toList.symm
  have hsb : b.size = s2.length := by rw [← hb]; exact Array.length_toList.symm
  have hta : a.toList = s1 := by rw [← ha, Go.ByteArray.toList_eq]
  have htb : b.toList = s2 := by rw [← hb, Go.ByteArray.toList_eq]
  unfold binopS
  cases op <;> try trivial
  case add =>
    intro h
    have : ¬ ((a.size + b.size : Nat) : Int) > IntKind.i64.max := by
      rw [hsa, hsb]
      simp [IntKind.max, IntKind.signed, IntKind.bits]
      omega
    refine SimV.same (cv := .string (a ++ b)) (by simp [binOp, Op.stringOp]; omega) (.str ?_) hh
    rw [ByteArray.data_append, Array.toList_append, ha, hb]
  case eql =>
    exact SimV.same (cv := .bool (a.toList == b.toList)) (by simp [binOp, Op.stringOp]) (.pr (by rw [hta, htb]; simp)) hh
  case neq =>
    exact SimV.same (cv := .bool (!(a.toList == b.toList))) (by simp [binOp, Op.stringOp]) (.pr (by rw [hta, htb]; simp)) hh
  case lss =>
    exact SimV.same (cv := .bool (Op.bytesLess a.toList b.toList)) (by simp [binOp, Op.stringOp]) (.pr (by rw [hta, htb])) hh
  case leq =>
    exact SimV.same (cv := .bool (Op.bytesLess a.toList b.toList || a.toList == b.toList)) (by simp [binOp, Op.stringOp]) (.pr (by rw [hta, htb]; simp)) hh
  case gtr =>
    exact SimV.same (cv := .bool !(Op.bytesLess a.toList b.toList || a.toList == b.toList)) (by simp [binOp, Op.stringOp]) (.pr (by rw [hta, htb]; simp)) hh
  case geq =>
    exact SimV.same (cv := .bool !(Op.bytesLess a.toList b.toList)) (by simp [binOp, Op.stringOp]) (.pr (by rw [hta, htb]; simp)) hh
theorem kind_bool {t : TypeId} {i : TI} {info : TypeInfo} {d : TypeDesc} {z : Value} (ht : TIok P t i info d z) (h : i.kind = .bool) : P.underlying t = some .bool := by
  have := ht.kin
  rw [h] at this
  cases d <;> simp only [TK.fits, Bool.false_eq_true] at this
  exact ht.des

theorem run_equal_slice {w : World} {t e : TypeId} (hb : P.underlying t = some (.slice e)) {a : Option Addr} {l c : Nat} : (Op.equal t (.slice a l c) (.slice none 0 0)).run P w = .ok a.isNone w := by
  have e : Op.equal t (.slice a l c) (.slice none 0 0) = Op.equalIn (9999 + 1) t (.slice a l c) (.slice none 0 0) := rfl
  rw [e]
  generalize 9999 = n
  cases a <;> simp [Op.equalIn, run_underlying hb]
theorem run_equal_ptr {w : World} {t e : TypeId} (hb : P.underlying t = some (.pointer e)) {a : Option Addr} : (Op.equal t (.pointer a) (.pointer none)).run P w = .ok a.isNone w := by
  have e : Op.equal t (.pointer a) (.pointer none) = Op.equalIn (9999 + 1) t (.pointer a) (.pointer none) := rfl
  rw [e]
  generalize 9999 = n
  cases a <;> simp [Op.equalIn, run_underlying hb]
theorem kind_slice {t : TypeId} {i : TI} {info : TypeInfo} {d : TypeDesc} {z : Value} (ht : TIok P t i info d z) {e : TypeId} (h : i.kind = .slice e) : ∃ e, P.underlying t = some (.slice e) := by
  have := ht.kin
  rw [h] at this
  cases d <;> simp only [TK.fits, Bool.false_eq_true] at this
  exact ⟨_, ht.des⟩
theorem kind_ptr {t : TypeId} {i : TI} {info : TypeInfo} {d : TypeDesc} {z : Value} (ht : TIok P t i info d z) {e : TypeId} (h : i.kind = .pointer e) : ∃ e, P.underlying t = some (.pointer e) := by
  have := ht.kin
  rw [h] at this
  cases d <;> simp only [TK.fits, Bool.false_eq_true] at this
  exact ⟨_, ht.des⟩
theorem run_eqGuard_slice {w : World} {op : BinOp} {t : TypeId} {x y : Operand} {a b : Option Addr} {l c l' c' : Nat} : (eqGuard op t x y (.slice a l c) (.slice b l' c')).run P w = .ok () w := by
  unfold eqGuard
  cases op <;> simp
theorem run_eqGuard_ptr {w : World} {op : BinOp} {t : TypeId} {x y : Operand} {a b : Option Addr} : (eqGuard op t x y (.pointer a) (.pointer b)).run P w = .ok () w := by
  unfold eqGuard
  cases op <;> simp

theorem kind_iface {t : TypeId} {i : TI} {info : TypeInfo} {d : TypeDesc} {z : Value} (ht : TIok P t i info d z) (h : i.kind = .iface) : ∃ ms, P.underlying t = some (.interface ms) := by
  have := ht.kin
  rw [h] at this
  cases d <;> simp only [TK.fits, Bool.false_eq_true] at this
  exact ⟨_, ht.des⟩
theorem run_equal_iface {w : World} {t : TypeId} {ms : Array (String × TypeId)} (hb : P.underlying t = some (.interface ms)) {a : TypeId} {c : Value} : (Op.equal t (.iface a c) .nilIface).run P w = .ok false w := by
  have e : Op.equal t (.iface a c) .nilIface = Op.equalIn (9999 + 1) t (.iface a c) .nilIface := rfl
  rw [e]
  generalize 9999 = n
  simp [Op.equalIn, run_underlying hb]
theorem run_equal_nili {w : World} {t : TypeId} {ms : Array (String × TypeId)} (hb : P.underlying t = some (.interface ms)) : (Op.equal t .nilIface .nilIface).run P w = .ok true w := by
  have e : Op.equal t .nilIface .nilIface = Op.equalIn (9999 + 1) t .nilIface .nilIface := rfl
  rw [e]
  generalize 9999 = n
  simp [Op.equalIn, run_underlying hb]
theorem run_eqGuard_iface {w : World} {op : BinOp} {t a : TypeId} {c : Value} {x y : Operand} : (eqGuard op t x y (.iface a c) .nilIface).run P w = .ok () w := by
  unfold eqGuard
  cases op <;> simp
theorem run_eqGuard_nili {w : World} {op : BinOp} {t : TypeId} {x : Operand} {v : Value} : (eqGuard op t x (.const v) .nilIface .nilIface).run P w = .ok () w := by
  unfold eqGuard
  cases op <;> simp

theorem binOpV_good (hT : TTok P TT) {m : Nat} {op : BinOp} {t : TypeId} {x y : AV} {cx cy : Value} {FM : FMem} {β : BMap} {H : AHeap} {w : World} (hx : VR FM β x cx) (hy : VR FM β y cy) (hh : RelH FM β H w) {X Y : Operand} :
    (binOpV TT m op t x y H).good fun u H' => SimV ((do eqGuard op t X Y cx cy; binOp op t cx cy : Sem Value).run P w) FM β H w u H' := by
  have isB : ∀ {p q : Prop} {a b : Bool}, (a = true ↔ p) → (b = true ↔ q) → (binOpV.isBool TT t (binopB op p q H)).good fun u H' => SimV ((do eqGuard op t X Y (.bool a) (.bool b); binOp op t (.bool a) (.bool b) : Sem Value).run P w) FM β H w u H' := by
    intro p q a b hp hq
    unfold binOpV.isBool
    cases ht : TT t with
    | none => trivial
    | some i =>
      simp only
      split
      · rename_i hk
        obtain ⟨info, d, z, ok⟩ := TI.fits_iff (hT _ _ ht)
        refine St.good_mono (binopB_good hp hq hh (kind_bool ok hk)) fun v H' h => ?_
        simpa [run_eqGuard_bool] using h
      · trivial
  have isS : ∀ {p : Prop} {c : Value} {a : Option Addr} {len cap : Nat}, c = .slice a len cap → (a = none → p) → (binOpV.isSlice TT t (binOpV.nilq op p H)).good fun u H' => SimV ((do eqGuard op t X Y c (.slice none 0 0); binOp op t c (.slice none 0 0) : Sem Value).run P w) FM β H w u H' := by
    rintro p _ a len cap rfl hp
    unfold binOpV.isSlice
    cases ht : TT t with
    | none => trivial
    | some i =>
      simp only
      split
      · rename_i e hk
        obtain ⟨info, d, z, ok⟩ := TI.fits_iff (hT _ _ ht)
        obtain ⟨e', hu⟩ := kind_slice ok hk
        unfold binOpV.nilq
        split
        · exact SimV.same (cv := .bool a.isNone) (by simp [run_eqGuard_slice, binOp, run_equal_slice hu]) (.anyb (fun h => hp (by cases a <;> simp_all)) fun _ => trivial) hh
        · exact SimV.same (cv := .bool !a.isNone) (by simp [run_eqGuard_slice, binOp, run_equal_slice hu]) (.anyb (fun _ => trivial) fun h => hp (by cases a <;> simp_all)) hh
        · trivial
      · trivial
  have isN : ∀ {c : Value}, c = .slice none 0 0 → (binOpV.isSlice TT t (binOpV.cst op true false H)).good fun u H' => SimV ((do eqGuard op t X Y c (.slice none 0 0); binOp op t c (.slice none 0 0) : Sem Value).run P w) FM β H w u H' := by
    rintro _ rfl
    unfold binOpV.isSlice
    cases ht : TT t with
    | none => trivial
    | some i =>
      simp only
      split
      · rename_i e hk
        obtain ⟨info, d, z, ok⟩ := TI.fits_iff (hT _ _ ht)
        obtain ⟨e', hu⟩ := kind_slice ok hk
        unfold binOpV.cst
        split
        · exact SimV.same (cv := .bool true) (by simp [run_eqGuard_slice, binOp, run_equal_slice hu]) .bool hh
        · exact SimV.same (cv := .bool false) (by simp [run_eqGuard_slice, binOp, run_equal_slice hu]) .bool hh
        · trivial
      · trivial
  have isP : ∀ {c : Value} {a : Option Addr}, a ≠ none → c = .pointer a → (binOpV.isPtr TT t (binOpV.cst op false true H)).good fun u H' => SimV ((do eqGuard op t X Y c (.pointer none); binOp op t c (.pointer none) : Sem Value).run P w) FM β H w u H' := by
    rintro _ a ha rfl
    unfold binOpV.isPtr
    cases ht : TT t with
    | none => trivial
    | some i =>
      simp only
      split
      · rename_i e hk
        obtain ⟨info, d, z, ok⟩ := TI.fits_iff (hT _ _ ht)
        obtain ⟨e', hu⟩ := kind_ptr ok hk
        have hn : a.isNone = false := by cases a <;> simp_all
        unfold binOpV.cst
        split
        · exact SimV.same (cv := .bool false) (by simp [run_eqGuard_ptr, binOp, run_equal_ptr hu, hn]) .bool hh
        · exact SimV.same (cv := .bool true) (by simp [run_eqGuard_ptr, binOp, run_equal_ptr hu, hn]) .bool hh
        · trivial
      · trivial
  have isP0 : (binOpV.isPtr TT t (binOpV.cst op true false H)).good fun u H' => SimV ((do eqGuard op t X Y (.pointer none) (.pointer none); binOp op t (.pointer none) (.pointer none) : Sem Value).run P w) FM β H w u H' := by
    unfold binOpV.isPtr
    cases ht : TT t with
    | none => trivial
    | some i =>
      simp only
      split
      · rename_i e hk
        obtain ⟨info, d, z, ok⟩ := TI.fits_iff (hT _ _ ht)
        obtain ⟨e', hu⟩ := kind_ptr ok hk
        unfold binOpV.cst
        split
        · exact SimV.same (cv := .bool true) (by simp [run_eqGuard_ptr, binOp, run_equal_ptr hu]) .bool hh
        · exact SimV.same (cv := .bool false) (by simp [run_eqGuard_ptr, binOp, run_equal_ptr hu]) .bool hh
        · trivial
      · trivial
  have isF : ∀ {a : TypeId} {c : Value}, (binOpV.isIface TT t (binOpV.cst op false true H)).good fun u H' => SimV ((do eqGuard op t X Y (.iface a c) .nilIface; binOp op t (.iface a c) .nilIface : Sem Value).run P w) FM β H w u H' := by
    intro a c
    unfold binOpV.isIface
    cases ht : TT t with
    | none => trivial
    | some i =>
      simp only
      split
      · rename_i hk
        obtain ⟨info, d, z, ok⟩ := TI.fits_iff (hT _ _ ht)
        obtain ⟨e', hu⟩ := kind_iface ok hk
        unfold binOpV.cst
        split
        · exact SimV.same (cv := .bool false) (by simp [run_eqGuard_iface, binOp, run_equal_iface hu]) .bool hh
        · exact SimV.same (cv := .bool true) (by simp [run_eqGuard_iface, binOp, run_equal_iface hu]) .bool hh
        · trivial
      · trivial
  unfold binOpV
  split
  · cases hx
    cases hy
    rename_i k a k' b
    split
    · refine St.good_mono (shiftop_good (P := P) (k' := k') (op := .shl) (t := t) hh) fun v H' h => ?_
      simpa [run_eqGuard_int] using h
    · refine St.good_mono (shiftop_good (P := P) (k' := k') (op := .shr) (t := t) hh) fun v H' h => ?_
      simpa [run_eqGuard_int] using h
    · split
      · rename_i hk
        obtain rfl := kid_inj hk
        rename_i h1 h2 _
        refine St.good_mono (binop_good (P := P) (op := op) (t := t) hh (by rintro rfl; exact h1 rfl) (by rintro rfl; exact h2 rfl)) fun v H' h => ?_
        simpa [run_eqGuard_int] using h
      · trivial
  · cases hx with
    | str ha =>
    cases hy with
    | str hb =>
    refine St.good_mono (binopS_good (P := P) (t := t) ha hb hh) fun v H' h => ?_
    simpa [run_eqGuard_str] using h
  · cases hx with
    | pr hp =>
    cases hy with
    | pr hq => exact isB hp hq
  · cases hx with
    | pr hp =>
    cases hy with
    | bool => exact isB hp Iff.rfl
  · cases hx with
    | bool =>
    cases hy with
    | pr hq => exact isB Iff.rfl hq
  · cases hx with
    | bool =>
    cases hy with
    | bool => exact isB Iff.rfl Iff.rfl
  · cases hy
    cases hx with
    | fi0 => exact isS rfl fun _ => rfl
    | fi => exact isS rfl fun h => by cases h
  · cases hy
    cases hx with
    | fz0 => exact isS rfl fun _ => rfl
    | fz => exact isS rfl fun h => by cases h
  · cases hy
    cases hx with
    | sl => exact isS rfl fun h => by cases h
    | sl0 => exact isS rfl fun _ => rfl
  · cases hy
    cases hx
    exact isS rfl fun _ => trivial
  · cases hy
    cases hx
    exact isN rfl
  · cases hy
    cases hx
    exact isP (by intro ha; cases ha) rfl
  · cases hy
    cases hx
    exact isP (by intro ha; cases ha) rfl
  · cases hy
    cases hx
    exact isP0
  · cases hy
    cases hx
    exact isF
  · split
    · rename_i i hi
      exact eqvOp_good hT hi hx hy hh
    · trivial
  · trivial
theorem niliOp_good (hT : TTok P TT) {op : BinOp} {t : TypeId} {y : Operand} {FM : FMem} {β : BMap} {H : AHeap} {w : World} (hh : RelH FM β H w) {X : Operand} :
    (niliOp TT op t y H).good fun u H' => SimV ((do eqGuard op t X y .nilIface .nilIface; binOp op t .nilIface .nilIface : Sem Value).run P w) FM β H w u H' := by
  unfold niliOp
  split
  · unfold binOpV.isIface
    cases ht : TT t with
    | none => trivial
    | some i =>
      simp only
      split
      · rename_i hk
        obtain ⟨info, d, z, ok⟩ := TI.fits_iff (hT _ _ ht)
        obtain ⟨e', hu⟩ := kind_iface ok hk
        unfold binOpV.cst
        split
        · exact SimV.same (cv := .bool true) (by simp [run_eqGuard_nili, binOp, run_equal_nili hu]) .bool hh
        · exact SimV.same (cv := .bool false) (by simp [run_eqGuard_nili, binOp, run_equal_nili hu]) .bool hh
        · trivial
      · trivial
  · trivial
theorem bothNil_eq {v u : AV} (h : bothNil v u = true) : v = .nili ∧ u = .nili := by
  cases v <;> cases u <;> first | exact ⟨rfl, rfl⟩ | cases h

theorem unOpV_good {m : Nat} {op : UnOp} {x : AV} {cx : Value} {FM : FMem} {β : BMap} {H : AHeap} {w : World} (hx : VR FM β x cx) (hh : RelH FM β H w) :
    (unOpV m op x H).good fun u H' => SimV ((Op.unary op cx).run P w) FM β H w u H' := by
  unfold unOpV
  split
  · cases hx with
    | pr hp =>
    rename_i p b
    exact SimV.same (cv := .bool !b) (by simp [Op.unary]) (.pr (by rw [← hp]; cases b <;> simp)) hh
  · cases hx with
    | anyb h1 h2 =>
    rename_i p q b
    exact SimV.same (cv := .bool !b) (by simp [Op.unary]) (.anyb (fun h => h2 (by simpa using h)) fun h => h1 (by simpa using h)) hh
  · cases hx
    exact SimV.same (cv := .bool false) (by simp [Op.unary]) .bool hh
  · cases hx
    exact SimV.same (cv := .bool true) (by simp [Op.unary]) .bool hh
  · cases hx
    rename_i k n
    have hr : (Op.unary .neg (.int k n)).run P w = .ok (.int k (k.wrap (-n))) w := by simp [Op.unary, Op.intArith]
    split
    · exact SimV.same hr .int hh
    · exact rng0_good hh hr
  · trivial

theorem convB_good (hT : TTok P TT) {s t : TypeId} {j i : TI} (hs : TT s = some j) (ht : TT t = some i) (hb : isBytes TT j i = true) {x : AV} {cx : Value} {FM : FMem} {β : BMap} {H : AHeap} {w : World}
    (hx : VR FM β x cx) (hh : RelH FM β H w) : (convB x H).good fun u H' => SimV ((convert s t cx).run P w) FM β H w u H' := by
  obtain ⟨info0, d0, z0, ok0⟩ := TI.fits_iff (hT _ _ hs)
  obtain ⟨info1, d1, z1, ok1⟩ := TI.fits_iff (hT _ _ ht)
  obtain ⟨e, he, h8, hd⟩ : ∃ e, P.underlying s = some (.slice e) ∧ P.underlying e = some (.int .u8) ∧ P.underlying t = some .string := by
    unfold isBytes at hb
    split at hb
    · rename_i e hk0 hk1
      split at hb
      · rename_i k hk
        split at hb
        · rename_i hk8
          obtain ⟨info2, d2, z2, ok2⟩ := TI.fits_iff (hT _ _ hk)
          refine ⟨e, ?_, ?_, ?_⟩
          · have := ok0.kin
            rw [hk0] at this
            have hde := ok0.des
            cases d0 <;> simp_all [TK.fits]
          · have := ok2.kin
            rw [hk8] at this
            have hde := ok2.des
            cases d2 <;> simp_all [TK.fits]
          · have := ok1.kin
            rw [hk1] at this
            have hde := ok1.des
            cases d1 <;> simp_all [TK.fits]
        · cases hb
      · cases hb
    · cases hb
  have nil : ∀ {a : Option Addr} {l c : Nat}, a = none → (convert s t (.slice a l c)).run P w = .ok (.string ByteArray.empty) w := by
    rintro a l c rfl
    exact run_convert_bytes_nil w s e he h8 l c t hd
  have cells : ∀ {b o len cap : Nat} {l : List Int}, l.length = len → (∀ i, i < len → w.cell? ⟨b, o + i, none⟩ = some (.int .u8 (l.getD i 0))) → SimV ((convert s t (.slice (some ⟨b, o, none⟩) len cap)).run P w) FM β H w (.str (bytesT l)) H := by
    intro b o len cap l hl hc
    exact SimV.same (run_convert_bytes_arg w s e he h8 b o len cap l hl hc t hd) (.str (strOfNums_data l)) hh
  have nought : ∀ {a : Option Addr} {c : Nat}, SimV ((convert s t (.slice a 0 c)).run P w) FM β H w (.str []) H := by
    intro a c
    cases a with
    | none => exact SimV.same (nil rfl) (.str rfl) hh
    | some a =>
      have hl : (loadCells a 0).run P w = .ok #[] w := by
        have := run_loadCells_list (P := P) w a [] (fun j v hj => by simp at hj)
        simpa using this
      refine SimV.same (cv := .string ByteArray.empty) ?_ (.str rfl) hh
      rw [run_convert_bytes_string w s t e _ 0 c he h8 hd, run_bytesToString w a 0 c [] (by simpa using hl)]
      rfl
  unfold convB
  split
  · rename_i l
    cases hx with
    | fi0 => exact nought
    | fi hc hm => exact cells rfl fun i hi => hh.fm _ _ _ (hm i hi)
  · rename_i b g len
    split
    · rename_i g' l hb'
      rw [nthM_eq] at hb'
      rintro ⟨rfl, hlen⟩
      cases hx with
      | sl h hsh hr hc hp =>
        rename_i L
        subst hlen
        have hm := hh.at hb' rfl h
        have hz : L.sz = 1 := hh.wid b _ _ _ _ L hb' rfl h
        have h0 : L.sh = 0 := by omega
        refine cells rfl fun i hi => ?_
        obtain ⟨cv, h1, h2⟩ := hm.row (r := i) (by omega) hi 0 (by simp)
        have e1 : (0 - L.sh) * L.sz + i = (i - L.sh) * L.sz + 0 := by rw [hz, h0]; omega
        rw [e1, h1]
        cases h2
        rfl
      | sl0 h hsh =>
        have : l = [] := List.length_eq_zero_iff.1 hlen.symm
        subst this
        exact nought
    · trivial
  · cases hx
    exact nought
  · trivial
theorem convOp_good {m : Nat} {s t : TypeId} {i : TI} {info : TypeInfo} {d : TypeDesc} {z : Value} (ht : TIok P t i info d z) (hs : ∃ d0, P.underlying s = some d0) {x : AV} {cx : Value} {FM : FMem} {β : BMap} {H : AHeap} {w : World}
    (hx : VR FM β x cx) (hh : RelH FM β H w) : (convOp m i x H).good fun u H' => SimV ((convert s t cx).run P w) FM β H w u H' := by
  obtain ⟨d0, hs⟩ := hs
  have hk := ht.kin
  unfold convOp
  split
  · rename_i k k' n hkk
    rw [hkk] at hk
    cases d <;> simp only [TK.fits, Bool.false_eq_true, beq_iff_eq] at hk
    subst hk
    cases hx
    have hr : (convert s t (.int k' n)).run P w = .ok (.int k (k.wrap n)) w := by
      cases d0 <;> simp [convert, run_underlying hs, run_underlying ht.des, Conv.intToInt]
    split
    · exact SimV.same hr .int hh
    · exact rng0_good hh hr
  · rename_i ss hkk
    rw [hkk] at hk
    cases d <;> simp only [TK.fits, Bool.false_eq_true] at hk
    cases hx with
    | str hb =>
    rename_i b
    have hr : (convert s t (.string b)).run P w = .ok (.string b) w := by
      cases d0 <;> simp [convert, run_underlying hs, run_underlying ht.des]
    exact SimV.same hr (.str hb) hh
  · trivial

end Pf
/- Each operation that calls no Go function does what is said of it. -/
namespace Pf
open Go
variable {P : Program} {TT : TypeId → Option TI}

/-- A value is had, or there is none, and the blocks are so. -/
def Yields (r : Result Next) (FM : FMem) (β : BMap) (H : AHeap) (w : World) (v : AV) (H' : AHeap) : Prop :=
  ∃ cv w' FM' β', (r = .ok (.value cv) w' ∨ (r = .ok .skip w' ∧ cv = undef)) ∧ VR FM' β' v cv ∧ RelH FM' β' H' w' ∧ Ext FM β H w FM' β' H' w'

theorem SimV.yields {s : Sem Value} {FM : FMem} {β : BMap} {H : AHeap} {w : World} {v : AV} {H' : AHeap} (h : SimV (s.run P w) FM β H w v H') :
    Yields ((do pure (.value (← s)) : Sem Next).run P w) FM β H w v H' := by
  obtain ⟨cv, w', FM', β', h1, h2, h3, h4⟩ := h
  exact ⟨cv, w', FM', β', .inl (by simp [h1]), h2, h3, h4⟩
theorem Yields.same {r : Result Next} {FM : FMem} {β : BMap} {H : AHeap} {w : World} {v : AV} {cv : Value} (hr : r = .ok (.value cv) w) (hv : VR FM β v cv) (hh : RelH FM β H w) :
    Yields r FM β H w v H := ⟨cv, w, FM, β, .inl hr, hv, hh, .refl⟩

theorem VRs.one {FM : FMem} {β : BMap} {v : AV} {vs : List Value} (h : VRs FM β [v] vs) : ∃ x, vs = [x] ∧ VR FM β v x := by
  obtain ⟨h1, h2⟩ := h
  match vs, h1 with
  | [x], _ => exact ⟨x, rfl, by simpa using h2 0 (by simp)⟩
theorem VRs.two {FM : FMem} {β : BMap} {v u : AV} {vs : List Value} (h : VRs FM β [v, u] vs) : ∃ x y, vs = [x, y] ∧ VR FM β v x ∧ VR FM β u y := by
  obtain ⟨h1, h2⟩ := h
  match vs, h1 with
  | [x, y], _ => exact ⟨x, y, rfl, by simpa using h2 0 (by simp), by simpa using h2 1 (by simp)⟩
theorem VRs.cons {FM : FMem} {β : BMap} {v : AV} {us : List AV} {vs : List Value} (h : VRs FM β (v :: us) vs) : ∃ x xs, vs = x :: xs ∧ VR FM β v x ∧ VRs FM β us xs := by
  obtain ⟨h1, h2⟩ := h
  match vs, h1 with
  | x :: xs, h1 =>
    refine ⟨x, xs, rfl, h2 0 (by simp), by simpa using h1, fun i hi => ?_⟩
    exact h2 (i + 1) (by simpa using hi)

theorem foldMM_ok {FM : FMem} {β : BMap} {k : IntKind} {f : Int → Int → Int} {g : Value → Value → Sem Value} (hg : ∀ a b, g (.int k a) (.int k b) = pure (.int k (f a b))) :
    ∀ {vs : List AV} {xs : List Value} {a n : Int}, VRs FM β vs xs → foldMM f k a vs = some n → xs.foldlM g (.int k a) = pure (.int k n)
  | [], xs, a, n, h, e => by
    simp only [foldMM, Option.some.injEq] at e
    subst e
    have : xs = [] := List.eq_nil_of_length_eq_zero h.1.symm
    subst this
    rfl
  | v :: vs, xs, a, n, h, e => by
    obtain ⟨x, xs', rfl, h1, h2⟩ := h.cons
    unfold foldMM at e
    split at e
    · cases ‹_ :: _ = []›
    · rename_i k' b vs' hh
      obtain ⟨rfl, rfl⟩ := List.cons.inj hh
      split at e
      · rename_i hk
        obtain rfl := kid_inj hk
        cases h1
        rw [List.foldlM_cons, hg]
        exact foldMM_ok hg h2 e
      · cases e
    · cases e

theorem list_one {α : Type} {xs : Array α} {x : α} (h : xs.toList = [x]) : xs = #[x] := by
  apply Array.ext'; simpa using h
theorem list_two {α : Type} {xs : Array α} {x y : α} (h : xs.toList = [x, y]) : xs = #[x, y] := by
  apply Array.ext'; simpa using h

theorem builtin_good (hT : TTok P TT) {b : Builtin} {ts : Array TypeId} {ty : TypeId} {cs : Array Bool} {vs : List AV} {xs : Array Value} {FM : FMem} {β : BMap} {H : AHeap} {w : World}
    (hv : VRs FM β vs xs.toList) (hh : RelH FM β H w) : (builtinStep TT b ts.toList vs H).good fun u H' => Yields ((builtin b ts ty cs xs).run P w) FM β H w u H' := by
  unfold builtinStep
  split
  · rename_i v
    obtain ⟨x, hx, h1⟩ := hv.one
    obtain rfl := list_one hx
    split
    · rename_i t hts
      obtain rfl := list_one hts
      cases ht : TT t with
      | none => trivial
      | some i =>
        obtain ⟨info, d, z, ok⟩ := TI.fits_iff (hT _ _ ht)
        exact St.good_mono (lenOp_good (ty := ty) ok hh h1) fun v H' h => h.yields
    · trivial
  · rename_i k a vs
    obtain ⟨x, xs', hx, h1, h2⟩ := hv.cons
    split
    · rename_i n hn
      cases h1
      refine Yields.same (cv := .int k n) ?_ .int hh
      have := foldMM_ok (g := Builtin.min2) (f := min) (k := k) (fun a b => by simp only [Builtin.min2]; congr 2; simp only [Int.min_def]; split <;> split <;> omega) h2 hn
      have e : Builtin.min_ ts ty xs = pure (.int k n) := by
        simp only [Builtin.min_, hx]
        exact this
      simp [builtin, e]
    · trivial
  · rename_i k a vs
    obtain ⟨x, xs', hx, h1, h2⟩ := hv.cons
    split
    · rename_i n hn
      cases h1
      refine Yields.same (cv := .int k n) ?_ .int hh
      have := foldMM_ok (g := Builtin.max2) (f := max) (k := k) (fun a b => by simp only [Builtin.max2]; congr 2; simp only [Int.max_def]; split <;> split <;> omega) h2 hn
      have e : Builtin.max_ ts ty xs = pure (.int k n) := by
        simp only [Builtin.max_, hx]
        exact this
      simp [builtin, e]
    · trivial
  · rename_i s x
    obtain ⟨cs', cx, hx, h1, h2⟩ := hv.two
    obtain rfl := list_two hx
    split
    · rename_i t t2 hts
      obtain rfl := list_two hts
      split
      · rename_i i i2 ht ht2
        split
        · rename_i e hk2
          obtain ⟨info, d, z, ok⟩ := TI.fits_iff (hT _ _ ht)
          obtain ⟨info2, d2, z2, ok2⟩ := TI.fits_iff (hT _ _ ht2)
          have hkk := ok2.kin
          rw [hk2] at hkk
          cases d2 <;> simp only [TK.fits, Bool.false_eq_true] at hkk
          exact St.good_mono (appendOp_good (ty := ty) hT ok ok2.des hh h1 h2) fun v H' h => h.yields
        · trivial
      · trivial
    · trivial
  · rename_i s x
    obtain ⟨cs', cx, hx, h1, h2⟩ := hv.two
    obtain rfl := list_two hx
    split
    · rename_i t t2 hts
      obtain rfl := list_two hts
      cases ht : TT t with
      | none => trivial
      | some i =>
        simp only
        obtain ⟨info, d, z, ok⟩ := TI.fits_iff (hT _ _ ht)
        split
        · rename_i e hk
          have hkk := ok.kin
          rw [hk] at hkk
          cases d <;> simp only [TK.fits, Bool.false_eq_true, beq_iff_eq] at hkk
          subst hkk
          cases hte : TT e with
          | none => trivial
          | some j =>
            simp only
            obtain ⟨info', d', z', ok'⟩ := TI.fits_iff (hT _ _ hte)
            split
            · rename_i hj
              exact St.good_mono (copyOp_good (tx := t2) (ty := ty) ok.des ok' hj hh h1 h2) fun v H' h => h.yields
            · trivial
        · trivial
    · trivial
  · trivial

end Pf
/- One operation does what is said of it. -/
namespace Pf
open Go
variable {P : Program} {TT : TypeId → Option TI}

theorem part_row {t : TypeId} {i : TI} {info : TypeInfo} {d : TypeDesc} {z : Value} (ht : TIok P t i info d z) {FM : FMem} {β : BMap} {w : World} {cs : List AV} {xs : Array Value} {off : Nat}
    (hc : VRs FM β cs xs.toList) {v : AV} (hr : rowAt i cs off = some v) : ∃ cv, (part t xs off).run P w = .ok cv w ∧ VR FM β v cv := by
  unfold rowAt at hr
  cases hk : i.kind.agg with
  | true =>
    simp only [hk] at hr
    cases hcut : cutM cs off i.size with
    | none => simp [hcut] at hr
    | some us =>
      simp only [hcut, Option.some.injEq] at hr
      subst hr
      obtain ⟨h1, h2, h3⟩ := cutM_eq _ _ _ hcut
      have hl : cs.length = xs.size := by have := hc.1; simpa using this
      refine ⟨.agg (xs.extract off (off + i.size)), by simp [part, ht.run_agg w, hk, ht.run_size w], ?_⟩
      have hle : off + i.size ≤ xs.size ∨ i.size = 0 := by
        by_cases h0 : i.size = 0
        · exact .inr h0
        · have := h2 (i.size - 1) (by omega); omega
      refine .agg (by simp only [h1, Array.size_extract]; omega) fun j hj => ?_
      have hj' : j < i.size := by omega
      have e1 : us[j] = cs[off + j]'(h2 j hj') := by
        have := h3 j hj'
        rw [List.getElem?_eq_getElem hj, List.getElem?_eq_getElem (h2 j hj')] at this
        exact Option.some.inj this
      rw [e1]
      have := hc.2 (off + j) (h2 j hj')
      rw [toList_getD] at this
      have e2 : (xs.extract off (off + i.size)).getD j undef = xs.getD (off + j) undef := by
        have hlt := h2 j hj'
        simp only [Array.getD_eq_getD_getElem?, Array.getElem?_extract]
        rw [if_pos (by omega)]
      rw [e2]; exact this
  | false =>
    simp only [hk] at hr
    split at hr
    · rw [nthM_eq] at hr
      obtain ⟨hl, rfl⟩ := List.getElem?_eq_some_iff.1 hr
      have hl' : cs.length = xs.size := by have := hc.1; simpa using this
      refine ⟨xs[off]'(by omega), by simp [part, ht.run_agg w, hk, show off < xs.size by omega], ?_⟩
      have := hc.2 off hl
      rw [toList_getD] at this
      simpa [Array.getD_eq_getD_getElem?, show off < xs.size by omega] using this
    · cases hr

theorem run_fieldPlace {w : World} {f : Field} {i : TI} {info : TypeInfo} {d : TypeDesc} {z : Value} (ht : TIok P f.type i info d z) (h0 : i.size ≠ 0) {cb o : Nat} :
    (fieldPlace ⟨cb, o, none⟩ f).run P w = .ok ⟨cb, o + f.offset, none⟩ w := by
  simp [fieldPlace, ht.run_size w, h0, addr_add]

theorem struct_nth {F : Array Field} {fs : List (Nat × TypeId)} (h : F.toList.map (fun f => (f.offset, f.type)) = fs) {k off : Nat} {ft : TypeId} (hn : nthM fs k = some (off, ft)) :
    ∃ f, F[k]? = some f ∧ f.offset = off ∧ f.type = ft := by
  subst h
  rw [nthM_eq, List.getElem?_map, Option.map_eq_some_iff] at hn
  obtain ⟨f, h1, h2⟩ := hn
  simp only [Prod.mk.injEq] at h2
  exact ⟨f, by simpa using h1, h2.1, h2.2⟩

theorem fieldAddr_good (hT : TTok P TT) {t : TypeId} {i : TI} (hi : TT t = some i) {fs : List (Nat × TypeId)} (hk : i.kind = .struct fs) {f off : Nat} {ft : TypeId} (hn : nthM fs f = some (off, ft))
    {j : TI} (hj : TT ft = some j) (h0 : j.size ≠ 0) {w : World} {cb o : Nat} : (Instr.fieldAt t (.pointer (some ⟨cb, o, none⟩)) f).run P w = .ok (.pointer (some ⟨cb, o + off, none⟩)) w := by
  obtain ⟨info, d, z, ok⟩ := TI.fits_iff (hT _ _ hi)
  have hkk := ok.kin
  rw [hk] at hkk
  cases d <;> simp only [TK.fits, Bool.false_eq_true, beq_iff_eq] at hkk
  obtain ⟨fl, h1, rfl, rfl⟩ := struct_nth hkk hn
  obtain ⟨info', d', z', ok'⟩ := TI.fits_iff (hT _ _ hj)
  simp [Instr.fieldAt, run_underlying ok.des, h1, Instr.sureAddr, run_fieldPlace ok' h0]

theorem boxed_good {v : AV} {cv : Value} {FM : FMem} {β : BMap} {H : AHeap} {w : World} (hv : VR FM β v cv) (ht : v.isTop = false) (hh : RelH FM β H w) (t : TypeId) :
    (allocOp v.cells H).good fun u H' => SimV ((Instr.box t cv).run P w) FM β H w u H' :=
  allocOp_good hh (hv.cells_of ht) t

theorem exec_build {ρ : Operand → Value} {dst : Option Tmp} {type : TypeId} {pos : String} {af : Array Edge} {gd : Option (Nat × Bool)} {t : TypeId} {ps : Array (Nat × Operand)} :
    execOp ρ { dst := dst, op := .build t ps, type := type, pos := pos, after := af, guard := gd } = (do pure (.value (← Instr.build t (ps.map fun p => (p.1, ρ p.2))))) := rfl
theorem exec_buildSlice {ρ : Operand → Value} {dst : Option Tmp} {type : TypeId} {pos : String} {af : Array Edge} {gd : Option (Nat × Bool)} {t : TypeId} {n : Nat} {ps : Array (Nat × Operand)} :
    execOp ρ { dst := dst, op := .buildSlice t n ps, type := type, pos := pos, after := af, guard := gd } = (do pure (.value (← Instr.buildSlice t n (ps.map fun p => (p.1, ρ p.2))))) := rfl

theorem exec_load {ρ : Operand → Value} {dst : Option Tmp} {type : TypeId} {pos : String} {af : Array Edge} {gd : Option (Nat × Bool)} {t : TypeId} {x : Operand} :
    execOp ρ { dst := dst, op := .load t x, type := type, pos := pos, after := af, guard := gd } = (do pure (.value (← Instr.loadAt t (ρ x)))) := rfl
theorem exec_binOp {ρ : Operand → Value} {dst : Option Tmp} {type : TypeId} {pos : String} {af : Array Edge} {gd : Option (Nat × Bool)} {op : BinOp} {t u : TypeId} {x y : Operand} :
    execOp ρ { dst := dst, op := .binOp op t x y u, type := type, pos := pos, after := af, guard := gd } = (do pure (.value (← (do eqGuard op t x y (ρ x) (ρ y); binOp op t (ρ x) (ρ y) : Sem Value)))) := rfl
theorem exec_unOp {ρ : Operand → Value} {dst : Option Tmp} {type : TypeId} {pos : String} {af : Array Edge} {gd : Option (Nat × Bool)} {op : UnOp} {t : TypeId} {x : Operand} :
    execOp ρ { dst := dst, op := .unOp op t x, type := type, pos := pos, after := af, guard := gd } = (do pure (.value (← Op.unary op (ρ x)))) := rfl
theorem exec_convert {ρ : Operand → Value} {dst : Option Tmp} {type : TypeId} {pos : String} {af : Array Edge} {gd : Option (Nat × Bool)} {s t : TypeId} {x : Operand} :
    execOp ρ { dst := dst, op := .convert s t x, type := type, pos := pos, after := af, guard := gd } = (do pure (.value (← convert s t (ρ x)))) := rfl
theorem exec_alloc {ρ : Operand → Value} {dst : Option Tmp} {type : TypeId} {pos : String} {af : Array Edge} {gd : Option (Nat × Bool)} {t : TypeId} :
    execOp ρ { dst := dst, op := .alloc t, type := type, pos := pos, after := af, guard := gd } = (do pure (.value (← Instr.alloc t true (.tuple #[])))) := rfl
theorem exec_box {ρ : Operand → Value} {dst : Option Tmp} {type : TypeId} {pos : String} {af : Array Edge} {gd : Option (Nat × Bool)} {t : TypeId} {x : Operand} :
    execOp ρ { dst := dst, op := .box t x, type := type, pos := pos, after := af, guard := gd } = (do pure (.value (← Instr.box t (ρ x)))) := rfl
theorem exec_makeFunc {ρ : Operand → Value} {dst : Option Tmp} {type : TypeId} {pos : String} {af : Array Edge} {gd : Option (Nat × Bool)} {f : Fn} {xs ys : Array Operand} :
    execOp ρ { dst := dst, op := .makeFunc f xs ys, type := type, pos := pos, after := af, guard := gd } = (do pure (.value (← Instr.makeFunc f (xs.map ρ) (ys.map ρ)))) := rfl
theorem exec_makeSlice {ρ : Operand → Value} {dst : Option Tmp} {type : TypeId} {pos : String} {af : Array Edge} {gd : Option (Nat × Bool)} {t : TypeId} {l c : Operand} :
    execOp ρ { dst := dst, op := .makeSlice t l c, type := type, pos := pos, after := af, guard := gd } = (do pure (.value (← Instr.makeSlice t (ρ l) (ρ c)))) := rfl
theorem exec_slice {ρ : Operand → Value} {dst : Option Tmp} {type : TypeId} {pos : String} {af : Array Edge} {gd : Option (Nat × Bool)} {t : TypeId} {x : Operand} {l h m : Option Operand} :
    execOp ρ { dst := dst, op := .slice t x l h m, type := type, pos := pos, after := af, guard := gd } = (do pure (.value (← Instr.sliceAt t (ρ x) (l.map ρ) (h.map ρ) (m.map ρ)))) := rfl
theorem exec_fieldAddr {ρ : Operand → Value} {dst : Option Tmp} {type : TypeId} {pos : String} {af : Array Edge} {gd : Option (Nat × Bool)} {t : TypeId} {x : Operand} {f : Nat} :
    execOp ρ { dst := dst, op := .fieldAddr t x f, type := type, pos := pos, after := af, guard := gd } = (do pure (.value (← Instr.fieldAt t (ρ x) f))) := rfl
theorem exec_field {ρ : Operand → Value} {dst : Option Tmp} {type : TypeId} {pos : String} {af : Array Edge} {gd : Option (Nat × Bool)} {t : TypeId} {x : Operand} {f : Nat} :
    execOp ρ { dst := dst, op := .field t x f, type := type, pos := pos, after := af, guard := gd } = (do pure (.value (← Instr.field t (ρ x) f))) := rfl
theorem exec_indexAddr {ρ : Operand → Value} {dst : Option Tmp} {type : TypeId} {pos : String} {af : Array Edge} {gd : Option (Nat × Bool)} {t : TypeId} {x i : Operand} :
    execOp ρ { dst := dst, op := .indexAddr t x i, type := type, pos := pos, after := af, guard := gd } = (do pure (.value (← Instr.indexAt t (ρ x) (ρ i)))) := rfl
theorem exec_index {ρ : Operand → Value} {dst : Option Tmp} {type : TypeId} {pos : String} {af : Array Edge} {gd : Option (Nat × Bool)} {t : TypeId} {x i : Operand} :
    execOp ρ { dst := dst, op := .index t x i, type := type, pos := pos, after := af, guard := gd } = (do pure (.value (← Instr.index t (ρ x) (ρ i)))) := rfl
theorem exec_extract {ρ : Operand → Value} {dst : Option Tmp} {type : TypeId} {pos : String} {af : Array Edge} {gd : Option (Nat × Bool)} {x : Operand} {i : Nat} :
    execOp ρ { dst := dst, op := .extract x i, type := type, pos := pos, after := af, guard := gd } = (do pure (.value (← Instr.extract (ρ x) i))) := rfl

variable {o : Oper} {T : Env} {a : Act} {FM : FMem} {β : BMap} {H : AHeap} {w : World}

set_option maxHeartbeats 4000000 in
theorem stepOp_good (hT : TTok P TT) (m : Nat) (hr : RelT FM β T a) (hh : RelH FM β H w) :
    (stepOp TT m o.op T H).good fun v H' => Yields ((execOp a.eval o).run P w) FM β H w v H' := by
  obtain ⟨dst, op, type, pos, af, gd⟩ := o
  unfold stepOp
  dsimp only
  split
  · -- move
    rename_i x
    cases hx : ev T x with
    | none => trivial
    | some v => exact Yields.same rfl (ev_ok hh.gk hr hx) hh
  · rename_i x
    cases hx : ev T x with
    | none => trivial
    | some v => exact Yields.same rfl (ev_ok hh.gk hr hx) hh
  · -- pick
    rename_i c x y
    split
    · rename_i hc
      have hc := ev_ok hh.gk hr hc
      generalize he : a.eval c = cc at hc
      cases hc
      cases hx : ev T x with
      | none => trivial
      | some v => exact Yields.same (cv := a.eval x) (by simp [execOp, asBool, he]) (ev_ok hh.gk hr hx) hh
    · rename_i hc
      have hc := ev_ok hh.gk hr hc
      generalize he : a.eval c = cc at hc
      cases hc
      cases hx : ev T y with
      | none => trivial
      | some v => exact Yields.same (cv := a.eval y) (by simp [execOp, asBool, he]) (ev_ok hh.gk hr hx) hh
    · trivial
  · -- alloc
    rename_i t
    rw [exec_alloc]
    cases ht : TT t with
    | none => trivial
    | some i =>
      obtain ⟨info, d, z, ok⟩ := TI.fits_iff (hT _ _ ht)
      refine St.good_mono (allocOp_good (P := P) hh (zerosFit_vrs (FM := FM) (β := β) ok.zeros) t) fun v H' h => ?_
      refine SimV.yields ?_
      have e : (Instr.alloc t true (.tuple #[])).run P w = (do pure (.pointer (some (← newVar t z))) : Sem Value).run P w := by
        simp [Instr.alloc, ok.run_zero w]
      rw [e]; exact h
  · -- box
    rename_i t x
    rw [exec_box]
    cases hx : ev T x with
    | none => trivial
    | some v =>
      have hv := ev_ok hh.gk hr hx
      simp only
      split
      · trivial
      · rename_i hne
        have : v.isTop = false := by
          cases v <;> first | rfl | exact absurd rfl hne
        exact St.good_mono (boxed_good (P := P) hv this hh t) fun v H' h => h.yields
  · -- build
    rename_i t ps
    split
    · rename_i i vs ht hv
      obtain ⟨info, d, z, ok⟩ := TI.fits_iff (hT _ _ ht)
      rw [exec_build]
      refine St.good_mono (buildOp_good (P := P) hT ok hh (qs := ps.map fun p => (p.1, a.eval p.2)) ?_) fun v H' h => SimV.yields h
      have := evParts_ok hh.gk hr hv
      simpa using this
    · trivial
  · -- buildSlice
    rename_i t n ps
    split
    · rename_i i vs ht hv
      obtain ⟨info, d, z, ok⟩ := TI.fits_iff (hT _ _ ht)
      rw [exec_buildSlice]
      refine St.good_mono (buildSliceOp_good (P := P) hT ok hh (qs := ps.map fun p => (p.1, a.eval p.2)) ?_) fun v H' h => SimV.yields h
      have := evParts_ok hh.gk hr hv
      simpa using this
    · trivial
  · -- load
    rename_i t x
    rw [exec_load]
    split
    · rename_i i v ht hv
      obtain ⟨info, d, z, ok⟩ := TI.fits_iff (hT _ _ ht)
      refine St.good_mono (loadOp_good (P := P) ok hh (ev_ok hh.gk hr hv)) fun v H' h => ?_
      obtain ⟨rfl, cv, h1, h2⟩ := h
      exact SimV.yields (.same h1 h2 hh)
    · trivial
  · -- store
    rename_i t x y
    split
    · rename_i i p v ht hp hv
      obtain ⟨info, d, z, ok⟩ := TI.fits_iff (hT _ _ ht)
      refine St.good_mono (storeOp_good (P := P) ok hh (ev_ok hh.gk hr hp) (ev_ok hh.gk hr hv)) fun v H' h => ?_
      obtain ⟨rfl, w', β', h1, h2, h3⟩ := h
      exact ⟨undef, w', FM, β', .inr ⟨by simp [execOp, h1], rfl⟩, .tup rfl (fun i hi => by simp at hi), h2, h3⟩
    · trivial
  · -- nilCheck
    rename_i x
    split
    · rename_i hv
      have hv := ev_ok hh.gk hr hv
      generalize he : a.eval x = cx at hv
      cases hv with
      | ptr h hs => exact Yields.same (by simp only [execOp, he]; rfl) (.ptr h hs) hh
    · rename_i hv
      have hv := ev_ok hh.gk hr hv
      generalize he : a.eval x = cx at hv
      cases hv with
      | fptr cv h1 h2 => exact Yields.same (by simp only [execOp, he]; rfl) (.fptr cv h1 h2) hh
    · trivial
  · -- binOp
    rename_i op t x y _
    rw [exec_binOp]
    split
    · rename_i v u hv hu
      cases hb : bothNil v u with
      | true =>
        obtain ⟨rfl, rfl⟩ := bothNil_eq hb
        have h1 := ev_ok hh.gk hr hv
        have h2 := ev_ok hh.gk hr hu
        generalize a.eval x = cx at h1
        generalize a.eval y = cy at h2
        cases h1
        cases h2
        exact St.good_mono (niliOp_good (X := x) hT hh) fun v H' h => SimV.yields h
      | false => exact St.good_mono (binOpV_good (X := x) (Y := y) hT (ev_ok hh.gk hr hv) (ev_ok hh.gk hr hu) hh) fun v H' h => SimV.yields h
    · trivial
  · -- unOp
    rename_i op t x
    rw [exec_unOp]
    split
    · rename_i v hv
      exact St.good_mono (unOpV_good (ev_ok hh.gk hr hv) hh) fun v H' h => SimV.yields h
    · trivial
  · -- convert
    rename_i s t x
    rw [exec_convert]
    split
    · rename_i i0 i v hs ht hv
      obtain ⟨info0, d0, z0, ok0⟩ := TI.fits_iff (hT _ _ hs)
      obtain ⟨info, d, z, ok⟩ := TI.fits_iff (hT _ _ ht)
      split
      · rename_i hb
        exact St.good_mono (convB_good hT hs ht hb (ev_ok hh.gk hr hv) hh) fun v H' h => SimV.yields h
      · exact St.good_mono (convOp_good ok ⟨_, ok0.des⟩ (ev_ok hh.gk hr hv) hh) fun v H' h => SimV.yields h
    · trivial
  · -- makeFunc
    rename_i f fs cs
    rw [exec_makeFunc]
    split
    · rename_i us vs hu hv
      have h1 := evs_ok hh.gk hr hu
      have h2 := evs_ok hh.gk hr hv
      refine Yields.same (cv := .func (.func f) (fs.map a.eval) (cs.map a.eval)) rfl (.fn ?_ ?_ ?_ ?_) hh
      · simpa using h1.1
      · simpa using h2.1
      · intro i hi
        have := h1.2 i hi
        rw [← toList_getD]; simpa using this
      · intro i hi
        have := h2.2 i hi
        rw [← toList_getD]; simpa using this
    · trivial
  · -- makeSlice
    rename_i t l c
    rw [exec_makeSlice]
    split
    · rename_i i k1 n k2 m ht hl hc
      obtain ⟨info, d, z, ok⟩ := TI.fits_iff (hT _ _ ht)
      have hl := ev_ok hh.gk hr hl
      have hc := ev_ok hh.gk hr hc
      refine St.good_mono (makeSliceOp_good (P := P) (kl := k1) (kc := k2) hT ok hh) fun v H' h => SimV.yields ?_
      generalize a.eval l = cl at hl ⊢
      generalize a.eval c = cc at hc ⊢
      cases hl; cases hc
      exact h
    · trivial
  · -- slice 3 at 0
    rename_i t x k1 k2
    rw [exec_slice]
    simp only [Option.map_some, Option.map_none]
    split
    · rename_i i v ht hv
      obtain ⟨info, d, z, ok⟩ := TI.fits_iff (hT _ _ ht)
      exact St.good_mono (slice3Op_good (P := P) hT ok hh (ev_ok hh.gk hr hv)) fun v H' h => SimV.yields h
    · trivial
  · rename_i t x h mx _
    rw [exec_slice]
    simp only [Option.map_some, Option.map_none]
    split
    · rename_i i v ka na kb nb ht hv h1 h2
      obtain ⟨info, d, z, ok⟩ := TI.fits_iff (hT _ _ ht)
      have h1 := ev_ok hh.gk hr h1
      have h2 := ev_ok hh.gk hr h2
      refine St.good_mono (clipOp_good (P := P) (k1 := ka) (k2 := kb) hT ok hh (ev_ok hh.gk hr hv)) fun v H' hg => ?_
      refine SimV.yields ?_
      generalize a.eval h = cl at h1 ⊢
      generalize a.eval mx = cc at h2 ⊢
      cases h1; cases h2
      exact hg
    · trivial
  · rename_i t x l
    rw [exec_slice]
    simp only [Option.map_some, Option.map_none]
    split
    · rename_i i v ka na ht hv h1
      obtain ⟨info, d, z, ok⟩ := TI.fits_iff (hT _ _ ht)
      have h1 := ev_ok hh.gk hr h1
      refine St.good_mono (sliceOp_good (P := P) (k1 := ka) (k2 := ka) hT ok hh (ev_ok hh.gk hr hv)) fun v H' hg => ?_
      refine SimV.yields ?_
      generalize a.eval l = cl at h1 ⊢
      cases h1
      exact hg
    · trivial
  · rename_i t x h
    rw [exec_slice]
    simp only [Option.map_some, Option.map_none]
    split
    · rename_i i v ka na ht hv h1
      obtain ⟨info, d, z, ok⟩ := TI.fits_iff (hT _ _ ht)
      have h1 := ev_ok hh.gk hr h1
      refine St.good_mono (sliceOp_good (P := P) (k1 := ka) (k2 := ka) hT ok hh (ev_ok hh.gk hr hv)) fun v H' hg => ?_
      refine SimV.yields ?_
      generalize a.eval h = cl at h1 ⊢
      cases h1
      exact hg
    · trivial
  · rename_i t x l h
    rw [exec_slice]
    simp only [Option.map_some, Option.map_none]
    split
    · rename_i i v ka na kb nb ht hv h1 h2
      obtain ⟨info, d, z, ok⟩ := TI.fits_iff (hT _ _ ht)
      have h1 := ev_ok hh.gk hr h1
      have h2 := ev_ok hh.gk hr h2
      refine St.good_mono (sliceOp_good (P := P) (k1 := ka) (k2 := kb) hT ok hh (ev_ok hh.gk hr hv)) fun v H' hg => ?_
      refine SimV.yields ?_
      generalize a.eval l = cl at h1 ⊢
      generalize a.eval h = cc at h2 ⊢
      cases h1; cases h2
      exact hg
    · trivial
  · -- fieldAddr
    rename_i t x f
    rw [exec_fieldAddr]
    split
    · rename_i i v ht hv
      split
      · rename_i fs hk
        split
        · rename_i off ft hn
          cases hj : TT ft with
          | none => trivial
          | some j =>
            simp only
            split
            · trivial
            · rename_i n hsz
              have hv := ev_ok hh.gk hr hv
              split
              · generalize he : a.eval x = cx at hv
                cases hv with
                | ptr h hs =>
                  rename_i b g r c L
                  refine SimV.yields ?_
                  refine (SimV.same (fieldAddr_good hT ht hk hn hj (by omega)) ?_ hh)
                  rw [Nat.add_assoc]
                  exact .ptr h hs
              · generalize he : a.eval x = cx at hv
                cases hv with
                | fptr cvs h1 h2 =>
                  refine SimV.yields ?_
                  refine (SimV.same (fieldAddr_good hT ht hk hn hj (by omega)) ?_ hh)
                  rw [Nat.add_assoc]
                  exact .fptr cvs h1 h2
              · trivial
        · trivial
      · trivial
    · trivial
  · -- field
    rename_i t x f
    rw [exec_field]
    split
    · rename_i i cs ht hv
      split
      · rename_i fs hk
        split
        · rename_i off ft hn
          cases hj : TT ft with
          | none => trivial
          | some j =>
            simp only
            cases hrow : rowAt j cs off with
            | none => trivial
            | some v =>
              obtain ⟨info, d, z, ok⟩ := TI.fits_iff (hT _ _ ht)
              have hkk := ok.kin
              rw [hk] at hkk
              cases d <;> simp only [TK.fits, Bool.false_eq_true, beq_iff_eq] at hkk
              obtain ⟨fl, h1, rfl, rfl⟩ := struct_nth hkk hn
              obtain ⟨info', d', z', ok'⟩ := TI.fits_iff (hT _ _ hj)
              have hv := ev_ok hh.gk hr hv
              generalize he : a.eval x = cx at hv
              cases hv with
              | agg hl hv =>
                rename_i xs
                obtain ⟨cv, h2, h3⟩ := part_row (w := w) ok' (⟨by simpa using hl, fun i hi => by rw [toList_getD]; exact hv i hi⟩ : VRs FM β cs xs.toList) hrow
                refine SimV.yields ?_
                exact SimV.same (by simp [Instr.field, run_underlying ok.des, h1, asAgg, h2]) h3 hh
        · trivial
      · trivial
    · trivial
  · -- indexAddr
    rename_i t x i
    rw [exec_indexAddr]
    split
    · rename_i j v k n ht hv hi
      obtain ⟨info, d, z, ok⟩ := TI.fits_iff (hT _ _ ht)
      have hi := ev_ok hh.gk hr hi
      refine St.good_mono (indexAddrOp_good (P := P) (k := k) hT ok hh (ev_ok hh.gk hr hv)) fun v H' hg => ?_
      refine SimV.yields ?_
      generalize a.eval i = ci at hi ⊢
      cases hi
      exact hg
    · trivial
  · -- index
    rename_i t x i
    rw [exec_index]
    split
    · rename_i j s k n ht hv hi
      split
      · rename_i hk
        rintro ⟨h0, h1⟩
        obtain ⟨info, d, z, ok⟩ := TI.fits_iff (hT _ _ ht)
        have hkk := ok.kin
        rw [hk] at hkk
        cases d <;> simp only [TK.fits, Bool.false_eq_true] at hkk
        have hv := ev_ok hh.gk hr hv
        have hi := ev_ok hh.gk hr hi
        refine SimV.yields ?_
        generalize a.eval i = ci at hi ⊢
        generalize a.eval x = cx at hv ⊢
        cases hi
        cases hv with
        | str hb =>
          rename_i b
          subst hb
          have hlt : n.toNat < b.size := by
            have e1 : b.size = b.data.toList.length := Array.length_toList.symm
            omega
          refine SimV.same (cv := .int .u8 (b[n.toNat]'hlt).toNat) ?_ ?_ hh
          · simp [Instr.index, asIntOf, run_underlying ok.des, h0, hlt]
          · have : b.data.toList.getD n.toNat 0 = b[n.toNat]'hlt := by
              have h' : n.toNat < b.data.size := hlt
              rw [List.getD_eq_getElem?_getD, Array.getElem?_toList, Array.getElem?_eq_getElem h']
              rfl
            rw [this]; exact .int
      · trivial
    · trivial
  · -- extract
    rename_i x i
    rw [exec_extract]
    split
    · rename_i vs hv
      rw [nthM_eq]
      cases hn : vs[i]? with
      | none => trivial
      | some v =>
        have hv := ev_ok hh.gk hr hv
        generalize he : a.eval x = cx at hv
        cases hv with
        | tup hl hv =>
          rename_i xs
          obtain ⟨hlt, rfl⟩ := List.getElem?_eq_some_iff.1 hn
          have := hv i hlt
          refine SimV.yields ?_
          refine SimV.same (cv := xs.getD i undef) ?_ this hh
          simp [Instr.extract, show i < xs.size by omega, Array.getD_eq_getD_getElem?]
    · trivial
  · -- makeMap
    rename_i t
    cases ht : TT t with
    | none => trivial
    | some i =>
      refine St.good_mono (makeMapOp_good (P := P) (t := t) hh) fun v H' h => ?_
      exact SimV.yields h
  · -- lookup
    rename_i t x y c
    split
    · rename_i i m v ht hm hv
      refine St.good_mono (lookupOp_good (P := P) (c := c) hT ht (ev_ok hh.gk hr hm) (ev_ok hh.gk hr hv) hh) fun v H' h => ?_
      exact SimV.yields h
    · trivial
  · -- mapUpdate
    rename_i t x y z
    split
    · rename_i i m k v ht hm hk hv
      refine St.good_mono (updateOp_good (P := P) hT ht (ev_ok hh.gk hr hm) (ev_ok hh.gk hr hk) (ev_ok hh.gk hr hv) hh) fun v H' h => ?_
      obtain ⟨rfl, w', h1, h2, h3⟩ := h
      exact ⟨undef, w', FM, β, .inr ⟨by simp [execOp, h1], rfl⟩, .tup rfl (fun i hi => by simp at hi), h2, h3⟩
    · trivial
  · -- insert
    rename_i t x y z
    split
    · rename_i i m k v ht hm hk hv
      refine St.good_mono (updateOp_good (P := P) hT ht (ev_ok hh.gk hr hm) (ev_ok hh.gk hr hk) (ev_ok hh.gk hr hv) hh) fun v H' h => ?_
      obtain ⟨rfl, w', h1, h2, h3⟩ := h
      exact ⟨undef, w', FM, β, .inr ⟨by simp [execOp, h1], rfl⟩, .tup rfl (fun i hi => by simp at hi), h2, h3⟩
    · trivial
  · -- builtin
    skip
    split
    · rename_i vs hv
      have := evs_ok hh.gk hr hv
      rename_i b args ats sp
      refine St.good_mono (builtin_good (P := P) (b := b) (ts := ats) (ty := type) hT (xs := args.map a.eval) (cs := args.map (fun | .const _ => true | _ => false)) (by simpa using this) hh) fun v H' h => ?_
      have e : (execOp a.eval { dst := dst, op := .call { callee := .builtin b, args := args, argTypes := ats }, type := type, pos := pos, after := af, guard := gd }) =
        builtin b ats type (args.map fun | .const _ => true | _ => false) (args.map a.eval) := rfl
      rw [e]; exact h
    · trivial
  · trivial

end Pf
/- What 'exec' comes to is what the model does: the rules for walking through a function. -/
namespace Pf
open Go
variable {P : Program} {TT : TypeId → Option TI}

/-- A call of it enters it. -/
def Enters (P : Program) (f : FuncId) : Prop := ∀ args w, (callFunc f args).run P w = .ok (.enter f args) w
theorem Enters.of {f : FuncId} {fn : Func} (hf : P.funcs[f]? = some fn) (hname : (fn.name == "runtime.NumGoroutine") = false) (hb : fn.body.isSome = true) : Enters P f := by
  intro args w
  have h1 : fn.name ≠ "runtime.NumGoroutine" := by simpa using hname
  obtain ⟨c, hc⟩ := Option.isSome_iff_exists.1 hb
  simp [callFunc, hf, h1, hc]

/-- A function that is entered so ends, and hands back what is R. -/
structure AFun (P : Program) (f : FuncId) (args : List AV) (H : AHeap) (R : AV → AHeap → Prop) : Prop where
  enters : Enters P f
  run : ∀ FM β cs w cargs, VRs FM β args cargs.toList → RelH FM β H w →
    ∃ v w' fr av FM' β' H', R av H' ∧ VR FM' β' av v ∧ RelH FM' β' H' w' ∧ Ext FM β H w FM' β' H' w' ∧ Steps P (lone (Frame.enter P f cargs .normal) cs w) (lone fr cs w') ∧ fr.fn = f ∧ fr.leaving P w' (.returned v)

/-- A frame that stands so ends, and hands back what is R. -/
def AGo (P : Program) (f : FuncId) (N n0 : Nat) (k : List Item) (T : Env) (H : AHeap) (R : AV → AHeap → Prop) : Prop :=
  ∀ FM β (b : Frame) cs a w, b.fn = f → b.kind = .normal → a.defers = [] → a.tmps.size = N → RelT FM β T a → RelH FM β H w → n0 ≤ H.length →
    ∃ v w' fr av FM' β' H', R av H' ∧ VR FM' β' av v ∧ RelH FM' β' H' w' ∧ ExtB n0 FM β H w FM' β' H' w' ∧ Steps P (lone (b.at a k) cs w) (lone fr cs w') ∧ fr.fn = f ∧ fr.leaving P w' (.returned v)

def AllC : List Prop → Prop
  | [] => True
  | C :: cs => AllC cs ∧ C
theorem AllC_app {cs ds es : List Prop} (h : appM ds cs = some es) (ha : AllC es) : AllC cs ∧ AllC ds := by
  induction ds generalizing es with
  | nil => simp only [appM, Option.some.injEq] at h; subst h; exact ⟨ha, trivial⟩
  | cons d ds ih =>
    simp only [appM] at h
    cases hm : appM ds cs with
    | none => simp [hm] at h
    | some r =>
      simp only [hm, Option.some.injEq] at h
      subst h
      exact ⟨(ih hm ha.1).1, (ih hm ha.1).2, ha.2⟩

variable {f N n0 : Nat} {k : List Item} {T : Env} {H : AHeap} {R : AV → AHeap → Prop}

theorem AGo.step {k1 : List Item} (h : AGo P f N n0 k1 T H R) (hs : ∀ (b : Frame) a cs w, b.fn = f → Go.step P (lone (b.at a k) cs w) = .next (lone (b.at a k1) cs w)) : AGo P f N n0 k T H R := by
  intro FM β b cs a w e1 e2 e3 e4 hT hH hl
  obtain ⟨v, w', fr, av, FM', β', H', h1, h2, h3, h4, h5, h6⟩ := h FM β b cs a w e1 e2 e3 e4 hT hH hl
  exact ⟨v, w', fr, av, FM', β', H', h1, h2, h3, h4, .head (hs b a cs w e1) h5, h6⟩
theorem AGo.mono {R' : AV → AHeap → Prop} (h : AGo P f N n0 k T H R) (hr : ∀ v H', R v H' → R' v H') : AGo P f N n0 k T H R' := by
  intro FM β b cs a w e1 e2 e3 e4 hT hH hl
  obtain ⟨v, w', fr, av, FM', β', H', h1, h2⟩ := h FM β b cs a w e1 e2 e3 e4 hT hH hl
  exact ⟨v, w', fr, av, FM', β', H', hr _ _ h1, h2⟩
theorem AFun.mono {args : List AV} {R' : AV → AHeap → Prop} (h : AFun P f args H R) (hr : ∀ v H', R v H' → R' v H') : AFun P f args H R' := by
  refine ⟨h.1, fun FM β cs w cargs hv hH => ?_⟩
  obtain ⟨v, w', fr, av, FM', β', H', h1, h2⟩ := h.2 FM β cs w cargs hv hH
  exact ⟨v, w', fr, av, FM', β', H', hr _ _ h1, h2⟩
theorem AGo.keep {ds : List Nat} {T' : Env} (hk : keepM T ds = some T') (h : AGo P f N n0 k T' H R) : AGo P f N n0 k T H R :=
  fun FM β b cs a w e1 e2 e3 e4 hT hH hl => h FM β b cs a w e1 e2 e3 e4 (hT.keep hk) hH hl

/-! ### What is handed back -/
/-- What a result variable holds. -/
def readR (a : Act) : ResultVar → Sem Value
  | .tmp t => pure (a.tmps.getD t undef)
  | .cell x t => do loadVar t (← asAddr (a.tmps.getD x undef))
theorem resAll_ok (hT : TTok P TT) {FM : FMem} {β : BMap} {a : Act} {w : World} (hr : RelT FM β T a) (hh : RelH FM β H w) : ∀ {rs : List ResultVar} {cs : List Prop} {vs : List AV},
    resAll TT T H rs = some (cs, vs) → AllC cs → ∃ xs : List Value, (rs.mapM (readR a) : Sem (List Value)).run P w = .ok xs w ∧ VRs FM β vs xs
  | [], cs, vs, h, _ => by
    simp only [resAll, Option.some.injEq, Prod.mk.injEq] at h
    obtain ⟨rfl, rfl⟩ := h
    exact ⟨[], rfl, rfl, fun i hi => by simp at hi⟩
  | r :: rs, cs, vs, h, hc => by
    have one : ∀ {C : Option Prop} {v : AV}, resOne TT T H r = some (C, v) → condO C → ∃ x, (readR a r : Sem Value).run P w = .ok x w ∧ VR FM β v x := by
      intro C v h hc
      cases r with
      | tmp d =>
        simp only [resOne] at h
        cases hd : getM T d with
        | none => simp [hd] at h
        | some u =>
          simp only [hd, Option.some.injEq, Prod.mk.injEq] at h
          obtain ⟨rfl, rfl⟩ := h
          exact ⟨_, rfl, hr d _ hd⟩
      | cell d t =>
        simp only [resOne] at h
        cases ht : TT t with
        | none => simp [ht] at h
        | some i =>
          cases hd : getM T d with
          | none => simp [ht, hd] at h
          | some u =>
            obtain ⟨info, dd, z, ok⟩ := TI.fits_iff (hT _ _ ht)
            simp only [ht, hd] at h
            have hl := loadOp_good ok hh (hr d u hd)
            have fin : ∀ {cv : Value} {v' : AV}, (Instr.loadAt t (a.tmps.getD d undef)).run P w = .ok cv w → VR FM β v' cv → ∃ x, (do loadVar t (← asAddr (a.tmps.getD d undef)) : Sem Value).run P w = .ok x w ∧ VR FM β v' x := by
              intro cv v' h1 h2
              refine ⟨cv, ?_, h2⟩
              generalize a.tmps.getD d undef = cx at h1 ⊢
              cases cx <;> simp [Instr.loadAt, Instr.sureAddr, stuck] at h1 ⊢
              rename_i o
              cases o <;> simp [Instr.loadAt, Instr.sureAddr, stuck, asAddr] at h1 ⊢
              exact h1
            cases hlo : loadOp i u H with
            | ok v' H' =>
              simp only [hlo, Option.some.injEq, Prod.mk.injEq] at h
              obtain ⟨rfl, rfl⟩ := h
              rw [hlo] at hl
              obtain ⟨_, cv, h1, h2⟩ := hl
              exact fin h1 h2
            | okc C' v' H' =>
              simp only [hlo, Option.some.injEq, Prod.mk.injEq] at h
              obtain ⟨rfl, rfl⟩ := h
              rw [hlo] at hl
              obtain ⟨_, cv, h1, h2⟩ := hl hc
              exact fin h1 h2
            | bad => simp [hlo] at h
    simp only [resAll] at h
    split at h
    · rename_i v h1
      split at h
      · rename_i cs' vs' h2
        simp only [Option.some.injEq, Prod.mk.injEq] at h
        obtain ⟨rfl, rfl⟩ := h
        obtain ⟨x, e1, e2⟩ := one h1 trivial
        obtain ⟨xs, e3, e4⟩ := resAll_ok hT hr hh h2 hc
        refine ⟨x :: xs, ?_, ?_⟩
        · rw [List.mapM_cons]
          simp only [Sem.run_bind, e1, Result.andThen_ok, e3, Sem.run_pure]
        · refine ⟨by simp [e4.1], fun i hi => ?_⟩
          cases i with
          | zero => simpa using e2
          | succ i => simpa using e4.2 i (by simpa using hi)
      · cases h
    · rename_i C v h1
      split at h
      · rename_i cs' vs' h2
        simp only [Option.some.injEq, Prod.mk.injEq] at h
        obtain ⟨rfl, rfl⟩ := h
        obtain ⟨x, e1, e2⟩ := one h1 hc.2
        obtain ⟨xs, e3, e4⟩ := resAll_ok hT hr hh h2 hc.1
        refine ⟨x :: xs, ?_, ?_⟩
        · rw [List.mapM_cons]
          simp only [Sem.run_bind, e1, Result.andThen_ok, e3, Sem.run_pure]
        · refine ⟨by simp [e4.1], fun i hi => ?_⟩
          cases i with
          | zero => simpa using e2
          | succ i => simpa using e4.2 i (by simpa using hi)
      · cases h
    · cases h

theorem resV_ok (hT : TTok P TT) {fn : Func} {rs : List ResultVar} (hrs : fn.results.toList = rs) {FM : FMem} {β : BMap} {a : Act} {w : World} (hr : RelT FM β T a) (hh : RelH FM β H w) {cs : List Prop} {v : AV}
    (h : resV TT T H rs = some (cs, v)) (hc : AllC cs) : ∃ x, (results fn a.tmps).run P w = .ok x w ∧ VR FM β v x := by
  have key : ∀ {xs : List Value}, (rs.mapM (readR a) : Sem (List Value)).run P w = .ok xs w →
      (results fn a.tmps).run P w = .ok (if h : xs.toArray.size = 1 then xs.toArray[0] else .tuple xs.toArray) w := by
    intro xs he
    have e : results fn a.tmps = (do let vs ← fn.results.mapM (readR a); pure (if h : vs.size = 1 then vs[0] else .tuple vs)) := rfl
    rw [e, Array.mapM_eq_mapM_toList, hrs]
    simp only [Sem.run_bind, Sem.run_map, he, Result.andThen_ok, Sem.run_pure]
  unfold resV at h
  split at h
  · rename_i cs' u hra
    simp only [Option.some.injEq, Prod.mk.injEq] at h
    obtain ⟨rfl, rfl⟩ := h
    obtain ⟨xs, h1, h2⟩ := resAll_ok hT hr hh hra hc
    obtain ⟨x, rfl, h3⟩ := h2.one
    exact ⟨x, by simpa using key h1, h3⟩
  · rename_i cs' vs hne hra
    simp only [Option.some.injEq, Prod.mk.injEq] at h
    obtain ⟨rfl, rfl⟩ := h
    obtain ⟨xs, h1, h2⟩ := resAll_ok hT hr hh hra hc
    have hl : xs.length ≠ 1 := by
      intro hl
      rw [← h2.1] at hl
      match vs, hl with
      | [v], _ => exact hne _ rfl
    refine ⟨.tuple xs.toArray, by simpa [hl] using key h1, .tup (by simpa using h2.1) fun i hi => ?_⟩
    rw [← toList_getD]
    simpa using h2.2 i hi
  · cases h

end Pf
/- What 'exec' comes to is what the model does. -/
namespace Pf
open Go
variable {P : Program} {TT : TypeId → Option TI} {f N n0 : Nat} {k : List Item} {T : Env} {H : AHeap} {R : AV → AHeap → Prop}

theorem AGo.ret (hT : TTok P TT) {fn : Func} (hf : P.funcs[f]? = some fn) {rs : List ResultVar} (hrs : fn.results.toList = rs) {ds cs cs' : List Prop} {v : AV} (h : resV TT T H rs = some (ds, v))
    (ha : appM ds cs = some cs') (hc : AllC cs') (hR : R v H) (hk : (∃ k', k = .code .ret :: k') ∨ k = []) : AGo P f N n0 k T H R := by
  intro FM β b cs a w e1 e2 e3 e4 hrt hh hn0
  obtain ⟨x, h1, h2⟩ := resV_ok hT hrs hrt hh h (AllC_app ha hc).2
  rcases hk with ⟨k', rfl⟩ | rfl
  · exact ⟨x, w, _, v, FM, β, H, hR, h2, hh, Ext.refl.toB hn0, .one step_ret, e1, rfl, e3, e2, fn, by rw [← e1] at hf; exact hf, h1⟩
  · exact ⟨x, w, _, v, FM, β, H, hR, h2, hh, Ext.refl.toB hn0, .one step_end, e1, rfl, e3, e2, fn, by rw [← e1] at hf; exact hf, h1⟩

theorem put_size (a : Act) (d : Option Tmp) (v : Value) : (a.put d v).tmps.size = a.tmps.size := by
  cases d <;> simp [Act.put]
theorem put_defers (a : Act) (d : Option Tmp) (v : Value) : (a.put d v).defers = a.defers := by
  cases d <;> simp [Act.put]

theorem dstM_ok {d : Option Nat} {v : AV} {T' : Env} (h : dstM N d v T = some T') {FM : FMem} {β : BMap} {a : Act} (hr : RelT FM β T a) (hn : a.tmps.size = N) {cv : Value} (hv : VR FM β v cv) :
    RelT FM β T' (a.put d cv) := by
  cases d with
  | none =>
    simp only [dstM, Option.some.injEq] at h
    subst h
    exact hr
  | some d =>
    simp only [dstM] at h
    cases hb : Nat.blt d N with
    | false => simp [hb] at h
    | true =>
      simp only [hb] at h
      have : d < N := by simpa [Nat.blt_eq] using hb
      exact hr.put h hv (by omega)

theorem Ext.go {FM β w FM1 β1 H1 w1} (hx : Ext FM β H w FM1 β1 H1 w1) (hn0 : n0 ≤ H.length) {b : Frame} {cs : List Frame} {m : Machine}
    (h : n0 ≤ H1.length → ∃ v w' fr av FM' β' H', R av H' ∧ VR FM' β' av v ∧ RelH FM' β' H' w' ∧ ExtB n0 FM1 β1 H1 w1 FM' β' H' w' ∧ Steps P m (lone fr cs w') ∧ fr.fn = f ∧ fr.leaving P w' (.returned v)) {m0 : Machine} (hs : Steps P m0 m) :
    ∃ v w' fr av FM' β' H', R av H' ∧ VR FM' β' av v ∧ RelH FM' β' H' w' ∧ ExtB n0 FM β H w FM' β' H' w' ∧ Steps P m0 (lone fr cs w') ∧ fr.fn = f ∧ fr.leaving P w' (.returned v) := by
  obtain ⟨v, w', fr, av, FM', β', H', h1, h2, h3, h4, h5, h6⟩ := h (Nat.le_trans hn0 hx.len)
  exact ⟨v, w', fr, av, FM', β', H', h1, h2, h3, (hx.toB hn0).trans h4, hs.trans h5, h6⟩

/-- One operation of a region. -/
theorem AGo.op (ops : Array Oper) {i : Nat} {is : List Nat} {o : Oper} (ho : ops[i]? = some o) {H' : AHeap} {v : AV} {T' : Env} (hd : dstM N o.dst v T = some T')
    (hg : ∀ FM β (a : Act), a.tmps.size = N → RelT FM β T a → Region.wanted o (yielded ops a.tmps) = true)
    (h : ∀ FM β a w, RelT FM β T a → RelH FM β H w → Yields ((execOp a.eval o).run P w) FM β H w v H') (hn : AGo P f N n0 (.inRegion ops is :: k) T' H' R) :
    AGo P f N n0 (.inRegion ops (i :: is) :: k) T H R := by
  intro FM β b cs a w e1 e2 e3 e4 hrt hh hn0
  obtain ⟨cv, w1, FM1, β1, h1, h2, h3, h4⟩ := h FM β a w hrt hh
  have hg' := stepG_op (P := P) (b := b) (k := k) (cs := cs) (w := w) (rest := is) ho (hg FM β a e4 hrt)
  have hfin : ∀ v, (b.at a (.inRegion ops (i :: is) :: k)).finish v = b.at (a.put o.dst v) (.inRegion ops is :: k) := by
    intro v; rw [Frame.finish_at, ho]; rfl
  refine Ext.go h4 hn0 (hn FM1 β1 b cs (a.put o.dst cv) w1 e1 e2 (by rw [put_defers, e3]) (by rw [put_size, e4]) (dstM_ok hd (hrt.mono h4.fm h4.bm) e4 h2) h3) (b := b) (.one (step_lone_go ?_))
  rcases h1 with h1 | ⟨h1, rfl⟩
  · rw [hg', ← hfin]; simp [stepG.apply, h1]
  · rw [hg', ← hfin]; simp [stepG.apply, h1]

/-- An operation that the guard leaves out. -/
theorem AGo.skip (ops : Array Oper) {i : Nat} {is : List Nat} {o : Oper} (ho : ops[i]? = some o) {T' : Env} (hd : dstM N o.dst (.tup []) T = some T')
    (hg : ∀ FM β (a : Act), a.tmps.size = N → RelT FM β T a → Region.wanted o (yielded ops a.tmps) = false) (hn : AGo P f N n0 (.inRegion ops is :: k) T' H R) :
    AGo P f N n0 (.inRegion ops (i :: is) :: k) T H R := by
  intro FM β b cs a w e1 e2 e3 e4 hrt hh hn0
  have hs := step_op_skip (P := P) (b := b) (a := a) (k := k) (cs := cs) (w := w) (ops := ops) (i := i) (rest := is) (by simp [ho, hg FM β a e4 hrt])
  simp only [ho, Option.bind_some] at hs
  refine Ext.go .refl hn0 (hn FM β b cs (a.put o.dst undef) w e1 e2 (by rw [put_defers, e3]) (by rw [put_size, e4]) (dstM_ok hd hrt e4 (.tup rfl fun i hi => by simp at hi)) hh) (b := b) (.one hs)

/-- A call that is entered so comes back, and the walk goes on from there. -/
def CallGo (P : Program) (f N n0 : Nat) (R : AV → AHeap → Prop) (g : FuncId) (args : List AV) (dst : Option Nat) (k : List Item) (T : Env) (H : AHeap) : Prop :=
  Enters P g ∧ ∀ FM β (a : Act) w cargs cs, a.tmps.size = N → RelT FM β T a → RelH FM β H w → VRs FM β args cargs.toList →
    ∃ v w1 fr FM1 β1 H1 T1, RelT FM1 β1 T1 (a.put dst v) ∧ RelH FM1 β1 H1 w1 ∧ Ext FM β H w FM1 β1 H1 w1 ∧ Steps P (lone (Frame.enter P g cargs .normal) cs w) (lone fr cs w1) ∧ fr.leaving P w1 (.returned v) ∧ AGo P f N n0 k T1 H1 R

theorem CallGo.of {g : FuncId} {args : List AV} {dst : Option Nat} (h : AFun P g args H fun v H' => ∃ T', dstM N dst v T = some T' ∧ AGo P f N n0 k T' H' R) : CallGo P f N n0 R g args dst k T H := by
  refine ⟨h.1, fun FM β a w cargs cs e4 hrt hh hv => ?_⟩
  obtain ⟨cv, w1, fr, av, FM1, β1, H1, ⟨T', h3, h4⟩, h5, h6, h7, h8, h9, h10⟩ := h.2 FM β cs w cargs hv hh
  exact ⟨cv, w1, fr, FM1, β1, H1, T', dstM_ok h3 (hrt.mono h7.fm h7.bm) e4 h5, h6, h7, h8, h10, h4⟩

/-- A call of a Go function. -/
theorem AGo.call (ops : Array Oper) {i : Nat} {is : List Nat} {o : Oper} (ho : ops[i]? = some o) (hg : ∀ FM β (a : Act), a.tmps.size = N → RelT FM β T a → Region.wanted o (yielded ops a.tmps) = true)
    {g : FuncId} {args : List AV} (h : ∀ FM β a w, RelT FM β T a → RelH FM β H w → ∃ cargs, (execOp a.eval o).run P w = .ok (.enter g cargs) w ∧ VRs FM β args cargs.toList)
    (hn : CallGo P f N n0 R g args o.dst (.inRegion ops is :: k) T H) :
    AGo P f N n0 (.inRegion ops (i :: is) :: k) T H R := by
  intro FM β b cs a w e1 e2 e3 e4 hrt hh hn0
  obtain ⟨cargs, h1, h2⟩ := h FM β a w hrt hh
  have hg' := stepG_op (P := P) (b := b) (k := k) (cs := cs) (w := w) (rest := is) ho (hg FM β a e4 hrt)
  have hfin : ∀ v, (b.at a (.inRegion ops (i :: is) :: k)).finish v = b.at (a.put o.dst v) (.inRegion ops is :: k) := by
    intro v; rw [Frame.finish_at, ho]; rfl
  obtain ⟨cv, w1, fr, FM1, β1, H1, T', h5, h6, h7, h8, h10, h4⟩ := hn.2 FM β a w cargs (b.at a (.inRegion ops (i :: is) :: k) :: cs) e4 hrt hh h2
  have henter : Go.step P (lone (b.at a (.inRegion ops (i :: is) :: k)) cs w) = .next (lone (Frame.enter P g cargs .normal) (b.at a (.inRegion ops (i :: is) :: k) :: cs) w) :=
    step_lone_go (by rw [hg']; simp [stepG.apply, h1, Frame.at])
  refine Ext.go h7 hn0 (h4 FM1 β1 b cs (a.put o.dst cv) w1 e1 e2 (by rw [put_defers, e3]) (by rw [put_size, e4]) h5 h6) (b := b) (.head henter (h8.trans (.one ?_)))
  rw [← hfin]; exact step_leave_returned h10

/-! ### Guards -/
theorem yielded_bool {ops : Array Oper} {j d : Nat} {oj : Oper} (hj : nthM ops.toList j = some oj) (hd : oj.dst = some d) {FM : FMem} {β : BMap} {a : Act} (hr : RelT FM β T a) {t : Bool} (h : getM T d = some (.bool t)) :
    yielded ops a.tmps j = some t := by
  have hv := hr d _ h
  rw [nthM_eq] at hj
  have hj' : ops[j]? = some oj := by simpa using hj
  have e : a.tmps[d]? = some (.bool t) := by
    generalize hx : a.tmps.getD d undef = x at hv
    cases hv
    rw [Array.getD_eq_getD_getElem?] at hx
    cases hq : a.tmps[d]? with
    | none => rw [hq] at hx; cases hx
    | some y => rw [hq] at hx; exact congrArg some hx
  simp [yielded, hj', hd, e]
theorem yielded_none {ops : Array Oper} {j d : Nat} {oj : Oper} (hj : nthM ops.toList j = some oj) (hd : oj.dst = some d) {FM : FMem} {β : BMap} {a : Act} (hr : RelT FM β T a) (h : getM T d = some (.tup [])) :
    yielded ops a.tmps j = none := by
  have hv := hr d _ h
  rw [nthM_eq] at hj
  have hj' : ops[j]? = some oj := by simpa using hj
  unfold yielded
  simp only [hj', Option.bind_some, hd]
  generalize hx : a.tmps.getD d undef = x at hv
  cases hv with
  | tup h1 h2 =>
    rw [Array.getD_eq_getD_getElem?] at hx
    cases hq : a.tmps[d]? with
    | none => rfl
    | some y => rw [hq] at hx; simp only [Option.getD_some] at hx; subst hx; rfl

theorem guardM_yes {ops : Array Oper} {o : Oper} (h : guardM ops.toList T o.guard = some none) {FM : FMem} {β : BMap} {a : Act} (hr : RelT FM β T a) : Region.wanted o (yielded ops a.tmps) = true := by
  unfold guardM at h
  split at h
  · rename_i hg
    simp [Region.wanted, hg]
  · rename_i j want hg
    split at h
    · rename_i oj hj
      split at h
      · rename_i d hd
        split at h
        · rename_i ht
          split at h
          · simp [Region.wanted, hg, yielded_bool hj hd hr ht]
          · cases h
        · rename_i ht
          split at h
          · simp [Region.wanted, hg, yielded_bool hj hd hr ht]
          · cases h
        · cases h
        · cases h
        · cases h
        · cases h
      · cases h
    · cases h
theorem guardM_no {ops : Array Oper} {o : Oper} (h : guardM ops.toList T o.guard = some (some none)) {FM : FMem} {β : BMap} {a : Act} (hr : RelT FM β T a) : Region.wanted o (yielded ops a.tmps) = false := by
  unfold guardM at h
  split at h
  · cases h
  · rename_i j want hg
    split at h
    · rename_i oj hj
      split at h
      · rename_i d hd
        split at h
        · rename_i ht
          split at h
          · cases h
          · simp [Region.wanted, hg, yielded_bool hj hd hr ht]
        · rename_i ht
          split at h
          · cases h
          · simp [Region.wanted, hg, yielded_bool hj hd hr ht]
        · rename_i ht
          simp [Region.wanted, hg, yielded_none hj hd hr ht]
        · cases h
        · cases h
        · cases h
      · cases h
    · cases h

end Pf
/- What 'exec' comes to is what the model does. -/
namespace Pf
open Go
variable {P : Program} {TT : TypeId → Option TI} {f N n0 : Nat} {k : List Item} {T : Env} {H : AHeap} {R : AV → AHeap → Prop}

/-- What is left to show of what 'exec' comes to. -/
def Good (P : Program) (f N n0 : Nat) (R : AV → AHeap → Prop) : Out → Prop
  | .ret cs v H => AllC cs ∧ R v H
  | .split cs d p q k T H => AllC cs ∧ (p → ∃ T1, putM d (.bool true) T = some T1 ∧ AGo P f N n0 k T1 H R) ∧ (q → ∃ T1, putM d (.bool false) T = some T1 ∧ AGo P f N n0 k T1 H R)
  | .loop cs c k T H => AllC cs ∧ AGo P f N n0 (.code c :: .inLoop c :: k) T H R
  | .back cs c k T H => AllC cs ∧ AGo P f N n0 (.inLoop c :: k) T H R
  | .call cs g args dst k T H => AllC cs ∧ CallGo P f N n0 R g args dst k T H
  | .draw cs k T H => AllC cs ∧ AGo P f N n0 k T H R
  | .stop cs k T H => AllC cs ∧ AGo P f N n0 k T H R

theorem RelT.refine {FM : FMem} {β : BMap} {T' : Env} {a : Act} {d : Nat} {v : AV} (h : RelT FM β T a) (hp : putM d v T = some T') (hv : VR FM β v (a.tmps.getD d undef)) : RelT FM β T' a := by
  intro e u hu
  rw [getM_putM hp e] at hu
  by_cases hde : d = e
  · subst hde
    simp only [if_true, Option.some.injEq] at hu
    subst hu
    exact hv
  · rw [if_neg hde] at hu
    exact h e u hu

theorem AGo.split {d : Nat} {p q : Prop} (hd : getM T d = some (.anyb p q) ∨ (getM T d = some (.pr p) ∧ q = ¬p)) (h1 : p → ∃ T1, putM d (.bool true) T = some T1 ∧ AGo P f N n0 k T1 H R)
    (h2 : q → ∃ T1, putM d (.bool false) T = some T1 ∧ AGo P f N n0 k T1 H R) : AGo P f N n0 k T H R := by
  intro FM β b cs a w e1 e2 e3 e4 hrt hh hn0
  have key : ∃ t, a.tmps.getD d undef = .bool t ∧ (t = true → p) ∧ (t = false → q) := by
    rcases hd with hd | ⟨hd, rfl⟩
    · have hv := hrt d _ hd
      generalize a.tmps.getD d undef = x at hv
      cases hv with
      | anyb h1 h2 => exact ⟨_, rfl, h1, h2⟩
    · have hv := hrt d _ hd
      generalize a.tmps.getD d undef = x at hv
      cases hv with
      | pr hp => exact ⟨_, rfl, hp.1, fun hf q => by have := hp.2 q; rw [hf] at this; cases this⟩
  obtain ⟨t, hx, hp, hq⟩ := key
  cases t with
  | true =>
    obtain ⟨T1, h3, h4⟩ := h1 (hp rfl)
    exact h4 FM β b cs a w e1 e2 e3 e4 (hrt.refine h3 (by rw [hx]; exact .bool)) hh hn0
  | false =>
    obtain ⟨T1, h3, h4⟩ := h2 (hq rfl)
    exact h4 FM β b cs a w e1 e2 e3 e4 (hrt.refine h3 (by rw [hx]; exact .bool)) hh hn0

theorem upto_eq (n : Nat) : ∀ m, m ≤ n → upto n m = (List.range n).drop (n - m)
  | 0, _ => by simp [upto]
  | m + 1, h => by
    rw [upto, upto_eq n m (by omega)]
    have e : n - m = n - (m + 1) + 1 := by omega
    rw [e]
    have := List.drop_eq_getElem_cons (l := List.range n) (i := n - (m + 1)) (by simp; omega)
    rw [this]
    simp
theorem lenM_eq' {α : Type} (l : List α) : lenM l = l.length := by
  induction l with
  | nil => rfl
  | cons x l ih => simp [lenM, ih]
theorem upto_all (n : Nat) : upto n n = List.range n := by rw [upto_eq n n (Nat.le_refl _)]; simp

theorem VRs.push {FM : FMem} {β : BMap} {v : AV} {x : Value} {us : List AV} {xs : List Value} (h : VR FM β v x) (hs : VRs FM β us xs) : VRs FM β (v :: us) (x :: xs) := by
  refine ⟨by simp [hs.1], fun i hi => ?_⟩
  cases i with
  | zero => exact h
  | succ i => exact hs.2 i (by simpa using hi)
theorem VRs.app {FM : FMem} {β : BMap} : ∀ {us : List AV} {xs : List Value} {ys : List Value} {vs : List AV}, VRs FM β us xs → VRs FM β vs ys → VRs FM β (us ++ vs) (xs ++ ys)
  | [], xs, ys, vs, h, h2 => by
    have : xs = [] := List.eq_nil_of_length_eq_zero h.1.symm
    subst this
    exact h2
  | u :: us, xs, ys, vs, h, h2 => by
    obtain ⟨x, xs', rfl, h3, h4⟩ := h.cons
    exact VRs.push h3 (VRs.app h4 h2)

theorem opKind_call {o : Oper} {g : FuncId} {args : List AV} (h : opKind o.op T = .call g args) (he : Enters P g) {FM : FMem} {β : BMap} {a : Act} {w : World} (hg : GK FM w) (hr : RelT FM β T a) :
    ∃ cargs, (execOp a.eval o).run P w = .ok (.enter g cargs) w ∧ VRs FM β args cargs.toList := by
  obtain ⟨dst, op, type, pos, af, gd⟩ := o
  unfold opKind at h
  dsimp only at h
  split at h
  · rename_i fo xs ats
    split at h
    · rename_i fid fs cap vs h1 h2
      split at h
      · rename_i a1 h3
        split at h
        · rename_i a2 h4
          cases h
          have hv := ev_ok hg hr h1
          have hvs := evs_ok hg hr h2
          generalize hx : a.eval fo = fv at hv
          cases hv with
          | fn hl1 hl2 hv1 hv2 =>
            rename_i asx cps
            refine ⟨asx ++ xs.map a.eval ++ cps, ?_, ?_⟩
            · have e : (execOp a.eval { dst := dst, op := .call { callee := .value fo, args := xs, argTypes := ats }, type := type, pos := pos, after := af, guard := gd }).run P w =
                  (do let d ← Deferred.ofValue (a.eval fo) (xs.map a.eval); invoke d.target d.args : Sem Next).run P w := rfl
              rw [e, hx]
              have e2 : (do let d ← Deferred.ofValue (.func (.func g) asx cps) (xs.map a.eval); invoke d.target d.args : Sem Next).run P w = (callFunc g (asx ++ xs.map a.eval ++ cps)).run P w := by
                simp [Deferred.ofValue, invoke]
              rw [e2, he]
            · rw [appM_eq] at h3 h4
              cases h3; cases h4
              have a1 : VRs FM β fs asx.toList := ⟨by simpa using hl1, fun i hi => by rw [toList_getD]; exact hv1 i hi⟩
              have a2 : VRs FM β cap cps.toList := ⟨by simpa using hl2, fun i hi => by rw [toList_getD]; exact hv2 i hi⟩
              have a3 : VRs FM β vs (xs.map a.eval).toList := by simpa using hvs
              simpa using (a1.app a3).app a2
        · cases h
      · cases h
    · cases h
  · split at h <;> cases h
  · cases h

theorem opKind_hangs {op : Op} {d : Nat} {p q : Prop} (h : opKind op T = .hangs d p q) : getM T d = some (.anyb p q) ∨ (getM T d = some (.pr p) ∧ q = ¬p) := by
  unfold opKind at h
  split at h
  · split at h
    · split at h
      · split at h <;> cases h
      · cases h
    · cases h
  · split at h
    · rename_i hd
      cases h
      exact .inr ⟨hd, rfl⟩
    · rename_i hd
      cases h
      exact .inl hd
    · cases h
  · cases h
theorem guardM_hangs {ops : List Oper} {g : Option (Nat × Bool)} {d : Nat} {p q : Prop} (h : guardM ops T g = some (some (some (d, p, q)))) : getM T d = some (.anyb p q) ∨ (getM T d = some (.pr p) ∧ q = ¬p) := by
  unfold guardM at h
  split at h
  · cases h
  · split at h
    · split at h
      · split at h
        · split at h <;> cases h
        · split at h <;> cases h
        · cases h
        · rename_i hd
          cases h
          exact .inr ⟨hd, rfl⟩
        · rename_i hd
          cases h
          exact .inl hd
        · cases h
      · cases h
    · cases h

theorem exec_ok (hT : TTok P TT) {fn : Func} (hf : P.funcs[f]? = some fn) {rs : List ResultVar} (hrs : fn.results.toList = rs) (m : Nat) : ∀ (n : Nat) (cs : List Prop) (k : List Item) (T : Env) (H : AHeap),
    Good P f N n0 R (exec TT N rs m n cs k T H) → AllC cs ∧ AGo P f N n0 k T H R
  | 0, cs, k, T, H, h => h
  | n + 1, cs, k, T, H, h => by
    have ih := exec_ok hT hf hrs m n
    unfold exec at h
    split at h
    · -- the end
      split at h
      · rename_i ds v hv
        split at h
        · rename_i cs' ha
          exact ⟨(AllC_app ha h.1).1, AGo.ret hT hf hrs hv ha h.1 h.2 (.inr rfl)⟩
        · exact h
      · exact h
    · rename_i c k'
      split at h
      · obtain ⟨h1, h2⟩ := ih _ _ _ _ h
        exact ⟨h1, h2.step fun b a cs w _ => step_skip⟩
      · obtain ⟨h1, h2⟩ := ih _ _ _ _ h
        exact ⟨h1, h2.step fun b a cs w _ => step_seq⟩
      · split at h
        · rename_i ds v hv
          split at h
          · rename_i cs' ha
            exact ⟨(AllC_app ha h.1).1, AGo.ret hT hf hrs hv ha h.1 h.2 (.inl ⟨_, rfl⟩)⟩
          · exact h
        · exact h
      · obtain ⟨h1, h2⟩ := ih _ _ _ _ h
        exact ⟨h1, h2.step fun b a cs w _ => step_block⟩
      · split at h
        · exact h
        · exact ⟨h.1, h.2.step fun b a cs w _ => step_loop⟩
      · split at h
        · rename_i k'' hk
          split at h
          · exact ⟨h.1, h.2.step fun b a cs w _ => step_exit hk⟩
          · obtain ⟨h1, h2⟩ := ih _ _ _ _ h
            exact ⟨h1, h2.step fun b a cs w _ => step_exit hk⟩
        · exact h
      · rename_i c x y
        split at h
        · rename_i hc
          obtain ⟨h1, h2⟩ := ih _ _ _ _ h
          refine ⟨h1, ?_⟩
          intro FM β b cs a w e1 e2 e3 e4 hrt hh hn0
          have hv := ev_ok hh.gk hrt hc
          generalize hx : a.eval c = cv at hv
          cases hv
          exact Ext.go .refl hn0 (h2 FM β b cs a w e1 e2 e3 e4 hrt hh) (b := b) (.one (by have := step_cond (P := P) (b := b) (k := k') (cs := cs) (w := w) (x := x) (y := y) hx; simpa using this))
        · rename_i hc
          obtain ⟨h1, h2⟩ := ih _ _ _ _ h
          refine ⟨h1, ?_⟩
          intro FM β b cs a w e1 e2 e3 e4 hrt hh hn0
          have hv := ev_ok hh.gk hrt hc
          generalize hx : a.eval c = cv at hv
          cases hv
          exact Ext.go .refl hn0 (h2 FM β b cs a w e1 e2 e3 e4 hrt hh) (b := b) (.one (by have := step_cond (P := P) (b := b) (k := k') (cs := cs) (w := w) (x := x) (y := y) hx; simpa using this))
        · rename_i p hc
          split at h
          · rename_i d
            exact ⟨h.1, AGo.split (.inr ⟨hc, rfl⟩) h.2.1 h.2.2⟩
          · exact h
        · rename_i p q hc
          split at h
          · rename_i d
            exact ⟨h.1, AGo.split (.inl hc) h.2.1 h.2.2⟩
          · exact h
        · exact h
      · rename_i id ops dr
        split at h
        · exact h
        · obtain ⟨h1, h2⟩ := ih _ _ _ _ h
          refine ⟨h1, h2.step fun b a cs w _ => ?_⟩
          rw [lenM_eq', upto_all, Array.length_toList]
          exact step_region
      · exact h
    · obtain ⟨h1, h2⟩ := ih _ _ _ _ h
      exact ⟨h1, h2.step fun b a cs w _ => step_inBlock⟩
    · exact h
    · rename_i ops is k'
      split at h
      · obtain ⟨h1, h2⟩ := ih _ _ _ _ h
        exact ⟨h1, h2.step fun b a cs w _ => step_region_end⟩
      · rename_i i is
        split at h
        · exact h
        · rename_i o ho
          rw [nthM_eq] at ho
          have ho : ops[i]? = some o := by simpa using ho
          split at h
          · exact h
          · rename_i d p q hg
            exact ⟨h.1, AGo.split (guardM_hangs hg) h.2.1 h.2.2⟩
          · rename_i hg
            split at h
            · rename_i T' hd
              obtain ⟨h1, h2⟩ := ih _ _ _ _ h
              exact ⟨h1, AGo.skip ops ho hd (fun FM β a _ hr => guardM_no hg hr) h2⟩
            · exact h
          · rename_i hg
            split at h
            · exact h
            · rename_i g args hk
              exact ⟨h.1, AGo.call ops ho (fun FM β a _ hr => guardM_yes hg hr) (fun FM β a w hr hh => opKind_call hk h.2.1 hh.gk hr) h.2⟩
            · rename_i d p q hk
              exact ⟨h.1, AGo.split (opKind_hangs hk) h.2.1 h.2.2⟩
            · split at h
              · exact h
              · rename_i v H' hs
                split at h
                · rename_i T' hd
                  obtain ⟨h1, h2⟩ := ih _ _ _ _ h
                  refine ⟨h1, AGo.op ops ho hd (fun FM β a _ hr => guardM_yes hg hr) (fun FM β a w hr hh => ?_) h2⟩
                  have := stepOp_good (o := o) hT (modeM m) hr hh
                  rw [hs] at this
                  exact this
                · exact h
              · rename_i C v H' hs
                split at h
                · rename_i T' hd
                  obtain ⟨h1, h2⟩ := ih _ _ _ _ h
                  refine ⟨h1.1, AGo.op ops ho hd (fun FM β a _ hr => guardM_yes hg hr) (fun FM β a w hr hh => ?_) h2⟩
                  have := stepOp_good (o := o) hT (modeM m) hr hh
                  rw [hs] at this
                  exact this h1.2
                · exact h
    · exact h

end Pf
/- The rules for a walk through a function. -/
namespace Pf
open Go
variable {P : Program} {TT : TypeId → Option TI} {f N n0 : Nat} {k : List Item} {T : Env} {H : AHeap} {R : AV → AHeap → Prop}

/-- What a walk through a function leans on. -/
structure Walk (P : Program) (TT : TypeId → Option TI) (f : Nat) (rs : List ResultVar) : Prop where
  tt : TTok P TT
  fn : ∃ fn, P.funcs[f]? = some fn ∧ fn.results.toList = rs

variable {rs : List ResultVar}

theorem Walk.ok (W : Walk P TT f rs) {m n : Nat} {cs : List Prop} (h : Good P f N n0 R (exec TT N rs m n cs k T H)) : AGo P f N n0 k T H R := by
  obtain ⟨fn, h1, h2⟩ := W.fn
  exact (exec_ok W.tt h1 h2 m n cs k T H h).2

theorem go_ret (W : Walk P TT f rs) (m n : Nat) {cs : List Prop} {v : AV} {H' : AHeap} (h : exec TT N rs m n [] k T H = .ret cs v H') (hc : AllC cs) (hr : R v H') : AGo P f N n0 k T H R :=
  W.ok (by rw [h]; exact ⟨hc, hr⟩)
theorem go_split (W : Walk P TT f rs) (m n : Nat) {cs : List Prop} {d : Nat} {p q : Prop} {k' : List Item} {T' T1 T2 : Env} {H' : AHeap} (h : exec TT N rs m n [] k T H = .split cs d p q k' T' H')
    (e1 : putM d (.bool true) T' = some T1) (e2 : putM d (.bool false) T' = some T2) (hc : AllC cs) (h1 : p → AGo P f N n0 k' T1 H' R) (h2 : q → AGo P f N n0 k' T2 H' R) : AGo P f N n0 k T H R :=
  W.ok (by rw [h]; exact ⟨hc, fun q => ⟨T1, e1, h1 q⟩, fun q => ⟨T2, e2, h2 q⟩⟩)
theorem go_call (W : Walk P TT f rs) (m n : Nat) {cs : List Prop} {g : FuncId} {args : List AV} {dst : Option Nat} {k' : List Item} {T' : Env} {H' : AHeap} (h : exec TT N rs m n [] k T H = .call cs g args dst k' T' H')
    (hc : AllC cs) {Q : AV → AHeap → Prop} (hq : AFun P g args H' Q) (h1 : ∀ v H1, Q v H1 → ∃ T1, dstM N dst v T' = some T1 ∧ AGo P f N n0 k' T1 H1 R) : AGo P f N n0 k T H R :=
  W.ok (by rw [h]; exact ⟨hc, .of (hq.mono h1)⟩)
theorem go_draw (W : Walk P TT f rs) (m n : Nat) {cs : List Prop} {k' : List Item} {T' : Env} {H' : AHeap} (h : exec TT N rs m n [] k T H = .draw cs k' T' H') (hc : AllC cs) (h1 : AGo P f N n0 k' T' H' R) : AGo P f N n0 k T H R :=
  W.ok (by rw [h]; exact ⟨hc, h1⟩)
theorem go_stop (W : Walk P TT f rs) (m n : Nat) {cs : List Prop} {k' : List Item} {T' : Env} {H' : AHeap} (h : exec TT N rs m n [] k T H = .stop cs k' T' H') (hc : AllC cs) (h1 : AGo P f N n0 k' T' H' R) : AGo P f N n0 k T H R :=
  W.ok (by rw [h]; exact ⟨hc, h1⟩)
/-- A loop: what stands at its head each time is 'Inv', and 'mu' falls. -/
theorem go_loop (W : Walk P TT f rs) (m n : Nat) {σ : Type} (Inv : σ → Env) (Hp : σ → AHeap) (mu : σ → Nat) (ok : σ → Prop) (s0 : σ) (ds : List Nat) {cs : List Prop} {c : Code} {k' : List Item} {T' : Env} {H' : AHeap}
    (h : exec TT N rs m n [] k T H = .loop cs c k' T' H') (hk : keepM T' ds = some (Inv s0)) (hH : H' = Hp s0) (hc : AllC cs) (h0 : ok s0)
    (hs : ∀ s, ok s → (∀ s', ok s' → mu s' < mu s → AGo P f N n0 (.inLoop c :: k') (Inv s') (Hp s') R) → AGo P f N n0 (.code c :: .inLoop c :: k') (Inv s) (Hp s) R) : AGo P f N n0 k T H R := by
  have key : ∀ n s, mu s < n → ok s → AGo P f N n0 (.code c :: .inLoop c :: k') (Inv s) (Hp s) R := by
    intro n
    induction n with
    | zero => intro s hn; omega
    | succ n ih =>
      intro s hn hok
      exact hs s hok fun s' ok' lt => (ih s' (by omega) ok').step fun b a cs w _ => step_inLoop
  subst hH
  exact W.ok (by rw [h]; exact ⟨hc, (key _ s0 (Nat.lt_succ_self _) h0).keep hk⟩)

/-! ### Into a function -/
def penv : Nat → List AV → Env
  | _, [] => []
  | i, v :: vs => (i, v) :: penv (i + 1) vs
theorem getM_penv : ∀ (vs : List AV) (i d : Nat) {v : AV}, getM (penv i vs) d = some v → v = .top ∨ (i ≤ d ∧ vs[d - i]? = some v)
  | [], i, d, v, h => by simp only [penv, getM, Option.some.injEq] at h; exact .inl h.symm
  | u :: vs, i, d, v, h => by
    simp only [penv, getM] at h
    cases hb : Nat.beq i d with
    | true =>
      simp only [hb, Option.some.injEq] at h
      have := Nat.eq_of_beq_eq_true hb
      subst this; subst h
      exact .inr ⟨Nat.le_refl _, by simp⟩
    | false =>
      simp only [hb] at h
      have hne : i ≠ d := by rintro rfl; simp at hb
      rcases getM_penv vs (i + 1) d h with h | ⟨h1, h2⟩
      · exact .inl h
      · refine .inr ⟨by omega, ?_⟩
        have : d - i = d - (i + 1) + 1 := by omega
        rw [this]; simpa using h2

theorem afun_of {fn : Func} {body : Code} (hf : P.funcs[f]? = some fn) (he : Enters P f) (hb : fn.body = some body) (hn : fn.ntmps = N) {args : List AV} (hl : Nat.ble (lenM args) N = true)
    (h : AGo P f N H.length [.code body] (penv 0 args) H R) : AFun P f args H R := by
  refine ⟨he, fun FM β cs w cargs hv hh => ?_⟩
  rw [lenM_eq] at hl
  have hl : args.length ≤ N := by simpa using hl
  have hs : args.length = cargs.size := by simpa using hv.1
  have e : Frame.enter P f cargs .normal = ({ Frame.enter P f cargs .normal with todo := [] } : Frame).at ⟨(Frame.enter P f cargs .normal).tmps, []⟩ [.code body] := by
    simp [Frame.enter, Frame.at, hf, hb]
  rw [e]
  have full : ∀ {FM' β' H' w'}, ExtB H.length FM β H w FM' β' H' w' → Ext FM β H w FM' β' H' w' := fun x =>
    ⟨x.fm, fun b g lo e => x.bm b g lo (hh.dom b g lo e).1 e, x.size, x.img, x.frame, x.fmn, x.len, x.os, x.output, x.tape⟩
  have go := h FM β ({ Frame.enter P f cargs .normal with todo := [] } : Frame) cs ⟨(Frame.enter P f cargs .normal).tmps, []⟩ w ?_ ?_ rfl ?_ ?_ hh (Nat.le_refl _)
  · obtain ⟨v, w', fr, av, FM', β', H', h1, h2, h3, h4, h5⟩ := go
    exact ⟨v, w', fr, av, FM', β', H', h1, h2, h3, full h4, h5⟩
  · simp [Frame.enter]
  · simp [Frame.enter]
  · simp [Frame.enter, hf, hn]; omega
  · intro d v hd
    rcases getM_penv _ _ _ hd with rfl | ⟨_, h2⟩
    · exact .top
    · obtain ⟨hlt, rfl⟩ := List.getElem?_eq_some_iff.1 h2
      have := hv.2 d (by simpa using hlt)
      rw [toList_getD] at this
      have e2 : (Frame.enter P f cargs .normal).tmps.getD d undef = cargs.getD d undef := by
        have : d < cargs.size := by omega
        simp [Frame.enter, Array.getD_eq_getD_getElem?, Array.getElem?_append, this]
      rw [e2]
      simpa using this

theorem Walk.of {fn : Func} (hT : TTok P TT) (hf : P.funcs[f]? = some fn) {rs : Array ResultVar} (hr : fn.results = rs) : Walk P TT f rs.toList := ⟨hT, fn, hf, by rw [hr]⟩

/-! ### What holds no place in the blocks at hand -/
mutual
def clo : AV → Bool
  | .ptr _ _ _ _ | .sl _ _ _ _ | .mp _ => false
  | .fn _ fs cs => match cloL fs with | true => cloL cs | false => false
  | .iface _ v => clo v
  | .agg cs => cloL cs
  | .tup cs => cloL cs
  | _ => true
def cloL : List AV → Bool
  | [] => true
  | v :: vs => match clo v with | true => cloL vs | false => false
end

theorem cloL_get : ∀ {vs : List AV} (h : cloL vs = true) (i : Nat) (hi : i < vs.length), clo vs[i] = true
  | v :: vs, h, i, hi => by
    simp only [cloL] at h
    cases hv : clo v with
    | false => simp [hv] at h
    | true =>
      simp only [hv] at h
      cases i with
      | zero => exact hv
      | succ i => exact cloL_get h i (by simpa using hi)

theorem VR.clo {FM : FMem} {β : BMap} {v : AV} {cv : Value} (h : VR FM β v cv) (hc : Pf.clo v = true) (β' : BMap) : VR FM β' v cv := by
  induction h with
  | top => exact .top
  | bool => exact .bool
  | pr h => exact .pr h
  | anyb h1 h2 => exact .anyb h1 h2
  | int => exact .int
  | str h => exact .str h
  | nilp => exact .nilp
  | ptr h hs => simp [Pf.clo] at hc
  | fptr cv hm hv ih => exact .fptr cv hm hv
  | nils => exact .nils
  | e0 => exact .e0
  | fi0 => exact .fi0
  | fi hl hm => exact .fi hl hm
  | fz0 => exact .fz0
  | fz cv hz hl2 hl hm ho hv ih => exact .fz cv hz hl2 hl hm ho hv
  | sl h hs hr hc hp => simp [Pf.clo] at hc
  | sl0 h hs => simp [Pf.clo] at hc
  | fn h1 h2 hv1 hv2 ih1 ih2 =>
    simp only [Pf.clo] at hc
    split at hc
    · rename_i hf
      exact .fn h1 h2 (fun i hi => ih1 i hi (cloL_get hf i hi)) (fun i hi => ih2 i hi (cloL_get hc i hi))
    · cases hc
  | nilf => exact .nilf
  | iface h ih => exact .iface (ih hc)
  | nili => exact .nili
  | mp h => simp [Pf.clo] at hc
  | agg h1 hv ih => exact .agg h1 (fun i hi => ih i hi (cloL_get hc i hi))
  | tup h1 hv ih => exact .tup h1 (fun i hi => ih i hi (cloL_get hc i hi))

end Pf
/- Blocks that nobody writes any more. -/
namespace Pf
open Go
variable {P : Program} {TT : TypeId → Option TI} {f N n0 : Nat} {k : List Item} {T : Env} {H : AHeap} {R : AV → AHeap → Prop}

def mapF {α β : Type} (g : α → Option (List Prop × β)) : List α → Option (List Prop × List β)
  | [] => some ([], [])
  | v :: vs => match g v with
    | some (ps, u) => match mapF g vs with
      | some (qs, us) => match appM ps qs with | some rs => some (rs, u :: us) | none => none
      | none => none
    | none => none
def allClo : List (List AV) → Bool
  | [] => true
  | r :: rs => match cloL r with | true => allClo rs | false => false

/-- A value, once nobody writes the chosen blocks any more; and what must hold for it. -/
def frz (sel : Nat → Bool) (H : AHeap) : Nat → AV → Option (List Prop × AV)
  | 0, _ => none
  | n + 1, v => match v with
    | .sl b g off len => match sel b with
      | false => some ([], .sl b g off len)
      | true => match nthM H b with
        | some (.ints g' k l) => match off with
          | 0 => some ([g' = g ∧ len = l.length], .fi k l)
          | _ + 1 => some ([g' = g ∧ off + len ≤ l.length], .fi k ((l.drop off).take len))
        | some (.lst g' rows) => match mapF (mapF (frz sel H n)) rows with
          | some (ps, rows') => match allClo rows', off with
            | true, 0 => some ((g' = g ∧ len ≤ rows.length) :: ps, .fz len fun i => rows'.getD i [])
            | true, _ + 1 => some ((g' = g ∧ off + len ≤ rows.length) :: ps, .fz len fun i => rows'.getD (off + i) [])
            | _, _ => none
          | none => none
        | some (.tab g' m row) => some ([g' = g ∧ off + len ≤ m ∧ ∀ i, i < len → cloL (row (addN off i)) = true], .fz len fun i => row (addN off i))
        | _ => none
    | .ptr b g r c => match sel b with
      | false => some ([], .ptr b g r c)
      | true => match nthM H b with
        | some (.lst g' rows) => match nthM rows r with
          | some row => match mapF (frz sel H n) row with
            | some (ps, row') => match cloL row' with
              | true => some ((g' = g) :: ps, .fptr row' c)
              | false => none
            | none => none
          | none => none
        | _ => none
    | .agg cs => match mapF (frz sel H n) cs with | some (ps, us) => some (ps, .agg us) | none => none
    | .tup cs => match mapF (frz sel H n) cs with | some (ps, us) => some (ps, .tup us) | none => none
    | .iface t v => match frz sel H n v with | some (ps, u) => some (ps, .iface t u) | none => none
    | .fn f fs cs => match mapF (frz sel H n) fs with
      | some (ps, fs') => match mapF (frz sel H n) cs with
        | some (qs, cs') => match appM ps qs with | some rs => some (rs, .fn f fs' cs') | none => none
        | none => none
      | none => none
    | v => some ([], v)

theorem mapF_len {α β : Type} {g : α → Option (List Prop × β)} : ∀ {vs : List α} {ps : List Prop} {us : List β}, mapF g vs = some (ps, us) → us.length = vs.length
  | [], ps, us, h => by simp only [mapF, Option.some.injEq, Prod.mk.injEq] at h; obtain ⟨_, rfl⟩ := h; rfl
  | v :: vs, ps, us, h => by
    simp only [mapF] at h
    split at h
    · split at h
      · rename_i h2
        split at h
        · simp only [Option.some.injEq, Prod.mk.injEq] at h
          obtain ⟨_, rfl⟩ := h
          simp [mapF_len h2]
        · cases h
      · cases h
    · cases h
theorem mapF_get {α β : Type} {g : α → Option (List Prop × β)} : ∀ {vs : List α} {ps : List Prop} {us : List β}, mapF g vs = some (ps, us) → AllC ps → ∀ (i : Nat) (h1 : i < vs.length) (h2 : i < us.length),
    ∃ qs, g vs[i] = some (qs, us[i]) ∧ AllC qs
  | [], ps, us, h, _, i, h1, _ => by simp at h1
  | v :: vs, ps, us, h, hc, i, h1, h2 => by
    simp only [mapF] at h
    split at h
    · rename_i qs u hg
      split at h
      · rename_i qs2 us2 hm
        split at h
        · rename_i rs hr
          simp only [Option.some.injEq, Prod.mk.injEq] at h
          obtain ⟨rfl, rfl⟩ := h
          have := AllC_app hr hc
          cases i with
          | zero => exact ⟨qs, hg, this.2⟩
          | succ i => exact mapF_get hm this.1 i (by simpa using h1) (by simpa using h2)
        · cases h
      · cases h
    · cases h
theorem allClo_get : ∀ {rs : List (List AV)}, allClo rs = true → ∀ i (h : i < rs.length), cloL rs[i] = true
  | r :: rs, h, i, hi => by
    simp only [allClo] at h
    split at h
    · rename_i hr
      cases i with
      | zero => exact hr
      | succ i => exact allClo_get h i (by simpa using hi)
    · cases h

/-- The chosen blocks' cells are among those that nobody writes. -/
def Frozen (sel : Nat → Bool) (FM : FMem) (β : BMap) (H : AHeap) (w : World) (FM' : FMem) : Prop :=
  (∀ cb o v, FM cb o = some v → FM' cb o = some v) ∧
  ∀ b blk g n row L, sel b = true → H[b]? = some blk → blk.view = some (g, n, row) → β b g = some (some L) → ∀ o v, w.cell? ⟨L.cb, o, none⟩ = some v → FM' L.cb o = some v

theorem MemOk.rowOne {FM : FMem} {β : BMap} {w : World} {L : Loc} {n : Nat} {row : Nat → List AV} (h : MemOk FM β w L n row) {r : Nat} (hs : L.sh ≤ r) (hr : r < n) :
    ∀ j (hj : j < (row r).length), ∃ cv, w.cell? ⟨L.cb, (r - L.sh) * L.sz + j, none⟩ = some cv ∧ VR FM β (row r)[j] cv ∧ cv.oneCell' = true := by
  obtain ⟨c, e, fr, h1, h2, h3, h5, h4⟩ := h.cells
  intro j hj
  obtain ⟨cv, h5', h6⟩ := (h4 r hs hr).2 j hj
  exact ⟨cv, (cell_of_heap h1).trans h5', h6, h5 _ _ h5'⟩

theorem frz_ok {sel : Nat → Bool} {FM FM' : FMem} {β : BMap} {w : World} (hh : RelH FM β H w) (hF : Frozen sel FM β H w FM') : ∀ (n : Nat) {v u : AV} {ps : List Prop} {cv : Value},
    frz sel H n v = some (ps, u) → AllC ps → VR FM β v cv → VR FM' β u cv
  | 0, v, u, ps, cv, h, _, _ => by cases h
  | n + 1, v, u, ps, cv, h, hc, hv => by
    have ih := fun {v u : AV} {ps : List Prop} {cv : Value} => frz_ok hh hF n (v := v) (u := u) (ps := ps) (cv := cv)
    have same : ∀ {v : AV}, VR FM β v cv → VR FM' β v cv := fun h => h.mono hF.1 (fun _ _ _ h => h)
    have list : ∀ {cs us : List AV} {ps : List Prop} {xs : Array Value}, mapF (frz sel H n) cs = some (ps, us) → AllC ps → (∀ i (h : i < cs.length), VR FM β cs[i] (xs.getD i undef)) →
        ∀ i (h : i < us.length), VR FM' β us[i] (xs.getD i undef) := by
      intro cs us ps xs hm hc hv i hi
      have hl := mapF_len hm
      obtain ⟨qs, h1, h2⟩ := mapF_get hm hc i (by omega) hi
      exact ih h1 h2 (hv i (by omega))
    -- rows that lie in a block
    have rows : ∀ {b g off len cap n : Nat} {a : Option Addr} {blk : ABlk} {row row' : Nat → List AV} (hb : H[b]? = some blk) (hw : blk.view = some (g, n, row)) (hsel : sel b = true) (hle : off + len ≤ n)
        (hlen : ∀ i, i < len → (row' i).length = (row (off + i)).length)
        (hcl : ∀ i, i < len → cloL (row' i) = true) (hr : ∀ i, i < len → ∀ j (h : j < (row' i).length) (h' : j < (row (off + i)).length) x, VR FM β (row (off + i))[j] x → VR FM' β (row' i)[j] x)
        (hv : VR FM β (.sl b g off len) (.slice a len cap)), VR FM' β (.fz len row') (.slice a len cap) := by
      intro b g off len cap n a blk row row' hb hw hsel hle hlen hcl hr hv
      by_cases h0 : len = 0
      · subst h0; exact .fz0
      · cases hv with
        | sl0 => exact absurd rfl h0
        | sl hl hs hr' hc' hp =>
          rename_i L
          have hm := hh.at hb hw hl
          have hrow := fun i (hi : i < len) => hm.rowOne (r := off + i) (by omega) (by omega)
          have hsz := fun i (hi : i < len) => ((hm.cells).choose_spec.choose_spec.choose_spec.2.2.2.2 (off + i) (by omega) (by omega)).1
          let cvs : Nat → Nat → Value := fun i j => if h : i < len ∧ j < (row (off + i)).length then (hrow i h.1 j h.2).choose else undef
          have hcv : ∀ i j (hi : i < len) (hj : j < (row (off + i)).length), w.cell? ⟨L.cb, (off + i - L.sh) * L.sz + j, none⟩ = some (cvs i j) ∧ VR FM β (row (off + i))[j] (cvs i j) ∧ (cvs i j).oneCell' = true := by
            intro i j hi hj
            simp only [cvs, dif_pos (show i < len ∧ j < (row (off + i)).length from ⟨hi, hj⟩)]
            exact (hrow i hi j hj).choose_spec
          refine .fz cvs hm.sz hc' (fun i hi => by rw [hlen i hi, hsz i hi]) (fun i j hi hj => ?_) (fun i j hi hj => ?_) (fun i j hi hj => ?_)
          · have hj' : j < (row (off + i)).length := by rw [hsz i hi]; exact hj
            have e : (off - L.sh) * L.sz + i * L.sz + j = (off + i - L.sh) * L.sz + j := by
              have : off + i - L.sh = (off - L.sh) + i := by omega
              rw [this, Nat.add_mul]
            rw [e]
            exact hF.2 b blk g n row L hsel hb hw hl _ _ (hcv i j hi hj').1
          · exact (hcv i j hi (by rw [hsz i hi]; exact hj)).2.2
          · have hj' : j < (row (off + i)).length := by rw [← hlen i hi]; exact hj
            exact VR.clo (hr i hi j hj hj' _ (hcv i j hi hj').2.1) (cloL_get (hcl i hi) j hj) noB
    -- whole numbers that lie in a block
    have ints : ∀ {b g off len cap : Nat} {a : Option Addr} {k : IntKind} {l l' : List Int} (hb : H[b]? = some (.ints g k l)) (hsel : sel b = true) (hle : off + len ≤ l.length) (hl' : l' = (l.drop off).take len)
        (hv : VR FM β (.sl b g off len) (.slice a len cap)), VR FM' β (.fi k l') (.slice a len cap) := by
      intro b g off len cap a k l l' hb hsel hle hl' hv
      have hlen : l'.length = len := by rw [hl']; simp; omega
      by_cases h0 : len = 0
      · subst h0
        have : l' = [] := List.eq_nil_of_length_eq_zero hlen
        subst this
        exact .fi0
      · cases hv with
        | sl0 => exact absurd rfl h0
        | sl hl hs hr' hc' hp =>
          rename_i L
          have hm := hh.at hb rfl hl
          have hw1 : L.sz = 1 := hh.wid _ _ _ _ _ _ hb rfl hl
          have key : VR FM' β (.fi k l') (.slice (some ⟨L.cb, (off - L.sh) * L.sz, none⟩) l'.length cap) := by
            refine .fi (by omega) fun i hi => ?_
            obtain ⟨cv, h1, h2⟩ := hm.row (r := off + i) (by omega) (by omega) 0 (by simp)
            have e : (off - L.sh) * L.sz + i = (off + i - L.sh) * L.sz + 0 := by rw [hw1]; omega
            rw [e]
            have := hF.2 b _ g _ _ L hsel hb rfl hl _ _ h1
            rw [this]
            simp only [List.getElem_singleton] at h2
            have e2 : l'.getD i 0 = l.getD (off + i) 0 := by
              subst hl'
              simp only [List.getD_eq_getElem?_getD, List.getElem?_take, List.getElem?_drop]
              rw [if_pos (by omega)]
            rw [e2]
            cases h2
            rfl
          rw [hlen] at key
          exact key
    unfold frz at h
    split at h
    · -- sl
      rename_i b g off len
      split at h
      · simp only [Option.some.injEq, Prod.mk.injEq] at h; obtain ⟨_, rfl⟩ := h; exact same hv
      · rename_i hsel
        rw [nthM_eq] at h
        have hcap : ∃ a cap, cv = .slice a len cap := by
          cases hv with
          | sl => exact ⟨_, _, rfl⟩
          | sl0 => exact ⟨_, _, rfl⟩
        obtain ⟨a, cap, rfl⟩ := hcap
        split at h
        · rename_i g' k l hb
          split at h
          · simp only [Option.some.injEq, Prod.mk.injEq] at h
            obtain ⟨rfl, rfl⟩ := h
            obtain ⟨_, rfl, h2⟩ := hc
            exact ints hb hsel (by omega) (by rw [h2]; simp) hv
          · simp only [Option.some.injEq, Prod.mk.injEq] at h
            obtain ⟨rfl, rfl⟩ := h
            obtain ⟨_, rfl, h2⟩ := hc
            exact ints hb hsel (by omega) rfl hv
        · rename_i g' rws hb
          split at h
          · rename_i qs rows' hm
            have hl := mapF_len hm
            split at h
            · rename_i hcl
              simp only [Option.some.injEq, Prod.mk.injEq] at h
              obtain ⟨rfl, rfl⟩ := h
              obtain ⟨hc, rfl, h2⟩ := hc
              refine rows (row := fun i => rws.getD i []) hb rfl hsel (by omega) (fun i hi => ?_) (fun i hi => ?_) (fun i hi j hj hj' x hx => ?_) hv
              · obtain ⟨rs, h3, h4⟩ := mapF_get hm hc i (by omega) (by omega)
                have := mapF_len h3
                simpa [List.getD_eq_getElem?_getD, show i < rows'.length by omega, show i < rws.length by omega] using this
              · have := allClo_get hcl i (by omega)
                simpa [List.getD_eq_getElem?_getD, show i < rows'.length by omega] using this
              · obtain ⟨rs, h3, h4⟩ := mapF_get hm hc i (by omega) (by omega)
                simp only [List.getD_eq_getElem?_getD, List.getElem?_eq_getElem (show i < rows'.length by omega), Option.getD_some] at hj ⊢
                simp only [Nat.zero_add, List.getD_eq_getElem?_getD, List.getElem?_eq_getElem (show i < rws.length by omega), Option.getD_some] at hj' hx
                obtain ⟨ss, h5, h6⟩ := mapF_get h3 h4 j hj' hj
                exact ih h5 h6 hx
            · rename_i o hcl
              simp only [Option.some.injEq, Prod.mk.injEq] at h
              obtain ⟨rfl, rfl⟩ := h
              obtain ⟨hc, rfl, h2⟩ := hc
              refine rows (row := fun i => rws.getD i []) hb rfl hsel (by omega) (fun i hi => ?_) (fun i hi => ?_) (fun i hi j hj hj' x hx => ?_) hv
              · obtain ⟨rs, h3, h4⟩ := mapF_get hm hc (o + 1 + i) (by omega) (by omega)
                have := mapF_len h3
                simpa [List.getD_eq_getElem?_getD, show o + 1 + i < rows'.length by omega, show o + 1 + i < rws.length by omega] using this
              · have := allClo_get hcl (o + 1 + i) (by omega)
                simpa [List.getD_eq_getElem?_getD, show o + 1 + i < rows'.length by omega] using this
              · obtain ⟨rs, h3, h4⟩ := mapF_get hm hc (o + 1 + i) (by omega) (by omega)
                simp only [List.getD_eq_getElem?_getD, List.getElem?_eq_getElem (show o + 1 + i < rows'.length by omega), Option.getD_some] at hj ⊢
                simp only [List.getD_eq_getElem?_getD, List.getElem?_eq_getElem (show o + 1 + i < rws.length by omega), Option.getD_some] at hj' hx
                obtain ⟨ss, h5, h6⟩ := mapF_get h3 h4 j hj' hj
                exact ih h5 h6 hx
            · cases h
          · cases h
        · rename_i g' m row hb
          simp only [Option.some.injEq, Prod.mk.injEq] at h
          obtain ⟨rfl, rfl⟩ := h
          obtain ⟨_, rfl, h2, h3⟩ := hc
          have e : ∀ i, addN off i = off + i := fun i => by cases off with | zero => simp [addN] | succ o => rfl
          refine rows (row := row) hb rfl hsel (by omega) (fun i hi => by rw [e]) h3 (fun i hi j hj hj' x hx => ?_) hv
          simp only [e] at hj ⊢
          exact hx.mono hF.1 (fun _ _ _ h => h)
        · cases h
    · -- ptr
      rename_i b g r c
      split at h
      · simp only [Option.some.injEq, Prod.mk.injEq] at h; obtain ⟨_, rfl⟩ := h; exact same hv
      · rename_i hsel
        rw [nthM_eq] at h
        split at h
        · rename_i g' rws hb
          rw [nthM_eq] at h
          split at h
          · rename_i row hrow
            split at h
            · rename_i qs row' hm
              split at h
              · rename_i hcl
                simp only [Option.some.injEq, Prod.mk.injEq] at h
                obtain ⟨rfl, rfl⟩ := h
                obtain ⟨hc, rfl⟩ := hc
                obtain ⟨hlt, rfl⟩ := List.getElem?_eq_some_iff.1 hrow
                cases hv with
                | ptr hl hs =>
                  rename_i L
                  have hmm := hh.at hb rfl hl
                  have hr := hmm.row hs hlt
                  simp only [List.getD_eq_getElem?_getD, List.getElem?_eq_getElem hlt, Option.getD_some] at hr
                  have hlen := mapF_len hm
                  let cvs : Nat → Value := fun j => if h : j < rws[r].length then (hr j h).choose else undef
                  have hcv : ∀ j (hj : j < rws[r].length), w.cell? ⟨L.cb, (r - L.sh) * L.sz + j, none⟩ = some (cvs j) ∧ VR FM β rws[r][j] (cvs j) := by
                    intro j hj
                    simp only [cvs, dif_pos hj]
                    exact (hr j hj).choose_spec
                  refine .fptr cvs (fun j hj => ?_) (fun j hj => ?_)
                  · exact hF.2 b _ _ _ _ L hsel hb rfl hl _ _ (hcv j (by omega)).1
                  · obtain ⟨ss, h5, h6⟩ := mapF_get hm hc j (by omega) hj
                    exact VR.clo (ih h5 h6 (hcv j (by omega)).2) (cloL_get hcl j hj) noB
              · cases h
            · cases h
          · cases h
        · cases h
    · split at h
      · rename_i qs us hm
        simp only [Option.some.injEq, Prod.mk.injEq] at h
        obtain ⟨rfl, rfl⟩ := h
        cases hv with
        | agg h1 h2 => exact .agg (by rw [mapF_len hm, h1]) (list hm hc h2)
      · cases h
    · split at h
      · rename_i qs us hm
        simp only [Option.some.injEq, Prod.mk.injEq] at h
        obtain ⟨rfl, rfl⟩ := h
        cases hv with
        | tup h1 h2 => exact .tup (by rw [mapF_len hm, h1]) (list hm hc h2)
      · cases h
    · split at h
      · rename_i qs u' hm
        simp only [Option.some.injEq, Prod.mk.injEq] at h
        obtain ⟨rfl, rfl⟩ := h
        cases hv with
        | iface h1 => exact .iface (ih hm hc h1)
      · cases h
    · split at h
      · rename_i qs fs' hm1
        split at h
        · rename_i qs2 cs' hm2
          split at h
          · rename_i rs happ
            simp only [Option.some.injEq, Prod.mk.injEq] at h
            obtain ⟨rfl, rfl⟩ := h
            have hcc := AllC_app happ hc
            cases hv with
            | fn h1 h2 h3 h4 => exact .fn (by rw [mapF_len hm1, h1]) (by rw [mapF_len hm2, h2]) (list hm1 hcc.2 h3) (list hm2 hcc.1 h4)
          · cases h
        · cases h
      · cases h
    · simp only [Option.some.injEq, Prod.mk.injEq] at h; obtain ⟨_, rfl⟩ := h; exact same hv

end Pf
/- Freezing blocks on the way; calls of functions that touch nothing. -/
namespace Pf
open Go
variable {P : Program} {TT : TypeId → Option TI} {f N n0 : Nat} {k : List Item} {T : Env} {H : AHeap} {R : AV → AHeap → Prop}

open Classical in
noncomputable def frzFM (sel : Nat → Bool) (FM : FMem) (β : BMap) (H : AHeap) (w : World) : FMem := fun cb o =>
  match FM cb o with
  | some v => some v
  | none => if ∃ b blk g n row L, sel b = true ∧ H[b]? = some blk ∧ blk.view = some (g, n, row) ∧ β b g = some (some L) ∧ L.cb = cb then w.cell? ⟨cb, o, none⟩ else none

theorem frzFM_frozen {sel : Nat → Bool} {FM : FMem} {β : BMap} {w : World} (hh : RelH FM β H w) : Frozen sel FM β H w (frzFM sel FM β H w) := by
  refine ⟨fun cb o v h => by simp [frzFM, h], fun b blk g n row L hs hb hw hl o v hc => ?_⟩
  have hm := hh.at hb hw hl
  simp only [frzFM, hm.free o]
  rw [if_pos ⟨b, blk, g, n, row, L, hs, hb, hw, hl, rfl⟩]
  exact hc
theorem frzFM_cases {sel : Nat → Bool} {FM : FMem} {β : BMap} {w : World} {cb o : Nat} {v : Value} (h : frzFM sel FM β H w cb o = some v) :
    FM cb o = some v ∨ (w.cell? ⟨cb, o, none⟩ = some v ∧ ∃ b blk g n row L, sel b = true ∧ H[b]? = some blk ∧ blk.view = some (g, n, row) ∧ β b g = some (some L) ∧ L.cb = cb) := by
  unfold frzFM at h
  split at h
  · rename_i u hu
    cases h
    exact .inl hu
  · split at h
    · rename_i hs
      exact .inr ⟨h, hs⟩
    · cases h

/-- A block, once the chosen ones are frozen. -/
def frzB (sel : Nat → Bool) (H : AHeap) (n b : Nat) (blk : ABlk) : List Prop × ABlk :=
  match sel b with
  | true => ([], .dead)
  | false => match blk with
    | .lst g rows => match mapF (mapF (frz sel H n)) rows with
      | some (ps, rows') => (ps, .lst g rows')
      | none => ([], blk)
    | blk => ([], blk)
def frzH (sel : Nat → Bool) (H : AHeap) (n : Nat) : Nat → AHeap → Option (List Prop × AHeap)
  | _, [] => some ([], [])
  | i, blk :: bs => match frzB sel H n i blk with
    | (ps, blk') => match frzH sel H n (i + 1) bs with
      | some (qs, bs') => match appM ps qs with | some rs => some (rs, blk' :: bs') | none => none
      | none => none
def frzT (sel : Nat → Bool) (H : AHeap) (n : Nat) : Env → Option (List Prop × Env)
  | [] => some ([], [])
  | (d, v) :: T => match frz sel H n v with
    | some (ps, u) => match frzT sel H n T with
      | some (qs, T') => match appM ps qs with | some rs => some (rs, (d, u) :: T') | none => none
      | none => none
    | none => match frzT sel H n T with
      | some (qs, T') => some (qs, (d, v) :: T')
      | none => none
def memM : List Nat → Nat → Bool
  | [], _ => false
  | x :: xs, b => match Nat.beq x b with | true => true | false => memM xs b

theorem frzT_ok {sel : Nat → Bool} {FM FM' : FMem} {β : BMap} {w : World} (hh : RelH FM β H w) (hF : Frozen sel FM β H w FM') {n : Nat} {a : Act} : ∀ {T T' : Env} {ps : List Prop}, frzT sel H n T = some (ps, T') → AllC ps →
    RelT FM β T a → RelT FM' β T' a
  | [], T', ps, h, _, hr => by
    simp only [frzT, Option.some.injEq, Prod.mk.injEq] at h
    obtain ⟨_, rfl⟩ := h
    exact hr.mono hF.1 (fun _ _ _ h => h)
  | (d, v) :: T, T', ps, h, hc, hr => by
    have hd : VR FM β v (a.tmps.getD d undef) := hr d v (by simp [getM])
    have key : ∀ {u : AV} {T'' : Env}, VR FM' β u (a.tmps.getD d undef) → (∀ e x, Nat.beq d e = false → getM T'' e = some x → VR FM' β x (a.tmps.getD e undef)) → RelT FM' β ((d, u) :: T'') a := by
      intro u T'' h1 h2 e x hx
      simp only [getM] at hx
      cases hb : Nat.beq d e with
      | true =>
        simp only [hb, Option.some.injEq] at hx
        subst hx
        rw [← Nat.eq_of_beq_eq_true hb]; exact h1
      | false =>
        simp only [hb] at hx
        exact h2 e x hb hx
    -- the tail, with what is ahead taken off
    have tail : ∀ {T : Env} {qs : List Prop} {T'' : Env}, frzT sel H n T = some (qs, T'') → AllC qs → ∀ e, (∀ x, getM T e = some x → VR FM β x (a.tmps.getD e undef)) → ∀ x, getM T'' e = some x → VR FM' β x (a.tmps.getD e undef) := by
      intro T
      induction T with
      | nil =>
        intro qs T'' h hq e hr x hx
        simp only [frzT, Option.some.injEq, Prod.mk.injEq] at h
        obtain ⟨_, rfl⟩ := h
        simp only [getM, Option.some.injEq] at hx
        subst hx
        exact .top
      | cons p T ih =>
        obtain ⟨d', v'⟩ := p
        intro qs T'' h hq e hr x hx
        simp only [frzT] at h
        have hT : Nat.beq d' e = false → ∀ x, getM T e = some x → VR FM β x (a.tmps.getD e undef) := fun hb x hx => hr x (by simp only [getM, hb]; exact hx)
        split at h
        · rename_i ps1 u hf
          split at h
          · rename_i qs1 T1 ht
            split at h
            · rename_i rs happ
              simp only [Option.some.injEq, Prod.mk.injEq] at h
              obtain ⟨rfl, rfl⟩ := h
              have hcc := AllC_app happ hq
              simp only [getM] at hx
              cases hb : Nat.beq d' e with
              | true =>
                simp only [hb, Option.some.injEq] at hx
                subst hx
                exact frz_ok hh hF n hf hcc.2 (hr v' (by simp [getM, hb]))
              | false =>
                simp only [hb] at hx
                exact ih ht hcc.1 e (hT hb) x hx
            · cases h
          · cases h
        · split at h
          · rename_i qs1 T1 ht
            simp only [Option.some.injEq, Prod.mk.injEq] at h
            obtain ⟨rfl, rfl⟩ := h
            simp only [getM] at hx
            cases hb : Nat.beq d' e with
            | true =>
              simp only [hb, Option.some.injEq] at hx
              subst hx
              exact (hr v' (by simp [getM, hb])).mono hF.1 (fun _ _ _ h => h)
            | false =>
              simp only [hb] at hx
              exact ih ht hq e (hT hb) x hx
          · cases h
    intro e x hx
    exact tail h hc e (fun x hx => hr e x hx) x hx

theorem frzH_get {sel : Nat → Bool} {H0 : AHeap} {n : Nat} : ∀ {H H' : AHeap} {i : Nat} {ps : List Prop}, frzH sel H0 n i H = some (ps, H') → AllC ps → H'.length = H.length ∧
    ∀ b blk', H'[b]? = some blk' → ∃ blk qs, H[b]? = some blk ∧ frzB sel H0 n (i + b) blk = (qs, blk') ∧ AllC qs
  | [], H', i, ps, h, _ => by
    simp only [frzH, Option.some.injEq, Prod.mk.injEq] at h
    obtain ⟨_, rfl⟩ := h
    exact ⟨rfl, fun b blk' h => by simp at h⟩
  | blk :: bs, H', i, ps, h, hc => by
    simp only [frzH] at h
    split at h
    · rename_i qs bs' hb
      split at h
      · rename_i rs happ
        simp only [Option.some.injEq, Prod.mk.injEq] at h
        obtain ⟨rfl, rfl⟩ := h
        have hcc := AllC_app happ hc
        obtain ⟨h1, h2⟩ := frzH_get hb hcc.1
        refine ⟨by simp [h1], fun b blk' hbl => ?_⟩
        cases b with
        | zero =>
          simp only [List.getElem?_cons_zero, Option.some.injEq] at hbl
          exact ⟨blk, (frzB sel H0 n i blk).1, rfl, by rw [← hbl]; rfl, hcc.2⟩
        | succ b =>
          obtain ⟨blk1, qs1, h3, h4, h5⟩ := h2 b blk' (by simpa using hbl)
          exact ⟨blk1, qs1, by simpa using h3, by rw [show i + (b + 1) = i + 1 + b by omega]; exact h4, h5⟩
      · cases h
    · cases h

theorem frzB_mp {sel : Nat → Bool} {n b : Nat} {blk : ABlk} {qs : List Prop} {vb : Bool} {sh : Option (List Bool)} {es : List (MKey × Int)} (h : frzB sel H n b blk = (qs, .mp vb sh es)) : blk = .mp vb sh es := by
  unfold frzB at h
  split at h
  · cases h
  · split at h
    · split at h <;> cases h
    · cases h; rfl
theorem frzB_view {sel : Nat → Bool} {n b : Nat} {blk blk' : ABlk} {qs : List Prop} (h : frzB sel H n b blk = (qs, blk')) (hc : AllC qs) {g m : Nat} {row' : Nat → List AV} (hv : blk'.view = some (g, m, row')) :
    sel b = false ∧ ∃ row, blk.view = some (g, m, row) ∧ blk'.width = blk.width ∧ ∀ r, r < m → (row' r).length = (row r).length ∧
      ∀ j (h1 : j < (row' r).length) (h2 : j < (row r).length), (row' r)[j] = (row r)[j] ∨ ∃ rs, frz sel H n (row r)[j] = some (rs, (row' r)[j]) ∧ AllC rs := by
  unfold frzB at h
  split at h
  · cases h; cases hv
  · rename_i hs
    refine ⟨hs, ?_⟩
    split at h
    · rename_i g1 rows
      split at h
      · rename_i ps rows' hm
        cases h
        cases hv
        have hl := mapF_len hm
        refine ⟨fun i => rows.getD i [], by simp [ABlk.view, hl], ?_, fun r hr => ?_⟩
        · simp only [ABlk.width]
          by_cases h0 : rows.length = 0
          · have e1 : rows = [] := List.eq_nil_of_length_eq_zero h0
            have e2 : rows' = [] := List.eq_nil_of_length_eq_zero (by omega)
            rw [e1, e2]
          · obtain ⟨rs, h3, h4⟩ := mapF_get hm hc 0 (by omega) (by omega)
            have := mapF_len h3
            simpa [List.getD_eq_getElem?_getD, show 0 < rows'.length by omega, show 0 < rows.length by omega] using this
        · obtain ⟨rs, h3, h4⟩ := mapF_get hm hc r (by omega) hr
          have hl2 := mapF_len h3
          have e1 : rows'.getD r [] = rows'[r] := by simp [List.getD_eq_getElem?_getD, hr]
          have e2 : rows.getD r [] = rows[r] := by simp [List.getD_eq_getElem?_getD, show r < rows.length by omega]
          refine ⟨by dsimp only; rw [e1, e2]; exact hl2, fun j h1 h2 => .inr ?_⟩
          simp only [e1, e2] at h1 h2 ⊢
          obtain ⟨ss, h5, h6⟩ := mapF_get h3 h4 j h2 h1
          exact ⟨ss, h5, h6⟩
      · cases h
        exact ⟨row', hv, rfl, fun r _ => ⟨rfl, fun j _ _ => .inl rfl⟩⟩
    · cases h
      exact ⟨row', hv, rfl, fun r _ => ⟨rfl, fun j _ _ => .inl rfl⟩⟩

theorem RelH.freeze {sel : Nat → Bool} {FM : FMem} {β : BMap} {w : World} (hh : RelH FM β H w) {n : Nat} {H' : AHeap} {ps : List Prop} (h : frzH sel H n 0 H = some (ps, H')) (hc : AllC ps) :
    RelH (frzFM sel FM β H w) β H' w := by
  obtain ⟨hlen, hget⟩ := frzH_get h hc
  have hF := frzFM_frozen (sel := sel) hh
  have get : ∀ {b : Nat} {blk' : ABlk} {g m : Nat} {row' : Nat → List AV}, H'[b]? = some blk' → blk'.view = some (g, m, row') → sel b = false ∧ ∃ blk row, H[b]? = some blk ∧ blk.view = some (g, m, row) ∧ blk'.width = blk.width ∧
      ∀ r, r < m → (row' r).length = (row r).length ∧ ∀ j (h1 : j < (row' r).length) (h2 : j < (row r).length), (row' r)[j] = (row r)[j] ∨ ∃ rs, frz sel H n (row r)[j] = some (rs, (row' r)[j]) ∧ AllC rs := by
    intro b blk' g m row' hb hv
    obtain ⟨blk, qs, h1, h2, h3⟩ := hget b blk' hb
    rw [Nat.zero_add] at h2
    obtain ⟨h4, row, h5, h6, h7⟩ := frzB_view h2 h3 hv
    exact ⟨h4, blk, row, h1, h5, h6, h7⟩
  have hmp : MapsOk β H' w := hh.mp.keep (fun _ _ _ h => h) (fun b vb sh es h => by
    obtain ⟨blk, qs, h1, h2, h3⟩ := hget b _ h
    rw [frzB_mp h2] at h1
    exact h1) (fun _ _ _ h => h)
  refine ⟨?_, ?_, ?_, ?_, ?_, hh.gk.mono (frzFM_frozen (sel := sel) hh).1, hmp⟩
  · intro b blk' g m row' hb hv
    obtain ⟨hs, blk, row, h1, h2, h3, h4⟩ := get hb hv
    obtain ⟨lo, h5, h6⟩ := hh.mem b blk g m row h1 h2
    refine ⟨lo, h5, ?_⟩
    cases lo with
    | none => exact h6
    | some L =>
      have h6 : MemOk FM β w L m row := h6
      refine ⟨h6.sz, h6.sh, h6.fit, ?_, fun o => ?_⟩
      · obtain ⟨c, e, fr, e1, e2, e3, e4, e5⟩ := h6.cells
        refine ⟨c, e, fr, e1, e2, e3, e4, fun r hr1 hr2 => ?_⟩
        obtain ⟨h7, h8⟩ := h4 r hr2
        obtain ⟨h9, h10⟩ := e5 r hr1 hr2
        refine ⟨by rw [h7, h9], fun j hj => ?_⟩
        obtain ⟨cv, h11, h12⟩ := h10 j (by omega)
        refine ⟨cv, h11, ?_⟩
        rcases h8 j hj (by omega) with h13 | ⟨rs, h13, h14⟩
        · rw [h13]; exact h12.mono hF.1 (fun _ _ _ h => h)
        · exact frz_ok hh hF n h13 h14 h12
      · cases hx : frzFM sel FM β H w L.cb o with
        | none => rfl
        | some v =>
          rcases frzFM_cases hx with hx | ⟨_, b', blk2, g', m', row2, L', s1, s2, s3, s4, s5⟩
          · rw [h6.free o] at hx; cases hx
          · have := hh.inj b b' blk blk2 g g' m m' row row2 L L' h1 h2 h5 s2 s3 s4 s5.symm
            subst this
            rw [hs] at s1; cases s1
  · intro b b' blk blk' g g' m m' row row' L L' h1 h2 h3 h4 h5 h6 h7
    obtain ⟨_, k1, r1, e1, e2, _⟩ := get h1 h2
    obtain ⟨_, k2, r2, e3, e4, _⟩ := get h4 h5
    exact hh.inj b b' k1 k2 g g' m m' r1 r2 L L' e1 e2 h3 e3 e4 h6 h7
  · intro b blk g m row L h1 h2 h3
    obtain ⟨_, k1, r1, e1, e2, e3, _⟩ := get h1 h2
    rw [e3]
    exact hh.wid b k1 g m r1 L e1 e2 h3
  · intro cb o v hx
    rcases frzFM_cases hx with hx | ⟨hx, _⟩
    · exact hh.fm cb o v hx
    · exact hx
  · intro b g lo hb
    obtain ⟨h1, h2⟩ := hh.dom b g lo hb
    refine ⟨by omega, fun blk g' m row h3 h4 => ?_⟩
    obtain ⟨_, k1, r1, e1, e2, _⟩ := get h3 h4
    exact h2 k1 g' m r1 e1 e2

theorem frz_img {sel : Nat → Bool} {β : BMap} {n : Nat} {H' : AHeap} {ps : List Prop} (h : frzH sel H n 0 H = some (ps, H')) (hc : AllC ps) {cb : Nat} (hi : Img β H' cb) : Img β H cb := by
  obtain ⟨b, blk', g, m, row', L, h1, h2, h3, h4⟩ := hi
  obtain ⟨hlen, hget⟩ := frzH_get h hc
  obtain ⟨blk, qs, h5, h6, h7⟩ := hget b blk' h1
  rw [Nat.zero_add] at h6
  cases hk : blk' with
  | mp vb sh es =>
    subst hk
    cases h2
    rw [frzB_mp h6] at h5
    exact ⟨b, _, _, _, _, L, h5, rfl, h3, h4⟩
  | dead => subst hk; cases h2
  | _ =>
    rw [hk] at h6 h2
    obtain ⟨h8, row, h9, _⟩ := frzB_view h6 h7 h2
    exact ⟨b, blk, g, m, row, L, h5, ABlk.vw_of h9, h3, h4⟩

theorem Ext.freeze {sel : Nat → Bool} {FM : FMem} {β : BMap} {w : World} (hh : RelH FM β H w) {n : Nat} {H' : AHeap} {ps : List Prop} (h : frzH sel H n 0 H = some (ps, H')) (hc : AllC ps) :
    Ext FM β H w (frzFM sel FM β H w) β H' w where
  fm := (frzFM_frozen (sel := sel) hh).1
  bm _ _ _ h := h
  size := Nat.le_refl _
  img cb _ i := frz_img h hc i
  frame _ _ _ := rfl
  fmn cb o v hx := by
    rcases frzFM_cases hx with hx | ⟨hx, b', blk2, g', m', row2, L', s1, s2, s3, s4, s5⟩
    · exact .inl hx
    · exact .inr (.inr ⟨b', blk2, g', m', row2, L', s2, ABlk.vw_of s3, s4, s5⟩)
  len := by rw [(frzH_get h hc).1]; exact Nat.le_refl _
  os := rfl
  output := rfl
  tape := rfl

/-! ### Functions that touch nothing -/
/-- Whatever 'v' fits, 'u' fits. -/
def Sub (v u : AV) : Prop := ∀ FM β cv, VR FM β v cv → VR FM β u cv
def Subs : List AV → List AV → Prop
  | [], [] => True
  | v :: vs, u :: us => Sub v u ∧ Subs vs us
  | _, _ => False
theorem Sub.refl {v : AV} : Sub v v := fun _ _ _ h => h
theorem Sub.top {v : AV} : Sub v .top := fun _ _ _ _ => .top
theorem Sub.yes {p : Prop} (h : p) : Sub (.bool true) (.pr p) := fun _ _ _ h' => by cases h'; exact .pr (by simp [h])
theorem Sub.no {p : Prop} (h : ¬p) : Sub (.bool false) (.pr p) := fun _ _ _ h' => by cases h'; exact .pr (by simp [h])
theorem Sub.pr {p q : Prop} (h : p ↔ q) : Sub (.pr p) (.pr q) := fun _ _ _ h' => by
  cases h' with
  | pr h1 => exact .pr (h1.trans h)
theorem Sub.int {k : IntKind} {a b : Int} (h : a = b) : Sub (.int k a) (.int k b) := by subst h; exact .refl
theorem Sub.fi {k : IntKind} {a b : List Int} (h : a = b) : Sub (.fi k a) (.fi k b) := by subst h; exact .refl
theorem Sub.nils_fz {row : Nat → List AV} : Sub .nils (.fz 0 row) := fun _ _ _ h' => by cases h'; exact .fz0
theorem Sub.eq {v u : AV} (h : v = u) : Sub v u := by subst h; exact .refl
theorem Subs.len : ∀ {vs us : List AV}, Subs vs us → us.length = vs.length
  | [], [], _ => rfl
  | v :: vs, u :: us, h => by simp [Subs.len h.2]
  | [], _ :: _, h => h.elim
  | _ :: _, [], h => h.elim
theorem Subs.get : ∀ {vs us : List AV}, Subs vs us → ∀ i (h1 : i < vs.length) (h2 : i < us.length), Sub vs[i] us[i]
  | v :: vs, u :: us, h, 0, _, _ => h.1
  | v :: vs, u :: us, h, i + 1, h1, h2 => Subs.get h.2 i (by simpa using h1) (by simpa using h2)
  | [], [], _, _, h1, _ => by simp at h1
  | [], _ :: _, h, _, _, _ => h.elim
  | _ :: _, [], h, _, _, _ => h.elim
theorem Sub.agg {vs us : List AV} (h : Subs vs us) : Sub (.agg vs) (.agg us) := fun _ _ _ h' => by
  cases h' with
  | agg h1 h2 => exact .agg (by rw [h.len, h1]) fun i hi => h.get i (by rw [← h.len]; exact hi) hi _ _ _ (h2 i _)
theorem Sub.tup {vs us : List AV} (h : Subs vs us) : Sub (.tup vs) (.tup us) := fun _ _ _ h' => by
  cases h' with
  | tup h1 h2 => exact .tup (by rw [h.len, h1]) fun i hi => h.get i (by rw [← h.len]; exact hi) hi _ _ _ (h2 i _)

/-- What a function hands back, once all its blocks are frozen. -/
def Pure (Q : AV → Prop) (v : AV) (H : AHeap) : Prop := ∃ ps u u', frz (fun _ => true) H 9 v = some (ps, u) ∧ AllC ps ∧ Sub u u' ∧ clo u' = true ∧ Q u'
def AFunP (P : Program) (f : FuncId) (args : List AV) (Q : AV → Prop) : Prop := AFun P f args [] (Pure Q)

theorem AFunP.mono {args : List AV} {Q Q' : AV → Prop} (h : AFunP P f args Q) (hq : ∀ u, Q u → Q' u) : AFunP P f args Q' :=
  AFun.mono h fun v H' ⟨ps, u, u', h1, h2, h3, h4, h5⟩ => ⟨ps, u, u', h1, h2, h3, h4, hq _ h5⟩

theorem AFunP.at {args : List AV} {Q : AV → Prop} (h : AFunP P f args Q) (hc : cloL args = true) (H : AHeap) : AFun P f args H fun v H1 => H1 = H ∧ Q v := by
  refine ⟨h.1, fun FM β cs w cargs hv hh => ?_⟩
  have h0 : RelH FM noB [] w := ⟨fun b blk g n row h => by simp at h, fun b b' blk blk' g g' n n' row row' L L' h => by simp at h, fun b blk g n row L h => by simp at h, hh.fm, (fun b g lo h => by cases h), hh.gk, .nil⟩
  obtain ⟨v, w', fr, av, FM1, β1, H1, ⟨ps, u0, u, e1, e2, es, e3, e4⟩, h1, h2, h3, h4, h5, h6⟩ := h.2 FM noB cs w cargs ⟨hv.1, fun i hi => (hv.2 i hi).clo (cloL_get hc i hi) noB⟩ h0
  have hF := frzFM_frozen (sel := fun _ => true) h2
  have noimg : ∀ cb, ¬ Img noB [] cb := by rintro cb ⟨b, blk, g, n, row, L, hb, _⟩; simp at hb
  have img1 : ∀ cb, cb < w.heap.size → ¬ Img β1 H1 cb := fun cb hl hi => noimg cb (h3.img cb hl hi)
  have fm1 : ∀ cb o v, cb < w.heap.size → frzFM (fun _ => true) FM1 β1 H1 w' cb o = some v → FM cb o = some v := by
    intro cb o v hl hx
    rcases frzFM_cases hx with hx | ⟨_, b', blk2, g', m', row2, L', s1, s2, s3, s4, s5⟩
    · rcases h3.fmn _ _ _ hx with hx | hx | hx
      · exact hx
      · omega
      · exact absurd hx (noimg cb)
    · exact absurd ⟨b', blk2, g', m', row2, L', s2, ABlk.vw_of s3, s4, s5⟩ (img1 cb hl)
  refine ⟨v, w', fr, u, frzFM (fun _ => true) FM1 β1 H1 w', β, H, ⟨rfl, e4⟩, (es _ _ _ (frz_ok h2 hF 9 e1 e2 h1)).clo e3 β, ?_, ?_, h4, h5, h6⟩
  · refine ⟨?_, hh.inj, hh.wid, ?_, hh.dom, h2.gk.mono hF.1, hh.mp.keep (fun _ _ _ h => h) (fun _ _ _ _ h => h) fun cb es cl h => by rw [h3.frame _ (Array.getElem?_eq_some_iff.1 h).1 (noimg _)]; exact h⟩
    · intro b blk g n row hb hw
      obtain ⟨lo, k1, k2⟩ := hh.mem b blk g n row hb hw
      refine ⟨lo, k1, ?_⟩
      cases lo with
      | none => exact k2
      | some L =>
        have k2 : MemOk FM β w L n row := k2
        obtain ⟨c, e, frr, c1, c2, c3, c4, c5⟩ := k2.cells
        have hlt : L.cb < w.heap.size := by
          rcases Nat.lt_or_ge L.cb w.heap.size with hl | hl
          · exact hl
          · rw [Array.getElem?_eq_none hl] at c1; cases c1
        refine ⟨k2.sz, k2.sh, k2.fit, ⟨c, e, frr, ?_, c2, c3, c4, fun r hr1 hr2 => ?_⟩, fun o => ?_⟩
        · rw [h3.frame _ hlt (noimg _)]; exact c1
        · obtain ⟨k3, k4⟩ := c5 r hr1 hr2
          refine ⟨k3, fun j hj => ?_⟩
          obtain ⟨cv, k5, k6⟩ := k4 j hj
          exact ⟨cv, k5, k6.mono (fun cb o v hx => hF.1 _ _ _ (h3.fm _ _ _ hx)) (fun _ _ _ h => h)⟩
        · cases hx : frzFM (fun _ => true) FM1 β1 H1 w' L.cb o with
          | none => rfl
          | some v => have := fm1 _ _ _ hlt hx; rw [k2.free o] at this; cases this
    · intro cb o v hx
      rcases frzFM_cases hx with hx | ⟨hx, _⟩
      · exact h2.fm cb o v hx
      · exact hx
  · exact ⟨fun cb o v hx => hF.1 _ _ _ (h3.fm _ _ _ hx), fun _ _ _ h => h, h3.size, fun cb _ i => i, fun cb hl hi => h3.frame cb hl (noimg cb),
      fun cb o v hx => by
        rcases Nat.lt_or_ge cb w.heap.size with hl | hl
        · exact .inl (fm1 _ _ _ hl hx)
        · exact .inr (.inl hl), Nat.le_refl _, h3.os, h3.output, h3.tape⟩

theorem VRs.frz {sel : Nat → Bool} {FM FM' : FMem} {β : BMap} {w : World} (hh : RelH FM β H w) (hF : Frozen sel FM β H w FM') {n : Nat} {args us : List AV} {ps : List Prop} (h : mapF (frz sel H n) args = some (ps, us)) (hc : AllC ps)
    {xs : List Value} (hv : VRs FM β args xs) : VRs FM' β us xs := by
  have hl := mapF_len h
  refine ⟨by rw [hl, hv.1], fun i hi => ?_⟩
  obtain ⟨qs, h1, h2⟩ := mapF_get h hc i (by omega) hi
  exact frz_ok hh hF n h1 h2 (hv.2 i (by omega))

/-- A call of a function that touches nothing: the blocks 'bs' are frozen first, only the slots 'ds' are kept. -/
theorem go_callP {rs : List ResultVar} {TT : TypeId → Option TI} (W : Walk P TT f rs) (m n : Nat) (bs ds : List Nat) {cs : List Prop} {g : FuncId} {args args' : List AV} {dst : Option Nat} {k' : List Item} {T' T1 T2 : Env} {H' H2 : AHeap}
    {ps qs ss : List Prop} (h : exec TT N rs m n [] k T H = .call cs g args dst k' T' H') (e1 : keepM T' ds = some T1) (e2 : frzT (memM bs) H' 9 T1 = some (ps, T2)) (e3 : frzH (memM bs) H' 9 0 H' = some (qs, H2))
    (e4 : mapF (frz (memM bs) H' 9) args = some (ss, args')) (e5 : cloL args' = true) (hc : AllC cs) (c1 : AllC ps) (c2 : AllC qs) (c3 : AllC ss) {Q : AV → Prop} (hq : AFunP P g args' Q)
    (h1 : ∀ v, Q v → ∃ T3, dstM N dst v T2 = some T3 ∧ AGo P f N n0 k' T3 H2 R) : AGo P f N n0 k T H R := by
  refine W.ok (m := m) (n := n) (cs := []) (by
    rw [h]
    refine ⟨hc, hq.1, fun FM β a w cargs cs a4 hT hH hv => ?_⟩
    have hF := frzFM_frozen (sel := memM bs) hH
    obtain ⟨v, w', fr, av, FM', β', H1, ⟨rfl, k2⟩, k3, k4, k5, k6, k7, k8⟩ := (AFunP.at hq e5 H2).2 _ β cs w cargs (hv.frz hH hF e4 c3) (hH.freeze e3 c2)
    obtain ⟨T3, k9, k10⟩ := h1 av k2
    exact ⟨v, w', fr, FM', β', H1, T3, dstM_ok k9 ((frzT_ok hH hF e2 c1 (hT.keep e1)).mono k5.fm k5.bm) a4 k3, k4, (Ext.freeze hH e3 c2).trans k5, k6, k8, k10⟩)

/-- The end of a function that touches nothing, its answer being said. -/
theorem go_retP {rs : List ResultVar} {TT : TypeId → Option TI} (W : Walk P TT f rs) (m n : Nat) {cs : List Prop} {v u spec : AV} {H' : AHeap} {ps : List Prop} (h : exec TT N rs m n [] k T H = .ret cs v H')
    (hc : AllC cs) (hf : frz (fun _ => true) H' 9 v = some (ps, u)) (hp : AllC ps) (hcl : clo spec = true) (hs : Sub u spec) : AGo P f N n0 k T H (Pure (· = spec)) :=
  go_ret W m n h hc ⟨ps, u, spec, hf, hp, hs, hcl, rfl⟩
theorem go_retQ {rs : List ResultVar} {TT : TypeId → Option TI} (W : Walk P TT f rs) (m n : Nat) {Q : AV → Prop} {cs : List Prop} {v u : AV} {H' : AHeap} {ps : List Prop} (h : exec TT N rs m n [] k T H = .ret cs v H')
    (hc : AllC cs) (hf : frz (fun _ => true) H' 9 v = some (ps, u)) (hp : AllC ps) (spec : AV) (hq : Q spec) (hcl : clo spec = true) (hs : Sub u spec) : AGo P f N n0 k T H (Pure Q) :=
  go_ret W m n h hc ⟨ps, u, spec, hf, hp, hs, hcl, hq⟩
/-- A call of a function that touches nothing, its answer being said. -/
theorem go_callE {rs : List ResultVar} {TT : TypeId → Option TI} (W : Walk P TT f rs) (m n : Nat) {cs : List Prop} {g : FuncId} {args : List AV} {dst : Option Nat} {k' : List Item} {T' T1 : Env} {H' : AHeap} {u : AV}
    (h : exec TT N rs m n [] k T H = .call cs g args dst k' T' H') (hc : AllC cs) (hcl : cloL args = true) (hq : AFunP P g args (· = u)) (e : dstM N dst u T' = some T1) (h1 : AGo P f N n0 k' T1 H' R) : AGo P f N n0 k T H R :=
  go_call W m n h hc (hq.at hcl H') fun v H1 ⟨e1, e2⟩ => ⟨T1, by rw [e2]; exact e, by rw [e1]; exact h1⟩
end Pf
/- Tables of types as trees. -/
namespace Pf
open Go

inductive TTree where
  | leaf
  | one (t : Nat) (i : TI)
  | node (k : Nat) (l r : TTree)
def TTree.get : TTree → TypeId → Option TI
  | .leaf, _ => none
  | .one t i, u => match Nat.beq t u with | true => some i | false => none
  | .node k l r, u => match Nat.blt u k with | true => l.get u | false => r.get u
def TTree.ok (P : Program) : TTree → Bool
  | .leaf => true
  | .one t i => i.fits P t
  | .node _ l r => l.ok P && r.ok P
theorem TTree.get_ok {P : Program} : ∀ {tr : TTree}, tr.ok P = true → TTok P tr.get
  | .leaf, _, t, i, h => by cases h
  | .one t i, ho, u, j, h => by
    simp only [TTree.get] at h
    split at h
    · rename_i hb
      cases h
      rw [← Nat.eq_of_beq_eq_true hb]
      exact ho
    · cases h
  | .node k l r, ho, u, j, h => by
    simp only [TTree.ok, Bool.and_eq_true] at ho
    simp only [TTree.get] at h
    split at h
    · exact TTree.get_ok ho.1 u j h
    · exact TTree.get_ok ho.2 u j h

end Pf
/- Functions that read the caller's blocks, and hand back new ones. -/
namespace Pf
open Go
variable {P : Program} {TT : TypeId → Option TI} {f N n0 : Nat} {k : List Item} {T : Env} {H : AHeap} {R : AV → AHeap → Prop}

/-- The caller's blocks, read by a function that is handed them as if nobody wrote them. -/
theorem RelH.lend {FM : FMem} {β : BMap} {w : World} (hh : RelH FM β H w) : RelH (frzFM (fun _ => true) FM β H w) noB [] w := by
  refine ⟨fun b blk g n row h => by simp at h, fun b b' blk blk' g g' n n' row row' L L' h => by simp at h, fun b blk g n row L h => by simp at h, fun cb o v hx => ?_, (fun b g lo h => by cases h), hh.gk.mono (frzFM_frozen (sel := fun _ => true) hh).1, .nil⟩
  rcases frzFM_cases hx with hx | ⟨hx, _⟩
  · exact hh.fm cb o v hx
  · exact hx
theorem noImg (cb : Nat) : ¬ Img noB [] cb := by rintro ⟨b, blk, g, n, row, L, hb, _⟩; simp at hb

/-- Blocks that were not touched are as they were, whatever else is known now. -/
theorem MemOk.still {FM : FMem} {β β' : BMap} {w w' : World} {L : Loc} {n : Nat} {row : Nat → List AV} (h : MemOk FM β w L n row) (hw : w'.heap[L.cb]? = w.heap[L.cb]?) (hb : ∀ b g lo, β b g = some lo → β' b g = some lo) :
    MemOk FM β' w' L n row := by
  obtain ⟨c, e, fr, c1, c2, c3, c4, c5⟩ := h.cells
  refine ⟨h.sz, h.sh, h.fit, ⟨c, e, fr, by rw [hw]; exact c1, c2, c3, c4, fun r hr1 hr2 => ?_⟩, h.free⟩
  obtain ⟨k3, k4⟩ := c5 r hr1 hr2
  refine ⟨k3, fun j hj => ?_⟩
  obtain ⟨cv, k5, k6⟩ := k4 j hj
  exact ⟨cv, k5, k6.mono (fun _ _ _ h => h) hb⟩

mutual
/-- Does a value say nothing of any memory? -/
def nofm : AV → Bool
  | .agg cs => nofmL cs
  | .tup cs => nofmL cs
  | .iface _ v => nofm v
  | .top | .bool _ | .pr _ | .anyb _ _ | .int _ _ | .str _ | .nilp | .nils | .e0 | .nilf | .nili => true
  | _ => false
def nofmL : List AV → Bool
  | [] => true
  | v :: vs => match nofm v with | true => nofmL vs | false => false
end
theorem nofmL_get : ∀ {vs : List AV} (h : nofmL vs = true) (i : Nat) (hi : i < vs.length), nofm vs[i] = true
  | v :: vs, h, i, hi => by
    simp only [nofmL] at h
    cases hv : nofm v with
    | false => simp [hv] at h
    | true =>
      simp only [hv] at h
      cases i with
      | zero => exact hv
      | succ i => exact nofmL_get h i (by simpa using hi)
theorem VR.nofm {FM : FMem} {β : BMap} {v : AV} {cv : Value} (h : VR FM β v cv) (hc : Pf.nofm v = true) (FM' : FMem) (β' : BMap) : VR FM' β' v cv := by
  induction h with
  | top => exact .top
  | bool => exact .bool
  | pr h => exact .pr h
  | anyb h1 h2 => exact .anyb h1 h2
  | int => exact .int
  | str h => exact .str h
  | nilp => exact .nilp
  | nils => exact .nils
  | e0 => exact .e0
  | nilf => exact .nilf
  | nili => exact .nili
  | iface h ih => exact .iface (ih hc)
  | agg h1 hv ih => exact .agg h1 (fun i hi => ih i hi (nofmL_get hc i hi))
  | tup h1 hv ih => exact .tup h1 (fun i hi => ih i hi (nofmL_get hc i hi))
  | _ => simp [Pf.nofm] at hc

/-- A pure function reads the caller's blocks; what it says is of no memory. -/
theorem AFunP.bor {args args' : List AV} {Q : AV → Prop} (hq : AFunP P f args' Q) {ss : List Prop} (e : mapF (frz (fun _ => true) H 9) args = some (ss, args')) (hc : AllC ss) (hcl : cloL args' = true) (hn : ∀ u, Q u → nofm u = true) :
    AFun P f args H fun v H1 => H1 = H ∧ Q v := by
  refine ⟨hq.1, fun FM β cs w cargs hv hh => ?_⟩
  have hF := frzFM_frozen (sel := fun _ => true) hh
  have hv' := hv.frz hh hF e hc
  obtain ⟨v, w', fr, av, FM1, β1, H1, ⟨ps, u0, u, e1, e2, es, e3, e4⟩, h1, h2, h3, h4, h5, h6⟩ := hq.2 _ noB cs w cargs ⟨hv'.1, fun i hi => (hv'.2 i hi).clo (cloL_get hcl i hi) noB⟩ hh.lend
  have hF1 := frzFM_frozen (sel := fun _ => true) h2
  refine ⟨v, w', fr, u, FM, β, H, ⟨rfl, e4⟩, (es _ _ _ (frz_ok h2 hF1 9 e1 e2 h1)).nofm (hn _ e4) _ _, ?_, ?_, h4, h5, h6⟩
  · refine ⟨fun b blk g n row hb hw => ?_, hh.inj, hh.wid, fun cb o v hx => ?_, hh.dom, hh.gk.at h2.gk.tabw, hh.mp.keep (fun _ _ _ h => h) (fun _ _ _ _ h => h) fun cb es cl h => by rw [h3.frame _ (Array.getElem?_eq_some_iff.1 h).1 (noImg _)]; exact h⟩
    · obtain ⟨lo, k1, k2⟩ := hh.mem b blk g n row hb hw
      refine ⟨lo, k1, ?_⟩
      cases lo with
      | none => exact k2
      | some L =>
        have k2 : MemOk FM β w L n row := k2
        exact k2.still (h3.frame _ k2.lt (noImg _)) fun _ _ _ h => h
    · exact h2.fm _ _ _ (h3.fm _ _ _ (hF.1 _ _ _ hx))
  · exact ⟨fun _ _ _ h => h, fun _ _ _ h => h, h3.size, fun cb _ i => i, fun cb hl hi => h3.frame cb hl (noImg cb), fun cb o v hx => .inl hx, Nat.le_refl _, h3.os, h3.output, h3.tape⟩

/-! ### New blocks handed back -/
/-- What is handed back, its blocks numbered from 'i' on: conditions, the value, the blocks, where they were. -/
def canF (g : Nat → AV → Option (List Prop × AV × List (Nat × ABlk × Option (Nat × Nat)))) : Nat → List AV → Option (List Prop × List AV × List (Nat × ABlk × Option (Nat × Nat)))
  | _, [] => some ([], [], [])
  | i, v :: vs => match g i v with
    | some (ps, u, bs) => match canF g (lenM bs + i) vs with
      | some (qs, us, bs2) => match appM ps qs, appM bs bs2 with | some rs, some bs3 => some (rs, u :: us, bs3) | _, _ => none
      | none => none
    | none => none
def can (H : AHeap) : Nat → Nat → AV → Option (List Prop × AV × List (Nat × ABlk × Option (Nat × Nat)))
  | 0, _, _ => none
  | n + 1, i, v => match v with
    | .sl b g 0 len => match nthM H b with
      | some (.ints g' k l) => some ([g' = g ∧ len ≤ l.length], .sl i 0 0 len, [(i, .ints 0 k (l.take len), some (b, g))])
      | _ => none
    | .nils | .e0 => some ([], .sl i 0 0 0, [(i, .ints 0 .i64 [], none)])
    | .agg cs => match canF (can H n) i cs with | some (ps, us, bs) => some (ps, .agg us, bs) | none => none
    | .tup cs => match canF (can H n) i cs with | some (ps, us, bs) => some (ps, .tup us, bs) | none => none
    | v => match nofm v with | true => some ([], v, []) | false => none

abbrev NewB := Nat × ABlk × Option (Nat × Nat)
/-- A new block is so, and comes from there. -/
def NewOk (H1 : AHeap) (β1 : BMap) (p : NewB) : Prop :=
  ∃ k l, p.2.1 = .ints 0 k l ∧ match p.2.2 with
    | none => l = []
    | some (b, g) => ∃ l0 m, H1[b]? = some (.ints g k l0) ∧ l = l0.take m ∧ m ≤ l0.length ∧ ∃ lo, β1 b g = some lo ∧ ∀ L, lo = some L → L.sh = 0
def srcB (β1 : BMap) : Option (Nat × Nat) → Option (Option Loc)
  | some (b, g) => β1 b g
  | none => some none

theorem canF_ok {H1 : AHeap} {β1 : BMap} {FM1 : FMem} {gg : Nat → AV → Option (List Prop × AV × List NewB)}
    (ih : ∀ {i : Nat} {v u : AV} {ps : List Prop} {bs : List NewB} {cv : Value}, gg i v = some (ps, u, bs) → AllC ps → VR FM1 β1 v cv →
      bs.map (·.1) = List.range' i bs.length ∧ (∀ p ∈ bs, NewOk H1 β1 p) ∧ ∀ FM0 β2, (∀ p ∈ bs, β2 p.1 0 = srcB β1 p.2.2) → VR FM0 β2 u cv) :
    ∀ {vs us : List AV} {i : Nat} {ps : List Prop} {bs : List NewB} {xs : List Value}, canF gg i vs = some (ps, us, bs) → AllC ps → VRs FM1 β1 vs xs →
      bs.map (·.1) = List.range' i bs.length ∧ (∀ p ∈ bs, NewOk H1 β1 p) ∧ ∀ FM0 β2, (∀ p ∈ bs, β2 p.1 0 = srcB β1 p.2.2) → VRs FM0 β2 us xs
  | [], us, i, ps, bs, xs, h, hc, hv => by
    simp only [canF, Option.some.injEq, Prod.mk.injEq] at h
    obtain ⟨rfl, rfl, rfl⟩ := h
    exact ⟨rfl, fun p hp => by simp at hp, fun _ _ _ => ⟨hv.1, fun i hi => by simp at hi⟩⟩
  | v :: vs, us, i, ps, bs, xs, h, hc, hv => by
    obtain ⟨x, xs', rfl, hv1, hv2⟩ := hv.cons
    simp only [canF] at h
    split at h
    · rename_i ps1 u bs1 h1
      split at h
      · rename_i qs us2 bs2 h2
        split at h
        · rename_i rs bs3 h3 h4
          simp only [Option.some.injEq, Prod.mk.injEq] at h
          obtain ⟨rfl, rfl, rfl⟩ := h
          rw [appM_eq] at h4
          cases h4
          have hcc := AllC_app h3 hc
          obtain ⟨a1, a2, a3⟩ := ih h1 hcc.2 hv1
          obtain ⟨b1, b2, b3⟩ := canF_ok ih h2 hcc.1 hv2
          refine ⟨?_, ?_, ?_⟩
          · rw [List.map_append, a1, b1, List.length_append, lenM_eq]
            rw [show bs1.length + i = i + 1 * bs1.length by omega, List.range'_append]
          · intro p hp
            rcases List.mem_append.1 hp with hp | hp
            · exact a2 p hp
            · exact b2 p hp
          · intro FM0 β2 hb
            exact VRs.push (a3 FM0 β2 fun p hp => hb p (List.mem_append.2 (.inl hp))) (b3 FM0 β2 fun p hp => hb p (List.mem_append.2 (.inr hp)))
        · cases h
      · cases h
    · cases h

theorem can_ok {H1 : AHeap} {β1 : BMap} {FM1 : FMem} {w1 : World} (hh : RelH FM1 β1 H1 w1) : ∀ (n : Nat) {i : Nat} {v u : AV} {ps : List Prop} {bs : List NewB} {cv : Value}, can H1 n i v = some (ps, u, bs) → AllC ps → VR FM1 β1 v cv →
      bs.map (·.1) = List.range' i bs.length ∧ (∀ p ∈ bs, NewOk H1 β1 p) ∧ ∀ FM0 β2, (∀ p ∈ bs, β2 p.1 0 = srcB β1 p.2.2) → VR FM0 β2 u cv
  | 0, i, v, u, ps, bs, cv, h, _, _ => by cases h
  | n + 1, i, v, u, ps, bs, cv, h, hc, hv => by
    have ih := fun {i : Nat} {v u : AV} {ps : List Prop} {bs : List NewB} {cv : Value} => can_ok hh n (i := i) (v := v) (u := u) (ps := ps) (bs := bs) (cv := cv)
    unfold can at h
    split at h
    · rename_i b g len
      rw [nthM_eq] at h
      split at h
      · rename_i g' k l hb
        simp only [Option.some.injEq, Prod.mk.injEq] at h
        obtain ⟨rfl, rfl, rfl⟩ := h
        obtain ⟨_, rfl, hle⟩ := hc
        obtain ⟨lo, hlo, hm⟩ := hh.mem b _ _ _ _ hb rfl
        have hsh : ∀ L, lo = some L → L.sh = 0 := by
          intro L hL
          subst hL
          cases hv with
          | sl hl hs hr hc' hp => rw [hlo] at hl; cases hl; omega
          | sl0 hl hs => rw [hlo] at hl; cases hl; have := hs L rfl; omega
        refine ⟨rfl, ?_, ?_⟩
        · intro p hp
          simp only [List.mem_singleton] at hp
          subst hp
          exact ⟨k, _, rfl, l, len, hb, rfl, hle, lo, hlo, hsh⟩
        · intro FM0 β2 hb2
          have e := hb2 _ (List.mem_singleton.2 rfl)
          simp only [srcB] at e
          cases hv with
          | sl hl hs hr hc' hp => exact .sl (by rw [e]; exact hl) hs hr hc' hp
          | sl0 hl hs => exact .sl0 (by rw [e]; exact hl) hs
      · cases h
    · simp only [Option.some.injEq, Prod.mk.injEq] at h
      obtain ⟨rfl, rfl, rfl⟩ := h
      refine ⟨rfl, ?_, ?_⟩
      · intro p hp
        simp only [List.mem_singleton] at hp
        subst hp
        exact ⟨_, _, rfl, rfl⟩
      · intro FM0 β2 hb2
        have e := hb2 _ (List.mem_singleton.2 rfl)
        cases hv
        exact .sl0 e (fun L h => by cases h)
    · simp only [Option.some.injEq, Prod.mk.injEq] at h
      obtain ⟨rfl, rfl, rfl⟩ := h
      refine ⟨rfl, ?_, ?_⟩
      · intro p hp
        simp only [List.mem_singleton] at hp
        subst hp
        exact ⟨_, _, rfl, rfl⟩
      · intro FM0 β2 hb2
        have e := hb2 _ (List.mem_singleton.2 rfl)
        cases hv
        exact .sl0 e (fun L h => by cases h)
    · split at h
      · rename_i qs us bs' h1
        simp only [Option.some.injEq, Prod.mk.injEq] at h
        obtain ⟨rfl, rfl, rfl⟩ := h
        cases hv with
        | agg h2 h3 =>
          rename_i xs
          obtain ⟨a1, a2, a3⟩ := canF_ok ih h1 hc (⟨by simpa using h2, fun i hi => by rw [toList_getD]; exact h3 i hi⟩ : VRs FM1 β1 _ xs.toList)
          refine ⟨a1, a2, fun FM0 β2 hb => ?_⟩
          obtain ⟨c1, c2⟩ := a3 FM0 β2 hb
          exact .agg (by simpa using c1) fun i hi => by rw [← toList_getD]; exact c2 i hi
      · cases h
    · split at h
      · rename_i qs us bs' h1
        simp only [Option.some.injEq, Prod.mk.injEq] at h
        obtain ⟨rfl, rfl, rfl⟩ := h
        cases hv with
        | tup h2 h3 =>
          rename_i xs
          obtain ⟨a1, a2, a3⟩ := canF_ok ih h1 hc (⟨by simpa using h2, fun i hi => by rw [toList_getD]; exact h3 i hi⟩ : VRs FM1 β1 _ xs.toList)
          refine ⟨a1, a2, fun FM0 β2 hb => ?_⟩
          obtain ⟨c1, c2⟩ := a3 FM0 β2 hb
          exact .tup (by simpa using c1) fun i hi => by rw [← toList_getD]; exact c2 i hi
      · cases h
    · split at h
      · rename_i hn
        simp only [Option.some.injEq, Prod.mk.injEq] at h
        obtain ⟨rfl, rfl, rfl⟩ := h
        exact ⟨rfl, fun p hp => by simp at hp, fun FM0 β2 _ => hv.nofm hn FM0 β2⟩
      · cases h

/-! ### Renumbered -/
mutual
def shf (d : Nat) : AV → AV
  | .ptr b g r c => .ptr (b + d) g r c
  | .sl b g off len => .sl (b + d) g off len
  | .mp b => .mp (b + d)
  | .agg cs => .agg (shfL d cs)
  | .tup cs => .tup (shfL d cs)
  | v => v
def shfL (d : Nat) : List AV → List AV
  | [] => []
  | v :: vs => shf d v :: shfL d vs
end
theorem shfL_eq (d : Nat) : ∀ vs, shfL d vs = vs.map (shf d)
  | [] => rfl
  | v :: vs => by simp [shfL, shfL_eq d vs]
mutual
/-- No function values, no boxes. -/
def flat : AV → Bool
  | .agg cs => flatL cs
  | .tup cs => flatL cs
  | .fn _ _ _ | .iface _ _ => false
  | _ => true
def flatL : List AV → Bool
  | [] => true
  | v :: vs => match flat v with | true => flatL vs | false => false
end
theorem flatL_get : ∀ {vs : List AV} (h : flatL vs = true) (i : Nat) (hi : i < vs.length), flat vs[i] = true
  | v :: vs, h, i, hi => by
    simp only [flatL] at h
    cases hv : flat v with
    | false => simp [hv] at h
    | true =>
      simp only [hv] at h
      cases i with
      | zero => exact hv
      | succ i => exact flatL_get h i (by simpa using hi)
theorem VR.shf {FM : FMem} {β β' : BMap} {d : Nat} (hb : ∀ b g, β' (b + d) g = β b g) {v : AV} {cv : Value} (h : VR FM β v cv) (hf : flat v = true) : VR FM β' (shf d v) cv := by
  induction h with
  | top => exact .top
  | bool => exact .bool
  | pr h => exact .pr h
  | anyb h1 h2 => exact .anyb h1 h2
  | int => exact .int
  | str h => exact .str h
  | nilp => exact .nilp
  | ptr h hs => exact .ptr (by rw [hb]; exact h) hs
  | fptr cv hm hv ih => exact .fptr cv hm hv
  | nils => exact .nils
  | e0 => exact .e0
  | fi0 => exact .fi0
  | fi hl hm => exact .fi hl hm
  | fz0 => exact .fz0
  | fz cv hz hl2 hl hm ho hv ih => exact .fz cv hz hl2 hl hm ho hv
  | sl h hs hr hc hp => exact .sl (by rw [hb]; exact h) hs hr hc hp
  | sl0 h hs => exact .sl0 (by rw [hb]; exact h) hs
  | fn h1 h2 hv1 hv2 ih1 ih2 => simp [flat] at hf
  | nilf => exact .nilf
  | iface h ih => simp [flat] at hf
  | nili => exact .nili
  | mp h => exact .mp (by rw [hb]; exact h)
  | agg h1 hv ih =>
    simp only [Pf.shf, shfL_eq]
    exact .agg (by simpa using h1) (fun i hi => by
      rw [List.getElem_map]
      exact ih i (by simpa using hi) hb (flatL_get hf i (by simpa using hi)))
  | tup h1 hv ih =>
    simp only [Pf.shf, shfL_eq]
    exact .tup (by simpa using h1) (fun i hi => by
      rw [List.getElem_map]
      exact ih i (by simpa using hi) hb (flatL_get hf i (by simpa using hi)))

def memS (b : Nat) : List NewB → Bool
  | [] => false
  | (_, _, some (c, _)) :: bs => match Nat.beq b c with | true => true | false => memS b bs
  | _ :: bs => memS b bs
/-- The blocks come from different places. -/
def distM : List NewB → Bool
  | [] => true
  | (_, _, some (b, _)) :: bs => match memS b bs with | true => false | false => distM bs
  | _ :: bs => distM bs
def blksM : List NewB → AHeap
  | [] => []
  | p :: bs => p.2.1 :: blksM bs
theorem blksM_eq : ∀ bs, blksM bs = bs.map (·.2.1)
  | [] => rfl
  | p :: bs => by simp [blksM, blksM_eq bs]
theorem memS_iff {b : Nat} : ∀ {bs : List NewB}, memS b bs = false → ∀ p ∈ bs, ∀ c g, p.2.2 = some (c, g) → b ≠ c
  | (i, blk, some (c, g)) :: bs, h, p, hp, c', g', e => by
    simp only [memS] at h
    split at h
    · cases h
    · rename_i hb
      rcases List.mem_cons.1 hp with rfl | hp
      · simp only [Option.some.injEq, Prod.mk.injEq] at e
        obtain ⟨rfl, rfl⟩ := e
        rintro rfl
        simp at hb
      · exact memS_iff h p hp c' g' e
  | (i, blk, none) :: bs, h, p, hp, c', g', e => by
    simp only [memS] at h
    rcases List.mem_cons.1 hp with rfl | hp
    · cases e
    · exact memS_iff h p hp c' g' e
theorem distM_iff : ∀ {bs : List NewB}, distM bs = true → ∀ i j (hi : i < bs.length) (hj : j < bs.length) b g g', bs[i].2.2 = some (b, g) → bs[j].2.2 = some (b, g') → i = j
  | (_, _, some (c, gc)) :: bs, h, i, j, hi, hj, b, g, g', e1, e2 => by
    simp only [distM] at h
    split at h
    · cases h
    · rename_i hm
      cases i with
      | zero =>
        cases j with
        | zero => rfl
        | succ j =>
          simp only [List.getElem_cons_zero, Option.some.injEq, Prod.mk.injEq] at e1
          simp only [List.getElem_cons_succ] at e2
          exact absurd e1.1 (memS_iff hm _ (List.getElem_mem _) _ _ e2)
      | succ i =>
        cases j with
        | zero =>
          simp only [List.getElem_cons_zero, Option.some.injEq, Prod.mk.injEq] at e2
          simp only [List.getElem_cons_succ] at e1
          exact absurd e2.1 (memS_iff hm _ (List.getElem_mem _) _ _ e1)
        | succ j => rw [distM_iff h i j (by simpa using hi) (by simpa using hj) b g g' e1 e2]
  | (_, _, none) :: bs, h, i, j, hi, hj, b, g, g', e1, e2 => by
    simp only [distM] at h
    cases i with
    | zero => cases e1
    | succ i =>
      cases j with
      | zero => cases e2
      | succ j => rw [distM_iff h i j (by simpa using hi) (by simpa using hj) b g g' e1 e2]

/-- What a function hands back that makes new blocks: the value, with its blocks numbered from 0 on, and the blocks. -/
def New (Q : AV → AHeap → Prop) (v : AV) (H : AHeap) : Prop := ∃ ps u bs u', can H 9 0 v = some (ps, u, bs) ∧ AllC ps ∧ distM bs = true ∧ flat u' = true ∧ Sub u u' ∧ Q u' (blksM bs)
def AFunN (P : Program) (f : FuncId) (args : List AV) (Q : AV → AHeap → Prop) : Prop := AFun P f args [] (New Q)

theorem AFunN.at {args args' : List AV} {Q : AV → AHeap → Prop} (hq : AFunN P f args' Q) {ss : List Prop} (e : mapF (frz (fun _ => true) H 9) args = some (ss, args')) (hc : AllC ss) (hcl : cloL args' = true) :
    AFun P f args H fun v H1 => ∃ u H2, Q u H2 ∧ v = shf (lenM H) u ∧ appM H H2 = some H1 := by
  refine ⟨hq.1, fun FM β cs w cargs hv hh => ?_⟩
  have hF := frzFM_frozen (sel := fun _ => true) hh
  have hv' := hv.frz hh hF e hc
  obtain ⟨v, w', fr, av, FM1, β1, H1, ⟨ps, u, bs, u', e1, e2, e3, e4, e5, e6⟩, h1, h2, h3, h4, h5, h6⟩ := hq.2 _ noB cs w cargs ⟨hv'.1, fun i hi => (hv'.2 i hi).clo (cloL_get hcl i hi) noB⟩ hh.lend
  obtain ⟨a1, a2, a3⟩ := can_ok h2 9 e1 e2 h1
  have hlen : ∀ i (hi : i < bs.length), bs[i].1 = i := by
    intro i hi
    have := congrArg (·[i]?) a1
    simpa [hi] using this
  let β2 : BMap := fun b g => if g = 0 then (match bs[b]? with | some p => srcB β1 p.2.2 | none => none) else none
  let β3 : BMap := fun b g => if b < H.length then β b g else β2 (b - H.length) g
  have hβ : ∀ b g lo, β b g = some lo → β3 b g = some lo := by
    intro b g lo hb
    simp only [β3, if_pos (hh.dom b g lo hb).1]
    exact hb
  have h2b : ∀ p ∈ bs, β2 p.1 0 = srcB β1 p.2.2 := by
    intro p hp
    obtain ⟨i, hi, rfl⟩ := List.getElem_of_mem hp
    simp only [β2, hlen i hi, if_true, List.getElem?_eq_getElem hi]
  -- the new blocks
  have new : ∀ (b : Nat) (blk : ABlk) (g n : Nat) (row : Nat → List AV), H.length ≤ b → (H ++ blksM bs)[b]? = some blk → blk.view = some (g, n, row) → ∀ lo, β3 b g = some lo →
      g = 0 ∧ ∃ p, bs[b - H.length]? = some p ∧ blk = p.2.1 ∧ srcB β1 p.2.2 = some lo := by
    intro b blk g n row hb hblk hw lo hlo
    rw [List.getElem?_append_right hb, blksM_eq, List.getElem?_map] at hblk
    cases hp : bs[b - H.length]? with
    | none => simp [hp] at hblk
    | some p =>
      simp only [hp, Option.map_some, Option.some.injEq] at hblk
      simp only [β3, if_neg (Nat.not_lt.2 hb), β2] at hlo
      split at hlo
      · rename_i h0
        simp only [hp] at hlo
        exact ⟨h0, p, rfl, hblk.symm, hlo⟩
      · cases hlo
  have old : ∀ {b blk}, b < H.length → (H ++ blksM bs)[b]? = some blk → H[b]? = some blk := by
    intro b blk hb h
    rwa [List.getElem?_append_left hb] at h
  -- where a new block lies
  have newAt : ∀ {p : NewB} {L : Loc}, p ∈ bs → srcB β1 p.2.2 = some (some L) → ∃ b g k l0, p.2.2 = some (b, g) ∧ H1[b]? = some (.ints g k l0) ∧ β1 b g = some (some L) ∧ w.heap.size ≤ L.cb := by
    intro p L hp hs
    obtain ⟨k, l, hk, hsrc⟩ := a2 p hp
    cases hp2 : p.2.2 with
    | none => rw [hp2] at hs; cases hs
    | some bg =>
      obtain ⟨b, g⟩ := bg
      rw [hp2] at hs hsrc
      obtain ⟨l0, m, h7, h8, h9, lo, h10, h11⟩ := hsrc
      refine ⟨b, g, k, l0, rfl, h7, hs, ?_⟩
      rcases Nat.lt_or_ge L.cb w.heap.size with hl | hl
      · exact absurd (h3.img L.cb hl ⟨b, _, g, _, _, L, h7, rfl, hs, rfl⟩) (noImg _)
      · exact hl
  refine ⟨v, w', fr, shf (lenM H) u', FM, β3, H ++ blksM bs, ⟨u', blksM bs, e6, rfl, appM_eq _ _⟩, ?_, ?_, ?_, h4, h5, h6⟩
  · refine VR.shf (fun b g => ?_) (e5 _ _ _ (a3 FM β2 h2b)) e4
    rw [lenM_eq]
    simp only [β3, if_neg (show ¬ b + H.length < H.length by omega), Nat.add_sub_cancel]
  · have hmp : MapsOk β3 (H ++ blksM bs) w' := hh.mp.keep hβ (fun b vb sh es h => by
      rcases Nat.lt_or_ge b H.length with hb | hb
      · exact old hb h
      · rw [List.getElem?_append_right hb, blksM_eq, List.getElem?_map] at h
        cases hp : bs[b - H.length]? with
        | none => simp [hp] at h
        | some p =>
          obtain ⟨k, l, hk, _⟩ := a2 p (List.mem_of_getElem? hp)
          simp only [hp, Option.map_some, Option.some.injEq] at h
          rw [hk] at h
          cases h) fun cb es cl h => by rw [h3.frame _ (Array.getElem?_eq_some_iff.1 h).1 (noImg _)]; exact h
    refine ⟨?_, ?_, ?_, ?_, ?_, hh.gk.at (hh.gk.tabw.keep fun _ hlt => h3.frame _ hlt (noImg _)), hmp⟩
    · intro b blk g n row hblk hw
      rcases Nat.lt_or_ge b H.length with hb | hb
      · obtain ⟨lo, k1, k2⟩ := hh.mem b blk g n row (old hb hblk) hw
        refine ⟨lo, hβ _ _ _ k1, ?_⟩
        cases lo with
        | none => exact k2
        | some L =>
          have k2 : MemOk FM β w L n row := k2
          exact k2.still (h3.frame _ k2.lt (noImg _)) hβ
      · have hblk' := hblk
        rw [List.getElem?_append_right hb, blksM_eq, List.getElem?_map] at hblk'
        cases hp : bs[b - H.length]? with
        | none => simp [hp] at hblk'
        | some p =>
          simp only [hp, Option.map_some, Option.some.injEq] at hblk'
          have hpm : p ∈ bs := List.mem_of_getElem? hp
          obtain ⟨k, l, hk, hsrc⟩ := a2 p hpm
          rw [hk] at hblk'
          subst hblk'
          cases hw
          have hβ3 : β3 b 0 = srcB β1 p.2.2 := by simp only [β3, if_neg (Nat.not_lt.2 hb), β2, if_true, hp]
          cases hp2 : p.2.2 with
          | none =>
            rw [hp2] at hsrc hβ3
            exact ⟨none, hβ3, by simp only [MemAt]; have hsrc : l = [] := hsrc; rw [hsrc]; rfl⟩
          | some bg =>
            obtain ⟨b1, g1⟩ := bg
            rw [hp2] at hsrc hβ3
            obtain ⟨l0, m, h7, h8, h9, lo, h10, h11⟩ := hsrc
            refine ⟨lo, by rw [hβ3]; exact h10, ?_⟩
            obtain ⟨lo', h12, h13⟩ := h2.mem b1 _ _ _ _ h7 rfl
            rw [h10] at h12
            cases h12
            have hll : l.length = m := by rw [h8]; simp; omega
            cases lo with
            | none =>
              have h13 : l0.length = 0 := h13
              simp only [MemAt]
              omega
            | some L =>
              have h13 : MemOk FM1 β1 w' L l0.length (fun i => [.int k (l0.getD i 0)]) := h13
              have hsh := h11 L rfl
              obtain ⟨c, ee, frr, c1, c2, c3, c4, c5⟩ := h13.cells
              refine ⟨h13.sz, by omega, by have := h13.fit; omega, ⟨c, ee, frr, c1, c2, c3, c4, fun r hr1 hr2 => ?_⟩, fun o => ?_⟩
              · obtain ⟨d1, d2⟩ := c5 r hr1 (by omega)
                refine ⟨d1, fun j hj => ?_⟩
                obtain ⟨cv, d3, d4⟩ := d2 j hj
                refine ⟨cv, d3, ?_⟩
                have hj0 : j = 0 := by simp at hj; exact hj
                subst hj0
                simp only [List.getElem_cons_zero] at d4 ⊢
                have e7 : l.getD r 0 = l0.getD r 0 := by
                  subst h8
                  simp only [List.getD_eq_getElem?_getD, List.getElem?_take]
                  rw [if_pos (by omega)]
                rw [e7]
                cases d4
                exact .int
              · cases hx : FM L.cb o with
                | none => rfl
                | some x =>
                  have := h3.fm _ _ _ (hF.1 _ _ _ hx)
                  rw [h13.free o] at this; cases this
    · intro b b' blk blk' g g' n n' row row' L L' q1 q2 q3 q4 q5 q6 q7
      rcases Nat.lt_or_ge b H.length with hb | hb <;> rcases Nat.lt_or_ge b' H.length with hb' | hb'
      · simp only [β3, if_pos hb] at q3
        simp only [β3, if_pos hb'] at q6
        exact hh.inj b b' blk blk' g g' n n' row row' L L' (old hb q1) q2 q3 (old hb' q4) q5 q6 q7
      · simp only [β3, if_pos hb] at q3
        obtain ⟨_, p, p1, p2, p3⟩ := new b' blk' g' n' row' hb' q4 q5 _ q6
        obtain ⟨_, _, _, _, _, _, _, p4⟩ := newAt (List.mem_of_getElem? p1) p3
        have := (hh.at (old hb q1) q2 q3).lt
        omega
      · simp only [β3, if_pos hb'] at q6
        obtain ⟨_, p, p1, p2, p3⟩ := new b blk g n row hb q1 q2 _ q3
        obtain ⟨_, _, _, _, _, _, _, p4⟩ := newAt (List.mem_of_getElem? p1) p3
        have := (hh.at (old hb' q4) q5 q6).lt
        omega
      · obtain ⟨_, p, p1, p2, p3⟩ := new b blk g n row hb q1 q2 _ q3
        obtain ⟨_, p', p1', p2', p3'⟩ := new b' blk' g' n' row' hb' q4 q5 _ q6
        obtain ⟨i1, i2, i3, i4, i5, i6, i7, _⟩ := newAt (List.mem_of_getElem? p1) p3
        obtain ⟨j1, j2, j3, j4, j5, j6, j7, _⟩ := newAt (List.mem_of_getElem? p1') p3'
        have := h2.inj i1 j1 _ _ i2 j2 _ _ _ _ L L' i6 rfl i7 j6 rfl j7 q7
        subst this
        obtain ⟨l1, rfl⟩ := List.getElem?_eq_some_iff.1 p1
        obtain ⟨l1', rfl⟩ := List.getElem?_eq_some_iff.1 p1'
        have := distM_iff e3 _ _ l1 l1' _ _ _ i5 j5
        omega
    · intro b blk g n row L q1 q2 q3
      rcases Nat.lt_or_ge b H.length with hb | hb
      · simp only [β3, if_pos hb] at q3
        exact hh.wid b blk g n row L (old hb q1) q2 q3
      · obtain ⟨_, p, p1, p2, p3⟩ := new b blk g n row hb q1 q2 _ q3
        obtain ⟨i1, i2, i3, i4, i5, i6, i7, _⟩ := newAt (List.mem_of_getElem? p1) p3
        have := h2.wid _ _ _ _ _ _ i6 rfl i7
        obtain ⟨k, l, hk, _⟩ := a2 p (List.mem_of_getElem? p1)
        rw [p2, hk]
        exact this
    · intro cb o x hx
      exact h2.fm _ _ _ (h3.fm _ _ _ (hF.1 _ _ _ hx))
    · intro b g lo hlo
      rcases Nat.lt_or_ge b H.length with hb | hb
      · simp only [β3, if_pos hb] at hlo
        obtain ⟨d1, d2⟩ := hh.dom b g lo hlo
        refine ⟨by simp; omega, fun blk g' n row q1 q2 => d2 blk g' n row (old hb q1) q2⟩
      · simp only [β3, if_neg (Nat.not_lt.2 hb), β2] at hlo
        split at hlo
        · rename_i h0
          subst h0
          refine ⟨?_, fun _ _ _ _ _ _ => Nat.zero_le _⟩
          cases hp : bs[b - H.length]? with
          | none => simp [hp] at hlo
          | some p =>
            obtain ⟨hl, _⟩ := List.getElem?_eq_some_iff.1 hp
            simp only [List.length_append, blksM_eq, List.length_map]
            omega
        · cases hlo
  · refine ⟨fun _ _ _ h => h, hβ, h3.size, fun cb hl hi => ?_, fun cb hl hi => h3.frame cb hl (noImg cb), fun cb o v hx => .inl hx, by simp, h3.os, h3.output, h3.tape⟩
    obtain ⟨b, blk, g, n, row, L, q1, q2, q3, q4⟩ := hi
    rcases Nat.lt_or_ge b H.length with hb | hb
    · simp only [β3, if_pos hb] at q3
      exact ⟨b, blk, g, n, row, L, old hb q1, q2, q3, q4⟩
    · have q2 : blk.view = some (g, n, row) := by
        rw [List.getElem?_append_right hb, blksM_eq, List.getElem?_map] at q1
        cases hp : bs[b - H.length]? with
        | none => simp [hp] at q1
        | some p =>
          obtain ⟨k, l, hk, _⟩ := a2 p (List.mem_of_getElem? hp)
          simp only [hp, Option.map_some, Option.some.injEq] at q1
          rw [hk] at q1
          subst q1
          exact q2
      obtain ⟨_, p, p1, p2, p3⟩ := new b blk g n row hb q1 q2 _ q3
      obtain ⟨_, _, _, _, _, _, _, p4⟩ := newAt (List.mem_of_getElem? p1) p3
      omega

end Pf
/- Functions that write a block of the caller's. -/
namespace Pf
open Go
variable {P : Program} {TT : TypeId → Option TI} {f N n0 : Nat} {k : List Item} {T : Env} {H : AHeap} {R : AV → AHeap → Prop}

/-- A block in another generation. -/
def setg (g : Nat) : ABlk → ABlk
  | .dead => .dead
  | .lst _ rows => .lst g rows
  | .ints _ k l => .ints g k l
  | .tab _ n row => .tab g n row
  | .mp vb sh es => .mp vb sh es
theorem setg_view {g g' n : Nat} {row : Nat → List AV} {blk : ABlk} (h : (setg g blk).view = some (g', n, row)) : g' = g ∧ ∃ g0, blk.view = some (g0, n, row) := by
  cases blk <;> simp only [setg, ABlk.view, Option.some.injEq, Prod.mk.injEq, reduceCtorEq] at h ⊢
  all_goals (obtain ⟨rfl, h2, h3⟩ := h; exact ⟨rfl, _, rfl, h2, h3⟩)
theorem view_setg {g g0 n : Nat} {row : Nat → List AV} {blk : ABlk} (h : blk.view = some (g0, n, row)) : (setg g blk).view = some (g, n, row) := by
  cases blk <;> simp only [setg, ABlk.view, Option.some.injEq, Prod.mk.injEq, reduceCtorEq] at h ⊢
  all_goals exact ⟨trivial, h.2⟩
theorem setg_width {g : Nat} {blk : ABlk} : (setg g blk).width = blk.width := by cases blk <;> rfl

/-- Where a block lies in a list of such. -/
def idxM (b g : Nat) : Nat → List (Nat × Nat) → Option Nat
  | _, [] => none
  | i, (b', g') :: rs => match Nat.beq b b' with
    | true => match Nat.beq g g' with | true => some i | false => none
    | false => idxM b g (i + 1) rs
theorem idxM_ok {b g : Nat} : ∀ {rs : List (Nat × Nat)} {i j : Nat}, idxM b g i rs = some j → i ≤ j ∧ rs[j - i]? = some (b, g)
  | (b', g') :: rs, i, j, h => by
    simp only [idxM] at h
    split at h
    · rename_i h1
      split at h
      · rename_i h2
        cases h
        simp [Nat.eq_of_beq_eq_true h1, Nat.eq_of_beq_eq_true h2]
      · cases h
    · obtain ⟨h1, h2⟩ := idxM_ok h
      refine ⟨by omega, ?_⟩
      rw [show j - i = j - (i + 1) + 1 by omega]
      simpa using h2

mutual
/-- A value whose places are all in these blocks, the blocks being numbered from 0 on. -/
def ren (rs : List (Nat × Nat)) : AV → Option AV
  | .sl b g off len => match idxM b g 0 rs with | some i => some (.sl i 0 off len) | none => none
  | .ptr b g r c => match idxM b g 0 rs with | some i => some (.ptr i 0 r c) | none => none
  | .agg cs => match renL rs cs with | some us => some (.agg us) | none => none
  | v => match clo v with | true => some v | false => none
def renL (rs : List (Nat × Nat)) : List AV → Option (List AV)
  | [] => some []
  | v :: vs => match ren rs v with
    | some u => match renL rs vs with | some us => some (u :: us) | none => none
    | none => none
end
theorem renL_get {rs : List (Nat × Nat)} : ∀ {vs us : List AV}, renL rs vs = some us → us.length = vs.length ∧ ∀ i (h1 : i < vs.length) (h2 : i < us.length), ren rs vs[i] = some us[i]
  | [], us, h => by simp only [renL, Option.some.injEq] at h; subst h; exact ⟨rfl, fun i h => by simp at h⟩
  | v :: vs, us, h => by
    simp only [renL] at h
    split at h
    · rename_i u hu
      split at h
      · rename_i us' hus
        simp only [Option.some.injEq] at h
        subst h
        obtain ⟨h1, h2⟩ := renL_get hus
        refine ⟨by simp [h1], fun i h3 h4 => ?_⟩
        cases i with
        | zero => exact hu
        | succ i => exact h2 i (by simpa using h3) (by simpa using h4)
      · cases h
    · cases h
theorem VR.ren {FM : FMem} {β β' : BMap} {rs : List (Nat × Nat)} (hb : ∀ i b g lo, rs[i]? = some (b, g) → β b g = some lo → β' i 0 = some lo) {v : AV} {cv : Value} (h : VR FM β v cv) : ∀ {u : AV}, Pf.ren rs v = some u → VR FM β' u cv := by
  induction h with
  | sl h hs hr hc hp =>
    intro u e
    simp only [Pf.ren] at e
    split at e
    · rename_i i hi
      cases e
      exact .sl (hb _ _ _ _ (idxM_ok hi).2 h) hs hr hc hp
    · cases e
  | sl0 h hs =>
    intro u e
    simp only [Pf.ren] at e
    split at e
    · rename_i i hi
      cases e
      exact .sl0 (hb _ _ _ _ (idxM_ok hi).2 h) hs
    · cases e
  | ptr h hs =>
    intro u e
    simp only [Pf.ren] at e
    split at e
    · rename_i i hi
      cases e
      exact .ptr (hb _ _ _ _ (idxM_ok hi).2 h) hs
    · cases e
  | agg h1 hv ih =>
    intro u e
    simp only [Pf.ren] at e
    split at e
    · rename_i us hus
      cases e
      obtain ⟨h2, h3⟩ := renL_get hus
      exact .agg (by rw [h2, h1]) fun i hi => ih i (by omega) hb (h3 i (by omega) hi)
    · cases e
  | tup h1 hv ih =>
    intro u e
    simp only [Pf.ren] at e
    split at e
    · rename_i hc
      cases e
      exact VR.clo (.tup h1 hv) hc _
    · cases e
  | fn h1 h2 hv1 hv2 =>
    intro u e
    simp only [Pf.ren] at e
    split at e
    · rename_i hc
      cases e
      exact VR.clo (.fn h1 h2 hv1 hv2) hc _
    · cases e
  | iface h =>
    intro u e
    simp only [Pf.ren] at e
    split at e
    · rename_i hc
      cases e
      exact VR.clo (.iface h) hc _
    · cases e
  | top => intro u e; simp only [Pf.ren, Pf.clo] at e; cases e; exact .top
  | bool => intro u e; simp only [Pf.ren, Pf.clo] at e; cases e; exact .bool
  | pr h => intro u e; simp only [Pf.ren, Pf.clo] at e; cases e; exact .pr h
  | anyb h1 h2 => intro u e; simp only [Pf.ren, Pf.clo] at e; cases e; exact .anyb h1 h2
  | int => intro u e; simp only [Pf.ren, Pf.clo] at e; cases e; exact .int
  | str h => intro u e; simp only [Pf.ren, Pf.clo] at e; cases e; exact .str h
  | nilp => intro u e; simp only [Pf.ren, Pf.clo] at e; cases e; exact .nilp
  | fptr cv hm hv => intro u e; simp only [Pf.ren, Pf.clo] at e; cases e; exact .fptr cv hm hv
  | nils => intro u e; simp only [Pf.ren, Pf.clo] at e; cases e; exact .nils
  | e0 => intro u e; simp only [Pf.ren, Pf.clo] at e; cases e; exact .e0
  | fi0 => intro u e; simp only [Pf.ren, Pf.clo] at e; cases e; exact .fi0
  | fi hl hm => intro u e; simp only [Pf.ren, Pf.clo] at e; cases e; exact .fi hl hm
  | fz0 => intro u e; simp only [Pf.ren, Pf.clo] at e; cases e; exact .fz0
  | fz cv hz hl2 hl hm ho hv => intro u e; simp only [Pf.ren, Pf.clo] at e; cases e; exact .fz cv hz hl2 hl hm ho hv
  | nilf => intro u e; simp only [Pf.ren, Pf.clo] at e; cases e; exact .nilf
  | nili => intro u e; simp only [Pf.ren, Pf.clo] at e; cases e; exact .nili
  | mp h => intro u e; simp only [Pf.ren, Pf.clo] at e; cases e

/-- Do a block's rows hold no place? -/
def bclo : ABlk → Bool
  | .lst _ rows => allClo rows
  | .ints _ _ _ => true
  | _ => false
def bcloL : List ABlk → Bool
  | [] => true
  | b :: bs => match bclo b with | true => bcloL bs | false => false
theorem bclo_row {blk : ABlk} (h : bclo blk = true) {g n : Nat} {row : Nat → List AV} (hv : blk.view = some (g, n, row)) (r : Nat) (hr : r < n) (j : Nat) (hj : j < (row r).length) : clo (row r)[j] = true := by
  cases blk with
  | lst g' rows =>
    cases hv
    have e : rows.getD r [] = rows[r] := by simp [List.getD_eq_getElem?_getD, hr]
    have := allClo_get h r hr
    simp only [e] at hj ⊢
    exact cloL_get this j hj
  | ints g' k l =>
    cases hv
    have hj0 : j = 0 := by simpa using hj
    subst hj0
    rfl
  | _ => cases h

/-- The same said of rows by a function too. -/
def bcP : ABlk → Prop
  | .lst _ rows => allClo rows = true
  | .ints _ _ _ => True
  | .tab _ n row => ∀ i, i < n → cloL (row i) = true
  | _ => False
def BC : List ABlk → Prop
  | [] => True
  | b :: bs => bcP b ∧ BC bs
theorem BC_of : ∀ {bs : List ABlk}, bcloL bs = true → BC bs
  | [], _ => trivial
  | b :: bs, h => by
    simp only [bcloL] at h
    split at h
    · rename_i hb
      refine ⟨?_, BC_of h⟩
      cases b <;> first | exact hb | trivial | cases hb
    · cases h
theorem BC_get : ∀ {bs : List ABlk}, BC bs → ∀ i (h : i < bs.length), bcP bs[i]
  | b :: bs, h, 0, _ => h.1
  | b :: bs, h, i + 1, hi => BC_get h.2 i (by simpa using hi)
theorem bcP_view {blk : ABlk} (h : bcP blk) : ∃ g n row, blk.view = some (g, n, row) := by
  cases blk with
  | lst g rows => exact ⟨_, _, _, rfl⟩
  | ints g k l => exact ⟨_, _, _, rfl⟩
  | tab g n row => exact ⟨_, _, _, rfl⟩
  | _ => exact h.elim
theorem bcP_row {blk : ABlk} (h : bcP blk) {g n : Nat} {row : Nat → List AV} (hv : blk.view = some (g, n, row)) (r : Nat) (hr : r < n) (j : Nat) (hj : j < (row r).length) : clo (row r)[j] = true := by
  cases blk with
  | lst g' rows => exact bclo_row (blk := .lst g' rows) h hv r hr j hj
  | ints g' k l => exact bclo_row (blk := .ints g' k l) rfl hv r hr j hj
  | tab g' n' row' =>
    cases hv
    exact cloL_get (h r hr) j hj
  | _ => exact h.elim
/-- The blocks that a function is handed. -/
def set0 : List ABlk → AHeap
  | [] => []
  | b :: bs => setg 0 b :: set0 bs
theorem set0_eq : ∀ bs, set0 bs = bs.map (setg 0)
  | [] => rfl
  | b :: bs => by simp [set0, set0_eq bs]
def geM (n b : Nat) : Bool := Nat.ble n b
/-- The first blocks are these. -/
def firstM : AHeap → List ABlk → Prop
  | _, [] => True
  | b :: H, c :: cs => b = setg 0 c ∧ firstM H cs
  | [], _ :: _ => False
theorem firstM_get : ∀ {H : AHeap} {cs : List ABlk}, firstM H cs → ∀ i (h : i < cs.length), H[i]? = some (setg 0 cs[i])
  | b :: H, c :: cs, h, 0, _ => by rw [h.1]; rfl
  | b :: H, c :: cs, h, i + 1, hi => by simpa using firstM_get h.2 i (by simpa using hi)
  | [], c :: cs, h, _, _ => h.elim
/-- The blocks that were handed over, laid back. -/
def setAll : List (Nat × Nat) → List ABlk → AHeap → Option AHeap
  | [], [], H => some H
  | (b, g) :: rs, c :: cs, H => match setM (setg g c) H b with | some H1 => setAll rs cs H1 | none => none
  | _, _, _ => none
def getAll : List (Nat × Nat) → List ABlk → AHeap → Prop
  | [], [], _ => True
  | (b, g) :: rs, c :: cs, H => nthM H b = some (setg g c) ∧ getAll rs cs H
  | _, _, _ => False
theorem getAll_get : ∀ {rs : List (Nat × Nat)} {cs : List ABlk} {H : AHeap}, getAll rs cs H → rs.length = cs.length ∧ ∀ i (h : i < rs.length) (h' : i < cs.length), H[rs[i].1]? = some (setg rs[i].2 cs[i])
  | [], [], H, _ => ⟨rfl, fun i h => by simp at h⟩
  | (b, g) :: rs, c :: cs, H, h => by
    obtain ⟨h1, h2⟩ := getAll_get h.2
    refine ⟨by simp [h1], fun i h3 h4 => ?_⟩
    cases i with
    | zero => have := h.1; rw [nthM_eq] at this; exact this
    | succ i => exact h2 i (by simpa using h3) (by simpa using h4)
  | [], _ :: _, H, h => h.elim
  | (_, _) :: _, [], H, h => h.elim
def distP : List (Nat × Nat) → Bool
  | [] => true
  | (b, _) :: rs => match hasP b rs with | true => false | false => distP rs
where
  hasP (b : Nat) : List (Nat × Nat) → Bool
    | [] => false
    | (c, _) :: rs => match Nat.beq b c with | true => true | false => hasP b rs
theorem hasP_iff {b : Nat} : ∀ {rs : List (Nat × Nat)}, distP.hasP b rs = false → ∀ i (h : i < rs.length), rs[i].1 ≠ b
  | (c, g) :: rs, h, i, hi => by
    simp only [distP.hasP] at h
    split at h
    · cases h
    · rename_i hb
      cases i with
      | zero => rintro rfl; simp at hb
      | succ i => exact hasP_iff h i (by simpa using hi)
theorem distP_iff : ∀ {rs : List (Nat × Nat)}, distP rs = true → ∀ i j (hi : i < rs.length) (hj : j < rs.length), rs[i].1 = rs[j].1 → i = j
  | (b, g) :: rs, h, i, j, hi, hj, e => by
    simp only [distP] at h
    split at h
    · cases h
    · rename_i hb
      cases i with
      | zero =>
        cases j with
        | zero => rfl
        | succ j => exact absurd e.symm (hasP_iff hb j (by simpa using hj))
      | succ i =>
        cases j with
        | zero => exact absurd e (hasP_iff hb i (by simpa using hi))
        | succ j => rw [distP_iff h i j (by simpa using hi) (by simpa using hj) e]
theorem setAll_get : ∀ {rs : List (Nat × Nat)} {cs : List ABlk} {H : AHeap}, rs.length = cs.length → (∀ i (h : i < rs.length), rs[i].1 < H.length) → distP rs = true →
    ∃ H1, setAll rs cs H = some H1 ∧ H1.length = H.length ∧ ∀ b k, H1[b]? = some k → (∃ i, ∃ h : i < rs.length, ∃ h' : i < cs.length, rs[i].1 = b ∧ k = setg rs[i].2 cs[i]) ∨ ((∀ i (h : i < rs.length), rs[i].1 ≠ b) ∧ H[b]? = some k)
  | [], [], H, _, _, _ => ⟨H, rfl, rfl, fun b k h => .inr ⟨fun i h => by simp at h, h⟩⟩
  | (b0, g0) :: rs, c :: cs, H, hl, hlt, hd => by
    have h0 : b0 < H.length := hlt 0 (by simp)
    have hs : setM (setg g0 c) H b0 = some (H.set b0 (setg g0 c)) := by
      have := putB_eq (.tup []) b0 (setg g0 c) H h0
      unfold putB at this
      split at this
      · rename_i H' h'
        cases this
        exact h'
      · cases this
    simp only [distP] at hd
    split at hd
    · cases hd
    · rename_i hb
      obtain ⟨H1, h1, h2, h3⟩ := setAll_get (rs := rs) (cs := cs) (H := H.set b0 (setg g0 c)) (by simpa using hl) (fun i h => by have := hlt (i + 1) (by simpa using h); rw [List.length_set]; exact this) hd
      refine ⟨H1, by simp only [setAll, hs]; exact h1, by simpa using h2, fun b k hk => ?_⟩
      rcases h3 b k hk with ⟨i, h4, h5, h6, h7⟩ | ⟨h4, h5⟩
      · exact .inl ⟨i + 1, by simpa using h4, by simpa using h5, h6, h7⟩
      · rw [List.getElem?_set] at h5
        by_cases hbb : b0 = b
        · subst hbb
          rw [if_pos rfl, if_pos h0] at h5
          exact .inl ⟨0, by simp, by simp, rfl, (Option.some.inj h5).symm⟩
        · rw [if_neg hbb] at h5
          refine .inr ⟨fun i hi => ?_, h5⟩
          cases i with
          | zero => exact hbb
          | succ i => exact h4 i (by simpa using hi)
  | [], _ :: _, H, hl, _, _ => by simp at hl
  | (_, _) :: _, [], H, hl, _, _ => by simp at hl

/-- What a function hands back that writes the first 'n' blocks: its answer, and the blocks then. -/
def Writes (n : Nat) (Q : AV → List ABlk → Prop) (v : AV) (H : AHeap) : Prop := ∃ ps u u' qs H2 blks, frz (geM n) H 9 v = some (ps, u) ∧ AllC ps ∧ Sub u u' ∧ clo u' = true ∧ frzH (geM n) H 9 0 H = some (qs, H2) ∧ AllC qs ∧
  firstM H2 blks ∧ BC blks ∧ blks.length = n ∧ Q u' blks
def AFunM (P : Program) (f : FuncId) (args : List AV) (blks : List ABlk) (Q : AV → List ABlk → Prop) : Prop := AFun P f args (set0 blks) (Writes blks.length Q)

theorem AFunM.at {args args' : List AV} {ρ : List (Nat × Nat)} {blks : List ABlk} {Q : AV → List ABlk → Prop} (hq : AFunM P f args' blks Q) (hb : getAll ρ blks H) (hρ : distP ρ = true) (e : renL ρ args = some args') (hbc : BC blks) :
    AFun P f args H fun v H1 => ∃ blks', Q v blks' ∧ setAll ρ blks' H = some H1 := by
  refine ⟨hq.1, fun FM β cs w cargs hv hh => ?_⟩
  obtain ⟨hlen, hget⟩ := getAll_get hb
  have hblt : ∀ i (h : i < ρ.length), ρ[i].1 < H.length := fun i h => (List.getElem?_eq_some_iff.1 (hget i h (by omega))).1
  -- each block handed over
  have blkv : ∀ i (h : i < blks.length), ∃ n row lo, (∃ g0, blks[i].view = some (g0, n, row)) ∧ (∀ g, (setg g blks[i]).view = some (g, n, row)) ∧ β (ρ[i]'(by omega)).1 (ρ[i]'(by omega)).2 = some lo ∧ MemAt FM β w n row lo := by
    intro i h
    obtain ⟨g0, n, row, hvw⟩ := bcP_view (BC_get hbc i h)
    obtain ⟨lo, h1, h2⟩ := hh.mem _ _ _ _ _ (hget i (by omega) h) (view_setg hvw)
    exact ⟨n, row, lo, ⟨g0, hvw⟩, fun g => view_setg hvw, h1, h2⟩
  let β0 : BMap := fun b' g' => if g' = 0 then (match ρ[b']? with | some (b, g) => β b g | none => none) else none
  have hβ0 : ∀ i b g lo, ρ[i]? = some (b, g) → β b g = some lo → β0 i 0 = some lo := by
    intro i b g lo h1 h2; simp [β0, h1, h2]
  have hβ0' : ∀ i (h : i < ρ.length), β0 i 0 = β ρ[i].1 ρ[i].2 := by
    intro i h; simp [β0, h]
  have get0 : ∀ {b1 : Nat} {k1 : ABlk}, (set0 blks)[b1]? = some k1 → ∃ h : b1 < blks.length, k1 = setg 0 blks[b1] := by
    intro b1 k1 h
    rw [set0_eq, List.getElem?_map] at h
    obtain ⟨c, h1, h2⟩ := Option.map_eq_some_iff.1 h
    obtain ⟨hl, rfl⟩ := List.getElem?_eq_some_iff.1 h1
    exact ⟨hl, h2.symm⟩
  have r0 : RelH FM β0 (set0 blks) w := by
    have nomp : ∀ (b1 : Nat) (vb : Bool) (sh : Option (List Bool)) (es : List (MKey × Int)), (set0 blks)[b1]? = some (.mp vb sh es) → False := by
      intro b1 vb sh es h
      obtain ⟨hl, h2⟩ := get0 h
      obtain ⟨_, _, _, ⟨g0, q0⟩, q1, _⟩ := blkv b1 hl
      have := q1 0
      rw [← h2] at this
      cases this
    have hmp : MapsOk β0 (set0 blks) w := ⟨fun b1 vb sh es h => (nomp b1 vb sh es h).elim, fun b1 b2 vb vb' sh sh' es es' L L' h => (nomp b1 vb sh es h).elim⟩
    refine ⟨?_, ?_, ?_, hh.fm, ?_, hh.gk, hmp⟩
    · intro b1 blk1 g1 n1 row1 h1 h2
      obtain ⟨hl, rfl⟩ := get0 h1
      obtain ⟨n, row, lo, ⟨g0, q0⟩, q1, q2, q3⟩ := blkv b1 hl
      rw [q1 0] at h2
      cases h2
      refine ⟨lo, by rw [hβ0' b1 (by omega)]; exact q2, ?_⟩
      cases lo with
      | none => exact q3
      | some L =>
        have q3 : MemOk FM β w L _ _ := q3
        obtain ⟨c, ee, fr, c1, c2, c3, c4, c5⟩ := q3.cells
        refine ⟨q3.sz, q3.sh, q3.fit, ⟨c, ee, fr, c1, c2, c3, c4, fun r hr1 hr2 => ?_⟩, q3.free⟩
        obtain ⟨k3, k4⟩ := c5 r hr1 hr2
        refine ⟨k3, fun j hj => ?_⟩
        obtain ⟨cv, k5, k6⟩ := k4 j hj
        exact ⟨cv, k5, k6.clo (bcP_row (BC_get hbc b1 hl) q0 r hr2 j hj) _⟩
    · intro b1 b2 k1 k2 g1 g2 n1 n2 row1 row2 L1 L2 h1 h2 h3 h4 h5 h6 h7
      obtain ⟨hl1, rfl⟩ := get0 h1
      obtain ⟨hl2, rfl⟩ := get0 h4
      obtain ⟨n, row, lo, _, q1, q2, q3⟩ := blkv b1 hl1
      obtain ⟨n', row', lo', _, q1', q2', q3'⟩ := blkv b2 hl2
      rw [q1 0] at h2; cases h2
      rw [q1' 0] at h5; cases h5
      rw [hβ0' b1 (by omega)] at h3
      rw [hβ0' b2 (by omega)] at h6
      have := hh.inj _ _ _ _ _ _ _ _ _ _ L1 L2 (hget b1 (by omega) hl1) (q1 _) h3 (hget b2 (by omega) hl2) (q1' _) h6 h7
      exact distP_iff hρ b1 b2 (by omega) (by omega) this
    · intro b1 blk1 g1 n1 row1 L h1 h2 h3
      obtain ⟨hl, rfl⟩ := get0 h1
      obtain ⟨n, row, lo, _, q1, q2, q3⟩ := blkv b1 hl
      rw [q1 0] at h2; cases h2
      rw [hβ0' b1 (by omega)] at h3
      have := hh.wid _ _ _ _ _ L (hget b1 (by omega) hl) (q1 _) h3
      rw [setg_width] at this ⊢
      exact this
    · intro b1 g1 lo1 h1
      simp only [β0] at h1
      split at h1
      · rename_i h2
        subst h2
        split at h1
        · rename_i b g hbg
          obtain ⟨hl, _⟩ := List.getElem?_eq_some_iff.1 hbg
          exact ⟨by rw [set0_eq]; simp; omega, fun _ _ _ _ _ _ => Nat.zero_le _⟩
        · cases h1
      · cases h1
  obtain ⟨hrl, hrg⟩ := renL_get e
  obtain ⟨v, w', fr, av, FM1, β1, H1, ⟨ps, u, u', qs, H2, blks', e1, e2, es, e3, e4, e5, e6, e7, e7', e8⟩, h1, h2, h3, h4, h5, h6⟩ :=
    hq.2 FM β0 cs w cargs ⟨by rw [hrl, hv.1], fun i hi => (hv.2 i (by omega)).ren hβ0 (hrg i (by omega) hi)⟩ r0
  have hF := frzFM_frozen (sel := geM blks.length) h2
  have h2' := h2.freeze e4 e5
  have hx := Ext.freeze h2 e4 e5
  have h3' := h3.trans hx
  generalize frzFM (geM blks.length) FM1 β1 H1 w' = FM2 at hF h2' hx h3'
  obtain ⟨H3, s1, s2, s3⟩ := setAll_get (rs := ρ) (cs := blks') (H := H) (by omega) hblt hρ
  -- each block handed back
  have back : ∀ i (h : i < ρ.length), ∃ n row lo, (∃ g0, (blks'[i]'(by omega)).view = some (g0, n, row)) ∧ (∀ g, (setg g (blks'[i]'(by omega))).view = some (g, n, row)) ∧ β ρ[i].1 ρ[i].2 = some lo ∧ MemAt FM2 β1 w' n row lo ∧
      (∀ L, lo = some L → L.sz = (blks'[i]'(by omega)).width) := by
    intro i h
    obtain ⟨g0, n, row, hvw⟩ := bcP_view (BC_get e7 i (by omega))
    have hfi := firstM_get e6 i (by omega)
    obtain ⟨lo, q1, q2⟩ := h2'.mem i _ _ _ _ hfi (view_setg hvw)
    obtain ⟨n', row', lo', _, _, q3, _⟩ := blkv i (by omega)
    have q4 := h3'.bm i 0 lo' (by rw [hβ0' i h]; exact q3)
    rw [q1] at q4
    cases q4
    refine ⟨n, row, lo, ⟨g0, hvw⟩, fun g => view_setg hvw, q3, q2, fun L hL => ?_⟩
    subst hL
    have := h2'.wid i _ _ _ _ L hfi (view_setg hvw) q1
    rwa [setg_width] at this
  have img0 : ∀ cb, Img β0 (set0 blks) cb → ∃ i, ∃ h : i < ρ.length, ∃ L, β ρ[i].1 ρ[i].2 = some (some L) ∧ L.cb = cb := by
    rintro cb ⟨b1, k1, g1, n1, row1, L, q1, q2, q3, q4⟩
    obtain ⟨hl, rfl⟩ := get0 q1
    obtain ⟨n, row, lo, _, q5, _⟩ := blkv b1 hl
    rw [ABlk.vw_of (q5 0)] at q2; cases q2
    rw [hβ0' b1 (by omega)] at q3
    exact ⟨b1, by omega, L, q3, q4⟩
  have imgH : ∀ cb, Img β0 (set0 blks) cb → Img β H cb := by
    intro cb hi
    obtain ⟨i, h, L, q, q'⟩ := img0 cb hi
    obtain ⟨n, row, lo, _, q5, _⟩ := blkv i (by omega)
    exact ⟨_, _, _, _, _, L, hget i h (by omega), ABlk.vw_of (q5 _), q, q'⟩
  have other : ∀ {b1 : Nat} {k1 : ABlk} {g1 n1 : Nat} {row1 : Nat → List AV} {L : Loc}, (∀ i (h : i < ρ.length), ρ[i].1 ≠ b1) → H[b1]? = some k1 → k1.view = some (g1, n1, row1) → β b1 g1 = some (some L) → ¬ Img β0 (set0 blks) L.cb := by
    intro b1 k1 g1 n1 row1 L hne q1 q2 q3 hi
    obtain ⟨i, h, L2, q, q'⟩ := img0 _ hi
    obtain ⟨n, row, lo, _, q5, _⟩ := blkv i (by omega)
    exact hne i h (hh.inj b1 _ _ _ _ _ _ _ _ _ L L2 q1 q2 q3 (hget i h (by omega)) (q5 _) q q'.symm).symm
  refine ⟨v, w', fr, u', FM2, β, H3, ⟨blks', e8, s1⟩, (es _ _ _ (frz_ok h2 hF 9 e1 e2 h1)).clo e3 β, ?_, ?_, h4, h5, h6⟩
  · have hmp : MapsOk β H3 w' := hh.mp.keep (fun _ _ _ h => h) (fun b1 vb sh es h => by
      rcases s3 _ _ h with ⟨i, r1, r2, rfl, h4⟩ | ⟨hne, q1⟩
      · obtain ⟨n, row, lo, ⟨g0, q5'⟩, q5, _⟩ := back i r1
        have := q5 ρ[i].2
        rw [← h4] at this
        cases this
      · exact q1) fun cb es cl h => by
      rw [h3'.frame _ (Array.getElem?_eq_some_iff.1 h).1 fun hi => ?_]
      · exact h
      · obtain ⟨i, hl, L, q, q'⟩ := img0 cb hi
        obtain ⟨n, row, lo, _, q5, q6, q7⟩ := blkv i (by omega)
        rw [q] at q6
        cases q6
        obtain ⟨c, ee, fr, c1, _⟩ := MemOk.cells q7
        rw [q', h] at c1
        cases c1
    refine ⟨?_, ?_, ?_, h2'.fm, ?_, h2'.gk, hmp⟩
    · intro b1 k1 g1 n1 row1 q1 q2
      rcases s3 _ _ q1 with ⟨i, r1, r2, rfl, rfl⟩ | ⟨hne, q1⟩
      · obtain ⟨n, row, lo, ⟨g0, q5'⟩, q5, q6, q7, _⟩ := back i r1
        rw [q5] at q2
        cases q2
        refine ⟨lo, q6, ?_⟩
        cases lo with
        | none => exact q7
        | some L =>
          have q7 : MemOk FM2 β1 w' L _ _ := q7
          obtain ⟨c, ee, frr, c1, c2, c3, c4, c5⟩ := q7.cells
          refine ⟨q7.sz, q7.sh, q7.fit, ⟨c, ee, frr, c1, c2, c3, c4, fun r hr1 hr2 => ?_⟩, q7.free⟩
          obtain ⟨k3, k4⟩ := c5 r hr1 hr2
          refine ⟨k3, fun j hj => ?_⟩
          obtain ⟨cv, k5, k6⟩ := k4 j hj
          exact ⟨cv, k5, k6.clo (bcP_row (BC_get e7 i r2) q5' r hr2 j hj) _⟩
      · obtain ⟨lo1, q3, q4⟩ := hh.mem b1 k1 g1 n1 row1 q1 q2
        refine ⟨lo1, q3, ?_⟩
        cases lo1 with
        | none => exact q4
        | some L =>
          have q4 : MemOk FM β w L n1 row1 := q4
          have hni := other hne q1 q2 q3
          obtain ⟨c, ee, frr, c1, c2, c3, c4, c5⟩ := q4.cells
          refine ⟨q4.sz, q4.sh, q4.fit, ⟨c, ee, frr, by rw [h3'.frame _ q4.lt hni]; exact c1, c2, c3, c4, fun r hr1 hr2 => ?_⟩, fun o => ?_⟩
          · obtain ⟨k3, k4⟩ := c5 r hr1 hr2
            refine ⟨k3, fun j hj => ?_⟩
            obtain ⟨cv, k5, k6⟩ := k4 j hj
            exact ⟨cv, k5, k6.mono (fun cb o v hx => h3'.fm _ _ _ hx) (fun _ _ _ h => h)⟩
          · cases hx : FM2 L.cb o with
            | none => rfl
            | some x =>
              rcases h3'.fmn _ _ _ hx with hx | hx | hx
              · rw [q4.free o] at hx; cases hx
              · have := q4.lt; omega
              · exact absurd hx hni
    · intro b1 b2 k1 k2 g1 g2 n1 n2 row1 row2 L1 L2 q1 q2 q3 q4 q5 q6 q7
      have norm : ∀ {b : Nat} {k : ABlk} {g n : Nat} {row : Nat → List AV}, H3[b]? = some k → k.view = some (g, n, row) → ∃ k' n' row', H[b]? = some k' ∧ k'.view = some (g, n', row') := by
        intro b k g n row p1 p2
        rcases s3 _ _ p1 with ⟨i, r1, r2, rfl, rfl⟩ | ⟨hne, p1⟩
        · obtain ⟨n', row', lo, _, p5, _⟩ := blkv i (by omega)
          obtain ⟨rfl, _⟩ := setg_view p2
          exact ⟨_, _, _, hget i r1 (by omega), p5 _⟩
        · exact ⟨_, _, _, p1, p2⟩
      obtain ⟨a1, a2, a3, a4, a5⟩ := norm q1 q2
      obtain ⟨b1', b2', b3', b4', b5'⟩ := norm q4 q5
      exact hh.inj _ _ _ _ _ _ _ _ _ _ L1 L2 a4 a5 q3 b4' b5' q6 q7
    · intro b1 k1 g1 n1 row1 L q1 q2 q3
      rcases s3 _ _ q1 with ⟨i, r1, r2, rfl, rfl⟩ | ⟨hne, q1⟩
      · obtain ⟨n, row, lo, _, q5, q6, _, q8⟩ := back i r1
        rw [q5] at q2
        cases q2
        rw [q6] at q3
        cases q3
        rw [setg_width]
        exact q8 L rfl
      · exact hh.wid b1 k1 g1 n1 row1 L q1 q2 q3
    · intro b1 g1 lo1 q
      obtain ⟨d1, d2⟩ := hh.dom b1 g1 lo1 q
      refine ⟨by omega, fun k1 g2 n1 row1 q1 q2 => ?_⟩
      rcases s3 _ _ q1 with ⟨i, r1, r2, rfl, rfl⟩ | ⟨hne, q1⟩
      · obtain ⟨n', row', lo, _, p5, _⟩ := blkv i (by omega)
        obtain ⟨rfl, _⟩ := setg_view q2
        exact d2 _ _ _ _ (hget i r1 (by omega)) (p5 _)
      · exact d2 _ _ _ _ q1 q2
  · refine ⟨h3'.fm, fun _ _ _ h => h, h3'.size, fun cb hl hi => ?_, fun cb hl hi => h3'.frame cb hl fun h => hi (imgH cb h), fun cb o x hx => ?_, by omega, h3'.os, h3'.output, h3'.tape⟩
    · obtain ⟨b1, k1, g1, n1, row1, L, q1, q2, q3, q4⟩ := hi
      rcases s3 _ _ q1 with ⟨i, r1, r2, rfl, rfl⟩ | ⟨hne, q1⟩
      · obtain ⟨n', row', lo, _, p5, _⟩ := blkv i (by omega)
        obtain ⟨_, _, _, ⟨_, q9⟩, q8, _⟩ := back i r1
        rw [ABlk.vw_of (q8 _)] at q2
        cases q2
        exact ⟨_, _, _, _, _, L, hget i r1 (by omega), ABlk.vw_of (p5 _), q3, q4⟩
      · exact ⟨b1, k1, g1, n1, row1, L, q1, q2, q3, q4⟩
    · rcases h3'.fmn _ _ _ hx with hx | hx | hx
      · exact .inl hx
      · exact .inr (.inl hx)
      · exact .inr (.inr (imgH _ hx))

end Pf
/- Regions whose operations come in an order that nobody knows. -/
namespace Pf
open Go
variable {P : Program} {TT : TypeId → Option TI} {f N n0 : Nat} {k : List Item} {T : Env} {H : AHeap} {R : AV → AHeap → Prop}

/-- What must come ahead of an operation, whatever the mode. -/
def predsE : List Edge → List Nat
  | [] => []
  | e :: es => match Region.binds .any e with | true => e.on :: predsE es | false => predsE es
def preds (ops : List Oper) (i : Nat) : List Nat := match nthM ops i with | some o => predsE o.after.toList | none => []
theorem mem_predsE {es : List Edge} {p : Nat} : p ∈ predsE es ↔ ∃ e ∈ es, Region.binds .any e = true ∧ e.on = p := by
  induction es with
  | nil => simp [predsE]
  | cons e es ih =>
    simp only [predsE]
    split
    · rename_i h
      simp only [List.mem_cons, ih]
      constructor
      · rintro (rfl | ⟨e', h1, h2⟩)
        · exact ⟨e, .inl rfl, h, rfl⟩
        · exact ⟨e', .inr h1, h2⟩
      · rintro ⟨e', rfl | h1, h2, h3⟩
        · exact .inl h3.symm
        · exact .inr ⟨e', h1, h2, h3⟩
    · rename_i h
      simp only [List.mem_cons, ih]
      constructor
      · rintro ⟨e', h1, h2⟩; exact ⟨e', .inr h1, h2⟩
      · rintro ⟨e', rfl | h1, h2, h3⟩
        · rw [h] at h2; cases h2
        · exact ⟨e', h1, h2, h3⟩
theorem binds_any {m : Region.Mode} {e : Edge} (h : Region.binds .any e = true) : Region.binds m e = true := by
  unfold Region.binds at h ⊢
  cases hg : e.ground <;> simp only [hg] at h ⊢
  all_goals exact absurd h (by decide)

/-- Orders in which each comes behind what must come ahead of it, to the end. -/
inductive OrdL (ops : Array Oper) : (Nat → Bool) → List Nat → Prop
  | nil {done} (h : ∀ i, i < ops.size → done i = true) : OrdL ops done []
  | cons {done i l} (hi : i < ops.size) (hd : done i = false) (hp : ∀ p ∈ preds ops.toList i, done p = true) (t : OrdL ops (fun j => if j = i then true else done j) l) : OrdL ops done (i :: l)

/-- Each edge that always binds points back. -/
def backE (i : Nat) : List Edge → Bool
  | [] => true
  | e :: es => match Region.binds .any e with
    | false => backE i es
    | true => match Nat.blt e.on i with | true => backE i es | false => false
def backA : Nat → List Oper → Bool
  | _, [] => true
  | i, o :: os => match backE i o.after.toList with | true => backA (i + 1) os | false => false
theorem backE_iff {i : Nat} : ∀ {es : List Edge}, backE i es = true → ∀ e ∈ es, Region.binds .any e = true → e.on < i
  | e :: es, h, e', he, hbd => by
    simp only [backE] at h
    split at h
    · rename_i hn
      rcases List.mem_cons.1 he with rfl | he
      · rw [hn] at hbd; cases hbd
      · exact backE_iff h e' he hbd
    · split at h
      · rename_i hb
        rcases List.mem_cons.1 he with rfl | he
        · simpa [Nat.blt_eq] using hb
        · exact backE_iff h e' he hbd
      · cases h
theorem backA_iff : ∀ {os : List Oper} {i : Nat}, backA i os = true → ∀ j (h : j < os.length), ∀ e ∈ os[j].after.toList, Region.binds .any e = true → e.on < i + j
  | o :: os, i, h, j, hj, e, he, hbd => by
    simp only [backA] at h
    split at h
    · rename_i hb
      cases j with
      | zero => exact backE_iff hb e he hbd
      | succ j =>
        have := backA_iff h j (by simpa using hj) e he hbd
        omega
    · cases h

/-- No circle among the edges of a mode: first those that look back alone, then the others, one by one. -/
def outM : List Nat → Nat → Bool
  | [], _ => true
  | x :: xs, b => match Nat.beq x b with | true => false | false => outM xs b
theorem outM_iff {b : Nat} : ∀ {xs : List Nat}, outM xs b = true → b ∉ xs
  | [], _ => by simp
  | x :: xs, h => by
    simp only [outM] at h
    cases hb : Nat.beq x b with
    | true => simp [hb] at h
    | false =>
      simp only [hb] at h
      have : b ≠ x := by rintro rfl; simp at hb
      simp [this, outM_iff h]
def okE (m : Region.Mode) (i : Nat) (D : List Nat) : List Edge → Bool
  | [] => true
  | e :: es => match Region.binds m e with
    | false => okE m i D es
    | true => match Nat.blt e.on i with
      | true => (match outM D e.on with | true => okE m i D es | false => false)
      | false => false
theorem okE_iff {m : Region.Mode} {i : Nat} {D : List Nat} : ∀ {es : List Edge}, okE m i D es = true → ∀ e ∈ es, Region.binds m e = true → e.on < i ∧ e.on ∉ D
  | e :: es, h, e', he, hbd => by
    simp only [okE] at h
    split at h
    · rename_i hn
      rcases List.mem_cons.1 he with rfl | he
      · rw [hn] at hbd; cases hbd
      · exact okE_iff h e' he hbd
    · split at h
      · rename_i hb
        split at h
        · rename_i ho
          rcases List.mem_cons.1 he with rfl | he
          · exact ⟨by simpa [Nat.blt_eq] using hb, outM_iff ho⟩
          · exact okE_iff h e' he hbd
        · cases h
      · cases h
def passM (m : Region.Mode) : Nat → List Oper → List Nat → List Nat
  | _, [], D => D
  | i, o :: os, D => match okE m i D o.after.toList with | true => passM m (i + 1) os D | false => passM m (i + 1) os (i :: D)
theorem passM_iff {m : Region.Mode} : ∀ {os : List Oper} {i : Nat} {D : List Nat}, (∀ d ∈ D, d < i) → (∀ d, d ∈ D → d ∈ passM m i os D) ∧
    (∀ d ∈ passM m i os D, d ∈ D ∨ (i ≤ d ∧ d < i + os.length)) ∧ ∀ j (h : j < os.length), i + j ∉ passM m i os D → ∀ e ∈ os[j].after.toList, Region.binds m e = true → e.on < i + j ∧ e.on ∉ passM m i os D
  | [], i, D, hD => ⟨fun d h => h, fun d h => .inl h, fun j h => by simp at h⟩
  | o :: os, i, D, hD => by
    simp only [passM]
    split
    · rename_i hok
      obtain ⟨h1, h2, h3⟩ := passM_iff (m := m) (os := os) (i := i + 1) (D := D) fun d h => by have := hD d h; omega
      refine ⟨h1, fun d h => (h2 d h).imp id fun ⟨a, b⟩ => ⟨by omega, by simp; omega⟩, fun j hj hn e he hbd => ?_⟩
      cases j with
      | zero =>
        obtain ⟨q1, q2⟩ := okE_iff hok e he hbd
        refine ⟨q1, fun hm => ?_⟩
        rcases h2 _ hm with hm | ⟨hm, _⟩
        · exact q2 hm
        · omega
      | succ j =>
        have := h3 j (by simpa using hj) (by rw [show i + 1 + j = i + (j + 1) by omega]; exact hn) e he hbd
        exact ⟨by omega, this.2⟩
    · obtain ⟨h1, h2, h3⟩ := passM_iff (m := m) (os := os) (i := i + 1) (D := i :: D) fun d h => by
        rcases List.mem_cons.1 h with rfl | h
        · omega
        · have := hD d h; omega
      refine ⟨fun d h => h1 d (by simp [h]), fun d h => ?_, fun j hj hn e he hbd => ?_⟩
      · rcases h2 d h with h | ⟨a, b⟩
        · rcases List.mem_cons.1 h with rfl | h
          · exact .inr ⟨Nat.le_refl _, by simp⟩
          · exact .inl h
        · exact .inr ⟨by omega, by simp; omega⟩
      · cases j with
        | zero => exact absurd (h1 i (by simp)) hn
        | succ j =>
          have := h3 j (by simpa using hj) (by rw [show i + 1 + j = i + (j + 1) by omega]; exact hn) e he hbd
          exact ⟨by omega, this.2⟩
/-- One of these that waits for none of them. -/
def freeM (m : Region.Mode) (ops : List Oper) (n : Nat) (R : List Nat) : List Nat → Option Nat
  | [] => none
  | j :: js => match nthM ops j with
    | some o => match okE m n R o.after.toList with | true => some j | false => freeM m ops n R js
    | none => freeM m ops n R js
def dropX (j : Nat) : List Nat → List Nat
  | [] => []
  | x :: xs => match Nat.beq x j with | true => dropX j xs | false => x :: dropX j xs
def settle (m : Region.Mode) (ops : List Oper) (n : Nat) : Nat → List Nat → Bool
  | _, [] => true
  | 0, _ :: _ => false
  | f + 1, x :: R => match freeM m ops n (x :: R) (x :: R) with | some j => settle m ops n f (dropX j (x :: R)) | none => false
theorem dropX_iff {j d : Nat} : ∀ {xs : List Nat}, d ∈ xs → d ≠ j → d ∈ dropX j xs
  | x :: xs, h, hn => by
    simp only [dropX]
    cases hb : Nat.beq x j with
    | true =>
      have := Nat.eq_of_beq_eq_true hb
      subst this
      rcases List.mem_cons.1 h with rfl | h
      · exact absurd rfl hn
      · exact dropX_iff h hn
    | false =>
      rcases List.mem_cons.1 h with rfl | h
      · simp
      · exact List.mem_cons_of_mem _ (dropX_iff h hn)
theorem freeM_iff {m : Region.Mode} {ops : List Oper} {n : Nat} {R : List Nat} : ∀ {js : List Nat} {j : Nat}, freeM m ops n R js = some j → ∃ h : j < ops.length, ∀ e ∈ ops[j].after.toList, Region.binds m e = true → e.on < n ∧ e.on ∉ R
  | x :: js, j, h => by
    simp only [freeM] at h
    split at h
    · rename_i o ho
      split at h
      · rename_i hk
        cases h
        have hx : ∀ (l : List Oper) (i : Nat), nthM l i = l[i]? := by
          intro l
          induction l with
          | nil => intro i; simp [nthM]
          | cons a l ih => intro i; cases i with | zero => simp [nthM] | succ i => simp [nthM, ih i]
        rw [hx] at ho
        obtain ⟨h1, h2⟩ := List.getElem?_eq_some_iff.1 ho
        exact ⟨h1, by rw [h2]; exact okE_iff hk⟩
      · exact freeM_iff h
    · exact freeM_iff h
theorem settle_iff {m : Region.Mode} {ops : List Oper} {n : Nat} : ∀ {f : Nat} {R : List Nat}, settle m ops n f R = true → ∀ (U : Nat → Prop), (∃ i, U i) → (∀ i, U i → i ∈ R) →
    ∃ i, ∃ h : i < ops.length, U i ∧ ∀ e ∈ ops[i].after.toList, Region.binds m e = true → e.on < n ∧ ¬ U e.on
  | _, [], _, U, ⟨i, hi⟩, hU => by have := hU i hi; simp at this
  | f + 1, x :: R, h, U, hex, hU => by
    simp only [settle] at h
    split at h
    · rename_i j hj
      obtain ⟨h1, h2⟩ := freeM_iff hj
      by_cases hUj : U j
      · exact ⟨j, h1, hUj, fun e he hb => ⟨(h2 e he hb).1, fun hu => (h2 e he hb).2 (hU _ hu)⟩⟩
      · exact settle_iff h U hex fun i hi => dropX_iff (hU i hi) fun e => hUj (e ▸ hi)
    · cases h
def acyM (m : Region.Mode) (ops : List Oper) : Bool := match passM m 0 ops [] with | [] => true | x :: xs => settle m ops (lenM ops) (lenM (x :: xs)) (x :: xs)
theorem acyM_iff {m : Region.Mode} {ops : List Oper} (h : acyM m ops = true) (U : Nat → Prop) [DecidablePred U] (hex : ∃ i, i < ops.length ∧ U i) (hlt : ∀ i, U i → i < ops.length) :
    ∃ i, ∃ h : i < ops.length, U i ∧ ∀ e ∈ ops[i].after.toList, Region.binds m e = true → e.on < ops.length ∧ ¬ U e.on := by
  have hlen : lenM ops = ops.length := by
    clear h hex hlt
    induction ops with
    | nil => rfl
    | cons a l ih => simp [lenM, ih]
  obtain ⟨_, p2, p3⟩ := passM_iff (m := m) (os := ops) (i := 0) (D := []) (by simp)
  by_cases hx : ∃ i, i < ops.length ∧ U i ∧ i ∉ passM m 0 ops []
  · -- the least one that looks back
    have key : ∀ (n i : Nat), i < n → i < ops.length → U i → i ∉ passM m 0 ops [] → ∃ i, ∃ h : i < ops.length, U i ∧ ∀ e ∈ ops[i].after.toList, Region.binds m e = true → e.on < ops.length ∧ ¬ U e.on := by
      intro n
      induction n with
      | zero => intro i hi; omega
      | succ n ih =>
        intro i hin hi hu hn
        by_cases hy : ∃ e ∈ ops[i].after.toList, Region.binds m e = true ∧ U e.on
        · obtain ⟨e, he, hb, hue⟩ := hy
          obtain ⟨q1, q2⟩ := p3 i hi (by simpa using hn) e he hb
          exact ih e.on (by omega) (by omega) hue q2
        · refine ⟨i, hi, hu, fun e he hb => ?_⟩
          obtain ⟨q1, q2⟩ := p3 i hi (by simpa using hn) e he hb
          exact ⟨by omega, fun h => hy ⟨e, he, hb, h⟩⟩
    obtain ⟨i, h1, h2, h3⟩ := hx
    exact key (i + 1) i (by omega) h1 h2 h3
  · have hall : ∀ i, U i → i ∈ passM m 0 ops [] := fun i hu => by
      by_cases hm : i ∈ passM m 0 ops []
      · exact hm
      · exact absurd ⟨i, hlt i hu, hu, hm⟩ hx
    unfold acyM at h
    split at h
    · rename_i he
      obtain ⟨i, _, hu⟩ := hex
      have := hall i hu
      rw [he] at this; simp at this
    · rename_i x xs he
      rw [hlen] at h
      obtain ⟨i, hi, _⟩ := hex
      exact settle_iff h U ⟨i, by assumption⟩ fun i hi => by rw [← he]; exact hall i hi

/-- Every edge that always binds points back, and there is no circle in either mode. -/
def backAll (_ : Nat) (ops : List Oper) : Bool := match backA 0 ops with | true => (match acyM .text ops with | true => acyM .gc ops | false => false) | false => false
theorem backAll_get {ops : List Oper} (h : backAll 0 ops = true) : backA 0 ops = true ∧ acyM .text ops = true ∧ acyM .gc ops = true := by
  unfold backAll at h
  split at h
  · split at h
    · exact ⟨‹_›, ‹_›, h⟩
    · cases h
  · cases h
/-- Where something is to come, something can come. -/
def Prog (m : Region.Mode) (ops : List Oper) : Prop := ∀ (U : Nat → Prop) [DecidablePred U], (∃ i, i < ops.length ∧ U i) → (∀ i, U i → i < ops.length) → ∃ i, ∃ h : i < ops.length, U i ∧ ∀ e ∈ ops[i].after.toList, Region.binds m e = true → e.on < ops.length ∧ ¬ U e.on
theorem backA_prog {ops : List Oper} (h : backA 0 ops = true) : Prog .any ops := by
  intro U _ hex hlt
  have key : ∀ (n i : Nat), i < n → ∀ hi : i < ops.length, U i → ∃ i, ∃ h : i < ops.length, U i ∧ ∀ e ∈ ops[i].after.toList, Region.binds .any e = true → e.on < ops.length ∧ ¬ U e.on := by
    intro n
    induction n with
    | zero => intro i hi; omega
    | succ n ih =>
      intro i hin hi hu
      by_cases hy : ∃ e ∈ ops[i].after.toList, Region.binds .any e = true ∧ U e.on
      · obtain ⟨e, he, hb, hue⟩ := hy
        have := backA_iff h i hi e he hb
        exact ih e.on (by omega) (by omega) hue
      · refine ⟨i, hi, hu, fun e he hb => ?_⟩
        have := backA_iff h i hi e he hb
        exact ⟨by omega, fun h => hy ⟨e, he, hb, h⟩⟩
  obtain ⟨i, h1, h2⟩ := hex
  exact key (i + 1) i (by omega) h1 h2

theorem go_ord {ops : Array Oper} (m : Region.Mode) (hb : Prog m ops.toList) : ∀ (fuel t : Nat) (listed : Array Bool) (acc : List Nat), listed.size = ops.size →
    ((List.range ops.size).filter fun i => !listed.getD i true).length ≤ fuel →
    ∃ l, Region.linearise.go m ops fuel t listed acc = acc.reverse ++ l ∧ OrdL ops (fun i => listed.getD i true) l
  | 0, t, listed, acc, hs, hl => by
    refine ⟨[], by simp [Region.linearise.go], .nil fun i hi => ?_⟩
    have h0 : ((List.range ops.size).filter fun i => !listed.getD i true) = [] := List.eq_nil_of_length_eq_zero (by omega)
    rw [List.filter_eq_nil_iff] at h0
    have := h0 i (by simpa using hi)
    simpa using this
  | fuel + 1, t, listed, acc, hs, hl => by
    unfold Region.linearise.go
    dsimp only
    generalize hrs : ((List.range ops.size).filter fun i => !listed.getD i true && ((ops[i]?).map (·.after.all fun e => !Region.binds m e || listed.getD e.on false)).getD false) = rs
    cases hi : rs[t % rs.length]? with
    | some i =>
      simp only
      have him : i ∈ rs := List.mem_of_getElem? hi
      rw [← hrs, List.mem_filter] at him
      obtain ⟨h1, h2⟩ := him
      have hin : i < ops.size := by simpa using h1
      simp only [Bool.and_eq_true, Bool.not_eq_true', Array.getElem?_eq_getElem hin, Option.map_some, Option.getD_some, Array.all_eq_true'] at h2
      obtain ⟨h3, h4⟩ := h2
      have hget : ∀ j, (listed.setIfInBounds i true).getD j true = if j = i then true else listed.getD j true := by
        intro j
        simp only [Array.getD_eq_getD_getElem?, Array.getElem?_setIfInBounds]
        by_cases hji : i = j
        · subst hji; simp [hs, hin]
        · simp [hji, Ne.symm hji]
      have hlt : ((List.range ops.size).filter fun j => !(listed.setIfInBounds i true).getD j true).length < ((List.range ops.size).filter fun j => !listed.getD j true).length := by
        have e : ((List.range ops.size).filter fun j => !(listed.setIfInBounds i true).getD j true) = ((List.range ops.size).filter fun j => !listed.getD j true).filter fun j => !decide (j = i) := by
          rw [List.filter_filter]
          congr 1
          funext j
          rw [hget]
          by_cases hji : j = i <;> simp [hji]
        rw [e, List.length_filter_lt_length_iff_exists]
        exact ⟨i, List.mem_filter.2 ⟨h1, by simp [h3]⟩, by simp⟩
      obtain ⟨l, h5, h6⟩ := go_ord m hb fuel (t / rs.length) (listed.setIfInBounds i true) (i :: acc) (by simpa using hs) (by omega)
      refine ⟨i :: l, by rw [h5]; simp, .cons hin h3 ?_ ?_⟩
      · intro p hp
        unfold preds at hp
        rw [nthM_eq] at hp
        have e1 : ops.toList[i]? = some ops[i] := by simp [hin]
        rw [e1] at hp
        obtain ⟨e, he1, he2, he3⟩ := mem_predsE.1 hp
        have := h4 e (by simpa using he1)
        rw [binds_any he2] at this
        simp only [Bool.not_true, Bool.false_or] at this
        rw [he3] at this
        rw [Array.getD_eq_getD_getElem?] at this ⊢
        cases hq : listed[p]? with
        | none => rw [hq] at this; cases this
        | some b => rw [hq] at this; exact this
      · have e : (fun j => (listed.setIfInBounds i true).getD j true) = fun j => if j = i then true else listed.getD j true := funext hget
        rw [e] at h6
        exact h6
    | none =>
      simp only
      refine ⟨[], by simp, .nil fun i => ?_⟩
      have hnil : rs = [] := by
        rcases Nat.eq_zero_or_pos rs.length with h | h
        · exact List.eq_nil_of_length_eq_zero h
        · rw [List.getElem?_eq_getElem (Nat.mod_lt _ h)] at hi; cases hi
      rw [hnil] at hrs
      rw [List.filter_eq_nil_iff] at hrs
      intro hin
      cases hd : listed.getD i true with
      | true => rfl
      | false =>
        exfalso
        have small : ∀ j, listed.getD j true = false → j < ops.toList.length := fun j hj => by
          rw [Array.getD_eq_getD_getElem?] at hj
          rcases Nat.lt_or_ge j listed.size with h | h
          · simpa [hs] using h
          · rw [Array.getElem?_eq_none h] at hj; cases hj
        obtain ⟨k, hk, hku, hke⟩ := hb (fun j => listed.getD j true = false) ⟨i, by simpa using hin, hd⟩ small
        have hk' : k < ops.size := by simpa using hk
        have h1 := hrs k (by simpa using hk')
        simp only [Array.getElem?_eq_getElem hk', Option.map_some, Option.getD_some, Bool.and_eq_true, Bool.not_eq_true', Array.all_eq_true', not_and] at h1
        refine h1 hku fun e he => ?_
        cases hbd : Region.binds m e with
        | false => rfl
        | true =>
          obtain ⟨q1, q2⟩ := hke e (by simpa using he) hbd
          have q2 : listed.getD e.on true = true := by simpa using q2
          have hlt : e.on < listed.size := by rw [hs]; simpa using q1
          rw [Array.getD_eq_getD_getElem?, Array.getElem?_eq_getElem hlt] at q2
          have : listed.getD e.on false = true := by
            rw [Array.getD_eq_getD_getElem?, Array.getElem?_eq_getElem hlt]; exact q2
          simp [this]

theorem schedule_ord {ops : Array Oper} (hb : backAll 0 ops.toList = true) (mixed : Bool) (t : Nat) : OrdL ops (fun i => !decide (i < ops.size)) (Region.schedule mixed ops t) := by
  obtain ⟨b1, b2, b3⟩ := backAll_get hb
  have key : ∀ m t, Prog m ops.toList → OrdL ops (fun i => !decide (i < ops.size)) (Region.linearise m ops t) := by
    intro m t hb
    unfold Region.linearise
    obtain ⟨l, h1, h2⟩ := go_ord m hb ops.size t (Array.replicate ops.size false) [] (by simp) (Nat.le_trans (List.length_filter_le _ _) (by simp))
    rw [h1]
    have e : (fun i => (Array.replicate ops.size false).getD i true) = fun i => !decide (i < ops.size) := by
      funext i
      by_cases hi : i < ops.size <;> simp [Array.getD_eq_getD_getElem?, Array.getElem?_replicate, hi]
    rw [e] at h2
    simpa using h2
  unfold Region.schedule
  split
  · exact key _ _ (backA_prog b1)
  · split
    · exact key _ _ fun U _ h1 h2 => acyM_iff b2 U h1 h2
    · exact key _ _ fun U _ h1 h2 => acyM_iff b3 U h1 h2

/-! ### A region whose first operations touch no block -/
/-- What the slots hold when these operations are done. -/
def TS (S : Nat → Bool) : Nat → List (Option Nat × AV) → Env → Env
  | _, [], T => T
  | i, (some d, v) :: vs, T => match S i with | true => (d, v) :: TS S (i + 1) vs T | false => TS S (i + 1) vs T
  | i, (none, _) :: vs, T => TS S (i + 1) vs T
def hasD (d : Nat) : List (Option Nat × AV) → Bool
  | [] => false
  | (some e, _) :: vs => match Nat.beq e d with | true => true | false => hasD d vs
  | (none, _) :: vs => hasD d vs
def distD : List (Option Nat × AV) → Bool
  | [] => true
  | (some d, _) :: vs => match hasD d vs with | true => false | false => distD vs
  | (none, _) :: vs => distD vs
/-- What was there ahead, without the slots that the region fills. -/
def dropD (vs : List (Option Nat × AV)) : Env → Env
  | [] => []
  | (d, v) :: T => match hasD d vs with | true => (d, .top) :: dropD vs T | false => (d, v) :: dropD vs T

theorem hasD_iff {d : Nat} : ∀ {vs : List (Option Nat × AV)}, hasD d vs = true ↔ ∃ j, ∃ h : j < vs.length, vs[j].1 = some d
  | [] => by simp [hasD]
  | (some e, v) :: vs => by
    simp only [hasD]
    cases hb : Nat.beq e d with
    | true =>
      simp only [true_iff]
      exact ⟨0, by simp, by simp [Nat.eq_of_beq_eq_true hb]⟩
    | false =>
      simp only [hasD_iff (vs := vs)]
      constructor
      · rintro ⟨j, h, e⟩; exact ⟨j + 1, by simpa using h, e⟩
      · rintro ⟨j, h, e'⟩
        cases j with
        | zero => simp only [List.getElem_cons_zero, Option.some.injEq] at e'; subst e'; simp at hb
        | succ j => exact ⟨j, by simpa using h, e'⟩
  | (none, v) :: vs => by
    simp only [hasD, hasD_iff (vs := vs)]
    constructor
    · rintro ⟨j, h, e⟩; exact ⟨j + 1, by simpa using h, e⟩
    · rintro ⟨j, h, e'⟩
      cases j with
      | zero => cases e'
      | succ j => exact ⟨j, by simpa using h, e'⟩

theorem getM_TS {S : Nat → Bool} {d : Nat} : ∀ {vs : List (Option Nat × AV)} {i : Nat} {T : Env}, distD vs = true →
    (∀ j (h : j < vs.length), vs[j].1 = some d → S (i + j) = true → getM (TS S i vs T) d = some vs[j].2) ∧ ((∀ j (h : j < vs.length), vs[j].1 = some d → S (i + j) = false) → getM (TS S i vs T) d = getM T d)
  | [], i, T, _ => ⟨fun j h => by simp at h, fun _ => rfl⟩
  | (none, v) :: vs, i, T, hd => by
    simp only [distD] at hd
    obtain ⟨h1, h2⟩ := getM_TS (S := S) (d := d) (vs := vs) (i := i + 1) (T := T) hd
    refine ⟨fun j h e hs => ?_, fun h => ?_⟩
    · cases j with
      | zero => cases e
      | succ j => exact h1 j (by simpa using h) e (by rw [show i + 1 + j = i + (j + 1) by omega]; exact hs)
    · exact h2 fun j hj e => by rw [show i + 1 + j = i + (j + 1) by omega]; exact h (j + 1) (by simpa using hj) e
  | (some x, v) :: vs, i, T, hd => by
    simp only [distD] at hd
    split at hd
    · cases hd
    · rename_i hx
      obtain ⟨h1, h2⟩ := getM_TS (S := S) (d := d) (vs := vs) (i := i + 1) (T := T) hd
      have hno : x = d → ∀ j (h : j < vs.length), vs[j].1 ≠ some d := by
        rintro rfl j h e
        have := hasD_iff.2 ⟨j, h, e⟩
        rw [this] at hx; cases hx
      simp only [TS]
      refine ⟨fun j h e hs => ?_, fun h => ?_⟩
      · cases j with
        | zero =>
          simp only [List.getElem_cons_zero, Option.some.injEq] at e
          subst e
          simp only [Nat.add_zero] at hs
          simp [hs, getM]
        | succ j =>
          have e' : vs[j]'(by simpa using h) = ((some x, v) :: vs)[j + 1] := rfl
          have hxd : x ≠ d := fun hxd => hno hxd j (by simpa using h) e
          have := h1 j (by simpa using h) e (by rw [show i + 1 + j = i + (j + 1) by omega]; exact hs)
          split
          · simp only [getM]
            have : Nat.beq x d = false := by
              cases hb : Nat.beq x d with
              | false => rfl
              | true => exact absurd (Nat.eq_of_beq_eq_true hb) hxd
            simp only [this]
            assumption
          · exact this
      · have := h2 fun j hj e => by rw [show i + 1 + j = i + (j + 1) by omega]; exact h (j + 1) (by simpa using hj) e
        split
        · rename_i hs
          simp only [getM]
          cases hb : Nat.beq x d with
          | false => exact this
          | true =>
            have := h 0 (by simp) (by simp [Nat.eq_of_beq_eq_true hb])
            simp only [Nat.add_zero] at this
            rw [this] at hs; cases hs
        · exact this
theorem getM_dropD {vs : List (Option Nat × AV)} {d : Nat} {v : AV} : ∀ {T : Env}, getM (dropD vs T) d = some v → v = .top ∨ (hasD d vs = false ∧ getM T d = some v)
  | [], h => by simp only [dropD, getM, Option.some.injEq] at h; exact .inl h.symm
  | (x, u) :: T, h => by
    simp only [dropD] at h
    split at h
    · rename_i hx
      simp only [getM] at h
      split at h
      · rename_i hb; exact .inl (by simpa using h.symm)
      · rename_i hb
        rcases getM_dropD h with h | ⟨h1, h2⟩
        · exact .inl h
        · exact .inr ⟨h1, by simp only [getM, hb]; exact h2⟩
    · rename_i hx
      simp only [getM] at h
      split at h
      · rename_i hb
        have := Nat.eq_of_beq_eq_true hb
        subst this
        exact .inr ⟨hx, by simp only [getM, hb]; exact h⟩
      · rename_i hb
        rcases getM_dropD h with h | ⟨h1, h2⟩
        · exact .inl h
        · exact .inr ⟨h1, by simp only [getM, hb]; exact h2⟩

theorem AGo.weak {T2 : Env} (hw : ∀ d v, getM T2 d = some v → v = .top ∨ getM T d = some v) (h : AGo P f N n0 k T2 H R) : AGo P f N n0 k T H R := by
  intro FM β b cs a w e1 e2 e3 e4 hT hH hn0
  refine h FM β b cs a w e1 e2 e3 e4 (fun d v hv => ?_) hH hn0
  rcases hw d v hv with rfl | hv
  · exact .top
  · exact hT d v hv

/-- One operation, whose value is known, done from wherever what it needs is known: the slots 'Ti'. -/
def FreeStep (P : Program) (N : Nat) (ops : Array Oper) (o : Oper) (Ti : Env) (H : AHeap) (v : AV) : Prop :=
  ∀ FM β (b : Frame) (k : List Item) (i : Nat) (is : List Nat) cs a w, ops[i]? = some o → a.tmps.size = N → RelT FM β Ti a → RelH FM β H w →
    ∃ cv w' FM' β', VR FM' β' v cv ∧ RelH FM' β' H w' ∧ Ext FM β H w FM' β' H w' ∧ Steps P (lone (b.at a (.inRegion ops (i :: is) :: k)) cs w) (lone (b.at (a.put o.dst cv) (.inRegion ops is :: k)) cs w')

/-- Needed ahead of 'i', by one step or more. -/
def needs (ops : List Oper) (i : Nat) : Nat → List Nat → List Nat
  | 0, acc => acc
  | j + 1, acc => match memM (preds ops i) j with
    | true => needs ops i j (j :: acc)
    | false => match anyP acc j with
      | true => needs ops i j (j :: acc)
      | false => needs ops i j acc
where
  anyP : List Nat → Nat → Bool
    | [], _ => false
    | p :: ps, j => match memM (preds ops p) j with | true => true | false => anyP ps j
theorem memM_iff {b : Nat} : ∀ {xs : List Nat}, memM xs b = true ↔ b ∈ xs
  | [] => by simp [memM]
  | x :: xs => by
    simp only [memM]
    cases hb : Nat.beq x b with
    | true => simp [Nat.eq_of_beq_eq_true hb]
    | false =>
      have : b ≠ x := by rintro rfl; simp at hb
      simp [memM_iff (xs := xs), this]
theorem anyP_iff {ops : List Oper} {j : Nat} : ∀ {ps : List Nat}, needs.anyP ops ps j = true → ∃ p ∈ ps, j ∈ preds ops p
  | p :: ps, h => by
    simp only [needs.anyP] at h
    split at h
    · rename_i hm; exact ⟨p, by simp, memM_iff.1 hm⟩
    · obtain ⟨q, h1, h2⟩ := anyP_iff h; exact ⟨q, by simp [h1], h2⟩
theorem needs_done {ops : List Oper} {i : Nat} {done : Nat → Bool} (hp : ∀ p ∈ preds ops i, done p = true) (hdown : ∀ j, done j = true → ∀ p ∈ preds ops j, done p = true) :
    ∀ (n : Nat) (acc : List Nat), (∀ p ∈ acc, done p = true) → ∀ p ∈ needs ops i n acc, done p = true
  | 0, acc, h, p, hm => h p hm
  | j + 1, acc, h, p, hm => by
    simp only [needs] at hm
    split at hm
    · rename_i hj
      exact needs_done hp hdown j (j :: acc) (fun q hq => by
        rcases List.mem_cons.1 hq with rfl | hq
        · exact hp _ (memM_iff.1 hj)
        · exact h q hq) p hm
    · split at hm
      · rename_i hj
        obtain ⟨q, h1, h2⟩ := anyP_iff hj
        exact needs_done hp hdown j (j :: acc) (fun r hr => by
          rcases List.mem_cons.1 hr with rfl | hr
          · exact hdown q (h q h1) _ h2
          · exact h r hr) p hm
      · exact needs_done hp hdown j acc h p hm
/-- All that is ahead of 'i' must come ahead of it. -/
def lastE (ops : List Oper) (i : Nat) : Bool := Nat.beq (lenM (needs ops i i [])) i
def lastAll (ops : List Oper) : Nat → Nat → Bool
  | 0, _ => true
  | n + 1, i => match lastE ops i with | true => lastAll ops n (i + 1) | false => false

theorem needs_lt {ops : List Oper} {i : Nat} : ∀ (n : Nat) (acc : List Nat), acc.Pairwise (· < ·) → (∀ p ∈ acc, n ≤ p) → (needs ops i n acc).Pairwise (· < ·) ∧ ∀ p ∈ needs ops i n acc, p ∈ acc ∨ p < n
  | 0, acc, h1, h2 => ⟨h1, fun p hp => .inl hp⟩
  | j + 1, acc, h1, h2 => by
    have up : (j :: acc).Pairwise (· < ·) ∧ ∀ p ∈ j :: acc, j ≤ p := ⟨List.pairwise_cons.2 ⟨fun p hp => h2 p hp, h1⟩, fun p hp => by
      rcases List.mem_cons.1 hp with rfl | hp
      · exact Nat.le_refl _
      · have := h2 p hp; omega⟩
    have get : ∀ {q : Nat}, q ∈ j :: acc ∨ q < j → q ∈ acc ∨ q < j + 1 := by
      rintro q (hq | hq)
      · rcases List.mem_cons.1 hq with rfl | hq
        · exact .inr (by omega)
        · exact .inl hq
      · exact .inr (by omega)
    simp only [needs]
    split
    · obtain ⟨a, b⟩ := needs_lt (ops := ops) (i := i) j (j :: acc) up.1 up.2
      exact ⟨a, fun p hp => get (b p hp)⟩
    · split
      · obtain ⟨a, b⟩ := needs_lt (ops := ops) (i := i) j (j :: acc) up.1 up.2
        exact ⟨a, fun p hp => get (b p hp)⟩
      · obtain ⟨a, b⟩ := needs_lt (ops := ops) (i := i) j acc h1 fun p hp => by have := h2 p hp; omega
        exact ⟨a, fun p hp => (b p hp).imp id fun h => by omega⟩

theorem lastE_all {ops : List Oper} {i : Nat} (h : lastE ops i = true) : ∀ j, j < i → j ∈ needs ops i i [] := by
  unfold lastE at h
  rw [lenM_eq] at h
  have hl : (needs ops i i []).length = i := Nat.eq_of_beq_eq_true h
  obtain ⟨h1, h2⟩ := needs_lt (ops := ops) (i := i) i [] (by simp) (by simp)
  generalize needs ops i i [] = l at hl h1 h2
  have key : ∀ (l : List Nat) (n : Nat), l.Pairwise (· < ·) → (∀ p ∈ l, n ≤ p ∧ p < i) → l.length = i - n → ∀ j, n ≤ j → j < i → j ∈ l := by
    intro l
    induction l with
    | nil => intro n _ _ hlen j h1 h2; simp at hlen; omega
    | cons x l ih =>
      intro n hp hb hlen j h1 h2
      have hx := hb x (by simp)
      have hpc := List.pairwise_cons.1 hp
      by_cases hxn : x = n
      · subst hxn
        by_cases hj : j = x
        · subst hj; simp
        · refine List.mem_cons_of_mem _ (ih (x + 1) hpc.2 (fun p hp => ⟨hpc.1 p hp, (hb p (by simp [hp])).2⟩) (by simp at hlen; omega) j (by omega) h2)
      · -- too few are left
        exfalso
        have : ∀ (l : List Nat) (n : Nat), l.Pairwise (· < ·) → (∀ p ∈ l, n ≤ p ∧ p < i) → l.length ≤ i - n := by
          intro l
          induction l with
          | nil => intro n _ _; simp
          | cons y l ih2 =>
            intro n hp hb
            have hy := hb y (by simp)
            have hpc := List.pairwise_cons.1 hp
            have := ih2 (y + 1) hpc.2 fun p hp => ⟨hpc.1 p hp, (hb p (by simp [hp])).2⟩
            simp; omega
        have := this (x :: l) (n + 1) hp fun p hp' => by
          refine ⟨?_, (hb p hp').2⟩
          rcases List.mem_cons.1 hp' with rfl | hp'
          · omega
          · have := hpc.1 p hp'; omega
        omega
  exact fun j hj => key l 0 h1 (fun p hp => ⟨Nat.zero_le _, (h2 p hp).elim (fun h => by simp at h) id⟩) (by omega) j (Nat.zero_le _) hj

end Pf
/- Regions whose operations come in an order that nobody knows: what they come to. -/
namespace Pf
open Go
variable {P : Program} {TT : TypeId → Option TI} {f N n0 : Nat} {k : List Item} {T : Env} {H : AHeap} {R : AV → AHeap → Prop}

theorem lastAll_iff {ops : List Oper} : ∀ (n i : Nat), lastAll ops n i = true → ∀ j, i ≤ j → j < i + n → lastE ops j = true
  | 0, i, _, j, h1, h2 => by omega
  | n + 1, i, h, j, h1, h2 => by
    simp only [lastAll] at h
    split at h
    · rename_i hl
      by_cases hj : j = i
      · subst hj; exact hl
      · exact lastAll_iff n (i + 1) h j (by omega) (by omega)
    · cases h

theorem tail_list {ops : Array Oper} {m : Nat} (hl : lastAll ops.toList (ops.size - m) m = true) : ∀ {l : List Nat} {done : Nat → Bool} {i : Nat}, OrdL ops done l → (∀ j, done j = true → ∀ p ∈ preds ops.toList j, done p = true) →
    (∀ j, j < ops.size → (done j = true ↔ j < i)) → m ≤ i → i ≤ ops.size → l = List.range' i (ops.size - i)
  | [], done, i, .nil h, hdown, hd, h1, h2 => by
    have : i = ops.size := by
      rcases Nat.lt_or_ge i ops.size with hi | hi
      · have := (hd i hi).1 (h i hi); omega
      · omega
    subst this
    simp
  | i' :: l, done, i, .cons hi hd' hp t, hdown, hd, h1, h2 => by
    have hge : i ≤ i' := by
      rcases Nat.lt_or_ge i' i with h | h
      · have := (hd i' hi).2 h; rw [hd'] at this; cases this
      · exact h
    have hii : i' = i := by
      rcases Nat.lt_or_ge i i' with h | h
      · have hla := lastE_all (lastAll_iff _ _ hl i' (by omega) (by omega)) i h
        have := needs_done hp hdown i' [] (fun p hp => by simp at hp) i hla
        have := (hd i (by omega)).1 this
        omega
      · omega
    subst hii
    have ih := tail_list hl (i := i' + 1) t (fun j hj p hpj => by
      by_cases hji : j = i'
      · subst hji
        have := hp p hpj
        simp [this]
      · simp only [if_neg hji] at hj
        have := hdown j hj p hpj
        simp [this]) (fun j hj => by
      by_cases hji : j = i'
      · subst hji; simp
      · simp only [if_neg hji, hd j hj]; omega) (by omega) (by omega)
    rw [ih]
    have : ops.size - i' = ops.size - (i' + 1) + 1 := by omega
    rw [this, List.range'_succ]

theorem TS_get {S : Nat → Bool} {d : Nat} {vs : List (Option Nat × AV)} {T : Env} (hd : distD vs = true) :
    (∃ j, ∃ h : j < vs.length, vs[j].1 = some d ∧ S j = true ∧ getM (TS S 0 vs T) d = some vs[j].2) ∨ ((∀ j (h : j < vs.length), vs[j].1 = some d → S j = false) ∧ getM (TS S 0 vs T) d = getM T d) := by
  obtain ⟨h1, h2⟩ := getM_TS (S := S) (d := d) (vs := vs) (i := 0) (T := T) hd
  by_cases h : ∃ j, ∃ h : j < vs.length, vs[j].1 = some d ∧ S j = true
  · obtain ⟨j, h, e1, e2⟩ := h
    exact .inl ⟨j, h, e1, e2, h1 j h e1 (by simpa using e2)⟩
  · have hn : ∀ j (h : j < vs.length), vs[j].1 = some d → S j = false := by
      intro j hj e
      cases hs : S j with
      | false => rfl
      | true => exact absurd ⟨j, hj, e, hs⟩ h
    exact .inr ⟨hn, h2 fun j hj e => by simpa using hn j hj e⟩
theorem dist_inj : ∀ {vs : List (Option Nat × AV)}, distD vs = true → ∀ i j (hi : i < vs.length) (hj : j < vs.length) d, vs[i].1 = some d → vs[j].1 = some d → i = j
  | (some x, v) :: vs, h, i, j, hi, hj, d, e1, e2 => by
    simp only [distD] at h
    split at h
    · cases h
    · rename_i hx
      have hno : ∀ j (h : j < vs.length), vs[j].1 ≠ some x := by
        intro j h e
        have := hasD_iff.2 ⟨j, h, e⟩
        rw [this] at hx; cases hx
      cases i with
      | zero =>
        cases j with
        | zero => rfl
        | succ j =>
          simp only [List.getElem_cons_zero, Option.some.injEq] at e1
          subst e1
          exact absurd e2 (hno j (by simpa using hj))
      | succ i =>
        cases j with
        | zero =>
          simp only [List.getElem_cons_zero, Option.some.injEq] at e2
          subst e2
          exact absurd e1 (hno i (by simpa using hi))
        | succ j => rw [dist_inj h i j (by simpa using hi) (by simpa using hj) d e1 e2]
  | (none, v) :: vs, h, i, j, hi, hj, d, e1, e2 => by
    simp only [distD] at h
    cases i with
    | zero => cases e1
    | succ i =>
      cases j with
      | zero => cases e2
      | succ j => rw [dist_inj h i j (by simpa using hi) (by simpa using hj) d e1 e2]

/-- Steps, each in its place: the slots that an operation may look at are those that must come ahead of it, and those that the region does not fill. -/
def Frees (P : Program) (N : Nat) (ops : Array Oper) (vs : List (Option Nat × AV)) (T : Env) (H : AHeap) : Prop :=
  ∀ i (h : i < vs.length), ∃ o, ops[i]? = some o ∧ o.dst = vs[i].1 ∧ FreeStep P N ops o (TS (memM (preds ops.toList i)) 0 vs (dropD vs T)) H vs[i].2

theorem AGo.draw {ops : Array Oper} {id : Nat} (vs : List (Option Nat × AV)) (hb : backAll 0 ops.toList = true) (hl : lastAll ops.toList (ops.size - vs.length) vs.length = true) (hle : vs.length ≤ ops.size)
    (hd : distD vs = true) (hN : ∀ i (h : i < vs.length) d, vs[i].1 = some d → d < N) (hs : Frees P N ops vs T H)
    (h : AGo P f N n0 (.inRegion ops (List.range' vs.length (ops.size - vs.length)) :: k) (TS (fun _ => true) 0 vs T) H R) : AGo P f N n0 (.code (.region id ops true) :: k) T H R := by
  have weakTo : ∀ {S S' : Nat → Bool} {T' : Env}, (∀ i, i < vs.length → S i = true → S' i = true) → (∀ i, i < vs.length → S' i = true → S i = true) → ∀ d v, getM (TS S 0 vs T) d = some v → getM (TS S' 0 vs T) d = some v := by
    intro S S' T' h1 h2 d v hv
    rcases TS_get (S := S) (d := d) (T := T) hd with ⟨j, hj, e1, e2, e3⟩ | ⟨h3, e3⟩
    · rcases TS_get (S := S') (d := d) (T := T) hd with ⟨j', hj', e1', e2', e3'⟩ | ⟨h3', e3'⟩
      · have := dist_inj hd j j' hj hj' d e1 e1'
        subst this
        rw [e3', ← e3]; exact hv
      · have := h3' j hj e1
        rw [h1 j hj e2] at this; cases this
    · rcases TS_get (S := S') (d := d) (T := T) hd with ⟨j', hj', e1', e2', e3'⟩ | ⟨h3', e3'⟩
      · have := h3 j' hj' e1'
        rw [h2 j' hj' e2'] at this; cases this
      · rw [e3', ← e3]; exact hv
  have key : ∀ (l : List Nat) (done : Nat → Bool), OrdL ops done l → (∀ j, done j = true → ∀ p ∈ preds ops.toList j, done p = true) → (∀ j, vs.length ≤ j → j < ops.size → done j = false) →
      AGo P f N n0 (.inRegion ops l :: k) (TS done 0 vs T) H R := by
    intro l
    induction l with
    | nil =>
      intro done ho hdown hno
      cases ho with
      | nil hall =>
        have hmn : vs.length = ops.size := by
          rcases Nat.lt_or_ge vs.length ops.size with hh | hh
          · have := hno _ (Nat.le_refl _) hh; rw [hall _ hh] at this; cases this
          · omega
        rw [hmn, Nat.sub_self] at h
        exact h.weak fun d v hv => .inr (weakTo (T' := T) (fun i _ _ => hall i (by omega)) (fun _ _ _ => rfl) d v hv)
    | cons i l ih =>
      intro done ho hdown hno
      cases ho with
      | cons hi hdi hp t =>
        rcases Nat.lt_or_ge i vs.length with him | him
        · -- a free one
          obtain ⟨o, ho1, ho2, hstep⟩ := hs i him
          have ih' := ih (fun j => if j = i then true else done j) t (fun j hj p hpj => by
            by_cases hji : j = i
            · subst hji
              have := hp p hpj
              simp [this]
            · simp only [if_neg hji] at hj
              have := hdown j hj p hpj
              simp [this]) (fun j h1 h2 => by
            have : j ≠ i := by omega
            simp only [if_neg this]
            exact hno j h1 h2)
          intro FM β b cs a w e1 e2 e3 e4 hrt hh hn0
          have hTi : RelT FM β (TS (memM (preds ops.toList i)) 0 vs (dropD vs T)) a := by
            intro d v hv
            rcases TS_get (S := memM (preds ops.toList i)) (d := d) (T := dropD vs T) hd with ⟨j, hj, q1, q2, q3⟩ | ⟨q1, q2⟩
            · rw [q3] at hv
              cases hv
              have hdj := hp j (memM_iff.1 q2)
              rcases TS_get (S := done) (d := d) (T := T) hd with ⟨j', hj', r1, r2, r3⟩ | ⟨r1, r2⟩
              · have := dist_inj hd j j' hj hj' d q1 r1
                subst this
                exact hrt d _ r3
              · have := r1 j hj q1; rw [hdj] at this; cases this
            · rw [q2] at hv
              rcases getM_dropD hv with rfl | ⟨r1, r2⟩
              · exact .top
              · rcases TS_get (S := done) (d := d) (T := T) hd with ⟨j', hj', s1, s2, s3⟩ | ⟨s1, s2⟩
                · have := hasD_iff.2 ⟨j', hj', s1⟩
                  rw [r1] at this; cases this
                · exact hrt d v (by rw [s2]; exact r2)
          obtain ⟨cv, w', FM', β', g1, g2, g3, g4⟩ := hstep FM β b k i l cs a w ho1 e4 hTi hh
          refine Ext.go g3 hn0 (ih' FM' β' b cs (a.put o.dst cv) w' e1 e2 (by rw [put_defers, e3]) (by rw [put_size, e4]) ?_ g2) (b := b) g4
          rw [ho2]
          have hrt' := hrt.mono g3.fm g3.bm
          intro e u hu
          cases hdst : vs[i].1 with
          | none =>
            simp only [Act.put]
            refine hrt' e u ?_
            rcases TS_get (S := fun j => if j = i then true else done j) (d := e) (T := T) hd with ⟨j, hj, q1, q2, q3⟩ | ⟨q1, q2⟩
            · have hji : j ≠ i := by rintro rfl; rw [hdst] at q1; cases q1
              simp only [if_neg hji] at q2
              rcases TS_get (S := done) (d := e) (T := T) hd with ⟨j', hj', r1, r2, r3⟩ | ⟨r1, r2⟩
              · have := dist_inj hd j j' hj hj' e q1 r1
                subst this
                rw [r3, ← q3]; exact hu
              · have := r1 j hj q1; rw [q2] at this; cases this
            · rcases TS_get (S := done) (d := e) (T := T) hd with ⟨j', hj', r1, r2, r3⟩ | ⟨r1, r2⟩
              · have := q1 j' hj' r1
                split at this
                · cases this
                · rw [r2] at this; cases this
              · rw [r2, ← q2]; exact hu
          | some d =>
            have hdN := hN i him d hdst
            by_cases hed : e = d
            · subst hed
              rcases TS_get (S := fun j => if j = i then true else done j) (d := e) (T := T) hd with ⟨j, hj, q1, q2, q3⟩ | ⟨q1, q2⟩
              · have := dist_inj hd j i hj him e q1 hdst
                subst this
                rw [q3] at hu
                cases hu
                simp only [Act.put, Array.getD_eq_getD_getElem?, Array.getElem?_setIfInBounds]
                rw [if_pos (show e < a.tmps.size by omega)]
                simpa using g1
              · have := q1 i him hdst
                simp at this
            · have e5 : (a.put (some d) cv).tmps.getD e undef = a.tmps.getD e undef := by
                simp only [Act.put, Array.getD_eq_getD_getElem?, Array.getElem?_setIfInBounds]
                rw [if_neg (Ne.symm hed)]
              rw [e5]
              refine hrt' e u ?_
              rcases TS_get (S := fun j => if j = i then true else done j) (d := e) (T := T) hd with ⟨j, hj, q1, q2, q3⟩ | ⟨q1, q2⟩
              · have hji : j ≠ i := by rintro rfl; rw [hdst] at q1; exact hed (Option.some.inj q1).symm
                simp only [if_neg hji] at q2
                rcases TS_get (S := done) (d := e) (T := T) hd with ⟨j', hj', r1, r2, r3⟩ | ⟨r1, r2⟩
                · have := dist_inj hd j j' hj hj' e q1 r1
                  subst this
                  rw [r3, ← q3]; exact hu
                · have := r1 j hj q1; rw [q2] at this; cases this
              · rcases TS_get (S := done) (d := e) (T := T) hd with ⟨j', hj', r1, r2, r3⟩ | ⟨r1, r2⟩
                · have := q1 j' hj' r1
                  split at this
                  · cases this
                  · rw [r2] at this; cases this
                · rw [r2, ← q2]; exact hu
        · -- the tail begins
          have hla := lastE_all (lastAll_iff _ _ hl i him (by omega))
          have hall : ∀ j, j < i → done j = true := fun j hj => needs_done hp hdown i [] (fun p hp => by simp at hp) j (hla j hj)
          have hiv : i = vs.length := by
            rcases Nat.lt_or_ge vs.length i with hh | hh
            · have := hall _ hh
              rw [hno _ (Nat.le_refl _) (by omega)] at this; cases this
            · omega
          have hlist : i :: l = List.range' i (ops.size - i) := tail_list hl (done := done) (.cons hi hdi hp t) hdown (fun j hj => by
            constructor
            · intro hj'
              rcases Nat.lt_or_ge j i with hh | hh
              · exact hh
              · rw [hno j (by omega) hj] at hj'; cases hj'
            · exact hall j) him (by omega)
          rw [hlist, hiv]
          exact h.weak fun d v hv => .inr (weakTo (T' := T) (fun j hj _ => hall j (by omega)) (fun _ _ _ => rfl) d v hv)
  intro FM β b cs a w e1 e2 e3 e4 hrt hh hn0
  have ho := schedule_ord hb (P.follows .mixedOrders) (w.tape w.drawn (.order b.fn id))
  have hk := key _ _ ho (fun j hj p hpj => by
    have hj' : ¬ j < ops.size := by simpa using hj
    unfold preds at hpj
    rw [nthM_eq] at hpj
    have : ops.toList[j]? = none := by simp; omega
    rw [this] at hpj
    simp at hpj) (fun j _ h2 => by simp [h2])
  have hrt0 : RelT FM β (TS (fun i => !decide (i < ops.size)) 0 vs T) a := by
    intro d v hv
    rcases TS_get (S := fun i => !decide (i < ops.size)) (d := d) (T := T) hd with ⟨j, hj, q1, q2, q3⟩ | ⟨q1, q2⟩
    · have : j < ops.size := by omega
      simp [this] at q2
    · exact hrt d v (by rw [← q2]; exact hv)
  have hw : RelH FM β H { w with drawn := w.drawn + 1 } := ⟨fun b blk g n row h1 h2 => by
      obtain ⟨lo, q1, q2⟩ := hh.mem b blk g n row h1 h2
      refine ⟨lo, q1, ?_⟩
      cases lo with
      | none => exact q2
      | some L =>
        have q2 : MemOk FM β w L n row := q2
        exact ⟨q2.sz, q2.sh, q2.fit, q2.cells, q2.free⟩, hh.inj, hh.wid, fun cb o v hx => hh.fm cb o v hx, hh.dom, hh.gk.at hh.gk.tabw, hh.mp.keep (fun _ _ _ h => h) (fun _ _ _ _ h => h) fun _ _ _ h => h⟩
  have hx : Ext FM β H w FM β H { w with drawn := w.drawn + 1 } :=
    ⟨fun _ _ _ h => h, fun _ _ _ h => h, Nat.le_refl _, fun _ _ h => h, fun _ _ _ => rfl, fun _ _ _ h => .inl h, Nat.le_refl _, rfl, rfl, rfl⟩
  exact Ext.go hx hn0 (hk FM β b cs a _ e1 e2 e3 e4 hrt0 hw) (b := b) (.one step_region_draw)

/-! ### One operation out of its turn -/
theorem FreeStep.skip {ops : Array Oper} {o : Oper} {Ti : Env} (hg : guardM ops.toList Ti o.guard = some (some none)) : FreeStep P N ops o Ti H (.tup []) := by
  intro FM β b k i is cs a w ho e4 hrt hh
  have hs := step_op_skip (P := P) (b := b) (a := a) (k := k) (cs := cs) (w := w) (ops := ops) (i := i) (rest := is) (by simp [ho, guardM_no hg hrt])
  simp only [ho, Option.bind_some] at hs
  exact ⟨undef, w, FM, β, .tup rfl fun i hi => by simp at hi, hh, .refl, .one hs⟩
theorem FreeStep.run {ops : Array Oper} {o : Oper} {Ti : Env} {v u : AV} (hg : guardM ops.toList Ti o.guard = some none)
    (h : ∀ FM β a w, RelT FM β Ti a → RelH FM β H w → Yields ((execOp a.eval o).run P w) FM β H w v H) (hs : Sub v u) : FreeStep P N ops o Ti H u := by
  intro FM β b k i is cs a w ho e4 hrt hh
  obtain ⟨cv, w1, FM1, β1, h1, h2, h3, h4⟩ := h FM β a w hrt hh
  have hg' := stepG_op (P := P) (b := b) (k := k) (cs := cs) (w := w) (rest := is) ho (guardM_yes hg hrt)
  have hfin : ∀ v, (b.at a (.inRegion ops (i :: is) :: k)).finish v = b.at (a.put o.dst v) (.inRegion ops is :: k) := by
    intro v; rw [Frame.finish_at, ho]; rfl
  refine ⟨cv, w1, FM1, β1, hs _ _ _ h2, h3, h4, .one (step_lone_go ?_)⟩
  rcases h1 with h1 | ⟨h1, rfl⟩
  · rw [hg', ← hfin]; simp [stepG.apply, h1]
  · rw [hg', ← hfin]; simp [stepG.apply, h1]
theorem FreeStep.ok {ops : Array Oper} {o : Oper} {Ti : Env} {v u : AV} (hT : TTok P TT) (m : Nat) (hg : guardM ops.toList Ti o.guard = some none) (h : stepOp TT m o.op Ti H = .ok v H) (hs : Sub v u) : FreeStep P N ops o Ti H u :=
  .run hg (fun FM β a w hr hh => by have := stepOp_good (o := o) hT m hr hh; rw [h] at this; exact this) hs
theorem FreeStep.okc {ops : Array Oper} {o : Oper} {Ti : Env} {v u : AV} {C : Prop} (hT : TTok P TT) (m : Nat) (hg : guardM ops.toList Ti o.guard = some none) (h : stepOp TT m o.op Ti H = .okc C v H) (hc : C) (hs : Sub v u) : FreeStep P N ops o Ti H u :=
  .run hg (fun FM β a w hr hh => by have := stepOp_good (o := o) hT m hr hh; rw [h] at this; exact this hc) hs
theorem FreeStep.call {ops : Array Oper} {o : Oper} {Ti : Env} {u : AV} {g : FuncId} {args : List AV} (hg : guardM ops.toList Ti o.guard = some none) (hk : opKind o.op Ti = .call g args)
    (hq : AFun P g args H fun v H1 => H1 = H ∧ v = u) : FreeStep P N ops o Ti H u := by
  intro FM β b k i is cs a w ho e4 hrt hh
  obtain ⟨cargs, h1, h2⟩ := opKind_call hk hq.1 (w := w) hh.gk hrt
  have hg' := stepG_op (P := P) (b := b) (k := k) (cs := cs) (w := w) (rest := is) ho (guardM_yes hg hrt)
  have hfin : ∀ v, (b.at a (.inRegion ops (i :: is) :: k)).finish v = b.at (a.put o.dst v) (.inRegion ops is :: k) := by
    intro v; rw [Frame.finish_at, ho]; rfl
  obtain ⟨cv, w1, fr, av, FM1, β1, H1, ⟨rfl, rfl⟩, h5, h6, h7, h8, h9, h10⟩ := hq.2 FM β (b.at a (.inRegion ops (i :: is) :: k) :: cs) w cargs h2 hh
  have henter : Go.step P (lone (b.at a (.inRegion ops (i :: is) :: k)) cs w) = .next (lone (Frame.enter P g cargs .normal) (b.at a (.inRegion ops (i :: is) :: k) :: cs) w) :=
    step_lone_go (by rw [hg']; simp [stepG.apply, h1, Frame.at])
  refine ⟨cv, w1, FM1, β1, h5, h6, h7, .head henter (h8.trans (.one ?_))⟩
  rw [← hfin]; exact step_leave_returned h10

end Pf
/- Regions whose operations come in an order that nobody knows: reckoned in the text's order. -/
namespace Pf
open Go
variable {P : Program} {TT : TypeId → Option TI} {f N n0 : Nat} {k : List Item} {T : Env} {H : AHeap} {R : AV → AHeap → Prop}

/-- A value that is said to be true or false, from a list of such. -/
def saidM (d : Option Nat) (v : AV) : List (Nat × Bool) → Option Prop × AV
  | [] => (none, v)
  | (e, b) :: hs => match d with
    | none => (none, v)
    | some x => match Nat.beq e x with
      | true => match v with
        | .pr p => match b with | true => (some p, .bool true) | false => (some (¬p), .bool false)
        | v => (none, v)
      | false => saidM d v hs
structure CallM where
  f : FuncId
  args : List AV
  u : AV
variable (TT : TypeId → Option TI) in
/-- What the first operations come to, each from what must come ahead of it: conditions, calls, values. 'us': what calls hand back. -/
def drawM (m : Nat) (ops : List Oper) (T0 : Env) (H : AHeap) (hs : List (Nat × Bool)) : Nat → Nat → List (Option Nat × AV) → List AV → Option (List Prop × List CallM × List (Option Nat × AV))
  | 0, _, vs, _ => some ([], [], vs)
  | n + 1, i, vs, us => match nthM ops i with
    | none => none
    | some o =>
      match guardM ops (TS (memM (preds ops i)) 0 vs T0) o.guard with
      | some (some none) => match appM vs [(o.dst, .tup [])] with | some vs' => drawM m ops T0 H hs n (i + 1) vs' us | none => none
      | some none => match opKind o.op (TS (memM (preds ops i)) 0 vs T0) with
        | .call g args => match us with
          | [] => none
          | u :: us => match saidM o.dst u hs with
            | (C, u') => match appM vs [(o.dst, u')] with
              | some vs' => match drawM m ops T0 H hs n (i + 1) vs' us with
                | some (ps, cs, vs2) => some (C.getD True :: ps, ⟨g, args, u⟩ :: cs, vs2)
                | none => none
              | none => none
        | .plain => match stepOp TT m o.op (TS (memM (preds ops i)) 0 vs T0) H with
          | .ok v H' => match saidM o.dst v hs with
            | (C, u') => match appM vs [(o.dst, u')] with
              | some vs' => match drawM m ops T0 H hs n (i + 1) vs' us with
                | some (ps, cs, vs2) => some ((H' = H) :: C.getD True :: ps, cs, vs2)
                | none => none
              | none => none
          | .okc D v H' => match saidM o.dst v hs with
            | (C, u') => match appM vs [(o.dst, u')] with
              | some vs' => match drawM m ops T0 H hs n (i + 1) vs' us with
                | some (ps, cs, vs2) => some (D :: (H' = H) :: C.getD True :: ps, cs, vs2)
                | none => none
              | none => none
          | .bad => none
        | _ => none
      | _ => none
/-- The calls, one by one. -/
def AllCalls (P : Program) (H : AHeap) : List CallM → Prop
  | [] => True
  | c :: cs => AFun P c.f c.args H (fun v H1 => H1 = H ∧ v = c.u) ∧ AllCalls P H cs
def AllP : List Prop → Prop
  | [] => True
  | p :: ps => p ∧ AllP ps

theorem saidM_ok {d : Option Nat} {v u : AV} {C : Option Prop} : ∀ {hs : List (Nat × Bool)}, saidM d v hs = (C, u) → C.getD True → Sub v u
  | [], h, hc => by simp only [saidM, Prod.mk.injEq] at h; obtain ⟨_, rfl⟩ := h; exact .refl
  | (e, b) :: hs, h, hc => by
    simp only [saidM] at h
    split at h
    · simp only [Prod.mk.injEq] at h; obtain ⟨_, rfl⟩ := h; exact .refl
    · split at h
      · split at h
        · split at h
          · simp only [Prod.mk.injEq] at h
            obtain ⟨rfl, rfl⟩ := h
            intro FM β cv hv
            cases hv with
            | pr hp => rw [hp.2 hc]; exact .bool
          · simp only [Prod.mk.injEq] at h
            obtain ⟨rfl, rfl⟩ := h
            intro FM β cv hv
            cases hv with
            | pr hp =>
              rename_i t
              cases t with
              | false => exact .bool
              | true => exact absurd (hp.1 rfl) hc
        · simp only [Prod.mk.injEq] at h; obtain ⟨_, rfl⟩ := h; exact .refl
      · exact saidM_ok h hc

theorem TS_none {S : Nat → Bool} : ∀ {vs : List (Option Nat × AV)} {i : Nat} {T : Env}, (∀ j, i ≤ j → S j = false) → TS S i vs T = T
  | [], i, T, _ => rfl
  | (some d, v) :: vs, i, T, h => by simp only [TS, h i (Nat.le_refl _)]; exact TS_none fun j hj => h j (by omega)
  | (none, v) :: vs, i, T, h => by simp only [TS]; exact TS_none fun j hj => h j (by omega)
theorem TS_app {S : Nat → Bool} : ∀ {vs ws : List (Option Nat × AV)} {i : Nat} {T : Env}, (∀ j, i + vs.length ≤ j → S j = false) → TS S i (vs ++ ws) T = TS S i vs T
  | [], ws, i, T, h => by simp only [List.nil_append, TS]; exact TS_none fun j hj => h j (by simpa using hj)
  | (some d, v) :: vs, ws, i, T, h => by
    simp only [List.cons_append, TS]
    rw [TS_app fun j hj => h j (by simp; omega)]
  | (none, v) :: vs, ws, i, T, h => by
    simp only [List.cons_append, TS]
    rw [TS_app fun j hj => h j (by simp; omega)]

theorem preds_lt {ops : List Oper} (hb : backAll 0 ops = true) {i p : Nat} (h : p ∈ preds ops i) : p < i := by
  unfold preds at h
  rw [nthM_eq] at h
  split at h
  · rename_i o ho
    obtain ⟨hl, rfl⟩ := List.getElem?_eq_some_iff.1 ho
    obtain ⟨e, h1, h2, rfl⟩ := mem_predsE.1 h
    have := backA_iff (backAll_get hb).1 i hl e h1 h2
    omega
  · simp at h

theorem drawM_ok (hT : TTok P TT) {m : Nat} {ops : Array Oper} {T0 : Env} {hs : List (Nat × Bool)} (hb : backAll 0 ops.toList = true) : ∀ (n i : Nat) (vs : List (Option Nat × AV)) (us : List AV) {ps : List Prop} {cs : List CallM} {vs2 : List (Option Nat × AV)},
    drawM TT m ops.toList T0 H hs n i vs us = some (ps, cs, vs2) → vs.length = i → AllP ps → AllCalls P H cs → (∃ ws, vs2 = vs ++ ws) ∧ vs2.length = i + n ∧
      ∀ j (h : j < vs2.length), i ≤ j → ∃ o, ops[j]? = some o ∧ o.dst = vs2[j].1 ∧ FreeStep P N ops o (TS (memM (preds ops.toList j)) 0 vs2 T0) H vs2[j].2
  | 0, i, vs, us, ps, cs, vs2, h, hl, hp, hc => by
    simp only [drawM, Option.some.injEq, Prod.mk.injEq] at h
    obtain ⟨_, _, rfl⟩ := h
    exact ⟨⟨[], by simp⟩, by omega, fun j h1 h2 => by omega⟩
  | n + 1, i, vs, us, ps, cs, vs2, h, hl, hp, hc => by
    simp only [drawM] at h
    have fin : ∀ {o : Oper} {u : AV} {vs' : List (Option Nat × AV)} {us' : List AV} {ps' : List Prop} {cs' : List CallM}, nthM ops.toList i = some o → appM vs [(o.dst, u)] = some vs' →
        drawM TT m ops.toList T0 H hs n (i + 1) vs' us' = some (ps', cs', vs2) → AllP ps' → AllCalls P H cs' → FreeStep P N ops o (TS (memM (preds ops.toList i)) 0 vs T0) H u →
        (∃ ws, vs2 = vs ++ ws) ∧ vs2.length = i + (n + 1) ∧ ∀ j (h : j < vs2.length), i ≤ j → ∃ o, ops[j]? = some o ∧ o.dst = vs2[j].1 ∧ FreeStep P N ops o (TS (memM (preds ops.toList j)) 0 vs2 T0) H vs2[j].2 := by
      intro o u vs' us' ps' cs' ho ha hd hp' hc' hf
      rw [appM_eq] at ha
      cases ha
      obtain ⟨⟨ws, rfl⟩, h2, h3⟩ := drawM_ok hT hb n (i + 1) _ us' hd (by simp [hl]) hp' hc'
      refine ⟨⟨(o.dst, u) :: ws, by simp⟩, by omega, fun j hj hij => ?_⟩
      by_cases hji : j = i
      · subst hji
        rw [nthM_eq] at ho
        have e1 : (vs ++ [(o.dst, u)] ++ ws)[j] = (o.dst, u) := by
          simp only [List.append_assoc, List.singleton_append]
          rw [List.getElem_append_right (by omega)]
          simp [hl]
        refine ⟨o, by simpa using ho, by rw [e1], ?_⟩
        rw [e1]
        have e2 : TS (memM (preds ops.toList j)) 0 (vs ++ [(o.dst, u)] ++ ws) T0 = TS (memM (preds ops.toList j)) 0 vs T0 := by
          rw [List.append_assoc]
          refine TS_app fun q hq => ?_
          cases hm : memM (preds ops.toList j) q with
          | false => rfl
          | true => have := preds_lt hb (memM_iff.1 hm); omega
        rw [e2]
        exact hf
      · exact h3 j hj (by omega)
    split at h
    · cases h
    · rename_i o ho
      split at h
      · rename_i hg
        split at h
        · rename_i vs' ha
          exact fin ho ha h hp hc (.skip hg)
        · cases h
      · rename_i hg
        split at h
        · rename_i g args hk
          split at h
          · cases h
          · rename_i u us'
            split at h
            · rename_i vs' ha
              split at h
              · rename_i ps' cs' vs3 hd
                simp only [Option.some.injEq, Prod.mk.injEq] at h
                obtain ⟨rfl, rfl, rfl⟩ := h
                refine fin ho ha hd hp.2 hc.2 (.call hg hk ⟨hc.1.1, fun FM β cs w cargs hv hh => ?_⟩)
                obtain ⟨v, w', fr, av, FM', β', H', ⟨r1, r2⟩, r3, r4⟩ := hc.1.2 FM β cs w cargs hv hh
                exact ⟨v, w', fr, _, FM', β', H', ⟨r1, rfl⟩, (saidM_ok (u := (saidM o.dst u hs).2) rfl hp.1) _ _ _ (by rw [r2] at r3; exact r3), r4⟩
              · cases h
            · cases h
        · rename_i hk
          split at h
          · rename_i v H' hst
            split at h
            · rename_i vs' ha
              split at h
              · rename_i ps' cs' vs3 hd
                simp only [Option.some.injEq, Prod.mk.injEq] at h
                obtain ⟨rfl, rfl, rfl⟩ := h
                obtain ⟨rfl, hp1, hp2⟩ := hp
                exact fin ho ha hd hp2 hc (.ok hT m hg hst (saidM_ok (u := (saidM o.dst v hs).2) rfl hp1))
              · cases h
            · cases h
          · rename_i D v H' hst
            split at h
            · rename_i vs' ha
              split at h
              · rename_i ps' cs' vs3 hd
                simp only [Option.some.injEq, Prod.mk.injEq] at h
                obtain ⟨rfl, rfl, rfl⟩ := h
                obtain ⟨hD, rfl, hp1, hp2⟩ := hp
                exact fin ho ha hd hp2 hc (.okc hT m hg hst hD (saidM_ok (u := (saidM o.dst v hs).2) rfl hp1))
              · cases h
            · cases h
          · cases h
        · cases h
      · cases h

/-- The slots that the first operations fill. -/
def dstsM : Nat → List Oper → List (Option Nat × AV)
  | 0, _ => []
  | _, [] => []
  | n + 1, o :: os => (o.dst, .top) :: dstsM n os
def allLt (N : Nat) : List (Option Nat × AV) → Bool
  | [] => true
  | (none, _) :: vs => allLt N vs
  | (some d, _) :: vs => match Nat.blt d N with | true => allLt N vs | false => false
theorem hasD_fst {d : Nat} : ∀ {vs ws : List (Option Nat × AV)}, vs.map (·.1) = ws.map (·.1) → hasD d vs = hasD d ws
  | [], [], _ => rfl
  | [], _ :: _, h => by cases h
  | _ :: _, [], h => by cases h
  | (a, v) :: vs, (b, w) :: ws, h => by
    simp only [List.map_cons, List.cons.injEq] at h
    obtain ⟨rfl, h⟩ := h
    cases a with
    | none => simp only [hasD]; exact hasD_fst h
    | some x => simp only [hasD, hasD_fst (d := d) h]
theorem dropD_fst {vs ws : List (Option Nat × AV)} (h : vs.map (·.1) = ws.map (·.1)) : ∀ T : Env, dropD vs T = dropD ws T
  | [] => rfl
  | (d, v) :: T => by simp only [dropD, hasD_fst (d := d) h, dropD_fst h T]
theorem distD_fst : ∀ {vs ws : List (Option Nat × AV)}, vs.map (·.1) = ws.map (·.1) → distD vs = distD ws
  | [], [], _ => rfl
  | [], _ :: _, h => by cases h
  | _ :: _, [], h => by cases h
  | (a, v) :: vs, (b, w) :: ws, h => by
    simp only [List.map_cons, List.cons.injEq] at h
    obtain ⟨rfl, h⟩ := h
    cases a with
    | none => simp only [distD]; exact distD_fst h
    | some x => simp only [distD, hasD_fst (d := x) h, distD_fst h]
theorem allLt_iff : ∀ {vs : List (Option Nat × AV)}, allLt N vs = true → ∀ i (h : i < vs.length) d, vs[i].1 = some d → d < N
  | (none, v) :: vs, h, i, hi, d, e => by
    cases i with
    | zero => cases e
    | succ i => exact allLt_iff (vs := vs) h i (by simpa using hi) d e
  | (some x, v) :: vs, h, i, hi, d, e => by
    simp only [allLt] at h
    split at h
    · rename_i hx
      cases i with
      | zero => cases e; simpa [Nat.blt_eq] using hx
      | succ i => exact allLt_iff (vs := vs) h i (by simpa using hi) d e
    · cases h
theorem dstsM_get : ∀ {n : Nat} {os : List Oper}, n ≤ os.length → (dstsM n os).length = n ∧ ∀ i (h : i < (dstsM n os).length) (h' : i < os.length), (dstsM n os)[i].1 = os[i].dst
  | 0, os, _ => ⟨rfl, fun i h => by simp [dstsM] at h⟩
  | n + 1, [], h => by simp at h
  | n + 1, o :: os, h => by
    obtain ⟨h1, h2⟩ := dstsM_get (n := n) (os := os) (by simpa using h)
    refine ⟨by simp [dstsM, h1], fun i hi hi' => ?_⟩
    cases i with
    | zero => rfl
    | succ i => exact h2 i (by simpa [dstsM] using hi) (by simpa using hi')

def upFrom : Nat → Nat → List Nat
  | _, 0 => []
  | i, n + 1 => i :: upFrom (i + 1) n
theorem upFrom_eq : ∀ (n i : Nat), upFrom i n = List.range' i n
  | 0, i => rfl
  | n + 1, i => by simp [upFrom, upFrom_eq n, List.range'_succ]

/-- A region that draws: its first 'nf' operations in any order, then the others. -/
theorem go_drawE {rs : List ResultVar} (W : Walk P TT f rs) (m n nf : Nat) (hs : List (Nat × Bool)) (us : List AV) {cs : List Prop} {id : Nat} {ops : Array Oper} {k' : List Item} {T' T2 : Env} {H' : AHeap} {ps : List Prop} {cl : List CallM}
    {vs : List (Option Nat × AV)} (h : exec TT N rs m n [] k T H = .draw cs (.code (.region id ops true) :: k') T' H') (hc : AllC cs)
    (hd : drawM TT m ops.toList (dropD (dstsM nf ops.toList) T') H' hs nf 0 [] us = some (ps, cl, vs))
    (hst : (backAll 0 ops.toList && lastAll ops.toList (lenM ops.toList - nf) nf && Nat.ble nf (lenM ops.toList) && distD (dstsM nf ops.toList) && allLt N (dstsM nf ops.toList)) = true)
    (hp : AllP ps) (hcl : AllCalls P H' cl) (e : TS (fun _ => true) 0 vs T' = T2) (h1 : AGo P f N n0 (.inRegion ops (upFrom nf (lenM ops.toList - nf)) :: k') T2 H' R) : AGo P f N n0 k T H R := by
  simp only [Bool.and_eq_true, lenM_eq, Array.length_toList] at hst
  obtain ⟨⟨⟨⟨b1, b2⟩, b3⟩, b4⟩, b5⟩ := hst
  have b3 : nf ≤ ops.size := by simpa using b3
  obtain ⟨_, l2, l3⟩ := drawM_ok (N := N) W.tt b1 nf 0 [] us hd rfl hp hcl
  have hlen : vs.length = nf := by omega
  obtain ⟨d1, d2⟩ := dstsM_get (n := nf) (os := ops.toList) (by simpa using b3)
  have hfst : (dstsM nf ops.toList).map (·.1) = vs.map (·.1) := by
    refine List.ext_getElem (by simp [d1, hlen]) fun i h1 h2 => ?_
    simp only [List.length_map] at h1 h2
    simp only [List.getElem_map]
    obtain ⟨o, o1, o2, _⟩ := l3 i h2 (Nat.zero_le _)
    obtain ⟨hl, rfl⟩ := Array.getElem?_eq_some_iff.1 o1
    rw [d2 i h1 (by simpa using hl), ← o2]
    simp
  refine go_draw W m n h hc ?_
  subst e
  refine AGo.draw vs b1 (by rw [hlen]; exact b2) (by omega) (by rw [← distD_fst hfst]; exact b4) (fun i hi d e => ?_) (fun i hi => ?_) (by rw [hlen, ← upFrom_eq]; rw [lenM_eq, Array.length_toList] at h1; exact h1)
  · have h2 : i < (dstsM nf ops.toList).length := by omega
    have e2 : (dstsM nf ops.toList)[i].1 = vs[i].1 := by
      have := congrArg (fun l => l[i]?) hfst
      simpa [h2, hi] using this
    exact allLt_iff b5 i h2 d (by rw [e2, e])
  · rw [← dropD_fst hfst]
    exact l3 i hi (Nat.zero_le _)

end Pf
/- More rules: ends of functions that make blocks or write one; calls of such. -/
namespace Pf
open Go
variable {P : Program} {TT : TypeId → Option TI} {f N n0 : Nat} {k : List Item} {T : Env} {H : AHeap} {R : AV → AHeap → Prop} {rs : List ResultVar}

theorem go_retMT (W : Walk P TT f rs) (m n : Nat) {nb : Nat} {Q : AV → List ABlk → Prop} {cs : List Prop} {v u : AV} {H' H2 : AHeap} {ps qs : List Prop} {blks : List ABlk} (h : exec TT N rs m n [] k T H = .ret cs v H')
    (hc : AllC cs) (hf : frz (geM nb) H' 9 v = some (ps, u)) (hp : AllC ps) (hh : frzH (geM nb) H' 9 0 H' = some (qs, H2)) (hq : AllC qs) (hb : firstM H2 blks) (hbc : BC blks) (hl : blks.length = nb)
    (spec : AV) (hcl : clo spec = true) (hs : Sub u spec) (hQ : Q spec blks) : AGo P f N n0 k T H (Writes nb Q) :=
  go_ret W m n h hc ⟨ps, u, spec, qs, H2, blks, hf, hp, hs, hcl, hh, hq, hb, hbc, hl, hQ⟩

theorem AFunN.mono {args : List AV} {Q Q' : AV → AHeap → Prop} (h : AFunN P f args Q) (hq : ∀ u H2, Q u H2 → Q' u H2) : AFunN P f args Q' :=
  AFun.mono h fun v H' ⟨ps, u, bs, u', h1, h2, h3, h4, h5, h6⟩ => ⟨ps, u, bs, u', h1, h2, h3, h4, h5, hq _ _ h6⟩
/-- A call of a function that reads the blocks at hand and says something of no memory. -/
theorem go_callB (W : Walk P TT f rs) (m n : Nat) {cs : List Prop} {g : FuncId} {args args' : List AV} {dst : Option Nat} {k' : List Item} {T' T1 : Env} {H' : AHeap} {ss : List Prop} {u : AV}
    (h : exec TT N rs m n [] k T H = .call cs g args dst k' T' H') (hc : AllC cs) (e : mapF (frz (fun _ => true) H' 9) args = some (ss, args')) (c1 : AllC ss) (hcl : cloL args' = true) (hn : nofm u = true)
    (hq : AFunP P g args' (· = u)) (e2 : dstM N dst u T' = some T1) (h1 : AGo P f N n0 k' T1 H' R) : AGo P f N n0 k T H R :=
  go_call W m n h hc (hq.bor e c1 hcl (fun _ h => by rw [h]; exact hn)) fun v H1 ⟨r1, r2⟩ => ⟨T1, by rw [r2]; exact e2, by rw [r1]; exact h1⟩
/-- A call of a function that writes these blocks (block and generation). -/
theorem go_callMT (W : Walk P TT f rs) (m n : Nat) (ρ : List (Nat × Nat)) {cs : List Prop} {g : FuncId} {args args' : List AV} {dst : Option Nat} {k' : List Item} {T' : Env} {H' : AHeap} {blks : List ABlk} {Q : AV → List ABlk → Prop}
    (h : exec TT N rs m n [] k T H = .call cs g args dst k' T' H') (hc : AllC cs) (hq : AFunM P g args' blks Q) (hb : getAll ρ blks H') (hρ : distP ρ = true) (e : renL ρ args = some args') (hbc : BC blks)
    (h1 : ∀ u blks', Q u blks' → ∃ T1 H1, dstM N dst u T' = some T1 ∧ setAll ρ blks' H' = some H1 ∧ AGo P f N n0 k' T1 H1 R) : AGo P f N n0 k T H R :=
  go_call W m n h hc (hq.at hb hρ e hbc) fun v H1 ⟨blks', r1, r2⟩ => by
    obtain ⟨T1, H1', q1, q2, q3⟩ := h1 v blks' r1
    rw [r2] at q2
    cases q2
    exact ⟨T1, q1, q3⟩

theorem go_callM (W : Walk P TT f rs) (m n : Nat) (ρ : List (Nat × Nat)) {cs : List Prop} {g : FuncId} {args args' : List AV} {dst : Option Nat} {k' : List Item} {T' : Env} {H' : AHeap} {blks : List ABlk} {Q : AV → List ABlk → Prop}
    (h : exec TT N rs m n [] k T H = .call cs g args dst k' T' H') (hc : AllC cs) (hq : AFunM P g args' blks Q) (hb : getAll ρ blks H') (hρ : distP ρ = true) (e : renL ρ args = some args') (hbc : bcloL blks = true)
    (h1 : ∀ u blks', Q u blks' → ∃ T1 H1, dstM N dst u T' = some T1 ∧ setAll ρ blks' H' = some H1 ∧ AGo P f N n0 k' T1 H1 R) : AGo P f N n0 k T H R :=
  go_callMT W m n ρ h hc hq hb hρ e (BC_of hbc) h1

end Pf
