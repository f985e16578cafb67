/- The law FnExactFracAdd returns true for every input, and each argument reads behind the call as it read before. -/
import Derived.Test.YtcaalfaapkokdaaRows
import Derived.WalkKit
import Derived.ProofKit
import Derived.OpenShut
import Derived.ShutString
import Derived.ChangeOld
import Derived.SizedLaws
import Derived.Test.YtcaalfaapkokdaaA3
namespace Go.Proofs.Ytcaalfaapkokdaa.fnExactFracAdd
open Go.ChangeShapes Go.WideShapes Go.ChangeAt Go.RowKit
open Go.ChangeMaps (open_string shut_string)
set_option linter.unusedVariables false
theorem own : ownKnob Try.prog.godebug = none := by kernel_rfl
theorem laidOut : laidOutB Try.prog = true := by kernel_rfl
theorem opens_frac : Pf.Opens Try.prog 47 fun us => ∃ (p : Prop) (t d : List Int), us = [.pr p, .fi .i64 t, .fi .i64 d] ∧ (t.length ≤ 9223372036854775807 ∧ ∀ n ∈ t, Pf.InK .i64 n) ∧ (d.length ≤ 9223372036854775807 ∧ ∀ n ∈ d, Pf.InK .i64 n) := by
  refine Pf.opens_struct Try.underlying47 rfl (by kernel_rfl) (by kernel_rfl) ?_
  refine ⟨_, Pf.opens_bool Try.underlying4, ?_⟩
  rintro _ ⟨p, rfl⟩
  refine ⟨_, Pf.opens_ints Try.underlying45 Try.underlying3 (by kernel_rfl), ?_⟩
  rintro _ ⟨t, rfl, ht⟩
  refine ⟨_, Pf.opens_ints Try.underlying45 Try.underlying3 (by kernel_rfl), ?_⟩
  rintro _ ⟨d, rfl, hd⟩
  exact ⟨p, t, d, rfl, ht, hd⟩
set_option maxRecDepth 100000 in
theorem lifted (os : Os) (started : os.Started) (H : Type) (enc : TypeId × Value → H) :
    ReturnsInHanded {} Try.checked os 7 .any (Rows.fnExactFracAddSpec.pre6 enc Try.prog Try.f7 Rows.fnExactFracAddRow.domain false) (Rows.fnExactFracAddSpec.post enc Try.prog Try.f7 false true false false) := by
  refine returnsInHanded_of_change_sized (C := Try.checked) own started (by kernel_rfl) Try.func7
    (ChangeSpec.witness6 (enc := enc) (C := Try.checked) false ⟨#[], #[.agg #[.bool false, .slice none 0 0, .slice none 0 0], .agg #[.bool false, .slice none 0 0, .slice none 0 0]], []⟩ 8 (by kernel_rfl) (by kernel_rfl) (by kernel_rfl) (by kernel_rfl)) ?_
  intro W base args ds gs before hval0 hW hcnd hsz0 _
  have hval : ∀ (j : Nat) t v, Try.f7.params[j]? = some t → args[j]? = some v → Value.okWide Try.prog W .any base t v := hval0
  have hW' := hW
  obtain ⟨p, q, hA0, hV, rfl, hfz, hnd⟩ := hW
  have hA : DataW.TrodAll enc Try.prog W 0 (fun _ => true) true Try.f7.params.toList args.toList ds p := hA0
  rw [Try.params7] at hA hval
  obtain ⟨v0, vs0, d0, ds0, p0, q0, hargs0, rfl, rfl, h0, r0⟩ := trodAll_cons hA
  obtain ⟨v1, vs1, d1, ds1, p1, q1, hargs1, rfl, rfl, h1, r1⟩ := trodAll_cons r0
  obtain ⟨rfl, rfl, rfl⟩ := trodAll_nil r1
  obtain rfl : args = #[v0, v1] := by cases args; simp_all
  obtain ⟨rfl, rfl⟩ := trodVars_none hV
  obtain ⟨c0, rfl, _⟩ := okWide_struct Try.underlying47 (hval 0 47 v0 rfl rfl)
  obtain ⟨c1, rfl, _⟩ := okWide_struct Try.underlying47 (hval 1 47 v1 rfl rfl)
  have k0 := h0
  have lt0 : ∀ x ∈ p0, x.block < W.heap.size := by obtain ⟨m, hm⟩ := k0; exact DataW.trod_lt m _ _ _ hm
  have k1 := h1
  have lt1 : ∀ x ∈ p1, x.block < W.heap.size := by obtain ⟨m, hm⟩ := k1; exact DataW.trod_lt m _ _ _ hm
  obtain ⟨as0, ⟨p0x, t0, d0x, rfl, ⟨ht0, ht0'⟩, ⟨hd0, hd0'⟩⟩, hv0⟩ := opens_frac.agg h0
  obtain ⟨as1, ⟨p1x, t1, d1x, rfl, ⟨ht1, ht1'⟩, ⟨hd1, hd1'⟩⟩, hv1⟩ := opens_frac.agg h1
  clear hA0 hval0 hsz0
  refine (Pf.AFunP.calls (Pf.fnExactFracAdd_law p0x t0 d0x p1x t1 d1x ht0 hd0 ht0' hd0' ht1 hd1 ht1' hd1') (.push hv0 (.single hv1))).mono fun e W' ⟨he, bel⟩ => ?_
  subst he
  exact ⟨_, rfl, _, _, _, [], _, [], hW', trodAll_mk1 (shut_bool Try.underlying4 _), (trodAll_cons_mk (Below.trod laidOut (by kernel_rfl) (of_decide_eq_true (by kernel_rfl)) k0 bel lt0) (trodAll_cons_mk (Below.trod laidOut (by kernel_rfl) (of_decide_eq_true (by kernel_rfl)) k1 bel lt1) trodAll_mk0)), rfl, bel.frame _, fun h => by cases h⟩
theorem over : Rows.fnExactFracAddRow.holds Try.pinned (OpenSpec.ofChange Rows.fnExactFracAddSpec) :=
  OpenClaim.holds_of_wide 7 Try.f7 rfl rfl rfl rfl rfl rfl rfl ⟨rfl, rfl, rfl, rfl, rfl⟩ rfl rfl rfl rfl rfl (by kernel_rfl) Try.func7 (by kernel_rfl)
    (of_decide_eq_true (by kernel_rfl)) (by unfold Func.isWrapper; first | (rw [if_pos (by decide +kernel)]; kernel_rfl) | (rw [if_neg (by decide +kernel)]; exact ⟨rfl, rfl⟩))
    (fun os started H enc _ => lifted os started H enc)
theorem proved : Rows.FnExactFracAddSaid := over
#print axioms proved
end Go.Proofs.Ytcaalfaapkokdaa.fnExactFracAdd
