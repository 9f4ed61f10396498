/- FrameNext: any bytes begin with the frame that the chapter says, or with none; they stay. No condition. -/
import Derived.Test.YtihlfpolkhapcaaFrm2
import Derived.Test.YtihlfpolkhapcaaFrame
namespace Go.Proofs.Ytihlfpolkhapcaa.lawFrameNext
open Go.ChangeShapes Go.WideShapes Go.ChangeAt Go.RowKit
set_option linter.unusedVariables false
set_option maxRecDepth 4000
theorem go_LFrameNext {A B : Prop} (h : Held B → A := by
  intro hEnd
  repeat (first | refine OW_moveV (.int _ _) rfl ?_ | refine OW_moveV (.slice _ _ _) rfl ?_ | refine OW_moveV (.bool _) rfl ?_ | refine OW_moveV (.pointer _) rfl ?_ | refine OW_moveV (.string _) rfl ?_ | refine OW_moveV (.agg _) rfl ?_ | refine OW_moveV (.tuple _) rfl ?_ | refine OW_nil ?_ | refine thenE_normal ?_ | refine CW_seq ?_ | refine CW_region (by kernel_rfl) ?_ | refine OW_assignV (.int _ _) rfl ?_ | refine OW_assignV (.slice _ _ _) rfl ?_ | refine OW_assignV (.bool _) rfl ?_ | refine OW_assignV (.pointer _) rfl ?_ | refine OW_assignV (.string _) rfl ?_ | refine OW_assignV (.agg _) rfl ?_ | refine OW_assignV (.tuple _) rfl ?_ | refine OW_addI rfl rfl (by omega) ?_ | refine OW_subI rfl rfl (by omega) ?_ | refine OW_mulI rfl rfl (by omega) ?_ | refine OW_lss rfl rfl ?_ | refine OW_extract rfl rfl ?_ | refine OW_gtr rfl rfl ?_ | refine OW_leq rfl rfl ?_ | refine OW_geq rfl rfl ?_ | refine OW_eql rfl rfl ?_ | refine OW_neq rfl rfl ?_ | refine OW_not rfl ?_ | refine OW_pickT rfl _ rfl ?_ | refine OW_pickF rfl (.bool _) rfl ?_ | refine OW_pickB rfl rfl rfl ?_ | refine OW_move ?_ | refine OW_assign ?_ | refine OW_pass rfl ?_ | refine OW_take rfl ?_ | refine OW_lenS (by first | with_reducible exact und_bytes | with_reducible exact und_bytess) rfl ?_ | refine OW_convInt (by first | with_reducible exact und_u8 | with_reducible exact und_u64 | with_reducible exact und_int | with_reducible exact und_u32) (by first | with_reducible exact und_u8 | with_reducible exact und_u64 | with_reducible exact und_int | with_reducible exact und_u32) rfl ?_ | refine OW_add rfl rfl ?_ | refine OW_sub rfl rfl ?_ | refine OW_mul rfl rfl ?_ | refine OW_min2 rfl rfl ?_ | refine OW_max2 rfl rfl ?_ | refine OW_neg rfl ?_ | refine CW_block ?_ | refine CW_condT rfl ?_ | refine CW_condF rfl ?_ | refine CW_exit ?_ | refine CW_ret ?_ | refine CW_skip ?_ | refine LW_seq ?_ | refine LW_regC ?_ | refine LW_condC ?_ | refine LW_regF ?_ | refine LW_condF ?_ | refine FW_seq ?_ | refine FW_region (by kernel_rfl) ?_ | refine FW_block ?_ | refine FW_condT rfl ?_ | refine FW_condF rfl ?_ | refine FW_exit ?_ | refine FW_ret ?_ | refine FW_skip ?_ | refine LW_ret ?_ | refine LW_skip ?_ | refine thenE_exit ?_ | refine thenE_ret ?_ | refine inBlockE_normal ?_ | refine inBlockE_same ?_ | refine inBlockE_ret ?_ | refine inBlockE_ne (by rfl) ?_ | refine OW_eqlB (by with_reducible exact und_bool) rfl rfl ?_ | refine OW_neqB (by with_reducible exact und_bool) rfl rfl ?_ | refine OW_idxS (by with_reducible exact und_bytes) one_u8 rfl rfl _ rfl (by omega) ?_ | refine OW_idxS (by with_reducible exact und_bytess) one_bytes rfl rfl _ rfl (by omega) ?_ | refine OW_load1 (by first | with_reducible exact one_u8 | with_reducible exact one_bytes) rfl _ (by assumption) ?_)
  exact hEnd.out) (k : B) : A := h ⟨k⟩
set_option maxHeartbeats 8000000 in
theorem walk (w : World) (A : Option Addr) (cA : Nat) (b : List UInt8) (hb : Bs w A b) (hcb : b.length ≤ cA) :
    Calls Try.prog 5 #[.slice A b.length cA] w (RetV w (.bool true)) := by
  refine calls_of_CW Try.func5 rfl (by simp [Try.ntmps5]) ?_
  rw [Try.ntmps5]
  refine go_LFrameNext (k := ?_)
  refine CW_cond _ rfl (fun h => ?_) (fun h => ?_)
  · refine go_LFrameNext (k := ?_)
    exact bodyE_ret1 rfl (.bool true) rfl ⟨rfl, Ext.rfl' w⟩
  have hl : b.length ≤ 3000 := by simp at h; omega
  clear h
  refine go_LFrameNext (k := ?_)
  refine OW_callBs Try.func14 (by kernel_rfl) rfl (refCopy_any _ A b cA hb (by omega)) rfl ?_
  intro w1 X cX hX
  refine go_LFrameNext (k := ?_)
  refine OW_callC Try.func18 (by kernel_rfl) rfl (frameNext_any w1 X cX b hX.bs hX.cap (by omega)) rfl ?_
  rintro en w2 (⟨hn, rfl, hx2⟩ | ⟨p, A2, c2, hn, rfl, hf2⟩)
  · refine ⟨_, rfl, ?_⟩
    have hx02 := hX.ext.trans' hx2
    refine go_LFrameNext (k := ?_)
    refine OW_callC Try.func19 (by kernel_rfl) rfl (refNext_any w2 A cA b (hb.ext hx02) hcb (by omega)) rfl ?_
    rintro en w3 (⟨hn3, rfl, hx3⟩ | ⟨p3, A3, c3, hn3, rfl, hf3⟩)
    rotate_left 1
    · rw [hn] at hn3; cases hn3
    refine ⟨_, rfl, ?_⟩
    have hx03 := hx02.trans' hx3
    refine go_LFrameNext (k := ?_)
    refine OW_callV Try.func17 (by kernel_rfl) rfl (refSame_any w3 none none [] [] 0 0 (Bs.nil _ _) (Bs.nil _ _) (by decide)) rfl ?_
    intro w4 hx4
    rw [beq_self_eq_true]
    refine go_LFrameNext (k := ?_)
    refine OW_callV Try.func17 (by kernel_rfl) rfl (refSame_any w4 X A b b cX cA (hX.bs.ext ((hx2.trans' hx3).trans' hx4)) (hb.ext (hx03.trans' hx4)) (by omega)) rfl ?_
    intro w5 hx5
    rw [show (b == b) = true from beq_self_eq_true b]
    refine go_LFrameNext (k := ?_)
    exact bodyE_ret1 rfl (.bool true) rfl ⟨rfl, (hx03.trans' hx4).trans' hx5⟩
  · refine ⟨_, rfl, ?_⟩
    have hx2 := hf2.ext
    have hx02 := hX.ext.trans' hx2
    have hpl := (nextL_some hn).2.1
    refine go_LFrameNext (k := ?_)
    refine OW_callC Try.func19 (by kernel_rfl) rfl (refNext_any w2 A cA b (hb.ext hx02) hcb (by omega)) rfl ?_
    rintro en w3 (⟨hn3, rfl, hx3⟩ | ⟨p3, A3, c3, hn3, rfl, hf3⟩)
    · rw [hn] at hn3; cases hn3
    have hpp : p = p3 := Option.some.inj (hn.symm.trans hn3)
    subst hpp
    refine ⟨_, rfl, ?_⟩
    have hx3 := hf3.ext
    have hx03 := hx02.trans' hx3
    refine go_LFrameNext (k := ?_)
    refine OW_callV Try.func17 (by kernel_rfl) rfl (refSame_any w3 A2 A3 p p c2 c3 (hf2.bs.ext hx3) hf3.bs (by omega)) rfl ?_
    intro w4 hx4
    rw [beq_self_eq_true]
    refine go_LFrameNext (k := ?_)
    rw [beq_self_eq_true]
    refine go_LFrameNext (k := ?_)
    refine OW_callV Try.func17 (by kernel_rfl) rfl (refSame_any w4 X A b b cX cA (hX.bs.ext ((hx2.trans' hx3).trans' hx4)) (hb.ext (hx03.trans' hx4)) (by omega)) rfl ?_
    intro w5 hx5
    rw [show (b == b) = true from beq_self_eq_true b]
    refine go_LFrameNext (k := ?_)
    exact bodyE_ret1 rfl (.bool true) rfl ⟨rfl, (hx03.trans' hx4).trans' hx5⟩
set_option maxRecDepth 100000 in
theorem lifted (os : Os) (started : os.Started) (H : Type) (enc : TypeId × Value → H) :
    ReturnsInHanded {} Try.checked os 5 .any (Rows.frameNextSpec.pre6 enc Try.prog Try.f5 Rows.frameNextRow.domain false) (Rows.frameNextSpec.post enc Try.prog Try.f5 false true false false) := by
  refine returnsInHanded_of_change (C := Try.checked) ownP started (by kernel_rfl) Try.func5
    (ChangeSpec.witness6 (enc := enc) (C := Try.checked) false ⟨#[], #[.slice none 0 0], []⟩ 8 (by kernel_rfl) (by kernel_rfl) (by kernel_rfl) (by kernel_rfl)) ?_
  intro W base args ds gs before hval0 hW hcnd _
  have hval : ∀ (j : Nat) t v, Try.f5.params[j]? = some t → args[j]? = some v → Value.okWide Try.prog W .any base t v := hval0
  have hW' := hW
  obtain ⟨p, q, hA0, hV, rfl, hfz, hnd⟩ := hW
  have hA : DataW.TrodAll enc Try.prog W 0 (fun _ => true) true Try.f5.params.toList args.toList ds p := hA0
  rw [Try.params5] at hA hval
  obtain ⟨v0, vs0, d0, ds0, p0, q0, hargs, rfl, rfl, h0, r0⟩ := trodAll_cons hA
  obtain ⟨rfl, rfl, rfl⟩ := trodAll_nil r0
  obtain rfl : args = #[v0] := by cases args; simp_all
  obtain ⟨rfl, rfl⟩ := trodVars_none hV
  have k0 := h0
  have lt0 : ∀ x ∈ p0, x.block < W.heap.size := by obtain ⟨m, hm⟩ := k0; exact DataW.trod_lt m _ _ _ hm
  obtain ⟨A0, c0, l0, rfl, b0, n0⟩ := open_bytes Try.underlying22 Try.underlying5 (by kernel_rfl) (hval 0 22 v0 rfl rfl) h0
  clear hA0 hval0
  refine (walk W A0 c0 l0 b0 n0).mono fun e W' ⟨he, bel⟩ => ?_
  subst he
  exact ⟨_, rfl, _, _, _, [], _, [], hW', trodAll_mk1 (shut_bool Try.underlying4 _), (trodAll_cons_mk (Below.trod laidP (by kernel_rfl) (of_decide_eq_true (by kernel_rfl)) k0 bel lt0) trodAll_mk0), rfl, bel.frame _, fun h => by cases h⟩
theorem over : Rows.frameNextRow.holds Try.pinned (OpenSpec.ofChange Rows.frameNextSpec) :=
  OpenClaim.holds_of_wide 5 Try.f5 rfl rfl rfl rfl rfl rfl rfl ⟨rfl, rfl, rfl, rfl, rfl⟩ rfl rfl rfl rfl rfl (by kernel_rfl) Try.func5 (by kernel_rfl)
    (of_decide_eq_true (by kernel_rfl)) (by unfold Func.isWrapper; first | (rw [if_pos (by decide +kernel)]; kernel_rfl) | (rw [if_neg (by decide +kernel)]; exact ⟨rfl, rfl⟩))
    (fun os started H enc _ => lifted os started H enc)
theorem proved : Rows.FrameNextSaid := over
#print axioms proved
end Go.Proofs.Ytihlfpolkhapcaa.lawFrameNext
