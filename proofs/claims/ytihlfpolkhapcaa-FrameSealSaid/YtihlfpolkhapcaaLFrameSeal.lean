/- FrameSeal: any payload has the frame that the chapter says; it stays, and what is told is the caller's own. No condition. -/
import Derived.Test.YtihlfpolkhapcaaFrm1
import Derived.Test.YtihlfpolkhapcaaFrame
import Derived.Test.YtihlfpolkhapcaaInc
namespace Go.Proofs.Ytihlfpolkhapcaa.lawFrameSeal
open Go.ChangeShapes Go.WideShapes Go.ChangeAt Go.RowKit
set_option linter.unusedVariables false
set_option maxRecDepth 4000
theorem go_LFrameSeal {A B : Prop} (h : Held B → A := by
  intro hEnd
  repeat (first | refine OW_moveV (.int _ _) rfl ?_ | refine OW_moveV (.slice _ _ _) rfl ?_ | refine OW_moveV (.bool _) rfl ?_ | refine OW_moveV (.pointer _) rfl ?_ | refine OW_moveV (.string _) rfl ?_ | refine OW_moveV (.agg _) rfl ?_ | refine OW_moveV (.tuple _) rfl ?_ | refine OW_nil ?_ | refine thenE_normal ?_ | refine CW_seq ?_ | refine CW_region (by kernel_rfl) ?_ | refine OW_assignV (.int _ _) rfl ?_ | refine OW_assignV (.slice _ _ _) rfl ?_ | refine OW_assignV (.bool _) rfl ?_ | refine OW_assignV (.pointer _) rfl ?_ | refine OW_assignV (.string _) rfl ?_ | refine OW_assignV (.agg _) rfl ?_ | refine OW_assignV (.tuple _) rfl ?_ | refine OW_addI rfl rfl (by omega) ?_ | refine OW_subI rfl rfl (by omega) ?_ | refine OW_mulI rfl rfl (by omega) ?_ | refine OW_lss rfl rfl ?_ | refine OW_extract rfl rfl ?_ | refine OW_gtr rfl rfl ?_ | refine OW_leq rfl rfl ?_ | refine OW_geq rfl rfl ?_ | refine OW_eql rfl rfl ?_ | refine OW_neq rfl rfl ?_ | refine OW_not rfl ?_ | refine OW_pickT rfl _ rfl ?_ | refine OW_pickF rfl (.bool _) rfl ?_ | refine OW_pickB rfl rfl rfl ?_ | refine OW_move ?_ | refine OW_assign ?_ | refine OW_pass rfl ?_ | refine OW_take rfl ?_ | refine OW_lenS (by first | with_reducible exact und_bytes | with_reducible exact und_bytess) rfl ?_ | refine OW_convInt (by first | with_reducible exact und_u8 | with_reducible exact und_u64 | with_reducible exact und_int | with_reducible exact und_u32) (by first | with_reducible exact und_u8 | with_reducible exact und_u64 | with_reducible exact und_int | with_reducible exact und_u32) rfl ?_ | refine OW_add rfl rfl ?_ | refine OW_sub rfl rfl ?_ | refine OW_mul rfl rfl ?_ | refine OW_min2 rfl rfl ?_ | refine OW_max2 rfl rfl ?_ | refine OW_neg rfl ?_ | refine CW_block ?_ | refine CW_condT rfl ?_ | refine CW_condF rfl ?_ | refine CW_exit ?_ | refine CW_ret ?_ | refine CW_skip ?_ | refine LW_seq ?_ | refine LW_regC ?_ | refine LW_condC ?_ | refine LW_regF ?_ | refine LW_condF ?_ | refine FW_seq ?_ | refine FW_region (by kernel_rfl) ?_ | refine FW_block ?_ | refine FW_condT rfl ?_ | refine FW_condF rfl ?_ | refine FW_exit ?_ | refine FW_ret ?_ | refine FW_skip ?_ | refine LW_ret ?_ | refine LW_skip ?_ | refine thenE_exit ?_ | refine thenE_ret ?_ | refine inBlockE_normal ?_ | refine inBlockE_same ?_ | refine inBlockE_ret ?_ | refine inBlockE_ne (by rfl) ?_ | refine OW_eqlB (by with_reducible exact und_bool) rfl rfl ?_ | refine OW_neqB (by with_reducible exact und_bool) rfl rfl ?_ | refine OW_idxS (by with_reducible exact und_bytes) one_u8 rfl rfl _ rfl (by omega) ?_ | refine OW_idxS (by with_reducible exact und_bytess) one_bytes rfl rfl _ rfl (by omega) ?_ | refine OW_load1 (by first | with_reducible exact one_u8 | with_reducible exact one_bytes) rfl _ (by assumption) ?_)
  exact hEnd.out) (k : B) : A := h ⟨k⟩
set_option maxHeartbeats 8000000 in
theorem walk (w : World) (A : Option Addr) (cA : Nat) (b : List UInt8) (hb : Bs w A b) (hcb : b.length ≤ cA) :
    Calls Try.prog 3 #[.slice A b.length cA] w (RetV w (.bool true)) := by
  refine calls_of_CW Try.func3 rfl (by simp [Try.ntmps3]) ?_
  rw [Try.ntmps3]
  refine go_LFrameSeal (k := ?_)
  refine CW_cond _ rfl (fun h => ?_) (fun h => ?_)
  · refine go_LFrameSeal (k := ?_)
    exact bodyE_ret1 rfl (.bool true) rfl ⟨rfl, Ext.rfl' w⟩
  have hl : b.length ≤ 3000 := by simp at h; omega
  clear h
  refine go_LFrameSeal (k := ?_)
  refine OW_callBs Try.func14 (by kernel_rfl) rfl (refCopy_any _ A b cA hb (by omega)) rfl ?_
  intro w1 X cX hX
  refine go_LFrameSeal (k := ?_)
  refine OW_callBs Try.func15 (by kernel_rfl) rfl (refSeal_any w1 A cA b (hb.ext hX.ext) (by omega)) rfl ?_
  intro w2 D cD hD
  have hx02 := hX.ext.trans' hD.ext
  have hXb := hX.bs.ext hD.ext
  have hfl := frameB_length b
  refine go_LFrameSeal (k := ?_)
  refine CW_loop (fun e' w' => ∃ t : Nat, t ≤ 2 ∧ e' 0 = .slice A b.length cA ∧ e' 3 = .slice X b.length cX ∧ e' 4 = .slice D (frameB b).length cD ∧ e' 5 = .int .i64 t ∧ Ext w2 w') (fun e' _ => 2 - (intOf (e' 5)).toNat) ?_ ?_
  · exact ⟨0, by omega, rfl, rfl, rfl, rfl, Ext.rfl' _⟩
  rintro e5 w5 ⟨t, ht, q0, q3, q4, q5, hx⟩
  rw [upd_self q0, upd_self q3, upd_self q4, upd_self q5]
  refine go_LFrameSeal (k := ?_)
  refine CW_cond _ rfl (fun hh => ?_) (fun hh => ?_)
  · have hlt : t < 2 := by have := of_decide_eq_true hh; omega
    clear hh
    refine go_LFrameSeal (k := ?_)
    refine OW_callC Try.func16 (by kernel_rfl) rfl (fseal_any w5 X cX b (hXb.ext hx) (by omega)) rfl ?_
    rintro en w6 ⟨A6, c6, rfl, hf6⟩
    refine ⟨_, rfl, ?_⟩
    have hbD := hD.bs.ext (hx.trans' hf6.ext)
    have hbX := hXb.ext (hx.trans' hf6.ext)
    have hbA := hb.ext ((hx02.trans' hx).trans' hf6.ext)
    generalize frameB b = out at *
    refine go_LFrameSeal (k := ?_)
    refine OW_callV Try.func17 (by kernel_rfl) rfl (refSame_any w6 A6 D out out c6 cD hf6.bs hbD (by omega)) rfl ?_
    intro w7 hx7
    rw [beq_self_eq_true]
    refine go_LFrameSeal (k := ?_)
    refine OW_callV Try.func17 (by kernel_rfl) rfl (refSame_any w7 X A b b cX cA (hbX.ext hx7) (hbA.ext hx7) (by omega)) rfl ?_
    intro w8 hx8
    rw [beq_self_eq_true]
    have o8 := own_ext hf6.own (hx7.trans' hx8)
    have hx58 := hf6.ext.trans' (hx7.trans' hx8)
    refine go_LFrameSeal (k := ?_)
    refine CW_loop (fun e' w' => ∃ (k : Nat) (zs : List UInt8), k ≤ out.length ∧ zs.length = out.length ∧ e' 6 = .slice A6 out.length c6 ∧ e' 8 = .int .i64 k ∧ e' 0 = .slice A b.length cA ∧ e' 3 = .slice X b.length cX ∧ e' 4 = .slice D out.length cD ∧ e' 5 = .int .i64 t ∧ w'.ownsRow w5.heap.size 5 1 (.slice A6 out.length c6) out.length (zs.map bv) ∧ w8.grownBy w' (Value.ownBlock (.slice A6 out.length c6))) (fun e' _ => out.length - (intOf (e' 8)).toNat) ?_ ?_
    · exact ⟨0, out, Nat.zero_le _, rfl, rfl, rfl, rfl, rfl, rfl, rfl, o8, World.grownBy.refl _ _⟩
    rintro ea wa ⟨ka, za, hak, haz, has, hai, qa_0, qa_3, qa_4, qa_5, hao, hag⟩
    rw [upd_self has, upd_self hai, upd_self qa_0, upd_self qa_3, upd_self qa_4, upd_self qa_5]
    refine go_LFrameSeal (k := ?_)
    refine CW_cond _ rfl (fun hh => ?_) (fun _ => ?_)
    · have hlt : ka < out.length := by simpa using hh
      obtain ⟨g, cur, hA, hg, _⟩ := own_blk hao (by omega)
      subst hA
      have hcell := inc_cell hao haz hlt
      have hst := inc_step hao haz hlt (za[ka]'(by omega) + 1)
      refine go_LFrameSeal (k := ?_)
      rw [inc_u8]
      refine go_LFrameSeal (k := ?_)
      rw [add0] at hcell ⊢
      refine OW_store1 one_u8 rfl (bv (za[ka]'(by omega) + 1)) (bv (za[ka]'(by omega))) rfl rfl hcell (hao.frozenAt ka) ?_
      refine go_LFrameSeal (k := ?_)
      refine ⟨⟨ka + 1, _, by omega, by simp [haz], rfl, rfl, rfl, rfl, rfl, rfl, hst.1, grown_trans' hag hst.2⟩, ?_⟩
      show out.length - ((ka : Int) + 1).toNat < out.length - (ka : Int).toNat
      omega
    refine go_LFrameSeal (k := ?_)
    have hxa : Ext w5 wa := ext_grown hx58 o8 hag
    refine ⟨⟨t + 1, by omega, rfl, rfl, rfl, rfl, hx.trans' hxa⟩, ?_⟩
    show 2 - ((t : Int) + 1).toNat < 2 - (t : Int).toNat
    omega
  · refine go_LFrameSeal (k := ?_)
    exact bodyE_ret1 rfl (.bool true) rfl ⟨rfl, hx02.trans' hx⟩
set_option maxRecDepth 100000 in
theorem lifted (os : Os) (started : os.Started) (H : Type) (enc : TypeId × Value → H) :
    ReturnsInHanded {} Try.checked os 3 .any (Rows.frameSealSpec.pre6 enc Try.prog Try.f3 Rows.frameSealRow.domain false) (Rows.frameSealSpec.post enc Try.prog Try.f3 false true false false) := by
  refine returnsInHanded_of_change (C := Try.checked) ownP started (by kernel_rfl) Try.func3
    (ChangeSpec.witness6 (enc := enc) (C := Try.checked) false ⟨#[], #[.slice none 0 0], []⟩ 8 (by kernel_rfl) (by kernel_rfl) (by kernel_rfl) (by kernel_rfl)) ?_
  intro W base args ds gs before hval0 hW hcnd _
  have hval : ∀ (j : Nat) t v, Try.f3.params[j]? = some t → args[j]? = some v → Value.okWide Try.prog W .any base t v := hval0
  have hW' := hW
  obtain ⟨p, q, hA0, hV, rfl, hfz, hnd⟩ := hW
  have hA : DataW.TrodAll enc Try.prog W 0 (fun _ => true) true Try.f3.params.toList args.toList ds p := hA0
  rw [Try.params3] at hA hval
  obtain ⟨v0, vs0, d0, ds0, p0, q0, hargs, rfl, rfl, h0, r0⟩ := trodAll_cons hA
  obtain ⟨rfl, rfl, rfl⟩ := trodAll_nil r0
  obtain rfl : args = #[v0] := by cases args; simp_all
  obtain ⟨rfl, rfl⟩ := trodVars_none hV
  have k0 := h0
  have lt0 : ∀ x ∈ p0, x.block < W.heap.size := by obtain ⟨m, hm⟩ := k0; exact DataW.trod_lt m _ _ _ hm
  obtain ⟨A0, c0, l0, rfl, b0, n0⟩ := open_bytes Try.underlying22 Try.underlying5 (by kernel_rfl) (hval 0 22 v0 rfl rfl) h0
  clear hA0 hval0
  refine (walk W A0 c0 l0 b0 n0).mono fun e W' ⟨he, bel⟩ => ?_
  subst he
  exact ⟨_, rfl, _, _, _, [], _, [], hW', trodAll_mk1 (shut_bool Try.underlying4 _), (trodAll_cons_mk (Below.trod laidP (by kernel_rfl) (of_decide_eq_true (by kernel_rfl)) k0 bel lt0) trodAll_mk0), rfl, bel.frame _, fun h => by cases h⟩
theorem over : Rows.frameSealRow.holds Try.pinned (OpenSpec.ofChange Rows.frameSealSpec) :=
  OpenClaim.holds_of_wide 3 Try.f3 rfl rfl rfl rfl rfl rfl rfl ⟨rfl, rfl, rfl, rfl, rfl⟩ rfl rfl rfl rfl rfl (by kernel_rfl) Try.func3 (by kernel_rfl)
    (of_decide_eq_true (by kernel_rfl)) (by unfold Func.isWrapper; first | (rw [if_pos (by decide +kernel)]; kernel_rfl) | (rw [if_neg (by decide +kernel)]; exact ⟨rfl, rfl⟩))
    (fun os started H enc _ => lifted os started H enc)
theorem proved : Rows.FrameSealSaid := over
#print axioms proved
end Go.Proofs.Ytihlfpolkhapcaa.lawFrameSeal
