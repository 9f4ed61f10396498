/- FrameLimits: a payload of just MaxBytes bytes has a frame, one of one more none. No condition. -/
import Derived.Test.YtihlfpolkhapcaaFrm1
import Derived.Test.YtihlfpolkhapcaaFrame
namespace Go.Proofs.Ytihlfpolkhapcaa.lawFrameLimits
open Go.ChangeShapes Go.WideShapes Go.ChangeAt Go.RowKit
set_option linter.unusedVariables false
set_option maxRecDepth 4000
theorem go_LFrameLimits {A B : Prop} (h : Held B → A := by
  intro hEnd
  repeat (first | refine OW_moveV (.int _ _) rfl ?_ | refine OW_moveV (.slice _ _ _) rfl ?_ | refine OW_moveV (.bool _) rfl ?_ | refine OW_moveV (.pointer _) rfl ?_ | refine OW_moveV (.string _) rfl ?_ | refine OW_moveV (.agg _) rfl ?_ | refine OW_moveV (.tuple _) rfl ?_ | refine OW_nil ?_ | refine thenE_normal ?_ | refine CW_seq ?_ | refine CW_region (by kernel_rfl) ?_ | refine OW_assignV (.int _ _) rfl ?_ | refine OW_assignV (.slice _ _ _) rfl ?_ | refine OW_assignV (.bool _) rfl ?_ | refine OW_assignV (.pointer _) rfl ?_ | refine OW_assignV (.string _) rfl ?_ | refine OW_assignV (.agg _) rfl ?_ | refine OW_assignV (.tuple _) rfl ?_ | refine OW_addI rfl rfl (by omega) ?_ | refine OW_subI rfl rfl (by omega) ?_ | refine OW_mulI rfl rfl (by omega) ?_ | refine OW_lss rfl rfl ?_ | refine OW_extract rfl rfl ?_ | refine OW_gtr rfl rfl ?_ | refine OW_leq rfl rfl ?_ | refine OW_geq rfl rfl ?_ | refine OW_eql rfl rfl ?_ | refine OW_neq rfl rfl ?_ | refine OW_not rfl ?_ | refine OW_pickT rfl _ rfl ?_ | refine OW_pickF rfl (.bool _) rfl ?_ | refine OW_pickB rfl rfl rfl ?_ | refine OW_move ?_ | refine OW_assign ?_ | refine OW_pass rfl ?_ | refine OW_take rfl ?_ | refine OW_lenS (by first | with_reducible exact und_bytes | with_reducible exact und_bytess) rfl ?_ | refine OW_convInt (by first | with_reducible exact und_u8 | with_reducible exact und_u64 | with_reducible exact und_int | with_reducible exact und_u32) (by first | with_reducible exact und_u8 | with_reducible exact und_u64 | with_reducible exact und_int | with_reducible exact und_u32) rfl ?_ | refine OW_add rfl rfl ?_ | refine OW_sub rfl rfl ?_ | refine OW_mul rfl rfl ?_ | refine OW_min2 rfl rfl ?_ | refine OW_max2 rfl rfl ?_ | refine OW_neg rfl ?_ | refine CW_block ?_ | refine CW_condT rfl ?_ | refine CW_condF rfl ?_ | refine CW_exit ?_ | refine CW_ret ?_ | refine CW_skip ?_ | refine LW_seq ?_ | refine LW_regC ?_ | refine LW_condC ?_ | refine LW_regF ?_ | refine LW_condF ?_ | refine FW_seq ?_ | refine FW_region (by kernel_rfl) ?_ | refine FW_block ?_ | refine FW_condT rfl ?_ | refine FW_condF rfl ?_ | refine FW_exit ?_ | refine FW_ret ?_ | refine FW_skip ?_ | refine LW_ret ?_ | refine LW_skip ?_ | refine thenE_exit ?_ | refine thenE_ret ?_ | refine inBlockE_normal ?_ | refine inBlockE_same ?_ | refine inBlockE_ret ?_ | refine inBlockE_ne (by rfl) ?_ | refine OW_eqlB (by with_reducible exact und_bool) rfl rfl ?_ | refine OW_neqB (by with_reducible exact und_bool) rfl rfl ?_ | refine OW_idxS (by with_reducible exact und_bytes) one_u8 rfl rfl _ rfl (by omega) ?_ | refine OW_idxS (by with_reducible exact und_bytess) one_bytes rfl rfl _ rfl (by omega) ?_ | refine OW_load1 (by first | with_reducible exact one_u8 | with_reducible exact one_bytes) rfl _ (by assumption) ?_)
  exact hEnd.out) (k : B) : A := h ⟨k⟩
/-- A bound, shut away. -/
structure Rng (m : Nat) : Prop where
  out : m ≤ 65540
set_option maxHeartbeats 8000000 in
theorem walk (w : World) (n : Int) (hn : -9223372036854775808 ≤ n ∧ n ≤ 9223372036854775807) :
    Calls Try.prog 4 #[.int .i64 n] w (RetV w (.bool true)) := by
  refine calls_of_CW Try.func4 rfl (by simp [Try.ntmps4]) ?_
  rw [Try.ntmps4]
  refine go_LFrameLimits (k := ?_)
  refine OW_split 7 _ rfl (fun h => ?_) (fun h => ?_)
  · refine go_LFrameLimits (k := ?_)
    exact bodyE_ret1 rfl (.bool true) rfl ⟨rfl, Ext.rfl' w⟩
  have hn0 : 0 ≤ n := by have := of_decide_eq_false h; omega
  clear h
  refine go_LFrameLimits (k := ?_)
  refine CW_cond _ rfl (fun h => ?_) (fun h => ?_)
  · refine go_LFrameLimits (k := ?_)
    exact bodyE_ret1 rfl (.bool true) rfl ⟨rfl, Ext.rfl' w⟩
  obtain ⟨m, rfl⟩ : ∃ m : Nat, n = m := ⟨n.toNat, by omega⟩
  have hm : Rng m := ⟨by have := of_decide_eq_false h; omega⟩
  clear h hn
  refine go_LFrameLimits (k := ?_)
  refine OW_make und_bytes info_u8 rfl rfl rfl rfl rfl (by have := hm.out; omega) (by have := hm.out; unfold maxLen; omega) ?_
  intro w1 g1 hb1 hg1 hx1
  have hz := bs_zeros hb1
  have hzl : (List.replicate m (0 : UInt8)).length = m := List.length_replicate
  generalize List.replicate m (0 : UInt8) = z at *
  subst hzl
  by_cases hle : z.length ≤ 65536
  · have hfl := frameB_length z
    have hfs := fun c => fseal_any w1 (some ⟨g1, 0, none⟩) c z hz hle
    generalize frameB z = F at *
    have hd : decide ((65536 : Int) < z.length) = false := decide_eq_false (by omega)
    have he : ((F.length : Int) == (z.length : Int) + 12) = true := by rw [beq_iff_eq]; omega
    clear hle
    refine go_LFrameLimits (k := ?_)
    refine OW_callC Try.func16 (by kernel_rfl) rfl (hfs _) rfl ?_
    rintro en w2 ⟨A2, c2, rfl, hf2⟩
    refine ⟨_, rfl, ?_⟩
    refine go_LFrameLimits (k := ?_)
    rw [hd]
    refine go_LFrameLimits (k := ?_)
    rw [wrap64_in (by have := hm.out; omega), he]
    refine go_LFrameLimits (k := ?_)
    exact bodyE_ret1 rfl (.bool true) rfl ⟨rfl, hx1.trans' hf2.ext⟩
  · have hd : decide ((65536 : Int) < z.length) = true := decide_eq_true (by omega)
    have hfs := fun c => fsealLong_any w1 (some ⟨g1, 0, none⟩) c z.length (by omega)
    clear hle
    refine go_LFrameLimits (k := ?_)
    refine OW_callV Try.func16 (by kernel_rfl) rfl (hfs _) rfl ?_
    intro w2 hx2
    refine go_LFrameLimits (k := ?_)
    rw [hd]
    refine go_LFrameLimits (k := ?_)
    exact bodyE_ret1 rfl (.bool true) rfl ⟨rfl, hx1.trans' hx2⟩
set_option maxRecDepth 100000 in
theorem lifted (os : Os) (started : os.Started) (H : Type) (enc : TypeId × Value → H) :
    ReturnsInHanded {} Try.checked os 4 .any (Rows.frameLimitsSpec.pre6 enc Try.prog Try.f4 Rows.frameLimitsRow.domain false) (Rows.frameLimitsSpec.post enc Try.prog Try.f4 false true false false) := by
  refine returnsInHanded_of_change (C := Try.checked) ownP started (by kernel_rfl) Try.func4
    (ChangeSpec.witness6 (enc := enc) (C := Try.checked) false ⟨#[], #[.int .i64 0], []⟩ 8 (by kernel_rfl) (by kernel_rfl) (by kernel_rfl) (by kernel_rfl)) ?_
  intro W base args ds gs before hval0 hW hcnd _
  have hval : ∀ (j : Nat) t v, Try.f4.params[j]? = some t → args[j]? = some v → Value.okWide Try.prog W .any base t v := hval0
  have hW' := hW
  obtain ⟨p, q, hA0, hV, rfl, hfz, hnd⟩ := hW
  have hA : DataW.TrodAll enc Try.prog W 0 (fun _ => true) true Try.f4.params.toList args.toList ds p := hA0
  rw [Try.params4] at hA hval
  obtain ⟨v0, vs0, d0, ds0, p0, q0, hargs, rfl, rfl, h0, r0⟩ := trodAll_cons hA
  obtain ⟨rfl, rfl, rfl⟩ := trodAll_nil r0
  obtain rfl : args = #[v0] := by cases args; simp_all
  obtain ⟨rfl, rfl⟩ := trodVars_none hV
  have k0 := h0
  have lt0 : ∀ x ∈ p0, x.block < W.heap.size := by obtain ⟨m, hm⟩ := k0; exact DataW.trod_lt m _ _ _ hm
  obtain ⟨a0, rfl, rfl, rfl, w0⟩ := open_int Try.underlying3 (hval 0 3 v0 rfl rfl) h0
  have b0 := bounds_i64 w0
  clear hA0 hval0
  refine (walk W a0 b0).mono fun e W' ⟨he, bel⟩ => ?_
  subst he
  exact ⟨_, rfl, _, _, _, [], _, [], hW', trodAll_mk1 (shut_bool Try.underlying4 _), (trodAll_cons_mk (Below.trod laidP (by kernel_rfl) (of_decide_eq_true (by kernel_rfl)) k0 bel lt0) trodAll_mk0), rfl, bel.frame _, fun h => by cases h⟩
theorem over : Rows.frameLimitsRow.holds Try.pinned (OpenSpec.ofChange Rows.frameLimitsSpec) :=
  OpenClaim.holds_of_wide 4 Try.f4 rfl rfl rfl rfl rfl rfl rfl ⟨rfl, rfl, rfl, rfl, rfl⟩ rfl rfl rfl rfl rfl (by kernel_rfl) Try.func4 (by kernel_rfl)
    (of_decide_eq_true (by kernel_rfl)) (by unfold Func.isWrapper; first | (rw [if_pos (by decide +kernel)]; kernel_rfl) | (rw [if_neg (by decide +kernel)]; exact ⟨rfl, rfl⟩))
    (fun os started H enc _ => lifted os started H enc)
theorem proved : Rows.FrameLimitsSaid := over
#print axioms proved
end Go.Proofs.Ytihlfpolkhapcaa.lawFrameLimits
