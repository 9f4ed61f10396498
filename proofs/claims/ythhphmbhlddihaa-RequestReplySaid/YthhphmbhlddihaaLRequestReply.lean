/- RequestReply: any reply has the form that the chapter says, or none. No condition. -/
import Derived.Test.YthhphmbhlddihaaRep3
import Derived.Test.YthhphmbhlddihaaFrame
namespace Go.Proofs.Ythhphmbhlddihaa.lawRequestReply
open Go.ChangeShapes Go.WideShapes Go.ChangeAt Go.RowKit
set_option linter.unusedVariables false
set_option maxRecDepth 4000
theorem go_LRequestReply {A B : Prop} (h : Held B → A := by
  intro hEnd
  repeat (first | refine OW_eqlTr rfl rfl rfl ?_ | refine OW_moveV (.int _ _) rfl ?_ | refine OW_moveV (.slice _ _ _) rfl ?_ | refine OW_moveV (.bool _) rfl ?_ | refine OW_moveV (.pointer _) rfl ?_ | refine OW_moveV (.string _) rfl ?_ | refine OW_moveV (.agg _) rfl ?_ | refine OW_moveV (.tuple _) rfl ?_ | refine OW_nil ?_ | refine thenE_normal ?_ | refine CW_seq ?_ | refine CW_region (by kernel_rfl) ?_ | refine OW_assignV (.int _ _) rfl ?_ | refine OW_assignV (.slice _ _ _) rfl ?_ | refine OW_assignV (.bool _) rfl ?_ | refine OW_assignV (.pointer _) rfl ?_ | refine OW_assignV (.string _) rfl ?_ | refine OW_assignV (.agg _) rfl ?_ | refine OW_assignV (.tuple _) rfl ?_ | refine OW_addI rfl rfl (by omega) ?_ | refine OW_subI rfl rfl (by omega) ?_ | refine OW_mulI rfl rfl (by omega) ?_ | refine OW_lss rfl rfl ?_ | refine OW_extract rfl rfl ?_ | refine OW_gtr rfl rfl ?_ | refine OW_leq rfl rfl ?_ | refine OW_geq rfl rfl ?_ | refine OW_eql rfl rfl ?_ | refine OW_neq rfl rfl ?_ | refine OW_not rfl ?_ | refine OW_pickT rfl _ rfl ?_ | refine OW_pickF rfl (.bool _) rfl ?_ | refine OW_pickB rfl rfl rfl ?_ | refine OW_move ?_ | refine OW_assign ?_ | refine OW_pass rfl ?_ | refine OW_take rfl ?_ | refine OW_lenS (by first | with_reducible exact und_bytes | with_reducible exact und_bytess) rfl ?_ | refine OW_convInt (by first | with_reducible exact und_u8 | with_reducible exact und_u64 | with_reducible exact und_int | with_reducible exact und_u32) (by first | with_reducible exact und_u8 | with_reducible exact und_u64 | with_reducible exact und_int | with_reducible exact und_u32) rfl ?_ | refine OW_add rfl rfl ?_ | refine OW_sub rfl rfl ?_ | refine OW_mul rfl rfl ?_ | refine OW_min2 rfl rfl ?_ | refine OW_max2 rfl rfl ?_ | refine OW_neg rfl ?_ | refine CW_block ?_ | refine CW_condT rfl ?_ | refine CW_condF rfl ?_ | refine CW_exit ?_ | refine CW_ret ?_ | refine CW_skip ?_ | refine LW_seq ?_ | refine LW_regC ?_ | refine LW_condC ?_ | refine LW_regF ?_ | refine LW_condF ?_ | refine FW_seq ?_ | refine FW_region (by kernel_rfl) ?_ | refine FW_block ?_ | refine FW_condT rfl ?_ | refine FW_condF rfl ?_ | refine FW_exit ?_ | refine FW_ret ?_ | refine FW_skip ?_ | refine LW_ret ?_ | refine LW_skip ?_ | refine thenE_exit ?_ | refine thenE_ret ?_ | refine inBlockE_normal ?_ | refine inBlockE_same ?_ | refine inBlockE_ret ?_ | refine inBlockE_ne (by rfl) ?_ | refine OW_eqlB (by with_reducible exact und_bool) rfl rfl ?_ | refine OW_neqB (by with_reducible exact und_bool) rfl rfl ?_ | refine OW_idxS (by with_reducible exact und_bytes) one_u8 rfl rfl _ rfl (by omega) ?_ | refine OW_idxS (by with_reducible exact und_bytess) one_bytes rfl rfl _ rfl (by omega) ?_ | refine OW_load1 (by first | with_reducible exact one_u8 | with_reducible exact one_bytes) rfl _ (by assumption) ?_)
  exact hEnd.out) (k : B) : A := h ⟨k⟩
set_option maxHeartbeats 8000000 in
theorem walk (w : World) (cs : List Value) (r : RP) (h0 : kReply.R w cs r) : Calls Try.prog 8 #[.agg cs.toArray] w (RetV w (.bool true)) := by
  obtain ⟨A, c, rfl, hok⟩ := h0
  have hrl := rcells_length (v := .slice A r.keys.length c) hok.l
  refine calls_of_CW Try.func8 rfl (by simp [Try.ntmps8]) ?_
  rw [Try.ntmps8]
  refine go_LRequestReply (k := ?_)
  refine OW_box _ rfl ?_
  intro w1 g hb hg hlt hx
  have hb : Blk w1 g 69 (rcells r (.slice A r.keys.length c)).toArray := hb
  refine go_LRequestReply (k := ?_)
  refine OW_loadX agg_Rep rfl (rcells r (.slice A r.keys.length c)) hrl hb.atL ?_
  refine go_LRequestReply (k := ?_)
  refine OW_callV Try.func41 (by kernel_rfl) rfl (greatP_any w1 A c r (hok.ext hx)) rfl ?_
  intro w2 hx2
  have hx02 := hx.trans' hx2
  have hb2 := hb.ext hx2
  refine go_LRequestReply (k := ?_)
  refine CW_cond _ rfl (fun hh => ?_) (fun hh => ?_)
  · refine go_LRequestReply (k := ?_)
    exact bodyE_ret1 rfl (.bool true) rfl ⟨rfl, hx02⟩
  clear hh
  refine go_LRequestReply (k := ?_)
  refine OW_loadX agg_Rep rfl (rcells r (.slice A r.keys.length c)) hrl hb2.atL ?_
  refine go_LRequestReply (k := ?_)
  refine OW_callC Try.func42 (by kernel_rfl) rfl (printReply_any w2 A c r (hok.ext hx02)) rfl ?_
  rintro en w3 ⟨hx3, ⟨hm, rfl⟩ | ⟨hm, B, d, rfl, hf3⟩⟩
  · refine ⟨_, rfl, ?_⟩
    have hx03 := hx02.trans' hx3
    have hb3 := hb2.ext hx3
    refine go_LRequestReply (k := ?_)
    refine OW_loadX agg_Rep rfl (rcells r (.slice A r.keys.length c)) hrl hb3.atL ?_
    refine go_LRequestReply (k := ?_)
    refine OW_callV Try.func43 (by kernel_rfl) rfl (refMayReply_any w3 A c r (hok.ext hx03)) rfl ?_
    intro w4 hx4
    rw [hm]
    refine go_LRequestReply (k := ?_)
    exact bodyE_ret1 rfl (.bool true) rfl ⟨rfl, hx03.trans' hx4⟩
  · refine ⟨_, rfl, ?_⟩
    have hx03 := hx02.trans' hx3
    have hb3 := hb2.ext hx3
    have hfl := repF_len hm hok.l
    have hFm := fun w (h : ROk w r A c) => replyForm_any w A c r h hm
    have hbF := hf3.bs
    generalize repF r = F at *
    refine go_LRequestReply (k := ?_)
    refine OW_loadX agg_Rep rfl (rcells r (.slice A r.keys.length c)) hrl hb3.atL ?_
    refine go_LRequestReply (k := ?_)
    refine OW_callV Try.func43 (by kernel_rfl) rfl (refMayReply_any w3 A c r (hok.ext hx03)) rfl ?_
    intro w4 hx4
    rw [hm]
    have hx04 := hx03.trans' hx4
    refine go_LRequestReply (k := ?_)
    refine OW_loadX agg_Rep rfl (rcells r (.slice A r.keys.length c)) hrl (hb3.ext hx4).atL ?_
    refine go_LRequestReply (k := ?_)
    refine OW_callBs Try.func45 (by kernel_rfl) rfl (hFm w4 (hok.ext hx04)) rfl ?_
    intro w5 A5 c5 hf5
    refine go_LRequestReply (k := ?_)
    refine OW_callV Try.func44 (by kernel_rfl) rfl (refSame_any w5 B A5 F F d c5 (hbF.ext (hx4.trans' hf5.ext)) hf5.bs (by omega)) rfl ?_
    intro w6 hx6
    rw [beq_self_eq_true]
    refine go_LRequestReply (k := ?_)
    exact bodyE_ret1 rfl (.bool true) rfl ⟨rfl, (hx04.trans' hf5.ext).trans' hx6⟩
set_option maxRecDepth 100000 in
theorem lifted (os : Os) (started : os.Started) (H : Type) (enc : TypeId × Value → H) :
    ReturnsInHanded {} Try.checked os 8 .any (Rows.requestReplySpec.pre6 enc Try.prog Try.f8 Rows.requestReplyRow.domain false) (Rows.requestReplySpec.post enc Try.prog Try.f8 false true false false) := by
  refine returnsInHanded_of_change_sized (C := Try.checked) ownP started (by kernel_rfl) Try.func8
    (ChangeSpec.witness6 (enc := enc) (C := Try.checked) false ⟨#[], #[.agg (rcells ⟨0, [], [], 0, ⟨0, 0, 0, 0, 0, 0, 0, tz, tz⟩⟩ (.slice none 0 0)).toArray], []⟩ 8 (by kernel_rfl) (by kernel_rfl) (by kernel_rfl) (by kernel_rfl)) ?_
  intro W base args ds gs before hval0 hW hcnd hwt0 _
  have hval : ∀ (j : Nat) t v, Try.f8.params[j]? = some t → args[j]? = some v → Value.okWide Try.prog W .any base t v := hval0
  have hW' := hW
  obtain ⟨p, q, hA0, hV, rfl, hfz, hnd⟩ := hW
  have hA : DataW.TrodAll enc Try.prog W 0 (fun _ => true) true Try.f8.params.toList args.toList ds p := hA0
  have hwt : (DataW.weightsEach Try.prog (Try.f8.params.toList ++ []) (ds ++ gs)).all (· ≤ reachBytes) = true := hwt0
  rw [Try.params8] at hA hval hwt
  obtain ⟨v0, vs0, d0, ds0, p0, q0, hargs, rfl, rfl, h0, r0⟩ := trodAll_cons hA
  obtain ⟨rfl, rfl, rfl⟩ := trodAll_nil r0
  obtain rfl : args = #[v0] := by cases args; simp_all
  obtain ⟨rfl, rfl⟩ := trodVars_none hV
  have k0 := h0
  have lt0 : ∀ x ∈ p0, x.block < W.heap.size := by obtain ⟨m, hm⟩ := k0; exact DataW.trod_lt m _ _ _ hm
  have wk0 : WOk Try.prog 69 d0 := wok_each hwt 0 rfl rfl
  obtain ⟨cs0, a0, rfl, b0⟩ := kd_struct kReply Try.underlying69 (hval 0 69 v0 rfl rfl) h0 wk0
  clear hA0 hval0 hwt0
  refine (walk W cs0 a0 b0).mono fun e W' ⟨he, bel⟩ => ?_
  subst he
  exact ⟨_, rfl, _, _, _, [], _, [], hW', trodAll_mk1 (shut_bool Try.underlying4 _), (trodAll_cons_mk (Below.trod laidP (by kernel_rfl) (of_decide_eq_true (by kernel_rfl)) k0 bel lt0) trodAll_mk0), rfl, bel.frame _, fun h => by cases h⟩
theorem over : Rows.requestReplyRow.holds Try.pinned (OpenSpec.ofChange Rows.requestReplySpec) :=
  OpenClaim.holds_of_wide 8 Try.f8 rfl rfl rfl rfl rfl rfl rfl ⟨rfl, rfl, rfl, rfl, rfl⟩ rfl rfl rfl rfl rfl (by kernel_rfl) Try.func8 (by kernel_rfl)
    (of_decide_eq_true (by kernel_rfl)) (by unfold Func.isWrapper; first | (rw [if_pos (by decide +kernel)]; kernel_rfl) | (rw [if_neg (by decide +kernel)]; exact ⟨rfl, rfl⟩))
    (fun os started H enc _ => lifted os started H enc)
theorem proved : Rows.RequestReplySaid := over
#print axioms proved
end Go.Proofs.Ythhphmbhlddihaa.lawRequestReply
