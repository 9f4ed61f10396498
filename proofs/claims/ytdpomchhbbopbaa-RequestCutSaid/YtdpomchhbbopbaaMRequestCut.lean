/- RequestCut: a beginning of a form is none, nor a form with bytes behind it. No condition. -/
import Derived.Test.YtdpomchhbbopbaaGr3
import Derived.Test.YtdpomchhbbopbaaGr21
namespace Go.Proofs.Ytdpomchhbbopbaa.lawRequestCut
open Go.ChangeShapes Go.WideShapes Go.ChangeAt Go.RowKit
set_option linter.unusedVariables false
set_option maxRecDepth 4000
theorem go_LRequestCut {A B : Prop} (h : Held B → A := by
  intro hEnd
  repeat (first | refine OW_neqF rfl rfl rfl ?_ | refine OW_eqlTr rfl rfl rfl ?_ | refine OW_fieldBL fldo_Q0 rfl ?_ | refine OW_fieldBL fldo_Q1 rfl ?_ | refine OW_fieldBL fldo_Q2 rfl ?_ | refine OW_fieldBL fldo_Q3 rfl ?_ | refine OW_fieldBL fldo_Q4 rfl ?_ | refine OW_fieldBL fldo_Q5 rfl ?_ | refine OW_fieldBL fldo_Q6 rfl ?_ | refine OW_fieldBL fldo_Q7 rfl ?_ | refine OW_fieldBL fldo_Q8 rfl ?_ | refine OW_fieldBL fldo_Q9 rfl ?_ | refine OW_fieldG fldo_G0 rfl ?_ | refine OW_fieldG fldo_G1 rfl ?_ | refine OW_fieldG fldo_G2 rfl ?_ | refine OW_fieldBL fldo_G0 rfl ?_ | refine OW_fieldBL fldo_G1 rfl ?_ | refine OW_fieldBL fldo_G2 rfl ?_ | refine OW_nilCheck rfl ?_ | refine OW_lenL und_string rfl ?_ | refine OW_eqlE rfl rfl ?_ | refine OW_moveV (.int _ _) rfl ?_ | refine OW_moveV (.slice _ _ _) rfl ?_ | refine OW_moveV (.bool _) rfl ?_ | refine OW_moveV (.pointer _) rfl ?_ | refine OW_moveV (.string _) rfl ?_ | refine OW_moveV (.agg _) rfl ?_ | refine OW_moveV (.tuple _) rfl ?_ | refine OW_nil ?_ | refine thenE_normal ?_ | refine CW_seq ?_ | refine CW_region (by kernel_rfl) ?_ | refine OW_assignV (.int _ _) rfl ?_ | refine OW_assignV (.slice _ _ _) rfl ?_ | refine OW_assignV (.bool _) rfl ?_ | refine OW_assignV (.pointer _) rfl ?_ | refine OW_assignV (.string _) rfl ?_ | refine OW_assignV (.agg _) rfl ?_ | refine OW_assignV (.tuple _) rfl ?_ | refine OW_addI rfl rfl (by omega) ?_ | refine OW_subI rfl rfl (by omega) ?_ | refine OW_mulI rfl rfl (by omega) ?_ | refine OW_lss rfl rfl ?_ | refine OW_extract rfl rfl ?_ | refine OW_gtr rfl rfl ?_ | refine OW_leq rfl rfl ?_ | refine OW_geq rfl rfl ?_ | refine OW_eql rfl rfl ?_ | refine OW_neq rfl rfl ?_ | refine OW_not rfl ?_ | refine OW_pickT rfl _ rfl ?_ | refine OW_pickF rfl (.bool _) rfl ?_ | refine OW_pickB rfl rfl rfl ?_ | refine OW_move ?_ | refine OW_assign ?_ | refine OW_pass rfl ?_ | refine OW_take rfl ?_ | refine OW_lenS (by first | with_reducible exact und_bytes | with_reducible exact und_bytess) rfl ?_ | refine OW_convInt (by first | with_reducible exact und_u8 | with_reducible exact und_u64 | with_reducible exact und_int | with_reducible exact und_u32) (by first | with_reducible exact und_u8 | with_reducible exact und_u64 | with_reducible exact und_int | with_reducible exact und_u32) rfl ?_ | refine OW_add rfl rfl ?_ | refine OW_sub rfl rfl ?_ | refine OW_mul rfl rfl ?_ | refine OW_min2 rfl rfl ?_ | refine OW_max2 rfl rfl ?_ | refine OW_neg rfl ?_ | refine CW_block ?_ | refine CW_condT rfl ?_ | refine CW_condF rfl ?_ | refine CW_exit ?_ | refine CW_ret ?_ | refine CW_skip ?_ | refine LW_seq ?_ | refine LW_regC ?_ | refine LW_condC ?_ | refine LW_regF ?_ | refine LW_condF ?_ | refine FW_seq ?_ | refine FW_region (by kernel_rfl) ?_ | refine FW_block ?_ | refine FW_condT rfl ?_ | refine FW_condF rfl ?_ | refine FW_exit ?_ | refine FW_ret ?_ | refine FW_skip ?_ | refine LW_ret ?_ | refine LW_skip ?_ | refine thenE_exit ?_ | refine thenE_ret ?_ | refine inBlockE_normal ?_ | refine inBlockE_same ?_ | refine inBlockE_ret ?_ | refine inBlockE_ne (by rfl) ?_ | refine OW_eqlB (by with_reducible exact und_bool) rfl rfl ?_ | refine OW_neqB (by with_reducible exact und_bool) rfl rfl ?_ | refine OW_idxS (by with_reducible exact und_bytes) one_u8 rfl rfl _ rfl (by omega) ?_ | refine OW_idxS (by with_reducible exact und_bytess) one_bytes rfl rfl _ rfl (by omega) ?_ | refine OW_load1 (by first | with_reducible exact one_u8 | with_reducible exact one_bytes) rfl _ (by assumption) ?_ | (refine OW_isLoad ?_; refine OW_loadBk (by first | with_reducible exact one_u8 | with_reducible exact one_int | with_reducible exact one_str | with_reducible exact one_bytes) rfl (by assumption) _ (by rfl) ?_))
  exact hEnd.out) (k : B) : A := h ⟨k⟩
set_option maxHeartbeats 8000000 in
theorem walk (w : World) (cs : List Value) (q : QR) (h0 : kReq.R w cs q) (v1 : Value) (cut : Int) (h1 : kI.R w [v1] cut) (v2 : Value) (bh : List UInt8) (h2 : kBs.R w [v2] bh) : Calls Try.prog 12 #[.agg cs.toArray, v1, v2] w (RetV w (.bool true)) := by
  obtain ⟨A, c, rfl, hok⟩ := h0
  obtain ⟨hv1, hic⟩ := h1
  obtain ⟨C, cC, hv2, ⟨hcC, hcC2⟩, hC⟩ := h2
  injection hv1 with hv1
  injection hv2 with hv2
  subst hv1; subst hv2
  have hI := hok.i.i
  have hIq : I64 q.expiry ∧ I64 q.serial := ⟨hI.2.2.2.2.1, hI.2.2.2.2.2⟩
  have hQI := hok.i
  refine calls_of_CW Try.func12 rfl (by simp [Try.ntmps12]) ?_
  rw [Try.ntmps12]
  refine go_LRequestCut (k := ?_)
  refine OW_box _ rfl ?_
  intro w1 g1 hb1 hg1 hlt1 hx1
  have hb1 : Blk w1 g1 39 (qcells q (.slice A q.token.length c)).toArray := hb1
  refine go_LRequestCut (k := ?_)
  refine OW_callV Try.func58 (by kernel_rfl) rfl (awake15_any w1) rfl ?_
  intro w1b hx1b
  replace hb1 := hb1.ext hx1b
  have hx01 := hx1.trans' hx1b
  refine go_LRequestCut (k := ?_)
  refine OW_loadX agg_Req rfl (qcells q (.slice A q.token.length c)) rfl hb1.atL ?_
  refine go_LRequestCut (k := ?_)
  refine OW_callC Try.func21 (by kernel_rfl) rfl (greatQ_any w1b A c q) rfl ?_
  rintro en w2 ⟨hx2, rfl | ⟨rfl, htk, _⟩⟩
  · refine ⟨_, rfl, ?_⟩
    refine go_LRequestCut (k := ?_)
    exact bodyE_ret1 rfl (.bool true) rfl ⟨rfl, hx01.trans' hx2⟩
  refine ⟨_, rfl, ?_⟩
  have hx02 := hx01.trans' hx2
  replace hb1 := hb1.ext hx2
  refine go_LRequestCut (k := ?_)
  refine CW_cond _ rfl (fun hh => ?_) (fun hh => ?_)
  · refine go_LRequestCut (k := ?_)
    exact bodyE_ret1 rfl (.bool true) rfl ⟨rfl, hx02⟩
  have hbl : bh.length ≤ 100 := by have := of_decide_eq_false hh; omega
  clear hh
  refine go_LRequestCut (k := ?_)
  refine OW_loadX agg_Req rfl (qcells q (.slice A q.token.length c)) rfl hb1.atL ?_
  refine go_LRequestCut (k := ?_)
  refine OW_callC Try.func24 (by kernel_rfl) rfl (printReq_any w2 A c q (hok.ext hx02)) rfl ?_
  rintro en w3 ⟨hx3, ⟨hm, rfl⟩ | ⟨hm, B, d, rfl, hf3⟩⟩
  · refine ⟨_, rfl, ?_⟩
    refine go_LRequestCut (k := ?_)
    exact bodyE_ret1 rfl (.bool true) rfl ⟨rfl, hx02.trans' hx3⟩
  refine ⟨_, rfl, ?_⟩
  have hx03 := hx02.trans' hx3
  obtain ⟨hF1, hF2⟩ := parQ_form hm hQI
  have hFl : (reqF q).length ≤ 474 := (good_req hm hQI).2.2
  have hcutF : ∀ m, m < (reqF q).length → parQE ((reqF q).take m) = 150 := fun m h => by
    unfold parQE
    rw [if_pos (show ((reqF q).take m).length ≤ 1024 by rw [List.length_take]; omega), good_cut hm h]
    rfl
  have hbehF : bh ≠ [] → parQE (reqF q ++ bh) = 150 := fun h => by
    unfold parQE
    rw [if_pos (show (reqF q ++ bh).length ≤ 1024 by rw [List.length_append]; omega), good_behind hm hQI h]
    rfl
  have hbF := hf3.bs
  have hcF := hf3.cap
  generalize reqF q = F at *
  clear hf3 hb1 hm hF1
  refine go_LRequestCut (k := ?_)
  refine OW_meet (fun e' w' => e' 1 = .int .i64 cut ∧ e' 2 = .slice C bh.length cC ∧ e' 7 = .slice B F.length d ∧ e' 36 = .bool (decide (0 < cut) && decide (cut ≤ (F.length : Int))) ∧ w' = w3) ?_ ?_
  · refine OW_split 31 _ rfl (fun h => ?_) (fun h => ?_)
    · rw [h]
      refine go_LRequestCut (k := ?_)
      exact ⟨rfl, rfl, rfl, rfl, rfl, rfl⟩
    · rw [h]
      refine go_LRequestCut (k := ?_)
      exact ⟨rfl, rfl, rfl, rfl, rfl, rfl⟩
  rintro e4 w4 ⟨q1, q2, q7, q36, rfl⟩
  rw [upd_self q1, upd_self q2, upd_self q7, upd_self q36]
  refine go_LRequestCut (k := ?_)
  refine CW_meet (fun e' w' => e' 2 = .slice C bh.length cC ∧ e' 7 = .slice B F.length d ∧ Ext w4 w') ?_ ?_
  · refine CW_cond _ rfl (fun h => ?_) (fun h => ?_)
    rotate_left 1
    · refine go_LRequestCut (k := ?_)
      exact ⟨rfl, rfl, rfl, Ext.rfl' _⟩
    rw [Bool.and_eq_true, decide_eq_true_eq, decide_eq_true_eq] at h
    obtain ⟨m, hm⟩ : ∃ m : Nat, (m : Int) = F.length - cut := ⟨(F.length - cut).toNat, by omega⟩
    refine go_LRequestCut (k := ?_)
    refine OW_sliceBs und_bytes one_u8 hbF rfl hcF rfl rfl ⟨_, rfl⟩ 0 m rfl hm.symm (by omega) ?_
    intro A5 hb5 hl5
    rw [show (F.drop 0).take (m - 0) = F.take m from rfl] at hb5 hl5
    rw [← hl5]
    refine go_LRequestCut (k := ?_)
    refine OW_callC Try.func44 (by kernel_rfl) rfl (ParseReq_any w4 A5 (d - 0) (F.take m) hb5 (by rw [hl5]; omega) (by omega)) rfl ?_
    rintro en w5 ⟨B5, d5, rfl, hO5, hx5⟩
    refine ⟨_, rfl, ?_⟩
    rw [hcutF m (by omega)]
    refine go_LRequestCut (k := ?_)
    refine OW_allocA agg_Req ?_
    intro u5a g5 hbq5 hgq5 hlq5 hxq5
    refine go_LRequestCut (k := ?_)
    refine OW_storeA agg_Req rfl (qcells (parQ (F.take m)) (.slice B5 ((parQ (F.take m))).token.length d5)) rfl rfl hbq5 (by kernel_rfl) (qcells_one _ _ _ _) ?_
    intro w6 hbs5 hgs5
    have hxs5 : Ext w5 w6 := (Keeps.of_only hgs5 (S := (· = g5)) rfl).ext hxq5 (fun j hj => by have hj : j = g5 := hj; omega)
    have hbs5 : Blk w6 g5 39 (qcells (parQ (F.take m)) (.slice B5 ((parQ (F.take m))).token.length d5)).toArray := hbs5
    clear hbq5 hgs5
    refine go_LRequestCut (k := ?_)
    exact ⟨rfl, rfl, rfl, hx5.trans' hxs5⟩
  clear q36
  rintro e5 w5 ⟨q2, q7, hx5⟩
  rw [upd_self q2, upd_self q7]
  have hx05 := hx03.trans' hx5
  refine go_LRequestCut (k := ?_)
  refine OW_lit [.slice B F.length d, .slice C bh.length cC] und_bytess info_bytes rfl rfl (by simp [Value.oneCell']) (by decide) ?_
  intro w6 g6 hb6 hg6 hx6
  have hcat := cat_lit2 (c := 2) hb6 (hbF.ext (hx5.trans' hx6)) rfl (hC.ext (hx05.trans' hx6)) rfl (by omega)
  refine go_LRequestCut (k := ?_)
  refine OW_callBs Try.func50 (by kernel_rfl) rfl hcat rfl ?_
  intro w7 A7 c7 hf7
  have hx07 := (hx05.trans' hx6).trans' hf7.ext
  have hal : (F ++ bh).length = F.length + bh.length := List.length_append
  refine go_LRequestCut (k := ?_)
  refine OW_callC Try.func44 (by kernel_rfl) rfl (ParseReq_any w7 A7 c7 (F ++ bh) hf7.bs hf7.cap (by omega)) rfl ?_
  rintro en w8 ⟨B8, d8, rfl, hO8, hx8⟩
  refine ⟨_, rfl, ?_⟩
  refine go_LRequestCut (k := ?_)
  refine OW_allocA agg_Req ?_
  intro u8a g8 hbq8 hgq8 hlq8 hxq8
  refine go_LRequestCut (k := ?_)
  refine OW_storeA agg_Req rfl (qcells (parQ (F ++ bh)) (.slice B8 ((parQ (F ++ bh))).token.length d8)) rfl rfl hbq8 (by kernel_rfl) (qcells_one _ _ _ _) ?_
  intro w9 hbs8 hgs8
  have hxs8 : Ext w8 w9 := (Keeps.of_only hgs8 (S := (· = g8)) rfl).ext hxq8 (fun j hj => by have hj : j = g8 := hj; omega)
  have hbs8 : Blk w9 g8 39 (qcells (parQ (F ++ bh)) (.slice B8 ((parQ (F ++ bh))).token.length d8)).toArray := hbs8
  clear hbq8 hgs8
  have hx09 := hx07.trans' (hx8.trans' hxs8)
  by_cases hz : bh = []
  · subst hz
    rw [List.append_nil, hF2]
    refine go_LRequestCut (k := ?_)
    exact bodyE_ret1 rfl (.bool true) rfl ⟨rfl, hx09⟩
  · rw [hbehF hz]
    have hz2 : ((bh.length : Int) == 0) = false := by
      rw [beq_eq_false_iff_ne]
      intro h
      exact hz (List.eq_nil_of_length_eq_zero (by omega))
    refine go_LRequestCut (k := ?_)
    rw [hz2]
    refine go_LRequestCut (k := ?_)
    exact bodyE_ret1 rfl (.bool true) rfl ⟨rfl, hx09⟩
set_option maxRecDepth 100000 in
theorem lifted (os : Os) (started : os.Started) (H : Type) (enc : TypeId × Value → H) :
    ReturnsInHanded {} Try.checked os 12 .any (Rows.requestCutSpec.pre6 enc Try.prog Try.f12 Rows.requestCutRow.domain false) (Rows.requestCutSpec.post enc Try.prog Try.f12 false true false false) := by
  refine returnsInHanded_of_change_sized (C := Try.checked) ownP started (by kernel_rfl) Try.func12
    (ChangeSpec.witness6 (enc := enc) (C := Try.checked) false ⟨#[], #[.agg (qcells ⟨0, [], [], [], [], 0, 0, 0, 0, 0, 0, 0⟩ (.slice none 0 0)).toArray, .int .i64 0, .slice none 0 0], []⟩ 8 (by kernel_rfl) (by kernel_rfl) (by kernel_rfl) (by kernel_rfl)) ?_
  intro W base args ds gs before hval0 hW hcnd hwt0 _
  have hval : ∀ (j : Nat) t v, Try.f12.params[j]? = some t → args[j]? = some v → Value.okWide Try.prog W .any base t v := hval0
  have hW' := hW
  obtain ⟨p, q, hA0, hV, rfl, hfz, hnd⟩ := hW
  have hA : DataW.TrodAll enc Try.prog W 0 (fun _ => true) true Try.f12.params.toList args.toList ds p := hA0
  have hwt : (DataW.weightsEach Try.prog (Try.f12.params.toList ++ []) (ds ++ gs)).all (· ≤ reachBytes) = true := hwt0
  rw [Try.params12] at hA hval hwt
  obtain ⟨v0, vs0, d0, ds0, p0, q0, hargs, rfl, rfl, h0, r0⟩ := trodAll_cons hA
  obtain ⟨v1, vs1, d1, ds1, p1, q1, rfl, rfl, rfl, h1, r1⟩ := trodAll_cons r0
  obtain ⟨v2, vs2, d2, ds2, p2, q2, rfl, rfl, rfl, h2, r2⟩ := trodAll_cons r1
  obtain ⟨rfl, rfl, rfl⟩ := trodAll_nil r2
  obtain rfl : args = #[v0, v1, v2] := by cases args; simp_all
  obtain ⟨rfl, rfl⟩ := trodVars_none hV
  have k0 := h0
  have lt0 : ∀ x ∈ p0, x.block < W.heap.size := by obtain ⟨m, hm⟩ := k0; exact DataW.trod_lt m _ _ _ hm
  have wk0 : WOk Try.prog 39 d0 := wok_each hwt 0 rfl rfl
  obtain ⟨cs0, a0, rfl, b0⟩ := kd_struct kReq Try.underlying39 (hval 0 39 v0 rfl rfl) h0 wk0
  have k1 := h1
  have lt1 : ∀ x ∈ p1, x.block < W.heap.size := by obtain ⟨m, hm⟩ := k1; exact DataW.trod_lt m _ _ _ hm
  have wk1 : WOk Try.prog 3 d1 := wok_each hwt 1 rfl rfl
  obtain ⟨a1, b1⟩ := kd_int kI und_int (hval 1 3 v1 rfl rfl) h1 wk1
  have k2 := h2
  have lt2 : ∀ x ∈ p2, x.block < W.heap.size := by obtain ⟨m, hm⟩ := k2; exact DataW.trod_lt m _ _ _ hm
  have wk2 : WOk Try.prog 31 d2 := wok_each hwt 2 rfl rfl
  obtain ⟨a2, b2⟩ := kd_slice kBs und_bytes (hval 2 31 v2 rfl rfl) h2 wk2
  clear hA0 hval0 hwt0
  refine (walk W cs0 a0 b0 v1 a1 b1 v2 a2 b2).mono fun e W' ⟨he, bel⟩ => ?_
  subst he
  exact ⟨_, rfl, _, _, _, [], _, [], hW', trodAll_mk1 (shut_bool Try.underlying4 _), (trodAll_cons_mk (Below.trod laidP (by kernel_rfl) (of_decide_eq_true (by kernel_rfl)) k0 bel lt0) (trodAll_cons_mk (Below.trod laidP (by kernel_rfl) (of_decide_eq_true (by kernel_rfl)) k1 bel lt1) (trodAll_cons_mk (Below.trod laidP (by kernel_rfl) (of_decide_eq_true (by kernel_rfl)) k2 bel lt2) trodAll_mk0))), rfl, bel.frame _, fun h => by cases h⟩
theorem over : Rows.requestCutRow.holds Try.pinned (OpenSpec.ofChange Rows.requestCutSpec) :=
  OpenClaim.holds_of_wide 12 Try.f12 rfl rfl rfl rfl rfl rfl rfl ⟨rfl, rfl, rfl, rfl, rfl⟩ rfl rfl rfl rfl rfl (by kernel_rfl) Try.func12 (by kernel_rfl)
    (of_decide_eq_true (by kernel_rfl)) (by unfold Func.isWrapper; first | (rw [if_pos (by decide +kernel)]; kernel_rfl) | (rw [if_neg (by decide +kernel)]; exact ⟨rfl, rfl⟩))
    (fun os started H enc _ => lifted os started H enc)
theorem proved : Rows.RequestCutSaid := over
#print axioms proved
end Go.Proofs.Ytdpomchhbbopbaa.lawRequestCut
