/- RequestBack: a request that may be is read from its form; what is read has that form. No condition. -/
import Derived.Test.YtdpomchhbbopbaaGr3
import Derived.Test.YtdpomchhbbopbaaGr21
namespace Go.Proofs.Ytdpomchhbbopbaa.lawRequestBack
open Go.ChangeShapes Go.WideShapes Go.ChangeAt Go.RowKit
set_option linter.unusedVariables false
set_option maxRecDepth 4000
theorem go_LRequestBack {A B : Prop} (h : Held B → A := by
  intro hEnd
  repeat (first | refine OW_neqF rfl rfl rfl ?_ | refine OW_eqlTr rfl rfl rfl ?_ | refine OW_fieldBL fldo_Q0 rfl ?_ | refine OW_fieldBL fldo_Q1 rfl ?_ | refine OW_fieldBL fldo_Q2 rfl ?_ | refine OW_fieldBL fldo_Q3 rfl ?_ | refine OW_fieldBL fldo_Q4 rfl ?_ | refine OW_fieldBL fldo_Q5 rfl ?_ | refine OW_fieldBL fldo_Q6 rfl ?_ | refine OW_fieldBL fldo_Q7 rfl ?_ | refine OW_fieldBL fldo_Q8 rfl ?_ | refine OW_fieldBL fldo_Q9 rfl ?_ | refine OW_fieldG fldo_G0 rfl ?_ | refine OW_fieldG fldo_G1 rfl ?_ | refine OW_fieldG fldo_G2 rfl ?_ | refine OW_fieldBL fldo_G0 rfl ?_ | refine OW_fieldBL fldo_G1 rfl ?_ | refine OW_fieldBL fldo_G2 rfl ?_ | refine OW_nilCheck rfl ?_ | refine OW_lenL und_string rfl ?_ | refine OW_eqlE rfl rfl ?_ | refine OW_moveV (.int _ _) rfl ?_ | refine OW_moveV (.slice _ _ _) rfl ?_ | refine OW_moveV (.bool _) rfl ?_ | refine OW_moveV (.pointer _) rfl ?_ | refine OW_moveV (.string _) rfl ?_ | refine OW_moveV (.agg _) rfl ?_ | refine OW_moveV (.tuple _) rfl ?_ | refine OW_nil ?_ | refine thenE_normal ?_ | refine CW_seq ?_ | refine CW_region (by kernel_rfl) ?_ | refine OW_assignV (.int _ _) rfl ?_ | refine OW_assignV (.slice _ _ _) rfl ?_ | refine OW_assignV (.bool _) rfl ?_ | refine OW_assignV (.pointer _) rfl ?_ | refine OW_assignV (.string _) rfl ?_ | refine OW_assignV (.agg _) rfl ?_ | refine OW_assignV (.tuple _) rfl ?_ | refine OW_addI rfl rfl (by omega) ?_ | refine OW_subI rfl rfl (by omega) ?_ | refine OW_mulI rfl rfl (by omega) ?_ | refine OW_lss rfl rfl ?_ | refine OW_extract rfl rfl ?_ | refine OW_gtr rfl rfl ?_ | refine OW_leq rfl rfl ?_ | refine OW_geq rfl rfl ?_ | refine OW_eql rfl rfl ?_ | refine OW_neq rfl rfl ?_ | refine OW_not rfl ?_ | refine OW_pickT rfl _ rfl ?_ | refine OW_pickF rfl (.bool _) rfl ?_ | refine OW_pickB rfl rfl rfl ?_ | refine OW_move ?_ | refine OW_assign ?_ | refine OW_pass rfl ?_ | refine OW_take rfl ?_ | refine OW_lenS (by first | with_reducible exact und_bytes | with_reducible exact und_bytess) rfl ?_ | refine OW_convInt (by first | with_reducible exact und_u8 | with_reducible exact und_u64 | with_reducible exact und_int | with_reducible exact und_u32) (by first | with_reducible exact und_u8 | with_reducible exact und_u64 | with_reducible exact und_int | with_reducible exact und_u32) rfl ?_ | refine OW_add rfl rfl ?_ | refine OW_sub rfl rfl ?_ | refine OW_mul rfl rfl ?_ | refine OW_min2 rfl rfl ?_ | refine OW_max2 rfl rfl ?_ | refine OW_neg rfl ?_ | refine CW_block ?_ | refine CW_condT rfl ?_ | refine CW_condF rfl ?_ | refine CW_exit ?_ | refine CW_ret ?_ | refine CW_skip ?_ | refine LW_seq ?_ | refine LW_regC ?_ | refine LW_condC ?_ | refine LW_regF ?_ | refine LW_condF ?_ | refine FW_seq ?_ | refine FW_region (by kernel_rfl) ?_ | refine FW_block ?_ | refine FW_condT rfl ?_ | refine FW_condF rfl ?_ | refine FW_exit ?_ | refine FW_ret ?_ | refine FW_skip ?_ | refine LW_ret ?_ | refine LW_skip ?_ | refine thenE_exit ?_ | refine thenE_ret ?_ | refine inBlockE_normal ?_ | refine inBlockE_same ?_ | refine inBlockE_ret ?_ | refine inBlockE_ne (by rfl) ?_ | refine OW_eqlB (by with_reducible exact und_bool) rfl rfl ?_ | refine OW_neqB (by with_reducible exact und_bool) rfl rfl ?_ | refine OW_idxS (by with_reducible exact und_bytes) one_u8 rfl rfl _ rfl (by omega) ?_ | refine OW_idxS (by with_reducible exact und_bytess) one_bytes rfl rfl _ rfl (by omega) ?_ | refine OW_load1 (by first | with_reducible exact one_u8 | with_reducible exact one_bytes) rfl _ (by assumption) ?_ | (refine OW_isLoad ?_; refine OW_loadBk (by first | with_reducible exact one_u8 | with_reducible exact one_int | with_reducible exact one_str | with_reducible exact one_bytes) rfl (by assumption) _ (by rfl) ?_))
  exact hEnd.out) (k : B) : A := h ⟨k⟩
set_option maxHeartbeats 8000000 in
theorem walk (w : World) (cs : List Value) (q : QR) (h0 : kReq.R w cs q) (v1 : Value) (b : List UInt8) (h1 : kBs.R w [v1] b) : Calls Try.prog 14 #[.agg cs.toArray, v1] w (RetV w (.bool true)) := by
  obtain ⟨A, c, rfl, hok⟩ := h0
  obtain ⟨C, cC, hv2, ⟨hcC, hcC2⟩, hC⟩ := h1
  injection hv2 with hv2
  subst hv2
  have hI := hok.i.i
  have hIq : I64 q.expiry ∧ I64 q.serial := ⟨hI.2.2.2.2.1, hI.2.2.2.2.2⟩
  have hQI := hok.i
  refine calls_of_CW Try.func14 rfl (by simp [Try.ntmps14]) ?_
  rw [Try.ntmps14]
  refine go_LRequestBack (k := ?_)
  refine OW_box _ rfl ?_
  intro w1 g1 hb1 hg1 hlt1 hx1
  have hb1 : Blk w1 g1 39 (qcells q (.slice A q.token.length c)).toArray := hb1
  refine go_LRequestBack (k := ?_)
  refine OW_callV Try.func58 (by kernel_rfl) rfl (awake15_any w1) rfl ?_
  intro w1b hx1b
  replace hb1 := hb1.ext hx1b
  have hx01 := hx1.trans' hx1b
  refine go_LRequestBack (k := ?_)
  refine OW_loadX agg_Req rfl (qcells q (.slice A q.token.length c)) rfl hb1.atL ?_
  refine go_LRequestBack (k := ?_)
  refine OW_callC Try.func21 (by kernel_rfl) rfl (greatQ_any w1b A c q) rfl ?_
  rintro en w2 ⟨hx2, rfl | ⟨rfl, htk, _⟩⟩
  · refine ⟨_, rfl, ?_⟩
    refine go_LRequestBack (k := ?_)
    exact bodyE_ret1 rfl (.bool true) rfl ⟨rfl, hx01.trans' hx2⟩
  refine ⟨_, rfl, ?_⟩
  have hx02 := hx01.trans' hx2
  replace hb1 := hb1.ext hx2
  refine go_LRequestBack (k := ?_)
  refine CW_cond _ rfl (fun hh => ?_) (fun hh => ?_)
  · refine go_LRequestBack (k := ?_)
    exact bodyE_ret1 rfl (.bool true) rfl ⟨rfl, hx02⟩
  have hbl : b.length ≤ 3000 := by have := of_decide_eq_false hh; omega
  clear hh
  refine go_LRequestBack (k := ?_)
  refine OW_loadX agg_Req rfl (qcells q (.slice A q.token.length c)) rfl hb1.atL ?_
  refine go_LRequestBack (k := ?_)
  refine OW_callC Try.func24 (by kernel_rfl) rfl (printReq_any w2 A c q (hok.ext hx02)) rfl ?_
  rintro en w3 ⟨hx3, ⟨hm, rfl⟩ | ⟨hm, B, d, rfl, hf3⟩⟩
  · refine ⟨_, rfl, ?_⟩
    have hx03 := hx02.trans' hx3
    clear hb1
    refine go_LRequestBack (k := ?_)
    refine OW_callC Try.func44 (by kernel_rfl) rfl (ParseReq_any w3 C cC b (hC.ext hx03) hcC (by omega)) rfl ?_
    rintro en w20 ⟨B2, d2, rfl, hO2, hy1⟩
    refine ⟨_, rfl, ?_⟩
    have hR2 := parQ_ok hO2
    by_cases hE : parQE b = 0
    · obtain ⟨p1, p2, p3⟩ := parQ_good hE
      have hbk := goodQ_back p2
      rw [← p3] at hbk
      rw [hE]
      refine go_LRequestBack (k := ?_)
      refine OW_allocA agg_Req ?_
      intro u20a g20 hbq20 hgq20 hlq20 hxq20
      refine go_LRequestBack (k := ?_)
      refine OW_storeA agg_Req rfl (qcells (parQ b) (.slice B2 ((parQ b)).token.length d2)) rfl rfl hbq20 (by kernel_rfl) (qcells_one _ _ _ _) ?_
      intro w21 hbs20 hgs20
      have hxs20 : Ext w20 w21 := (Keeps.of_only hgs20 (S := (· = g20)) rfl).ext hxq20 (fun j hj => by have hj : j = g20 := hj; omega)
      have hbs20 : Blk w21 g20 39 (qcells (parQ b) (.slice B2 ((parQ b)).token.length d2)).toArray := hbs20
      clear hbq20 hgs20
      replace hR2 := hR2.ext hxs20
      have hx021 := hx03.trans' (hy1.trans' hxs20)
      obtain ⟨r2, hr2⟩ : ∃ r2, parQ b = r2 := ⟨_, rfl⟩
      rw [hr2] at hbk hR2 hbs20
      refine go_LRequestBack (k := ?_)
      refine OW_loadX agg_Req rfl (qcells r2 (.slice B2 r2.token.length d2)) rfl hbs20.atL ?_
      refine go_LRequestBack (k := ?_)
      refine OW_callC Try.func24 (by kernel_rfl) rfl (printReq_any w21 B2 d2 r2 hR2) rfl ?_
      rintro en w22 ⟨hx22, ⟨hm2, rfl⟩ | ⟨hm2, B3, d3, rfl, hf22⟩⟩
      · rw [hbk.1] at hm2; cases hm2
      refine ⟨_, rfl, ?_⟩
      rw [hbk.2] at hf22 ⊢
      refine go_LRequestBack (k := ?_)
      refine OW_callV Try.func57 (by kernel_rfl) rfl (same_any w22 B3 C b b d3 cC hf22.bs (hC.ext (hx021.trans' hx22)) hf22.cap (by omega)) rfl ?_
      intro w23 hx23
      rw [show (b == b) = true from beq_self_eq_true _]
      refine go_LRequestBack (k := ?_)
      exact bodyE_ret1 rfl (.bool true) rfl ⟨rfl, (hx021.trans' hx22).trans' hx23⟩
    · rw [parQ_bad hE] at hR2 ⊢
      refine go_LRequestBack (k := ?_)
      refine OW_allocA agg_Req ?_
      intro u20a g20 hbq20 hgq20 hlq20 hxq20
      refine go_LRequestBack (k := ?_)
      refine OW_storeA agg_Req rfl (qcells q0 (.slice B2 (q0).token.length d2)) rfl rfl hbq20 (by kernel_rfl) (qcells_one _ _ _ _) ?_
      intro w21 hbs20 hgs20
      have hxs20 : Ext w20 w21 := (Keeps.of_only hgs20 (S := (· = g20)) rfl).ext hxq20 (fun j hj => by have hj : j = g20 := hj; omega)
      have hbs20 : Blk w21 g20 39 (qcells q0 (.slice B2 (q0).token.length d2)).toArray := hbs20
      clear hbq20 hgs20
      replace hR2 := hR2.ext hxs20
      have hne : (parQE b != 0) = true := by simp [hE]
      refine go_LRequestBack (k := ?_)
      rw [hne]
      refine go_LRequestBack (k := ?_)
      refine OW_loadX agg_Req rfl (qcells q0 (.slice B2 q0.token.length d2)) rfl hbs20.atL ?_
      refine go_LRequestBack (k := ?_)
      refine OW_build _ _ bld_Q0 rfl ?_
      refine go_LRequestBack (k := ?_)
      refine OW_callV Try.func45 (by kernel_rfl) rfl (sameReq_any w21 B2 none d2 0 q0 hR2.bs (Bs.nil _ _) (by decide) ⟨by unfold I64 q0; simp, by unfold I64 q0; simp⟩) rfl ?_
      intro w22 hx22
      refine go_LRequestBack (k := ?_)
      exact bodyE_ret1 rfl (.bool true) rfl ⟨rfl, (hx03.trans' (hy1.trans' hxs20)).trans' hx22⟩
  refine ⟨_, rfl, ?_⟩
  have hx03 := hx02.trans' hx3
  replace hb1 := hb1.ext hx3
  obtain ⟨hF1, hF2⟩ := parQ_form hm hQI
  have hFl : (reqF q).length ≤ 474 := (good_req hm hQI).2.2
  have hbF := hf3.bs
  have hcF := hf3.cap
  generalize reqF q = F at *
  clear hf3
  refine go_LRequestBack (k := ?_)
  refine OW_callC Try.func44 (by kernel_rfl) rfl (ParseReq_any w3 B d F hbF hcF (by omega)) rfl ?_
  rintro en w5 ⟨B5, d5, rfl, hO5, hx5⟩
  refine ⟨_, rfl, ?_⟩
  rw [hF2]
  rw [hF1] at hO5 ⊢
  have hT5 := own_rd hO5
  refine go_LRequestBack (k := ?_)
  refine OW_allocA agg_Req ?_
  intro u5a g5 hbq5 hgq5 hlq5 hxq5
  refine go_LRequestBack (k := ?_)
  refine OW_storeA agg_Req rfl (qcells q (.slice B5 (q).token.length d5)) rfl rfl hbq5 (by kernel_rfl) (qcells_one _ _ _ _) ?_
  intro w6 hbs5 hgs5
  have hxs5 : Ext w5 w6 := (Keeps.of_only hgs5 (S := (· = g5)) rfl).ext hxq5 (fun j hj => by have hj : j = g5 := hj; omega)
  have hbs5 : Blk w6 g5 39 (qcells q (.slice B5 (q).token.length d5)).toArray := hbs5
  clear hbq5 hgs5
  have hx36 := hx5.trans' hxs5
  have hx06 := hx03.trans' hx36
  replace hb1 := hb1.ext hx36
  refine go_LRequestBack (k := ?_)
  refine OW_loadX agg_Req rfl (qcells q (.slice B5 q.token.length d5)) rfl hbs5.atL ?_
  refine go_LRequestBack (k := ?_)
  refine OW_loadX agg_Req rfl (qcells q (.slice A q.token.length c)) rfl hb1.atL ?_
  refine go_LRequestBack (k := ?_)
  refine OW_callV Try.func45 (by kernel_rfl) rfl (sameReq_any w6 B5 A d5 c q (hT5.ext hxs5) (hok.bs.ext hx06) (by omega) hIq) rfl ?_
  intro w7 hx7
  replace hb1 := hb1.ext hx7
  have hx07 := hx06.trans' hx7
  have hFd : decide ((1024 : Int) < (F.length : Int)) = false := decide_eq_false (by omega)
  clear hbs5
  refine go_LRequestBack (k := ?_)
  rw [hFd]
  refine go_LRequestBack (k := ?_)
  refine OW_loadX agg_Req rfl (qcells q (.slice A q.token.length c)) rfl hb1.atL ?_
  refine go_LRequestBack (k := ?_)
  refine OW_callV Try.func25 (by kernel_rfl) rfl (may_any w7 A c q hIq) rfl ?_
  intro w8 hx8
  rw [hm]
  have hx08 := hx07.trans' hx8
  clear hb1
  refine go_LRequestBack (k := ?_)
  refine OW_callC Try.func44 (by kernel_rfl) rfl (ParseReq_any w8 C cC b (hC.ext hx08) hcC (by omega)) rfl ?_
  rintro en w20 ⟨B2, d2, rfl, hO2, hy1⟩
  refine ⟨_, rfl, ?_⟩
  have hR2 := parQ_ok hO2
  by_cases hE : parQE b = 0
  · obtain ⟨p1, p2, p3⟩ := parQ_good hE
    have hbk := goodQ_back p2
    rw [← p3] at hbk
    rw [hE]
    refine go_LRequestBack (k := ?_)
    refine OW_allocA agg_Req ?_
    intro u20a g20 hbq20 hgq20 hlq20 hxq20
    refine go_LRequestBack (k := ?_)
    refine OW_storeA agg_Req rfl (qcells (parQ b) (.slice B2 ((parQ b)).token.length d2)) rfl rfl hbq20 (by kernel_rfl) (qcells_one _ _ _ _) ?_
    intro w21 hbs20 hgs20
    have hxs20 : Ext w20 w21 := (Keeps.of_only hgs20 (S := (· = g20)) rfl).ext hxq20 (fun j hj => by have hj : j = g20 := hj; omega)
    have hbs20 : Blk w21 g20 39 (qcells (parQ b) (.slice B2 ((parQ b)).token.length d2)).toArray := hbs20
    clear hbq20 hgs20
    replace hR2 := hR2.ext hxs20
    have hx021 := hx08.trans' (hy1.trans' hxs20)
    obtain ⟨r2, hr2⟩ : ∃ r2, parQ b = r2 := ⟨_, rfl⟩
    rw [hr2] at hbk hR2 hbs20
    refine go_LRequestBack (k := ?_)
    refine OW_loadX agg_Req rfl (qcells r2 (.slice B2 r2.token.length d2)) rfl hbs20.atL ?_
    refine go_LRequestBack (k := ?_)
    refine OW_callC Try.func24 (by kernel_rfl) rfl (printReq_any w21 B2 d2 r2 hR2) rfl ?_
    rintro en w22 ⟨hx22, ⟨hm2, rfl⟩ | ⟨hm2, B3, d3, rfl, hf22⟩⟩
    · rw [hbk.1] at hm2; cases hm2
    refine ⟨_, rfl, ?_⟩
    rw [hbk.2] at hf22 ⊢
    refine go_LRequestBack (k := ?_)
    refine OW_callV Try.func57 (by kernel_rfl) rfl (same_any w22 B3 C b b d3 cC hf22.bs (hC.ext (hx021.trans' hx22)) hf22.cap (by omega)) rfl ?_
    intro w23 hx23
    rw [show (b == b) = true from beq_self_eq_true _]
    refine go_LRequestBack (k := ?_)
    exact bodyE_ret1 rfl (.bool true) rfl ⟨rfl, (hx021.trans' hx22).trans' hx23⟩
  · rw [parQ_bad hE] at hR2 ⊢
    refine go_LRequestBack (k := ?_)
    refine OW_allocA agg_Req ?_
    intro u20a g20 hbq20 hgq20 hlq20 hxq20
    refine go_LRequestBack (k := ?_)
    refine OW_storeA agg_Req rfl (qcells q0 (.slice B2 (q0).token.length d2)) rfl rfl hbq20 (by kernel_rfl) (qcells_one _ _ _ _) ?_
    intro w21 hbs20 hgs20
    have hxs20 : Ext w20 w21 := (Keeps.of_only hgs20 (S := (· = g20)) rfl).ext hxq20 (fun j hj => by have hj : j = g20 := hj; omega)
    have hbs20 : Blk w21 g20 39 (qcells q0 (.slice B2 (q0).token.length d2)).toArray := hbs20
    clear hbq20 hgs20
    replace hR2 := hR2.ext hxs20
    have hne : (parQE b != 0) = true := by simp [hE]
    refine go_LRequestBack (k := ?_)
    rw [hne]
    refine go_LRequestBack (k := ?_)
    refine OW_loadX agg_Req rfl (qcells q0 (.slice B2 q0.token.length d2)) rfl hbs20.atL ?_
    refine go_LRequestBack (k := ?_)
    refine OW_build _ _ bld_Q0 rfl ?_
    refine go_LRequestBack (k := ?_)
    refine OW_callV Try.func45 (by kernel_rfl) rfl (sameReq_any w21 B2 none d2 0 q0 hR2.bs (Bs.nil _ _) (by decide) ⟨by unfold I64 q0; simp, by unfold I64 q0; simp⟩) rfl ?_
    intro w22 hx22
    refine go_LRequestBack (k := ?_)
    exact bodyE_ret1 rfl (.bool true) rfl ⟨rfl, (hx08.trans' (hy1.trans' hxs20)).trans' hx22⟩
set_option maxRecDepth 100000 in
theorem lifted (os : Os) (started : os.Started) (H : Type) (enc : TypeId × Value → H) :
    ReturnsInHanded {} Try.checked os 14 .any (Rows.requestBackSpec.pre6 enc Try.prog Try.f14 Rows.requestBackRow.domain false) (Rows.requestBackSpec.post enc Try.prog Try.f14 false true false false) := by
  refine returnsInHanded_of_change_sized (C := Try.checked) ownP started (by kernel_rfl) Try.func14
    (ChangeSpec.witness6 (enc := enc) (C := Try.checked) false ⟨#[], #[.agg (qcells ⟨0, [], [], [], [], 0, 0, 0, 0, 0, 0, 0⟩ (.slice none 0 0)).toArray, .slice none 0 0], []⟩ 8 (by kernel_rfl) (by kernel_rfl) (by kernel_rfl) (by kernel_rfl)) ?_
  intro W base args ds gs before hval0 hW hcnd hwt0 _
  have hval : ∀ (j : Nat) t v, Try.f14.params[j]? = some t → args[j]? = some v → Value.okWide Try.prog W .any base t v := hval0
  have hW' := hW
  obtain ⟨p, q, hA0, hV, rfl, hfz, hnd⟩ := hW
  have hA : DataW.TrodAll enc Try.prog W 0 (fun _ => true) true Try.f14.params.toList args.toList ds p := hA0
  have hwt : (DataW.weightsEach Try.prog (Try.f14.params.toList ++ []) (ds ++ gs)).all (· ≤ reachBytes) = true := hwt0
  rw [Try.params14] at hA hval hwt
  obtain ⟨v0, vs0, d0, ds0, p0, q0, hargs, rfl, rfl, h0, r0⟩ := trodAll_cons hA
  obtain ⟨v1, vs1, d1, ds1, p1, q1, rfl, rfl, rfl, h1, r1⟩ := trodAll_cons r0
  obtain ⟨rfl, rfl, rfl⟩ := trodAll_nil r1
  obtain rfl : args = #[v0, v1] := by cases args; simp_all
  obtain ⟨rfl, rfl⟩ := trodVars_none hV
  have k0 := h0
  have lt0 : ∀ x ∈ p0, x.block < W.heap.size := by obtain ⟨m, hm⟩ := k0; exact DataW.trod_lt m _ _ _ hm
  have wk0 : WOk Try.prog 39 d0 := wok_each hwt 0 rfl rfl
  obtain ⟨cs0, a0, rfl, b0⟩ := kd_struct kReq Try.underlying39 (hval 0 39 v0 rfl rfl) h0 wk0
  have k1 := h1
  have lt1 : ∀ x ∈ p1, x.block < W.heap.size := by obtain ⟨m, hm⟩ := k1; exact DataW.trod_lt m _ _ _ hm
  have wk1 : WOk Try.prog 31 d1 := wok_each hwt 1 rfl rfl
  obtain ⟨a1, b1⟩ := kd_slice kBs und_bytes (hval 1 31 v1 rfl rfl) h1 wk1
  clear hA0 hval0 hwt0
  refine (walk W cs0 a0 b0 v1 a1 b1).mono fun e W' ⟨he, bel⟩ => ?_
  subst he
  exact ⟨_, rfl, _, _, _, [], _, [], hW', trodAll_mk1 (shut_bool Try.underlying4 _), (trodAll_cons_mk (Below.trod laidP (by kernel_rfl) (of_decide_eq_true (by kernel_rfl)) k0 bel lt0) (trodAll_cons_mk (Below.trod laidP (by kernel_rfl) (of_decide_eq_true (by kernel_rfl)) k1 bel lt1) trodAll_mk0)), rfl, bel.frame _, fun h => by cases h⟩
theorem over : Rows.requestBackRow.holds Try.pinned (OpenSpec.ofChange Rows.requestBackSpec) :=
  OpenClaim.holds_of_wide 14 Try.f14 rfl rfl rfl rfl rfl rfl rfl ⟨rfl, rfl, rfl, rfl, rfl⟩ rfl rfl rfl rfl rfl (by kernel_rfl) Try.func14 (by kernel_rfl)
    (of_decide_eq_true (by kernel_rfl)) (by unfold Func.isWrapper; first | (rw [if_pos (by decide +kernel)]; kernel_rfl) | (rw [if_neg (by decide +kernel)]; exact ⟨rfl, rfl⟩))
    (fun os started H enc _ => lifted os started H enc)
theorem proved : Rows.RequestBackSaid := over
#print axioms proved
end Go.Proofs.Ytdpomchhbbopbaa.lawRequestBack
