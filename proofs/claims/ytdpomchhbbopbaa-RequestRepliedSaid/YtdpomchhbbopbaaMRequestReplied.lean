/- RequestReplied: a reply that may be is read from its form; what is read has that form; a beginning of a form is none. No condition. -/
import Derived.Test.YtdpomchhbbopbaaGr3
import Derived.Test.YtdpomchhbbopbaaGr16
import Derived.Test.YtdpomchhbbopbaaGr21
namespace Go.Proofs.Ytdpomchhbbopbaa.lawRequestReplied
open Go.ChangeShapes Go.WideShapes Go.ChangeAt Go.RowKit
set_option linter.unusedVariables false
set_option maxRecDepth 4000
theorem go_LRequestReplied {A B : Prop} (h : Held B → A := by
  intro hEnd
  repeat (first | refine OW_fieldF fld_P2 rfl ?_ | refine OW_lenS und_strs rfl ?_ | refine OW_neqF rfl rfl rfl ?_ | refine OW_eqlTr rfl rfl rfl ?_ | refine OW_moveV (.int _ _) rfl ?_ | refine OW_moveV (.slice _ _ _) rfl ?_ | refine OW_moveV (.bool _) rfl ?_ | refine OW_moveV (.pointer _) rfl ?_ | refine OW_moveV (.string _) rfl ?_ | refine OW_moveV (.agg _) rfl ?_ | refine OW_moveV (.tuple _) rfl ?_ | refine OW_nil ?_ | refine thenE_normal ?_ | refine CW_seq ?_ | refine CW_region (by kernel_rfl) ?_ | refine OW_assignV (.int _ _) rfl ?_ | refine OW_assignV (.slice _ _ _) rfl ?_ | refine OW_assignV (.bool _) rfl ?_ | refine OW_assignV (.pointer _) rfl ?_ | refine OW_assignV (.string _) rfl ?_ | refine OW_assignV (.agg _) rfl ?_ | refine OW_assignV (.tuple _) rfl ?_ | refine OW_addI rfl rfl (by omega) ?_ | refine OW_subI rfl rfl (by omega) ?_ | refine OW_mulI rfl rfl (by omega) ?_ | refine OW_lss rfl rfl ?_ | refine OW_extract rfl rfl ?_ | refine OW_gtr rfl rfl ?_ | refine OW_leq rfl rfl ?_ | refine OW_geq rfl rfl ?_ | refine OW_eql rfl rfl ?_ | refine OW_neq rfl rfl ?_ | refine OW_not rfl ?_ | refine OW_pickT rfl _ rfl ?_ | refine OW_pickF rfl (.bool _) rfl ?_ | refine OW_pickB rfl rfl rfl ?_ | refine OW_move ?_ | refine OW_assign ?_ | refine OW_pass rfl ?_ | refine OW_take rfl ?_ | refine OW_lenS (by first | with_reducible exact und_bytes | with_reducible exact und_bytess) rfl ?_ | refine OW_convInt (by first | with_reducible exact und_u8 | with_reducible exact und_u64 | with_reducible exact und_int | with_reducible exact und_u32) (by first | with_reducible exact und_u8 | with_reducible exact und_u64 | with_reducible exact und_int | with_reducible exact und_u32) rfl ?_ | refine OW_add rfl rfl ?_ | refine OW_sub rfl rfl ?_ | refine OW_mul rfl rfl ?_ | refine OW_min2 rfl rfl ?_ | refine OW_max2 rfl rfl ?_ | refine OW_neg rfl ?_ | refine CW_block ?_ | refine CW_condT rfl ?_ | refine CW_condF rfl ?_ | refine CW_exit ?_ | refine CW_ret ?_ | refine CW_skip ?_ | refine LW_seq ?_ | refine LW_regC ?_ | refine LW_condC ?_ | refine LW_regF ?_ | refine LW_condF ?_ | refine FW_seq ?_ | refine FW_region (by kernel_rfl) ?_ | refine FW_block ?_ | refine FW_condT rfl ?_ | refine FW_condF rfl ?_ | refine FW_exit ?_ | refine FW_ret ?_ | refine FW_skip ?_ | refine LW_ret ?_ | refine LW_skip ?_ | refine thenE_exit ?_ | refine thenE_ret ?_ | refine inBlockE_normal ?_ | refine inBlockE_same ?_ | refine inBlockE_ret ?_ | refine inBlockE_ne (by rfl) ?_ | refine OW_eqlB (by with_reducible exact und_bool) rfl rfl ?_ | refine OW_neqB (by with_reducible exact und_bool) rfl rfl ?_ | refine OW_idxS (by with_reducible exact und_bytes) one_u8 rfl rfl _ rfl (by omega) ?_ | refine OW_idxS (by with_reducible exact und_bytess) one_bytes rfl rfl _ rfl (by omega) ?_ | refine OW_load1 (by first | with_reducible exact one_u8 | with_reducible exact one_bytes) rfl _ (by assumption) ?_ | refine OW_load1 (by first | with_reducible exact one_int | with_reducible exact one_str | with_reducible exact one_strs | with_reducible exact one_errno) rfl _ (by assumption) ?_)
  exact hEnd.out) (k : B) : A := h ⟨k⟩
set_option maxHeartbeats 8000000 in
theorem walk (w : World) (cs : List Value) (r : RP) (h0 : kReply.R w cs r) (v1 : Value) (b : List UInt8) (h1 : kBs.R w [v1] b) (v2 : Value) (cut : Int) (h2 : kI.R w [v2] cut) : Calls Try.prog 15 #[.agg cs.toArray, v1, v2] w (RetV w (.bool true)) := by
  obtain ⟨A, c, rfl, hok⟩ := h0
  obtain ⟨C, cC, hv1, ⟨hcC, hcC2⟩, hC⟩ := h1
  obtain ⟨hv2, hic⟩ := h2
  injection hv1 with hv1
  injection hv2 with hv2
  subst hv1; subst hv2
  have hLo := hok.l
  have hIr := hok.i
  have hrl := fun v => rcells_length (v := v) hok.l
  refine calls_of_CW Try.func15 rfl (by simp [Try.ntmps15]) ?_
  rw [Try.ntmps15]
  refine go_LRequestReplied (k := ?_)
  refine OW_box _ rfl ?_
  intro w1 g1 hb1 hg1 hlt1 hx1
  have hb1 : Blk w1 g1 29 (rcells r (.slice A r.keys.length c)).toArray := hb1
  refine go_LRequestReplied (k := ?_)
  refine OW_callV Try.func58 (by kernel_rfl) rfl (awake15_any w1) rfl ?_
  intro w1b hx1b
  replace hb1 := hb1.ext hx1b
  have hx01 := hx1.trans' hx1b
  refine go_LRequestReplied (k := ?_)
  refine OW_loadX agg_Rep rfl (rcells r (.slice A r.keys.length c)) (hrl _) hb1.atL ?_
  refine go_LRequestReplied (k := ?_)
  refine OW_callV Try.func16 (by kernel_rfl) rfl (greatP_any w1b A c r (hok.ext hx01)) rfl ?_
  intro w2 hx2
  have hx02 := hx01.trans' hx2
  replace hb1 := hb1.ext hx2
  refine go_LRequestReplied (k := ?_)
  refine OW_split 21 _ rfl (fun hh => ?_) (fun hh => ?_)
  · refine go_LRequestReplied (k := ?_)
    exact bodyE_ret1 rfl (.bool true) rfl ⟨rfl, hx02⟩
  rw [hh]
  clear hh
  refine go_LRequestReplied (k := ?_)
  refine CW_cond _ rfl (fun hh => ?_) (fun hh => ?_)
  · refine go_LRequestReplied (k := ?_)
    exact bodyE_ret1 rfl (.bool true) rfl ⟨rfl, hx02⟩
  have hbl : b.length ≤ 3000 := by have := of_decide_eq_false hh; omega
  clear hh
  refine go_LRequestReplied (k := ?_)
  refine OW_loadX agg_Rep rfl (rcells r (.slice A r.keys.length c)) (hrl _) hb1.atL ?_
  refine go_LRequestReplied (k := ?_)
  refine OW_callC Try.func17 (by kernel_rfl) rfl (printReply_any w2 A c r (hok.ext hx02)) rfl ?_
  rintro en w3 ⟨hx3, ⟨hm, rfl⟩ | ⟨hm, B, d, rfl, hf3⟩⟩
  · refine ⟨_, rfl, ?_⟩
    have hx03 := hx02.trans' hx3
    clear hb1
    refine go_LRequestReplied (k := ?_)
    refine OW_callC Try.func28 (by kernel_rfl) rfl (parseReply_any w3 C cC b (hC.ext hx03) (by omega)) rfl ?_
    rintro en w20 ⟨B2, d2, rfl, hO2, hy1⟩
    refine ⟨_, rfl, ?_⟩
    have hR2 := parR_ok hO2
    have hrl20 := fun v => rcells_length (v := v) hR2.l
    by_cases hE : goodR b = true
    · have hbk := good_back hE
      have p3 : parR b = readRp b := by unfold parR; rw [hE]; rfl
      have pE : parE b = 0 := by unfold parE; rw [hE]; rfl
      rw [← p3] at hbk
      rw [pE]
      refine go_LRequestReplied (k := ?_)
      refine OW_allocA agg_Rep ?_
      intro u20a g20 hbq20 hgq20 hlq20 hxq20
      refine go_LRequestReplied (k := ?_)
      refine OW_storeA agg_Rep rfl (rcells (parR b) (.slice B2 ((parR b)).keys.length d2)) rfl (hrl20 _) hbq20 (by kernel_rfl) (rcells_one _ _ _) ?_
      intro w21 hbs20 hgs20
      have hxs20 : Ext w20 w21 := (Keeps.of_only hgs20 (S := (· = g20)) rfl).ext hxq20 (fun j hj => by have hj : j = g20 := hj; omega)
      have hbs20 : Blk w21 g20 29 (rcells (parR b) (.slice B2 ((parR b)).keys.length d2)).toArray := hbs20
      clear hbq20 hgs20
      replace hR2 := hR2.ext hxs20
      have hx021 := hx03.trans' (hy1.trans' hxs20)
      obtain ⟨r2, hr2⟩ : ∃ r2, parR b = r2 := ⟨_, rfl⟩
      rw [hr2] at hbk hR2 hbs20 hrl20
      refine go_LRequestReplied (k := ?_)
      refine OW_loadX agg_Rep rfl (rcells r2 (.slice B2 r2.keys.length d2)) (hrl20 _) hbs20.atL ?_
      refine go_LRequestReplied (k := ?_)
      refine OW_callC Try.func17 (by kernel_rfl) rfl (printReply_any w21 B2 d2 r2 hR2) rfl ?_
      rintro en w22 ⟨hx22, ⟨hm2, rfl⟩ | ⟨hm2, B3, d3, rfl, hf22⟩⟩
      · rw [hbk.1] at hm2; cases hm2
      refine ⟨_, rfl, ?_⟩
      rw [hbk.2] at hf22 ⊢
      refine go_LRequestReplied (k := ?_)
      refine OW_callV Try.func57 (by kernel_rfl) rfl (same_any w22 B3 C b b d3 cC hf22.bs (hC.ext (hx021.trans' hx22)) hf22.cap (by omega)) rfl ?_
      intro w23 hx23
      rw [show (b == b) = true from beq_self_eq_true _]
      refine go_LRequestReplied (k := ?_)
      exact bodyE_ret1 rfl (.bool true) rfl ⟨rfl, (hx021.trans' hx22).trans' hx23⟩
    · have p3 : parR b = rp0 := by unfold parR; rw [if_neg hE]
      have pE : parE b = 150 := by unfold parE; rw [if_neg hE]
      rw [pE]
      rw [p3] at hR2 hrl20 ⊢
      refine go_LRequestReplied (k := ?_)
      refine OW_allocA agg_Rep ?_
      intro u20a g20 hbq20 hgq20 hlq20 hxq20
      refine go_LRequestReplied (k := ?_)
      refine OW_storeA agg_Rep rfl (rcells rp0 (.slice B2 (rp0).keys.length d2)) rfl (hrl20 _) hbq20 (by kernel_rfl) (rcells_one _ _ _) ?_
      intro w21 hbs20 hgs20
      have hxs20 : Ext w20 w21 := (Keeps.of_only hgs20 (S := (· = g20)) rfl).ext hxq20 (fun j hj => by have hj : j = g20 := hj; omega)
      have hbs20 : Blk w21 g20 29 (rcells rp0 (.slice B2 (rp0).keys.length d2)).toArray := hbs20
      clear hbq20 hgs20
      replace hR2 := hR2.ext hxs20
      refine go_LRequestReplied (k := ?_)
      refine OW_loadX agg_Rep rfl (rcells rp0 (.slice B2 rp0.keys.length d2)) (hrl20 _) hbs20.atL ?_
      refine go_LRequestReplied (k := ?_)
      refine OW_build _ _ bld_P0 rfl ?_
      refine go_LRequestReplied (k := ?_)
      refine OW_callV Try.func29 (by kernel_rfl) rfl (sameReply_any w21 rp0 B2 none d2 0 hR2 ⟨fun j u hu => by simp [rp0] at hu, fun k hk => by simp [rp0] at hk, ⟨Nat.le_refl _, Nat.zero_le _⟩, Nat.zero_le _, ⟨by unfold I64 rp0; simp, by unfold I64 rp0; simp⟩, lk0_ok⟩) rfl ?_
      intro w22 hx22
      refine go_LRequestReplied (k := ?_)
      exact bodyE_ret1 rfl (.bool true) rfl ⟨rfl, (hx03.trans' (hy1.trans' hxs20)).trans' hx22⟩
  refine ⟨_, rfl, ?_⟩
  have hx03 := hx02.trans' hx3
  replace hb1 := hb1.ext hx3
  obtain ⟨hG1, hG2⟩ := parR_back hm hLo hIr
  have hF1 : parR (repF r) = r := by unfold parR; rw [hG1, hG2]; rfl
  have hF2 : parE (repF r) = 0 := by unfold parE; rw [hG1]; rfl
  have hcutF : ∀ m, m < (repF r).length → parE ((repF r).take m) = 150 := fun m h => by
    unfold parE
    rw [parR_cut hm hLo h]
    rfl
  have hFl := repF_len hm hLo
  have hbF := hf3.bs
  have hcF := hf3.cap
  generalize repF r = F at *
  clear hf3 hG1 hG2
  refine go_LRequestReplied (k := ?_)
  refine OW_callC Try.func28 (by kernel_rfl) rfl (parseReply_any w3 B d F hbF (by omega)) rfl ?_
  rintro en w5 ⟨B5, d5, rfl, hO5, hx5⟩
  refine ⟨_, rfl, ?_⟩
  have hR5 := parR_ok hO5
  rw [hF2]
  rw [hF1] at hO5 hR5 ⊢
  have hrl5 := hrl
  refine go_LRequestReplied (k := ?_)
  refine OW_allocA agg_Rep ?_
  intro u5a g5 hbq5 hgq5 hlq5 hxq5
  refine go_LRequestReplied (k := ?_)
  refine OW_storeA agg_Rep rfl (rcells r (.slice B5 (r).keys.length d5)) rfl (hrl5 _) hbq5 (by kernel_rfl) (rcells_one _ _ _) ?_
  intro w6 hbs5 hgs5
  have hxs5 : Ext w5 w6 := (Keeps.of_only hgs5 (S := (· = g5)) rfl).ext hxq5 (fun j hj => by have hj : j = g5 := hj; omega)
  have hbs5 : Blk w6 g5 29 (rcells r (.slice B5 (r).keys.length d5)).toArray := hbs5
  clear hbq5 hgs5
  have hx36 := hx5.trans' hxs5
  have hx06 := hx03.trans' hx36
  replace hb1 := hb1.ext hx36
  refine go_LRequestReplied (k := ?_)
  refine OW_loadX agg_Rep rfl (rcells r (.slice B5 r.keys.length d5)) (hrl _) hbs5.atL ?_
  refine go_LRequestReplied (k := ?_)
  refine OW_loadX agg_Rep rfl (rcells r (.slice A r.keys.length c)) (hrl _) hb1.atL ?_
  refine go_LRequestReplied (k := ?_)
  refine OW_callV Try.func29 (by kernel_rfl) rfl (sameReply_any w6 r B5 A d5 c (hR5.ext hxs5) (hok.ext hx06)) rfl ?_
  intro w7 hx7
  have hx07 := hx06.trans' hx7
  have hx37 := hx36.trans' hx7
  clear hbs5 hb1
  refine go_LRequestReplied (k := ?_)
  refine OW_meet (fun e' w' => e' 1 = .slice C b.length cC ∧ e' 2 = .int .i64 cut ∧ e' 7 = .slice B F.length d ∧ e' 53 = .bool (decide (0 < cut) && decide (cut ≤ (F.length : Int))) ∧ w' = w7) ?_ ?_
  · refine OW_split 48 _ rfl (fun h => ?_) (fun h => ?_)
    · rw [h]
      refine go_LRequestReplied (k := ?_)
      exact ⟨rfl, rfl, rfl, rfl, rfl, rfl⟩
    · rw [h]
      refine go_LRequestReplied (k := ?_)
      exact ⟨rfl, rfl, rfl, rfl, rfl, rfl⟩
  rintro e4 w8 ⟨q1, q2, q7, q53, rfl⟩
  rw [upd_self q1, upd_self q2, upd_self q7, upd_self q53]
  refine go_LRequestReplied (k := ?_)
  refine CW_meet (fun e' w' => e' 1 = .slice C b.length cC ∧ Ext w8 w') ?_ ?_
  · refine CW_cond _ rfl (fun h => ?_) (fun h => ?_)
    rotate_left 1
    · refine go_LRequestReplied (k := ?_)
      exact ⟨rfl, rfl, Ext.rfl' _⟩
    rw [Bool.and_eq_true, decide_eq_true_eq, decide_eq_true_eq] at h
    obtain ⟨m, hm2⟩ : ∃ m : Nat, (m : Int) = F.length - cut := ⟨(F.length - cut).toNat, by omega⟩
    refine go_LRequestReplied (k := ?_)
    refine OW_sliceBs und_bytes one_u8 (hbF.ext hx37) rfl hcF rfl rfl ⟨_, rfl⟩ 0 m rfl hm2.symm (by omega) ?_
    intro A9 hb9 hl9
    rw [show (F.drop 0).take (m - 0) = F.take m from rfl] at hb9 hl9
    rw [← hl9]
    refine go_LRequestReplied (k := ?_)
    refine OW_callC Try.func28 (by kernel_rfl) rfl (parseReply_any w8 A9 (d - 0) (F.take m) hb9 (by omega)) rfl ?_
    rintro en w9 ⟨B9, d9, rfl, hO9, hx9⟩
    refine ⟨_, rfl, ?_⟩
    have hR9 := parR_ok hO9
    have hrl9 := fun v => rcells_length (v := v) hR9.l
    rw [hcutF m (by omega)]
    refine go_LRequestReplied (k := ?_)
    refine OW_allocA agg_Rep ?_
    intro u9a g9 hbq9 hgq9 hlq9 hxq9
    refine go_LRequestReplied (k := ?_)
    refine OW_storeA agg_Rep rfl (rcells (parR (F.take m)) (.slice B9 ((parR (F.take m))).keys.length d9)) rfl (hrl9 _) hbq9 (by kernel_rfl) (rcells_one _ _ _) ?_
    intro w10 hbs9 hgs9
    have hxs9 : Ext w9 w10 := (Keeps.of_only hgs9 (S := (· = g9)) rfl).ext hxq9 (fun j hj => by have hj : j = g9 := hj; omega)
    have hbs9 : Blk w10 g9 29 (rcells (parR (F.take m)) (.slice B9 ((parR (F.take m))).keys.length d9)).toArray := hbs9
    clear hbq9 hgs9
    refine go_LRequestReplied (k := ?_)
    exact ⟨rfl, rfl, hx9.trans' hxs9⟩
  clear q53
  rintro e5 w9 ⟨q1, hx9⟩
  rw [upd_self q1]
  have hx09 := hx07.trans' hx9
  refine go_LRequestReplied (k := ?_)
  refine OW_callC Try.func28 (by kernel_rfl) rfl (parseReply_any w9 C cC b (hC.ext hx09) (by omega)) rfl ?_
  rintro en w20 ⟨B2, d2, rfl, hO2, hy1⟩
  refine ⟨_, rfl, ?_⟩
  have hR2 := parR_ok hO2
  have hrl20 := fun v => rcells_length (v := v) hR2.l
  by_cases hE : goodR b = true
  · have hbk := good_back hE
    have p3 : parR b = readRp b := by unfold parR; rw [hE]; rfl
    have pE : parE b = 0 := by unfold parE; rw [hE]; rfl
    rw [← p3] at hbk
    rw [pE]
    refine go_LRequestReplied (k := ?_)
    refine OW_allocA agg_Rep ?_
    intro u20a g20 hbq20 hgq20 hlq20 hxq20
    refine go_LRequestReplied (k := ?_)
    refine OW_storeA agg_Rep rfl (rcells (parR b) (.slice B2 ((parR b)).keys.length d2)) rfl (hrl20 _) hbq20 (by kernel_rfl) (rcells_one _ _ _) ?_
    intro w21 hbs20 hgs20
    have hxs20 : Ext w20 w21 := (Keeps.of_only hgs20 (S := (· = g20)) rfl).ext hxq20 (fun j hj => by have hj : j = g20 := hj; omega)
    have hbs20 : Blk w21 g20 29 (rcells (parR b) (.slice B2 ((parR b)).keys.length d2)).toArray := hbs20
    clear hbq20 hgs20
    replace hR2 := hR2.ext hxs20
    have hx021 := hx09.trans' (hy1.trans' hxs20)
    obtain ⟨r2, hr2⟩ : ∃ r2, parR b = r2 := ⟨_, rfl⟩
    rw [hr2] at hbk hR2 hbs20 hrl20
    refine go_LRequestReplied (k := ?_)
    refine OW_loadX agg_Rep rfl (rcells r2 (.slice B2 r2.keys.length d2)) (hrl20 _) hbs20.atL ?_
    refine go_LRequestReplied (k := ?_)
    refine OW_callC Try.func17 (by kernel_rfl) rfl (printReply_any w21 B2 d2 r2 hR2) rfl ?_
    rintro en w22 ⟨hx22, ⟨hm2, rfl⟩ | ⟨hm2, B3, d3, rfl, hf22⟩⟩
    · rw [hbk.1] at hm2; cases hm2
    refine ⟨_, rfl, ?_⟩
    rw [hbk.2] at hf22 ⊢
    refine go_LRequestReplied (k := ?_)
    refine OW_callV Try.func57 (by kernel_rfl) rfl (same_any w22 B3 C b b d3 cC hf22.bs (hC.ext (hx021.trans' hx22)) hf22.cap (by omega)) rfl ?_
    intro w23 hx23
    rw [show (b == b) = true from beq_self_eq_true _]
    refine go_LRequestReplied (k := ?_)
    exact bodyE_ret1 rfl (.bool true) rfl ⟨rfl, (hx021.trans' hx22).trans' hx23⟩
  · have p3 : parR b = rp0 := by unfold parR; rw [if_neg hE]
    have pE : parE b = 150 := by unfold parE; rw [if_neg hE]
    rw [pE]
    rw [p3] at hR2 hrl20 ⊢
    refine go_LRequestReplied (k := ?_)
    refine OW_allocA agg_Rep ?_
    intro u20a g20 hbq20 hgq20 hlq20 hxq20
    refine go_LRequestReplied (k := ?_)
    refine OW_storeA agg_Rep rfl (rcells rp0 (.slice B2 (rp0).keys.length d2)) rfl (hrl20 _) hbq20 (by kernel_rfl) (rcells_one _ _ _) ?_
    intro w21 hbs20 hgs20
    have hxs20 : Ext w20 w21 := (Keeps.of_only hgs20 (S := (· = g20)) rfl).ext hxq20 (fun j hj => by have hj : j = g20 := hj; omega)
    have hbs20 : Blk w21 g20 29 (rcells rp0 (.slice B2 (rp0).keys.length d2)).toArray := hbs20
    clear hbq20 hgs20
    replace hR2 := hR2.ext hxs20
    refine go_LRequestReplied (k := ?_)
    refine OW_loadX agg_Rep rfl (rcells rp0 (.slice B2 rp0.keys.length d2)) (hrl20 _) hbs20.atL ?_
    refine go_LRequestReplied (k := ?_)
    refine OW_build _ _ bld_P0 rfl ?_
    refine go_LRequestReplied (k := ?_)
    refine OW_callV Try.func29 (by kernel_rfl) rfl (sameReply_any w21 rp0 B2 none d2 0 hR2 ⟨fun j u hu => by simp [rp0] at hu, fun k hk => by simp [rp0] at hk, ⟨Nat.le_refl _, Nat.zero_le _⟩, Nat.zero_le _, ⟨by unfold I64 rp0; simp, by unfold I64 rp0; simp⟩, lk0_ok⟩) rfl ?_
    intro w22 hx22
    refine go_LRequestReplied (k := ?_)
    exact bodyE_ret1 rfl (.bool true) rfl ⟨rfl, (hx09.trans' (hy1.trans' hxs20)).trans' hx22⟩
set_option maxRecDepth 100000 in
theorem lifted (os : Os) (started : os.Started) (H : Type) (enc : TypeId × Value → H) :
    ReturnsInHanded {} Try.checked os 15 .any (Rows.requestRepliedSpec.pre6 enc Try.prog Try.f15 Rows.requestRepliedRow.domain false) (Rows.requestRepliedSpec.post enc Try.prog Try.f15 false true false false) := by
  refine returnsInHanded_of_change_sized (C := Try.checked) ownP started (by kernel_rfl) Try.func15
    (ChangeSpec.witness6 (enc := enc) (C := Try.checked) false ⟨#[], #[.agg (rcells ⟨0, [], [], 0, ⟨0, 0, 0, 0, 0, 0, 0, tz, tz⟩⟩ (.slice none 0 0)).toArray, .slice none 0 0, .int .i64 0], []⟩ 8 (by kernel_rfl) (by kernel_rfl) (by kernel_rfl) (by kernel_rfl)) ?_
  intro W base args ds gs before hval0 hW hcnd hwt0 _
  have hval : ∀ (j : Nat) t v, Try.f15.params[j]? = some t → args[j]? = some v → Value.okWide Try.prog W .any base t v := hval0
  have hW' := hW
  obtain ⟨p, q, hA0, hV, rfl, hfz, hnd⟩ := hW
  have hA : DataW.TrodAll enc Try.prog W 0 (fun _ => true) true Try.f15.params.toList args.toList ds p := hA0
  have hwt : (DataW.weightsEach Try.prog (Try.f15.params.toList ++ []) (ds ++ gs)).all (· ≤ reachBytes) = true := hwt0
  rw [Try.params15] at hA hval hwt
  obtain ⟨v0, vs0, d0, ds0, p0, q0, hargs, rfl, rfl, h0, r0⟩ := trodAll_cons hA
  obtain ⟨v1, vs1, d1, ds1, p1, q1, rfl, rfl, rfl, h1, r1⟩ := trodAll_cons r0
  obtain ⟨v2, vs2, d2, ds2, p2, q2, rfl, rfl, rfl, h2, r2⟩ := trodAll_cons r1
  obtain ⟨rfl, rfl, rfl⟩ := trodAll_nil r2
  obtain rfl : args = #[v0, v1, v2] := by cases args; simp_all
  obtain ⟨rfl, rfl⟩ := trodVars_none hV
  have k0 := h0
  have lt0 : ∀ x ∈ p0, x.block < W.heap.size := by obtain ⟨m, hm⟩ := k0; exact DataW.trod_lt m _ _ _ hm
  have wk0 : WOk Try.prog 29 d0 := wok_each hwt 0 rfl rfl
  obtain ⟨cs0, a0, rfl, b0⟩ := kd_struct kReply Try.underlying29 (hval 0 29 v0 rfl rfl) h0 wk0
  have k1 := h1
  have lt1 : ∀ x ∈ p1, x.block < W.heap.size := by obtain ⟨m, hm⟩ := k1; exact DataW.trod_lt m _ _ _ hm
  have wk1 : WOk Try.prog 31 d1 := wok_each hwt 1 rfl rfl
  obtain ⟨a1, b1⟩ := kd_slice kBs und_bytes (hval 1 31 v1 rfl rfl) h1 wk1
  have k2 := h2
  have lt2 : ∀ x ∈ p2, x.block < W.heap.size := by obtain ⟨m, hm⟩ := k2; exact DataW.trod_lt m _ _ _ hm
  have wk2 : WOk Try.prog 3 d2 := wok_each hwt 2 rfl rfl
  obtain ⟨a2, b2⟩ := kd_int kI und_int (hval 2 3 v2 rfl rfl) h2 wk2
  clear hA0 hval0 hwt0
  refine (walk W cs0 a0 b0 v1 a1 b1 v2 a2 b2).mono fun e W' ⟨he, bel⟩ => ?_
  subst he
  exact ⟨_, rfl, _, _, _, [], _, [], hW', trodAll_mk1 (shut_bool Try.underlying4 _), (trodAll_cons_mk (Below.trod laidP (by kernel_rfl) (of_decide_eq_true (by kernel_rfl)) k0 bel lt0) (trodAll_cons_mk (Below.trod laidP (by kernel_rfl) (of_decide_eq_true (by kernel_rfl)) k1 bel lt1) (trodAll_cons_mk (Below.trod laidP (by kernel_rfl) (of_decide_eq_true (by kernel_rfl)) k2 bel lt2) trodAll_mk0))), rfl, bel.frame _, fun h => by cases h⟩
theorem over : Rows.requestRepliedRow.holds Try.pinned (OpenSpec.ofChange Rows.requestRepliedSpec) :=
  OpenClaim.holds_of_wide 15 Try.f15 rfl rfl rfl rfl rfl rfl rfl ⟨rfl, rfl, rfl, rfl, rfl⟩ rfl rfl rfl rfl rfl (by kernel_rfl) Try.func15 (by kernel_rfl)
    (of_decide_eq_true (by kernel_rfl)) (by unfold Func.isWrapper; first | (rw [if_pos (by decide +kernel)]; kernel_rfl) | (rw [if_neg (by decide +kernel)]; exact ⟨rfl, rfl⟩))
    (fun os started H enc _ => lifted os started H enc)
theorem proved : Rows.RequestRepliedSaid := over
#print axioms proved
end Go.Proofs.Ytdpomchhbbopbaa.lawRequestReplied
