/- RequestPrint: any request may be, and has the form, that the chapter says; its token is the caller's own, so is what is told. No condition. -/
import Derived.Test.YtdpomchhbbopbaaGr3
import Derived.Test.YtdpomchhbbopbaaGr21
namespace Go.Proofs.Ytdpomchhbbopbaa.lawRequestPrint
open Go.ChangeShapes Go.WideShapes Go.ChangeAt Go.RowKit
set_option linter.unusedVariables false
set_option maxRecDepth 4000
theorem go_LRequestPrint {A B : Prop} (h : Held B → A := by
  intro hEnd
  repeat (first | refine OW_neqF rfl rfl rfl ?_ | refine OW_eqlTr rfl rfl rfl ?_ | refine OW_fieldBL fldo_Q0 rfl ?_ | refine OW_fieldBL fldo_Q1 rfl ?_ | refine OW_fieldBL fldo_Q2 rfl ?_ | refine OW_fieldBL fldo_Q3 rfl ?_ | refine OW_fieldBL fldo_Q4 rfl ?_ | refine OW_fieldBL fldo_Q5 rfl ?_ | refine OW_fieldBL fldo_Q6 rfl ?_ | refine OW_fieldBL fldo_Q7 rfl ?_ | refine OW_fieldBL fldo_Q8 rfl ?_ | refine OW_fieldBL fldo_Q9 rfl ?_ | refine OW_fieldG fldo_G0 rfl ?_ | refine OW_fieldG fldo_G1 rfl ?_ | refine OW_fieldG fldo_G2 rfl ?_ | refine OW_fieldBL fldo_G0 rfl ?_ | refine OW_fieldBL fldo_G1 rfl ?_ | refine OW_fieldBL fldo_G2 rfl ?_ | refine OW_nilCheck rfl ?_ | refine OW_lenL und_string rfl ?_ | refine OW_eqlE rfl rfl ?_ | refine OW_moveV (.int _ _) rfl ?_ | refine OW_moveV (.slice _ _ _) rfl ?_ | refine OW_moveV (.bool _) rfl ?_ | refine OW_moveV (.pointer _) rfl ?_ | refine OW_moveV (.string _) rfl ?_ | refine OW_moveV (.agg _) rfl ?_ | refine OW_moveV (.tuple _) rfl ?_ | refine OW_nil ?_ | refine thenE_normal ?_ | refine CW_seq ?_ | refine CW_region (by kernel_rfl) ?_ | refine OW_assignV (.int _ _) rfl ?_ | refine OW_assignV (.slice _ _ _) rfl ?_ | refine OW_assignV (.bool _) rfl ?_ | refine OW_assignV (.pointer _) rfl ?_ | refine OW_assignV (.string _) rfl ?_ | refine OW_assignV (.agg _) rfl ?_ | refine OW_assignV (.tuple _) rfl ?_ | refine OW_addI rfl rfl (by omega) ?_ | refine OW_subI rfl rfl (by omega) ?_ | refine OW_mulI rfl rfl (by omega) ?_ | refine OW_lss rfl rfl ?_ | refine OW_extract rfl rfl ?_ | refine OW_gtr rfl rfl ?_ | refine OW_leq rfl rfl ?_ | refine OW_geq rfl rfl ?_ | refine OW_eql rfl rfl ?_ | refine OW_neq rfl rfl ?_ | refine OW_not rfl ?_ | refine OW_pickT rfl _ rfl ?_ | refine OW_pickF rfl (.bool _) rfl ?_ | refine OW_pickB rfl rfl rfl ?_ | refine OW_move ?_ | refine OW_assign ?_ | refine OW_pass rfl ?_ | refine OW_take rfl ?_ | refine OW_lenS (by first | with_reducible exact und_bytes | with_reducible exact und_bytess) rfl ?_ | refine OW_convInt (by first | with_reducible exact und_u8 | with_reducible exact und_u64 | with_reducible exact und_int | with_reducible exact und_u32) (by first | with_reducible exact und_u8 | with_reducible exact und_u64 | with_reducible exact und_int | with_reducible exact und_u32) rfl ?_ | refine OW_add rfl rfl ?_ | refine OW_sub rfl rfl ?_ | refine OW_mul rfl rfl ?_ | refine OW_min2 rfl rfl ?_ | refine OW_max2 rfl rfl ?_ | refine OW_neg rfl ?_ | refine CW_block ?_ | refine CW_condT rfl ?_ | refine CW_condF rfl ?_ | refine CW_exit ?_ | refine CW_ret ?_ | refine CW_skip ?_ | refine LW_seq ?_ | refine LW_regC ?_ | refine LW_condC ?_ | refine LW_regF ?_ | refine LW_condF ?_ | refine FW_seq ?_ | refine FW_region (by kernel_rfl) ?_ | refine FW_block ?_ | refine FW_condT rfl ?_ | refine FW_condF rfl ?_ | refine FW_exit ?_ | refine FW_ret ?_ | refine FW_skip ?_ | refine LW_ret ?_ | refine LW_skip ?_ | refine thenE_exit ?_ | refine thenE_ret ?_ | refine inBlockE_normal ?_ | refine inBlockE_same ?_ | refine inBlockE_ret ?_ | refine inBlockE_ne (by rfl) ?_ | refine OW_eqlB (by with_reducible exact und_bool) rfl rfl ?_ | refine OW_neqB (by with_reducible exact und_bool) rfl rfl ?_ | refine OW_idxS (by with_reducible exact und_bytes) one_u8 rfl rfl _ rfl (by omega) ?_ | refine OW_idxS (by with_reducible exact und_bytess) one_bytes rfl rfl _ rfl (by omega) ?_ | refine OW_load1 (by first | with_reducible exact one_u8 | with_reducible exact one_bytes) rfl _ (by assumption) ?_ | (refine OW_isLoad ?_; refine OW_loadBk (by first | with_reducible exact one_u8 | with_reducible exact one_int | with_reducible exact one_str | with_reducible exact one_bytes) rfl (by assumption) _ (by rfl) ?_))
  exact hEnd.out) (k : B) : A := h ⟨k⟩
set_option maxHeartbeats 8000000 in
theorem walk (w : World) (cs : List Value) (q : QR) (h0 : kReq.R w cs q) : Calls Try.prog 4 #[.agg cs.toArray] w (RetV w (.bool true)) := by
  obtain ⟨A, c, rfl, hok⟩ := h0
  have hI := hok.i.i
  have hIq : I64 q.expiry ∧ I64 q.serial := ⟨hI.2.2.2.2.1, hI.2.2.2.2.2⟩
  refine calls_of_CW Try.func4 rfl (by simp [Try.ntmps4]) ?_
  rw [Try.ntmps4]
  refine go_LRequestPrint (k := ?_)
  refine OW_box _ rfl ?_
  intro w1 g1 hb1 hg1 hlt1 hx1
  have hb1 : Blk w1 g1 39 (qcells q (.slice A q.token.length c)).toArray := hb1
  refine go_LRequestPrint (k := ?_)
  refine OW_loadX agg_Req rfl (qcells q (.slice A q.token.length c)) rfl hb1.atL ?_
  refine go_LRequestPrint (k := ?_)
  refine OW_callC Try.func21 (by kernel_rfl) rfl (greatQ_any w1 A c q) rfl ?_
  rintro en w2 ⟨hx2, rfl | ⟨rfl, htk, _⟩⟩
  · refine ⟨_, rfl, ?_⟩
    refine go_LRequestPrint (k := ?_)
    exact bodyE_ret1 rfl (.bool true) rfl ⟨rfl, hx1.trans' hx2⟩
  refine ⟨_, rfl, ?_⟩
  have hx02 := hx1.trans' hx2
  replace hb1 := hb1.ext hx2
  refine go_LRequestPrint (k := ?_)
  refine OW_loadX agg_Req rfl (qcells q (.slice A q.token.length c)) rfl hb1.atL ?_
  refine go_LRequestPrint (k := ?_)
  refine OW_allocA agg_Req ?_
  intro w3 g3 hb3 hg3 hlt3 hx3
  refine go_LRequestPrint (k := ?_)
  refine OW_storeA agg_Req rfl (qcells q (.slice A q.token.length c)) rfl rfl hb3 (by kernel_rfl) (qcells_one q _ _ _) ?_
  intro w4 hb4 hgr4
  have hb4 : Blk w4 g3 39 (qcells q (.slice A q.token.length c)).toArray := hb4
  have hl4 := hb4.lt
  have hx24 : Ext w2 w4 := (Keeps.of_only hgr4 (S := (· = g3)) rfl).ext hx3 (fun j hj => by have hj : j = g3 := hj; omega)
  have hl2 := hb1.lt
  have hn13 : ¬ g1 = g3 := by omega
  replace hb1 := hb1.ext hx24
  have hx04 := hx02.trans' hx24
  clear hb3 hgr4
  refine go_LRequestPrint (k := ?_)
  refine OW_callBs Try.func22 (by kernel_rfl) rfl (refCopy_any w4 A q.token c (hok.bs.ext hx04) (by omega)) rfl ?_
  intro w5 X cX hX
  replace hb4 := hb4.ext hX.ext
  replace hb1 := hb1.ext hX.ext
  have hx05 := hx04.trans' hX.ext
  refine go_LRequestPrint (k := ?_)
  refine OW_storeB one_bytes rfl (.slice X q.token.length cX) rfl rfl hb4 (by show 1 < 12; decide) ?_
  intro w6 hb6 hgr6
  have hb6 : Blk w6 g3 39 (qcells q (.slice X q.token.length cX)).toArray := hb6
  have hK6 : Keeps w5 w6 (· = g3) := Keeps.of_only hgr6 rfl
  have hx06 : Ext w w6 := hK6.ext hx05 (fun j hj => by have hj : j = g3 := hj; have := hx02.size; omega)
  replace hb1 := hb1.keeps hK6 hn13
  have hX6 := own_keeps hX.own hK6 (fun ad ha hh => by have hh : ad.block = g3 := hh; have := (own_block hX.own ad ha).1; omega)
  have hokX : QOk w6 q X cX := ⟨own_rd hX6, (own_cap hX6).1, hok.small, hok.i⟩
  have hok6 := hok.ext hx06
  clear hb4 hgr6 hX hX6
  refine go_LRequestPrint (k := ?_)
  refine OW_loadX agg_Req rfl (qcells q (.slice A q.token.length c)) rfl hb1.atL ?_
  refine go_LRequestPrint (k := ?_)
  refine OW_callV Try.func23 (by kernel_rfl) rfl (refMay_any w6 A c q hIq) rfl ?_
  intro w7 hx7
  replace hb1 := hb1.ext hx7
  replace hb6 := hb6.ext hx7
  replace hokX := hokX.ext hx7
  replace hok6 := hok6.ext hx7
  have hx07 := hx06.trans' hx7
  refine go_LRequestPrint (k := ?_)
  refine CW_loop (fun e' w' => ∃ k : Nat, k ≤ 2 ∧ e' 1 = .pointer (some ⟨g1, 0, none⟩) ∧ e' 3 = .pointer (some ⟨g3, 0, none⟩) ∧ e' 4 = .bool (mayQ q) ∧ e' 5 = .int .i64 k ∧ Ext w7 w') (fun e' _ => 2 - (intOf (e' 5)).toNat) ⟨0, by omega, rfl, rfl, rfl, rfl, Ext.rfl' _⟩ ?_
  rintro e' w8 ⟨t, hk, e1, e3, e4, e5, hx8⟩
  rw [upd_self e1, upd_self e3, upd_self e4, upd_self e5]
  replace hb1 := hb1.ext hx8
  replace hb6 := hb6.ext hx8
  replace hokX := hokX.ext hx8
  replace hok6 := hok6.ext hx8
  have hx08 := hx07.trans' hx8
  refine go_LRequestPrint (k := ?_)
  refine CW_cond _ rfl (fun hh => ?_) (fun hh => ?_)
  rotate_left 1
  · refine go_LRequestPrint (k := ?_)
    exact bodyE_ret1 rfl (.bool true) rfl ⟨rfl, hx08⟩
  have hlt : t < 2 := by have := of_decide_eq_true hh; omega
  clear hh
  refine go_LRequestPrint (k := ?_)
  refine OW_loadX agg_Req rfl (qcells q (.slice X q.token.length cX)) rfl hb6.atL ?_
  refine go_LRequestPrint (k := ?_)
  refine OW_callC Try.func24 (by kernel_rfl) rfl (printReq_any w8 X cX q hokX) rfl ?_
  rintro en w9 ⟨hx9, ⟨hm, rfl⟩ | ⟨hm, B, d, rfl, hf9⟩⟩
  · refine ⟨_, rfl, ?_⟩
    rw [hm]
    refine go_LRequestPrint (k := ?_)
    refine OW_loadX agg_Req rfl (qcells q (.slice X q.token.length cX)) rfl (hb6.ext hx9).atL ?_
    refine go_LRequestPrint (k := ?_)
    refine OW_callV Try.func25 (by kernel_rfl) rfl (may_any w9 X cX q hIq) rfl ?_
    intro w10 hx10
    rw [hm]
    have hb6' := hb6.ext (hx9.trans' hx10)
    have hb1' := hb1.ext (hx9.trans' hx10)
    clear hb6 hb1
    refine go_LRequestPrint (k := ?_)
    refine OW_callV Try.func19 (by kernel_rfl) rfl (refSame_any w10 X A q.token q.token cX c (hokX.bs.ext (hx9.trans' hx10)) (hok6.bs.ext (hx9.trans' hx10)) (by omega)) rfl ?_
    intro w11 hx11
    rw [show (q.token == q.token) = true from beq_self_eq_true _]
    refine go_LRequestPrint (k := ?_)
    exact bodyE_ret1 rfl (.bool true) rfl ⟨rfl, hx08.trans' ((hx9.trans' hx10).trans' hx11)⟩
  · refine ⟨_, rfl, ?_⟩
    rw [hm]
    have hfl : (reqF q).length ≤ 474 := by have := reqF_len q; have := may_lens hm; omega
    have hFm := fun w (h : QOk w q A c) => reqForm_any w A c q h hm
    generalize reqF q = F at *
    refine go_LRequestPrint (k := ?_)
    refine OW_loadX agg_Req rfl (qcells q (.slice X q.token.length cX)) rfl (hb6.ext hx9).atL ?_
    refine go_LRequestPrint (k := ?_)
    refine OW_callV Try.func25 (by kernel_rfl) rfl (may_any w9 X cX q hIq) rfl ?_
    intro w10 hx10
    rw [hm]
    have hb6' := hb6.ext (hx9.trans' hx10)
    have hb1' := hb1.ext (hx9.trans' hx10)
    refine go_LRequestPrint (k := ?_)
    refine OW_callV Try.func19 (by kernel_rfl) rfl (refSame_any w10 X A q.token q.token cX c (hokX.bs.ext (hx9.trans' hx10)) (hok6.bs.ext (hx9.trans' hx10)) (by omega)) rfl ?_
    intro w11 hx11
    rw [show (q.token == q.token) = true from beq_self_eq_true _]
    have hx911 := hx10.trans' hx11
    replace hb1' := hb1'.ext hx11
    clear hb6'
    refine go_LRequestPrint (k := ?_)
    refine OW_loadX agg_Req rfl (qcells q (.slice A q.token.length c)) rfl hb1'.atL ?_
    refine go_LRequestPrint (k := ?_)
    refine OW_callBs Try.func26 (by kernel_rfl) rfl (hFm w11 (hok6.ext (hx9.trans' hx911))) rfl ?_
    intro w12 D dD hD
    refine go_LRequestPrint (k := ?_)
    refine OW_callV Try.func19 (by kernel_rfl) rfl (refSame_any w12 B D F F d dD (hf9.bs.ext (hx911.trans' hD.ext)) hD.bs (by omega)) rfl ?_
    intro w13 hx13
    rw [show (F == F) = true from beq_self_eq_true _]
    have o13 := own_ext hf9.own ((hx911.trans' hD.ext).trans' hx13)
    have hx813 := hx9.trans' ((hx911.trans' hD.ext).trans' hx13)
    clear hb1' hFm
    refine go_LRequestPrint (k := ?_)
    refine CW_loop (fun e' w' => ∃ (k : Nat) (zs : List UInt8), k ≤ F.length ∧ zs.length = F.length ∧ e' 6 = .slice B F.length d ∧ e' 8 = .int .i64 k ∧ e' 1 = .pointer (some ⟨g1, 0, none⟩) ∧ e' 3 = .pointer (some ⟨g3, 0, none⟩) ∧ e' 4 = .bool true ∧ e' 5 = .int .i64 t ∧ w'.ownsRow w8.heap.size 5 1 (.slice B F.length d) F.length (zs.map bv) ∧ w13.grownBy w' (Value.ownBlock (.slice B F.length d))) (fun e' _ => F.length - (intOf (e' 8)).toNat) ?_ ?_
    · exact ⟨0, F, Nat.zero_le _, rfl, rfl, rfl, rfl, rfl, rfl, rfl, o13, World.grownBy.refl _ _⟩
    rintro ea wa ⟨ka, za, hak, haz, has, hai, qa_1, qa_3, qa_4, qa_5, hao, hag⟩
    rw [upd_self has, upd_self hai, upd_self qa_1, upd_self qa_3, upd_self qa_4, upd_self qa_5]
    refine go_LRequestPrint (k := ?_)
    refine CW_cond _ rfl (fun hh => ?_) (fun _ => ?_)
    · have hlt : ka < F.length := by simpa using hh
      obtain ⟨g, cur, hA, hg, _⟩ := own_blk hao (by omega)
      subst hA
      have hcell := inc_cell hao haz hlt
      have hst := inc_step hao haz hlt (za[ka]'(by omega) + 1)
      refine go_LRequestPrint (k := ?_)
      rw [inc_u8]
      refine go_LRequestPrint (k := ?_)
      rw [add0] at hcell ⊢
      refine OW_store1 one_u8 rfl (bv (za[ka]'(by omega) + 1)) (bv (za[ka]'(by omega))) rfl rfl hcell (hao.frozenAt ka) ?_
      refine go_LRequestPrint (k := ?_)
      refine ⟨⟨ka + 1, _, by omega, by simp [haz], rfl, rfl, rfl, rfl, rfl, rfl, hst.1, grown_trans' hag hst.2⟩, ?_⟩
      show F.length - ((ka : Int) + 1).toNat < F.length - (ka : Int).toNat
      omega
    refine go_LRequestPrint (k := ?_)
    have hxa : Ext w8 wa := ext_grown hx813 o13 hag
    refine ⟨⟨t + 1, by omega, rfl, rfl, rfl, rfl, hx8.trans' hxa⟩, ?_⟩
    show 2 - ((t : Int) + 1).toNat < 2 - (t : Int).toNat
    omega
set_option maxRecDepth 100000 in
theorem lifted (os : Os) (started : os.Started) (H : Type) (enc : TypeId × Value → H) :
    ReturnsInHanded {} Try.checked os 4 .any (Rows.requestPrintSpec.pre6 enc Try.prog Try.f4 Rows.requestPrintRow.domain false) (Rows.requestPrintSpec.post enc Try.prog Try.f4 false true false false) := by
  refine returnsInHanded_of_change_sized (C := Try.checked) ownP started (by kernel_rfl) Try.func4
    (ChangeSpec.witness6 (enc := enc) (C := Try.checked) false ⟨#[], #[.agg (qcells ⟨0, [], [], [], [], 0, 0, 0, 0, 0, 0, 0⟩ (.slice none 0 0)).toArray], []⟩ 8 (by kernel_rfl) (by kernel_rfl) (by kernel_rfl) (by kernel_rfl)) ?_
  intro W base args ds gs before hval0 hW hcnd hwt0 _
  have hval : ∀ (j : Nat) t v, Try.f4.params[j]? = some t → args[j]? = some v → Value.okWide Try.prog W .any base t v := hval0
  have hW' := hW
  obtain ⟨p, q, hA0, hV, rfl, hfz, hnd⟩ := hW
  have hA : DataW.TrodAll enc Try.prog W 0 (fun _ => true) true Try.f4.params.toList args.toList ds p := hA0
  have hwt : (DataW.weightsEach Try.prog (Try.f4.params.toList ++ []) (ds ++ gs)).all (· ≤ reachBytes) = true := hwt0
  rw [Try.params4] at hA hval hwt
  obtain ⟨v0, vs0, d0, ds0, p0, q0, hargs, rfl, rfl, h0, r0⟩ := trodAll_cons hA
  obtain ⟨rfl, rfl, rfl⟩ := trodAll_nil r0
  obtain rfl : args = #[v0] := by cases args; simp_all
  obtain ⟨rfl, rfl⟩ := trodVars_none hV
  have k0 := h0
  have lt0 : ∀ x ∈ p0, x.block < W.heap.size := by obtain ⟨m, hm⟩ := k0; exact DataW.trod_lt m _ _ _ hm
  have wk0 : WOk Try.prog 39 d0 := wok_each hwt 0 rfl rfl
  obtain ⟨cs0, a0, rfl, b0⟩ := kd_struct kReq Try.underlying39 (hval 0 39 v0 rfl rfl) h0 wk0
  clear hA0 hval0 hwt0
  refine (walk W cs0 a0 b0).mono fun e W' ⟨he, bel⟩ => ?_
  subst he
  exact ⟨_, rfl, _, _, _, [], _, [], hW', trodAll_mk1 (shut_bool Try.underlying4 _), (trodAll_cons_mk (Below.trod laidP (by kernel_rfl) (of_decide_eq_true (by kernel_rfl)) k0 bel lt0) trodAll_mk0), rfl, bel.frame _, fun h => by cases h⟩
theorem over : Rows.requestPrintRow.holds Try.pinned (OpenSpec.ofChange Rows.requestPrintSpec) :=
  OpenClaim.holds_of_wide 4 Try.f4 rfl rfl rfl rfl rfl rfl rfl ⟨rfl, rfl, rfl, rfl, rfl⟩ rfl rfl rfl rfl rfl (by kernel_rfl) Try.func4 (by kernel_rfl)
    (of_decide_eq_true (by kernel_rfl)) (by unfold Func.isWrapper; first | (rw [if_pos (by decide +kernel)]; kernel_rfl) | (rw [if_neg (by decide +kernel)]; exact ⟨rfl, rfl⟩))
    (fun os started H enc _ => lifted os started H enc)
theorem proved : Rows.RequestPrintSaid := over
#print axioms proved
end Go.Proofs.Ytdpomchhbbopbaa.lawRequestPrint
