/- RequestParse: any bytes are read as the request that the chapter says, or refused; they stay, and what is told is the caller's own. No condition. -/
import Derived.Test.YtdpomchhbbopbaaGr3
import Derived.Test.YtdpomchhbbopbaaGr21
namespace Go.Proofs.Ytdpomchhbbopbaa.lawRequestParse
open Go.ChangeShapes Go.WideShapes Go.ChangeAt Go.RowKit
set_option linter.unusedVariables false
set_option maxRecDepth 4000
theorem go_LRequestParse {A B : Prop} (h : Held B → A := by
  intro hEnd
  repeat (first | refine OW_neqF rfl rfl rfl ?_ | refine OW_eqlTr rfl rfl rfl ?_ | refine OW_fieldBL fldo_Q0 rfl ?_ | refine OW_fieldBL fldo_Q1 rfl ?_ | refine OW_fieldBL fldo_Q2 rfl ?_ | refine OW_fieldBL fldo_Q3 rfl ?_ | refine OW_fieldBL fldo_Q4 rfl ?_ | refine OW_fieldBL fldo_Q5 rfl ?_ | refine OW_fieldBL fldo_Q6 rfl ?_ | refine OW_fieldBL fldo_Q7 rfl ?_ | refine OW_fieldBL fldo_Q8 rfl ?_ | refine OW_fieldBL fldo_Q9 rfl ?_ | refine OW_fieldG fldo_G0 rfl ?_ | refine OW_fieldG fldo_G1 rfl ?_ | refine OW_fieldG fldo_G2 rfl ?_ | refine OW_fieldBL fldo_G0 rfl ?_ | refine OW_fieldBL fldo_G1 rfl ?_ | refine OW_fieldBL fldo_G2 rfl ?_ | refine OW_nilCheck rfl ?_ | refine OW_lenL und_string rfl ?_ | refine OW_eqlE rfl rfl ?_ | refine OW_moveV (.int _ _) rfl ?_ | refine OW_moveV (.slice _ _ _) rfl ?_ | refine OW_moveV (.bool _) rfl ?_ | refine OW_moveV (.pointer _) rfl ?_ | refine OW_moveV (.string _) rfl ?_ | refine OW_moveV (.agg _) rfl ?_ | refine OW_moveV (.tuple _) rfl ?_ | refine OW_nil ?_ | refine thenE_normal ?_ | refine CW_seq ?_ | refine CW_region (by kernel_rfl) ?_ | refine OW_assignV (.int _ _) rfl ?_ | refine OW_assignV (.slice _ _ _) rfl ?_ | refine OW_assignV (.bool _) rfl ?_ | refine OW_assignV (.pointer _) rfl ?_ | refine OW_assignV (.string _) rfl ?_ | refine OW_assignV (.agg _) rfl ?_ | refine OW_assignV (.tuple _) rfl ?_ | refine OW_addI rfl rfl (by omega) ?_ | refine OW_subI rfl rfl (by omega) ?_ | refine OW_mulI rfl rfl (by omega) ?_ | refine OW_lss rfl rfl ?_ | refine OW_extract rfl rfl ?_ | refine OW_gtr rfl rfl ?_ | refine OW_leq rfl rfl ?_ | refine OW_geq rfl rfl ?_ | refine OW_eql rfl rfl ?_ | refine OW_neq rfl rfl ?_ | refine OW_not rfl ?_ | refine OW_pickT rfl _ rfl ?_ | refine OW_pickF rfl (.bool _) rfl ?_ | refine OW_pickB rfl rfl rfl ?_ | refine OW_move ?_ | refine OW_assign ?_ | refine OW_pass rfl ?_ | refine OW_take rfl ?_ | refine OW_lenS (by first | with_reducible exact und_bytes | with_reducible exact und_bytess) rfl ?_ | refine OW_convInt (by first | with_reducible exact und_u8 | with_reducible exact und_u64 | with_reducible exact und_int | with_reducible exact und_u32) (by first | with_reducible exact und_u8 | with_reducible exact und_u64 | with_reducible exact und_int | with_reducible exact und_u32) rfl ?_ | refine OW_add rfl rfl ?_ | refine OW_sub rfl rfl ?_ | refine OW_mul rfl rfl ?_ | refine OW_min2 rfl rfl ?_ | refine OW_max2 rfl rfl ?_ | refine OW_neg rfl ?_ | refine CW_block ?_ | refine CW_condT rfl ?_ | refine CW_condF rfl ?_ | refine CW_exit ?_ | refine CW_ret ?_ | refine CW_skip ?_ | refine LW_seq ?_ | refine LW_regC ?_ | refine LW_condC ?_ | refine LW_regF ?_ | refine LW_condF ?_ | refine FW_seq ?_ | refine FW_region (by kernel_rfl) ?_ | refine FW_block ?_ | refine FW_condT rfl ?_ | refine FW_condF rfl ?_ | refine FW_exit ?_ | refine FW_ret ?_ | refine FW_skip ?_ | refine LW_ret ?_ | refine LW_skip ?_ | refine thenE_exit ?_ | refine thenE_ret ?_ | refine inBlockE_normal ?_ | refine inBlockE_same ?_ | refine inBlockE_ret ?_ | refine inBlockE_ne (by rfl) ?_ | refine OW_eqlB (by with_reducible exact und_bool) rfl rfl ?_ | refine OW_neqB (by with_reducible exact und_bool) rfl rfl ?_ | refine OW_idxS (by with_reducible exact und_bytes) one_u8 rfl rfl _ rfl (by omega) ?_ | refine OW_idxS (by with_reducible exact und_bytess) one_bytes rfl rfl _ rfl (by omega) ?_ | refine OW_load1 (by first | with_reducible exact one_u8 | with_reducible exact one_bytes) rfl _ (by assumption) ?_ | (refine OW_isLoad ?_; refine OW_loadBk (by first | with_reducible exact one_u8 | with_reducible exact one_int | with_reducible exact one_str | with_reducible exact one_bytes) rfl (by assumption) _ (by rfl) ?_))
  exact hEnd.out) (k : B) : A := h ⟨k⟩
set_option maxHeartbeats 8000000 in
theorem walk (w : World) (A : Option Addr) (c : Nat) (b : List UInt8) (ha : Bs w A b) (hca : b.length ≤ c) : Calls Try.prog 7 #[.slice A b.length c] w (RetV w (.bool true)) := by
  refine calls_of_CW Try.func7 rfl (by simp [Try.ntmps7]) ?_
  rw [Try.ntmps7]
  refine go_LRequestParse (k := ?_)
  refine CW_cond _ rfl (fun hh => ?_) (fun hh => ?_)
  · refine go_LRequestParse (k := ?_)
    exact bodyE_ret1 rfl (.bool true) rfl ⟨rfl, Ext.rfl' w⟩
  have hl : b.length ≤ 3000 := by have := of_decide_eq_false hh; omega
  clear hh
  refine go_LRequestParse (k := ?_)
  refine OW_callBs Try.func22 (by kernel_rfl) rfl (refCopy_any _ A b c ha (by omega)) rfl ?_
  intro w0 X cX hX
  have hx0 := hX.ext
  have hbX := hX.bs
  have hcX := hX.cap
  refine go_LRequestParse (k := ?_)
  refine OW_callC Try.func43 (by kernel_rfl) rfl (refParseReq_any w0 A c b (ha.ext hx0) hca (by omega)) rfl ?_
  rintro en w1 ⟨B, d, rfl, hO1, hx1⟩
  refine ⟨_, rfl, ?_⟩
  have hP := fun w (h : Ext w1 w) => ParseReq_any w X cX b (hbX.ext (hx1.trans' h)) hcX (by omega)
  have hR1 := parQ_ok hO1
  have hRO := fun (w : World) (base : Nat) B d hO => parQ_ok (w := w) (base := base) (B := B) (d := d) (b := b) hO
  obtain ⟨q, hq⟩ : ∃ q, parQ b = q := ⟨_, rfl⟩
  obtain ⟨n, hn⟩ : ∃ n, parQE b = n := ⟨_, rfl⟩
  rw [hq] at hO1 hR1 hP hRO
  rw [hn] at hP
  rw [hq, hn]
  have hI := hR1.i.i
  have hts := hR1.small
  have hbA1 := ha.ext (hx0.trans' hx1)
  have hbX1 := hbX.ext hx1
  have hx01 := hx0.trans' hx1
  have htk : q.token.length ≤ 256 := by rw [← hq]; exact parQ_tok b
  clear hX hbX hO1
  refine go_LRequestParse (k := ?_)
  refine OW_allocA agg_Req ?_
  intro w2 g4 hb2 hg4 hlt4 hx2
  refine go_LRequestParse (k := ?_)
  refine OW_storeA agg_Req rfl (qcells q (.slice B q.token.length d)) rfl rfl hb2 (by kernel_rfl) (qcells_one q _ _ _) ?_
  intro w3 hb3 hgr3
  have hb3 : Blk w3 g4 39 (qcells q (.slice B q.token.length d)).toArray := hb3
  have hx3 : Ext w1 w3 := (Keeps.of_only hgr3 (S := (· = g4)) rfl).ext hx2 (fun j hj => by have hj : j = g4 := hj; omega)
  replace hR1 := hR1.ext hx3
  clear hb2 hgr3
  refine go_LRequestParse (k := ?_)
  refine CW_loop (fun e' w' => ∃ k : Nat, k ≤ 2 ∧ e' 0 = .slice A b.length c ∧ e' 3 = .slice X b.length cX ∧ e' 4 = .pointer (some ⟨g4, 0, none⟩) ∧ e' 5 = .int .i64 n ∧ e' 6 = .int .i64 k ∧ Ext w3 w') (fun e' _ => 2 - (intOf (e' 6)).toNat) ⟨0, by omega, rfl, rfl, rfl, rfl, rfl, Ext.rfl' _⟩ ?_
  rintro e' w4 ⟨k, hk, e0, e3, e4, e5, e6, hx4⟩
  rw [upd_self e0, upd_self e3, upd_self e4, upd_self e5, upd_self e6]
  have hx14 := hx3.trans' hx4
  have hbW := hb3.ext hx4
  have hRW := hR1.ext hx4
  refine go_LRequestParse (k := ?_)
  refine CW_cond _ rfl (fun hh => ?_) (fun hh => ?_)
  rotate_left 1
  · refine go_LRequestParse (k := ?_)
    exact bodyE_ret1 rfl (.bool true) rfl ⟨rfl, hx01.trans' hx14⟩
  have hlt : k < 2 := by have := of_decide_eq_true hh; omega
  clear hh
  refine go_LRequestParse (k := ?_)
  refine OW_callC Try.func44 (by kernel_rfl) rfl (hP w4 hx14) rfl ?_
  rintro en w5 ⟨B5, d5, rfl, hO5, hx5⟩
  refine ⟨_, rfl, ?_⟩
  have hR5 := hRO _ _ _ _ hO5
  have hbd5 := own_block hO5
  refine go_LRequestParse (k := ?_)
  refine OW_allocA agg_Req ?_
  intro w6 g7 hb6 hg6 hlt6 hx6
  refine go_LRequestParse (k := ?_)
  refine OW_storeA agg_Req rfl (qcells q (.slice B5 q.token.length d5)) rfl rfl hb6 (by kernel_rfl) (qcells_one q _ _ _) ?_
  intro w7 hb7 hgr7
  have hb7 : Blk w7 g7 39 (qcells q (.slice B5 q.token.length d5)).toArray := hb7
  have hx57 : Ext w5 w7 := (Keeps.of_only hgr7 (S := (· = g7)) rfl).ext hx6 (fun j hj => by have hj : j = g7 := hj; omega)
  have hx47 := hx5.trans' hx57
  have hO7 := own_ext hO5 hx57
  replace hR5 := hR5.ext hx57
  have hb3w := hbW.ext hx47
  clear hb6 hgr7 hO5
  refine go_LRequestParse (k := ?_)
  refine OW_loadX agg_Req rfl (qcells q (.slice B5 q.token.length d5)) rfl hb7.atL ?_
  refine go_LRequestParse (k := ?_)
  refine OW_loadX agg_Req rfl (qcells q (.slice B q.token.length d)) rfl hb3w.atL ?_
  refine go_LRequestParse (k := ?_)
  refine OW_callV Try.func45 (by kernel_rfl) rfl (sameReq_any w7 B5 B d5 d q hR5.bs (hRW.ext hx47).bs (by omega) ⟨hI.2.2.2.2.1, hI.2.2.2.2.2⟩) rfl ?_
  intro w8 hx8
  replace hb7 := hb7.ext hx8
  have hO8 := own_ext hO7 hx8
  have hx48 := hx47.trans' hx8
  have hx18 := hx14.trans' hx48
  clear hO7 hb3w
  refine go_LRequestParse (k := ?_)
  refine OW_callV Try.func19 (by kernel_rfl) rfl (refSame_any w8 X A b b cX c (hbX1.ext hx18) (hbA1.ext hx18) (by omega)) rfl ?_
  intro w9 hx9
  rw [beq_self_eq_true]
  replace hb7 := hb7.ext hx9
  have hO9 := own_ext hO8 hx9
  have hx49 := hx48.trans' hx9
  have s5 := hx5.size
  have hne : ∀ ad, B5 = some ad → ad.block ≠ g7 := fun ad h hh => by have := hbd5 ad h; omega
  clear hO8
  refine go_LRequestParse (k := ?_)
  refine CW_meetB (fun e' w' => e' 0 = .slice A b.length c ∧ e' 3 = .slice X b.length cX ∧ e' 4 = .pointer (some ⟨g4, 0, none⟩) ∧ e' 5 = .int .i64 n ∧ e' 6 = .int .i64 k ∧ Ext w4 w') ?_ ?_
  · refine CW_loop (fun e' w' => ∃ (j : Nat) (zs : List UInt8), j ≤ q.token.length ∧ zs.length = q.token.length ∧ e' 0 = .slice A b.length c ∧ e' 3 = .slice X b.length cX ∧ e' 4 = .pointer (some ⟨g4, 0, none⟩) ∧ e' 5 = .int .i64 n ∧ e' 6 = .int .i64 k ∧ e' 7 = .pointer (some ⟨g7, 0, none⟩) ∧ e' 9 = .int .i64 j ∧ Ext w4 w' ∧ Blk w' g7 39 (qcells q (.slice B5 q.token.length d5)).toArray ∧ w'.ownsRow w4.heap.size 5 1 (.slice B5 q.token.length d5) q.token.length (zs.map bv)) (fun e' _ => q.token.length - (intOf (e' 9)).toNat) ⟨0, _, Nat.zero_le _, rfl, rfl, rfl, rfl, rfl, rfl, rfl, rfl, hx49, hb7, hO9⟩ ?_
    clear hb7 hO9
    rintro e' w10 ⟨j, zs, hj, hz, f0, f3, f4, f5, f6, f7, f9, hx10, hb10, hO10⟩
    rw [upd_self f0, upd_self f3, upd_self f4, upd_self f5, upd_self f6, upd_self f7, upd_self f9]
    refine go_LRequestParse (k := ?_)
    refine CW_cond _ rfl (fun hh => ?_) (fun hh => ?_)
    rotate_left 1
    · refine go_LRequestParse (k := ?_)
      exact ⟨rfl, rfl, rfl, rfl, rfl, rfl, hx10⟩
    have hjl : j < q.token.length := by have := of_decide_eq_true hh; omega
    clear hh
    obtain ⟨g, cur, hB, hbg, _⟩ := own_blk hO10 (by omega)
    subst hB
    have hgn : g ≠ g7 := hne _ rfl
    have hcell := inc_cell hO10 hz hjl
    have hst := inc_step hO10 hz hjl (zs[j]'(by omega) + 1)
    refine go_LRequestParse (k := ?_)
    rw [inc_u8]
    refine go_LRequestParse (k := ?_)
    rw [add0] at hcell ⊢
    refine OW_store1 one_u8 rfl (bv (zs[j]'(by omega) + 1)) (bv (zs[j]'(by omega))) rfl rfl hcell (hO10.frozenAt j) ?_
    have hK : Keeps w10 _ (· = g) := Keeps.of_only hst.2 rfl
    refine go_LRequestParse (k := ?_)
    refine ⟨⟨j + 1, _, by omega, by simp [hz], rfl, rfl, rfl, rfl, rfl, rfl, rfl, hK.ext hx10 (fun i hi => by have hi : i = g := hi; omega), hb10.keeps hK (fun hh => hgn hh.symm), hst.1⟩, ?_⟩
    show q.token.length - ((j : Int) + 1).toNat < q.token.length - (j : Int).toNat
    omega
  clear hb7 hO9 hbW hRW
  rintro e' w10 ⟨f0, f3, f4, f5, f6, hx10⟩
  rw [upd_self f0, upd_self f3, upd_self f4, upd_self f5, upd_self f6]
  refine go_LRequestParse (k := ?_)
  refine ⟨⟨k + 1, by omega, rfl, rfl, rfl, rfl, rfl, hx4.trans' hx10⟩, ?_⟩
  show 2 - ((k : Int) + 1).toNat < 2 - (k : Int).toNat
  omega
set_option maxRecDepth 100000 in
theorem lifted (os : Os) (started : os.Started) (H : Type) (enc : TypeId × Value → H) :
    ReturnsInHanded {} Try.checked os 7 .any (Rows.requestParseSpec.pre6 enc Try.prog Try.f7 Rows.requestParseRow.domain false) (Rows.requestParseSpec.post enc Try.prog Try.f7 false true false false) := by
  refine returnsInHanded_of_change (C := Try.checked) ownP started (by kernel_rfl) Try.func7
    (ChangeSpec.witness6 (enc := enc) (C := Try.checked) false ⟨#[], #[.slice none 0 0], []⟩ 8 (by kernel_rfl) (by kernel_rfl) (by kernel_rfl) (by kernel_rfl)) ?_
  intro W base args ds gs before hval0 hW hcnd _
  have hval : ∀ (j : Nat) t v, Try.f7.params[j]? = some t → args[j]? = some v → Value.okWide Try.prog W .any base t v := hval0
  have hW' := hW
  obtain ⟨p, q, hA0, hV, rfl, hfz, hnd⟩ := hW
  have hA : DataW.TrodAll enc Try.prog W 0 (fun _ => true) true Try.f7.params.toList args.toList ds p := hA0
  rw [Try.params7] at hA hval
  obtain ⟨v0, vs0, d0, ds0, p0, q0, hargs, rfl, rfl, h0, r0⟩ := trodAll_cons hA
  obtain ⟨rfl, rfl, rfl⟩ := trodAll_nil r0
  obtain rfl : args = #[v0] := by cases args; simp_all
  obtain ⟨rfl, rfl⟩ := trodVars_none hV
  have k0 := h0
  have lt0 : ∀ x ∈ p0, x.block < W.heap.size := by obtain ⟨m, hm⟩ := k0; exact DataW.trod_lt m _ _ _ hm
  obtain ⟨A0, c0, l0, rfl, b0, n0⟩ := open_bytes Try.underlying31 Try.underlying5 (by kernel_rfl) (hval 0 31 v0 rfl rfl) h0
  clear hA0 hval0
  refine (walk W A0 c0 l0 b0 n0).mono fun e W' ⟨he, bel⟩ => ?_
  subst he
  exact ⟨_, rfl, _, _, _, [], _, [], hW', trodAll_mk1 (shut_bool Try.underlying4 _), (trodAll_cons_mk (Below.trod laidP (by kernel_rfl) (of_decide_eq_true (by kernel_rfl)) k0 bel lt0) trodAll_mk0), rfl, bel.frame _, fun h => by cases h⟩
theorem over : Rows.requestParseRow.holds Try.pinned (OpenSpec.ofChange Rows.requestParseSpec) :=
  OpenClaim.holds_of_wide 7 Try.f7 rfl rfl rfl rfl rfl rfl rfl ⟨rfl, rfl, rfl, rfl, rfl⟩ rfl rfl rfl rfl rfl (by kernel_rfl) Try.func7 (by kernel_rfl)
    (of_decide_eq_true (by kernel_rfl)) (by unfold Func.isWrapper; first | (rw [if_pos (by decide +kernel)]; kernel_rfl) | (rw [if_neg (by decide +kernel)]; exact ⟨rfl, rfl⟩))
    (fun os started H enc _ => lifted os started H enc)
theorem proved : Rows.RequestParseSaid := over
#print axioms proved
end Go.Proofs.Ytdpomchhbbopbaa.lawRequestParse
