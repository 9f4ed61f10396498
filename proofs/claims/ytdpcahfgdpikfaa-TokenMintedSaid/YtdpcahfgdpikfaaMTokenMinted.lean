/- TokenMinted: what was minted verifies just what all of its grants allow, and is read as it was. No condition. -/
import Derived.Test.YtdpcahfgdpikfaaGt3
import Derived.Test.YtdpcahfgdpikfaaGt27
namespace Go.Proofs.Ytdpcahfgdpikfaa.lawTokenMinted
open Go.ChangeShapes Go.WideShapes Go.ChangeAt Go.RowKit
set_option linter.unusedVariables false
set_option maxRecDepth 4000
theorem go_LTokenMinted {A B : Prop} (h : Held B → A := by
  intro hEnd
  repeat (first | refine OW_fieldO fldo_G0 rfl ?_ | refine OW_fieldO fldo_G1 rfl ?_ | refine OW_neqIF rfl rfl (by first | assumption | rfl) ?_ | refine OW_neqIT rfl rfl (by assumption) ?_ | refine OW_eqlIT rfl rfl (by first | assumption | rfl) ?_ | refine OW_eqlIF rfl rfl (by assumption) ?_ | refine OW_neqIF rfl rfl (by first | assumption | rfl) ?_ | refine OW_eqlIT rfl rfl (by first | assumption | rfl) ?_ | (refine OW_isLoad ?_; refine OW_loadM (by first | with_reducible exact agg_Grant | with_reducible exact s_agg_Tag | with_reducible exact agg_Token) rfl (by first | assumption | (apply_assumption; assumption)) ?_) | refine OW_idxN und_Grants el_Grant rfl rfl 0 rfl (by omega) ?_ | refine OW_sliceP h_slp_Tag rfl ?_ | refine OW_slicePOT a_slp_TagT rfl ?_ | refine OW_fieldB fldo_G0 rfl ?_ | refine OW_fieldB fldo_G1 rfl ?_ | refine OW_fieldB fldo_G2 rfl ?_ | refine OW_fieldB fldo_T0 rfl ?_ | refine OW_fieldB fldo_T1 rfl ?_ | refine OW_fieldB fldo_T2 rfl ?_ | refine OW_lenS und_Grants rfl ?_ | refine OW_idxN und_Grants el_Grant rfl rfl _ rfl (by omega) ?_ | refine OW_moveV (.int _ _) rfl ?_ | refine OW_moveV (.slice _ _ _) rfl ?_ | refine OW_moveV (.bool _) rfl ?_ | refine OW_moveV (.pointer _) rfl ?_ | refine OW_moveV (.string _) rfl ?_ | refine OW_moveV (.agg _) rfl ?_ | refine OW_moveV (.tuple _) rfl ?_ | refine OW_nil ?_ | refine thenE_normal ?_ | refine CW_seq ?_ | refine CW_region (by kernel_rfl) ?_ | refine OW_assignV (.int _ _) rfl ?_ | refine OW_assignV (.slice _ _ _) rfl ?_ | refine OW_assignV (.bool _) rfl ?_ | refine OW_assignV (.pointer _) rfl ?_ | refine OW_assignV (.string _) rfl ?_ | refine OW_assignV (.agg _) rfl ?_ | refine OW_assignV (.tuple _) rfl ?_ | refine OW_addI rfl rfl (by omega) ?_ | refine OW_subI rfl rfl (by omega) ?_ | refine OW_mulI rfl rfl (by omega) ?_ | refine OW_lss rfl rfl ?_ | refine OW_extract rfl rfl ?_ | refine OW_gtr rfl rfl ?_ | refine OW_leq rfl rfl ?_ | refine OW_geq rfl rfl ?_ | refine OW_eql rfl rfl ?_ | refine OW_neq rfl rfl ?_ | refine OW_not rfl ?_ | refine OW_pickT rfl _ rfl ?_ | refine OW_pickF rfl (.bool _) rfl ?_ | refine OW_pickB rfl rfl rfl ?_ | refine OW_move ?_ | refine OW_assign ?_ | refine OW_pass rfl ?_ | refine OW_take rfl ?_ | refine OW_lenS (by first | with_reducible exact und_bytes | with_reducible exact und_bytess) rfl ?_ | refine OW_convInt (by first | with_reducible exact und_u8 | with_reducible exact und_u64 | with_reducible exact und_int | with_reducible exact und_u32) (by first | with_reducible exact und_u8 | with_reducible exact und_u64 | with_reducible exact und_int | with_reducible exact und_u32) rfl ?_ | refine OW_add rfl rfl ?_ | refine OW_sub rfl rfl ?_ | refine OW_mul rfl rfl ?_ | refine OW_min2 rfl rfl ?_ | refine OW_max2 rfl rfl ?_ | refine OW_neg rfl ?_ | refine CW_block ?_ | refine CW_condT rfl ?_ | refine CW_condF rfl ?_ | refine CW_exit ?_ | refine CW_ret ?_ | refine CW_skip ?_ | refine LW_seq ?_ | refine LW_regC ?_ | refine LW_condC ?_ | refine LW_regF ?_ | refine LW_condF ?_ | refine FW_seq ?_ | refine FW_region (by kernel_rfl) ?_ | refine FW_block ?_ | refine FW_condT rfl ?_ | refine FW_condF rfl ?_ | refine FW_exit ?_ | refine FW_ret ?_ | refine FW_skip ?_ | refine LW_ret ?_ | refine LW_skip ?_ | refine thenE_exit ?_ | refine thenE_ret ?_ | refine inBlockE_normal ?_ | refine inBlockE_same ?_ | refine inBlockE_ret ?_ | refine inBlockE_ne (by rfl) ?_ | refine OW_eqlB (by with_reducible exact und_bool) rfl rfl ?_ | refine OW_neqB (by with_reducible exact und_bool) rfl rfl ?_ | refine OW_idxS (by with_reducible exact und_bytes) one_u8 rfl rfl _ rfl (by omega) ?_ | refine OW_idxS (by with_reducible exact und_bytess) one_bytes rfl rfl _ rfl (by omega) ?_ | refine OW_load1 (by first | with_reducible exact one_u8 | with_reducible exact one_bytes) rfl _ (by assumption) ?_ | (refine OW_isLoad ?_; refine OW_loadBk (by first | with_reducible exact s_int | with_reducible exact one_u8 | with_reducible exact one_grants) rfl (by assumption) _ (by rfl) ?_) | refine OW_load1 s_int rfl _ (by assumption) ?_)
  exact hEnd.out) (k : B) : A := h ⟨k⟩
set_option maxHeartbeats 8000000 in
theorem late_any (l : List GD) (now : Int) : l.any (fun g => decide (g.expiry ≤ now)) = true ↔ ∃ g ∈ l, g.expiry ≤ now := by
  rw [List.any_eq_true]
  constructor
  · rintro ⟨g, h1, h2⟩
    exact ⟨g, h1, of_decide_eq_true h2⟩
  · rintro ⟨g, h1, h2⟩
    exact ⟨g, h1, decide_eq_true h2⟩
set_option maxHeartbeats 8000000 in
theorem less_any (l : List GD) (n : UInt8) : l.any (fun g => n &&& ~~~ g.rights != 0) = false ↔ ∀ g ∈ l, n &&& ~~~ g.rights = 0 := by
  rw [List.any_eq_false]
  constructor
  · intro h g hg
    have := h g hg
    simpa using this
  · intro h g hg
    simpa using h g hg
theorem any_take {p : GD → Bool} {l : List GD} {k : Nat} (hk : k < l.length) : (l.take (k + 1)).any p = ((l.take k).any p || p l[k]) := by
  rw [List.take_succ_eq_append_getElem hk, List.any_append]
  simp
set_option maxHeartbeats 8000000 in
theorem ver_any {l : List GD} (h : lineOk l = true) {ten : Int} (h0 : 0 ≤ ten ∧ ten ≤ 8) (key : List UInt8) (now : Int) (need : UInt8) : verT key ⟨ten, l, tagL key ten l⟩ now need = if l.any (fun g => decide (g.expiry ≤ now)) then 92 else if l.any (fun g => need &&& ~~~ g.rights != 0) then 94 else 0 := by
  rw [ver_mk h h0]
  by_cases c1 : leavesE l ≤ now
  · rw [if_pos c1, if_pos ((late_any l now).2 ((late_iff h now).1 c1))]
  · rw [if_neg c1, if_neg (fun hh => c1 ((late_iff h now).2 ((late_any l now).1 hh)))]
    by_cases c2 : need &&& ~~~ (leavesR l) = 0
    · rw [if_pos c2, (less_any l need).2 ((less_iff h need).1 c2)]
      rfl
    · rw [if_neg c2, if_pos]
      cases hh : l.any (fun g => need &&& ~~~ g.rights != 0) with
      | true => rfl
      | false => exact absurd ((less_iff h need).2 ((less_any l need).1 hh)) c2
theorem ten_mod (n : Int) : ∃ m : Nat, m ≤ 8 ∧ (u64N n % 9 : Nat) = m := ⟨_, by omega, rfl⟩
set_option maxHeartbeats 8000000 in
theorem walk (w : World) (v0 : Value) (key : List UInt8) (h0 : kBs.R w [v0] key) (v1 : Value) (ten : Int) (h1 : kI.R w [v1] ten) (v2 : Value) (l : List GD) (h2 : kGrants.R w [v2] l) (v3 : Value) (now : Int) (h3 : kI.R w [v3] now) (v4 : Value) (need : UInt8) (h4 : kB8.R w [v4] need) : Calls Try.prog 10 #[v0, v1, v2, v3, v4] w (RetV w (.bool true)) := by
  obtain ⟨A, cA, hv0, ⟨hca, hca2⟩, ha⟩ := h0
  injection hv0 with hv0
  subst hv0
  obtain ⟨hv1, hti⟩ := h1
  injection hv1 with hv1
  subst hv1
  obtain ⟨B, cB, hv2, hcB, hcB2, hS⟩ := h2
  injection hv2 with hv2
  subst hv2
  obtain ⟨hl, hgk⟩ := grants_of hS
  obtain ⟨hv3, hni⟩ := h3
  injection hv3 with hv3
  subst hv3
  have hv4 : [v4] = [bv need] := h4
  injection hv4 with hv4
  subst hv4
  obtain ⟨m, hm8, hm⟩ := ten_mod ten
  have hten : IntKind.i64.wrap (((u64N ten % 9 : Nat) : Int)) = (m : Int) := by rw [hm]; exact wrap64_in (by omega)
  refine calls_of_CW Try.func10 rfl (by simp [Try.ntmps10]) ?_
  rw [Try.ntmps10]
  refine go_LTokenMinted (k := ?_)
  rw [wrap_u64I]
  refine OW_rem rfl rfl (by decide) ?_
  rw [rem_u32 _ 9 9 rfl]
  refine go_LTokenMinted (k := ?_)
  rw [hten]
  refine go_LTokenMinted (k := ?_)
  refine OW_split 26 _ rfl (fun hh => ?_) (fun hh => ?_)
  · skip
    refine go_LTokenMinted (k := ?_)
    refine OW_callV Try.func28 (by kernel_rfl) rfl (awake9_any w) rfl ?_
    intro wA hxA
    refine go_LTokenMinted (k := ?_)
    exact bodyE_ret1 rfl (.bool true) rfl ⟨rfl, (Ext.rfl' w).trans' hxA⟩
  have hkl : key.length ≤ 100 := by have := of_decide_eq_false hh; omega
  clear hh
  refine go_LTokenMinted (k := ?_)
  refine OW_callV Try.func40 (by kernel_rfl) rfl (rLine0_any w B cB l hl) rfl ?_
  intro w1 hx1
  cases hok : lineOk l with
  | false =>
    refine go_LTokenMinted (k := ?_)
    refine OW_callV Try.func28 (by kernel_rfl) rfl (awake9_any w1) rfl ?_
    intro wA hxA
    refine go_LTokenMinted (k := ?_)
    exact bodyE_ret1 rfl (.bool true) rfl ⟨rfl, hx1.trans' hxA⟩
  | true =>
  obtain ⟨n1, n4, _⟩ := lineOk_parts hok
  have ht0 : (0 : Int) ≤ m ∧ (m : Int) ≤ 8 := by omega
  have hck := check_mk hok ht0 key
  have hver := ver_any hok ht0 key now need
  have x1 := tagL_len key m l
  have hmay := may_mk hok ht0 (tagL key m l)
  have tT := fun v => tcells_length (t := ⟨(m : Int), l, tagL key m l⟩) x1 v
  have hpp := par_print hmay x1
  have hpl := printT_len hmay x1
  have hn1 : l.length ≤ 10000 := by omega
  have hka : key.length ≤ 80000 := by omega
  have hmk := made_any w1 A B cA cB key m l (ha.ext hx1) hca hka ht0 (hl.ext hx1) hcB hok
  generalize tagL key (m : Int) l = X1 at *
  have hpar : parT (printT ⟨(m : Int), l, X1⟩) = (⟨(m : Int), l, X1⟩, 0) := by unfold parT; rw [if_pos hpp.1, hpp.2]
  refine go_LTokenMinted (k := ?_)
  refine OW_callC Try.func42 (by kernel_rfl) rfl hmk rfl ?_
  rintro en w4 ⟨A4, c4, rfl, hG4, hc4, hx4⟩
  refine ⟨_, rfl, ?_⟩
  clear hmk
  refine go_LTokenMinted (k := ?_)
  refine OW_allocA agg_Token ?_
  intro u11 g11 hb11 hg11 hlt11 hxa11
  refine go_LTokenMinted (k := ?_)
  refine OW_storeA agg_Token rfl (tcells ⟨(m : Int), l, X1⟩ (.slice A4 l.length c4)) rfl (tT _) hb11 (by kernel_rfl) (tcells_one _ _ _ _) ?_
  intro w5 hb11 hgr11
  have hxb11 : Ext w4 w5 := (Keeps.of_only hgr11 (S := (· = g11)) rfl).ext hxa11 (fun j hj => by have hj : j = g11 := hj; omega)
  clear hgr11 hxa11
  replace hG4 := hG4.ext hxb11
  have hx05 := hx1.trans' (hx4.trans' hxb11)
  refine go_LTokenMinted (k := ?_)
  refine OW_loadX agg_Token rfl (tcells ⟨(m : Int), l, X1⟩ (.slice A4 l.length c4)) (tT _) hb11.atL ?_
  have hC := tokCheck_any w5 A A4 cA c4 key ⟨(m : Int), l, X1⟩ (ha.ext hx05) hca hka hG4 hc4 hn1 x1
  rw [hck] at hC
  refine go_LTokenMinted (k := ?_)
  refine OW_callV Try.func38 (by kernel_rfl) rfl hC rfl ?_
  intro w6 hx6
  clear hC
  have hx06 := hx05.trans' hx6
  replace hb11 := hb11.ext hx6
  replace hG4 := hG4.ext hx6
  refine go_LTokenMinted (k := ?_)
  refine OW_loadX agg_Token rfl (tcells ⟨(m : Int), l, X1⟩ (.slice A4 l.length c4)) (tT _) hb11.atL ?_
  refine go_LTokenMinted (k := ?_)
  refine OW_callBs Try.func45 (by kernel_rfl) rfl (tokPrint_any w6 A4 c4 ⟨(m : Int), l, X1⟩ hG4 hc4 hn1 x1) rfl ?_
  intro w7 A7 c7 hf7
  have hx07 := hx06.trans' hf7.ext
  have hP := tokParse_any w7 A7 c7 (printT ⟨(m : Int), l, X1⟩) hf7.bs hf7.cap (by rw [hpl]; show 48 + 24 * l.length ≤ 100000; omega)
  rw [hpar] at hP
  replace hb11 := hb11.ext hf7.ext
  replace hG4 := hG4.ext hf7.ext
  generalize printT ⟨(m : Int), l, X1⟩ = p at *
  refine go_LTokenMinted (k := ?_)
  refine OW_callC Try.func46 (by kernel_rfl) rfl hP rfl ?_
  rintro en w8 ⟨A8, c8, rfl, hO8, hx8⟩
  refine ⟨_, rfl, ?_⟩
  clear hP hf7
  have hG8 : GRd w8 A8 l := hO8.rd
  have hc8 : l.length ≤ c8 := hO8.cap
  clear hO8
  refine go_LTokenMinted (k := ?_)
  refine OW_allocA agg_Token ?_
  intro u13 g13 hb13 hg13 hlt13 hxa13
  refine go_LTokenMinted (k := ?_)
  refine OW_storeA agg_Token rfl (tcells ⟨(m : Int), l, X1⟩ (.slice A8 l.length c8)) rfl (tT _) hb13 (by kernel_rfl) (tcells_one _ _ _ _) ?_
  intro w9 hb13 hgr13
  have hxb13 : Ext w8 w9 := (Keeps.of_only hgr13 (S := (· = g13)) rfl).ext hxa13 (fun j hj => by have hj : j = g13 := hj; omega)
  clear hgr13 hxa13
  replace hG8 := hG8.ext hxb13
  have hx79 := hx8.trans' hxb13
  replace hb11 := hb11.ext hx79
  replace hG4 := hG4.ext hx79
  have hx09 := hx07.trans' hx79
  refine go_LTokenMinted (k := ?_)
  refine OW_loadX agg_Token rfl (tcells ⟨(m : Int), l, X1⟩ (.slice A4 l.length c4)) (tT _) hb11.atL ?_
  refine go_LTokenMinted (k := ?_)
  refine OW_loadX agg_Token rfl (tcells ⟨(m : Int), l, X1⟩ (.slice A8 l.length c8)) (tT _) hb13.atL ?_
  have hS := tokSame_any w9 A4 A8 c4 c8 ⟨(m : Int), l, X1⟩ ⟨(m : Int), l, X1⟩ hG4 hG8 hgk hgk (by show l.length ≤ 1000000; omega) x1 x1
  rw [decide_eq_true rfl] at hS
  refine go_LTokenMinted (k := ?_)
  refine OW_callV Try.func48 (by kernel_rfl) rfl hS rfl ?_
  intro w10 hx10
  clear hS
  replace hb11 := hb11.ext hx10
  replace hb13 := hb13.ext hx10
  replace hG4 := hG4.ext hx10
  have hx010 := hx09.trans' hx10
  have htl : l.take 0 = [] := List.take_zero
  refine go_LTokenMinted (k := ?_)
  refine CW_loop (fun e' w' => ∃ k : Nat, k ≤ l.length ∧ e' 0 = .slice A key.length cA ∧ e' 2 = .slice B l.length cB ∧ e' 3 = .int .i64 now ∧ e' 4 = bv need ∧ e' 11 = .pointer (some ⟨g11, 0, none⟩) ∧ e' 15 = .bool ((l.take k).any (fun g => decide (g.expiry ≤ now))) ∧ e' 16 = .bool ((l.take k).any (fun g => need &&& ~~~ g.rights != 0)) ∧ e' 17 = .int .i64 k ∧ Ext w10 w') (fun e' _ => l.length - (intOf (e' 17)).toNat) ⟨0, Nat.zero_le _, rfl, rfl, rfl, rfl, rfl, rfl, rfl, rfl, Ext.rfl' _⟩ ?_
  rintro e' w11 ⟨k, hk, q0, q2, q3, q4, q11, q15, q16, q17, hx11⟩
  rw [upd_self q0, upd_self q2, upd_self q3, upd_self q4, upd_self q11, upd_self q15, upd_self q16, upd_self q17]
  clear q0 q2 q3 q4 q11 q15 q16 q17
  have hx011 := hx010.trans' hx11
  refine go_LTokenMinted (k := ?_)
  refine CW_cond _ rfl (fun hh => ?_) (fun hh => ?_)
  · have hlt : k < l.length := by have := of_decide_eq_true hh; omega
    clear hh
    obtain ⟨ad, hA0, hat⟩ := (hl.ext hx011).at_ hlt
    have s1 := any_take (p := fun g => decide (g.expiry ≤ now)) hlt
    have s2 := any_take (p := fun g => need &&& ~~~ g.rights != 0) hlt
    generalize (l.take k).any (fun g => decide (g.expiry ≤ now)) = p1 at *
    generalize (l.take k).any (fun g => need &&& ~~~ g.rights != 0) = p2 at *
    generalize l[k] = gk at *
    have d0 : w11.cell? ((ad.add (k * 3)).add 0) = some (bv gk.rights) := hat 0 _ rfl
    have d1 : w11.cell? ((ad.add (k * 3)).add 1) = some (.int .i64 gk.expiry) := hat 1 _ rfl
    subst hA0
    have hb2 : (((need &&& ~~~ gk.rights).toNat : Int) != 0) = (need &&& ~~~ gk.rights != 0) := by
      rw [Bool.eq_iff_iff, bne_iff_ne, bne_iff_ne, ne_eq, ne_eq, ← UInt8.toNat_inj]
      show ¬ ((need &&& ~~~ gk.rights).toNat : Int) = 0 ↔ ¬ (need &&& ~~~ gk.rights).toNat = 0
      omega
    refine go_LTokenMinted (k := ?_)
    refine OW_meet (fun e' w' => e' 0 = .slice A key.length cA ∧ e' 2 = .slice (some ad) l.length cB ∧ e' 3 = .int .i64 now ∧ e' 4 = bv need ∧ e' 11 = .pointer (some ⟨g11, 0, none⟩) ∧ e' 15 = .bool (p1 || decide (gk.expiry ≤ now)) ∧ e' 16 = .bool p2 ∧ e' 17 = .int .i64 k ∧ w' = w11) ?_ ?_
    · cases p1 with
      | true =>
        refine go_LTokenMinted (k := ?_)
        exact ⟨rfl, rfl, rfl, rfl, rfl, rfl, rfl, rfl, rfl, rfl⟩
      | false =>
        refine go_LTokenMinted (k := ?_)
        exact ⟨rfl, rfl, rfl, rfl, rfl, rfl, rfl, rfl, rfl, rfl⟩
    rintro e12 w12 ⟨q0, q2, q3, q4, q11, q15, q16, q17, rfl⟩
    rw [upd_self q0, upd_self q2, upd_self q3, upd_self q4, upd_self q11, upd_self q15, upd_self q16, upd_self q17]
    clear q0 q2 q3 q4 q11 q15 q16 q17
    rw [← s1]
    refine go_LTokenMinted (k := ?_)
    refine OW_meet (fun e' w' => e' 0 = .slice A key.length cA ∧ e' 2 = .slice (some ad) l.length cB ∧ e' 3 = .int .i64 now ∧ e' 4 = bv need ∧ e' 11 = .pointer (some ⟨g11, 0, none⟩) ∧ e' 15 = .bool ((l.take (k + 1)).any (fun g => decide (g.expiry ≤ now))) ∧ e' 16 = .bool (p2 || need &&& ~~~ gk.rights != 0) ∧ e' 17 = .int .i64 k ∧ w' = w12) ?_ ?_
    · cases p2 with
      | true =>
        refine go_LTokenMinted (k := ?_)
        exact ⟨rfl, rfl, rfl, rfl, rfl, rfl, rfl, rfl, rfl, rfl⟩
      | false =>
        refine go_LTokenMinted (k := ?_)
        refine OW_andNot rfl rfl _ (andn_bv need gk.rights) ?_
        refine go_LTokenMinted (k := ?_)
        exact ⟨rfl, rfl, rfl, rfl, rfl, rfl, rfl, congrArg Value.bool hb2, rfl, rfl⟩
    rintro e13 w13 ⟨q0, q2, q3, q4, q11, q15, q16, q17, rfl⟩
    rw [upd_self q0, upd_self q2, upd_self q3, upd_self q4, upd_self q11, upd_self q15, upd_self q16, upd_self q17]
    clear q0 q2 q3 q4 q11 q15 q16 q17
    rw [← s2]
    refine go_LTokenMinted (k := ?_)
    refine ⟨⟨k + 1, hlt, rfl, rfl, rfl, rfl, rfl, rfl, rfl, rfl, hx11⟩, ?_⟩
    show l.length - ((k : Int) + 1).toNat < l.length - (k : Int).toNat
    omega
  have hge : k = l.length := by have := of_decide_eq_false hh; omega
  rw [hge, List.take_length]
  clear hh
  have hV := tokVerify_any w11 A A4 cA c4 key ⟨(m : Int), l, X1⟩ now need (ha.ext hx011) hca hka (hG4.ext hx11) hc4 hn1 x1
  generalize l.any (fun g => decide (g.expiry ≤ now)) = p1 at *
  generalize l.any (fun g => need &&& ~~~ g.rights != 0) = p2 at *
  rw [hver] at hV
  replace hb11 := hb11.ext hx11
  refine go_LTokenMinted (k := ?_)
  refine OW_loadX agg_Token rfl (tcells ⟨(m : Int), l, X1⟩ (.slice A4 l.length c4)) (tT _) hb11.atL ?_
  refine go_LTokenMinted (k := ?_)
  refine OW_callV Try.func39 (by kernel_rfl) rfl hV rfl ?_
  intro w12 hx12
  have hx012 := hx011.trans' hx12
  cases p1 with
  | true =>
    simp only [if_true]
    refine go_LTokenMinted (k := ?_)
    refine OW_callV Try.func28 (by kernel_rfl) rfl (awake9_any w12) rfl ?_
    intro wA hxA
    refine go_LTokenMinted (k := ?_)
    exact bodyE_ret1 rfl (.bool true) rfl ⟨rfl, hx012.trans' hxA⟩
  | false =>
  cases p2 with
  | true =>
    simp only [if_true, Bool.false_eq_true, if_false]
    refine go_LTokenMinted (k := ?_)
    refine OW_callV Try.func28 (by kernel_rfl) rfl (awake9_any w12) rfl ?_
    intro wA hxA
    refine go_LTokenMinted (k := ?_)
    exact bodyE_ret1 rfl (.bool true) rfl ⟨rfl, hx012.trans' hxA⟩
  | false =>
    simp only [Bool.false_eq_true, if_false]
    refine go_LTokenMinted (k := ?_)
    refine OW_callV Try.func28 (by kernel_rfl) rfl (awake9_any w12) rfl ?_
    intro wA hxA
    refine go_LTokenMinted (k := ?_)
    exact bodyE_ret1 rfl (.bool true) rfl ⟨rfl, hx012.trans' hxA⟩
set_option maxRecDepth 100000 in
theorem lifted (os : Os) (started : os.Started) (H : Type) (enc : TypeId × Value → H) :
    ReturnsInHanded {} Try.checked os 10 .any (Rows.tokenMintedSpec.pre6 enc Try.prog Try.f10 Rows.tokenMintedRow.domain false) (Rows.tokenMintedSpec.post enc Try.prog Try.f10 false true false false) := by
  refine returnsInHanded_of_change_sized (C := Try.checked) ownP started (by kernel_rfl) Try.func10
    (ChangeSpec.witness6 (enc := enc) (C := Try.checked) false ⟨#[], #[.slice none 0 0, .int .i64 0, .slice none 0 0, .int .i64 0, .int .u8 0], []⟩ 8 (by kernel_rfl) (by kernel_rfl) (by kernel_rfl) (by kernel_rfl)) ?_
  intro W base args ds gs before hval0 hW hcnd hwt0 _
  have hval : ∀ (j : Nat) t v, Try.f10.params[j]? = some t → args[j]? = some v → Value.okWide Try.prog W .any base t v := hval0
  have hW' := hW
  obtain ⟨p, q, hA0, hV, rfl, hfz, hnd⟩ := hW
  have hA : DataW.TrodAll enc Try.prog W 0 (fun _ => true) true Try.f10.params.toList args.toList ds p := hA0
  have hwt : (DataW.weightsEach Try.prog (Try.f10.params.toList ++ []) (ds ++ gs)).all (· ≤ reachBytes) = true := hwt0
  rw [Try.params10] at hA hval hwt
  obtain ⟨v0, vs0, d0, ds0, p0, q0, hargs, rfl, rfl, h0, r0⟩ := trodAll_cons hA
  obtain ⟨v1, vs1, d1, ds1, p1, q1, rfl, rfl, rfl, h1, r1⟩ := trodAll_cons r0
  obtain ⟨v2, vs2, d2, ds2, p2, q2, rfl, rfl, rfl, h2, r2⟩ := trodAll_cons r1
  obtain ⟨v3, vs3, d3, ds3, p3, q3, rfl, rfl, rfl, h3, r3⟩ := trodAll_cons r2
  obtain ⟨v4, vs4, d4, ds4, p4, q4, rfl, rfl, rfl, h4, r4⟩ := trodAll_cons r3
  obtain ⟨rfl, rfl, rfl⟩ := trodAll_nil r4
  obtain rfl : args = #[v0, v1, v2, v3, v4] := by cases args; simp_all
  obtain ⟨rfl, rfl⟩ := trodVars_none hV
  have k0 := h0
  have lt0 : ∀ x ∈ p0, x.block < W.heap.size := by obtain ⟨m, hm⟩ := k0; exact DataW.trod_lt m _ _ _ hm
  have wk0 : WOk Try.prog 22 d0 := wok_each hwt 0 rfl rfl
  obtain ⟨a0, b0⟩ := kd_slice kBs und_bytes (hval 0 22 v0 rfl rfl) h0 wk0
  have k1 := h1
  have lt1 : ∀ x ∈ p1, x.block < W.heap.size := by obtain ⟨m, hm⟩ := k1; exact DataW.trod_lt m _ _ _ hm
  have wk1 : WOk Try.prog 3 d1 := wok_each hwt 1 rfl rfl
  obtain ⟨a1, b1⟩ := kd_int kI und_int (hval 1 3 v1 rfl rfl) h1 wk1
  have k2 := h2
  have lt2 : ∀ x ∈ p2, x.block < W.heap.size := by obtain ⟨m, hm⟩ := k2; exact DataW.trod_lt m _ _ _ hm
  have wk2 : WOk Try.prog 43 d2 := wok_each hwt 2 rfl rfl
  obtain ⟨a2, b2⟩ := kd_slice kGrants und_Grants (hval 2 43 v2 rfl rfl) h2 wk2
  have k3 := h3
  have lt3 : ∀ x ∈ p3, x.block < W.heap.size := by obtain ⟨m, hm⟩ := k3; exact DataW.trod_lt m _ _ _ hm
  have wk3 : WOk Try.prog 3 d3 := wok_each hwt 3 rfl rfl
  obtain ⟨a3, b3⟩ := kd_int kI und_int (hval 3 3 v3 rfl rfl) h3 wk3
  have k4 := h4
  have lt4 : ∀ x ∈ p4, x.block < W.heap.size := by obtain ⟨m, hm⟩ := k4; exact DataW.trod_lt m _ _ _ hm
  have wk4 : WOk Try.prog 5 d4 := wok_each hwt 4 rfl rfl
  obtain ⟨a4, b4⟩ := kd_int kB8 und_u8 (hval 4 5 v4 rfl rfl) h4 wk4
  clear hA0 hval0 hwt0
  refine (walk W v0 a0 b0 v1 a1 b1 v2 a2 b2 v3 a3 b3 v4 a4 b4).mono fun e W' ⟨he, bel⟩ => ?_
  subst he
  exact ⟨_, rfl, _, _, _, [], _, [], hW', trodAll_mk1 (shut_bool Try.underlying4 _), (trodAll_cons_mk (Below.trod laidP (by kernel_rfl) (of_decide_eq_true (by kernel_rfl)) k0 bel lt0) (trodAll_cons_mk (Below.trod laidP (by kernel_rfl) (of_decide_eq_true (by kernel_rfl)) k1 bel lt1) (trodAll_cons_mk (Below.trod laidP (by kernel_rfl) (of_decide_eq_true (by kernel_rfl)) k2 bel lt2) (trodAll_cons_mk (Below.trod laidP (by kernel_rfl) (of_decide_eq_true (by kernel_rfl)) k3 bel lt3) (trodAll_cons_mk (Below.trod laidP (by kernel_rfl) (of_decide_eq_true (by kernel_rfl)) k4 bel lt4) trodAll_mk0))))), rfl, bel.frame _, fun h => by cases h⟩
theorem over : Rows.tokenMintedRow.holds Try.pinned (OpenSpec.ofChange Rows.tokenMintedSpec) :=
  OpenClaim.holds_of_wide 10 Try.f10 rfl rfl rfl rfl rfl rfl rfl ⟨rfl, rfl, rfl, rfl, rfl⟩ rfl rfl rfl rfl rfl (by kernel_rfl) Try.func10 (by kernel_rfl)
    (of_decide_eq_true (by kernel_rfl)) (by unfold Func.isWrapper; first | (rw [if_pos (by decide +kernel)]; kernel_rfl) | (rw [if_neg (by decide +kernel)]; exact ⟨rfl, rfl⟩))
    (fun os started H enc _ => lifted os started H enc)
theorem proved : Rows.TokenMintedSaid := over
#print axioms proved
end Go.Proofs.Ytdpcahfgdpikfaa.lawTokenMinted
