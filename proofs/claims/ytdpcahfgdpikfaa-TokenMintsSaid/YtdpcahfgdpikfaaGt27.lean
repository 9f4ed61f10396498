/- Several texts in one, as they stand in wip/src. -/
import Derived.Test.YtdpcahfgdpikfaaGt26
/- Walks: the token chapter's examples. -/
namespace Go.Proofs.Ytdpcahfgdpikfaa
open Go Go.RowKit Go.ChangeShapes Go.WideShapes
set_option linter.unusedVariables false
set_option maxRecDepth 4000
theorem go_Tok10 {A B : Prop} (h : Held B → A := by
  intro hEnd
  repeat (first | refine OW_neqIF rfl rfl (by first | assumption | rfl) ?_ | refine OW_eqlIT rfl rfl (by first | assumption | rfl) ?_ | (refine OW_isLoad ?_; refine OW_loadM (by first | with_reducible exact agg_Grant | with_reducible exact s_agg_Tag | with_reducible exact agg_Token) rfl (by first | assumption | (apply_assumption; assumption)) ?_) | refine OW_idxN und_Grants el_Grant rfl rfl 0 rfl (by omega) ?_ | refine OW_sliceP h_slp_Tag rfl ?_ | refine OW_slicePOT a_slp_TagT rfl ?_ | refine OW_fieldB fldo_G0 rfl ?_ | refine OW_fieldB fldo_G1 rfl ?_ | refine OW_fieldB fldo_G2 rfl ?_ | refine OW_fieldB fldo_T0 rfl ?_ | refine OW_fieldB fldo_T1 rfl ?_ | refine OW_fieldB fldo_T2 rfl ?_ | refine OW_lenS und_Grants rfl ?_ | refine OW_idxN und_Grants el_Grant rfl rfl _ rfl (by omega) ?_ | refine OW_moveV (.int _ _) rfl ?_ | refine OW_moveV (.slice _ _ _) rfl ?_ | refine OW_moveV (.bool _) rfl ?_ | refine OW_moveV (.pointer _) rfl ?_ | refine OW_moveV (.string _) rfl ?_ | refine OW_moveV (.agg _) rfl ?_ | refine OW_moveV (.tuple _) rfl ?_ | refine OW_nil ?_ | refine thenE_normal ?_ | refine CW_seq ?_ | refine CW_region (by kernel_rfl) ?_ | refine OW_assignV (.int _ _) rfl ?_ | refine OW_assignV (.slice _ _ _) rfl ?_ | refine OW_assignV (.bool _) rfl ?_ | refine OW_assignV (.pointer _) rfl ?_ | refine OW_assignV (.string _) rfl ?_ | refine OW_assignV (.agg _) rfl ?_ | refine OW_assignV (.tuple _) rfl ?_ | refine OW_addI rfl rfl (by omega) ?_ | refine OW_subI rfl rfl (by omega) ?_ | refine OW_mulI rfl rfl (by omega) ?_ | refine OW_lss rfl rfl ?_ | refine OW_extract rfl rfl ?_ | refine OW_gtr rfl rfl ?_ | refine OW_leq rfl rfl ?_ | refine OW_geq rfl rfl ?_ | refine OW_eql rfl rfl ?_ | refine OW_neq rfl rfl ?_ | refine OW_not rfl ?_ | refine OW_pickT rfl _ rfl ?_ | refine OW_pickF rfl (.bool _) rfl ?_ | refine OW_pickB rfl rfl rfl ?_ | refine OW_move ?_ | refine OW_assign ?_ | refine OW_pass rfl ?_ | refine OW_take rfl ?_ | refine OW_lenS (by first | with_reducible exact und_bytes | with_reducible exact und_bytess) rfl ?_ | refine OW_convInt (by first | with_reducible exact und_u8 | with_reducible exact und_u64 | with_reducible exact und_int | with_reducible exact und_u32) (by first | with_reducible exact und_u8 | with_reducible exact und_u64 | with_reducible exact und_int | with_reducible exact und_u32) rfl ?_ | refine OW_add rfl rfl ?_ | refine OW_sub rfl rfl ?_ | refine OW_mul rfl rfl ?_ | refine OW_min2 rfl rfl ?_ | refine OW_max2 rfl rfl ?_ | refine OW_neg rfl ?_ | refine CW_block ?_ | refine CW_condT rfl ?_ | refine CW_condF rfl ?_ | refine CW_exit ?_ | refine CW_ret ?_ | refine CW_skip ?_ | refine LW_seq ?_ | refine LW_regC ?_ | refine LW_condC ?_ | refine LW_regF ?_ | refine LW_condF ?_ | refine FW_seq ?_ | refine FW_region (by kernel_rfl) ?_ | refine FW_block ?_ | refine FW_condT rfl ?_ | refine FW_condF rfl ?_ | refine FW_exit ?_ | refine FW_ret ?_ | refine FW_skip ?_ | refine LW_ret ?_ | refine LW_skip ?_ | refine thenE_exit ?_ | refine thenE_ret ?_ | refine inBlockE_normal ?_ | refine inBlockE_same ?_ | refine inBlockE_ret ?_ | refine inBlockE_ne (by rfl) ?_ | refine OW_eqlB (by with_reducible exact und_bool) rfl rfl ?_ | refine OW_neqB (by with_reducible exact und_bool) rfl rfl ?_ | refine OW_idxS (by with_reducible exact und_bytes) one_u8 rfl rfl _ rfl (by omega) ?_ | refine OW_idxS (by with_reducible exact und_bytess) one_bytes rfl rfl _ rfl (by omega) ?_ | refine OW_load1 (by first | with_reducible exact one_u8 | with_reducible exact one_bytes) rfl _ (by assumption) ?_ | (refine OW_isLoad ?_; refine OW_loadBk (by first | with_reducible exact s_int | with_reducible exact one_u8 | with_reducible exact one_grants) rfl (by assumption) _ (by rfl) ?_) | refine OW_load1 s_int rfl _ (by assumption) ?_)
  exact hEnd.out) (k : B) : A := h ⟨k⟩
theorem bld_awG : ∀ w, (Instr.build 49 [(0, .int .u8 3), (1, .int .i64 100), (2, .int .i64 1)].toArray).run Try.prog w = .ok (.agg (gcells awG).toArray) w := fun w => by kernel_rfl
theorem bld_awH : ∀ w, (Instr.build 49 [(0, .int .u8 1), (1, .int .i64 50), (2, .int .i64 2)].toArray).run Try.prog w = .ok (.agg (gcells awH).toArray) w := fun w => by kernel_rfl
theorem key7_get (j : Nat) (hj : j < 32) : key7[j]'(by show j < (List.replicate 32 (7 : UInt8)).length; rw [List.length_replicate]; exact hj) = 7 := List.getElem_replicate ..
set_option maxHeartbeats 8000000 in
theorem awake9_any (w : World) : Calls Try.prog 28 #[] w (RetV w (.bool true)) := by
  obtain ⟨X1, X2, hA⟩ : ∃ X1 X2, Aw9 X1 X2 := ⟨_, _, aw9⟩
  obtain ⟨l1, l2, mint, mint9, att, c1, v1, v2, v3, u1, u2, u3, o1, o2, p1, p2⟩ := hA
  have hkl : key7.length = 32 := List.length_replicate
  have hset : ∀ j, j < 32 → (tgR key7 j).set j 7 = tgR key7 (j + 1) := fun j hj => by
    have h := tgR_set hkl hj
    rw [key7_get j hj] at h
    exact h
  have hend := tgR_end hkl
  have hin : ∀ j, j ≤ 32 → (tgR key7 j).length = 32 := fun j hj => tgR_len hkl hj
  have hz0 : tgR key7 0 = List.replicate 32 0 := rfl
  have tT := fun v => tcells_length (t := ⟨2, [awG], X1⟩) l1 v
  have tU := fun v => tcells_length (t := ⟨2, [awG, awH], X2⟩) l2 v
  have tO := fun v => tcells_length (t := ⟨3, [awG, awH], X2⟩) l2 v
  have tL := fun v => tcells_length (t := ⟨2, [awG], X2⟩) l2 v
  generalize key7 = key at *
  refine calls_of_CW Try.func28 rfl (by simp [Try.ntmps28]) ?_
  rw [Try.ntmps28]
  refine go_Tok10 (k := ?_)
  refine OW_make und_bytes info_u8 rfl rfl rfl (n := 32) rfl rfl (by decide) (by decide) ?_
  intro w1 gk hbk hgk hx1
  have hbk : Blk w1 gk 5 ((tgR key 0).map bv).toArray := by rw [hz0, List.map_replicate, List.toArray_replicate]; exact hbk
  refine go_Tok10 (k := ?_)
  refine CW_loop (fun e' w' => ∃ j : Nat, j ≤ 32 ∧ e' 1 = .slice (some ⟨gk, 0, none⟩) 32 32 ∧ e' 2 = .int .i64 j ∧ Blk w' gk 5 ((tgR key j).map bv).toArray ∧ Ext w w') (fun e' _ => 32 - (intOf (e' 2)).toNat) ⟨0, Nat.zero_le _, rfl, rfl, hbk, hx1⟩ ?_
  clear hbk hx1
  rintro e' w2 ⟨j, hj, q1, q2, hbk, hx2⟩
  rw [upd_self q1, upd_self q2]
  clear q1 q2
  refine go_Tok10 (k := ?_)
  refine CW_cond _ rfl (fun hh => ?_) (fun hh => ?_)
  · have hlt : j < 32 := by have := of_decide_eq_true hh; omega
    clear hh
    have hs7 := hset j hlt
    refine go_Tok10 (k := ?_)
    rw [addr0]
    refine OW_storeB one_u8 rfl (bv 7) rfl rfl hbk (by rw [List.size_toArray, List.length_map, hin j hj]; omega) ?_
    intro w3 hb3 hgr3
    rw [List.setIfInBounds_toArray, ← List.map_set, hs7] at hb3
    have hx3 : Ext w w3 := (Keeps.of_only hgr3 (S := (· = gk)) rfl).ext hx2 (fun j hj => by have hj : j = gk := hj; omega)
    refine go_Tok10 (k := ?_)
    refine ⟨⟨j + 1, hlt, rfl, rfl, hb3, hx3⟩, ?_⟩
    show 32 - ((j : Int) + 1).toNat < 32 - (j : Int).toNat
    omega
  have hge : j = 32 := by have := of_decide_eq_false hh; omega
  subst hge
  rw [hend] at hbk
  clear hh hj hset hend hin hz0
  have hkb : Bs w2 (some ⟨gk, 0, none⟩) key := bs_row hbk
  have hkc : key.length ≤ 32 := by omega
  have hkx : key.length ≤ 80000 := by omega
  clear hbk
  have d0 := Ext.rfl' w2
  refine go_Tok10 (k := ?_)
  refine OW_build _ _ bld_awG rfl ?_
  refine go_Tok10 (k := ?_)
  refine OW_allocA agg_Grant ?_
  intro w3 g3 hb3 hg3 hlt3 hxa3
  refine go_Tok10 (k := ?_)
  refine OW_storeA agg_Grant rfl (gcells awG) rfl rfl hb3 (by kernel_rfl) (gcells_one _) ?_
  intro w4 hb3 hgr3
  have hx3 : Ext w2 w4 := (Keeps.of_only hgr3 (S := (· = g3)) rfl).ext hxa3 (fun j hj => by have hj : j = g3 := hj; omega)
  have hb3 : Blk w4 g3 49 (gcells awG).toArray := hb3
  clear hgr3 hxa3
  have dw4 : Ext w2 w4 := d0.trans' hx3
  refine go_Tok10 (k := ?_)
  refine OW_build _ _ bld_awH rfl ?_
  refine go_Tok10 (k := ?_)
  refine OW_allocA agg_Grant ?_
  intro w5 g4 hb4 hg4 hlt4 hxa4
  refine go_Tok10 (k := ?_)
  refine OW_storeA agg_Grant rfl (gcells awH) rfl rfl hb4 (by kernel_rfl) (gcells_one _) ?_
  intro w6 hb4 hgr4
  have hx4 : Ext w4 w6 := (Keeps.of_only hgr4 (S := (· = g4)) rfl).ext hxa4 (fun j hj => by have hj : j = g4 := hj; omega)
  have hb4 : Blk w6 g4 49 (gcells awH).toArray := hb4
  clear hgr4 hxa4
  have dw6 : Ext w2 w6 := dw4.trans' hx4
  replace hb3 := hb3.ext hx4
  refine go_Tok10 (k := ?_)
  refine OW_loadX agg_Grant rfl (gcells awG) rfl hb3.atL ?_
  have hM := tokMint_any w6 (some ⟨gk, 0, none⟩) 32 key 2 awG (hkb.ext dw6) hkc hkx
  rw [mint] at hM
  refine go_Tok10 (k := ?_)
  refine OW_callC Try.func29 (by kernel_rfl) rfl hM (by rw [hkl]; rfl) ?_
  rintro en w7 ⟨A5, c5, rfl, hO5, hx5⟩
  refine ⟨_, rfl, ?_⟩
  have dw7 : Ext w2 w7 := dw6.trans' hx5
  replace hb3 := hb3.ext hx5
  replace hb4 := hb4.ext hx5
  clear hM
  have hG5 : GRd w7 A5 [awG] := hO5.rd
  have hc5 : ([awG]).length ≤ c5 := hO5.cap
  clear hO5
  refine go_Tok10 (k := ?_)
  refine OW_allocA agg_Token ?_
  intro w8 g5 hb5 hg5 hlt5 hxa5
  refine go_Tok10 (k := ?_)
  refine OW_storeA agg_Token rfl (tcells ⟨2, [awG], X1⟩ (.slice A5 1 c5)) rfl (tT _) hb5 (by kernel_rfl) (tcells_one _ _ _ _) ?_
  intro w9 hb5 hgr5
  have hxb5 : Ext w7 w9 := (Keeps.of_only hgr5 (S := (· = g5)) rfl).ext hxa5 (fun j hj => by have hj : j = g5 := hj; omega)
  clear hgr5 hxa5
  have dw9 : Ext w2 w9 := dw7.trans' hxb5
  replace hb3 := hb3.ext hxb5
  replace hb4 := hb4.ext hxb5
  replace hG5 := hG5.ext hxb5
  refine go_Tok10 (k := ?_)
  refine OW_loadX agg_Grant rfl (gcells awG) rfl hb3.atL ?_
  have hM := tokMint_any w9 (some ⟨gk, 0, none⟩) 32 key 9 awG (hkb.ext dw9) hkc hkx
  rw [mint9] at hM
  refine go_Tok10 (k := ?_)
  refine OW_callC Try.func29 (by kernel_rfl) rfl hM (by rw [hkl]; rfl) ?_
  rintro en w10 ⟨A7, c7, rfl, hO7, hx7⟩
  refine ⟨_, rfl, ?_⟩
  have dw10 : Ext w2 w10 := dw9.trans' hx7
  replace hb3 := hb3.ext hx7
  replace hb4 := hb4.ext hx7
  replace hG5 := hG5.ext hx7
  replace hb5 := hb5.ext hx7
  clear hM
  clear hO7
  refine go_Tok10 (k := ?_)
  refine OW_allocA agg_Token ?_
  intro w11 g7 hb7 hg7 hlt7 hxa7
  refine go_Tok10 (k := ?_)
  refine OW_storeA agg_Token rfl (tcells t0 (.slice A7 0 c7)) rfl rfl hb7 (by kernel_rfl) (tcells_one _ _ _ _) ?_
  intro w12 hb7 hgr7
  have hxb7 : Ext w10 w12 := (Keeps.of_only hgr7 (S := (· = g7)) rfl).ext hxa7 (fun j hj => by have hj : j = g7 := hj; omega)
  clear hgr7 hxa7
  have dw12 : Ext w2 w12 := dw10.trans' hxb7
  replace hb3 := hb3.ext hxb7
  replace hb4 := hb4.ext hxb7
  replace hG5 := hG5.ext hxb7
  replace hb5 := hb5.ext hxb7
  clear hb7
  refine go_Tok10 (k := ?_)
  refine OW_loadX agg_Token rfl (tcells ⟨2, [awG], X1⟩ (.slice A5 1 c5)) (tT _) hb5.atL ?_
  refine go_Tok10 (k := ?_)
  refine OW_loadX agg_Grant rfl (gcells awH) rfl hb4.atL ?_
  have hM := tokAtt_any w12 A5 c5 ⟨2, [awG], X1⟩ awH hG5 hc5 (by show 1 ≤ 10000; decide) l1
  rw [att] at hM
  refine go_Tok10 (k := ?_)
  refine OW_callC Try.func34 (by kernel_rfl) rfl hM rfl ?_
  rintro en w13 ⟨A9, c9, rfl, hO9, hx9⟩
  refine ⟨_, rfl, ?_⟩
  have dw13 : Ext w2 w13 := dw12.trans' hx9
  replace hb3 := hb3.ext hx9
  replace hb4 := hb4.ext hx9
  replace hG5 := hG5.ext hx9
  replace hb5 := hb5.ext hx9
  clear hM
  have hG9 : GRd w13 A9 [awG, awH] := hO9.rd
  have hc9 : ([awG, awH]).length ≤ c9 := hO9.cap
  clear hO9
  refine go_Tok10 (k := ?_)
  refine OW_allocA agg_Token ?_
  intro w14 g9 hb9 hg9 hlt9 hxa9
  refine go_Tok10 (k := ?_)
  refine OW_storeA agg_Token rfl (tcells ⟨2, [awG, awH], X2⟩ (.slice A9 2 c9)) rfl (tU _) hb9 (by kernel_rfl) (tcells_one _ _ _ _) ?_
  intro w15 hb9 hgr9
  have hxb9 : Ext w13 w15 := (Keeps.of_only hgr9 (S := (· = g9)) rfl).ext hxa9 (fun j hj => by have hj : j = g9 := hj; omega)
  clear hgr9 hxa9
  have dw15 : Ext w2 w15 := dw13.trans' hxb9
  replace hb3 := hb3.ext hxb9
  replace hb4 := hb4.ext hxb9
  replace hG5 := hG5.ext hxb9
  replace hb5 := hb5.ext hxb9
  replace hG9 := hG9.ext hxb9
  refine go_Tok10 (k := ?_)
  refine OW_loadX agg_Token rfl (tcells ⟨2, [awG, awH], X2⟩ (.slice A9 2 c9)) (tU _) hb9.atL ?_
  refine go_Tok10 (k := ?_)
  refine OW_allocA agg_Token ?_
  intro w16 g11 hb11 hg11 hlt11 hxa11
  refine go_Tok10 (k := ?_)
  refine OW_storeA agg_Token rfl (tcells ⟨2, [awG, awH], X2⟩ (.slice A9 2 c9)) rfl (tU _) hb11 (by kernel_rfl) (tcells_one _ _ _ _) ?_
  intro w17 hb11 hgr11
  have hxb11 : Ext w15 w17 := (Keeps.of_only hgr11 (S := (· = g11)) rfl).ext hxa11 (fun j hj => by have hj : j = g11 := hj; omega)
  have hb30 := hb3
  have hb40 := hb4
  have hG50 := hG5
  have hb50 := hb5
  have hG90 := hG9
  have hb90 := hb9
  clear hgr11
  refine go_Tok10 (k := ?_)
  refine OW_storeB s_int rfl (.int .i64 3) rfl rfl hb11 (by rw [List.size_toArray, tU]; decide) ?_
  intro w18 hb11 hgr11
  have hb11 : Blk w18 g11 45 (tcells ⟨3, [awG, awH], X2⟩ (.slice A9 2 c9)).toArray := hb11
  have hx11 : Ext w15 w18 := (Keeps.of_only hgr11 (S := (· = g11)) rfl).ext hxb11 (fun j hj => by have hj : j = g11 := hj; omega)
  clear hgr11 hxa11
  clear hb30
  clear hb40
  clear hG50
  clear hb50
  clear hG90
  clear hb90
  have dw18 : Ext w2 w18 := dw15.trans' hx11
  replace hb3 := hb3.ext hx11
  replace hb4 := hb4.ext hx11
  replace hG5 := hG5.ext hx11
  replace hb5 := hb5.ext hx11
  replace hG9 := hG9.ext hx11
  replace hb9 := hb9.ext hx11
  refine go_Tok10 (k := ?_)
  refine OW_loadX agg_Token rfl (tcells ⟨2, [awG, awH], X2⟩ (.slice A9 2 c9)) (tU _) hb9.atL ?_
  refine go_Tok10 (k := ?_)
  refine OW_allocA agg_Token ?_
  intro w19 g12 hb12 hg12 hlt12 hxa12
  refine go_Tok10 (k := ?_)
  refine OW_storeA agg_Token rfl (tcells ⟨2, [awG, awH], X2⟩ (.slice A9 2 c9)) rfl (tU _) hb12 (by kernel_rfl) (tcells_one _ _ _ _) ?_
  intro w20 hb12 hgr12
  have hxb12 : Ext w18 w20 := (Keeps.of_only hgr12 (S := (· = g12)) rfl).ext hxa12 (fun j hj => by have hj : j = g12 := hj; omega)
  have hb30 := hb3
  have hb40 := hb4
  have hG50 := hG5
  have hb50 := hb5
  have hG90 := hG9
  have hb90 := hb9
  have hb110 := hb11
  clear hgr12
  refine go_Tok10 (k := ?_)
  have hb5x := hb5.ext hxb12
  refine go_Tok10 (k := ?_)
  refine OW_storeB one_grants rfl (.slice A5 1 c5) rfl rfl hb12 (by rw [List.size_toArray, tU]; decide) ?_
  intro w21 hb12 hgr12
  have hb12 : Blk w21 g12 45 (tcells ⟨2, [awG], X2⟩ (.slice A5 1 c5)).toArray := hb12
  have hx12 : Ext w18 w21 := (Keeps.of_only hgr12 (S := (· = g12)) rfl).ext hxb12 (fun j hj => by have hj : j = g12 := hj; omega)
  clear hgr12 hxa12
  clear hb30
  clear hb40
  clear hG50
  clear hb50
  clear hG90
  clear hb90
  clear hb110
  clear hb5x
  have dw21 : Ext w2 w21 := dw18.trans' hx12
  replace hb3 := hb3.ext hx12
  replace hb4 := hb4.ext hx12
  replace hG5 := hG5.ext hx12
  replace hb5 := hb5.ext hx12
  replace hG9 := hG9.ext hx12
  replace hb9 := hb9.ext hx12
  replace hb11 := hb11.ext hx12
  refine go_Tok10 (k := ?_)
  refine OW_loadX agg_Token rfl (tcells ⟨2, [awG], X1⟩ (.slice A5 1 c5)) (tT _) hb5.atL ?_
  have hV := tokCheck_any w21 (some ⟨gk, 0, none⟩) A5 32 c5 key ⟨2, [awG], X1⟩ (hkb.ext dw21) hkc hkx hG5 hc5 (by show 1 ≤ 10000; decide) l1
  rw [c1] at hV
  refine go_Tok10 (k := ?_)
  refine OW_callV Try.func38 (by kernel_rfl) rfl hV (by rw [hkl]; rfl) ?_
  intro w22 hxw22
  clear hV
  have dw22 : Ext w2 w22 := dw21.trans' hxw22
  replace hb3 := hb3.ext hxw22
  replace hb4 := hb4.ext hxw22
  replace hG5 := hG5.ext hxw22
  replace hb5 := hb5.ext hxw22
  replace hG9 := hG9.ext hxw22
  replace hb9 := hb9.ext hxw22
  replace hb11 := hb11.ext hxw22
  replace hb12 := hb12.ext hxw22
  refine go_Tok10 (k := ?_)
  refine OW_loadX agg_Token rfl (tcells ⟨2, [awG], X1⟩ (.slice A5 1 c5)) (tT _) hb5.atL ?_
  have hV := tokVerify_any w22 (some ⟨gk, 0, none⟩) A5 32 c5 key ⟨2, [awG], X1⟩ 99 2 (hkb.ext dw22) hkc hkx hG5 hc5 (by show 1 ≤ 10000; decide) l1
  rw [v1] at hV
  refine go_Tok10 (k := ?_)
  refine OW_callV Try.func39 (by kernel_rfl) rfl hV (by rw [hkl]; rfl) ?_
  intro w23 hxw23
  clear hV
  have dw23 : Ext w2 w23 := dw22.trans' hxw23
  replace hb3 := hb3.ext hxw23
  replace hb4 := hb4.ext hxw23
  replace hG5 := hG5.ext hxw23
  replace hb5 := hb5.ext hxw23
  replace hG9 := hG9.ext hxw23
  replace hb9 := hb9.ext hxw23
  replace hb11 := hb11.ext hxw23
  replace hb12 := hb12.ext hxw23
  refine go_Tok10 (k := ?_)
  refine OW_loadX agg_Token rfl (tcells ⟨2, [awG], X1⟩ (.slice A5 1 c5)) (tT _) hb5.atL ?_
  have hV := tokVerify_any w23 (some ⟨gk, 0, none⟩) A5 32 c5 key ⟨2, [awG], X1⟩ 100 2 (hkb.ext dw23) hkc hkx hG5 hc5 (by show 1 ≤ 10000; decide) l1
  rw [v2] at hV
  refine go_Tok10 (k := ?_)
  refine OW_callV Try.func39 (by kernel_rfl) rfl hV (by rw [hkl]; rfl) ?_
  intro w24 hxw24
  clear hV
  have dw24 : Ext w2 w24 := dw23.trans' hxw24
  replace hb3 := hb3.ext hxw24
  replace hb4 := hb4.ext hxw24
  replace hG5 := hG5.ext hxw24
  replace hb5 := hb5.ext hxw24
  replace hG9 := hG9.ext hxw24
  replace hb9 := hb9.ext hxw24
  replace hb11 := hb11.ext hxw24
  replace hb12 := hb12.ext hxw24
  refine go_Tok10 (k := ?_)
  refine OW_loadX agg_Token rfl (tcells ⟨2, [awG], X1⟩ (.slice A5 1 c5)) (tT _) hb5.atL ?_
  have hV := tokVerify_any w24 (some ⟨gk, 0, none⟩) A5 32 c5 key ⟨2, [awG], X1⟩ 99 4 (hkb.ext dw24) hkc hkx hG5 hc5 (by show 1 ≤ 10000; decide) l1
  rw [v3] at hV
  refine go_Tok10 (k := ?_)
  refine OW_callV Try.func39 (by kernel_rfl) rfl hV (by rw [hkl]; rfl) ?_
  intro w25 hxw25
  clear hV
  have dw25 : Ext w2 w25 := dw24.trans' hxw25
  replace hb3 := hb3.ext hxw25
  replace hb4 := hb4.ext hxw25
  replace hG5 := hG5.ext hxw25
  replace hb5 := hb5.ext hxw25
  replace hG9 := hG9.ext hxw25
  replace hb9 := hb9.ext hxw25
  replace hb11 := hb11.ext hxw25
  replace hb12 := hb12.ext hxw25
  refine go_Tok10 (k := ?_)
  refine OW_loadX agg_Token rfl (tcells ⟨2, [awG, awH], X2⟩ (.slice A9 2 c9)) (tU _) hb9.atL ?_
  have hV := tokVerify_any w25 (some ⟨gk, 0, none⟩) A9 32 c9 key ⟨2, [awG, awH], X2⟩ 49 1 (hkb.ext dw25) hkc hkx hG9 hc9 (by show 2 ≤ 10000; decide) l2
  rw [u1] at hV
  refine go_Tok10 (k := ?_)
  refine OW_callV Try.func39 (by kernel_rfl) rfl hV (by rw [hkl]; rfl) ?_
  intro w26 hxw26
  clear hV
  have dw26 : Ext w2 w26 := dw25.trans' hxw26
  replace hb3 := hb3.ext hxw26
  replace hb4 := hb4.ext hxw26
  replace hG5 := hG5.ext hxw26
  replace hb5 := hb5.ext hxw26
  replace hG9 := hG9.ext hxw26
  replace hb9 := hb9.ext hxw26
  replace hb11 := hb11.ext hxw26
  replace hb12 := hb12.ext hxw26
  refine go_Tok10 (k := ?_)
  refine OW_loadX agg_Token rfl (tcells ⟨2, [awG, awH], X2⟩ (.slice A9 2 c9)) (tU _) hb9.atL ?_
  have hV := tokVerify_any w26 (some ⟨gk, 0, none⟩) A9 32 c9 key ⟨2, [awG, awH], X2⟩ 49 2 (hkb.ext dw26) hkc hkx hG9 hc9 (by show 2 ≤ 10000; decide) l2
  rw [u2] at hV
  refine go_Tok10 (k := ?_)
  refine OW_callV Try.func39 (by kernel_rfl) rfl hV (by rw [hkl]; rfl) ?_
  intro w27 hxw27
  clear hV
  have dw27 : Ext w2 w27 := dw26.trans' hxw27
  replace hb3 := hb3.ext hxw27
  replace hb4 := hb4.ext hxw27
  replace hG5 := hG5.ext hxw27
  replace hb5 := hb5.ext hxw27
  replace hG9 := hG9.ext hxw27
  replace hb9 := hb9.ext hxw27
  replace hb11 := hb11.ext hxw27
  replace hb12 := hb12.ext hxw27
  refine go_Tok10 (k := ?_)
  refine OW_loadX agg_Token rfl (tcells ⟨2, [awG, awH], X2⟩ (.slice A9 2 c9)) (tU _) hb9.atL ?_
  have hV := tokVerify_any w27 (some ⟨gk, 0, none⟩) A9 32 c9 key ⟨2, [awG, awH], X2⟩ 50 1 (hkb.ext dw27) hkc hkx hG9 hc9 (by show 2 ≤ 10000; decide) l2
  rw [u3] at hV
  refine go_Tok10 (k := ?_)
  refine OW_callV Try.func39 (by kernel_rfl) rfl hV (by rw [hkl]; rfl) ?_
  intro w28 hxw28
  clear hV
  have dw28 : Ext w2 w28 := dw27.trans' hxw28
  replace hb3 := hb3.ext hxw28
  replace hb4 := hb4.ext hxw28
  replace hG5 := hG5.ext hxw28
  replace hb5 := hb5.ext hxw28
  replace hG9 := hG9.ext hxw28
  replace hb9 := hb9.ext hxw28
  replace hb11 := hb11.ext hxw28
  replace hb12 := hb12.ext hxw28
  refine go_Tok10 (k := ?_)
  refine OW_loadX agg_Token rfl (tcells ⟨3, [awG, awH], X2⟩ (.slice A9 2 c9)) (tO _) hb11.atL ?_
  have hV := tokCheck_any w28 (some ⟨gk, 0, none⟩) A9 32 c9 key ⟨3, [awG, awH], X2⟩ (hkb.ext dw28) hkc hkx hG9 hc9 (by show 2 ≤ 10000; decide) l2
  rw [o1] at hV
  refine go_Tok10 (k := ?_)
  refine OW_callV Try.func38 (by kernel_rfl) rfl hV (by rw [hkl]; rfl) ?_
  intro w29 hxw29
  clear hV
  have dw29 : Ext w2 w29 := dw28.trans' hxw29
  replace hb3 := hb3.ext hxw29
  replace hb4 := hb4.ext hxw29
  replace hG5 := hG5.ext hxw29
  replace hb5 := hb5.ext hxw29
  replace hG9 := hG9.ext hxw29
  replace hb9 := hb9.ext hxw29
  replace hb11 := hb11.ext hxw29
  replace hb12 := hb12.ext hxw29
  refine go_Tok10 (k := ?_)
  refine OW_loadX agg_Token rfl (tcells ⟨2, [awG], X2⟩ (.slice A5 1 c5)) (tL _) hb12.atL ?_
  have hV := tokCheck_any w29 (some ⟨gk, 0, none⟩) A5 32 c5 key ⟨2, [awG], X2⟩ (hkb.ext dw29) hkc hkx hG5 hc5 (by show 1 ≤ 10000; decide) l2
  rw [o2] at hV
  refine go_Tok10 (k := ?_)
  refine OW_callV Try.func38 (by kernel_rfl) rfl hV (by rw [hkl]; rfl) ?_
  intro w30 hxw30
  clear hV
  have dw30 : Ext w2 w30 := dw29.trans' hxw30
  replace hb3 := hb3.ext hxw30
  replace hb4 := hb4.ext hxw30
  replace hG5 := hG5.ext hxw30
  replace hb5 := hb5.ext hxw30
  replace hG9 := hG9.ext hxw30
  replace hb9 := hb9.ext hxw30
  replace hb11 := hb11.ext hxw30
  replace hb12 := hb12.ext hxw30
  refine go_Tok10 (k := ?_)
  refine OW_loadX agg_Token rfl (tcells ⟨2, [awG], X1⟩ (.slice A5 1 c5)) (tT _) hb5.atL ?_
  have hP := tokPrint_any w30 A5 c5 ⟨2, [awG], X1⟩ hG5 hc5 (by show 1 ≤ 10000; decide) l1
  refine go_Tok10 (k := ?_)
  refine OW_callBs Try.func45 (by kernel_rfl) rfl hP rfl ?_
  intro w31 AP5 cP5 hfP
  clear hP
  have hxw31 := hfP.ext
  clear hfP
  rw [p1]
  have dw31 : Ext w2 w31 := dw30.trans' hxw31
  replace hb3 := hb3.ext hxw31
  replace hb4 := hb4.ext hxw31
  replace hG5 := hG5.ext hxw31
  replace hb5 := hb5.ext hxw31
  replace hG9 := hG9.ext hxw31
  replace hb9 := hb9.ext hxw31
  replace hb11 := hb11.ext hxw31
  replace hb12 := hb12.ext hxw31
  refine go_Tok10 (k := ?_)
  refine OW_loadX agg_Token rfl (tcells ⟨2, [awG, awH], X2⟩ (.slice A9 2 c9)) (tU _) hb9.atL ?_
  have hP := tokPrint_any w31 A9 c9 ⟨2, [awG, awH], X2⟩ hG9 hc9 (by show 2 ≤ 10000; decide) l2
  refine go_Tok10 (k := ?_)
  refine OW_callBs Try.func45 (by kernel_rfl) rfl hP rfl ?_
  intro w32 AP9 cP9 hfP
  clear hP
  have hxw32 := hfP.ext
  clear hfP
  rw [p2]
  have dw32 : Ext w2 w32 := dw31.trans' hxw32
  replace hb3 := hb3.ext hxw32
  replace hb4 := hb4.ext hxw32
  replace hG5 := hG5.ext hxw32
  replace hb5 := hb5.ext hxw32
  replace hG9 := hG9.ext hxw32
  replace hb9 := hb9.ext hxw32
  replace hb11 := hb11.ext hxw32
  replace hb12 := hb12.ext hxw32
  refine go_Tok10 (k := ?_)
  exact bodyE_ret1 rfl (.bool true) rfl ⟨rfl, hx2.trans' dw32⟩
end Go.Proofs.Ytdpcahfgdpikfaa

/- The reference's Tag of any token; plain laws of tokens. -/
namespace Go.Proofs.Ytdpcahfgdpikfaa
open Go Go.RowKit Go.ChangeShapes Go.WideShapes
set_option linter.unusedVariables false
set_option maxRecDepth 4000
theorem go_Tok11 {A B : Prop} (h : Held B → A := by
  intro hEnd
  repeat (first | (refine OW_isLoad ?_; refine OW_loadM (by first | with_reducible exact agg_Grant | with_reducible exact s_agg_Tag | with_reducible exact agg_Token) rfl (by first | assumption | (apply_assumption; assumption)) ?_) | refine OW_idxN und_Grants el_Grant rfl rfl 0 rfl (by omega) ?_ | refine OW_sliceP h_slp_Tag rfl ?_ | refine OW_slicePOT a_slp_TagT rfl ?_ | refine OW_fieldB fldo_G0 rfl ?_ | refine OW_fieldB fldo_G1 rfl ?_ | refine OW_fieldB fldo_G2 rfl ?_ | refine OW_fieldB fldo_T0 rfl ?_ | refine OW_fieldB fldo_T1 rfl ?_ | refine OW_fieldB fldo_T2 rfl ?_ | refine OW_lenS und_Grants rfl ?_ | refine OW_idxN und_Grants el_Grant rfl rfl _ rfl (by omega) ?_ | refine OW_moveV (.int _ _) rfl ?_ | refine OW_moveV (.slice _ _ _) rfl ?_ | refine OW_moveV (.bool _) rfl ?_ | refine OW_moveV (.pointer _) rfl ?_ | refine OW_moveV (.string _) rfl ?_ | refine OW_moveV (.agg _) rfl ?_ | refine OW_moveV (.tuple _) rfl ?_ | refine OW_nil ?_ | refine thenE_normal ?_ | refine CW_seq ?_ | refine CW_region (by kernel_rfl) ?_ | refine OW_assignV (.int _ _) rfl ?_ | refine OW_assignV (.slice _ _ _) rfl ?_ | refine OW_assignV (.bool _) rfl ?_ | refine OW_assignV (.pointer _) rfl ?_ | refine OW_assignV (.string _) rfl ?_ | refine OW_assignV (.agg _) rfl ?_ | refine OW_assignV (.tuple _) rfl ?_ | refine OW_addI rfl rfl (by omega) ?_ | refine OW_subI rfl rfl (by omega) ?_ | refine OW_mulI rfl rfl (by omega) ?_ | refine OW_lss rfl rfl ?_ | refine OW_extract rfl rfl ?_ | refine OW_gtr rfl rfl ?_ | refine OW_leq rfl rfl ?_ | refine OW_geq rfl rfl ?_ | refine OW_eql rfl rfl ?_ | refine OW_neq rfl rfl ?_ | refine OW_not rfl ?_ | refine OW_pickT rfl _ rfl ?_ | refine OW_pickF rfl (.bool _) rfl ?_ | refine OW_pickB rfl rfl rfl ?_ | refine OW_move ?_ | refine OW_assign ?_ | refine OW_pass rfl ?_ | refine OW_take rfl ?_ | refine OW_lenS (by first | with_reducible exact und_bytes | with_reducible exact und_bytess) rfl ?_ | refine OW_convInt (by first | with_reducible exact und_u8 | with_reducible exact und_u64 | with_reducible exact und_int | with_reducible exact und_u32) (by first | with_reducible exact und_u8 | with_reducible exact und_u64 | with_reducible exact und_int | with_reducible exact und_u32) rfl ?_ | refine OW_add rfl rfl ?_ | refine OW_sub rfl rfl ?_ | refine OW_mul rfl rfl ?_ | refine OW_min2 rfl rfl ?_ | refine OW_max2 rfl rfl ?_ | refine OW_neg rfl ?_ | refine CW_block ?_ | refine CW_condT rfl ?_ | refine CW_condF rfl ?_ | refine CW_exit ?_ | refine CW_ret ?_ | refine CW_skip ?_ | refine LW_seq ?_ | refine LW_regC ?_ | refine LW_condC ?_ | refine LW_regF ?_ | refine LW_condF ?_ | refine FW_seq ?_ | refine FW_region (by kernel_rfl) ?_ | refine FW_block ?_ | refine FW_condT rfl ?_ | refine FW_condF rfl ?_ | refine FW_exit ?_ | refine FW_ret ?_ | refine FW_skip ?_ | refine LW_ret ?_ | refine LW_skip ?_ | refine thenE_exit ?_ | refine thenE_ret ?_ | refine inBlockE_normal ?_ | refine inBlockE_same ?_ | refine inBlockE_ret ?_ | refine inBlockE_ne (by rfl) ?_ | refine OW_eqlB (by with_reducible exact und_bool) rfl rfl ?_ | refine OW_neqB (by with_reducible exact und_bool) rfl rfl ?_ | refine OW_idxS (by with_reducible exact und_bytes) one_u8 rfl rfl _ rfl (by omega) ?_ | refine OW_idxS (by with_reducible exact und_bytess) one_bytes rfl rfl _ rfl (by omega) ?_ | refine OW_load1 (by first | with_reducible exact one_u8 | with_reducible exact one_bytes) rfl _ (by assumption) ?_ | (refine OW_isLoad ?_; refine OW_loadBk (by first | with_reducible exact s_int | with_reducible exact one_u8 | with_reducible exact one_grants) rfl (by assumption) _ (by rfl) ?_) | refine OW_load1 s_int rfl _ (by assumption) ?_)
  exact hEnd.out) (k : B) : A := h ⟨k⟩
theorem oy_Tok11 {A B : Prop} (h : Held B → A := by
  intro hEnd
  repeat (first
    | refine OY_done ?_
    | (apply OY_p _ rfl
       · intro wd
         (first | (refine OW_isLoad ?_; refine OW_loadM (by first | with_reducible exact agg_Grant | with_reducible exact s_agg_Tag | with_reducible exact agg_Token) rfl (by first | assumption | (apply_assumption; assumption)) ?_) | refine OW_idxN und_Grants el_Grant rfl rfl 0 rfl (by omega) ?_ | refine OW_sliceP h_slp_Tag rfl ?_ | refine OW_slicePOT a_slp_TagT rfl ?_ | refine OW_fieldB fldo_G0 rfl ?_ | refine OW_fieldB fldo_G1 rfl ?_ | refine OW_fieldB fldo_G2 rfl ?_ | refine OW_fieldB fldo_T0 rfl ?_ | refine OW_fieldB fldo_T1 rfl ?_ | refine OW_fieldB fldo_T2 rfl ?_ | refine OW_lenS und_Grants rfl ?_ | refine OW_idxN und_Grants el_Grant rfl rfl _ rfl (by omega) ?_ | refine OW_moveV (.int _ _) rfl ?_ | refine OW_moveV (.slice _ _ _) rfl ?_ | refine OW_moveV (.bool _) rfl ?_ | refine OW_moveV (.pointer _) rfl ?_ | refine OW_moveV (.string _) rfl ?_ | refine OW_moveV (.agg _) rfl ?_ | refine OW_moveV (.tuple _) rfl ?_ | refine OW_nil ?_ | refine thenE_normal ?_ | refine CW_seq ?_ | refine CW_region (by kernel_rfl) ?_ | refine OW_assignV (.int _ _) rfl ?_ | refine OW_assignV (.slice _ _ _) rfl ?_ | refine OW_assignV (.bool _) rfl ?_ | refine OW_assignV (.pointer _) rfl ?_ | refine OW_assignV (.string _) rfl ?_ | refine OW_assignV (.agg _) rfl ?_ | refine OW_assignV (.tuple _) rfl ?_ | refine OW_addI rfl rfl (by omega) ?_ | refine OW_subI rfl rfl (by omega) ?_ | refine OW_mulI rfl rfl (by omega) ?_ | refine OW_lss rfl rfl ?_ | refine OW_extract rfl rfl ?_ | refine OW_gtr rfl rfl ?_ | refine OW_leq rfl rfl ?_ | refine OW_geq rfl rfl ?_ | refine OW_eql rfl rfl ?_ | refine OW_neq rfl rfl ?_ | refine OW_not rfl ?_ | refine OW_pickT rfl _ rfl ?_ | refine OW_pickF rfl (.bool _) rfl ?_ | refine OW_pickB rfl rfl rfl ?_ | refine OW_move ?_ | refine OW_assign ?_ | refine OW_pass rfl ?_ | refine OW_take rfl ?_ | refine OW_lenS (by first | with_reducible exact und_bytes | with_reducible exact und_bytess) rfl ?_ | refine OW_convInt (by first | with_reducible exact und_u8 | with_reducible exact und_u64 | with_reducible exact und_int | with_reducible exact und_u32) (by first | with_reducible exact und_u8 | with_reducible exact und_u64 | with_reducible exact und_int | with_reducible exact und_u32) rfl ?_ | refine OW_add rfl rfl ?_ | refine OW_sub rfl rfl ?_ | refine OW_mul rfl rfl ?_ | refine OW_min2 rfl rfl ?_ | refine OW_max2 rfl rfl ?_ | refine OW_neg rfl ?_ | refine CW_block ?_ | refine CW_condT rfl ?_ | refine CW_condF rfl ?_ | refine CW_exit ?_ | refine CW_ret ?_ | refine CW_skip ?_ | refine LW_seq ?_ | refine LW_regC ?_ | refine LW_condC ?_ | refine LW_regF ?_ | refine LW_condF ?_ | refine FW_seq ?_ | refine FW_region (by kernel_rfl) ?_ | refine FW_block ?_ | refine FW_condT rfl ?_ | refine FW_condF rfl ?_ | refine FW_exit ?_ | refine FW_ret ?_ | refine FW_skip ?_ | refine LW_ret ?_ | refine LW_skip ?_ | refine thenE_exit ?_ | refine thenE_ret ?_ | refine inBlockE_normal ?_ | refine inBlockE_same ?_ | refine inBlockE_ret ?_ | refine inBlockE_ne (by rfl) ?_ | refine OW_eqlB (by with_reducible exact und_bool) rfl rfl ?_ | refine OW_neqB (by with_reducible exact und_bool) rfl rfl ?_ | refine OW_idxS (by with_reducible exact und_bytes) one_u8 rfl rfl _ rfl (by omega) ?_ | refine OW_idxS (by with_reducible exact und_bytess) one_bytes rfl rfl _ rfl (by omega) ?_ | refine OW_load1 (by first | with_reducible exact one_u8 | with_reducible exact one_bytes) rfl _ (by assumption) ?_ | (refine OW_isLoad ?_; refine OW_loadBk (by first | with_reducible exact s_int | with_reducible exact one_u8 | with_reducible exact one_grants) rfl (by assumption) _ (by rfl) ?_) | refine OW_load1 s_int rfl _ (by assumption) ?_)
         refine OW_nil ?_
         exact stay_mk _ _ _ _)
    | (apply OY_q _ rfl
       · intro wd hwd
         (first | (refine OW_isLoad ?_; refine OW_loadM (by first | with_reducible exact agg_Grant | with_reducible exact s_agg_Tag | with_reducible exact agg_Token) rfl (by first | assumption | (apply_assumption; assumption)) ?_) | refine OW_idxN und_Grants el_Grant rfl rfl 0 rfl (by omega) ?_ | refine OW_sliceP h_slp_Tag rfl ?_ | refine OW_slicePOT a_slp_TagT rfl ?_ | refine OW_fieldB fldo_G0 rfl ?_ | refine OW_fieldB fldo_G1 rfl ?_ | refine OW_fieldB fldo_G2 rfl ?_ | refine OW_fieldB fldo_T0 rfl ?_ | refine OW_fieldB fldo_T1 rfl ?_ | refine OW_fieldB fldo_T2 rfl ?_ | refine OW_lenS und_Grants rfl ?_ | refine OW_idxN und_Grants el_Grant rfl rfl _ rfl (by omega) ?_ | refine OW_moveV (.int _ _) rfl ?_ | refine OW_moveV (.slice _ _ _) rfl ?_ | refine OW_moveV (.bool _) rfl ?_ | refine OW_moveV (.pointer _) rfl ?_ | refine OW_moveV (.string _) rfl ?_ | refine OW_moveV (.agg _) rfl ?_ | refine OW_moveV (.tuple _) rfl ?_ | refine OW_nil ?_ | refine thenE_normal ?_ | refine CW_seq ?_ | refine CW_region (by kernel_rfl) ?_ | refine OW_assignV (.int _ _) rfl ?_ | refine OW_assignV (.slice _ _ _) rfl ?_ | refine OW_assignV (.bool _) rfl ?_ | refine OW_assignV (.pointer _) rfl ?_ | refine OW_assignV (.string _) rfl ?_ | refine OW_assignV (.agg _) rfl ?_ | refine OW_assignV (.tuple _) rfl ?_ | refine OW_addI rfl rfl (by omega) ?_ | refine OW_subI rfl rfl (by omega) ?_ | refine OW_mulI rfl rfl (by omega) ?_ | refine OW_lss rfl rfl ?_ | refine OW_extract rfl rfl ?_ | refine OW_gtr rfl rfl ?_ | refine OW_leq rfl rfl ?_ | refine OW_geq rfl rfl ?_ | refine OW_eql rfl rfl ?_ | refine OW_neq rfl rfl ?_ | refine OW_not rfl ?_ | refine OW_pickT rfl _ rfl ?_ | refine OW_pickF rfl (.bool _) rfl ?_ | refine OW_pickB rfl rfl rfl ?_ | refine OW_move ?_ | refine OW_assign ?_ | refine OW_pass rfl ?_ | refine OW_take rfl ?_ | refine OW_lenS (by first | with_reducible exact und_bytes | with_reducible exact und_bytess) rfl ?_ | refine OW_convInt (by first | with_reducible exact und_u8 | with_reducible exact und_u64 | with_reducible exact und_int | with_reducible exact und_u32) (by first | with_reducible exact und_u8 | with_reducible exact und_u64 | with_reducible exact und_int | with_reducible exact und_u32) rfl ?_ | refine OW_add rfl rfl ?_ | refine OW_sub rfl rfl ?_ | refine OW_mul rfl rfl ?_ | refine OW_min2 rfl rfl ?_ | refine OW_max2 rfl rfl ?_ | refine OW_neg rfl ?_ | refine CW_block ?_ | refine CW_condT rfl ?_ | refine CW_condF rfl ?_ | refine CW_exit ?_ | refine CW_ret ?_ | refine CW_skip ?_ | refine LW_seq ?_ | refine LW_regC ?_ | refine LW_condC ?_ | refine LW_regF ?_ | refine LW_condF ?_ | refine FW_seq ?_ | refine FW_region (by kernel_rfl) ?_ | refine FW_block ?_ | refine FW_condT rfl ?_ | refine FW_condF rfl ?_ | refine FW_exit ?_ | refine FW_ret ?_ | refine FW_skip ?_ | refine LW_ret ?_ | refine LW_skip ?_ | refine thenE_exit ?_ | refine thenE_ret ?_ | refine inBlockE_normal ?_ | refine inBlockE_same ?_ | refine inBlockE_ret ?_ | refine inBlockE_ne (by rfl) ?_ | refine OW_eqlB (by with_reducible exact und_bool) rfl rfl ?_ | refine OW_neqB (by with_reducible exact und_bool) rfl rfl ?_ | refine OW_idxS (by with_reducible exact und_bytes) one_u8 rfl rfl _ rfl (by omega) ?_ | refine OW_idxS (by with_reducible exact und_bytess) one_bytes rfl rfl _ rfl (by omega) ?_ | refine OW_load1 (by first | with_reducible exact one_u8 | with_reducible exact one_bytes) rfl _ (by assumption) ?_ | (refine OW_isLoad ?_; refine OW_loadBk (by first | with_reducible exact s_int | with_reducible exact one_u8 | with_reducible exact one_grants) rfl (by assumption) _ (by rfl) ?_) | refine OW_load1 s_int rfl _ (by assumption) ?_ | (refine OW_isLoad ?_; refine OW_loadBk (by first | with_reducible exact one_u8 | with_reducible exact one_bytes | with_reducible exact one_bool | with_reducible exact one_int | with_reducible exact one_errno | with_reducible exact one_u32 | with_reducible exact one_u64 | with_reducible exact one_string | with_reducible exact s_int | with_reducible exact one_u8 | with_reducible exact one_grants) rfl (by apply_assumption; assumption) _ (by first | assumption | rfl) ?_) | refine OW_load1 (by first | with_reducible exact one_u8 | with_reducible exact one_bytes | with_reducible exact one_bool | with_reducible exact one_int | with_reducible exact one_errno | with_reducible exact one_u32 | with_reducible exact one_u64 | with_reducible exact one_string | with_reducible exact s_int | with_reducible exact one_u8 | with_reducible exact one_grants) rfl _ (by apply_assumption; assumption) ?_)
         refine OW_nil ?_
         exact stay_mk _ _ _ _)
    | refine OY_ppass rfl rfl ?_
    | refine OY_qpass rfl rfl ?_
    | (apply OY_ptake _ rfl rfl
       · intro wd
         (first | (refine OW_isLoad ?_; refine OW_loadM (by first | with_reducible exact agg_Grant | with_reducible exact s_agg_Tag | with_reducible exact agg_Token) rfl (by first | assumption | (apply_assumption; assumption)) ?_) | refine OW_idxN und_Grants el_Grant rfl rfl 0 rfl (by omega) ?_ | refine OW_sliceP h_slp_Tag rfl ?_ | refine OW_slicePOT a_slp_TagT rfl ?_ | refine OW_fieldB fldo_G0 rfl ?_ | refine OW_fieldB fldo_G1 rfl ?_ | refine OW_fieldB fldo_G2 rfl ?_ | refine OW_fieldB fldo_T0 rfl ?_ | refine OW_fieldB fldo_T1 rfl ?_ | refine OW_fieldB fldo_T2 rfl ?_ | refine OW_lenS und_Grants rfl ?_ | refine OW_idxN und_Grants el_Grant rfl rfl _ rfl (by omega) ?_ | refine OW_moveV (.int _ _) rfl ?_ | refine OW_moveV (.slice _ _ _) rfl ?_ | refine OW_moveV (.bool _) rfl ?_ | refine OW_moveV (.pointer _) rfl ?_ | refine OW_moveV (.string _) rfl ?_ | refine OW_moveV (.agg _) rfl ?_ | refine OW_moveV (.tuple _) rfl ?_ | refine OW_nil ?_ | refine thenE_normal ?_ | refine CW_seq ?_ | refine CW_region (by kernel_rfl) ?_ | refine OW_assignV (.int _ _) rfl ?_ | refine OW_assignV (.slice _ _ _) rfl ?_ | refine OW_assignV (.bool _) rfl ?_ | refine OW_assignV (.pointer _) rfl ?_ | refine OW_assignV (.string _) rfl ?_ | refine OW_assignV (.agg _) rfl ?_ | refine OW_assignV (.tuple _) rfl ?_ | refine OW_addI rfl rfl (by omega) ?_ | refine OW_subI rfl rfl (by omega) ?_ | refine OW_mulI rfl rfl (by omega) ?_ | refine OW_lss rfl rfl ?_ | refine OW_extract rfl rfl ?_ | refine OW_gtr rfl rfl ?_ | refine OW_leq rfl rfl ?_ | refine OW_geq rfl rfl ?_ | refine OW_eql rfl rfl ?_ | refine OW_neq rfl rfl ?_ | refine OW_not rfl ?_ | refine OW_pickT rfl _ rfl ?_ | refine OW_pickF rfl (.bool _) rfl ?_ | refine OW_pickB rfl rfl rfl ?_ | refine OW_move ?_ | refine OW_assign ?_ | refine OW_pass rfl ?_ | refine OW_take rfl ?_ | refine OW_lenS (by first | with_reducible exact und_bytes | with_reducible exact und_bytess) rfl ?_ | refine OW_convInt (by first | with_reducible exact und_u8 | with_reducible exact und_u64 | with_reducible exact und_int | with_reducible exact und_u32) (by first | with_reducible exact und_u8 | with_reducible exact und_u64 | with_reducible exact und_int | with_reducible exact und_u32) rfl ?_ | refine OW_add rfl rfl ?_ | refine OW_sub rfl rfl ?_ | refine OW_mul rfl rfl ?_ | refine OW_min2 rfl rfl ?_ | refine OW_max2 rfl rfl ?_ | refine OW_neg rfl ?_ | refine CW_block ?_ | refine CW_condT rfl ?_ | refine CW_condF rfl ?_ | refine CW_exit ?_ | refine CW_ret ?_ | refine CW_skip ?_ | refine LW_seq ?_ | refine LW_regC ?_ | refine LW_condC ?_ | refine LW_regF ?_ | refine LW_condF ?_ | refine FW_seq ?_ | refine FW_region (by kernel_rfl) ?_ | refine FW_block ?_ | refine FW_condT rfl ?_ | refine FW_condF rfl ?_ | refine FW_exit ?_ | refine FW_ret ?_ | refine FW_skip ?_ | refine LW_ret ?_ | refine LW_skip ?_ | refine thenE_exit ?_ | refine thenE_ret ?_ | refine inBlockE_normal ?_ | refine inBlockE_same ?_ | refine inBlockE_ret ?_ | refine inBlockE_ne (by rfl) ?_ | refine OW_eqlB (by with_reducible exact und_bool) rfl rfl ?_ | refine OW_neqB (by with_reducible exact und_bool) rfl rfl ?_ | refine OW_idxS (by with_reducible exact und_bytes) one_u8 rfl rfl _ rfl (by omega) ?_ | refine OW_idxS (by with_reducible exact und_bytess) one_bytes rfl rfl _ rfl (by omega) ?_ | refine OW_load1 (by first | with_reducible exact one_u8 | with_reducible exact one_bytes) rfl _ (by assumption) ?_ | (refine OW_isLoad ?_; refine OW_loadBk (by first | with_reducible exact s_int | with_reducible exact one_u8 | with_reducible exact one_grants) rfl (by assumption) _ (by rfl) ?_) | refine OW_load1 s_int rfl _ (by assumption) ?_)
         refine OW_nil ?_
         exact stay_mk _ _ _ _)
    | (apply OY_qtake _ rfl rfl
       · intro wd hwd
         (first | (refine OW_isLoad ?_; refine OW_loadM (by first | with_reducible exact agg_Grant | with_reducible exact s_agg_Tag | with_reducible exact agg_Token) rfl (by first | assumption | (apply_assumption; assumption)) ?_) | refine OW_idxN und_Grants el_Grant rfl rfl 0 rfl (by omega) ?_ | refine OW_sliceP h_slp_Tag rfl ?_ | refine OW_slicePOT a_slp_TagT rfl ?_ | refine OW_fieldB fldo_G0 rfl ?_ | refine OW_fieldB fldo_G1 rfl ?_ | refine OW_fieldB fldo_G2 rfl ?_ | refine OW_fieldB fldo_T0 rfl ?_ | refine OW_fieldB fldo_T1 rfl ?_ | refine OW_fieldB fldo_T2 rfl ?_ | refine OW_lenS und_Grants rfl ?_ | refine OW_idxN und_Grants el_Grant rfl rfl _ rfl (by omega) ?_ | refine OW_moveV (.int _ _) rfl ?_ | refine OW_moveV (.slice _ _ _) rfl ?_ | refine OW_moveV (.bool _) rfl ?_ | refine OW_moveV (.pointer _) rfl ?_ | refine OW_moveV (.string _) rfl ?_ | refine OW_moveV (.agg _) rfl ?_ | refine OW_moveV (.tuple _) rfl ?_ | refine OW_nil ?_ | refine thenE_normal ?_ | refine CW_seq ?_ | refine CW_region (by kernel_rfl) ?_ | refine OW_assignV (.int _ _) rfl ?_ | refine OW_assignV (.slice _ _ _) rfl ?_ | refine OW_assignV (.bool _) rfl ?_ | refine OW_assignV (.pointer _) rfl ?_ | refine OW_assignV (.string _) rfl ?_ | refine OW_assignV (.agg _) rfl ?_ | refine OW_assignV (.tuple _) rfl ?_ | refine OW_addI rfl rfl (by omega) ?_ | refine OW_subI rfl rfl (by omega) ?_ | refine OW_mulI rfl rfl (by omega) ?_ | refine OW_lss rfl rfl ?_ | refine OW_extract rfl rfl ?_ | refine OW_gtr rfl rfl ?_ | refine OW_leq rfl rfl ?_ | refine OW_geq rfl rfl ?_ | refine OW_eql rfl rfl ?_ | refine OW_neq rfl rfl ?_ | refine OW_not rfl ?_ | refine OW_pickT rfl _ rfl ?_ | refine OW_pickF rfl (.bool _) rfl ?_ | refine OW_pickB rfl rfl rfl ?_ | refine OW_move ?_ | refine OW_assign ?_ | refine OW_pass rfl ?_ | refine OW_take rfl ?_ | refine OW_lenS (by first | with_reducible exact und_bytes | with_reducible exact und_bytess) rfl ?_ | refine OW_convInt (by first | with_reducible exact und_u8 | with_reducible exact und_u64 | with_reducible exact und_int | with_reducible exact und_u32) (by first | with_reducible exact und_u8 | with_reducible exact und_u64 | with_reducible exact und_int | with_reducible exact und_u32) rfl ?_ | refine OW_add rfl rfl ?_ | refine OW_sub rfl rfl ?_ | refine OW_mul rfl rfl ?_ | refine OW_min2 rfl rfl ?_ | refine OW_max2 rfl rfl ?_ | refine OW_neg rfl ?_ | refine CW_block ?_ | refine CW_condT rfl ?_ | refine CW_condF rfl ?_ | refine CW_exit ?_ | refine CW_ret ?_ | refine CW_skip ?_ | refine LW_seq ?_ | refine LW_regC ?_ | refine LW_condC ?_ | refine LW_regF ?_ | refine LW_condF ?_ | refine FW_seq ?_ | refine FW_region (by kernel_rfl) ?_ | refine FW_block ?_ | refine FW_condT rfl ?_ | refine FW_condF rfl ?_ | refine FW_exit ?_ | refine FW_ret ?_ | refine FW_skip ?_ | refine LW_ret ?_ | refine LW_skip ?_ | refine thenE_exit ?_ | refine thenE_ret ?_ | refine inBlockE_normal ?_ | refine inBlockE_same ?_ | refine inBlockE_ret ?_ | refine inBlockE_ne (by rfl) ?_ | refine OW_eqlB (by with_reducible exact und_bool) rfl rfl ?_ | refine OW_neqB (by with_reducible exact und_bool) rfl rfl ?_ | refine OW_idxS (by with_reducible exact und_bytes) one_u8 rfl rfl _ rfl (by omega) ?_ | refine OW_idxS (by with_reducible exact und_bytess) one_bytes rfl rfl _ rfl (by omega) ?_ | refine OW_load1 (by first | with_reducible exact one_u8 | with_reducible exact one_bytes) rfl _ (by assumption) ?_ | (refine OW_isLoad ?_; refine OW_loadBk (by first | with_reducible exact s_int | with_reducible exact one_u8 | with_reducible exact one_grants) rfl (by assumption) _ (by rfl) ?_) | refine OW_load1 s_int rfl _ (by assumption) ?_ | (refine OW_isLoad ?_; refine OW_loadBk (by first | with_reducible exact one_u8 | with_reducible exact one_bytes | with_reducible exact one_bool | with_reducible exact one_int | with_reducible exact one_errno | with_reducible exact one_u32 | with_reducible exact one_u64 | with_reducible exact one_string | with_reducible exact s_int | with_reducible exact one_u8 | with_reducible exact one_grants) rfl (by apply_assumption; assumption) _ (by first | assumption | rfl) ?_) | refine OW_load1 (by first | with_reducible exact one_u8 | with_reducible exact one_bytes | with_reducible exact one_bool | with_reducible exact one_int | with_reducible exact one_errno | with_reducible exact one_u32 | with_reducible exact one_u64 | with_reducible exact one_string | with_reducible exact s_int | with_reducible exact one_u8 | with_reducible exact one_grants) rfl _ (by apply_assumption; assumption) ?_)
         refine OW_nil ?_
         exact stay_mk _ _ _ _)
    | refine OY_a (actY_of rfl ?_)
    | refine OY_d (actY_of rfl ?_)
    | refine OY_a (actY_pass rfl rfl ?_)
    | refine OY_d (actY_pass rfl rfl ?_)
    | refine OY_a (actY_take rfl rfl ?_)
    | refine OY_d (actY_take rfl rfl ?_))
  exact hEnd.out) (k : B) : A := h ⟨k⟩
set_option maxHeartbeats 8000000 in
theorem refTag0_any (w : World) (A B : Option Addr) (cA cB : Nat) (key : List UInt8) (t : TK) (ha : Bs w A key) (hca : key.length ≤ cA) (hla : key.length ≤ 80000) (hB : GRd w B t.line) (hcB : t.line.length ≤ cB) (hn : t.line.length ≤ 1000000) (htg : t.tag.length = 32) :
    Calls Try.prog 36 #[.slice A key.length cA, .agg (tcells t (.slice B t.line.length cB)).toArray] w (RetV w (.agg ((tagL key t.ten t.line).map bv).toArray)) := by
  have hp8 := putL_length (u64N t.ten) 8
  have hNum : numsB [t.ten] = putL (u64N t.ten) 8 := by simp [numsB]
  have htl := fun k => tagL_len key t.ten (t.line.take k)
  refine calls_of_CW Try.func36 rfl (by simp [Try.ntmps36]) ?_
  rw [Try.ntmps36]
  refine go_Tok11 (k := ?_)
  refine OW_box _ rfl ?_
  intro w1 g3 hb3 hg3 hlt3 hx1
  have hb3 : Blk w1 g3 45 (tcells t (.slice B t.line.length cB)).toArray := hb3
  refine go_Tok11 (k := ?_)
  refine OW_allocA s_agg_Tag ?_
  intro w2 g4 hb4 hg4 hlt4 hx2
  refine go_Tok11 (k := ?_)
  refine OW_allocA s_agg_Tag ?_
  intro w3 gT hbT hgT hltT hx3
  have hx03 := (hx1.trans' hx2).trans' hx3
  have hs1 := hx1.size
  have hs2 := hx2.size
  refine go_Tok11 (k := ?_)
  refine CW_loop (fun e' w' => ∃ k : Nat, k ≤ t.line.length ∧ e' 0 = .slice A key.length cA ∧ e' 3 = .pointer (some ⟨g3, 0, none⟩) ∧ e' 4 = .pointer (some ⟨g4, 0, none⟩) ∧ e' 5 = .pointer (some ⟨gT, 0, none⟩) ∧ e' 6 = .int .i64 k ∧ Blk w' g3 45 (tcells t (.slice B t.line.length cB)).toArray ∧ Blk w' g4 29 (tzS.map bv).toArray ∧ Blk w' gT 29 ((tagL key t.ten (t.line.take k)).map bv).toArray ∧ Ext w w') (fun e' _ => t.line.length - (intOf (e' 6)).toNat) ⟨0, Nat.zero_le _, rfl, rfl, rfl, rfl, rfl, hb3.ext (hx2.trans' hx3), hb4.ext hx3, hbT, hx03⟩ ?_
  clear hb3 hb4 hbT hx03
  rintro e6 w6 ⟨k, hk, q0, q3, q4, q5, q6, hb3, hb4, hbT, hx06⟩
  rw [upd_self q0, upd_self q3, upd_self q4, upd_self q5, upd_self q6]
  clear q0 q3 q4 q5 q6
  refine go_Tok11 (k := ?_)
  refine CW_cond _ rfl (fun hh => ?_) (fun hh => ?_)
  · have hlt : k < t.line.length := by have := of_decide_eq_true hh; omega
    clear hh
    obtain ⟨ad, hA0, hat⟩ := (hB.ext hx06).at_ (i := k) hlt
    have hsn : k ≠ 0 → tagL key t.ten (t.line.take (k + 1)) = tagS (tagL key t.ten (t.line.take k)) t.line[k] := fun hk0 => by
      rw [List.take_succ_eq_append_getElem hlt, tagL_snoc]
      intro h
      have := congrArg List.length h
      rw [List.length_take, List.length_nil] at this
      omega
    have hs0 : k = 0 → tagL key t.ten (t.line.take (k + 1)) = hmacL key (numsB [t.ten] ++ grantB t.line[k]) := fun hk0 => by
      subst hk0
      rw [List.take_succ_eq_append_getElem hlt, List.take_zero]
      rfl
    have ho32 := htl k
    generalize t.line[k] = gk at *
    generalize tagL key t.ten (t.line.take k) = o at *
    obtain ⟨R, hR⟩ : ∃ R, tagL key t.ten (t.line.take (k + 1)) = R := ⟨_, rfl⟩
    rw [hR] at hsn hs0
    have hgk := gAt hat
    subst hA0
    refine go_Tok11 (k := ?_)
    refine CW_cond _ rfl (fun hh => ?_) (fun hh => ?_)
    · have hk0 : k = 0 := by have := eq_of_beq hh; omega
      subst hk0
      clear hh
      refine go_Tok11 (k := ?_)
      obtain ⟨C, hC⟩ : ∃ C : World → Prop, C = fun v => Ext w6 v := ⟨_, rfl⟩
      have y3 := blkE hC hb3
      have yG : ∀ v, C v → AtM v (ad.add (0 * 3)) (gcells gk) 3 := by rw [hC]; exact fun v hv => hgk.ext hv
      refine CW_tree2 [3, 7, 9] (.p 0 (.p 2 (.q 3 (.p 6 (.q 7 (.p 8 (.q 9 (Ty.graft (.a2 1 (.a 4 .done) 4 (.a 1 .done)) (.a 5 (.d 10 (.d 11 (.d 12 (.d 13 .done))))))))))))) (C) (by kernel_rfl) (by kernel_rfl) (by kernel_rfl) ?_ ?_
      · exact inE hC
      intro wq hywq h_C
      refine oy_Tok11 (k := ?_)
      have hl8 : (numsB [t.ten]).length = 8 := numsB_length _
      refine OY_a2 (actY_of rfl ?_) (actY_of rfl ?_)
      · skip
        refine OW_lit [] und_bytes info_u8 rfl rfl (by simp) (by decide) ?_
        intro w101 gE hbE hgE hxc
        have hyw101 := hywq.trans' hxc
        have hoE : w101.ownsRow w6.heap.size 5 1 (.slice (some ⟨gE, 0, none⟩) 0 0) 0 [] := own_of_blk (by have := hywq.size; omega) hbE rfl (Nat.le_refl _) (by decide) rfl
        first | refine OW_nil (goY_mkE hC (hyw101) ?_) | refine OW_nil (goY_dropE hC (hyw101) ?_)
        refine oy_Tok11 (k := ?_)
        refine OW_callBs Try.func83 (by kernel_rfl) rfl (refNumber_any w101 t.ten) rfl ?_
        intro w102 A4 c4 hf4
        have hxc := hf4.ext
        have hyw102 := hyw101.trans' hxc
        have hb4n := hf4.bs
        replace hoE := own_ext hoE hxc
        first | refine OW_nil (goY_mkE hC (hyw102) ?_) | refine OW_nil (goY_dropE hC (hyw102) ?_)
        refine oy_Tok11 (k := ?_)
        refine OW_apU (l := []) rfl rfl hoE hb4n (by rw [hp8]; decide) hyw102.size ?_
        intro w103 A5 c5 ho5 hT5 hbel5
        rw [List.nil_append] at ho5 ⊢
        rw [← hNum] at ho5 ⊢
        have hyw103 : Ext w6 w103 := hyw102.trans hbel5
        first | refine OW_nil (goY_mkE hC (hyw103) ?_) | refine OW_nil (goY_dropE hC (hyw103) ?_)
        refine oy_Tok11 (k := ?_)
        refine OW_callBs Try.func82 (by kernel_rfl) rfl (refGrant_any w103 gk) rfl ?_
        intro w104 A9 c9 hf9
        have hxc := hf9.ext
        have hyw104 := hyw103.trans' hxc
        have hB9 := hf9.bs
        replace ho5 := own_ext ho5 hxc
        first | refine OW_nil (goY_mkE hC (hyw104) ?_) | refine OW_nil (goY_dropE hC (hyw104) ?_)
        refine oy_Tok11 (k := ?_)
        refine OW_apU rfl rfl ho5 hB9 (by rw [hl8, grantB_len]; decide) hyw104.size ?_
        intro w105 A10 c10 ho10 hT10 hbel10
        have hyw105 : Ext w6 w105 := hyw104.trans hbel10
        first | refine OW_nil (goY_mkE hC (hyw105) ?_) | refine OW_nil (goY_dropE hC (hyw105) ?_)
        refine oy_Tok11 (k := ?_)
        refine OW_callV Try.func81 (by kernel_rfl) rfl (refHSum_any w105 A A10 cA c10 key (numsB [t.ten] ++ grantB gk) (ha.ext (hx06.trans' hyw105)) (by omega) (own_rd ho10) (by rw [List.length_append, hl8, grantB_len]; decide)) rfl ?_
        intro w106 hxc
        have hyw106 := hyw105.trans' hxc
        rw [← hs0 rfl]
        first | refine OW_nil (goY_mkE hC (hyw106) ?_) | refine OW_nil (goY_dropE hC (hyw106) ?_)
        refine oy_Tok11 (k := ?_)
        have hXl : R.length = 32 := by rw [← hR]; exact tagL_len _ _ _
        refine OW_storeA s_agg_Tag rfl (R.map bv) rfl (by rw [List.length_map, hXl]) (hbT.ext hyw106) (by rw [List.size_toArray, List.length_map, ho32]) (bv_one _) ?_
        intro w107 hbS hgS
        have hkS := Keeps.of_only hgS (S := (· = gT)) rfl
        have hx0S : Ext w w107 := hkS.ext (hx06.trans' hyw106) (fun j hj => by have hj : j = gT := hj; omega)
        have hb3S := (hb3.ext hyw106).keeps hkS (by omega)
        have hb4S := (hb4.ext hyw106).keeps hkS (by omega)
        refine OW_nil (goY_drop (fun v => v = w107) rfl ?_)
        refine oy_Tok11 (k := ?_)
        have hyw107 := hx0S
        refine go_Tok11 (k := ?_)
        refine ⟨⟨0 + 1, by omega, rfl, rfl, rfl, rfl, rfl, hb3S, hb4S, by rw [hR]; exact hbS, hx0S⟩, ?_⟩
        show t.line.length - (((0 : Nat) : Int) + 1).toNat < t.line.length - ((0 : Nat) : Int).toNat
        omega
      · skip
        refine OW_callBs Try.func83 (by kernel_rfl) rfl (refNumber_any wq t.ten) rfl ?_
        intro w108 A4 c4 hf4
        have hxc := hf4.ext
        have hyw108 := hywq.trans' hxc
        have hb4n := hf4.bs
        first | refine OW_nil (goY_mkE hC (hyw108) ?_) | refine OW_nil (goY_dropE hC (hyw108) ?_)
        refine oy_Tok11 (k := ?_)
        refine OW_lit [] und_bytes info_u8 rfl rfl (by simp) (by decide) ?_
        intro w109 gE hbE hgE hxc
        have hyw109 := hyw108.trans' hxc
        have hoE : w109.ownsRow w6.heap.size 5 1 (.slice (some ⟨gE, 0, none⟩) 0 0) 0 [] := own_of_blk (by have := hyw108.size; omega) hbE rfl (Nat.le_refl _) (by decide) rfl
        replace hb4n := hb4n.ext hxc
        first | refine OW_nil (goY_mkE hC (hyw109) ?_) | refine OW_nil (goY_dropE hC (hyw109) ?_)
        refine oy_Tok11 (k := ?_)
        refine OW_apU (l := []) rfl rfl hoE hb4n (by rw [hp8]; decide) hyw109.size ?_
        intro w110 A5 c5 ho5 hT5 hbel5
        rw [List.nil_append] at ho5 ⊢
        rw [← hNum] at ho5 ⊢
        have hyw110 : Ext w6 w110 := hyw109.trans hbel5
        first | refine OW_nil (goY_mkE hC (hyw110) ?_) | refine OW_nil (goY_dropE hC (hyw110) ?_)
        refine oy_Tok11 (k := ?_)
        refine OW_callBs Try.func82 (by kernel_rfl) rfl (refGrant_any w110 gk) rfl ?_
        intro w111 A9 c9 hf9
        have hxc := hf9.ext
        have hyw111 := hyw110.trans' hxc
        have hB9 := hf9.bs
        replace ho5 := own_ext ho5 hxc
        first | refine OW_nil (goY_mkE hC (hyw111) ?_) | refine OW_nil (goY_dropE hC (hyw111) ?_)
        refine oy_Tok11 (k := ?_)
        refine OW_apU rfl rfl ho5 hB9 (by rw [hl8, grantB_len]; decide) hyw111.size ?_
        intro w112 A10 c10 ho10 hT10 hbel10
        have hyw112 : Ext w6 w112 := hyw111.trans hbel10
        first | refine OW_nil (goY_mkE hC (hyw112) ?_) | refine OW_nil (goY_dropE hC (hyw112) ?_)
        refine oy_Tok11 (k := ?_)
        refine OW_callV Try.func81 (by kernel_rfl) rfl (refHSum_any w112 A A10 cA c10 key (numsB [t.ten] ++ grantB gk) (ha.ext (hx06.trans' hyw112)) (by omega) (own_rd ho10) (by rw [List.length_append, hl8, grantB_len]; decide)) rfl ?_
        intro w113 hxc
        have hyw113 := hyw112.trans' hxc
        rw [← hs0 rfl]
        first | refine OW_nil (goY_mkE hC (hyw113) ?_) | refine OW_nil (goY_dropE hC (hyw113) ?_)
        refine oy_Tok11 (k := ?_)
        have hXl : R.length = 32 := by rw [← hR]; exact tagL_len _ _ _
        refine OW_storeA s_agg_Tag rfl (R.map bv) rfl (by rw [List.length_map, hXl]) (hbT.ext hyw113) (by rw [List.size_toArray, List.length_map, ho32]) (bv_one _) ?_
        intro w114 hbS hgS
        have hkS := Keeps.of_only hgS (S := (· = gT)) rfl
        have hx0S : Ext w w114 := hkS.ext (hx06.trans' hyw113) (fun j hj => by have hj : j = gT := hj; omega)
        have hb3S := (hb3.ext hyw113).keeps hkS (by omega)
        have hb4S := (hb4.ext hyw113).keeps hkS (by omega)
        refine OW_nil (goY_drop (fun v => v = w114) rfl ?_)
        refine oy_Tok11 (k := ?_)
        have hyw114 := hx0S
        refine go_Tok11 (k := ?_)
        refine ⟨⟨0 + 1, by omega, rfl, rfl, rfl, rfl, rfl, hb3S, hb4S, by rw [hR]; exact hbS, hx0S⟩, ?_⟩
        show t.line.length - (((0 : Nat) : Int) + 1).toNat < t.line.length - ((0 : Nat) : Int).toNat
        omega
    · have hk0 : k ≠ 0 := by
        intro h
        subst h
        exact absurd hh (by decide)
      clear hh
      have hsn := hsn hk0
      refine go_Tok11 (k := ?_)
      obtain ⟨C, hC⟩ : ∃ C : World → Prop, C = fun v => Ext w6 v := ⟨_, rfl⟩
      have y3 := blkE hC hb3
      have yG : ∀ v, C v → AtM v (ad.add (k * 3)) (gcells gk) 3 := by rw [hC]; exact fun v hv => hgk.ext hv
      refine CW_tree2 [4, 7] (.p 1 (.p 3 (.q 4 (.p 5 (.p 6 (.q 7 (.a 0 (.a 2 (.d 8 (.d 9 (.d 10 .done))))))))))) (C) (by kernel_rfl) (by kernel_rfl) (by kernel_rfl) ?_ ?_
      · exact inE hC
      intro wq hywq h_C
      refine oy_Tok11 (k := ?_)
      refine OW_lit [] und_bytes info_u8 rfl rfl (by simp) (by decide) ?_
      intro w301 gE hbE hgE hxc
      have hyw301 := hywq.trans' hxc
      have hoE : w301.ownsRow w6.heap.size 5 1 (.slice (some ⟨gE, 0, none⟩) 0 0) 0 [] := own_of_blk (by have := hywq.size; omega) hbE rfl (Nat.le_refl _) (by decide) rfl
      first | refine OW_nil (goY_mkE hC (hyw301) ?_) | refine OW_nil (goY_dropE hC (hyw301) ?_)
      refine oy_Tok11 (k := ?_)
      refine OW_apU (l := []) rfl (l' := o) (by rw [ho32]; rfl) hoE (bs_row (hbT.ext hyw301)) (by rw [ho32]; decide) hyw301.size ?_
      intro w302 A5 c5 ho5 hT5 hbel5
      rw [List.nil_append] at ho5 ⊢
      have hyw302 : Ext w6 w302 := hyw301.trans hbel5
      first | refine OW_nil (goY_mkE hC (hyw302) ?_) | refine OW_nil (goY_dropE hC (hyw302) ?_)
      refine oy_Tok11 (k := ?_)
      refine OW_callBs Try.func82 (by kernel_rfl) rfl (refGrant_any w302 gk) rfl ?_
      intro w303 A9 c9 hf9
      have hxc := hf9.ext
      have hyw303 := hyw302.trans' hxc
      have hB9 := hf9.bs
      replace ho5 := own_ext ho5 hxc
      first | refine OW_nil (goY_mkE hC (hyw303) ?_) | refine OW_nil (goY_dropE hC (hyw303) ?_)
      refine oy_Tok11 (k := ?_)
      refine OW_callV Try.func81 (by kernel_rfl) rfl (refHSum_any w303 A5 A9 c5 c9 o (grantB gk) (own_rd ho5) (by omega) hB9 (by rw [grantB_len]; decide)) rfl ?_
      intro w304 hxc
      have hyw304 := hyw303.trans' hxc
      rw [show hmacL o (grantB gk) = R from hsn.symm]
      first | refine OW_nil (goY_mkE hC (hyw304) ?_) | refine OW_nil (goY_dropE hC (hyw304) ?_)
      refine oy_Tok11 (k := ?_)
      have hXl : R.length = 32 := by rw [← hR]; exact tagL_len _ _ _
      refine OW_storeA s_agg_Tag rfl (R.map bv) rfl (by rw [List.length_map, hXl]) (hbT.ext hyw304) (by rw [List.size_toArray, List.length_map, ho32]) (bv_one _) ?_
      intro w305 hbS hgS
      have hkS := Keeps.of_only hgS (S := (· = gT)) rfl
      have hx0S : Ext w w305 := hkS.ext (hx06.trans' hyw304) (fun j hj => by have hj : j = gT := hj; omega)
      have hb3S := (hb3.ext hyw304).keeps hkS (by omega)
      have hb4S := (hb4.ext hyw304).keeps hkS (by omega)
      refine OW_nil (goY_drop (fun v => v = w305) rfl ?_)
      refine oy_Tok11 (k := ?_)
      have hyw305 := hx0S
      refine go_Tok11 (k := ?_)
      refine ⟨⟨k + 1, by omega, rfl, rfl, rfl, rfl, rfl, hb3S, hb4S, by rw [hR]; exact hbS, hx0S⟩, ?_⟩
      show t.line.length - ((k : Int) + 1).toNat < t.line.length - (k : Int).toNat
      omega
  · have hge : k = t.line.length := by have := of_decide_eq_false hh; omega
    rw [hge, List.take_length] at hbT
    have hX := tagL_len key t.ten t.line
    generalize tagL key t.ten t.line = X2 at *
    clear hh
    refine go_Tok11 (k := ?_)
    refine OW_loadX s_agg_Tag rfl (X2.map bv) (by rw [List.length_map, hX]) hbT.atL ?_
    refine go_Tok11 (k := ?_)
    refine OW_storeA s_agg_Tag rfl (X2.map bv) rfl (by rw [List.length_map, hX]) hb4 rfl (bv_one _) ?_
    intro w7 hb7 hg7
    have hx07 : Ext w w7 := (Keeps.of_only hg7 (S := (· = g4)) rfl).ext hx06 (fun j hj => by have hj : j = g4 := hj; omega)
    refine go_Tok11 (k := ?_)
    exact bodyE_retc rfl s_agg_Tag rfl (X2.map bv) (by rw [List.length_map, hX]) (Blk.range hb7) ⟨rfl, hx07⟩
set_option maxHeartbeats 8000000 in
theorem rLine0_any (w : World) (A : Option Addr) (c : Nat) (l : List GD) (hl : GRd w A l) : Calls Try.prog 40 #[.slice A l.length c] w (RetV w (.bool (lineOk l))) := by
  by_cases hn : l.length ≤ 1000000
  · exact rLine_any w A c l hl hn
  have hno : lineOk l = false := by
    cases hh : lineOk l with
    | false => rfl
    | true => have := (lineOk_parts hh).2.1; omega
  rw [hno]
  refine calls_of_CW Try.func40 rfl (by simp [Try.ntmps40]) ?_
  rw [Try.ntmps40]
  refine go_Tok11 (k := ?_)
  refine OW_split 8 _ rfl (fun h1 => ?_) (fun h1 => ?_)
  · have := of_decide_eq_true h1
    omega
  refine go_Tok11 (k := ?_)
  refine CW_cond _ rfl (fun hh => ?_) (fun hh => ?_)
  · refine go_Tok11 (k := ?_)
    exact bodyE_ret1 rfl (.bool false) rfl ⟨rfl, Ext.rfl' _⟩
  · have := of_decide_eq_false hh
    omega
theorem mayT_line {t : TK} (h : mayT t = true) : lineOk t.line = true := by
  unfold mayT at h
  rw [Bool.and_eq_true] at h
  exact h.2
theorem line_exp {l : List GD} (h : lineOk l = true) : ¬ leavesE l ≤ -1 := fun hh => by
  obtain ⟨g, hg, h1⟩ := (late_iff h (-1)).1 hh
  have hm := (lineOk_parts h).2.2 g hg
  unfold mayG inR at hm
  simp only [Bool.and_eq_true, decide_eq_true_eq] at hm
  omega
theorem ver_check (key : List UInt8) (t : TK) : verT key t (-1) 0 = checkT key t := by
  unfold verT
  by_cases h : checkT key t = 0
  · have hl := mayT_line (check_may h).1
    rw [if_pos h, if_neg (line_exp hl), if_pos (by apply UInt8.toNat_inj.1; rw [UInt8.toNat_and]; exact Nat.zero_and _), h]
  · rw [if_neg h]
theorem u8_self (a b : UInt8) : (a &&& b) &&& ~~~ a = 0 := by
  simp only [← UInt8.toBitVec_inj, UInt8.toBitVec_and, UInt8.toBitVec_not, UInt8.toBitVec_ofNat]
  apply BitVec.eq_of_getLsbD_eq
  intro i hi
  simp
  intro h1 h2
  simp_all
theorem line_snoc {l : List GD} {g : GD} (h : lineOk l = true) (hl : l.length ≤ 3) (hg : mayG g = true) : lineOk (l ++ [g]) = true := by
  obtain ⟨n1, n4, hm⟩ := lineOk_parts h
  unfold lineOk
  rw [List.length_append, decide_eq_true (show 1 ≤ l.length + [g].length by simp), decide_eq_true (show l.length + [g].length ≤ 4 by simp; omega)]
  simp only [Bool.true_and, List.all_eq_true]
  intro x hx
  rcases List.mem_append.1 hx with hx | hx
  · exact hm x hx
  · rw [List.mem_singleton] at hx; subst hx; exact hg
theorem may_mk {l : List GD} (h : lineOk l = true) {ten : Int} (h0 : 0 ≤ ten ∧ ten ≤ 8) (X : List UInt8) : mayT ⟨ten, l, X⟩ = true := by
  unfold mayT inR
  rw [h, decide_eq_true h0.1, decide_eq_true h0.2]
  rfl
theorem check_mk {l : List GD} (h : lineOk l = true) {ten : Int} (h0 : 0 ≤ ten ∧ ten ≤ 8) (key : List UInt8) : checkT key ⟨ten, l, tagL key ten l⟩ = 0 := by
  unfold checkT
  rw [if_pos (may_mk h h0 _)]
  exact if_pos rfl
theorem att_mk {l : List GD} {g : GD} (h : lineOk l = true) (hl : l.length ≤ 3) (hg : mayG g = true) {ten : Int} (h0 : 0 ≤ ten ∧ ten ≤ 8) (key : List UInt8) : attT ⟨ten, l, tagL key ten l⟩ g = (⟨ten, l ++ [g], tagL key ten (l ++ [g])⟩, 0) := by
  unfold attT
  rw [may_mk h h0, hg, Bool.and_self, if_pos rfl, if_neg (by show ¬ l.length = 4; omega)]
  have hne : l ≠ [] := fun hh => by have := (lineOk_parts h).1; rw [hh] at this; simp at this
  rw [tagL_snoc key ten hne]
theorem ver_mk {l : List GD} (h : lineOk l = true) {ten : Int} (h0 : 0 ≤ ten ∧ ten ≤ 8) (key : List UInt8) (now : Int) (need : UInt8) : verT key ⟨ten, l, tagL key ten l⟩ now need = if leavesE l ≤ now then 92 else if need &&& ~~~ (leavesR l) = 0 then 0 else 94 := by
  unfold verT
  rw [if_pos (check_mk h h0 key)]
theorem ver_mono {l : List GD} {g : GD} (h : lineOk l = true) (hl : l.length ≤ 3) (hg : mayG g = true) {ten : Int} (h0 : 0 ≤ ten ∧ ten ≤ 8) (key : List UInt8) (now : Int) (need : UInt8) (hv : verT key ⟨ten, l ++ [g], tagL key ten (l ++ [g])⟩ now need = 0) : verT key ⟨ten, l, tagL key ten l⟩ now need = 0 := by
  have h2 := line_snoc h hl hg
  rw [ver_mk h2 h0] at hv
  rw [ver_mk h h0]
  by_cases c1 : leavesE (l ++ [g]) ≤ now
  · rw [if_pos c1] at hv; exact absurd hv (by decide)
  rw [if_neg c1] at hv
  by_cases c2 : need &&& ~~~ (leavesR (l ++ [g])) = 0
  rotate_left 1
  · rw [if_neg c2] at hv; exact absurd hv (by decide)
  rw [late_iff h2] at c1
  have d1 : ¬ leavesE l ≤ now := by
    rw [late_iff h]
    rintro ⟨x, hx, hh⟩
    exact c1 ⟨x, List.mem_append_left _ hx, hh⟩
  rw [less_iff h2] at c2
  have d2 : need &&& ~~~ (leavesR l) = 0 := by
    rw [less_iff h]
    exact fun x hx => c2 x (List.mem_append_left _ hx)
  rw [if_neg d1, if_pos d2]
theorem leaves_snoc (l : List GD) (g : GD) : leavesR (l ++ [g]) &&& ~~~ (leavesR l) = 0 ∧ leavesE (l ++ [g]) ≤ leavesE l := by
  unfold leavesR leavesE
  rw [List.foldl_append, List.foldl_append]
  exact ⟨u8_self _ _, Int.min_le_left _ _⟩
end Go.Proofs.Ytdpcahfgdpikfaa
