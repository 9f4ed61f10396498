/- FrameAll: any bytes begin with the frames that the chapter says; what is told is the caller's own. No condition. -/
import Derived.Test.YtdphahphbaebkaaFrm3
import Derived.Test.YtdphahphbaebkaaFrame
import Derived.Test.YtdphahphbaebkaaInc
namespace Go.Proofs.Ytdphahphbaebkaa.lawFrameAll
open Go.ChangeShapes Go.WideShapes Go.ChangeAt Go.RowKit
set_option linter.unusedVariables false
set_option maxRecDepth 4000
theorem go_LFrameAll {A B : Prop} (h : Held B → A := by
  intro hEnd
  repeat (first | refine OW_moveV (.int _ _) rfl ?_ | refine OW_moveV (.slice _ _ _) rfl ?_ | refine OW_moveV (.bool _) rfl ?_ | refine OW_moveV (.pointer _) rfl ?_ | refine OW_moveV (.string _) rfl ?_ | refine OW_moveV (.agg _) rfl ?_ | refine OW_moveV (.tuple _) rfl ?_ | refine OW_nil ?_ | refine thenE_normal ?_ | refine CW_seq ?_ | refine CW_region (by kernel_rfl) ?_ | refine OW_assignV (.int _ _) rfl ?_ | refine OW_assignV (.slice _ _ _) rfl ?_ | refine OW_assignV (.bool _) rfl ?_ | refine OW_assignV (.pointer _) rfl ?_ | refine OW_assignV (.string _) rfl ?_ | refine OW_assignV (.agg _) rfl ?_ | refine OW_assignV (.tuple _) rfl ?_ | refine OW_addI rfl rfl (by omega) ?_ | refine OW_subI rfl rfl (by omega) ?_ | refine OW_mulI rfl rfl (by omega) ?_ | refine OW_lss rfl rfl ?_ | refine OW_extract rfl rfl ?_ | refine OW_gtr rfl rfl ?_ | refine OW_leq rfl rfl ?_ | refine OW_geq rfl rfl ?_ | refine OW_eql rfl rfl ?_ | refine OW_neq rfl rfl ?_ | refine OW_not rfl ?_ | refine OW_pickT rfl _ rfl ?_ | refine OW_pickF rfl (.bool _) rfl ?_ | refine OW_pickB rfl rfl rfl ?_ | refine OW_move ?_ | refine OW_assign ?_ | refine OW_pass rfl ?_ | refine OW_take rfl ?_ | refine OW_lenS (by first | with_reducible exact und_bytes | with_reducible exact und_bytess) rfl ?_ | refine OW_convInt (by first | with_reducible exact und_u8 | with_reducible exact und_u64 | with_reducible exact und_int | with_reducible exact und_u32) (by first | with_reducible exact und_u8 | with_reducible exact und_u64 | with_reducible exact und_int | with_reducible exact und_u32) rfl ?_ | refine OW_add rfl rfl ?_ | refine OW_sub rfl rfl ?_ | refine OW_mul rfl rfl ?_ | refine OW_min2 rfl rfl ?_ | refine OW_max2 rfl rfl ?_ | refine OW_neg rfl ?_ | refine CW_block ?_ | refine CW_condT rfl ?_ | refine CW_condF rfl ?_ | refine CW_exit ?_ | refine CW_ret ?_ | refine CW_skip ?_ | refine LW_seq ?_ | refine LW_regC ?_ | refine LW_condC ?_ | refine LW_regF ?_ | refine LW_condF ?_ | refine FW_seq ?_ | refine FW_region (by kernel_rfl) ?_ | refine FW_block ?_ | refine FW_condT rfl ?_ | refine FW_condF rfl ?_ | refine FW_exit ?_ | refine FW_ret ?_ | refine FW_skip ?_ | refine LW_ret ?_ | refine LW_skip ?_ | refine thenE_exit ?_ | refine thenE_ret ?_ | refine inBlockE_normal ?_ | refine inBlockE_same ?_ | refine inBlockE_ret ?_ | refine inBlockE_ne (by rfl) ?_ | refine OW_eqlB (by with_reducible exact und_bool) rfl rfl ?_ | refine OW_neqB (by with_reducible exact und_bool) rfl rfl ?_ | refine OW_idxS (by with_reducible exact und_bytes) one_u8 rfl rfl _ rfl (by omega) ?_ | refine OW_idxS (by with_reducible exact und_bytess) one_bytes rfl rfl _ rfl (by omega) ?_ | refine OW_load1 (by first | with_reducible exact one_u8 | with_reducible exact one_bytes) rfl _ (by assumption) ?_ | refine OW_idxS und_bytess one_bytes rfl rfl _ rfl (by omega) ?_ | refine OW_load1 one_bytes rfl _ (by assumption) ?_)
  exact hEnd.out) (k : B) : A := h ⟨k⟩
set_option maxHeartbeats 8000000 in
theorem walk (w : World) (A : Option Addr) (cA : Nat) (b : List UInt8) (hb : Bs w A b) (hcb : b.length ≤ cA) :
    Calls Try.prog 6 #[.slice A b.length cA] w (RetV w (.bool true)) := by
  refine calls_of_CW Try.func6 rfl (by simp [Try.ntmps6]) ?_
  rw [Try.ntmps6]
  refine go_LFrameAll (k := ?_)
  refine CW_cond _ rfl (fun h => ?_) (fun h => ?_)
  · refine go_LFrameAll (k := ?_)
    exact bodyE_ret1 rfl (.bool true) rfl ⟨rfl, Ext.rfl' w⟩
  have hl : b.length ≤ 3000 := by simp at h; omega
  clear h
  refine go_LFrameAll (k := ?_)
  refine OW_callBs Try.func9 (by kernel_rfl) rfl (refCopy_any _ A b cA hb (by omega)) rfl ?_
  intro w1 X cX hX
  refine go_LFrameAll (k := ?_)
  refine OW_callC Try.func15 (by kernel_rfl) rfl (refAll_any w1 A cA b (hb.ext hX.ext) hcb (by omega)) rfl ?_
  rintro en w2 ⟨D, cD, us, rfl, hiU, hRU, hx2⟩
  refine ⟨_, rfl, ?_⟩
  have hx02 := hX.ext.trans' hx2
  have hXb := hX.bs.ext hx2
  have hcX := hX.cap
  have hul : ∀ vs : List BV, IsAll b (vs.map pay) → vs.length ≤ 100000 ∧ ∀ v ∈ vs, v.2.2.length ≤ 1000000 := fun vs hi => by
    have h12 : ∀ vs : List BV, 12 * vs.length ≤ (framesB (vs.map pay)).length := by
      intro vs
      induction vs with
      | nil => simp [framesB]
      | cons v vs ih => rw [List.map_cons, framesB_cons, List.length_append, frameB_length, List.length_cons]; omega
    have := h12 vs
    have := hi.1
    refine ⟨by omega, fun v hv => ?_⟩
    have := hi.2.2.2 (pay v) (List.mem_map.2 ⟨v, hv, rfl⟩)
    have : (pay v).length = v.2.2.length := rfl
    omega
  have hbu := hul us hiU
  obtain ⟨used, hus⟩ : ∃ u : Nat, (framesB (us.map pay)).length = u := ⟨_, rfl⟩
  rw [hus]
  refine go_LFrameAll (k := ?_)
  refine CW_loop (fun e' w' => ∃ t : Nat, t ≤ 2 ∧ e' 0 = .slice A b.length cA ∧ e' 3 = .slice X b.length cX ∧ e' 4 = .slice D us.length cD ∧ e' 5 = .int .i64 used ∧ e' 6 = .int .i64 t ∧ Ext w2 w') (fun e' _ => 2 - (intOf (e' 6)).toNat) ?_ ?_
  · exact ⟨0, by omega, rfl, rfl, rfl, rfl, rfl, Ext.rfl' _⟩
  rintro e5 w5 ⟨t, ht, q0, q3, q4, q5, q6, hx⟩
  rw [upd_self q0, upd_self q3, upd_self q4, upd_self q5, upd_self q6]
  refine go_LFrameAll (k := ?_)
  refine CW_cond _ rfl (fun hh => ?_) (fun hh => ?_)
  · have hlt : t < 2 := by have := of_decide_eq_true hh; omega
    clear hh
    refine go_LFrameAll (k := ?_)
    refine OW_callC Try.func16 (by kernel_rfl) rfl (frameAll_any w5 X cX b (hXb.ext hx) hcX (by omega)) rfl ?_
    rintro en w6 ⟨L, cL, vs, rfl, hiV, hRV, hx6⟩
    refine ⟨_, rfl, ?_⟩
    have hvu := isAll_uniq hiV hiU
    have hbv := hul vs hiV
    rw [hvu, hus]
    have hRU6 := hRU.ext (hx.trans' hx6)
    have hbX := hXb.ext (hx.trans' hx6)
    have hbA := hb.ext ((hx02.trans' hx).trans' hx6)
    refine go_LFrameAll (k := ?_)
    refine OW_callV Try.func17 (by kernel_rfl) rfl (refLSame_any w6 L D cL cD vs us hRV.arg hRU6.arg hbv.1 hbv.2 hbu.2) rfl ?_
    intro w7 hx7
    rw [beq_iff_eq.2 hvu]
    refine go_LFrameAll (k := ?_)
    rw [show (((used : Nat) : Int) != ((used : Nat) : Int)) = false by simp]
    refine go_LFrameAll (k := ?_)
    refine OW_callV Try.func12 (by kernel_rfl) rfl (refSame_any w7 X A b b cX cA (hbX.ext hx7) (hbA.ext hx7) (by omega)) rfl ?_
    intro w8 hx8
    rw [show (b == b) = true from beq_self_eq_true b]
    have hR8 := (hRV.ext hx7).ext hx8
    have hx58 := hx6.trans' (hx7.trans' hx8)
    have hvl0 := hbv.1
    clear hvu hbv hRV hRU6 hiV hul
    refine go_LFrameAll (k := ?_)
    refine CW_meetB (fun e' w' => e' 0 = .slice A b.length cA ∧ e' 3 = .slice X b.length cX ∧ e' 4 = .slice D us.length cD ∧ e' 5 = .int .i64 used ∧ e' 6 = .int .i64 t ∧ Ext w5 w') ?_ ?_
    · refine CW_loop (fun e' w' => ∃ (i : Nat) (zs : List BV), i ≤ zs.length ∧ e' 0 = .slice A b.length cA ∧ e' 3 = .slice X b.length cX ∧ e' 4 = .slice D us.length cD ∧ e' 5 = .int .i64 used ∧ e' 6 = .int .i64 t ∧ e' 7 = .slice L zs.length cL ∧ e' 9 = .int .i64 i ∧ zs.length = vs.length ∧ RowsB w' w5.heap.size L cL zs ∧ Ext w5 w') (fun e' _ => vs.length - (intOf (e' 9)).toNat) ?_ ?_
      · exact ⟨0, vs, by omega, rfl, rfl, rfl, rfl, rfl, rfl, rfl, rfl, hR8, hx58⟩
      rintro e6 w9 ⟨i, zs, hi, q0, q3, q4, q5, q6, q7, q9, hzl, hR, hx9⟩
      rw [upd_self q0, upd_self q3, upd_self q4, upd_self q5, upd_self q6, upd_self q7, upd_self q9]
      refine go_LFrameAll (k := ?_)
      refine CW_cond _ rfl (fun hh => ?_) (fun hh => ?_)
      · have hlti : i < zs.length := by simpa using hh
        clear hh
        refine go_LFrameAll (k := ?_)
        refine CW_meetB (fun e' w' => ∃ zs2 : List BV, e' 0 = .slice A b.length cA ∧ e' 3 = .slice X b.length cX ∧ e' 4 = .slice D us.length cD ∧ e' 5 = .int .i64 used ∧ e' 6 = .int .i64 t ∧ e' 7 = .slice L zs2.length cL ∧ e' 9 = .int .i64 i ∧ zs2.length = zs.length ∧ RowsB w' w5.heap.size L cL zs2 ∧ Ext w5 w') ?_ ?_
        · refine CW_loop (fun e' w' => ∃ (k : Nat) (zs2 : List BV) (hz : zs2.length = zs.length), k ≤ (zs2[i]'(by omega)).2.2.length ∧ (zs2[i]'(by omega)).2.2.length = (zs[i]).2.2.length ∧ e' 0 = .slice A b.length cA ∧ e' 3 = .slice X b.length cX ∧ e' 4 = .slice D us.length cD ∧ e' 5 = .int .i64 used ∧ e' 6 = .int .i64 t ∧ e' 7 = .slice L zs2.length cL ∧ e' 9 = .int .i64 i ∧ e' 10 = .int .i64 k ∧ RowsB w' w5.heap.size L cL zs2 ∧ Ext w5 w') (fun e' _ => (zs[i]).2.2.length - (intOf (e' 10)).toNat) ?_ ?_
          · exact ⟨0, zs, rfl, by omega, rfl, rfl, rfl, rfl, rfl, rfl, rfl, rfl, rfl, hR, hx9⟩
          rintro e7 w10 ⟨k, zs2, hz2, hk, hkl, q0, q3, q4, q5, q6, q7, q9, q10, hR2, hx10⟩
          rw [upd_self q0, upd_self q3, upd_self q4, upd_self q5, upd_self q6, upd_self q7, upd_self q9, upd_self q10]
          have hi2 : i < zs2.length := by omega
          obtain ⟨ad, hL, hcL⟩ := hR2.arg.cell hi2
          subst hL
          have hput := fun (hk : k < (zs2[i]).2.2.length) g (hg : (zs2[i]).1 = some ⟨g, 0, none⟩) x => hR2.put hi2 hk hg x
          have hown := hR2.each zs2[i] (List.getElem_mem hi2)
          obtain ⟨v, hv⟩ : ∃ v, zs2[i] = v := ⟨_, rfl⟩
          rw [hv] at hcL hk hkl hput hown
          obtain ⟨vA, vc, vl⟩ := v
          replace hcL : w10.cell? (ad.add i) = some (.slice vA vl.length vc) := hcL
          simp only at hk hkl hput
          replace hown : w10.ownsRow w5.heap.size 5 1 (.slice vA vl.length vc) vl.length (vl.map bv) := hown
          have hcp := own_cap hown
          unfold maxLen at hcp
          refine go_LFrameAll (k := ?_)
          refine CW_cond _ rfl (fun hh => ?_) (fun hh => ?_)
          · have hlk : k < vl.length := by simpa using hh
            clear hh
            obtain ⟨g, cur, hvA, hgl, hbl⟩ := own_blk hown (by omega)
            subst hvA
            have hcell := inc_cell hown rfl hlk
            obtain ⟨hR3, hg3⟩ := hput hlk g rfl (vl[k] + 1)
            refine go_LFrameAll (k := ?_)
            rw [inc_u8]
            refine go_LFrameAll (k := ?_)
            rw [add0] at hcell ⊢
            refine OW_store1 one_u8 rfl (bv (vl[k] + 1)) (bv vl[k]) rfl rfl hcell (hown.frozenAt k) ?_
            refine go_LFrameAll (k := ?_)
            refine ⟨⟨k + 1, _, by rw [List.length_set]; exact hz2, ?_, ?_, rfl, rfl, rfl, rfl, rfl, by rw [List.length_set]; rfl, rfl, rfl, hR3, below_only hx10 hg3 hgl hx10.size⟩, ?_⟩
            · rw [List.getElem_set_self]; simp only [List.length_set]; omega
            · rw [List.getElem_set_self]; simp only [List.length_set]; exact hkl
            · show (zs[i]).2.2.length - ((k : Int) + 1).toNat < (zs[i]).2.2.length - (k : Int).toNat
              omega
          · refine go_LFrameAll (k := ?_)
            exact ⟨rfl, zs2, rfl, rfl, rfl, rfl, rfl, rfl, rfl, hz2, hR2, hx10⟩
        rintro e7 w10 ⟨zs2, q0, q3, q4, q5, q6, q7, q9, hz2, hR2, hx10⟩
        rw [upd_self q0, upd_self q3, upd_self q4, upd_self q5, upd_self q6, upd_self q7, upd_self q9]
        refine go_LFrameAll (k := ?_)
        refine ⟨⟨i + 1, zs2, by omega, rfl, rfl, rfl, rfl, rfl, rfl, rfl, by omega, hR2, hx10⟩, ?_⟩
        show vs.length - ((i : Int) + 1).toNat < vs.length - (i : Int).toNat
        omega
      · refine go_LFrameAll (k := ?_)
        exact ⟨rfl, rfl, rfl, rfl, rfl, rfl, hx9⟩
    rintro e6 w9 ⟨q0, q3, q4, q5, q6, hx9⟩
    rw [upd_self q0, upd_self q3, upd_self q4, upd_self q5, upd_self q6]
    refine go_LFrameAll (k := ?_)
    refine ⟨⟨t + 1, by omega, rfl, rfl, rfl, rfl, rfl, hx.trans' hx9⟩, ?_⟩
    show 2 - ((t : Int) + 1).toNat < 2 - (t : Int).toNat
    omega
  · refine go_LFrameAll (k := ?_)
    exact bodyE_ret1 rfl (.bool true) rfl ⟨rfl, hx02.trans' hx⟩
set_option maxRecDepth 100000 in
theorem lifted (os : Os) (started : os.Started) (H : Type) (enc : TypeId × Value → H) :
    ReturnsInHanded {} Try.checked os 6 .any (Rows.frameAllSpec.pre6 enc Try.prog Try.f6 Rows.frameAllRow.domain false) (Rows.frameAllSpec.post enc Try.prog Try.f6 false true false false) := by
  refine returnsInHanded_of_change (C := Try.checked) ownP started (by kernel_rfl) Try.func6
    (ChangeSpec.witness6 (enc := enc) (C := Try.checked) false ⟨#[], #[.slice none 0 0], []⟩ 8 (by kernel_rfl) (by kernel_rfl) (by kernel_rfl) (by kernel_rfl)) ?_
  intro W base args ds gs before hval0 hW hcnd _
  have hval : ∀ (j : Nat) t v, Try.f6.params[j]? = some t → args[j]? = some v → Value.okWide Try.prog W .any base t v := hval0
  have hW' := hW
  obtain ⟨p, q, hA0, hV, rfl, hfz, hnd⟩ := hW
  have hA : DataW.TrodAll enc Try.prog W 0 (fun _ => true) true Try.f6.params.toList args.toList ds p := hA0
  rw [Try.params6] at hA hval
  obtain ⟨v0, vs0, d0, ds0, p0, q0, hargs, rfl, rfl, h0, r0⟩ := trodAll_cons hA
  obtain ⟨rfl, rfl, rfl⟩ := trodAll_nil r0
  obtain rfl : args = #[v0] := by cases args; simp_all
  obtain ⟨rfl, rfl⟩ := trodVars_none hV
  have k0 := h0
  have lt0 : ∀ x ∈ p0, x.block < W.heap.size := by obtain ⟨m, hm⟩ := k0; exact DataW.trod_lt m _ _ _ hm
  obtain ⟨A0, c0, l0, rfl, b0, n0⟩ := open_bytes Try.underlying22 Try.underlying5 (by kernel_rfl) (hval 0 22 v0 rfl rfl) h0
  clear hA0 hval0
  refine (walk W A0 c0 l0 b0 n0).mono fun e W' ⟨he, bel⟩ => ?_
  subst he
  exact ⟨_, rfl, _, _, _, [], _, [], hW', trodAll_mk1 (shut_bool Try.underlying4 _), (trodAll_cons_mk (Below.trod laidP (by kernel_rfl) (of_decide_eq_true (by kernel_rfl)) k0 bel lt0) trodAll_mk0), rfl, bel.frame _, fun h => by cases h⟩
theorem over : Rows.frameAllRow.holds Try.pinned (OpenSpec.ofChange Rows.frameAllSpec) :=
  OpenClaim.holds_of_wide 6 Try.f6 rfl rfl rfl rfl rfl rfl rfl ⟨rfl, rfl, rfl, rfl, rfl⟩ rfl rfl rfl rfl rfl (by kernel_rfl) Try.func6 (by kernel_rfl)
    (of_decide_eq_true (by kernel_rfl)) (by unfold Func.isWrapper; first | (rw [if_pos (by decide +kernel)]; kernel_rfl) | (rw [if_neg (by decide +kernel)]; exact ⟨rfl, rfl⟩))
    (fun os started H enc _ => lifted os started H enc)
theorem proved : Rows.FrameAllSaid := over
#print axioms proved
end Go.Proofs.Ytdphahphbaebkaa.lawFrameAll
