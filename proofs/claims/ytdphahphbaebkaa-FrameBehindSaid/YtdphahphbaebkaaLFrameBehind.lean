/- FrameBehind: what stands behind a frame changes nothing of it. No condition. -/
import Derived.Test.YtdphahphbaebkaaFrm4
import Derived.Test.YtdphahphbaebkaaFrame
namespace Go.Proofs.Ytdphahphbaebkaa.lawFrameBehind
open Go.ChangeShapes Go.WideShapes Go.ChangeAt Go.RowKit
set_option linter.unusedVariables false
set_option maxRecDepth 4000
theorem go_LFrameBehind {A B : Prop} (h : Held B → A := by
  intro hEnd
  repeat (first | refine OW_moveV (.int _ _) rfl ?_ | refine OW_moveV (.slice _ _ _) rfl ?_ | refine OW_moveV (.bool _) rfl ?_ | refine OW_moveV (.pointer _) rfl ?_ | refine OW_moveV (.string _) rfl ?_ | refine OW_moveV (.agg _) rfl ?_ | refine OW_moveV (.tuple _) rfl ?_ | refine OW_nil ?_ | refine thenE_normal ?_ | refine CW_seq ?_ | refine CW_region (by kernel_rfl) ?_ | refine OW_assignV (.int _ _) rfl ?_ | refine OW_assignV (.slice _ _ _) rfl ?_ | refine OW_assignV (.bool _) rfl ?_ | refine OW_assignV (.pointer _) rfl ?_ | refine OW_assignV (.string _) rfl ?_ | refine OW_assignV (.agg _) rfl ?_ | refine OW_assignV (.tuple _) rfl ?_ | refine OW_addI rfl rfl (by omega) ?_ | refine OW_subI rfl rfl (by omega) ?_ | refine OW_mulI rfl rfl (by omega) ?_ | refine OW_lss rfl rfl ?_ | refine OW_extract rfl rfl ?_ | refine OW_gtr rfl rfl ?_ | refine OW_leq rfl rfl ?_ | refine OW_geq rfl rfl ?_ | refine OW_eql rfl rfl ?_ | refine OW_neq rfl rfl ?_ | refine OW_not rfl ?_ | refine OW_pickT rfl _ rfl ?_ | refine OW_pickF rfl (.bool _) rfl ?_ | refine OW_pickB rfl rfl rfl ?_ | refine OW_move ?_ | refine OW_assign ?_ | refine OW_pass rfl ?_ | refine OW_take rfl ?_ | refine OW_lenS (by first | with_reducible exact und_bytes | with_reducible exact und_bytess) rfl ?_ | refine OW_convInt (by first | with_reducible exact und_u8 | with_reducible exact und_u64 | with_reducible exact und_int | with_reducible exact und_u32) (by first | with_reducible exact und_u8 | with_reducible exact und_u64 | with_reducible exact und_int | with_reducible exact und_u32) rfl ?_ | refine OW_add rfl rfl ?_ | refine OW_sub rfl rfl ?_ | refine OW_mul rfl rfl ?_ | refine OW_min2 rfl rfl ?_ | refine OW_max2 rfl rfl ?_ | refine OW_neg rfl ?_ | refine CW_block ?_ | refine CW_condT rfl ?_ | refine CW_condF rfl ?_ | refine CW_exit ?_ | refine CW_ret ?_ | refine CW_skip ?_ | refine LW_seq ?_ | refine LW_regC ?_ | refine LW_condC ?_ | refine LW_regF ?_ | refine LW_condF ?_ | refine FW_seq ?_ | refine FW_region (by kernel_rfl) ?_ | refine FW_block ?_ | refine FW_condT rfl ?_ | refine FW_condF rfl ?_ | refine FW_exit ?_ | refine FW_ret ?_ | refine FW_skip ?_ | refine LW_ret ?_ | refine LW_skip ?_ | refine thenE_exit ?_ | refine thenE_ret ?_ | refine inBlockE_normal ?_ | refine inBlockE_same ?_ | refine inBlockE_ret ?_ | refine inBlockE_ne (by rfl) ?_ | refine OW_eqlB (by with_reducible exact und_bool) rfl rfl ?_ | refine OW_neqB (by with_reducible exact und_bool) rfl rfl ?_ | refine OW_idxS (by with_reducible exact und_bytes) one_u8 rfl rfl _ rfl (by omega) ?_ | refine OW_idxS (by with_reducible exact und_bytess) one_bytes rfl rfl _ rfl (by omega) ?_ | refine OW_load1 (by first | with_reducible exact one_u8 | with_reducible exact one_bytes) rfl _ (by assumption) ?_)
  exact hEnd.out) (k : B) : A := h ⟨k⟩
set_option maxHeartbeats 8000000 in
theorem walk (w : World) (A : Option Addr) (cA : Nat) (b : List UInt8) (hb : Bs w A b) (hcb : b.length ≤ cA) (B : Option Addr) (cB : Nat) (y : List UInt8) (hy : Bs w B y) (hcy : y.length ≤ cB) :
    Calls Try.prog 8 #[.slice A b.length cA, .slice B y.length cB] w (RetV w (.bool true)) := by
  refine calls_of_CW Try.func8 rfl (by simp [Try.ntmps8]) ?_
  rw [Try.ntmps8]
  refine go_LFrameBehind (k := ?_)
  refine OW_callV Try.func18 (by kernel_rfl) rfl (awake5_any w) rfl ?_
  intro w1 hx1
  refine go_LFrameBehind (k := ?_)
  refine OW_split 15 _ rfl (fun h => ?_) (fun h => ?_)
  · refine go_LFrameBehind (k := ?_)
    exact bodyE_ret1 rfl (.bool true) rfl ⟨rfl, hx1⟩
  have hlb : b.length ≤ 500 := by simp at h; omega
  clear h
  refine go_LFrameBehind (k := ?_)
  refine CW_cond _ rfl (fun h => ?_) (fun h => ?_)
  · refine go_LFrameBehind (k := ?_)
    exact bodyE_ret1 rfl (.bool true) rfl ⟨rfl, hx1⟩
  have hly : y.length ≤ 500 := by simp at h; omega
  clear h
  have hfl := frameB_length b
  have hnx := nextL_frame b y (by omega)
  have hse := fun (w : World) A c (hb : Bs w A b) => fseal_any w A c b hb (by omega)
  generalize frameB b = F at *
  refine go_LFrameBehind (k := ?_)
  refine OW_callC Try.func11 (by kernel_rfl) rfl (hse w1 A cA (hb.ext hx1)) rfl ?_
  rintro en w2 ⟨A2, c2, rfl, hf2⟩
  refine ⟨_, rfl, ?_⟩
  have hx02 := hx1.trans' hf2.ext
  refine go_LFrameBehind (k := ?_)
  refine OW_lit [.slice A2 F.length c2, .slice B y.length cB] und_bytess info_bytes rfl rfl (by simp [Value.oneCell']) (by decide) ?_
  intro w3 g3 hb3 hg3 hx3
  have hcat := cat_lit2 (c := 2) hb3 (hf2.bs.ext hx3) rfl (hy.ext (hx02.trans' hx3)) rfl (by omega)
  refine go_LFrameBehind (k := ?_)
  refine OW_callBs Try.func22 (by kernel_rfl) rfl hcat rfl ?_
  intro w4 A4 c4 hf4
  have hx04 := (hx02.trans' hx3).trans' hf4.ext
  refine go_LFrameBehind (k := ?_)
  refine OW_callC Try.func13 (by kernel_rfl) rfl (frameNext_any w4 A4 c4 (F ++ y) hf4.bs hf4.cap (by rw [List.length_append]; omega)) rfl ?_
  rintro en w5 (⟨hn, rfl, hx5⟩ | ⟨p, A5, c5, hn, rfl, hf5⟩)
  · rw [hnx] at hn; cases hn
  rw [hnx] at hn
  obtain rfl : b = p := Option.some.inj hn
  refine ⟨_, rfl, ?_⟩
  have hx05 := hx04.trans' hf5.ext
  have he : (((b.length : Int) + 12) == (F.length : Int)) = true := by rw [beq_iff_eq]; omega
  refine go_LFrameBehind (k := ?_)
  rw [he]
  refine go_LFrameBehind (k := ?_)
  refine OW_callV Try.func21 (by kernel_rfl) rfl (same_any w5 A5 A b b c5 cA hf5.bs (hb.ext hx05) hf5.cap (by omega)) rfl ?_
  intro w6 hx6
  rw [show (b == b) = true from beq_self_eq_true b]
  refine go_LFrameBehind (k := ?_)
  exact bodyE_ret1 rfl (.bool true) rfl ⟨rfl, hx05.trans' hx6⟩
set_option maxRecDepth 100000 in
theorem lifted (os : Os) (started : os.Started) (H : Type) (enc : TypeId × Value → H) :
    ReturnsInHanded {} Try.checked os 8 .any (Rows.frameBehindSpec.pre6 enc Try.prog Try.f8 Rows.frameBehindRow.domain false) (Rows.frameBehindSpec.post enc Try.prog Try.f8 false true false false) := by
  refine returnsInHanded_of_change (C := Try.checked) ownP started (by kernel_rfl) Try.func8
    (ChangeSpec.witness6 (enc := enc) (C := Try.checked) false ⟨#[], #[.slice none 0 0, .slice none 0 0], []⟩ 8 (by kernel_rfl) (by kernel_rfl) (by kernel_rfl) (by kernel_rfl)) ?_
  intro W base args ds gs before hval0 hW hcnd _
  have hval : ∀ (j : Nat) t v, Try.f8.params[j]? = some t → args[j]? = some v → Value.okWide Try.prog W .any base t v := hval0
  have hW' := hW
  obtain ⟨p, q, hA0, hV, rfl, hfz, hnd⟩ := hW
  have hA : DataW.TrodAll enc Try.prog W 0 (fun _ => true) true Try.f8.params.toList args.toList ds p := hA0
  rw [Try.params8] at hA hval
  obtain ⟨v0, vs0, d0, ds0, p0, q0, hargs, rfl, rfl, h0, r0⟩ := trodAll_cons hA
  obtain ⟨v1, vs1, d1, ds1, p1, q1, rfl, rfl, rfl, h1, r1⟩ := trodAll_cons r0
  obtain ⟨rfl, rfl, rfl⟩ := trodAll_nil r1
  obtain rfl : args = #[v0, v1] := by cases args; simp_all
  obtain ⟨rfl, rfl⟩ := trodVars_none hV
  have k0 := h0
  have lt0 : ∀ x ∈ p0, x.block < W.heap.size := by obtain ⟨m, hm⟩ := k0; exact DataW.trod_lt m _ _ _ hm
  have k1 := h1
  have lt1 : ∀ x ∈ p1, x.block < W.heap.size := by obtain ⟨m, hm⟩ := k1; exact DataW.trod_lt m _ _ _ hm
  obtain ⟨A0, c0, l0, rfl, b0, n0⟩ := open_bytes Try.underlying22 Try.underlying5 (by kernel_rfl) (hval 0 22 v0 rfl rfl) h0
  obtain ⟨A1, c1, l1, rfl, b1, n1⟩ := open_bytes Try.underlying22 Try.underlying5 (by kernel_rfl) (hval 1 22 v1 rfl rfl) h1
  clear hA0 hval0
  refine (walk W A0 c0 l0 b0 n0 A1 c1 l1 b1 n1).mono fun e W' ⟨he, bel⟩ => ?_
  subst he
  exact ⟨_, rfl, _, _, _, [], _, [], hW', trodAll_mk1 (shut_bool Try.underlying4 _), (trodAll_cons_mk (Below.trod laidP (by kernel_rfl) (of_decide_eq_true (by kernel_rfl)) k0 bel lt0) (trodAll_cons_mk (Below.trod laidP (by kernel_rfl) (of_decide_eq_true (by kernel_rfl)) k1 bel lt1) trodAll_mk0)), rfl, bel.frame _, fun h => by cases h⟩
theorem over : Rows.frameBehindRow.holds Try.pinned (OpenSpec.ofChange Rows.frameBehindSpec) :=
  OpenClaim.holds_of_wide 8 Try.f8 rfl rfl rfl rfl rfl rfl rfl ⟨rfl, rfl, rfl, rfl, rfl⟩ rfl rfl rfl rfl rfl (by kernel_rfl) Try.func8 (by kernel_rfl)
    (of_decide_eq_true (by kernel_rfl)) (by unfold Func.isWrapper; first | (rw [if_pos (by decide +kernel)]; kernel_rfl) | (rw [if_neg (by decide +kernel)]; exact ⟨rfl, rfl⟩))
    (fun os started H enc _ => lifted os started H enc)
theorem proved : Rows.FrameBehindSaid := over
#print axioms proved
end Go.Proofs.Ytdphahphbaebkaa.lawFrameBehind
