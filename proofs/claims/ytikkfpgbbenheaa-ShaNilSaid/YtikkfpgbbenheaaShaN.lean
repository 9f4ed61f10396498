/- Walks: a Hash that nobody made. -/
import Derived.Test.YtikkfpgbbenheaaSha3
import Derived.Test.YtikkfpgbbenheaaRange
namespace Go.Proofs.Ytikkfpgbbenheaa
open Go Go.RowKit
set_option linter.unusedVariables false
theorem go_ShaN {A B : Prop} (h : Held B → A := by
  intro hEnd
  repeat (first | refine OW_nilCheck rfl ?_ | refine OW_fieldB fldo_H0 rfl ?_ | refine OW_fieldB fldo_H1 rfl ?_ | refine OW_fieldB fldo_H2 rfl ?_ | refine OW_fieldB fldo_H3 rfl ?_ | refine OW_eqlNil und_pH rfl ?_ | refine OW_moveV (.int _ _) rfl ?_ | refine OW_moveV (.slice _ _ _) rfl ?_ | refine OW_moveV (.bool _) rfl ?_ | refine OW_moveV (.pointer _) rfl ?_ | refine OW_moveV (.string _) rfl ?_ | refine OW_moveV (.agg _) rfl ?_ | refine OW_moveV (.tuple _) rfl ?_ | refine OW_nil ?_ | refine thenE_normal ?_ | refine CW_seq ?_ | refine CW_region (by kernel_rfl) ?_ | refine OW_assignV (.int _ _) rfl ?_ | refine OW_assignV (.slice _ _ _) rfl ?_ | refine OW_assignV (.bool _) rfl ?_ | refine OW_assignV (.pointer _) rfl ?_ | refine OW_assignV (.string _) rfl ?_ | refine OW_assignV (.agg _) rfl ?_ | refine OW_assignV (.tuple _) rfl ?_ | refine OW_addI rfl rfl (by omega) ?_ | refine OW_subI rfl rfl (by omega) ?_ | refine OW_mulI rfl rfl (by omega) ?_ | refine OW_lss rfl rfl ?_ | refine OW_extract rfl rfl ?_ | refine OW_gtr rfl rfl ?_ | refine OW_leq rfl rfl ?_ | refine OW_geq rfl rfl ?_ | refine OW_eql rfl rfl ?_ | refine OW_neq rfl rfl ?_ | refine OW_not rfl ?_ | refine OW_pickT rfl _ rfl ?_ | refine OW_pickF rfl (.bool _) rfl ?_ | refine OW_pickB rfl rfl rfl ?_ | refine OW_move ?_ | refine OW_assign ?_ | refine OW_pass rfl ?_ | refine OW_take rfl ?_ | refine OW_lenS (by first | with_reducible exact und_bytes | with_reducible exact und_bytess) rfl ?_ | refine OW_convInt (by first | with_reducible exact und_u8 | with_reducible exact und_u64 | with_reducible exact und_int | with_reducible exact und_u32) (by first | with_reducible exact und_u8 | with_reducible exact und_u64 | with_reducible exact und_int | with_reducible exact und_u32) rfl ?_ | refine OW_add rfl rfl ?_ | refine OW_sub rfl rfl ?_ | refine OW_mul rfl rfl ?_ | refine OW_min2 rfl rfl ?_ | refine OW_max2 rfl rfl ?_ | refine OW_neg rfl ?_ | refine CW_block ?_ | refine CW_condT rfl ?_ | refine CW_condF rfl ?_ | refine CW_exit ?_ | refine CW_ret ?_ | refine CW_skip ?_ | refine LW_seq ?_ | refine LW_regC ?_ | refine LW_condC ?_ | refine LW_regF ?_ | refine LW_condF ?_ | refine FW_seq ?_ | refine FW_region (by kernel_rfl) ?_ | refine FW_block ?_ | refine FW_condT rfl ?_ | refine FW_condF rfl ?_ | refine FW_exit ?_ | refine FW_ret ?_ | refine FW_skip ?_ | refine LW_ret ?_ | refine LW_skip ?_ | refine thenE_exit ?_ | refine thenE_ret ?_ | refine inBlockE_normal ?_ | refine inBlockE_same ?_ | refine inBlockE_ret ?_ | refine inBlockE_ne (by rfl) ?_ | refine OW_eqlB (by with_reducible exact und_bool) rfl rfl ?_ | refine OW_neqB (by with_reducible exact und_bool) rfl rfl ?_ | refine OW_idxS (by with_reducible exact und_bytes) one_u8 rfl rfl _ rfl (by omega) ?_ | refine OW_idxS (by with_reducible exact und_bytess) one_bytes rfl rfl _ rfl (by omega) ?_ | refine OW_load1 (by first | with_reducible exact one_u8 | with_reducible exact one_bytes) rfl _ (by assumption) ?_)
  exact hEnd.out) (k : B) : A := h ⟨k⟩
def NoH (w : World) (A : Option Addr) : Prop := A = none ∨ ∃ g cs, A = some ⟨g, 0, none⟩ ∧ Blk w g 28 cs ∧ cs[0]? = some (.bool false)
theorem NoH.ext {w w' : World} {A : Option Addr} (h : NoH w A) (hx : Ext w w') : NoH w' A := by
  rcases h with h | ⟨g, cs, h1, h2, h3⟩
  · exact .inl h
  · exact .inr ⟨g, cs, h1, h2.ext hx, h3⟩
theorem bld_T0 : ∀ w, (Instr.build 31 [].toArray).run Try.prog w = .ok (.agg (tzS.map bv).toArray) w := fun w => by kernel_rfl
theorem bld_H0 : ∀ w, (Instr.build 28 [].toArray).run Try.prog w = .ok (.agg (.bool false :: ((List.replicate 8 (0 : UInt32)).map uv ++ [.slice none 0 0, .int .i64 0])).toArray) w := fun w => by kernel_rfl
set_option maxHeartbeats 8000000 in
theorem noneN_any (w : World) (A : Option Addr) (h : NoH w A) : Calls Try.prog 20 #[.pointer A] w (RetV w (.bool true)) := by
  refine calls_of_CW Try.func20 rfl (by simp [Try.ntmps20]) ?_
  rw [Try.ntmps20]
  refine go_ShaN (k := ?_)
  rcases h with rfl | ⟨g, cs, rfl, hb, hc⟩
  · rw [show (none : Option Addr).isNone = true from rfl]
    refine go_ShaN (k := ?_)
    exact bodyE_ret1 rfl (.bool true) rfl ⟨rfl, Ext.rfl' w⟩
  · rw [show (some (⟨g, 0, none⟩ : Addr)).isNone = false from rfl]
    refine go_ShaN (k := ?_)
    refine OW_isLoad ?_
    refine OW_loadBk s_bool rfl hb (.bool false) hc ?_
    refine go_ShaN (k := ?_)
    exact bodyE_ret1 rfl (.bool true) rfl ⟨rfl, Ext.rfl' w⟩
set_option maxHeartbeats 8000000 in
theorem lenN_any (w : World) (A : Option Addr) (h : NoH w A) : Calls Try.prog 12 #[.pointer A] w (RetV w (.int .i64 0)) := by
  refine calls_of_CW Try.func12 rfl (by simp [Try.ntmps12]) ?_
  rw [Try.ntmps12]
  refine go_ShaN (k := ?_)
  refine OW_callV Try.func20 (by kernel_rfl) rfl (noneN_any w A h) rfl ?_
  intro w1 hx1
  refine go_ShaN (k := ?_)
  exact bodyE_ret1 rfl (.int .i64 0) rfl ⟨rfl, hx1⟩
set_option maxHeartbeats 8000000 in
theorem writeN_any (w : World) (A : Option Addr) (h : NoH w A) (B : Option Addr) (n c : Nat) : Calls Try.prog 11 #[.pointer A, .slice B n c] w (RetV w (.int .i64 1)) := by
  refine calls_of_LW Try.func11 rfl (by simp [Try.ntmps11]) ?_
  refine go_ShaN (k := ?_)
  refine OW_box _ rfl ?_
  intro w1 g2 hb2 hg2 hl2 hx1
  have hb2 : Blk w1 g2 23 #[.pointer A] := hb2
  refine go_ShaN (k := ?_)
  refine OW_isLoad ?_
  refine OW_loadBk s_hash rfl hb2 (.pointer A) rfl ?_
  refine go_ShaN (k := ?_)
  refine OW_callV Try.func20 (by kernel_rfl) rfl (noneN_any w1 A (h.ext hx1)) rfl ?_
  intro w2 hx2
  refine go_ShaN (k := ?_)
  exact leave_ret1 rfl (.int .i64 1) rfl ⟨rfl, hx1.trans' hx2⟩
set_option maxHeartbeats 8000000 in
theorem sumN_any (w : World) (A : Option Addr) (h : NoH w A) : Calls Try.prog 10 #[.pointer A] w (RetV w (.tuple #[.agg (tzS.map bv).toArray, .int .i64 1])) := by
  refine calls_of_LW Try.func10 rfl (by simp [Try.ntmps10]) ?_
  refine go_ShaN (k := ?_)
  refine OW_allocA s_agg_Tag ?_
  intro w1 g2 hb2 hg2 hl2 hx1
  refine go_ShaN (k := ?_)
  refine OW_callV Try.func20 (by kernel_rfl) rfl (noneN_any w1 A (h.ext hx1)) rfl ?_
  intro w2 hx2
  refine go_ShaN (k := ?_)
  refine OW_build _ _ bld_T0 rfl ?_
  refine go_ShaN (k := ?_)
  refine OW_storeA s_agg_Tag rfl (tzS.map bv) rfl rfl (hb2.ext hx2) rfl (bv_one _) ?_
  intro w3 hb3 hgr
  refine go_ShaN (k := ?_)
  exact leave_of (bodyE_retc2 rfl s_agg_Tag rfl (tzS.map bv) (.int .i64 1) rfl rfl hb3.range ⟨rfl, below_only (hx1.trans' hx2) hgr hg2 (hx1.trans' hx2).size⟩)
end Go.Proofs.Ytikkfpgbbenheaa
