/- Walks: a disk that nobody made. -/
import Derived.Test.YtkidofecahaajaaDsk2
namespace Go.Proofs.Ytkidofecahaajaa
open Go Go.RowKit
set_option linter.unusedVariables false
set_option maxRecDepth 4000
theorem go_DskN {A B : Prop} (h : Held B → A := by
  intro hEnd
  repeat (first | refine OW_nilCheck rfl ?_ | refine OW_fieldB fldo_D0 rfl ?_ | refine OW_fieldB fldo_D1 rfl ?_ | refine OW_fieldB fldo_D2 rfl ?_ | refine OW_fieldB fldo_D3 rfl ?_ | refine OW_eqlNil und_pD rfl ?_ | refine OW_moveV (.int _ _) rfl ?_ | refine OW_moveV (.slice _ _ _) rfl ?_ | refine OW_moveV (.bool _) rfl ?_ | refine OW_moveV (.pointer _) rfl ?_ | refine OW_moveV (.string _) rfl ?_ | refine OW_moveV (.agg _) rfl ?_ | refine OW_moveV (.tuple _) rfl ?_ | refine OW_nil ?_ | refine thenE_normal ?_ | refine CW_seq ?_ | refine CW_region (by kernel_rfl) ?_ | refine OW_assignV (.int _ _) rfl ?_ | refine OW_assignV (.slice _ _ _) rfl ?_ | refine OW_assignV (.bool _) rfl ?_ | refine OW_assignV (.pointer _) rfl ?_ | refine OW_assignV (.string _) rfl ?_ | refine OW_assignV (.agg _) rfl ?_ | refine OW_assignV (.tuple _) rfl ?_ | refine OW_addI rfl rfl (by omega) ?_ | refine OW_subI rfl rfl (by omega) ?_ | refine OW_mulI rfl rfl (by omega) ?_ | refine OW_lss rfl rfl ?_ | refine OW_extract rfl rfl ?_ | refine OW_gtr rfl rfl ?_ | refine OW_leq rfl rfl ?_ | refine OW_geq rfl rfl ?_ | refine OW_eql rfl rfl ?_ | refine OW_neq rfl rfl ?_ | refine OW_not rfl ?_ | refine OW_pickT rfl _ rfl ?_ | refine OW_pickF rfl (.bool _) rfl ?_ | refine OW_pickB rfl rfl rfl ?_ | refine OW_move ?_ | refine OW_assign ?_ | refine OW_pass rfl ?_ | refine OW_take rfl ?_ | refine OW_lenS (by first | with_reducible exact und_bytes | with_reducible exact und_bytess) rfl ?_ | refine OW_convInt (by first | with_reducible exact und_u8 | with_reducible exact und_u64 | with_reducible exact und_int | with_reducible exact und_u32) (by first | with_reducible exact und_u8 | with_reducible exact und_u64 | with_reducible exact und_int | with_reducible exact und_u32) rfl ?_ | refine OW_add rfl rfl ?_ | refine OW_sub rfl rfl ?_ | refine OW_mul rfl rfl ?_ | refine OW_min2 rfl rfl ?_ | refine OW_max2 rfl rfl ?_ | refine OW_neg rfl ?_ | refine CW_block ?_ | refine CW_condT rfl ?_ | refine CW_condF rfl ?_ | refine CW_exit ?_ | refine CW_ret ?_ | refine CW_skip ?_ | refine LW_seq ?_ | refine LW_regC ?_ | refine LW_condC ?_ | refine LW_regF ?_ | refine LW_condF ?_ | refine FW_seq ?_ | refine FW_region (by kernel_rfl) ?_ | refine FW_block ?_ | refine FW_condT rfl ?_ | refine FW_condF rfl ?_ | refine FW_exit ?_ | refine FW_ret ?_ | refine FW_skip ?_ | refine LW_ret ?_ | refine LW_skip ?_ | refine thenE_exit ?_ | refine thenE_ret ?_ | refine inBlockE_normal ?_ | refine inBlockE_same ?_ | refine inBlockE_ret ?_ | refine inBlockE_ne (by rfl) ?_ | refine OW_eqlB (by with_reducible exact und_bool) rfl rfl ?_ | refine OW_neqB (by with_reducible exact und_bool) rfl rfl ?_ | refine OW_idxS (by with_reducible exact und_bytes) one_u8 rfl rfl _ rfl (by omega) ?_ | refine OW_idxS (by with_reducible exact und_bytess) one_bytes rfl rfl _ rfl (by omega) ?_ | refine OW_load1 (by first | with_reducible exact one_u8 | with_reducible exact one_bytes) rfl _ (by assumption) ?_)
  exact hEnd.out) (k : B) : A := h ⟨k⟩
set_option maxHeartbeats 8000000 in
theorem dnoneN_any (w : World) (A : Option Addr) (h : NoD w A) : Calls Try.prog 51 #[.pointer A] w (RetV w (.bool true)) := by
  refine calls_of_CW Try.func51 rfl (by simp [Try.ntmps51]) ?_
  rw [Try.ntmps51]
  refine go_DskN (k := ?_)
  rcases h with rfl | ⟨g, cs, rfl, hb, hc⟩
  · rw [show (none : Option Addr).isNone = true from rfl]
    refine go_DskN (k := ?_)
    exact bodyE_ret1 rfl (.bool true) rfl ⟨rfl, Ext.rfl' w⟩
  · rw [show (some (⟨g, 0, none⟩ : Addr)).isNone = false from rfl]
    refine go_DskN (k := ?_)
    refine OW_isLoad ?_
    refine OW_loadBk s_bool rfl hb (.bool false) hc ?_
    refine go_DskN (k := ?_)
    exact bodyE_ret1 rfl (.bool true) rfl ⟨rfl, Ext.rfl' w⟩
set_option maxHeartbeats 8000000 in
theorem dUpN_any (w : World) (A : Option Addr) (h : NoD w A) : Calls Try.prog 22 #[.pointer A] w (RetV w (.bool false)) := by
  refine calls_of_CW Try.func22 rfl (by simp [Try.ntmps22]) ?_
  rw [Try.ntmps22]
  refine go_DskN (k := ?_)
  refine OW_callV Try.func51 (by kernel_rfl) rfl (dnoneN_any w A h) rfl ?_
  intro w1 hx1
  refine go_DskN (k := ?_)
  exact bodyE_ret1 rfl (.bool false) rfl ⟨rfl, hx1⟩
set_option maxHeartbeats 8000000 in
theorem dSyncedN_any (w : World) (A : Option Addr) (h : NoD w A) : Calls Try.prog 20 #[.pointer A] w (RetV w (.int .i64 0)) := by
  refine calls_of_CW Try.func20 rfl (by simp [Try.ntmps20]) ?_
  rw [Try.ntmps20]
  refine go_DskN (k := ?_)
  refine OW_callV Try.func51 (by kernel_rfl) rfl (dnoneN_any w A h) rfl ?_
  intro w1 hx1
  refine go_DskN (k := ?_)
  exact bodyE_ret1 rfl (.int .i64 0) rfl ⟨rfl, hx1⟩
set_option maxHeartbeats 8000000 in
theorem dWritesN_any (w : World) (A : Option Addr) (h : NoD w A) : Calls Try.prog 21 #[.pointer A] w (RetV w (.int .i64 0)) := by
  refine calls_of_CW Try.func21 rfl (by simp [Try.ntmps21]) ?_
  rw [Try.ntmps21]
  refine go_DskN (k := ?_)
  refine OW_callV Try.func51 (by kernel_rfl) rfl (dnoneN_any w A h) rfl ?_
  intro w1 hx1
  refine go_DskN (k := ?_)
  exact bodyE_ret1 rfl (.int .i64 0) rfl ⟨rfl, hx1⟩
set_option maxHeartbeats 8000000 in
theorem dBytesN_any (w : World) (A : Option Addr) (h : NoD w A) : Calls Try.prog 19 #[.pointer A] w (RetV w (.slice none 0 0)) := by
  refine calls_of_CW Try.func19 rfl (by simp [Try.ntmps19]) ?_
  rw [Try.ntmps19]
  refine go_DskN (k := ?_)
  refine OW_callV Try.func51 (by kernel_rfl) rfl (dnoneN_any w A h) rfl ?_
  intro w1 hx1
  refine go_DskN (k := ?_)
  exact bodyE_ret1 rfl (.slice none 0 0) rfl ⟨rfl, hx1⟩
set_option maxHeartbeats 8000000 in
theorem dStartN_any (w : World) (A : Option Addr) (h : NoD w A) : Calls Try.prog 17 #[.pointer A] w (RetV w (.int .i64 1)) := by
  refine calls_of_CW Try.func17 rfl (by simp [Try.ntmps17]) ?_
  rw [Try.ntmps17]
  refine go_DskN (k := ?_)
  refine OW_callV Try.func51 (by kernel_rfl) rfl (dnoneN_any w A h) rfl ?_
  intro w1 hx1
  refine go_DskN (k := ?_)
  exact bodyE_ret1 rfl (.int .i64 1) rfl ⟨rfl, hx1⟩
set_option maxHeartbeats 8000000 in
theorem uprN_any (w : World) (A : Option Addr) (h : NoD w A) (v : Value) : Calls Try.prog 44 #[.pointer A, v] w (RetV w (.int .i64 1)) := by
  refine calls_of_CW Try.func44 rfl (by simp [Try.ntmps44]) ?_
  rw [Try.ntmps44]
  refine go_DskN (k := ?_)
  refine OW_callV Try.func51 (by kernel_rfl) rfl (dnoneN_any w A h) rfl ?_
  intro w1 hx1
  refine go_DskN (k := ?_)
  exact bodyE_ret1 rfl (.int .i64 1) rfl ⟨rfl, hx1⟩
set_option maxHeartbeats 8000000 in
theorem dSyncN_any (w : World) (A : Option Addr) (h : NoD w A) : Calls Try.prog 15 #[.pointer A] w (RetV w (.int .i64 1)) := by
  refine calls_of_CW Try.func15 rfl (by simp [Try.ntmps15]) ?_
  rw [Try.ntmps15]
  refine go_DskN (k := ?_)
  refine OW_box _ rfl ?_
  intro w1 gd hb1 hg1 hl1 hx1
  have hb1 : Blk w1 gd 27 #[.pointer A] := hb1
  refine go_DskN (k := ?_)
  refine OW_isLoad ?_
  refine OW_loadBk d_ptr rfl hb1 (.pointer A) rfl ?_
  refine OW_mkFunc _ rfl ?_
  refine OW_callV Try.func44 (by kernel_rfl) rfl (uprN_any w1 A (h.ext hx1) _) rfl ?_
  intro w2 hx2
  refine go_DskN (k := ?_)
  exact bodyE_ret1 rfl (.int .i64 1) rfl ⟨rfl, hx1.trans' hx2⟩
set_option maxHeartbeats 8000000 in
theorem dWriteN_any (w : World) (A : Option Addr) (h : NoD w A) (B : Option Addr) (n c : Nat) : Calls Try.prog 14 #[.pointer A, .slice B n c] w (RetV w (.int .i64 1)) := by
  refine calls_of_CW Try.func14 rfl (by simp [Try.ntmps14]) ?_
  rw [Try.ntmps14]
  refine go_DskN (k := ?_)
  refine OW_box _ rfl ?_
  intro w1 gd hb1 hg1 hl1 hx1
  have hb1 : Blk w1 gd 27 #[.pointer A] := hb1
  refine go_DskN (k := ?_)
  refine OW_box _ rfl ?_
  intro w2 gb hb2 hg2 hl2 hx2
  refine go_DskN (k := ?_)
  refine OW_isLoad ?_
  refine OW_loadBk d_ptr rfl (hb1.ext hx2) (.pointer A) rfl ?_
  refine OW_mkFunc _ rfl ?_
  refine OW_callV Try.func44 (by kernel_rfl) rfl (uprN_any w2 A ((h.ext hx1).ext hx2) _) rfl ?_
  intro w3 hx3
  refine go_DskN (k := ?_)
  exact bodyE_ret1 rfl (.int .i64 1) rfl ⟨rfl, (hx1.trans' hx2).trans' hx3⟩
set_option maxHeartbeats 8000000 in
theorem dCutN_any (w : World) (A : Option Addr) (h : NoD w A) (n : Int) : Calls Try.prog 18 #[.pointer A, .int .i64 n] w (RetV w (.int .i64 1)) := by
  refine calls_of_CW Try.func18 rfl (by simp [Try.ntmps18]) ?_
  rw [Try.ntmps18]
  refine go_DskN (k := ?_)
  refine OW_box _ rfl ?_
  intro w1 gd hb1 hg1 hl1 hx1
  have hb1 : Blk w1 gd 27 #[.pointer A] := hb1
  refine go_DskN (k := ?_)
  refine OW_box _ rfl ?_
  intro w2 gb hb2 hg2 hl2 hx2
  refine go_DskN (k := ?_)
  refine OW_isLoad ?_
  refine OW_loadBk d_ptr rfl (hb1.ext hx2) (.pointer A) rfl ?_
  refine OW_mkFunc _ rfl ?_
  refine OW_callV Try.func44 (by kernel_rfl) rfl (uprN_any w2 A ((h.ext hx1).ext hx2) _) rfl ?_
  intro w3 hx3
  refine go_DskN (k := ?_)
  exact bodyE_ret1 rfl (.int .i64 1) rfl ⟨rfl, (hx1.trans' hx2).trans' hx3⟩
set_option maxHeartbeats 8000000 in
theorem dCrashN_any (w : World) (A : Option Addr) (h : NoD w A) (n m : Int) : Calls Try.prog 16 #[.pointer A, .int .i64 n, .int .i64 m] w (RetV w (.int .i64 1)) := by
  refine calls_of_CW Try.func16 rfl (by simp [Try.ntmps16]) ?_
  rw [Try.ntmps16]
  refine go_DskN (k := ?_)
  refine OW_box _ rfl ?_
  intro w1 gd hb1 hg1 hl1 hx1
  have hb1 : Blk w1 gd 27 #[.pointer A] := hb1
  refine go_DskN (k := ?_)
  refine OW_box _ rfl ?_
  intro w2 gb hb2 hg2 hl2 hx2
  refine go_DskN (k := ?_)
  refine OW_box _ rfl ?_
  intro w3 gc hb3 hg3 hl3 hx3
  have hx03 := (hx1.trans' hx2).trans' hx3
  refine go_DskN (k := ?_)
  refine OW_isLoad ?_
  refine OW_loadBk d_ptr rfl (hb1.ext (hx2.trans' hx3)) (.pointer A) rfl ?_
  refine OW_mkFunc _ rfl ?_
  refine OW_callV Try.func44 (by kernel_rfl) rfl (uprN_any w3 A (h.ext hx03) _) rfl ?_
  intro w4 hx4
  refine go_DskN (k := ?_)
  exact bodyE_ret1 rfl (.int .i64 1) rfl ⟨rfl, hx03.trans' hx4⟩
end Go.Proofs.Ytkidofecahaajaa
