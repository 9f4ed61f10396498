/- Walks: a writer, a reader that nobody made. -/
import Derived.Test.YthhphmbhlddihaaWireX
namespace Go.Proofs.Ythhphmbhlddihaa
open Go Go.RowKit
set_option linter.unusedVariables false
set_option maxRecDepth 4000
theorem go_WireN {A B : Prop} (h : Held B → A := by
  intro hEnd
  repeat (first | refine OW_moveV (.int _ _) rfl ?_ | refine OW_moveV (.slice _ _ _) rfl ?_ | refine OW_moveV (.bool _) rfl ?_ | refine OW_moveV (.pointer _) rfl ?_ | refine OW_moveV (.string _) rfl ?_ | refine OW_moveV (.agg _) rfl ?_ | refine OW_moveV (.tuple _) rfl ?_ | refine OW_nil ?_ | refine thenE_normal ?_ | refine CW_seq ?_ | refine CW_region (by kernel_rfl) ?_ | refine OW_assignV (.int _ _) rfl ?_ | refine OW_assignV (.slice _ _ _) rfl ?_ | refine OW_assignV (.bool _) rfl ?_ | refine OW_assignV (.pointer _) rfl ?_ | refine OW_assignV (.string _) rfl ?_ | refine OW_assignV (.agg _) rfl ?_ | refine OW_assignV (.tuple _) rfl ?_ | refine OW_addI rfl rfl (by omega) ?_ | refine OW_subI rfl rfl (by omega) ?_ | refine OW_mulI rfl rfl (by omega) ?_ | refine OW_lss rfl rfl ?_ | refine OW_extract rfl rfl ?_ | refine OW_gtr rfl rfl ?_ | refine OW_leq rfl rfl ?_ | refine OW_geq rfl rfl ?_ | refine OW_eql rfl rfl ?_ | refine OW_neq rfl rfl ?_ | refine OW_not rfl ?_ | refine OW_pickT rfl _ rfl ?_ | refine OW_pickF rfl (.bool _) rfl ?_ | refine OW_pickB rfl rfl rfl ?_ | refine OW_move ?_ | refine OW_assign ?_ | refine OW_pass rfl ?_ | refine OW_take rfl ?_ | refine OW_lenS (by first | with_reducible exact und_bytes | with_reducible exact und_bytess) rfl ?_ | refine OW_convInt (by first | with_reducible exact und_u8 | with_reducible exact und_u64 | with_reducible exact und_int | with_reducible exact und_u32) (by first | with_reducible exact und_u8 | with_reducible exact und_u64 | with_reducible exact und_int | with_reducible exact und_u32) rfl ?_ | refine OW_add rfl rfl ?_ | refine OW_sub rfl rfl ?_ | refine OW_mul rfl rfl ?_ | refine OW_min2 rfl rfl ?_ | refine OW_max2 rfl rfl ?_ | refine OW_neg rfl ?_ | refine CW_block ?_ | refine CW_condT rfl ?_ | refine CW_condF rfl ?_ | refine CW_exit ?_ | refine CW_ret ?_ | refine CW_skip ?_ | refine LW_seq ?_ | refine LW_regC ?_ | refine LW_condC ?_ | refine LW_regF ?_ | refine LW_condF ?_ | refine FW_seq ?_ | refine FW_region (by kernel_rfl) ?_ | refine FW_block ?_ | refine FW_condT rfl ?_ | refine FW_condF rfl ?_ | refine FW_exit ?_ | refine FW_ret ?_ | refine FW_skip ?_ | refine LW_ret ?_ | refine LW_skip ?_ | refine thenE_exit ?_ | refine thenE_ret ?_ | refine inBlockE_normal ?_ | refine inBlockE_same ?_ | refine inBlockE_ret ?_ | refine inBlockE_ne (by rfl) ?_ | refine OW_eqlB (by with_reducible exact und_bool) rfl rfl ?_ | refine OW_neqB (by with_reducible exact und_bool) rfl rfl ?_ | refine OW_idxS (by with_reducible exact und_bytes) one_u8 rfl rfl _ rfl (by omega) ?_ | refine OW_idxS (by with_reducible exact und_bytess) one_bytes rfl rfl _ rfl (by omega) ?_ | refine OW_load1 (by first | with_reducible exact one_u8 | with_reducible exact one_bytes) rfl _ (by assumption) ?_ | refine OW_nilCheck rfl ?_ | refine OW_fieldF fld_W0 rfl ?_ | refine OW_fieldF fld_R0 rfl ?_ | refine OW_eqlNil und_pw rfl ?_ | refine OW_eqlNil und_pr rfl ?_ | refine OW_neqNil und_pr rfl ?_ | refine OW_rem rfl rfl (by decide) ?_ | refine OW_fieldF fld_F0 rfl ?_ | refine OW_fieldF fld_F1 rfl ?_ | refine OW_fieldF fld_F2 rfl ?_ | refine OW_fieldF fld_F3 rfl ?_ | refine OW_load1 (by first | with_reducible exact one_bool | with_reducible exact one_int) rfl _ (by assumption) ?_)
  exact hEnd.out) (k : B) : A := h ⟨k⟩
/-- A place where nobody made an object. -/
def No (w : World) (A : Option Addr) : Prop := A = none ∨ ∃ g, A = some ⟨g, 0, none⟩ ∧ w.cell? ⟨g, 0, none⟩ = some (.bool false)
theorem No.ext {w w' : World} {A : Option Addr} (h : No w A) (hx : Ext w w') : No w' A := by
  rcases h with h | ⟨g, h1, h2⟩
  · exact .inl h
  · exact .inr ⟨g, h1, hx.cell' h2⟩
set_option maxHeartbeats 8000000 in
theorem addN_any (w : World) (A : Option Addr) (h : No w A) (v : Value) : Calls Try.prog 74 #[.pointer A, v] w (RetV w (.pointer A)) := by
  refine calls_of_CW Try.func74 rfl (by simp [Try.ntmps74]) ?_
  rw [Try.ntmps74]
  refine go_WireN (k := ?_)
  rcases h with rfl | ⟨g, rfl, hc⟩
  · rw [show (none : Option Addr).isNone = true from rfl]
    refine go_WireN (k := ?_)
    exact bodyE_ret1 rfl (.pointer none) rfl ⟨rfl, Ext.rfl' w⟩
  · rw [show (some (⟨g, 0, none⟩ : Addr)).isNone = false from rfl]
    refine go_WireN (k := ?_)
    exact bodyE_ret1 rfl (.pointer (some ⟨g, 0, none⟩)) rfl ⟨rfl, Ext.rfl' w⟩
set_option maxHeartbeats 8000000 in
theorem wByteN_any (w : World) (A : Option Addr) (h : No w A) (b : UInt8) : Calls Try.prog 35 #[.pointer A, bv b] w (RetV w (.pointer A)) := by
  have hbv : bv b = .int .u8 (b.toNat : Int) := rfl
  rw [hbv]
  refine calls_of_CW Try.func35 rfl (by simp [Try.ntmps35]) ?_
  rw [Try.ntmps35]
  refine go_WireN (k := ?_)
  refine OW_lit [bv b] (by with_reducible exact und_bytes) info_u8 rfl rfl (by simp [bv, Value.oneCell']) (by decide) ?_
  intro w1 g1 hb1 hg1 hx1
  refine go_WireN (k := ?_)
  refine OW_lit [sv (some ⟨g1, 0, none⟩, 1, [b])] (by with_reducible exact und_bytess) info_bytes rfl rfl (by simp [sv, Value.oneCell']) (by decide) ?_
  intro w2 g2 hb2 hg2 hx2
  refine go_WireN (k := ?_)
  refine OW_callV Try.func74 (by kernel_rfl) rfl (addN_any w2 A (h.ext (hx1.trans' hx2)) _) rfl ?_
  intro w3 hx3
  refine go_WireN (k := ?_)
  exact bodyE_ret1 rfl (.pointer A) rfl ⟨rfl, (hx1.trans' hx2).trans' hx3⟩
set_option maxHeartbeats 8000000 in
theorem wIntN_any (w : World) (A : Option Addr) (h : No w A) (n : Int) : Calls Try.prog 31 #[.pointer A, .int .i64 n] w (RetV w (.pointer A)) := by
  refine calls_of_CW Try.func31 rfl (by simp [Try.ntmps31]) ?_
  rw [Try.ntmps31]
  refine go_WireN (k := ?_)
  rw [wrap_u64I]
  refine OW_callBs Try.func75 (by kernel_rfl) rfl (put64_any w (u64N n) (u64N_lt n)) rfl ?_
  intro w1 A1 c1 hf1
  refine go_WireN (k := ?_)
  refine OW_lit [sv (A1, c1, putL (u64N n) 8)] (by with_reducible exact und_bytess) info_bytes rfl rfl (by simp [sv, Value.oneCell']) (by decide) ?_
  intro w2 g2 hb2 hg2 hx2
  have hx := hf1.ext.trans' hx2
  refine go_WireN (k := ?_)
  refine OW_callV Try.func74 (by kernel_rfl) rfl (addN_any w2 A (h.ext hx) _) rfl ?_
  intro w3 hx3
  refine go_WireN (k := ?_)
  exact bodyE_ret1 rfl (.pointer A) rfl ⟨rfl, hx.trans' hx3⟩
set_option maxHeartbeats 8000000 in
theorem wFlagN_any (w : World) (A : Option Addr) (h : No w A) (is : Bool) : Calls Try.prog 36 #[.pointer A, .bool is] w (RetV w (.pointer A)) := by
  refine calls_of_CW Try.func36 rfl (by simp [Try.ntmps36]) ?_
  rw [Try.ntmps36]
  cases is
  · refine go_WireN (k := ?_)
    refine OW_callV Try.func35 (by kernel_rfl) rfl (wByteN_any w A h 0) rfl ?_
    intro w3 hx3
    refine go_WireN (k := ?_)
    exact bodyE_ret1 rfl (.pointer A) rfl ⟨rfl, hx3⟩
  · refine go_WireN (k := ?_)
    refine OW_callV Try.func35 (by kernel_rfl) rfl (wByteN_any w A h 1) rfl ?_
    intro w3 hx3
    refine go_WireN (k := ?_)
    exact bodyE_ret1 rfl (.pointer A) rfl ⟨rfl, hx3⟩
set_option maxHeartbeats 8000000 in
theorem wBytesN_any (w : World) (A : Option Addr) (h : No w A) (B : Option Addr) (n c : Nat) : Calls Try.prog 37 #[.pointer A, .slice B n c] w (RetV w (.pointer A)) := by
  refine calls_of_CW Try.func37 rfl (by simp [Try.ntmps37]) ?_
  rw [Try.ntmps37]
  refine go_WireN (k := ?_)
  rw [wrap_u32I]
  refine OW_callBs Try.func76 (by kernel_rfl) rfl (put32_any w (u32N n) (u32N_lt n)) rfl ?_
  intro w1 A1 c1 hf1
  refine go_WireN (k := ?_)
  refine OW_lit [sv (A1, c1, putL (u32N n) 4), .slice B n c] (by with_reducible exact und_bytess) info_bytes rfl rfl (by simp [sv, Value.oneCell']) (by decide) ?_
  intro w2 g2 hb2 hg2 hx2
  have hx := hf1.ext.trans' hx2
  refine go_WireN (k := ?_)
  refine OW_callV Try.func74 (by kernel_rfl) rfl (addN_any w2 A (h.ext hx) _) rfl ?_
  intro w3 hx3
  refine go_WireN (k := ?_)
  exact bodyE_ret1 rfl (.pointer A) rfl ⟨rfl, hx.trans' hx3⟩
set_option maxHeartbeats 8000000 in
theorem wTextN_any (w : World) (A : Option Addr) (h : No w A) (t : ByteArray) : Calls Try.prog 38 #[.pointer A, .string t] w (RetV w (.pointer A)) := by
  refine calls_of_CW Try.func38 rfl (by simp [Try.ntmps38]) ?_
  rw [Try.ntmps38]
  refine go_WireN (k := ?_)
  refine OW_bytesOf t und_string (by with_reducible exact und_bytes) und_u8 rfl ?_
  intro w1 B c hb hB hx
  refine go_WireN (k := ?_)
  refine OW_callV Try.func37 (by kernel_rfl) rfl (wBytesN_any w1 A (h.ext hx) B t.data.toList.length c) rfl ?_
  intro w3 hx3
  refine go_WireN (k := ?_)
  exact bodyE_ret1 rfl (.pointer A) rfl ⟨rfl, hx.trans' hx3⟩
set_option maxHeartbeats 8000000 in
theorem wTagN_any (w : World) (A : Option Addr) (h : No w A) (t : List UInt8) (hl : t.length = 32) : Calls Try.prog 39 #[.pointer A, .agg (t.map bv).toArray] w (RetV w (.pointer A)) := by
  refine calls_of_CW Try.func39 rfl (by simp [Try.ntmps39]) ?_
  rw [Try.ntmps39]
  refine go_WireN (k := ?_)
  refine OW_box _ rfl ?_
  intro w1 g1 hb1 hg1 hlt1 hx1
  refine go_WireN (k := ?_)
  refine OW_sliceP slp_Tag rfl ?_
  refine go_WireN (k := ?_)
  rw [← hl]
  refine OW_lit [sv (some ⟨g1, 0, none⟩, t.length, t)] (by with_reducible exact und_bytess) info_bytes rfl rfl (by simp [sv, Value.oneCell']) (by decide) ?_
  intro w2 g2 hb2 hg2 hx2
  have hx := hx1.trans' hx2
  refine go_WireN (k := ?_)
  refine OW_callV Try.func74 (by kernel_rfl) rfl (addN_any w2 A (h.ext hx) _) rfl ?_
  intro w3 hx3
  refine go_WireN (k := ?_)
  exact bodyE_ret1 rfl (.pointer A) rfl ⟨rfl, hx.trans' hx3⟩
set_option maxHeartbeats 8000000 in
theorem wDoneN_any (w : World) (A : Option Addr) (h : No w A) : Calls Try.prog 18 #[.pointer A] w (RetV w (.tuple #[.slice none 0 0, .int .i64 1])) := by
  refine calls_of_CW Try.func18 rfl (by simp [Try.ntmps18]) ?_
  rw [Try.ntmps18]
  refine go_WireN (k := ?_)
  rcases h with rfl | ⟨g, rfl, hc⟩
  · rw [show (none : Option Addr).isNone = true from rfl]
    refine go_WireN (k := ?_)
    exact bodyE_ret2 rfl (.slice none 0 0) (.int .i64 1) rfl rfl ⟨rfl, Ext.rfl' w⟩
  · rw [show (some (⟨g, 0, none⟩ : Addr)).isNone = false from rfl]
    refine go_WireN (k := ?_)
    exact bodyE_ret2 rfl (.slice none 0 0) (.int .i64 1) rfl rfl ⟨rfl, Ext.rfl' w⟩
set_option maxHeartbeats 8000000 in
theorem fineN_any (w : World) (A : Option Addr) (h : No w A) : Calls Try.prog 73 #[.pointer A] w (RetV w (.bool false)) := by
  refine calls_of_CW Try.func73 rfl (by simp [Try.ntmps73]) ?_
  rw [Try.ntmps73]
  refine go_WireN (k := ?_)
  rcases h with rfl | ⟨g, rfl, hc⟩
  · rw [show (none : Option Addr).isNone = true from rfl]
    refine go_WireN (k := ?_)
    exact bodyE_ret1 rfl (.bool false) rfl ⟨rfl, Ext.rfl' w⟩
  · rw [show (some (⟨g, 0, none⟩ : Addr)).isNone = false from rfl]
    refine go_WireN (k := ?_)
    exact bodyE_ret1 rfl (.bool false) rfl ⟨rfl, Ext.rfl' w⟩
set_option maxHeartbeats 8000000 in
theorem rErrN_any (w : World) (A : Option Addr) (h : No w A) : Calls Try.prog 27 #[.pointer A] w (RetV w (.int .i64 1)) := by
  refine calls_of_CW Try.func27 rfl (by simp [Try.ntmps27]) ?_
  rw [Try.ntmps27]
  refine go_WireN (k := ?_)
  rcases h with rfl | ⟨g, rfl, hc⟩
  · rw [show (none : Option Addr).isNone = true from rfl]
    refine go_WireN (k := ?_)
    exact bodyE_ret1 rfl (.int .i64 1) rfl ⟨rfl, Ext.rfl' w⟩
  · rw [show (some (⟨g, 0, none⟩ : Addr)).isNone = false from rfl]
    refine go_WireN (k := ?_)
    exact bodyE_ret1 rfl (.int .i64 1) rfl ⟨rfl, Ext.rfl' w⟩
set_option maxHeartbeats 8000000 in
theorem rEndN_any (w : World) (A : Option Addr) (h : No w A) : Calls Try.prog 28 #[.pointer A] w (RetV w (.int .i64 1)) := by
  refine calls_of_CW Try.func28 rfl (by simp [Try.ntmps28]) ?_
  rw [Try.ntmps28]
  refine go_WireN (k := ?_)
  refine OW_callV Try.func27 (by kernel_rfl) rfl (rErrN_any w A h) rfl ?_
  intro w1 hx
  refine go_WireN (k := ?_)
  exact bodyE_ret1 rfl (.int .i64 1) rfl ⟨rfl, hx⟩
set_option maxHeartbeats 8000000 in
theorem rLeftN_any (w : World) (A : Option Addr) (h : No w A) : Calls Try.prog 26 #[.pointer A] w (RetV w (.int .i64 0)) := by
  refine calls_of_CW Try.func26 rfl (by simp [Try.ntmps26]) ?_
  rw [Try.ntmps26]
  refine go_WireN (k := ?_)
  refine OW_callV Try.func73 (by kernel_rfl) rfl (fineN_any w A h) rfl ?_
  intro w1 hx
  refine go_WireN (k := ?_)
  exact bodyE_ret1 rfl (.int .i64 0) rfl ⟨rfl, hx⟩
set_option maxHeartbeats 8000000 in
theorem takeByteN_any (w : World) (A : Option Addr) (h : No w A) (n : Int) (f : Value) : Calls Try.prog 59 #[.pointer A, .int .i64 n, f] w (RetV w (.int .u8 0)) := by
  refine calls_of_CW Try.func59 rfl (by simp [Try.ntmps59]) ?_
  rw [Try.ntmps59]
  refine go_WireN (k := ?_)
  refine OW_callV Try.func73 (by kernel_rfl) rfl (fineN_any w A h) rfl ?_
  intro w1 hx
  refine go_WireN (k := ?_)
  exact bodyE_ret1 rfl (.int .u8 0) rfl ⟨rfl, hx⟩
set_option maxHeartbeats 8000000 in
theorem takeIntN_any (w : World) (A : Option Addr) (h : No w A) (n : Int) (f : Value) : Calls Try.prog 61 #[.pointer A, .int .i64 n, f] w (RetV w (.int .i64 0)) := by
  refine calls_of_CW Try.func61 rfl (by simp [Try.ntmps61]) ?_
  rw [Try.ntmps61]
  refine go_WireN (k := ?_)
  refine OW_callV Try.func73 (by kernel_rfl) rfl (fineN_any w A h) rfl ?_
  intro w1 hx
  refine go_WireN (k := ?_)
  exact bodyE_ret1 rfl (.int .i64 0) rfl ⟨rfl, hx⟩
set_option maxHeartbeats 8000000 in
theorem takeBoolN_any (w : World) (A : Option Addr) (h : No w A) (n : Int) (f : Value) : Calls Try.prog 64 #[.pointer A, .int .i64 n, f] w (RetV w (.bool false)) := by
  refine calls_of_CW Try.func64 rfl (by simp [Try.ntmps64]) ?_
  rw [Try.ntmps64]
  refine go_WireN (k := ?_)
  refine OW_callV Try.func73 (by kernel_rfl) rfl (fineN_any w A h) rfl ?_
  intro w1 hx
  refine go_WireN (k := ?_)
  exact bodyE_ret1 rfl (.bool false) rfl ⟨rfl, hx⟩
set_option maxHeartbeats 8000000 in
theorem takeBytesN_any (w : World) (A : Option Addr) (h : No w A) (n : Int) (f : Value) : Calls Try.prog 68 #[.pointer A, .int .i64 n, f] w (RetV w (.slice none 0 0)) := by
  refine calls_of_CW Try.func68 rfl (by simp [Try.ntmps68]) ?_
  rw [Try.ntmps68]
  refine go_WireN (k := ?_)
  refine OW_callV Try.func73 (by kernel_rfl) rfl (fineN_any w A h) rfl ?_
  intro w1 hx
  refine go_WireN (k := ?_)
  exact bodyE_ret1 rfl (.slice none 0 0) rfl ⟨rfl, hx⟩
set_option maxHeartbeats 8000000 in
theorem takeTagN_any (w : World) (A : Option Addr) (h : No w A) (n : Int) (f : Value) : Calls Try.prog 70 #[.pointer A, .int .i64 n, f] w (RetV w (.agg (tz.map bv).toArray)) := by
  refine calls_of_CW Try.func70 rfl (by simp [Try.ntmps70]) ?_
  rw [Try.ntmps70]
  refine go_WireN (k := ?_)
  refine OW_allocA agg_Tag ?_
  intro w1 g1 hb1 hg1 hlt1 hx1
  refine go_WireN (k := ?_)
  refine OW_allocA agg_Tag ?_
  intro w2 g2 hb2 hg2 hlt2 hx2
  refine go_WireN (k := ?_)
  refine OW_callV Try.func73 (by kernel_rfl) rfl (fineN_any w2 A (h.ext (hx1.trans' hx2))) rfl ?_
  intro w3 hx3
  have hb13 := hb1.ext (hx2.trans' hx3)
  have hb23 := hb2.ext hx3
  refine go_WireN (k := ?_)
  refine OW_loadX agg_Tag rfl (tz.map bv) (by simp [tz]) hb23.atL ?_
  refine go_WireN (k := ?_)
  refine OW_storeA agg_Tag rfl (tz.map bv) rfl (by simp [tz]) hb13 (by simp [tz]) (bv_one' _) ?_
  intro w4 hb4 hg4
  refine go_WireN (k := ?_)
  refine bodyE_retc rfl agg_Tag rfl (tz.map bv) (by simp [tz]) hb4.range ⟨rfl, ?_⟩
  exact (Keeps.of_only (S := (· = g1)) hg4 rfl).ext (hx1.trans' (hx2.trans' hx3)) (fun j hj => by have hj : j = g1 := hj; omega)
set_option maxHeartbeats 8000000 in
theorem rByteN_any (w : World) (A : Option Addr) (h : No w A) : Calls Try.prog 19 #[.pointer A] w (RetV w (.int .u8 0)) := by
  refine calls_of_CW Try.func19 rfl (by simp [Try.ntmps19]) ?_
  rw [Try.ntmps19]
  refine go_WireN (k := ?_)
  refine OW_callV Try.func59 (by kernel_rfl) rfl (takeByteN_any w A h _ _) rfl ?_
  intro w1 hx
  refine go_WireN (k := ?_)
  exact bodyE_ret1 rfl (.int .u8 0) rfl ⟨rfl, hx⟩
set_option maxHeartbeats 8000000 in
theorem rIntN_any (w : World) (A : Option Addr) (h : No w A) : Calls Try.prog 20 #[.pointer A] w (RetV w (.int .i64 0)) := by
  refine calls_of_CW Try.func20 rfl (by simp [Try.ntmps20]) ?_
  rw [Try.ntmps20]
  refine go_WireN (k := ?_)
  refine OW_callV Try.func61 (by kernel_rfl) rfl (takeIntN_any w A h _ _) rfl ?_
  intro w1 hx
  refine go_WireN (k := ?_)
  exact bodyE_ret1 rfl (.int .i64 0) rfl ⟨rfl, hx⟩
set_option maxHeartbeats 8000000 in
theorem rFlagN_any (w : World) (A : Option Addr) (h : No w A) : Calls Try.prog 21 #[.pointer A] w (RetV w (.bool false)) := by
  refine calls_of_CW Try.func21 rfl (by simp [Try.ntmps21]) ?_
  rw [Try.ntmps21]
  refine go_WireN (k := ?_)
  refine OW_callV Try.func64 (by kernel_rfl) rfl (takeBoolN_any w A h _ _) rfl ?_
  intro w1 hx
  refine go_WireN (k := ?_)
  exact bodyE_ret1 rfl (.bool false) rfl ⟨rfl, hx⟩
set_option maxHeartbeats 8000000 in
theorem rBytesN_any (w : World) (A : Option Addr) (h : No w A) : Calls Try.prog 22 #[.pointer A] w (RetV w (.slice none 0 0)) := by
  refine calls_of_CW Try.func22 rfl (by simp [Try.ntmps22]) ?_
  rw [Try.ntmps22]
  refine go_WireN (k := ?_)
  refine OW_callV Try.func61 (by kernel_rfl) rfl (takeIntN_any w A h _ _) rfl ?_
  intro w1 hx1
  refine go_WireN (k := ?_)
  refine OW_callV Try.func68 (by kernel_rfl) rfl (takeBytesN_any w1 A (h.ext hx1) _ _) rfl ?_
  intro w2 hx2
  refine go_WireN (k := ?_)
  exact bodyE_ret1 rfl (.slice none 0 0) rfl ⟨rfl, hx1.trans' hx2⟩
set_option maxHeartbeats 8000000 in
theorem rTextN_any (w : World) (A : Option Addr) (h : No w A) : Calls Try.prog 23 #[.pointer A] w (RetV w (.string ⟨#[]⟩)) := by
  refine calls_of_CW Try.func23 rfl (by simp [Try.ntmps23]) ?_
  rw [Try.ntmps23]
  refine go_WireN (k := ?_)
  refine OW_callV Try.func22 (by kernel_rfl) rfl (rBytesN_any w A h) rfl ?_
  intro w1 hx1
  refine go_WireN (k := ?_)
  refine OW_strOf (l := []) (by with_reducible exact und_bytes) und_u8 und_string (Bs.nil _ _) rfl ?_
  refine go_WireN (k := ?_)
  exact bodyE_ret1 rfl (.string ⟨#[]⟩) rfl ⟨rfl, hx1⟩
set_option maxHeartbeats 8000000 in
theorem rTagN_any (w : World) (A : Option Addr) (h : No w A) : Calls Try.prog 24 #[.pointer A] w (RetV w (.agg (tz.map bv).toArray)) := by
  refine calls_of_CW Try.func24 rfl (by simp [Try.ntmps24]) ?_
  rw [Try.ntmps24]
  refine go_WireN (k := ?_)
  refine OW_allocA agg_Tag ?_
  intro w1 g1 hb1 hg1 hlt1 hx1
  refine go_WireN (k := ?_)
  refine OW_callV Try.func70 (by kernel_rfl) rfl (takeTagN_any w1 A (h.ext hx1) _ _) rfl ?_
  intro w3 hx3
  have hb3 := hb1.ext hx3
  refine go_WireN (k := ?_)
  refine OW_storeA agg_Tag rfl (tz.map bv) rfl (by simp [tz]) hb3 (by simp [tz]) (bv_one' _) ?_
  intro w4 hb4 hg4
  refine go_WireN (k := ?_)
  refine bodyE_retc rfl agg_Tag rfl (tz.map bv) (by simp [tz]) hb4.range ⟨rfl, ?_⟩
  exact (Keeps.of_only (S := (· = g1)) hg4 rfl).ext (hx1.trans' hx3) (fun j hj => by have hj : j = g1 := hj; omega)
set_option maxHeartbeats 8000000 in
theorem rCountN_any (w : World) (A : Option Addr) (h : No w A) (most : Int) : Calls Try.prog 25 #[.pointer A, .int .i64 most] w (RetV w (.int .i64 0)) := by
  refine calls_of_CW Try.func25 rfl (by simp [Try.ntmps25]) ?_
  rw [Try.ntmps25]
  refine go_WireN (k := ?_)
  refine OW_box (.int .i64 most) rfl ?_
  intro w1 g1 hb1 hg1 hlt1 hx1
  refine go_WireN (k := ?_)
  refine OW_callV Try.func26 (by kernel_rfl) rfl (rLeftN_any w1 A (h.ext hx1)) rfl ?_
  intro w2 hx2
  refine go_WireN (k := ?_)
  refine OW_alloc1 (.int .i64 0) zero_int ?_
  intro w3 g3 hb3 hg3 hlt3 hx3
  refine go_WireN (k := ?_)
  refine OW_storeB one_int rfl (.int .i64 (-8)) rfl rfl hb3 (by decide) ?_
  intro w4 hb4 hg4
  have hx34 : Ext w2 w4 := (Keeps.of_only (S := (· = g3)) hg4 rfl).ext hx3 (fun k hk => by subst hk; exact hg3)
  have hx := hx1.trans' (hx2.trans' hx34)
  refine go_WireN (k := ?_)
  refine OW_mkFunc [.pointer (some ⟨g1, 0, none⟩), .pointer (some ⟨g3, 0, none⟩)] rfl ?_
  refine go_WireN (k := ?_)
  refine OW_callV Try.func61 (by kernel_rfl) rfl (takeIntN_any w4 A (h.ext hx) _ _) rfl ?_
  intro w5 hx5
  refine go_WireN (k := ?_)
  exact bodyE_ret1 rfl (.int .i64 0) rfl ⟨rfl, hx.trans' hx5⟩
set_option maxHeartbeats 8000000 in
theorem writeN_any (w : World) (A : Option Addr) (h : No w A) (f : FD) (B : Option Addr) (c : Nat) (hf : FOk w f B c) :
    Calls Try.prog 17 #[.pointer A, .agg (fcells f (.slice B f.B.length c)).toArray] w (RetV w (.tuple #[])) := by
  refine calls_of_CW Try.func17 rfl (by simp [Try.ntmps17]) ?_
  rw [Try.ntmps17]
  refine go_WireN (k := ?_)
  refine OW_box _ rfl ?_
  intro w1 g3 hb hg3 hlt hx
  have hb : Blk w1 g3 26 (fcells f (.slice B f.B.length c)).toArray := hb
  have m0 : w1.cell? ⟨g3, 0, none⟩ = some (.int .i64 f.kind) := hb.cell 0
  have m1 : w1.cell? ⟨g3, 1, none⟩ = some (.int .i64 f.n) := hb.cell 1
  have m2 : w1.cell? ⟨g3, 2, none⟩ = some (.slice B f.B.length c) := hb.cell 2
  have hs := h.ext hx
  refine go_WireN (k := ?_)
  refine CW_cond _ rfl (fun hh => ?_) (fun hh => ?_)
  · clear hh
    refine go_WireN (k := ?_)
    rw [wrap_u8I]
    refine OW_callV Try.func35 (by kernel_rfl) rfl (wByteN_any w1 A hs (byteOf f.n)) rfl ?_
    intro w3 hx3
    refine go_WireN (k := ?_)
    exact bodyE_end (bodyE_ret0 rfl ⟨rfl, hx.trans' hx3⟩)
  clear hh
  refine go_WireN (k := ?_)
  refine CW_cond _ rfl (fun hh => ?_) (fun hh => ?_)
  · clear hh
    refine go_WireN (k := ?_)
    refine OW_callV Try.func31 (by kernel_rfl) rfl (wIntN_any w1 A hs f.n) rfl ?_
    intro w3 hx3
    refine go_WireN (k := ?_)
    exact bodyE_end (bodyE_ret0 rfl ⟨rfl, hx.trans' hx3⟩)
  clear hh
  refine go_WireN (k := ?_)
  refine CW_cond _ rfl (fun hh => ?_) (fun hh => ?_)
  · clear hh
    refine go_WireN (k := ?_)
    rw [show (f.n.tmod 2 != 0) = flagOf f.n from rfl]
    refine OW_callV Try.func36 (by kernel_rfl) rfl (wFlagN_any w1 A hs (flagOf f.n)) rfl ?_
    intro w3 hx3
    refine go_WireN (k := ?_)
    exact bodyE_end (bodyE_ret0 rfl ⟨rfl, hx.trans' hx3⟩)
  clear hh
  refine go_WireN (k := ?_)
  refine CW_cond _ rfl (fun hh => ?_) (fun hh => ?_)
  · clear hh
    refine go_WireN (k := ?_)
    refine OW_callV Try.func37 (by kernel_rfl) rfl (wBytesN_any w1 A hs B f.B.length c) rfl ?_
    intro w3 hx3
    refine go_WireN (k := ?_)
    exact bodyE_end (bodyE_ret0 rfl ⟨rfl, hx.trans' hx3⟩)
  clear hh
  refine go_WireN (k := ?_)
  refine CW_cond _ rfl (fun hh => ?_) (fun hh => ?_)
  · clear hh
    refine go_WireN (k := ?_)
    refine OW_strOf (by with_reducible exact und_bytes) und_u8 und_string (hf.bs.ext hx) rfl ?_
    refine go_WireN (k := ?_)
    refine OW_callV Try.func38 (by kernel_rfl) rfl (wTextN_any w1 A hs ⟨f.B.toArray⟩) rfl ?_
    intro w3 hx3
    refine go_WireN (k := ?_)
    exact bodyE_end (bodyE_ret0 rfl ⟨rfl, hx.trans' hx3⟩)
  clear hh
  refine go_WireN (k := ?_)
  refine CW_cond _ rfl (fun hh => ?_) (fun hh => ?_)
  · clear hh
    refine go_WireN (k := ?_)
    refine OW_loadX agg_Tag rfl (f.T.map bv) (by simp [hf.tag]) (fcells_tag hb) ?_
    refine go_WireN (k := ?_)
    refine OW_callV Try.func39 (by kernel_rfl) rfl (wTagN_any w1 A hs f.T hf.tag) rfl ?_
    intro w3 hx3
    refine go_WireN (k := ?_)
    exact bodyE_end (bodyE_ret0 rfl ⟨rfl, hx.trans' hx3⟩)
  clear hh
  refine go_WireN (k := ?_)
  exact bodyE_end (bodyE_ret0 rfl ⟨rfl, hx⟩)
end Go.Proofs.Ythhphmbhlddihaa
