/- Several texts in one, as they stand in wip/src. -/
import Derived.Test.YtdpomchhbbopbaaGr7
/- Walks: the Reader's Count. -/
namespace Go.Proofs.Ytdpomchhbbopbaa
open Go Go.RowKit
set_option linter.unusedVariables false
set_option maxRecDepth 2000
theorem go_WireR4 {A B : Prop} (h : Held B → A := by
  intro hEnd
  repeat (first | refine OW_moveV (.int _ _) rfl ?_ | refine OW_moveV (.slice _ _ _) rfl ?_ | refine OW_moveV (.bool _) rfl ?_ | refine OW_moveV (.pointer _) rfl ?_ | refine OW_moveV (.string _) rfl ?_ | refine OW_moveV (.agg _) rfl ?_ | refine OW_moveV (.tuple _) rfl ?_ | refine OW_nil ?_ | refine thenE_normal ?_ | refine CW_seq ?_ | refine CW_region (by kernel_rfl) ?_ | refine OW_assignV (.int _ _) rfl ?_ | refine OW_assignV (.slice _ _ _) rfl ?_ | refine OW_assignV (.bool _) rfl ?_ | refine OW_assignV (.pointer _) rfl ?_ | refine OW_assignV (.string _) rfl ?_ | refine OW_assignV (.agg _) rfl ?_ | refine OW_assignV (.tuple _) rfl ?_ | refine OW_addI rfl rfl (by omega) ?_ | refine OW_subI rfl rfl (by omega) ?_ | refine OW_mulI rfl rfl (by omega) ?_ | refine OW_lss rfl rfl ?_ | refine OW_extract rfl rfl ?_ | refine OW_gtr rfl rfl ?_ | refine OW_leq rfl rfl ?_ | refine OW_geq rfl rfl ?_ | refine OW_eql rfl rfl ?_ | refine OW_neq rfl rfl ?_ | refine OW_not rfl ?_ | refine OW_pickT rfl _ rfl ?_ | refine OW_pickF rfl (.bool _) rfl ?_ | refine OW_pickB rfl rfl rfl ?_ | refine OW_move ?_ | refine OW_assign ?_ | refine OW_pass rfl ?_ | refine OW_take rfl ?_ | refine OW_lenS (by first | with_reducible exact und_bytes | with_reducible exact und_bytess) rfl ?_ | refine OW_convInt (by first | with_reducible exact und_u8 | with_reducible exact und_u64 | with_reducible exact und_int | with_reducible exact und_u32) (by first | with_reducible exact und_u8 | with_reducible exact und_u64 | with_reducible exact und_int | with_reducible exact und_u32) rfl ?_ | refine OW_add rfl rfl ?_ | refine OW_sub rfl rfl ?_ | refine OW_mul rfl rfl ?_ | refine OW_min2 rfl rfl ?_ | refine OW_max2 rfl rfl ?_ | refine OW_neg rfl ?_ | refine CW_block ?_ | refine CW_condT rfl ?_ | refine CW_condF rfl ?_ | refine CW_exit ?_ | refine CW_ret ?_ | refine CW_skip ?_ | refine LW_seq ?_ | refine LW_regC ?_ | refine LW_condC ?_ | refine LW_regF ?_ | refine LW_condF ?_ | refine FW_seq ?_ | refine FW_region (by kernel_rfl) ?_ | refine FW_block ?_ | refine FW_condT rfl ?_ | refine FW_condF rfl ?_ | refine FW_exit ?_ | refine FW_ret ?_ | refine FW_skip ?_ | refine LW_ret ?_ | refine LW_skip ?_ | refine thenE_exit ?_ | refine thenE_ret ?_ | refine inBlockE_normal ?_ | refine inBlockE_same ?_ | refine inBlockE_ret ?_ | refine inBlockE_ne (by rfl) ?_ | refine OW_eqlB (by with_reducible exact und_bool) rfl rfl ?_ | refine OW_neqB (by with_reducible exact und_bool) rfl rfl ?_ | refine OW_idxS (by with_reducible exact und_bytes) one_u8 rfl rfl _ rfl (by omega) ?_ | refine OW_idxS (by with_reducible exact und_bytess) one_bytes rfl rfl _ rfl (by omega) ?_ | refine OW_load1 (by first | with_reducible exact one_u8 | with_reducible exact one_bytes) rfl _ (by assumption) ?_ | refine OW_nilCheck rfl ?_)
  exact hEnd.out) (k : B) : A := h ⟨k⟩
theorem one_int : OneT Try.prog 3 := ⟨.int .i64 0, 8, by kernel_rfl, rfl, by kernel_rfl⟩
theorem zero_int : ∀ w, (zeroValue 3).run Try.prog w = .ok (.int .i64 0) w := fun w => by kernel_rfl
def countOk (n most left : Int) : Bool := decide (0 ≤ n) && decide (n ≤ most) && decide (n ≤ left)
set_option maxHeartbeats 8000000 in
theorem cCount_any (w : World) (A : Option Addr) (l : List UInt8) (hb : Bs w A l) (hl : l.length = 8) (g1 g2 : Nat) (most left : Int) (h1 : w.cell? ⟨g1, 0, none⟩ = some (.int .i64 most)) (h2 : w.cell? ⟨g2, 0, none⟩ = some (.int .i64 left)) :
    Calls Try.prog 87 #[.slice A 8 8, .pointer (some ⟨g1, 0, none⟩), .pointer (some ⟨g2, 0, none⟩)] w (RetV w (.tuple #[.int .i64 (i64L l), .bool (countOk (i64L l) most left)])) := by
  have T := load64_any w A l 8 0 hb (by omega) (by omega) (by omega)
  rw [ldV_all l 8 hl, hl] at T
  refine calls_of_CW Try.func87 rfl (by simp [Try.ntmps87]) ?_
  rw [Try.ntmps87]
  refine go_WireR4 (k := ?_)
  refine OW_callV Try.func78 (by kernel_rfl) rfl T rfl ?_
  intro w1 hx
  have h1' := hx.cell' h1
  have h2' := hx.cell' h2
  refine go_WireR4 (k := ?_)
  rw [show IntKind.i64.wrap (loadL l : Int) = i64L l from rfl]
  by_cases c1 : 0 ≤ i64L l
  rotate_left 1
  · skip
    apply CW_any [vF _, vF _, vF (.bool false), vF _, vF _, vF _, vF _, vF (.bool false), vF _, vF _, vF _, vF _, vF (.bool false), vF _, vF _]
    case hm => kernel_rfl
    case hac => kernel_rfl
    case hd => kernel_rfl
    case hnd => kernel_rfl
    case hops =>
      refine ⟨?_, ?_⟩
      · refine Obl_of (fun e1 w1 hk => ?_)
        rw [upd_self (hk.out 8 rfl)]
        (first
       | refine OW_moveV (.int _ _) rfl ?_
       | refine OW_moveV (.slice _ _ _) rfl ?_
       | refine OW_moveV (.bool _) rfl ?_
       | refine OW_moveV (.pointer _) rfl ?_
       | refine OW_moveV (.string _) rfl ?_
       | refine OW_moveV (.agg _) rfl ?_
       | refine OW_moveV (.tuple _) rfl ?_
       | refine OW_nil ?_
       | refine thenE_normal ?_
       | refine CW_seq ?_
       | refine CW_region (by kernel_rfl) ?_
       | refine OW_assignV (.int _ _) rfl ?_
       | refine OW_assignV (.slice _ _ _) rfl ?_
       | refine OW_assignV (.bool _) rfl ?_
       | refine OW_assignV (.pointer _) rfl ?_
       | refine OW_assignV (.string _) rfl ?_
       | refine OW_assignV (.agg _) rfl ?_
       | refine OW_assignV (.tuple _) rfl ?_
       | refine OW_addI rfl rfl (by omega) ?_
       | refine OW_subI rfl rfl (by omega) ?_
       | refine OW_mulI rfl rfl (by omega) ?_
       | refine OW_lss rfl rfl ?_
       | refine OW_extract rfl rfl ?_
       | refine OW_gtr rfl rfl ?_
       | refine OW_leq rfl rfl ?_
       | refine OW_geq rfl rfl ?_
       | refine OW_eql rfl rfl ?_
       | refine OW_neq rfl rfl ?_
       | refine OW_not rfl ?_
       | refine OW_pickT rfl _ rfl ?_
       | refine OW_pickF rfl (.bool _) rfl ?_
       | refine OW_pickB rfl rfl rfl ?_
       | refine OW_move ?_
       | refine OW_assign ?_
       | refine OW_pass rfl ?_
       | refine OW_take rfl ?_
       | refine OW_lenS (by first | with_reducible exact und_bytes | with_reducible exact und_bytess) rfl ?_
       | refine OW_convInt (by first | with_reducible exact und_u8 | with_reducible exact und_u64 | with_reducible exact und_int | with_reducible exact und_u32) (by first | with_reducible exact und_u8 | with_reducible exact und_u64 | with_reducible exact und_int | with_reducible exact und_u32) rfl ?_
       | refine OW_add rfl rfl ?_
       | refine OW_sub rfl rfl ?_
       | refine OW_mul rfl rfl ?_
       | refine OW_min2 rfl rfl ?_
       | refine OW_max2 rfl rfl ?_
       | refine OW_neg rfl ?_
       | refine CW_block ?_
       | refine CW_condT rfl ?_
       | refine CW_condF rfl ?_
       | refine CW_exit ?_
       | refine CW_ret ?_
       | refine CW_skip ?_
       | refine LW_seq ?_
       | refine LW_regC ?_
       | refine LW_condC ?_
       | refine LW_regF ?_
       | refine LW_condF ?_
       | refine FW_seq ?_
       | refine FW_region (by kernel_rfl) ?_
       | refine FW_block ?_
       | refine FW_condT rfl ?_
       | refine FW_condF rfl ?_
       | refine FW_exit ?_
       | refine FW_ret ?_
       | refine FW_skip ?_
       | refine LW_ret ?_
       | refine LW_skip ?_
       | refine thenE_exit ?_
       | refine thenE_ret ?_
       | refine inBlockE_normal ?_
       | refine inBlockE_same ?_
       | refine inBlockE_ret ?_
       | refine inBlockE_ne (by rfl) ?_
       | refine OW_eqlB (by with_reducible exact und_bool) rfl rfl ?_
       | refine OW_neqB (by with_reducible exact und_bool) rfl rfl ?_
       | refine OW_idxS (by with_reducible exact und_bytes) one_u8 rfl rfl _ rfl (by omega) ?_
       | refine OW_idxS (by with_reducible exact und_bytess) one_bytes rfl rfl _ rfl (by omega) ?_
       | refine OW_load1 (by first | with_reducible exact one_u8 | with_reducible exact one_bytes) rfl _ (by assumption) ?_
       | refine OW_load1 (by with_reducible exact one_u8) rfl _ (hk.ext.cell' (by assumption)) ?_)
        refine OW_nil ?_
        exact keepsF_mk _ _ _ _
      refine ⟨?_, ?_⟩
      · refine Obl_of (fun e1 w1 hk => ?_)
        rw [upd_self (hk.out 8 rfl)]
        (first
       | refine OW_moveV (.int _ _) rfl ?_
       | refine OW_moveV (.slice _ _ _) rfl ?_
       | refine OW_moveV (.bool _) rfl ?_
       | refine OW_moveV (.pointer _) rfl ?_
       | refine OW_moveV (.string _) rfl ?_
       | refine OW_moveV (.agg _) rfl ?_
       | refine OW_moveV (.tuple _) rfl ?_
       | refine OW_nil ?_
       | refine thenE_normal ?_
       | refine CW_seq ?_
       | refine CW_region (by kernel_rfl) ?_
       | refine OW_assignV (.int _ _) rfl ?_
       | refine OW_assignV (.slice _ _ _) rfl ?_
       | refine OW_assignV (.bool _) rfl ?_
       | refine OW_assignV (.pointer _) rfl ?_
       | refine OW_assignV (.string _) rfl ?_
       | refine OW_assignV (.agg _) rfl ?_
       | refine OW_assignV (.tuple _) rfl ?_
       | refine OW_addI rfl rfl (by omega) ?_
       | refine OW_subI rfl rfl (by omega) ?_
       | refine OW_mulI rfl rfl (by omega) ?_
       | refine OW_lss rfl rfl ?_
       | refine OW_extract rfl rfl ?_
       | refine OW_gtr rfl rfl ?_
       | refine OW_leq rfl rfl ?_
       | refine OW_geq rfl rfl ?_
       | refine OW_eql rfl rfl ?_
       | refine OW_neq rfl rfl ?_
       | refine OW_not rfl ?_
       | refine OW_pickT rfl _ rfl ?_
       | refine OW_pickF rfl (.bool _) rfl ?_
       | refine OW_pickB rfl rfl rfl ?_
       | refine OW_move ?_
       | refine OW_assign ?_
       | refine OW_pass rfl ?_
       | refine OW_take rfl ?_
       | refine OW_lenS (by first | with_reducible exact und_bytes | with_reducible exact und_bytess) rfl ?_
       | refine OW_convInt (by first | with_reducible exact und_u8 | with_reducible exact und_u64 | with_reducible exact und_int | with_reducible exact und_u32) (by first | with_reducible exact und_u8 | with_reducible exact und_u64 | with_reducible exact und_int | with_reducible exact und_u32) rfl ?_
       | refine OW_add rfl rfl ?_
       | refine OW_sub rfl rfl ?_
       | refine OW_mul rfl rfl ?_
       | refine OW_min2 rfl rfl ?_
       | refine OW_max2 rfl rfl ?_
       | refine OW_neg rfl ?_
       | refine CW_block ?_
       | refine CW_condT rfl ?_
       | refine CW_condF rfl ?_
       | refine CW_exit ?_
       | refine CW_ret ?_
       | refine CW_skip ?_
       | refine LW_seq ?_
       | refine LW_regC ?_
       | refine LW_condC ?_
       | refine LW_regF ?_
       | refine LW_condF ?_
       | refine FW_seq ?_
       | refine FW_region (by kernel_rfl) ?_
       | refine FW_block ?_
       | refine FW_condT rfl ?_
       | refine FW_condF rfl ?_
       | refine FW_exit ?_
       | refine FW_ret ?_
       | refine FW_skip ?_
       | refine LW_ret ?_
       | refine LW_skip ?_
       | refine thenE_exit ?_
       | refine thenE_ret ?_
       | refine inBlockE_normal ?_
       | refine inBlockE_same ?_
       | refine inBlockE_ret ?_
       | refine inBlockE_ne (by rfl) ?_
       | refine OW_eqlB (by with_reducible exact und_bool) rfl rfl ?_
       | refine OW_neqB (by with_reducible exact und_bool) rfl rfl ?_
       | refine OW_idxS (by with_reducible exact und_bytes) one_u8 rfl rfl _ rfl (by omega) ?_
       | refine OW_idxS (by with_reducible exact und_bytess) one_bytes rfl rfl _ rfl (by omega) ?_
       | refine OW_load1 (by first | with_reducible exact one_u8 | with_reducible exact one_bytes) rfl _ (by assumption) ?_
       | refine OW_load1 (by with_reducible exact one_u8) rfl _ (hk.ext.cell' (by assumption)) ?_)
        refine OW_nil ?_
        exact keepsF_mk _ _ _ _
      refine ⟨?_, ?_⟩
      · refine Obl_of (fun e1 w1 hk => ?_)
        rw [upd_self (hk.pre 1 17 rfl rfl : isV _ _ _)]
        refine OW_geq rfl rfl ?_
        rw [decide_eq_false c1]
        refine OW_nil ?_
        exact keepsF_mk _ _ _ _
      refine ⟨?_, ?_⟩
      · refine Obl_of (fun e1 w1 hk => ?_)
        rw [upd_self (hk.pre 2 18 rfl rfl : isV _ _ _)]
        (first
       | refine OW_moveV (.int _ _) rfl ?_
       | refine OW_moveV (.slice _ _ _) rfl ?_
       | refine OW_moveV (.bool _) rfl ?_
       | refine OW_moveV (.pointer _) rfl ?_
       | refine OW_moveV (.string _) rfl ?_
       | refine OW_moveV (.agg _) rfl ?_
       | refine OW_moveV (.tuple _) rfl ?_
       | refine OW_nil ?_
       | refine thenE_normal ?_
       | refine CW_seq ?_
       | refine CW_region (by kernel_rfl) ?_
       | refine OW_assignV (.int _ _) rfl ?_
       | refine OW_assignV (.slice _ _ _) rfl ?_
       | refine OW_assignV (.bool _) rfl ?_
       | refine OW_assignV (.pointer _) rfl ?_
       | refine OW_assignV (.string _) rfl ?_
       | refine OW_assignV (.agg _) rfl ?_
       | refine OW_assignV (.tuple _) rfl ?_
       | refine OW_addI rfl rfl (by omega) ?_
       | refine OW_subI rfl rfl (by omega) ?_
       | refine OW_mulI rfl rfl (by omega) ?_
       | refine OW_lss rfl rfl ?_
       | refine OW_extract rfl rfl ?_
       | refine OW_gtr rfl rfl ?_
       | refine OW_leq rfl rfl ?_
       | refine OW_geq rfl rfl ?_
       | refine OW_eql rfl rfl ?_
       | refine OW_neq rfl rfl ?_
       | refine OW_not rfl ?_
       | refine OW_pickT rfl _ rfl ?_
       | refine OW_pickF rfl (.bool _) rfl ?_
       | refine OW_pickB rfl rfl rfl ?_
       | refine OW_move ?_
       | refine OW_assign ?_
       | refine OW_pass rfl ?_
       | refine OW_take rfl ?_
       | refine OW_lenS (by first | with_reducible exact und_bytes | with_reducible exact und_bytess) rfl ?_
       | refine OW_convInt (by first | with_reducible exact und_u8 | with_reducible exact und_u64 | with_reducible exact und_int | with_reducible exact und_u32) (by first | with_reducible exact und_u8 | with_reducible exact und_u64 | with_reducible exact und_int | with_reducible exact und_u32) rfl ?_
       | refine OW_add rfl rfl ?_
       | refine OW_sub rfl rfl ?_
       | refine OW_mul rfl rfl ?_
       | refine OW_min2 rfl rfl ?_
       | refine OW_max2 rfl rfl ?_
       | refine OW_neg rfl ?_
       | refine CW_block ?_
       | refine CW_condT rfl ?_
       | refine CW_condF rfl ?_
       | refine CW_exit ?_
       | refine CW_ret ?_
       | refine CW_skip ?_
       | refine LW_seq ?_
       | refine LW_regC ?_
       | refine LW_condC ?_
       | refine LW_regF ?_
       | refine LW_condF ?_
       | refine FW_seq ?_
       | refine FW_region (by kernel_rfl) ?_
       | refine FW_block ?_
       | refine FW_condT rfl ?_
       | refine FW_condF rfl ?_
       | refine FW_exit ?_
       | refine FW_ret ?_
       | refine FW_skip ?_
       | refine LW_ret ?_
       | refine LW_skip ?_
       | refine thenE_exit ?_
       | refine thenE_ret ?_
       | refine inBlockE_normal ?_
       | refine inBlockE_same ?_
       | refine inBlockE_ret ?_
       | refine inBlockE_ne (by rfl) ?_
       | refine OW_eqlB (by with_reducible exact und_bool) rfl rfl ?_
       | refine OW_neqB (by with_reducible exact und_bool) rfl rfl ?_
       | refine OW_idxS (by with_reducible exact und_bytes) one_u8 rfl rfl _ rfl (by omega) ?_
       | refine OW_idxS (by with_reducible exact und_bytess) one_bytes rfl rfl _ rfl (by omega) ?_
       | refine OW_load1 (by first | with_reducible exact one_u8 | with_reducible exact one_bytes) rfl _ (by assumption) ?_
       | refine OW_load1 (by with_reducible exact one_u8) rfl _ (hk.ext.cell' (by assumption)) ?_)
        refine OW_nil ?_
        exact keepsF_mk _ _ _ _
      refine ⟨?_, ?_⟩
      · refine Obl_pass (fun e1 w1 hk => ?_) (fun _ => rfl)
        rw [upd_self (hk.pre 3 19 rfl rfl : isV _ _ _)]
        rfl
      refine ⟨?_, ?_⟩
      · refine Obl_pass (fun e1 w1 hk => ?_) (fun _ => rfl)
        rw [upd_self (hk.pre 3 19 rfl rfl : isV _ _ _)]
        rfl
      refine ⟨?_, ?_⟩
      · refine Obl_pass (fun e1 w1 hk => ?_) (fun _ => rfl)
        rw [upd_self (hk.pre 3 19 rfl rfl : isV _ _ _)]
        rfl
      refine ⟨?_, ?_⟩
      · refine Obl_of (fun e1 w1 hk => ?_)
        rw [upd_self (hk.pre 3 19 rfl rfl : isV _ _ _), upd_self (hk.pre 6 22 rfl rfl : isV _ _ _)]
        refine OW_pickF rfl (.bool false) rfl ?_
        refine OW_nil ?_
        exact keepsF_mk _ _ _ _
      refine ⟨?_, ?_⟩
      · refine Obl_of (fun e1 w1 hk => ?_)
        rw [upd_self (hk.pre 7 23 rfl rfl : isV _ _ _)]
        (first
       | refine OW_moveV (.int _ _) rfl ?_
       | refine OW_moveV (.slice _ _ _) rfl ?_
       | refine OW_moveV (.bool _) rfl ?_
       | refine OW_moveV (.pointer _) rfl ?_
       | refine OW_moveV (.string _) rfl ?_
       | refine OW_moveV (.agg _) rfl ?_
       | refine OW_moveV (.tuple _) rfl ?_
       | refine OW_nil ?_
       | refine thenE_normal ?_
       | refine CW_seq ?_
       | refine CW_region (by kernel_rfl) ?_
       | refine OW_assignV (.int _ _) rfl ?_
       | refine OW_assignV (.slice _ _ _) rfl ?_
       | refine OW_assignV (.bool _) rfl ?_
       | refine OW_assignV (.pointer _) rfl ?_
       | refine OW_assignV (.string _) rfl ?_
       | refine OW_assignV (.agg _) rfl ?_
       | refine OW_assignV (.tuple _) rfl ?_
       | refine OW_addI rfl rfl (by omega) ?_
       | refine OW_subI rfl rfl (by omega) ?_
       | refine OW_mulI rfl rfl (by omega) ?_
       | refine OW_lss rfl rfl ?_
       | refine OW_extract rfl rfl ?_
       | refine OW_gtr rfl rfl ?_
       | refine OW_leq rfl rfl ?_
       | refine OW_geq rfl rfl ?_
       | refine OW_eql rfl rfl ?_
       | refine OW_neq rfl rfl ?_
       | refine OW_not rfl ?_
       | refine OW_pickT rfl _ rfl ?_
       | refine OW_pickF rfl (.bool _) rfl ?_
       | refine OW_pickB rfl rfl rfl ?_
       | refine OW_move ?_
       | refine OW_assign ?_
       | refine OW_pass rfl ?_
       | refine OW_take rfl ?_
       | refine OW_lenS (by first | with_reducible exact und_bytes | with_reducible exact und_bytess) rfl ?_
       | refine OW_convInt (by first | with_reducible exact und_u8 | with_reducible exact und_u64 | with_reducible exact und_int | with_reducible exact und_u32) (by first | with_reducible exact und_u8 | with_reducible exact und_u64 | with_reducible exact und_int | with_reducible exact und_u32) rfl ?_
       | refine OW_add rfl rfl ?_
       | refine OW_sub rfl rfl ?_
       | refine OW_mul rfl rfl ?_
       | refine OW_min2 rfl rfl ?_
       | refine OW_max2 rfl rfl ?_
       | refine OW_neg rfl ?_
       | refine CW_block ?_
       | refine CW_condT rfl ?_
       | refine CW_condF rfl ?_
       | refine CW_exit ?_
       | refine CW_ret ?_
       | refine CW_skip ?_
       | refine LW_seq ?_
       | refine LW_regC ?_
       | refine LW_condC ?_
       | refine LW_regF ?_
       | refine LW_condF ?_
       | refine FW_seq ?_
       | refine FW_region (by kernel_rfl) ?_
       | refine FW_block ?_
       | refine FW_condT rfl ?_
       | refine FW_condF rfl ?_
       | refine FW_exit ?_
       | refine FW_ret ?_
       | refine FW_skip ?_
       | refine LW_ret ?_
       | refine LW_skip ?_
       | refine thenE_exit ?_
       | refine thenE_ret ?_
       | refine inBlockE_normal ?_
       | refine inBlockE_same ?_
       | refine inBlockE_ret ?_
       | refine inBlockE_ne (by rfl) ?_
       | refine OW_eqlB (by with_reducible exact und_bool) rfl rfl ?_
       | refine OW_neqB (by with_reducible exact und_bool) rfl rfl ?_
       | refine OW_idxS (by with_reducible exact und_bytes) one_u8 rfl rfl _ rfl (by omega) ?_
       | refine OW_idxS (by with_reducible exact und_bytess) one_bytes rfl rfl _ rfl (by omega) ?_
       | refine OW_load1 (by first | with_reducible exact one_u8 | with_reducible exact one_bytes) rfl _ (by assumption) ?_
       | refine OW_load1 (by with_reducible exact one_u8) rfl _ (hk.ext.cell' (by assumption)) ?_)
        refine OW_nil ?_
        exact keepsF_mk _ _ _ _
      refine ⟨?_, ?_⟩
      · refine Obl_pass (fun e1 w1 hk => ?_) (fun _ => rfl)
        rw [upd_self (hk.pre 8 24 rfl rfl : isV _ _ _)]
        rfl
      refine ⟨?_, ?_⟩
      · refine Obl_pass (fun e1 w1 hk => ?_) (fun _ => rfl)
        rw [upd_self (hk.pre 8 24 rfl rfl : isV _ _ _)]
        rfl
      refine ⟨?_, ?_⟩
      · refine Obl_pass (fun e1 w1 hk => ?_) (fun _ => rfl)
        rw [upd_self (hk.pre 8 24 rfl rfl : isV _ _ _)]
        rfl
      refine ⟨?_, ?_⟩
      · refine Obl_of (fun e1 w1 hk => ?_)
        rw [upd_self (hk.pre 8 24 rfl rfl : isV _ _ _), upd_self (hk.pre 11 27 rfl rfl : isV _ _ _)]
        refine OW_pickF rfl (.bool false) rfl ?_
        refine OW_nil ?_
        exact keepsF_mk _ _ _ _
      refine ⟨?_, ?_⟩
      · refine Obl_of (fun e1 w1 hk => ?_)
        rw [upd_self (hk.pre 0 16 rfl rfl : isV _ _ _)]
        (first
       | refine OW_moveV (.int _ _) rfl ?_
       | refine OW_moveV (.slice _ _ _) rfl ?_
       | refine OW_moveV (.bool _) rfl ?_
       | refine OW_moveV (.pointer _) rfl ?_
       | refine OW_moveV (.string _) rfl ?_
       | refine OW_moveV (.agg _) rfl ?_
       | refine OW_moveV (.tuple _) rfl ?_
       | refine OW_nil ?_
       | refine thenE_normal ?_
       | refine CW_seq ?_
       | refine CW_region (by kernel_rfl) ?_
       | refine OW_assignV (.int _ _) rfl ?_
       | refine OW_assignV (.slice _ _ _) rfl ?_
       | refine OW_assignV (.bool _) rfl ?_
       | refine OW_assignV (.pointer _) rfl ?_
       | refine OW_assignV (.string _) rfl ?_
       | refine OW_assignV (.agg _) rfl ?_
       | refine OW_assignV (.tuple _) rfl ?_
       | refine OW_addI rfl rfl (by omega) ?_
       | refine OW_subI rfl rfl (by omega) ?_
       | refine OW_mulI rfl rfl (by omega) ?_
       | refine OW_lss rfl rfl ?_
       | refine OW_extract rfl rfl ?_
       | refine OW_gtr rfl rfl ?_
       | refine OW_leq rfl rfl ?_
       | refine OW_geq rfl rfl ?_
       | refine OW_eql rfl rfl ?_
       | refine OW_neq rfl rfl ?_
       | refine OW_not rfl ?_
       | refine OW_pickT rfl _ rfl ?_
       | refine OW_pickF rfl (.bool _) rfl ?_
       | refine OW_pickB rfl rfl rfl ?_
       | refine OW_move ?_
       | refine OW_assign ?_
       | refine OW_pass rfl ?_
       | refine OW_take rfl ?_
       | refine OW_lenS (by first | with_reducible exact und_bytes | with_reducible exact und_bytess) rfl ?_
       | refine OW_convInt (by first | with_reducible exact und_u8 | with_reducible exact und_u64 | with_reducible exact und_int | with_reducible exact und_u32) (by first | with_reducible exact und_u8 | with_reducible exact und_u64 | with_reducible exact und_int | with_reducible exact und_u32) rfl ?_
       | refine OW_add rfl rfl ?_
       | refine OW_sub rfl rfl ?_
       | refine OW_mul rfl rfl ?_
       | refine OW_min2 rfl rfl ?_
       | refine OW_max2 rfl rfl ?_
       | refine OW_neg rfl ?_
       | refine CW_block ?_
       | refine CW_condT rfl ?_
       | refine CW_condF rfl ?_
       | refine CW_exit ?_
       | refine CW_ret ?_
       | refine CW_skip ?_
       | refine LW_seq ?_
       | refine LW_regC ?_
       | refine LW_condC ?_
       | refine LW_regF ?_
       | refine LW_condF ?_
       | refine FW_seq ?_
       | refine FW_region (by kernel_rfl) ?_
       | refine FW_block ?_
       | refine FW_condT rfl ?_
       | refine FW_condF rfl ?_
       | refine FW_exit ?_
       | refine FW_ret ?_
       | refine FW_skip ?_
       | refine LW_ret ?_
       | refine LW_skip ?_
       | refine thenE_exit ?_
       | refine thenE_ret ?_
       | refine inBlockE_normal ?_
       | refine inBlockE_same ?_
       | refine inBlockE_ret ?_
       | refine inBlockE_ne (by rfl) ?_
       | refine OW_eqlB (by with_reducible exact und_bool) rfl rfl ?_
       | refine OW_neqB (by with_reducible exact und_bool) rfl rfl ?_
       | refine OW_idxS (by with_reducible exact und_bytes) one_u8 rfl rfl _ rfl (by omega) ?_
       | refine OW_idxS (by with_reducible exact und_bytess) one_bytes rfl rfl _ rfl (by omega) ?_
       | refine OW_load1 (by first | with_reducible exact one_u8 | with_reducible exact one_bytes) rfl _ (by assumption) ?_
       | refine OW_load1 (by with_reducible exact one_u8) rfl _ (hk.ext.cell' (by assumption)) ?_)
        refine OW_nil ?_
        exact keepsF_mk _ _ _ _
      refine ⟨?_, ?_⟩
      · refine Obl_of (fun e1 w1 hk => ?_)
        rw [upd_self (hk.pre 12 28 rfl rfl : isV _ _ _)]
        (first
       | refine OW_moveV (.int _ _) rfl ?_
       | refine OW_moveV (.slice _ _ _) rfl ?_
       | refine OW_moveV (.bool _) rfl ?_
       | refine OW_moveV (.pointer _) rfl ?_
       | refine OW_moveV (.string _) rfl ?_
       | refine OW_moveV (.agg _) rfl ?_
       | refine OW_moveV (.tuple _) rfl ?_
       | refine OW_nil ?_
       | refine thenE_normal ?_
       | refine CW_seq ?_
       | refine CW_region (by kernel_rfl) ?_
       | refine OW_assignV (.int _ _) rfl ?_
       | refine OW_assignV (.slice _ _ _) rfl ?_
       | refine OW_assignV (.bool _) rfl ?_
       | refine OW_assignV (.pointer _) rfl ?_
       | refine OW_assignV (.string _) rfl ?_
       | refine OW_assignV (.agg _) rfl ?_
       | refine OW_assignV (.tuple _) rfl ?_
       | refine OW_addI rfl rfl (by omega) ?_
       | refine OW_subI rfl rfl (by omega) ?_
       | refine OW_mulI rfl rfl (by omega) ?_
       | refine OW_lss rfl rfl ?_
       | refine OW_extract rfl rfl ?_
       | refine OW_gtr rfl rfl ?_
       | refine OW_leq rfl rfl ?_
       | refine OW_geq rfl rfl ?_
       | refine OW_eql rfl rfl ?_
       | refine OW_neq rfl rfl ?_
       | refine OW_not rfl ?_
       | refine OW_pickT rfl _ rfl ?_
       | refine OW_pickF rfl (.bool _) rfl ?_
       | refine OW_pickB rfl rfl rfl ?_
       | refine OW_move ?_
       | refine OW_assign ?_
       | refine OW_pass rfl ?_
       | refine OW_take rfl ?_
       | refine OW_lenS (by first | with_reducible exact und_bytes | with_reducible exact und_bytess) rfl ?_
       | refine OW_convInt (by first | with_reducible exact und_u8 | with_reducible exact und_u64 | with_reducible exact und_int | with_reducible exact und_u32) (by first | with_reducible exact und_u8 | with_reducible exact und_u64 | with_reducible exact und_int | with_reducible exact und_u32) rfl ?_
       | refine OW_add rfl rfl ?_
       | refine OW_sub rfl rfl ?_
       | refine OW_mul rfl rfl ?_
       | refine OW_min2 rfl rfl ?_
       | refine OW_max2 rfl rfl ?_
       | refine OW_neg rfl ?_
       | refine CW_block ?_
       | refine CW_condT rfl ?_
       | refine CW_condF rfl ?_
       | refine CW_exit ?_
       | refine CW_ret ?_
       | refine CW_skip ?_
       | refine LW_seq ?_
       | refine LW_regC ?_
       | refine LW_condC ?_
       | refine LW_regF ?_
       | refine LW_condF ?_
       | refine FW_seq ?_
       | refine FW_region (by kernel_rfl) ?_
       | refine FW_block ?_
       | refine FW_condT rfl ?_
       | refine FW_condF rfl ?_
       | refine FW_exit ?_
       | refine FW_ret ?_
       | refine FW_skip ?_
       | refine LW_ret ?_
       | refine LW_skip ?_
       | refine thenE_exit ?_
       | refine thenE_ret ?_
       | refine inBlockE_normal ?_
       | refine inBlockE_same ?_
       | refine inBlockE_ret ?_
       | refine inBlockE_ne (by rfl) ?_
       | refine OW_eqlB (by with_reducible exact und_bool) rfl rfl ?_
       | refine OW_neqB (by with_reducible exact und_bool) rfl rfl ?_
       | refine OW_idxS (by with_reducible exact und_bytes) one_u8 rfl rfl _ rfl (by omega) ?_
       | refine OW_idxS (by with_reducible exact und_bytess) one_bytes rfl rfl _ rfl (by omega) ?_
       | refine OW_load1 (by first | with_reducible exact one_u8 | with_reducible exact one_bytes) rfl _ (by assumption) ?_
       | refine OW_load1 (by with_reducible exact one_u8) rfl _ (hk.ext.cell' (by assumption)) ?_)
        refine OW_nil ?_
        exact keepsF_mk _ _ _ _
      trivial
    case h =>
      intro e1 w1 hw1 hout hall
      rw [upd_self (hall 13 4 rfl : isV _ _ _), upd_self (hall 14 5 rfl : isV _ _ _)]
      refine go_WireR4 (k := ?_)
      exact bodyE_ret2 rfl _ _ rfl rfl ⟨by unfold countOk; rw [decide_eq_false c1]; rfl, hx.trans' hw1⟩
  by_cases c2 : i64L l ≤ most
  rotate_left 1
  · skip
    apply CW_any [vF _, vF _, vF (.bool true), vF _, vF _, vF (.int .i64 most), vF (.bool false), vF (.bool false), vF _, vF _, vF _, vF _, vF (.bool false), vF _, vF _]
    case hm => kernel_rfl
    case hac => kernel_rfl
    case hd => kernel_rfl
    case hnd => kernel_rfl
    case hops =>
      refine ⟨?_, ?_⟩
      · refine Obl_of (fun e1 w1 hk => ?_)
        rw [upd_self (hk.out 8 rfl)]
        (first
       | refine OW_moveV (.int _ _) rfl ?_
       | refine OW_moveV (.slice _ _ _) rfl ?_
       | refine OW_moveV (.bool _) rfl ?_
       | refine OW_moveV (.pointer _) rfl ?_
       | refine OW_moveV (.string _) rfl ?_
       | refine OW_moveV (.agg _) rfl ?_
       | refine OW_moveV (.tuple _) rfl ?_
       | refine OW_nil ?_
       | refine thenE_normal ?_
       | refine CW_seq ?_
       | refine CW_region (by kernel_rfl) ?_
       | refine OW_assignV (.int _ _) rfl ?_
       | refine OW_assignV (.slice _ _ _) rfl ?_
       | refine OW_assignV (.bool _) rfl ?_
       | refine OW_assignV (.pointer _) rfl ?_
       | refine OW_assignV (.string _) rfl ?_
       | refine OW_assignV (.agg _) rfl ?_
       | refine OW_assignV (.tuple _) rfl ?_
       | refine OW_addI rfl rfl (by omega) ?_
       | refine OW_subI rfl rfl (by omega) ?_
       | refine OW_mulI rfl rfl (by omega) ?_
       | refine OW_lss rfl rfl ?_
       | refine OW_extract rfl rfl ?_
       | refine OW_gtr rfl rfl ?_
       | refine OW_leq rfl rfl ?_
       | refine OW_geq rfl rfl ?_
       | refine OW_eql rfl rfl ?_
       | refine OW_neq rfl rfl ?_
       | refine OW_not rfl ?_
       | refine OW_pickT rfl _ rfl ?_
       | refine OW_pickF rfl (.bool _) rfl ?_
       | refine OW_pickB rfl rfl rfl ?_
       | refine OW_move ?_
       | refine OW_assign ?_
       | refine OW_pass rfl ?_
       | refine OW_take rfl ?_
       | refine OW_lenS (by first | with_reducible exact und_bytes | with_reducible exact und_bytess) rfl ?_
       | refine OW_convInt (by first | with_reducible exact und_u8 | with_reducible exact und_u64 | with_reducible exact und_int | with_reducible exact und_u32) (by first | with_reducible exact und_u8 | with_reducible exact und_u64 | with_reducible exact und_int | with_reducible exact und_u32) rfl ?_
       | refine OW_add rfl rfl ?_
       | refine OW_sub rfl rfl ?_
       | refine OW_mul rfl rfl ?_
       | refine OW_min2 rfl rfl ?_
       | refine OW_max2 rfl rfl ?_
       | refine OW_neg rfl ?_
       | refine CW_block ?_
       | refine CW_condT rfl ?_
       | refine CW_condF rfl ?_
       | refine CW_exit ?_
       | refine CW_ret ?_
       | refine CW_skip ?_
       | refine LW_seq ?_
       | refine LW_regC ?_
       | refine LW_condC ?_
       | refine LW_regF ?_
       | refine LW_condF ?_
       | refine FW_seq ?_
       | refine FW_region (by kernel_rfl) ?_
       | refine FW_block ?_
       | refine FW_condT rfl ?_
       | refine FW_condF rfl ?_
       | refine FW_exit ?_
       | refine FW_ret ?_
       | refine FW_skip ?_
       | refine LW_ret ?_
       | refine LW_skip ?_
       | refine thenE_exit ?_
       | refine thenE_ret ?_
       | refine inBlockE_normal ?_
       | refine inBlockE_same ?_
       | refine inBlockE_ret ?_
       | refine inBlockE_ne (by rfl) ?_
       | refine OW_eqlB (by with_reducible exact und_bool) rfl rfl ?_
       | refine OW_neqB (by with_reducible exact und_bool) rfl rfl ?_
       | refine OW_idxS (by with_reducible exact und_bytes) one_u8 rfl rfl _ rfl (by omega) ?_
       | refine OW_idxS (by with_reducible exact und_bytess) one_bytes rfl rfl _ rfl (by omega) ?_
       | refine OW_load1 (by first | with_reducible exact one_u8 | with_reducible exact one_bytes) rfl _ (by assumption) ?_
       | refine OW_load1 (by with_reducible exact one_u8) rfl _ (hk.ext.cell' (by assumption)) ?_)
        refine OW_nil ?_
        exact keepsF_mk _ _ _ _
      refine ⟨?_, ?_⟩
      · refine Obl_of (fun e1 w1 hk => ?_)
        rw [upd_self (hk.out 8 rfl)]
        (first
       | refine OW_moveV (.int _ _) rfl ?_
       | refine OW_moveV (.slice _ _ _) rfl ?_
       | refine OW_moveV (.bool _) rfl ?_
       | refine OW_moveV (.pointer _) rfl ?_
       | refine OW_moveV (.string _) rfl ?_
       | refine OW_moveV (.agg _) rfl ?_
       | refine OW_moveV (.tuple _) rfl ?_
       | refine OW_nil ?_
       | refine thenE_normal ?_
       | refine CW_seq ?_
       | refine CW_region (by kernel_rfl) ?_
       | refine OW_assignV (.int _ _) rfl ?_
       | refine OW_assignV (.slice _ _ _) rfl ?_
       | refine OW_assignV (.bool _) rfl ?_
       | refine OW_assignV (.pointer _) rfl ?_
       | refine OW_assignV (.string _) rfl ?_
       | refine OW_assignV (.agg _) rfl ?_
       | refine OW_assignV (.tuple _) rfl ?_
       | refine OW_addI rfl rfl (by omega) ?_
       | refine OW_subI rfl rfl (by omega) ?_
       | refine OW_mulI rfl rfl (by omega) ?_
       | refine OW_lss rfl rfl ?_
       | refine OW_extract rfl rfl ?_
       | refine OW_gtr rfl rfl ?_
       | refine OW_leq rfl rfl ?_
       | refine OW_geq rfl rfl ?_
       | refine OW_eql rfl rfl ?_
       | refine OW_neq rfl rfl ?_
       | refine OW_not rfl ?_
       | refine OW_pickT rfl _ rfl ?_
       | refine OW_pickF rfl (.bool _) rfl ?_
       | refine OW_pickB rfl rfl rfl ?_
       | refine OW_move ?_
       | refine OW_assign ?_
       | refine OW_pass rfl ?_
       | refine OW_take rfl ?_
       | refine OW_lenS (by first | with_reducible exact und_bytes | with_reducible exact und_bytess) rfl ?_
       | refine OW_convInt (by first | with_reducible exact und_u8 | with_reducible exact und_u64 | with_reducible exact und_int | with_reducible exact und_u32) (by first | with_reducible exact und_u8 | with_reducible exact und_u64 | with_reducible exact und_int | with_reducible exact und_u32) rfl ?_
       | refine OW_add rfl rfl ?_
       | refine OW_sub rfl rfl ?_
       | refine OW_mul rfl rfl ?_
       | refine OW_min2 rfl rfl ?_
       | refine OW_max2 rfl rfl ?_
       | refine OW_neg rfl ?_
       | refine CW_block ?_
       | refine CW_condT rfl ?_
       | refine CW_condF rfl ?_
       | refine CW_exit ?_
       | refine CW_ret ?_
       | refine CW_skip ?_
       | refine LW_seq ?_
       | refine LW_regC ?_
       | refine LW_condC ?_
       | refine LW_regF ?_
       | refine LW_condF ?_
       | refine FW_seq ?_
       | refine FW_region (by kernel_rfl) ?_
       | refine FW_block ?_
       | refine FW_condT rfl ?_
       | refine FW_condF rfl ?_
       | refine FW_exit ?_
       | refine FW_ret ?_
       | refine FW_skip ?_
       | refine LW_ret ?_
       | refine LW_skip ?_
       | refine thenE_exit ?_
       | refine thenE_ret ?_
       | refine inBlockE_normal ?_
       | refine inBlockE_same ?_
       | refine inBlockE_ret ?_
       | refine inBlockE_ne (by rfl) ?_
       | refine OW_eqlB (by with_reducible exact und_bool) rfl rfl ?_
       | refine OW_neqB (by with_reducible exact und_bool) rfl rfl ?_
       | refine OW_idxS (by with_reducible exact und_bytes) one_u8 rfl rfl _ rfl (by omega) ?_
       | refine OW_idxS (by with_reducible exact und_bytess) one_bytes rfl rfl _ rfl (by omega) ?_
       | refine OW_load1 (by first | with_reducible exact one_u8 | with_reducible exact one_bytes) rfl _ (by assumption) ?_
       | refine OW_load1 (by with_reducible exact one_u8) rfl _ (hk.ext.cell' (by assumption)) ?_)
        refine OW_nil ?_
        exact keepsF_mk _ _ _ _
      refine ⟨?_, ?_⟩
      · refine Obl_of (fun e1 w1 hk => ?_)
        rw [upd_self (hk.pre 1 17 rfl rfl : isV _ _ _)]
        refine OW_geq rfl rfl ?_
        rw [decide_eq_true c1]
        refine OW_nil ?_
        exact keepsF_mk _ _ _ _
      refine ⟨?_, ?_⟩
      · refine Obl_of (fun e1 w1 hk => ?_)
        rw [upd_self (hk.pre 2 18 rfl rfl : isV _ _ _)]
        (first
       | refine OW_moveV (.int _ _) rfl ?_
       | refine OW_moveV (.slice _ _ _) rfl ?_
       | refine OW_moveV (.bool _) rfl ?_
       | refine OW_moveV (.pointer _) rfl ?_
       | refine OW_moveV (.string _) rfl ?_
       | refine OW_moveV (.agg _) rfl ?_
       | refine OW_moveV (.tuple _) rfl ?_
       | refine OW_nil ?_
       | refine thenE_normal ?_
       | refine CW_seq ?_
       | refine CW_region (by kernel_rfl) ?_
       | refine OW_assignV (.int _ _) rfl ?_
       | refine OW_assignV (.slice _ _ _) rfl ?_
       | refine OW_assignV (.bool _) rfl ?_
       | refine OW_assignV (.pointer _) rfl ?_
       | refine OW_assignV (.string _) rfl ?_
       | refine OW_assignV (.agg _) rfl ?_
       | refine OW_assignV (.tuple _) rfl ?_
       | refine OW_addI rfl rfl (by omega) ?_
       | refine OW_subI rfl rfl (by omega) ?_
       | refine OW_mulI rfl rfl (by omega) ?_
       | refine OW_lss rfl rfl ?_
       | refine OW_extract rfl rfl ?_
       | refine OW_gtr rfl rfl ?_
       | refine OW_leq rfl rfl ?_
       | refine OW_geq rfl rfl ?_
       | refine OW_eql rfl rfl ?_
       | refine OW_neq rfl rfl ?_
       | refine OW_not rfl ?_
       | refine OW_pickT rfl _ rfl ?_
       | refine OW_pickF rfl (.bool _) rfl ?_
       | refine OW_pickB rfl rfl rfl ?_
       | refine OW_move ?_
       | refine OW_assign ?_
       | refine OW_pass rfl ?_
       | refine OW_take rfl ?_
       | refine OW_lenS (by first | with_reducible exact und_bytes | with_reducible exact und_bytess) rfl ?_
       | refine OW_convInt (by first | with_reducible exact und_u8 | with_reducible exact und_u64 | with_reducible exact und_int | with_reducible exact und_u32) (by first | with_reducible exact und_u8 | with_reducible exact und_u64 | with_reducible exact und_int | with_reducible exact und_u32) rfl ?_
       | refine OW_add rfl rfl ?_
       | refine OW_sub rfl rfl ?_
       | refine OW_mul rfl rfl ?_
       | refine OW_min2 rfl rfl ?_
       | refine OW_max2 rfl rfl ?_
       | refine OW_neg rfl ?_
       | refine CW_block ?_
       | refine CW_condT rfl ?_
       | refine CW_condF rfl ?_
       | refine CW_exit ?_
       | refine CW_ret ?_
       | refine CW_skip ?_
       | refine LW_seq ?_
       | refine LW_regC ?_
       | refine LW_condC ?_
       | refine LW_regF ?_
       | refine LW_condF ?_
       | refine FW_seq ?_
       | refine FW_region (by kernel_rfl) ?_
       | refine FW_block ?_
       | refine FW_condT rfl ?_
       | refine FW_condF rfl ?_
       | refine FW_exit ?_
       | refine FW_ret ?_
       | refine FW_skip ?_
       | refine LW_ret ?_
       | refine LW_skip ?_
       | refine thenE_exit ?_
       | refine thenE_ret ?_
       | refine inBlockE_normal ?_
       | refine inBlockE_same ?_
       | refine inBlockE_ret ?_
       | refine inBlockE_ne (by rfl) ?_
       | refine OW_eqlB (by with_reducible exact und_bool) rfl rfl ?_
       | refine OW_neqB (by with_reducible exact und_bool) rfl rfl ?_
       | refine OW_idxS (by with_reducible exact und_bytes) one_u8 rfl rfl _ rfl (by omega) ?_
       | refine OW_idxS (by with_reducible exact und_bytess) one_bytes rfl rfl _ rfl (by omega) ?_
       | refine OW_load1 (by first | with_reducible exact one_u8 | with_reducible exact one_bytes) rfl _ (by assumption) ?_
       | refine OW_load1 (by with_reducible exact one_u8) rfl _ (hk.ext.cell' (by assumption)) ?_)
        refine OW_nil ?_
        exact keepsF_mk _ _ _ _
      refine ⟨?_, ?_⟩
      · refine Obl_take (fun e1 w1 hk => ?_) (fun e1 w1 hk => ?_)
        · rw [upd_self (hk.pre 3 19 rfl rfl : isV _ _ _)]
          rfl
        · rw [upd_self (hk.out 8 rfl)]
          (first
         | refine OW_moveV (.int _ _) rfl ?_
         | refine OW_moveV (.slice _ _ _) rfl ?_
         | refine OW_moveV (.bool _) rfl ?_
         | refine OW_moveV (.pointer _) rfl ?_
         | refine OW_moveV (.string _) rfl ?_
         | refine OW_moveV (.agg _) rfl ?_
         | refine OW_moveV (.tuple _) rfl ?_
         | refine OW_nil ?_
         | refine thenE_normal ?_
         | refine CW_seq ?_
         | refine CW_region (by kernel_rfl) ?_
         | refine OW_assignV (.int _ _) rfl ?_
         | refine OW_assignV (.slice _ _ _) rfl ?_
         | refine OW_assignV (.bool _) rfl ?_
         | refine OW_assignV (.pointer _) rfl ?_
         | refine OW_assignV (.string _) rfl ?_
         | refine OW_assignV (.agg _) rfl ?_
         | refine OW_assignV (.tuple _) rfl ?_
         | refine OW_addI rfl rfl (by omega) ?_
         | refine OW_subI rfl rfl (by omega) ?_
         | refine OW_mulI rfl rfl (by omega) ?_
         | refine OW_lss rfl rfl ?_
         | refine OW_extract rfl rfl ?_
         | refine OW_gtr rfl rfl ?_
         | refine OW_leq rfl rfl ?_
         | refine OW_geq rfl rfl ?_
         | refine OW_eql rfl rfl ?_
         | refine OW_neq rfl rfl ?_
         | refine OW_not rfl ?_
         | refine OW_pickT rfl _ rfl ?_
         | refine OW_pickF rfl (.bool _) rfl ?_
         | refine OW_pickB rfl rfl rfl ?_
         | refine OW_move ?_
         | refine OW_assign ?_
         | refine OW_pass rfl ?_
         | refine OW_take rfl ?_
         | refine OW_lenS (by first | with_reducible exact und_bytes | with_reducible exact und_bytess) rfl ?_
         | refine OW_convInt (by first | with_reducible exact und_u8 | with_reducible exact und_u64 | with_reducible exact und_int | with_reducible exact und_u32) (by first | with_reducible exact und_u8 | with_reducible exact und_u64 | with_reducible exact und_int | with_reducible exact und_u32) rfl ?_
         | refine OW_add rfl rfl ?_
         | refine OW_sub rfl rfl ?_
         | refine OW_mul rfl rfl ?_
         | refine OW_min2 rfl rfl ?_
         | refine OW_max2 rfl rfl ?_
         | refine OW_neg rfl ?_
         | refine CW_block ?_
         | refine CW_condT rfl ?_
         | refine CW_condF rfl ?_
         | refine CW_exit ?_
         | refine CW_ret ?_
         | refine CW_skip ?_
         | refine LW_seq ?_
         | refine LW_regC ?_
         | refine LW_condC ?_
         | refine LW_regF ?_
         | refine LW_condF ?_
         | refine FW_seq ?_
         | refine FW_region (by kernel_rfl) ?_
         | refine FW_block ?_
         | refine FW_condT rfl ?_
         | refine FW_condF rfl ?_
         | refine FW_exit ?_
         | refine FW_ret ?_
         | refine FW_skip ?_
         | refine LW_ret ?_
         | refine LW_skip ?_
         | refine thenE_exit ?_
         | refine thenE_ret ?_
         | refine inBlockE_normal ?_
         | refine inBlockE_same ?_
         | refine inBlockE_ret ?_
         | refine inBlockE_ne (by rfl) ?_
         | refine OW_eqlB (by with_reducible exact und_bool) rfl rfl ?_
         | refine OW_neqB (by with_reducible exact und_bool) rfl rfl ?_
         | refine OW_idxS (by with_reducible exact und_bytes) one_u8 rfl rfl _ rfl (by omega) ?_
         | refine OW_idxS (by with_reducible exact und_bytess) one_bytes rfl rfl _ rfl (by omega) ?_
         | refine OW_load1 (by first | with_reducible exact one_u8 | with_reducible exact one_bytes) rfl _ (by assumption) ?_
         | refine OW_load1 (by with_reducible exact one_u8) rfl _ (hk.ext.cell' (by assumption)) ?_)
          refine OW_nil ?_
          exact keepsF_mk _ _ _ _
      refine ⟨?_, ?_⟩
      · refine Obl_take (fun e1 w1 hk => ?_) (fun e1 w1 hk => ?_)
        · rw [upd_self (hk.pre 3 19 rfl rfl : isV _ _ _)]
          rfl
        · rw [upd_self (hk.out 1 rfl)]
          refine OW_load1 one_int rfl _ (hk.ext.cell' h1') ?_
          refine OW_nil ?_
          exact keepsF_mk _ _ _ _
      refine ⟨?_, ?_⟩
      · refine Obl_take (fun e1 w1 hk => ?_) (fun e1 w1 hk => ?_)
        · rw [upd_self (hk.pre 3 19 rfl rfl : isV _ _ _)]
          rfl
        · rw [upd_self (hk.pre 4 20 rfl rfl : isV _ _ _), upd_self (hk.pre 5 21 rfl rfl : isV _ _ _)]
          refine OW_leq rfl rfl ?_
          rw [decide_eq_false c2]
          refine OW_nil ?_
          exact keepsF_mk _ _ _ _
      refine ⟨?_, ?_⟩
      · refine Obl_of (fun e1 w1 hk => ?_)
        rw [upd_self (hk.pre 3 19 rfl rfl : isV _ _ _), upd_self (hk.pre 6 22 rfl rfl : isV _ _ _)]
        refine OW_pickT rfl (.bool false) rfl ?_
        refine OW_nil ?_
        exact keepsF_mk _ _ _ _
      refine ⟨?_, ?_⟩
      · refine Obl_of (fun e1 w1 hk => ?_)
        rw [upd_self (hk.pre 7 23 rfl rfl : isV _ _ _)]
        (first
       | refine OW_moveV (.int _ _) rfl ?_
       | refine OW_moveV (.slice _ _ _) rfl ?_
       | refine OW_moveV (.bool _) rfl ?_
       | refine OW_moveV (.pointer _) rfl ?_
       | refine OW_moveV (.string _) rfl ?_
       | refine OW_moveV (.agg _) rfl ?_
       | refine OW_moveV (.tuple _) rfl ?_
       | refine OW_nil ?_
       | refine thenE_normal ?_
       | refine CW_seq ?_
       | refine CW_region (by kernel_rfl) ?_
       | refine OW_assignV (.int _ _) rfl ?_
       | refine OW_assignV (.slice _ _ _) rfl ?_
       | refine OW_assignV (.bool _) rfl ?_
       | refine OW_assignV (.pointer _) rfl ?_
       | refine OW_assignV (.string _) rfl ?_
       | refine OW_assignV (.agg _) rfl ?_
       | refine OW_assignV (.tuple _) rfl ?_
       | refine OW_addI rfl rfl (by omega) ?_
       | refine OW_subI rfl rfl (by omega) ?_
       | refine OW_mulI rfl rfl (by omega) ?_
       | refine OW_lss rfl rfl ?_
       | refine OW_extract rfl rfl ?_
       | refine OW_gtr rfl rfl ?_
       | refine OW_leq rfl rfl ?_
       | refine OW_geq rfl rfl ?_
       | refine OW_eql rfl rfl ?_
       | refine OW_neq rfl rfl ?_
       | refine OW_not rfl ?_
       | refine OW_pickT rfl _ rfl ?_
       | refine OW_pickF rfl (.bool _) rfl ?_
       | refine OW_pickB rfl rfl rfl ?_
       | refine OW_move ?_
       | refine OW_assign ?_
       | refine OW_pass rfl ?_
       | refine OW_take rfl ?_
       | refine OW_lenS (by first | with_reducible exact und_bytes | with_reducible exact und_bytess) rfl ?_
       | refine OW_convInt (by first | with_reducible exact und_u8 | with_reducible exact und_u64 | with_reducible exact und_int | with_reducible exact und_u32) (by first | with_reducible exact und_u8 | with_reducible exact und_u64 | with_reducible exact und_int | with_reducible exact und_u32) rfl ?_
       | refine OW_add rfl rfl ?_
       | refine OW_sub rfl rfl ?_
       | refine OW_mul rfl rfl ?_
       | refine OW_min2 rfl rfl ?_
       | refine OW_max2 rfl rfl ?_
       | refine OW_neg rfl ?_
       | refine CW_block ?_
       | refine CW_condT rfl ?_
       | refine CW_condF rfl ?_
       | refine CW_exit ?_
       | refine CW_ret ?_
       | refine CW_skip ?_
       | refine LW_seq ?_
       | refine LW_regC ?_
       | refine LW_condC ?_
       | refine LW_regF ?_
       | refine LW_condF ?_
       | refine FW_seq ?_
       | refine FW_region (by kernel_rfl) ?_
       | refine FW_block ?_
       | refine FW_condT rfl ?_
       | refine FW_condF rfl ?_
       | refine FW_exit ?_
       | refine FW_ret ?_
       | refine FW_skip ?_
       | refine LW_ret ?_
       | refine LW_skip ?_
       | refine thenE_exit ?_
       | refine thenE_ret ?_
       | refine inBlockE_normal ?_
       | refine inBlockE_same ?_
       | refine inBlockE_ret ?_
       | refine inBlockE_ne (by rfl) ?_
       | refine OW_eqlB (by with_reducible exact und_bool) rfl rfl ?_
       | refine OW_neqB (by with_reducible exact und_bool) rfl rfl ?_
       | refine OW_idxS (by with_reducible exact und_bytes) one_u8 rfl rfl _ rfl (by omega) ?_
       | refine OW_idxS (by with_reducible exact und_bytess) one_bytes rfl rfl _ rfl (by omega) ?_
       | refine OW_load1 (by first | with_reducible exact one_u8 | with_reducible exact one_bytes) rfl _ (by assumption) ?_
       | refine OW_load1 (by with_reducible exact one_u8) rfl _ (hk.ext.cell' (by assumption)) ?_)
        refine OW_nil ?_
        exact keepsF_mk _ _ _ _
      refine ⟨?_, ?_⟩
      · refine Obl_pass (fun e1 w1 hk => ?_) (fun _ => rfl)
        rw [upd_self (hk.pre 8 24 rfl rfl : isV _ _ _)]
        rfl
      refine ⟨?_, ?_⟩
      · refine Obl_pass (fun e1 w1 hk => ?_) (fun _ => rfl)
        rw [upd_self (hk.pre 8 24 rfl rfl : isV _ _ _)]
        rfl
      refine ⟨?_, ?_⟩
      · refine Obl_pass (fun e1 w1 hk => ?_) (fun _ => rfl)
        rw [upd_self (hk.pre 8 24 rfl rfl : isV _ _ _)]
        rfl
      refine ⟨?_, ?_⟩
      · refine Obl_of (fun e1 w1 hk => ?_)
        rw [upd_self (hk.pre 8 24 rfl rfl : isV _ _ _), upd_self (hk.pre 11 27 rfl rfl : isV _ _ _)]
        refine OW_pickF rfl (.bool false) rfl ?_
        refine OW_nil ?_
        exact keepsF_mk _ _ _ _
      refine ⟨?_, ?_⟩
      · refine Obl_of (fun e1 w1 hk => ?_)
        rw [upd_self (hk.pre 0 16 rfl rfl : isV _ _ _)]
        (first
       | refine OW_moveV (.int _ _) rfl ?_
       | refine OW_moveV (.slice _ _ _) rfl ?_
       | refine OW_moveV (.bool _) rfl ?_
       | refine OW_moveV (.pointer _) rfl ?_
       | refine OW_moveV (.string _) rfl ?_
       | refine OW_moveV (.agg _) rfl ?_
       | refine OW_moveV (.tuple _) rfl ?_
       | refine OW_nil ?_
       | refine thenE_normal ?_
       | refine CW_seq ?_
       | refine CW_region (by kernel_rfl) ?_
       | refine OW_assignV (.int _ _) rfl ?_
       | refine OW_assignV (.slice _ _ _) rfl ?_
       | refine OW_assignV (.bool _) rfl ?_
       | refine OW_assignV (.pointer _) rfl ?_
       | refine OW_assignV (.string _) rfl ?_
       | refine OW_assignV (.agg _) rfl ?_
       | refine OW_assignV (.tuple _) rfl ?_
       | refine OW_addI rfl rfl (by omega) ?_
       | refine OW_subI rfl rfl (by omega) ?_
       | refine OW_mulI rfl rfl (by omega) ?_
       | refine OW_lss rfl rfl ?_
       | refine OW_extract rfl rfl ?_
       | refine OW_gtr rfl rfl ?_
       | refine OW_leq rfl rfl ?_
       | refine OW_geq rfl rfl ?_
       | refine OW_eql rfl rfl ?_
       | refine OW_neq rfl rfl ?_
       | refine OW_not rfl ?_
       | refine OW_pickT rfl _ rfl ?_
       | refine OW_pickF rfl (.bool _) rfl ?_
       | refine OW_pickB rfl rfl rfl ?_
       | refine OW_move ?_
       | refine OW_assign ?_
       | refine OW_pass rfl ?_
       | refine OW_take rfl ?_
       | refine OW_lenS (by first | with_reducible exact und_bytes | with_reducible exact und_bytess) rfl ?_
       | refine OW_convInt (by first | with_reducible exact und_u8 | with_reducible exact und_u64 | with_reducible exact und_int | with_reducible exact und_u32) (by first | with_reducible exact und_u8 | with_reducible exact und_u64 | with_reducible exact und_int | with_reducible exact und_u32) rfl ?_
       | refine OW_add rfl rfl ?_
       | refine OW_sub rfl rfl ?_
       | refine OW_mul rfl rfl ?_
       | refine OW_min2 rfl rfl ?_
       | refine OW_max2 rfl rfl ?_
       | refine OW_neg rfl ?_
       | refine CW_block ?_
       | refine CW_condT rfl ?_
       | refine CW_condF rfl ?_
       | refine CW_exit ?_
       | refine CW_ret ?_
       | refine CW_skip ?_
       | refine LW_seq ?_
       | refine LW_regC ?_
       | refine LW_condC ?_
       | refine LW_regF ?_
       | refine LW_condF ?_
       | refine FW_seq ?_
       | refine FW_region (by kernel_rfl) ?_
       | refine FW_block ?_
       | refine FW_condT rfl ?_
       | refine FW_condF rfl ?_
       | refine FW_exit ?_
       | refine FW_ret ?_
       | refine FW_skip ?_
       | refine LW_ret ?_
       | refine LW_skip ?_
       | refine thenE_exit ?_
       | refine thenE_ret ?_
       | refine inBlockE_normal ?_
       | refine inBlockE_same ?_
       | refine inBlockE_ret ?_
       | refine inBlockE_ne (by rfl) ?_
       | refine OW_eqlB (by with_reducible exact und_bool) rfl rfl ?_
       | refine OW_neqB (by with_reducible exact und_bool) rfl rfl ?_
       | refine OW_idxS (by with_reducible exact und_bytes) one_u8 rfl rfl _ rfl (by omega) ?_
       | refine OW_idxS (by with_reducible exact und_bytess) one_bytes rfl rfl _ rfl (by omega) ?_
       | refine OW_load1 (by first | with_reducible exact one_u8 | with_reducible exact one_bytes) rfl _ (by assumption) ?_
       | refine OW_load1 (by with_reducible exact one_u8) rfl _ (hk.ext.cell' (by assumption)) ?_)
        refine OW_nil ?_
        exact keepsF_mk _ _ _ _
      refine ⟨?_, ?_⟩
      · refine Obl_of (fun e1 w1 hk => ?_)
        rw [upd_self (hk.pre 12 28 rfl rfl : isV _ _ _)]
        (first
       | refine OW_moveV (.int _ _) rfl ?_
       | refine OW_moveV (.slice _ _ _) rfl ?_
       | refine OW_moveV (.bool _) rfl ?_
       | refine OW_moveV (.pointer _) rfl ?_
       | refine OW_moveV (.string _) rfl ?_
       | refine OW_moveV (.agg _) rfl ?_
       | refine OW_moveV (.tuple _) rfl ?_
       | refine OW_nil ?_
       | refine thenE_normal ?_
       | refine CW_seq ?_
       | refine CW_region (by kernel_rfl) ?_
       | refine OW_assignV (.int _ _) rfl ?_
       | refine OW_assignV (.slice _ _ _) rfl ?_
       | refine OW_assignV (.bool _) rfl ?_
       | refine OW_assignV (.pointer _) rfl ?_
       | refine OW_assignV (.string _) rfl ?_
       | refine OW_assignV (.agg _) rfl ?_
       | refine OW_assignV (.tuple _) rfl ?_
       | refine OW_addI rfl rfl (by omega) ?_
       | refine OW_subI rfl rfl (by omega) ?_
       | refine OW_mulI rfl rfl (by omega) ?_
       | refine OW_lss rfl rfl ?_
       | refine OW_extract rfl rfl ?_
       | refine OW_gtr rfl rfl ?_
       | refine OW_leq rfl rfl ?_
       | refine OW_geq rfl rfl ?_
       | refine OW_eql rfl rfl ?_
       | refine OW_neq rfl rfl ?_
       | refine OW_not rfl ?_
       | refine OW_pickT rfl _ rfl ?_
       | refine OW_pickF rfl (.bool _) rfl ?_
       | refine OW_pickB rfl rfl rfl ?_
       | refine OW_move ?_
       | refine OW_assign ?_
       | refine OW_pass rfl ?_
       | refine OW_take rfl ?_
       | refine OW_lenS (by first | with_reducible exact und_bytes | with_reducible exact und_bytess) rfl ?_
       | refine OW_convInt (by first | with_reducible exact und_u8 | with_reducible exact und_u64 | with_reducible exact und_int | with_reducible exact und_u32) (by first | with_reducible exact und_u8 | with_reducible exact und_u64 | with_reducible exact und_int | with_reducible exact und_u32) rfl ?_
       | refine OW_add rfl rfl ?_
       | refine OW_sub rfl rfl ?_
       | refine OW_mul rfl rfl ?_
       | refine OW_min2 rfl rfl ?_
       | refine OW_max2 rfl rfl ?_
       | refine OW_neg rfl ?_
       | refine CW_block ?_
       | refine CW_condT rfl ?_
       | refine CW_condF rfl ?_
       | refine CW_exit ?_
       | refine CW_ret ?_
       | refine CW_skip ?_
       | refine LW_seq ?_
       | refine LW_regC ?_
       | refine LW_condC ?_
       | refine LW_regF ?_
       | refine LW_condF ?_
       | refine FW_seq ?_
       | refine FW_region (by kernel_rfl) ?_
       | refine FW_block ?_
       | refine FW_condT rfl ?_
       | refine FW_condF rfl ?_
       | refine FW_exit ?_
       | refine FW_ret ?_
       | refine FW_skip ?_
       | refine LW_ret ?_
       | refine LW_skip ?_
       | refine thenE_exit ?_
       | refine thenE_ret ?_
       | refine inBlockE_normal ?_
       | refine inBlockE_same ?_
       | refine inBlockE_ret ?_
       | refine inBlockE_ne (by rfl) ?_
       | refine OW_eqlB (by with_reducible exact und_bool) rfl rfl ?_
       | refine OW_neqB (by with_reducible exact und_bool) rfl rfl ?_
       | refine OW_idxS (by with_reducible exact und_bytes) one_u8 rfl rfl _ rfl (by omega) ?_
       | refine OW_idxS (by with_reducible exact und_bytess) one_bytes rfl rfl _ rfl (by omega) ?_
       | refine OW_load1 (by first | with_reducible exact one_u8 | with_reducible exact one_bytes) rfl _ (by assumption) ?_
       | refine OW_load1 (by with_reducible exact one_u8) rfl _ (hk.ext.cell' (by assumption)) ?_)
        refine OW_nil ?_
        exact keepsF_mk _ _ _ _
      trivial
    case h =>
      intro e1 w1 hw1 hout hall
      rw [upd_self (hall 13 4 rfl : isV _ _ _), upd_self (hall 14 5 rfl : isV _ _ _)]
      refine go_WireR4 (k := ?_)
      exact bodyE_ret2 rfl _ _ rfl rfl ⟨by unfold countOk; rw [decide_eq_true c1, decide_eq_false c2]; rfl, hx.trans' hw1⟩
  by_cases c3 : i64L l ≤ left
  rotate_left 1
  · skip
    apply CW_any [vF _, vF _, vF (.bool true), vF _, vF _, vF (.int .i64 most), vF (.bool true), vF (.bool true), vF _, vF _, vF (.int .i64 left), vF (.bool false), vF (.bool false), vF _, vF _]
    case hm => kernel_rfl
    case hac => kernel_rfl
    case hd => kernel_rfl
    case hnd => kernel_rfl
    case hops =>
      refine ⟨?_, ?_⟩
      · refine Obl_of (fun e1 w1 hk => ?_)
        rw [upd_self (hk.out 8 rfl)]
        (first
       | refine OW_moveV (.int _ _) rfl ?_
       | refine OW_moveV (.slice _ _ _) rfl ?_
       | refine OW_moveV (.bool _) rfl ?_
       | refine OW_moveV (.pointer _) rfl ?_
       | refine OW_moveV (.string _) rfl ?_
       | refine OW_moveV (.agg _) rfl ?_
       | refine OW_moveV (.tuple _) rfl ?_
       | refine OW_nil ?_
       | refine thenE_normal ?_
       | refine CW_seq ?_
       | refine CW_region (by kernel_rfl) ?_
       | refine OW_assignV (.int _ _) rfl ?_
       | refine OW_assignV (.slice _ _ _) rfl ?_
       | refine OW_assignV (.bool _) rfl ?_
       | refine OW_assignV (.pointer _) rfl ?_
       | refine OW_assignV (.string _) rfl ?_
       | refine OW_assignV (.agg _) rfl ?_
       | refine OW_assignV (.tuple _) rfl ?_
       | refine OW_addI rfl rfl (by omega) ?_
       | refine OW_subI rfl rfl (by omega) ?_
       | refine OW_mulI rfl rfl (by omega) ?_
       | refine OW_lss rfl rfl ?_
       | refine OW_extract rfl rfl ?_
       | refine OW_gtr rfl rfl ?_
       | refine OW_leq rfl rfl ?_
       | refine OW_geq rfl rfl ?_
       | refine OW_eql rfl rfl ?_
       | refine OW_neq rfl rfl ?_
       | refine OW_not rfl ?_
       | refine OW_pickT rfl _ rfl ?_
       | refine OW_pickF rfl (.bool _) rfl ?_
       | refine OW_pickB rfl rfl rfl ?_
       | refine OW_move ?_
       | refine OW_assign ?_
       | refine OW_pass rfl ?_
       | refine OW_take rfl ?_
       | refine OW_lenS (by first | with_reducible exact und_bytes | with_reducible exact und_bytess) rfl ?_
       | refine OW_convInt (by first | with_reducible exact und_u8 | with_reducible exact und_u64 | with_reducible exact und_int | with_reducible exact und_u32) (by first | with_reducible exact und_u8 | with_reducible exact und_u64 | with_reducible exact und_int | with_reducible exact und_u32) rfl ?_
       | refine OW_add rfl rfl ?_
       | refine OW_sub rfl rfl ?_
       | refine OW_mul rfl rfl ?_
       | refine OW_min2 rfl rfl ?_
       | refine OW_max2 rfl rfl ?_
       | refine OW_neg rfl ?_
       | refine CW_block ?_
       | refine CW_condT rfl ?_
       | refine CW_condF rfl ?_
       | refine CW_exit ?_
       | refine CW_ret ?_
       | refine CW_skip ?_
       | refine LW_seq ?_
       | refine LW_regC ?_
       | refine LW_condC ?_
       | refine LW_regF ?_
       | refine LW_condF ?_
       | refine FW_seq ?_
       | refine FW_region (by kernel_rfl) ?_
       | refine FW_block ?_
       | refine FW_condT rfl ?_
       | refine FW_condF rfl ?_
       | refine FW_exit ?_
       | refine FW_ret ?_
       | refine FW_skip ?_
       | refine LW_ret ?_
       | refine LW_skip ?_
       | refine thenE_exit ?_
       | refine thenE_ret ?_
       | refine inBlockE_normal ?_
       | refine inBlockE_same ?_
       | refine inBlockE_ret ?_
       | refine inBlockE_ne (by rfl) ?_
       | refine OW_eqlB (by with_reducible exact und_bool) rfl rfl ?_
       | refine OW_neqB (by with_reducible exact und_bool) rfl rfl ?_
       | refine OW_idxS (by with_reducible exact und_bytes) one_u8 rfl rfl _ rfl (by omega) ?_
       | refine OW_idxS (by with_reducible exact und_bytess) one_bytes rfl rfl _ rfl (by omega) ?_
       | refine OW_load1 (by first | with_reducible exact one_u8 | with_reducible exact one_bytes) rfl _ (by assumption) ?_
       | refine OW_load1 (by with_reducible exact one_u8) rfl _ (hk.ext.cell' (by assumption)) ?_)
        refine OW_nil ?_
        exact keepsF_mk _ _ _ _
      refine ⟨?_, ?_⟩
      · refine Obl_of (fun e1 w1 hk => ?_)
        rw [upd_self (hk.out 8 rfl)]
        (first
       | refine OW_moveV (.int _ _) rfl ?_
       | refine OW_moveV (.slice _ _ _) rfl ?_
       | refine OW_moveV (.bool _) rfl ?_
       | refine OW_moveV (.pointer _) rfl ?_
       | refine OW_moveV (.string _) rfl ?_
       | refine OW_moveV (.agg _) rfl ?_
       | refine OW_moveV (.tuple _) rfl ?_
       | refine OW_nil ?_
       | refine thenE_normal ?_
       | refine CW_seq ?_
       | refine CW_region (by kernel_rfl) ?_
       | refine OW_assignV (.int _ _) rfl ?_
       | refine OW_assignV (.slice _ _ _) rfl ?_
       | refine OW_assignV (.bool _) rfl ?_
       | refine OW_assignV (.pointer _) rfl ?_
       | refine OW_assignV (.string _) rfl ?_
       | refine OW_assignV (.agg _) rfl ?_
       | refine OW_assignV (.tuple _) rfl ?_
       | refine OW_addI rfl rfl (by omega) ?_
       | refine OW_subI rfl rfl (by omega) ?_
       | refine OW_mulI rfl rfl (by omega) ?_
       | refine OW_lss rfl rfl ?_
       | refine OW_extract rfl rfl ?_
       | refine OW_gtr rfl rfl ?_
       | refine OW_leq rfl rfl ?_
       | refine OW_geq rfl rfl ?_
       | refine OW_eql rfl rfl ?_
       | refine OW_neq rfl rfl ?_
       | refine OW_not rfl ?_
       | refine OW_pickT rfl _ rfl ?_
       | refine OW_pickF rfl (.bool _) rfl ?_
       | refine OW_pickB rfl rfl rfl ?_
       | refine OW_move ?_
       | refine OW_assign ?_
       | refine OW_pass rfl ?_
       | refine OW_take rfl ?_
       | refine OW_lenS (by first | with_reducible exact und_bytes | with_reducible exact und_bytess) rfl ?_
       | refine OW_convInt (by first | with_reducible exact und_u8 | with_reducible exact und_u64 | with_reducible exact und_int | with_reducible exact und_u32) (by first | with_reducible exact und_u8 | with_reducible exact und_u64 | with_reducible exact und_int | with_reducible exact und_u32) rfl ?_
       | refine OW_add rfl rfl ?_
       | refine OW_sub rfl rfl ?_
       | refine OW_mul rfl rfl ?_
       | refine OW_min2 rfl rfl ?_
       | refine OW_max2 rfl rfl ?_
       | refine OW_neg rfl ?_
       | refine CW_block ?_
       | refine CW_condT rfl ?_
       | refine CW_condF rfl ?_
       | refine CW_exit ?_
       | refine CW_ret ?_
       | refine CW_skip ?_
       | refine LW_seq ?_
       | refine LW_regC ?_
       | refine LW_condC ?_
       | refine LW_regF ?_
       | refine LW_condF ?_
       | refine FW_seq ?_
       | refine FW_region (by kernel_rfl) ?_
       | refine FW_block ?_
       | refine FW_condT rfl ?_
       | refine FW_condF rfl ?_
       | refine FW_exit ?_
       | refine FW_ret ?_
       | refine FW_skip ?_
       | refine LW_ret ?_
       | refine LW_skip ?_
       | refine thenE_exit ?_
       | refine thenE_ret ?_
       | refine inBlockE_normal ?_
       | refine inBlockE_same ?_
       | refine inBlockE_ret ?_
       | refine inBlockE_ne (by rfl) ?_
       | refine OW_eqlB (by with_reducible exact und_bool) rfl rfl ?_
       | refine OW_neqB (by with_reducible exact und_bool) rfl rfl ?_
       | refine OW_idxS (by with_reducible exact und_bytes) one_u8 rfl rfl _ rfl (by omega) ?_
       | refine OW_idxS (by with_reducible exact und_bytess) one_bytes rfl rfl _ rfl (by omega) ?_
       | refine OW_load1 (by first | with_reducible exact one_u8 | with_reducible exact one_bytes) rfl _ (by assumption) ?_
       | refine OW_load1 (by with_reducible exact one_u8) rfl _ (hk.ext.cell' (by assumption)) ?_)
        refine OW_nil ?_
        exact keepsF_mk _ _ _ _
      refine ⟨?_, ?_⟩
      · refine Obl_of (fun e1 w1 hk => ?_)
        rw [upd_self (hk.pre 1 17 rfl rfl : isV _ _ _)]
        refine OW_geq rfl rfl ?_
        rw [decide_eq_true c1]
        refine OW_nil ?_
        exact keepsF_mk _ _ _ _
      refine ⟨?_, ?_⟩
      · refine Obl_of (fun e1 w1 hk => ?_)
        rw [upd_self (hk.pre 2 18 rfl rfl : isV _ _ _)]
        (first
       | refine OW_moveV (.int _ _) rfl ?_
       | refine OW_moveV (.slice _ _ _) rfl ?_
       | refine OW_moveV (.bool _) rfl ?_
       | refine OW_moveV (.pointer _) rfl ?_
       | refine OW_moveV (.string _) rfl ?_
       | refine OW_moveV (.agg _) rfl ?_
       | refine OW_moveV (.tuple _) rfl ?_
       | refine OW_nil ?_
       | refine thenE_normal ?_
       | refine CW_seq ?_
       | refine CW_region (by kernel_rfl) ?_
       | refine OW_assignV (.int _ _) rfl ?_
       | refine OW_assignV (.slice _ _ _) rfl ?_
       | refine OW_assignV (.bool _) rfl ?_
       | refine OW_assignV (.pointer _) rfl ?_
       | refine OW_assignV (.string _) rfl ?_
       | refine OW_assignV (.agg _) rfl ?_
       | refine OW_assignV (.tuple _) rfl ?_
       | refine OW_addI rfl rfl (by omega) ?_
       | refine OW_subI rfl rfl (by omega) ?_
       | refine OW_mulI rfl rfl (by omega) ?_
       | refine OW_lss rfl rfl ?_
       | refine OW_extract rfl rfl ?_
       | refine OW_gtr rfl rfl ?_
       | refine OW_leq rfl rfl ?_
       | refine OW_geq rfl rfl ?_
       | refine OW_eql rfl rfl ?_
       | refine OW_neq rfl rfl ?_
       | refine OW_not rfl ?_
       | refine OW_pickT rfl _ rfl ?_
       | refine OW_pickF rfl (.bool _) rfl ?_
       | refine OW_pickB rfl rfl rfl ?_
       | refine OW_move ?_
       | refine OW_assign ?_
       | refine OW_pass rfl ?_
       | refine OW_take rfl ?_
       | refine OW_lenS (by first | with_reducible exact und_bytes | with_reducible exact und_bytess) rfl ?_
       | refine OW_convInt (by first | with_reducible exact und_u8 | with_reducible exact und_u64 | with_reducible exact und_int | with_reducible exact und_u32) (by first | with_reducible exact und_u8 | with_reducible exact und_u64 | with_reducible exact und_int | with_reducible exact und_u32) rfl ?_
       | refine OW_add rfl rfl ?_
       | refine OW_sub rfl rfl ?_
       | refine OW_mul rfl rfl ?_
       | refine OW_min2 rfl rfl ?_
       | refine OW_max2 rfl rfl ?_
       | refine OW_neg rfl ?_
       | refine CW_block ?_
       | refine CW_condT rfl ?_
       | refine CW_condF rfl ?_
       | refine CW_exit ?_
       | refine CW_ret ?_
       | refine CW_skip ?_
       | refine LW_seq ?_
       | refine LW_regC ?_
       | refine LW_condC ?_
       | refine LW_regF ?_
       | refine LW_condF ?_
       | refine FW_seq ?_
       | refine FW_region (by kernel_rfl) ?_
       | refine FW_block ?_
       | refine FW_condT rfl ?_
       | refine FW_condF rfl ?_
       | refine FW_exit ?_
       | refine FW_ret ?_
       | refine FW_skip ?_
       | refine LW_ret ?_
       | refine LW_skip ?_
       | refine thenE_exit ?_
       | refine thenE_ret ?_
       | refine inBlockE_normal ?_
       | refine inBlockE_same ?_
       | refine inBlockE_ret ?_
       | refine inBlockE_ne (by rfl) ?_
       | refine OW_eqlB (by with_reducible exact und_bool) rfl rfl ?_
       | refine OW_neqB (by with_reducible exact und_bool) rfl rfl ?_
       | refine OW_idxS (by with_reducible exact und_bytes) one_u8 rfl rfl _ rfl (by omega) ?_
       | refine OW_idxS (by with_reducible exact und_bytess) one_bytes rfl rfl _ rfl (by omega) ?_
       | refine OW_load1 (by first | with_reducible exact one_u8 | with_reducible exact one_bytes) rfl _ (by assumption) ?_
       | refine OW_load1 (by with_reducible exact one_u8) rfl _ (hk.ext.cell' (by assumption)) ?_)
        refine OW_nil ?_
        exact keepsF_mk _ _ _ _
      refine ⟨?_, ?_⟩
      · refine Obl_take (fun e1 w1 hk => ?_) (fun e1 w1 hk => ?_)
        · rw [upd_self (hk.pre 3 19 rfl rfl : isV _ _ _)]
          rfl
        · rw [upd_self (hk.out 8 rfl)]
          (first
         | refine OW_moveV (.int _ _) rfl ?_
         | refine OW_moveV (.slice _ _ _) rfl ?_
         | refine OW_moveV (.bool _) rfl ?_
         | refine OW_moveV (.pointer _) rfl ?_
         | refine OW_moveV (.string _) rfl ?_
         | refine OW_moveV (.agg _) rfl ?_
         | refine OW_moveV (.tuple _) rfl ?_
         | refine OW_nil ?_
         | refine thenE_normal ?_
         | refine CW_seq ?_
         | refine CW_region (by kernel_rfl) ?_
         | refine OW_assignV (.int _ _) rfl ?_
         | refine OW_assignV (.slice _ _ _) rfl ?_
         | refine OW_assignV (.bool _) rfl ?_
         | refine OW_assignV (.pointer _) rfl ?_
         | refine OW_assignV (.string _) rfl ?_
         | refine OW_assignV (.agg _) rfl ?_
         | refine OW_assignV (.tuple _) rfl ?_
         | refine OW_addI rfl rfl (by omega) ?_
         | refine OW_subI rfl rfl (by omega) ?_
         | refine OW_mulI rfl rfl (by omega) ?_
         | refine OW_lss rfl rfl ?_
         | refine OW_extract rfl rfl ?_
         | refine OW_gtr rfl rfl ?_
         | refine OW_leq rfl rfl ?_
         | refine OW_geq rfl rfl ?_
         | refine OW_eql rfl rfl ?_
         | refine OW_neq rfl rfl ?_
         | refine OW_not rfl ?_
         | refine OW_pickT rfl _ rfl ?_
         | refine OW_pickF rfl (.bool _) rfl ?_
         | refine OW_pickB rfl rfl rfl ?_
         | refine OW_move ?_
         | refine OW_assign ?_
         | refine OW_pass rfl ?_
         | refine OW_take rfl ?_
         | refine OW_lenS (by first | with_reducible exact und_bytes | with_reducible exact und_bytess) rfl ?_
         | refine OW_convInt (by first | with_reducible exact und_u8 | with_reducible exact und_u64 | with_reducible exact und_int | with_reducible exact und_u32) (by first | with_reducible exact und_u8 | with_reducible exact und_u64 | with_reducible exact und_int | with_reducible exact und_u32) rfl ?_
         | refine OW_add rfl rfl ?_
         | refine OW_sub rfl rfl ?_
         | refine OW_mul rfl rfl ?_
         | refine OW_min2 rfl rfl ?_
         | refine OW_max2 rfl rfl ?_
         | refine OW_neg rfl ?_
         | refine CW_block ?_
         | refine CW_condT rfl ?_
         | refine CW_condF rfl ?_
         | refine CW_exit ?_
         | refine CW_ret ?_
         | refine CW_skip ?_
         | refine LW_seq ?_
         | refine LW_regC ?_
         | refine LW_condC ?_
         | refine LW_regF ?_
         | refine LW_condF ?_
         | refine FW_seq ?_
         | refine FW_region (by kernel_rfl) ?_
         | refine FW_block ?_
         | refine FW_condT rfl ?_
         | refine FW_condF rfl ?_
         | refine FW_exit ?_
         | refine FW_ret ?_
         | refine FW_skip ?_
         | refine LW_ret ?_
         | refine LW_skip ?_
         | refine thenE_exit ?_
         | refine thenE_ret ?_
         | refine inBlockE_normal ?_
         | refine inBlockE_same ?_
         | refine inBlockE_ret ?_
         | refine inBlockE_ne (by rfl) ?_
         | refine OW_eqlB (by with_reducible exact und_bool) rfl rfl ?_
         | refine OW_neqB (by with_reducible exact und_bool) rfl rfl ?_
         | refine OW_idxS (by with_reducible exact und_bytes) one_u8 rfl rfl _ rfl (by omega) ?_
         | refine OW_idxS (by with_reducible exact und_bytess) one_bytes rfl rfl _ rfl (by omega) ?_
         | refine OW_load1 (by first | with_reducible exact one_u8 | with_reducible exact one_bytes) rfl _ (by assumption) ?_
         | refine OW_load1 (by with_reducible exact one_u8) rfl _ (hk.ext.cell' (by assumption)) ?_)
          refine OW_nil ?_
          exact keepsF_mk _ _ _ _
      refine ⟨?_, ?_⟩
      · refine Obl_take (fun e1 w1 hk => ?_) (fun e1 w1 hk => ?_)
        · rw [upd_self (hk.pre 3 19 rfl rfl : isV _ _ _)]
          rfl
        · rw [upd_self (hk.out 1 rfl)]
          refine OW_load1 one_int rfl _ (hk.ext.cell' h1') ?_
          refine OW_nil ?_
          exact keepsF_mk _ _ _ _
      refine ⟨?_, ?_⟩
      · refine Obl_take (fun e1 w1 hk => ?_) (fun e1 w1 hk => ?_)
        · rw [upd_self (hk.pre 3 19 rfl rfl : isV _ _ _)]
          rfl
        · rw [upd_self (hk.pre 4 20 rfl rfl : isV _ _ _), upd_self (hk.pre 5 21 rfl rfl : isV _ _ _)]
          refine OW_leq rfl rfl ?_
          rw [decide_eq_true c2]
          refine OW_nil ?_
          exact keepsF_mk _ _ _ _
      refine ⟨?_, ?_⟩
      · refine Obl_of (fun e1 w1 hk => ?_)
        rw [upd_self (hk.pre 3 19 rfl rfl : isV _ _ _), upd_self (hk.pre 6 22 rfl rfl : isV _ _ _)]
        refine OW_pickT rfl (.bool true) rfl ?_
        refine OW_nil ?_
        exact keepsF_mk _ _ _ _
      refine ⟨?_, ?_⟩
      · refine Obl_of (fun e1 w1 hk => ?_)
        rw [upd_self (hk.pre 7 23 rfl rfl : isV _ _ _)]
        (first
       | refine OW_moveV (.int _ _) rfl ?_
       | refine OW_moveV (.slice _ _ _) rfl ?_
       | refine OW_moveV (.bool _) rfl ?_
       | refine OW_moveV (.pointer _) rfl ?_
       | refine OW_moveV (.string _) rfl ?_
       | refine OW_moveV (.agg _) rfl ?_
       | refine OW_moveV (.tuple _) rfl ?_
       | refine OW_nil ?_
       | refine thenE_normal ?_
       | refine CW_seq ?_
       | refine CW_region (by kernel_rfl) ?_
       | refine OW_assignV (.int _ _) rfl ?_
       | refine OW_assignV (.slice _ _ _) rfl ?_
       | refine OW_assignV (.bool _) rfl ?_
       | refine OW_assignV (.pointer _) rfl ?_
       | refine OW_assignV (.string _) rfl ?_
       | refine OW_assignV (.agg _) rfl ?_
       | refine OW_assignV (.tuple _) rfl ?_
       | refine OW_addI rfl rfl (by omega) ?_
       | refine OW_subI rfl rfl (by omega) ?_
       | refine OW_mulI rfl rfl (by omega) ?_
       | refine OW_lss rfl rfl ?_
       | refine OW_extract rfl rfl ?_
       | refine OW_gtr rfl rfl ?_
       | refine OW_leq rfl rfl ?_
       | refine OW_geq rfl rfl ?_
       | refine OW_eql rfl rfl ?_
       | refine OW_neq rfl rfl ?_
       | refine OW_not rfl ?_
       | refine OW_pickT rfl _ rfl ?_
       | refine OW_pickF rfl (.bool _) rfl ?_
       | refine OW_pickB rfl rfl rfl ?_
       | refine OW_move ?_
       | refine OW_assign ?_
       | refine OW_pass rfl ?_
       | refine OW_take rfl ?_
       | refine OW_lenS (by first | with_reducible exact und_bytes | with_reducible exact und_bytess) rfl ?_
       | refine OW_convInt (by first | with_reducible exact und_u8 | with_reducible exact und_u64 | with_reducible exact und_int | with_reducible exact und_u32) (by first | with_reducible exact und_u8 | with_reducible exact und_u64 | with_reducible exact und_int | with_reducible exact und_u32) rfl ?_
       | refine OW_add rfl rfl ?_
       | refine OW_sub rfl rfl ?_
       | refine OW_mul rfl rfl ?_
       | refine OW_min2 rfl rfl ?_
       | refine OW_max2 rfl rfl ?_
       | refine OW_neg rfl ?_
       | refine CW_block ?_
       | refine CW_condT rfl ?_
       | refine CW_condF rfl ?_
       | refine CW_exit ?_
       | refine CW_ret ?_
       | refine CW_skip ?_
       | refine LW_seq ?_
       | refine LW_regC ?_
       | refine LW_condC ?_
       | refine LW_regF ?_
       | refine LW_condF ?_
       | refine FW_seq ?_
       | refine FW_region (by kernel_rfl) ?_
       | refine FW_block ?_
       | refine FW_condT rfl ?_
       | refine FW_condF rfl ?_
       | refine FW_exit ?_
       | refine FW_ret ?_
       | refine FW_skip ?_
       | refine LW_ret ?_
       | refine LW_skip ?_
       | refine thenE_exit ?_
       | refine thenE_ret ?_
       | refine inBlockE_normal ?_
       | refine inBlockE_same ?_
       | refine inBlockE_ret ?_
       | refine inBlockE_ne (by rfl) ?_
       | refine OW_eqlB (by with_reducible exact und_bool) rfl rfl ?_
       | refine OW_neqB (by with_reducible exact und_bool) rfl rfl ?_
       | refine OW_idxS (by with_reducible exact und_bytes) one_u8 rfl rfl _ rfl (by omega) ?_
       | refine OW_idxS (by with_reducible exact und_bytess) one_bytes rfl rfl _ rfl (by omega) ?_
       | refine OW_load1 (by first | with_reducible exact one_u8 | with_reducible exact one_bytes) rfl _ (by assumption) ?_
       | refine OW_load1 (by with_reducible exact one_u8) rfl _ (hk.ext.cell' (by assumption)) ?_)
        refine OW_nil ?_
        exact keepsF_mk _ _ _ _
      refine ⟨?_, ?_⟩
      · refine Obl_take (fun e1 w1 hk => ?_) (fun e1 w1 hk => ?_)
        · rw [upd_self (hk.pre 8 24 rfl rfl : isV _ _ _)]
          rfl
        · rw [upd_self (hk.out 8 rfl)]
          (first
         | refine OW_moveV (.int _ _) rfl ?_
         | refine OW_moveV (.slice _ _ _) rfl ?_
         | refine OW_moveV (.bool _) rfl ?_
         | refine OW_moveV (.pointer _) rfl ?_
         | refine OW_moveV (.string _) rfl ?_
         | refine OW_moveV (.agg _) rfl ?_
         | refine OW_moveV (.tuple _) rfl ?_
         | refine OW_nil ?_
         | refine thenE_normal ?_
         | refine CW_seq ?_
         | refine CW_region (by kernel_rfl) ?_
         | refine OW_assignV (.int _ _) rfl ?_
         | refine OW_assignV (.slice _ _ _) rfl ?_
         | refine OW_assignV (.bool _) rfl ?_
         | refine OW_assignV (.pointer _) rfl ?_
         | refine OW_assignV (.string _) rfl ?_
         | refine OW_assignV (.agg _) rfl ?_
         | refine OW_assignV (.tuple _) rfl ?_
         | refine OW_addI rfl rfl (by omega) ?_
         | refine OW_subI rfl rfl (by omega) ?_
         | refine OW_mulI rfl rfl (by omega) ?_
         | refine OW_lss rfl rfl ?_
         | refine OW_extract rfl rfl ?_
         | refine OW_gtr rfl rfl ?_
         | refine OW_leq rfl rfl ?_
         | refine OW_geq rfl rfl ?_
         | refine OW_eql rfl rfl ?_
         | refine OW_neq rfl rfl ?_
         | refine OW_not rfl ?_
         | refine OW_pickT rfl _ rfl ?_
         | refine OW_pickF rfl (.bool _) rfl ?_
         | refine OW_pickB rfl rfl rfl ?_
         | refine OW_move ?_
         | refine OW_assign ?_
         | refine OW_pass rfl ?_
         | refine OW_take rfl ?_
         | refine OW_lenS (by first | with_reducible exact und_bytes | with_reducible exact und_bytess) rfl ?_
         | refine OW_convInt (by first | with_reducible exact und_u8 | with_reducible exact und_u64 | with_reducible exact und_int | with_reducible exact und_u32) (by first | with_reducible exact und_u8 | with_reducible exact und_u64 | with_reducible exact und_int | with_reducible exact und_u32) rfl ?_
         | refine OW_add rfl rfl ?_
         | refine OW_sub rfl rfl ?_
         | refine OW_mul rfl rfl ?_
         | refine OW_min2 rfl rfl ?_
         | refine OW_max2 rfl rfl ?_
         | refine OW_neg rfl ?_
         | refine CW_block ?_
         | refine CW_condT rfl ?_
         | refine CW_condF rfl ?_
         | refine CW_exit ?_
         | refine CW_ret ?_
         | refine CW_skip ?_
         | refine LW_seq ?_
         | refine LW_regC ?_
         | refine LW_condC ?_
         | refine LW_regF ?_
         | refine LW_condF ?_
         | refine FW_seq ?_
         | refine FW_region (by kernel_rfl) ?_
         | refine FW_block ?_
         | refine FW_condT rfl ?_
         | refine FW_condF rfl ?_
         | refine FW_exit ?_
         | refine FW_ret ?_
         | refine FW_skip ?_
         | refine LW_ret ?_
         | refine LW_skip ?_
         | refine thenE_exit ?_
         | refine thenE_ret ?_
         | refine inBlockE_normal ?_
         | refine inBlockE_same ?_
         | refine inBlockE_ret ?_
         | refine inBlockE_ne (by rfl) ?_
         | refine OW_eqlB (by with_reducible exact und_bool) rfl rfl ?_
         | refine OW_neqB (by with_reducible exact und_bool) rfl rfl ?_
         | refine OW_idxS (by with_reducible exact und_bytes) one_u8 rfl rfl _ rfl (by omega) ?_
         | refine OW_idxS (by with_reducible exact und_bytess) one_bytes rfl rfl _ rfl (by omega) ?_
         | refine OW_load1 (by first | with_reducible exact one_u8 | with_reducible exact one_bytes) rfl _ (by assumption) ?_
         | refine OW_load1 (by with_reducible exact one_u8) rfl _ (hk.ext.cell' (by assumption)) ?_)
          refine OW_nil ?_
          exact keepsF_mk _ _ _ _
      refine ⟨?_, ?_⟩
      · refine Obl_take (fun e1 w1 hk => ?_) (fun e1 w1 hk => ?_)
        · rw [upd_self (hk.pre 8 24 rfl rfl : isV _ _ _)]
          rfl
        · rw [upd_self (hk.out 2 rfl)]
          refine OW_load1 one_int rfl _ (hk.ext.cell' h2') ?_
          refine OW_nil ?_
          exact keepsF_mk _ _ _ _
      refine ⟨?_, ?_⟩
      · refine Obl_take (fun e1 w1 hk => ?_) (fun e1 w1 hk => ?_)
        · rw [upd_self (hk.pre 8 24 rfl rfl : isV _ _ _)]
          rfl
        · rw [upd_self (hk.pre 9 25 rfl rfl : isV _ _ _), upd_self (hk.pre 10 26 rfl rfl : isV _ _ _)]
          refine OW_leq rfl rfl ?_
          rw [decide_eq_false c3]
          refine OW_nil ?_
          exact keepsF_mk _ _ _ _
      refine ⟨?_, ?_⟩
      · refine Obl_of (fun e1 w1 hk => ?_)
        rw [upd_self (hk.pre 8 24 rfl rfl : isV _ _ _), upd_self (hk.pre 11 27 rfl rfl : isV _ _ _)]
        refine OW_pickT rfl (.bool false) rfl ?_
        refine OW_nil ?_
        exact keepsF_mk _ _ _ _
      refine ⟨?_, ?_⟩
      · refine Obl_of (fun e1 w1 hk => ?_)
        rw [upd_self (hk.pre 0 16 rfl rfl : isV _ _ _)]
        (first
       | refine OW_moveV (.int _ _) rfl ?_
       | refine OW_moveV (.slice _ _ _) rfl ?_
       | refine OW_moveV (.bool _) rfl ?_
       | refine OW_moveV (.pointer _) rfl ?_
       | refine OW_moveV (.string _) rfl ?_
       | refine OW_moveV (.agg _) rfl ?_
       | refine OW_moveV (.tuple _) rfl ?_
       | refine OW_nil ?_
       | refine thenE_normal ?_
       | refine CW_seq ?_
       | refine CW_region (by kernel_rfl) ?_
       | refine OW_assignV (.int _ _) rfl ?_
       | refine OW_assignV (.slice _ _ _) rfl ?_
       | refine OW_assignV (.bool _) rfl ?_
       | refine OW_assignV (.pointer _) rfl ?_
       | refine OW_assignV (.string _) rfl ?_
       | refine OW_assignV (.agg _) rfl ?_
       | refine OW_assignV (.tuple _) rfl ?_
       | refine OW_addI rfl rfl (by omega) ?_
       | refine OW_subI rfl rfl (by omega) ?_
       | refine OW_mulI rfl rfl (by omega) ?_
       | refine OW_lss rfl rfl ?_
       | refine OW_extract rfl rfl ?_
       | refine OW_gtr rfl rfl ?_
       | refine OW_leq rfl rfl ?_
       | refine OW_geq rfl rfl ?_
       | refine OW_eql rfl rfl ?_
       | refine OW_neq rfl rfl ?_
       | refine OW_not rfl ?_
       | refine OW_pickT rfl _ rfl ?_
       | refine OW_pickF rfl (.bool _) rfl ?_
       | refine OW_pickB rfl rfl rfl ?_
       | refine OW_move ?_
       | refine OW_assign ?_
       | refine OW_pass rfl ?_
       | refine OW_take rfl ?_
       | refine OW_lenS (by first | with_reducible exact und_bytes | with_reducible exact und_bytess) rfl ?_
       | refine OW_convInt (by first | with_reducible exact und_u8 | with_reducible exact und_u64 | with_reducible exact und_int | with_reducible exact und_u32) (by first | with_reducible exact und_u8 | with_reducible exact und_u64 | with_reducible exact und_int | with_reducible exact und_u32) rfl ?_
       | refine OW_add rfl rfl ?_
       | refine OW_sub rfl rfl ?_
       | refine OW_mul rfl rfl ?_
       | refine OW_min2 rfl rfl ?_
       | refine OW_max2 rfl rfl ?_
       | refine OW_neg rfl ?_
       | refine CW_block ?_
       | refine CW_condT rfl ?_
       | refine CW_condF rfl ?_
       | refine CW_exit ?_
       | refine CW_ret ?_
       | refine CW_skip ?_
       | refine LW_seq ?_
       | refine LW_regC ?_
       | refine LW_condC ?_
       | refine LW_regF ?_
       | refine LW_condF ?_
       | refine FW_seq ?_
       | refine FW_region (by kernel_rfl) ?_
       | refine FW_block ?_
       | refine FW_condT rfl ?_
       | refine FW_condF rfl ?_
       | refine FW_exit ?_
       | refine FW_ret ?_
       | refine FW_skip ?_
       | refine LW_ret ?_
       | refine LW_skip ?_
       | refine thenE_exit ?_
       | refine thenE_ret ?_
       | refine inBlockE_normal ?_
       | refine inBlockE_same ?_
       | refine inBlockE_ret ?_
       | refine inBlockE_ne (by rfl) ?_
       | refine OW_eqlB (by with_reducible exact und_bool) rfl rfl ?_
       | refine OW_neqB (by with_reducible exact und_bool) rfl rfl ?_
       | refine OW_idxS (by with_reducible exact und_bytes) one_u8 rfl rfl _ rfl (by omega) ?_
       | refine OW_idxS (by with_reducible exact und_bytess) one_bytes rfl rfl _ rfl (by omega) ?_
       | refine OW_load1 (by first | with_reducible exact one_u8 | with_reducible exact one_bytes) rfl _ (by assumption) ?_
       | refine OW_load1 (by with_reducible exact one_u8) rfl _ (hk.ext.cell' (by assumption)) ?_)
        refine OW_nil ?_
        exact keepsF_mk _ _ _ _
      refine ⟨?_, ?_⟩
      · refine Obl_of (fun e1 w1 hk => ?_)
        rw [upd_self (hk.pre 12 28 rfl rfl : isV _ _ _)]
        (first
       | refine OW_moveV (.int _ _) rfl ?_
       | refine OW_moveV (.slice _ _ _) rfl ?_
       | refine OW_moveV (.bool _) rfl ?_
       | refine OW_moveV (.pointer _) rfl ?_
       | refine OW_moveV (.string _) rfl ?_
       | refine OW_moveV (.agg _) rfl ?_
       | refine OW_moveV (.tuple _) rfl ?_
       | refine OW_nil ?_
       | refine thenE_normal ?_
       | refine CW_seq ?_
       | refine CW_region (by kernel_rfl) ?_
       | refine OW_assignV (.int _ _) rfl ?_
       | refine OW_assignV (.slice _ _ _) rfl ?_
       | refine OW_assignV (.bool _) rfl ?_
       | refine OW_assignV (.pointer _) rfl ?_
       | refine OW_assignV (.string _) rfl ?_
       | refine OW_assignV (.agg _) rfl ?_
       | refine OW_assignV (.tuple _) rfl ?_
       | refine OW_addI rfl rfl (by omega) ?_
       | refine OW_subI rfl rfl (by omega) ?_
       | refine OW_mulI rfl rfl (by omega) ?_
       | refine OW_lss rfl rfl ?_
       | refine OW_extract rfl rfl ?_
       | refine OW_gtr rfl rfl ?_
       | refine OW_leq rfl rfl ?_
       | refine OW_geq rfl rfl ?_
       | refine OW_eql rfl rfl ?_
       | refine OW_neq rfl rfl ?_
       | refine OW_not rfl ?_
       | refine OW_pickT rfl _ rfl ?_
       | refine OW_pickF rfl (.bool _) rfl ?_
       | refine OW_pickB rfl rfl rfl ?_
       | refine OW_move ?_
       | refine OW_assign ?_
       | refine OW_pass rfl ?_
       | refine OW_take rfl ?_
       | refine OW_lenS (by first | with_reducible exact und_bytes | with_reducible exact und_bytess) rfl ?_
       | refine OW_convInt (by first | with_reducible exact und_u8 | with_reducible exact und_u64 | with_reducible exact und_int | with_reducible exact und_u32) (by first | with_reducible exact und_u8 | with_reducible exact und_u64 | with_reducible exact und_int | with_reducible exact und_u32) rfl ?_
       | refine OW_add rfl rfl ?_
       | refine OW_sub rfl rfl ?_
       | refine OW_mul rfl rfl ?_
       | refine OW_min2 rfl rfl ?_
       | refine OW_max2 rfl rfl ?_
       | refine OW_neg rfl ?_
       | refine CW_block ?_
       | refine CW_condT rfl ?_
       | refine CW_condF rfl ?_
       | refine CW_exit ?_
       | refine CW_ret ?_
       | refine CW_skip ?_
       | refine LW_seq ?_
       | refine LW_regC ?_
       | refine LW_condC ?_
       | refine LW_regF ?_
       | refine LW_condF ?_
       | refine FW_seq ?_
       | refine FW_region (by kernel_rfl) ?_
       | refine FW_block ?_
       | refine FW_condT rfl ?_
       | refine FW_condF rfl ?_
       | refine FW_exit ?_
       | refine FW_ret ?_
       | refine FW_skip ?_
       | refine LW_ret ?_
       | refine LW_skip ?_
       | refine thenE_exit ?_
       | refine thenE_ret ?_
       | refine inBlockE_normal ?_
       | refine inBlockE_same ?_
       | refine inBlockE_ret ?_
       | refine inBlockE_ne (by rfl) ?_
       | refine OW_eqlB (by with_reducible exact und_bool) rfl rfl ?_
       | refine OW_neqB (by with_reducible exact und_bool) rfl rfl ?_
       | refine OW_idxS (by with_reducible exact und_bytes) one_u8 rfl rfl _ rfl (by omega) ?_
       | refine OW_idxS (by with_reducible exact und_bytess) one_bytes rfl rfl _ rfl (by omega) ?_
       | refine OW_load1 (by first | with_reducible exact one_u8 | with_reducible exact one_bytes) rfl _ (by assumption) ?_
       | refine OW_load1 (by with_reducible exact one_u8) rfl _ (hk.ext.cell' (by assumption)) ?_)
        refine OW_nil ?_
        exact keepsF_mk _ _ _ _
      trivial
    case h =>
      intro e1 w1 hw1 hout hall
      rw [upd_self (hall 13 4 rfl : isV _ _ _), upd_self (hall 14 5 rfl : isV _ _ _)]
      refine go_WireR4 (k := ?_)
      exact bodyE_ret2 rfl _ _ rfl rfl ⟨by unfold countOk; rw [decide_eq_true c1, decide_eq_true c2, decide_eq_false c3]; rfl, hx.trans' hw1⟩
  · skip
    apply CW_any [vF _, vF _, vF (.bool true), vF _, vF _, vF (.int .i64 most), vF (.bool true), vF (.bool true), vF _, vF _, vF (.int .i64 left), vF (.bool true), vF (.bool true), vF _, vF _]
    case hm => kernel_rfl
    case hac => kernel_rfl
    case hd => kernel_rfl
    case hnd => kernel_rfl
    case hops =>
      refine ⟨?_, ?_⟩
      · refine Obl_of (fun e1 w1 hk => ?_)
        rw [upd_self (hk.out 8 rfl)]
        (first
       | refine OW_moveV (.int _ _) rfl ?_
       | refine OW_moveV (.slice _ _ _) rfl ?_
       | refine OW_moveV (.bool _) rfl ?_
       | refine OW_moveV (.pointer _) rfl ?_
       | refine OW_moveV (.string _) rfl ?_
       | refine OW_moveV (.agg _) rfl ?_
       | refine OW_moveV (.tuple _) rfl ?_
       | refine OW_nil ?_
       | refine thenE_normal ?_
       | refine CW_seq ?_
       | refine CW_region (by kernel_rfl) ?_
       | refine OW_assignV (.int _ _) rfl ?_
       | refine OW_assignV (.slice _ _ _) rfl ?_
       | refine OW_assignV (.bool _) rfl ?_
       | refine OW_assignV (.pointer _) rfl ?_
       | refine OW_assignV (.string _) rfl ?_
       | refine OW_assignV (.agg _) rfl ?_
       | refine OW_assignV (.tuple _) rfl ?_
       | refine OW_addI rfl rfl (by omega) ?_
       | refine OW_subI rfl rfl (by omega) ?_
       | refine OW_mulI rfl rfl (by omega) ?_
       | refine OW_lss rfl rfl ?_
       | refine OW_extract rfl rfl ?_
       | refine OW_gtr rfl rfl ?_
       | refine OW_leq rfl rfl ?_
       | refine OW_geq rfl rfl ?_
       | refine OW_eql rfl rfl ?_
       | refine OW_neq rfl rfl ?_
       | refine OW_not rfl ?_
       | refine OW_pickT rfl _ rfl ?_
       | refine OW_pickF rfl (.bool _) rfl ?_
       | refine OW_pickB rfl rfl rfl ?_
       | refine OW_move ?_
       | refine OW_assign ?_
       | refine OW_pass rfl ?_
       | refine OW_take rfl ?_
       | refine OW_lenS (by first | with_reducible exact und_bytes | with_reducible exact und_bytess) rfl ?_
       | refine OW_convInt (by first | with_reducible exact und_u8 | with_reducible exact und_u64 | with_reducible exact und_int | with_reducible exact und_u32) (by first | with_reducible exact und_u8 | with_reducible exact und_u64 | with_reducible exact und_int | with_reducible exact und_u32) rfl ?_
       | refine OW_add rfl rfl ?_
       | refine OW_sub rfl rfl ?_
       | refine OW_mul rfl rfl ?_
       | refine OW_min2 rfl rfl ?_
       | refine OW_max2 rfl rfl ?_
       | refine OW_neg rfl ?_
       | refine CW_block ?_
       | refine CW_condT rfl ?_
       | refine CW_condF rfl ?_
       | refine CW_exit ?_
       | refine CW_ret ?_
       | refine CW_skip ?_
       | refine LW_seq ?_
       | refine LW_regC ?_
       | refine LW_condC ?_
       | refine LW_regF ?_
       | refine LW_condF ?_
       | refine FW_seq ?_
       | refine FW_region (by kernel_rfl) ?_
       | refine FW_block ?_
       | refine FW_condT rfl ?_
       | refine FW_condF rfl ?_
       | refine FW_exit ?_
       | refine FW_ret ?_
       | refine FW_skip ?_
       | refine LW_ret ?_
       | refine LW_skip ?_
       | refine thenE_exit ?_
       | refine thenE_ret ?_
       | refine inBlockE_normal ?_
       | refine inBlockE_same ?_
       | refine inBlockE_ret ?_
       | refine inBlockE_ne (by rfl) ?_
       | refine OW_eqlB (by with_reducible exact und_bool) rfl rfl ?_
       | refine OW_neqB (by with_reducible exact und_bool) rfl rfl ?_
       | refine OW_idxS (by with_reducible exact und_bytes) one_u8 rfl rfl _ rfl (by omega) ?_
       | refine OW_idxS (by with_reducible exact und_bytess) one_bytes rfl rfl _ rfl (by omega) ?_
       | refine OW_load1 (by first | with_reducible exact one_u8 | with_reducible exact one_bytes) rfl _ (by assumption) ?_
       | refine OW_load1 (by with_reducible exact one_u8) rfl _ (hk.ext.cell' (by assumption)) ?_)
        refine OW_nil ?_
        exact keepsF_mk _ _ _ _
      refine ⟨?_, ?_⟩
      · refine Obl_of (fun e1 w1 hk => ?_)
        rw [upd_self (hk.out 8 rfl)]
        (first
       | refine OW_moveV (.int _ _) rfl ?_
       | refine OW_moveV (.slice _ _ _) rfl ?_
       | refine OW_moveV (.bool _) rfl ?_
       | refine OW_moveV (.pointer _) rfl ?_
       | refine OW_moveV (.string _) rfl ?_
       | refine OW_moveV (.agg _) rfl ?_
       | refine OW_moveV (.tuple _) rfl ?_
       | refine OW_nil ?_
       | refine thenE_normal ?_
       | refine CW_seq ?_
       | refine CW_region (by kernel_rfl) ?_
       | refine OW_assignV (.int _ _) rfl ?_
       | refine OW_assignV (.slice _ _ _) rfl ?_
       | refine OW_assignV (.bool _) rfl ?_
       | refine OW_assignV (.pointer _) rfl ?_
       | refine OW_assignV (.string _) rfl ?_
       | refine OW_assignV (.agg _) rfl ?_
       | refine OW_assignV (.tuple _) rfl ?_
       | refine OW_addI rfl rfl (by omega) ?_
       | refine OW_subI rfl rfl (by omega) ?_
       | refine OW_mulI rfl rfl (by omega) ?_
       | refine OW_lss rfl rfl ?_
       | refine OW_extract rfl rfl ?_
       | refine OW_gtr rfl rfl ?_
       | refine OW_leq rfl rfl ?_
       | refine OW_geq rfl rfl ?_
       | refine OW_eql rfl rfl ?_
       | refine OW_neq rfl rfl ?_
       | refine OW_not rfl ?_
       | refine OW_pickT rfl _ rfl ?_
       | refine OW_pickF rfl (.bool _) rfl ?_
       | refine OW_pickB rfl rfl rfl ?_
       | refine OW_move ?_
       | refine OW_assign ?_
       | refine OW_pass rfl ?_
       | refine OW_take rfl ?_
       | refine OW_lenS (by first | with_reducible exact und_bytes | with_reducible exact und_bytess) rfl ?_
       | refine OW_convInt (by first | with_reducible exact und_u8 | with_reducible exact und_u64 | with_reducible exact und_int | with_reducible exact und_u32) (by first | with_reducible exact und_u8 | with_reducible exact und_u64 | with_reducible exact und_int | with_reducible exact und_u32) rfl ?_
       | refine OW_add rfl rfl ?_
       | refine OW_sub rfl rfl ?_
       | refine OW_mul rfl rfl ?_
       | refine OW_min2 rfl rfl ?_
       | refine OW_max2 rfl rfl ?_
       | refine OW_neg rfl ?_
       | refine CW_block ?_
       | refine CW_condT rfl ?_
       | refine CW_condF rfl ?_
       | refine CW_exit ?_
       | refine CW_ret ?_
       | refine CW_skip ?_
       | refine LW_seq ?_
       | refine LW_regC ?_
       | refine LW_condC ?_
       | refine LW_regF ?_
       | refine LW_condF ?_
       | refine FW_seq ?_
       | refine FW_region (by kernel_rfl) ?_
       | refine FW_block ?_
       | refine FW_condT rfl ?_
       | refine FW_condF rfl ?_
       | refine FW_exit ?_
       | refine FW_ret ?_
       | refine FW_skip ?_
       | refine LW_ret ?_
       | refine LW_skip ?_
       | refine thenE_exit ?_
       | refine thenE_ret ?_
       | refine inBlockE_normal ?_
       | refine inBlockE_same ?_
       | refine inBlockE_ret ?_
       | refine inBlockE_ne (by rfl) ?_
       | refine OW_eqlB (by with_reducible exact und_bool) rfl rfl ?_
       | refine OW_neqB (by with_reducible exact und_bool) rfl rfl ?_
       | refine OW_idxS (by with_reducible exact und_bytes) one_u8 rfl rfl _ rfl (by omega) ?_
       | refine OW_idxS (by with_reducible exact und_bytess) one_bytes rfl rfl _ rfl (by omega) ?_
       | refine OW_load1 (by first | with_reducible exact one_u8 | with_reducible exact one_bytes) rfl _ (by assumption) ?_
       | refine OW_load1 (by with_reducible exact one_u8) rfl _ (hk.ext.cell' (by assumption)) ?_)
        refine OW_nil ?_
        exact keepsF_mk _ _ _ _
      refine ⟨?_, ?_⟩
      · refine Obl_of (fun e1 w1 hk => ?_)
        rw [upd_self (hk.pre 1 17 rfl rfl : isV _ _ _)]
        refine OW_geq rfl rfl ?_
        rw [decide_eq_true c1]
        refine OW_nil ?_
        exact keepsF_mk _ _ _ _
      refine ⟨?_, ?_⟩
      · refine Obl_of (fun e1 w1 hk => ?_)
        rw [upd_self (hk.pre 2 18 rfl rfl : isV _ _ _)]
        (first
       | refine OW_moveV (.int _ _) rfl ?_
       | refine OW_moveV (.slice _ _ _) rfl ?_
       | refine OW_moveV (.bool _) rfl ?_
       | refine OW_moveV (.pointer _) rfl ?_
       | refine OW_moveV (.string _) rfl ?_
       | refine OW_moveV (.agg _) rfl ?_
       | refine OW_moveV (.tuple _) rfl ?_
       | refine OW_nil ?_
       | refine thenE_normal ?_
       | refine CW_seq ?_
       | refine CW_region (by kernel_rfl) ?_
       | refine OW_assignV (.int _ _) rfl ?_
       | refine OW_assignV (.slice _ _ _) rfl ?_
       | refine OW_assignV (.bool _) rfl ?_
       | refine OW_assignV (.pointer _) rfl ?_
       | refine OW_assignV (.string _) rfl ?_
       | refine OW_assignV (.agg _) rfl ?_
       | refine OW_assignV (.tuple _) rfl ?_
       | refine OW_addI rfl rfl (by omega) ?_
       | refine OW_subI rfl rfl (by omega) ?_
       | refine OW_mulI rfl rfl (by omega) ?_
       | refine OW_lss rfl rfl ?_
       | refine OW_extract rfl rfl ?_
       | refine OW_gtr rfl rfl ?_
       | refine OW_leq rfl rfl ?_
       | refine OW_geq rfl rfl ?_
       | refine OW_eql rfl rfl ?_
       | refine OW_neq rfl rfl ?_
       | refine OW_not rfl ?_
       | refine OW_pickT rfl _ rfl ?_
       | refine OW_pickF rfl (.bool _) rfl ?_
       | refine OW_pickB rfl rfl rfl ?_
       | refine OW_move ?_
       | refine OW_assign ?_
       | refine OW_pass rfl ?_
       | refine OW_take rfl ?_
       | refine OW_lenS (by first | with_reducible exact und_bytes | with_reducible exact und_bytess) rfl ?_
       | refine OW_convInt (by first | with_reducible exact und_u8 | with_reducible exact und_u64 | with_reducible exact und_int | with_reducible exact und_u32) (by first | with_reducible exact und_u8 | with_reducible exact und_u64 | with_reducible exact und_int | with_reducible exact und_u32) rfl ?_
       | refine OW_add rfl rfl ?_
       | refine OW_sub rfl rfl ?_
       | refine OW_mul rfl rfl ?_
       | refine OW_min2 rfl rfl ?_
       | refine OW_max2 rfl rfl ?_
       | refine OW_neg rfl ?_
       | refine CW_block ?_
       | refine CW_condT rfl ?_
       | refine CW_condF rfl ?_
       | refine CW_exit ?_
       | refine CW_ret ?_
       | refine CW_skip ?_
       | refine LW_seq ?_
       | refine LW_regC ?_
       | refine LW_condC ?_
       | refine LW_regF ?_
       | refine LW_condF ?_
       | refine FW_seq ?_
       | refine FW_region (by kernel_rfl) ?_
       | refine FW_block ?_
       | refine FW_condT rfl ?_
       | refine FW_condF rfl ?_
       | refine FW_exit ?_
       | refine FW_ret ?_
       | refine FW_skip ?_
       | refine LW_ret ?_
       | refine LW_skip ?_
       | refine thenE_exit ?_
       | refine thenE_ret ?_
       | refine inBlockE_normal ?_
       | refine inBlockE_same ?_
       | refine inBlockE_ret ?_
       | refine inBlockE_ne (by rfl) ?_
       | refine OW_eqlB (by with_reducible exact und_bool) rfl rfl ?_
       | refine OW_neqB (by with_reducible exact und_bool) rfl rfl ?_
       | refine OW_idxS (by with_reducible exact und_bytes) one_u8 rfl rfl _ rfl (by omega) ?_
       | refine OW_idxS (by with_reducible exact und_bytess) one_bytes rfl rfl _ rfl (by omega) ?_
       | refine OW_load1 (by first | with_reducible exact one_u8 | with_reducible exact one_bytes) rfl _ (by assumption) ?_
       | refine OW_load1 (by with_reducible exact one_u8) rfl _ (hk.ext.cell' (by assumption)) ?_)
        refine OW_nil ?_
        exact keepsF_mk _ _ _ _
      refine ⟨?_, ?_⟩
      · refine Obl_take (fun e1 w1 hk => ?_) (fun e1 w1 hk => ?_)
        · rw [upd_self (hk.pre 3 19 rfl rfl : isV _ _ _)]
          rfl
        · rw [upd_self (hk.out 8 rfl)]
          (first
         | refine OW_moveV (.int _ _) rfl ?_
         | refine OW_moveV (.slice _ _ _) rfl ?_
         | refine OW_moveV (.bool _) rfl ?_
         | refine OW_moveV (.pointer _) rfl ?_
         | refine OW_moveV (.string _) rfl ?_
         | refine OW_moveV (.agg _) rfl ?_
         | refine OW_moveV (.tuple _) rfl ?_
         | refine OW_nil ?_
         | refine thenE_normal ?_
         | refine CW_seq ?_
         | refine CW_region (by kernel_rfl) ?_
         | refine OW_assignV (.int _ _) rfl ?_
         | refine OW_assignV (.slice _ _ _) rfl ?_
         | refine OW_assignV (.bool _) rfl ?_
         | refine OW_assignV (.pointer _) rfl ?_
         | refine OW_assignV (.string _) rfl ?_
         | refine OW_assignV (.agg _) rfl ?_
         | refine OW_assignV (.tuple _) rfl ?_
         | refine OW_addI rfl rfl (by omega) ?_
         | refine OW_subI rfl rfl (by omega) ?_
         | refine OW_mulI rfl rfl (by omega) ?_
         | refine OW_lss rfl rfl ?_
         | refine OW_extract rfl rfl ?_
         | refine OW_gtr rfl rfl ?_
         | refine OW_leq rfl rfl ?_
         | refine OW_geq rfl rfl ?_
         | refine OW_eql rfl rfl ?_
         | refine OW_neq rfl rfl ?_
         | refine OW_not rfl ?_
         | refine OW_pickT rfl _ rfl ?_
         | refine OW_pickF rfl (.bool _) rfl ?_
         | refine OW_pickB rfl rfl rfl ?_
         | refine OW_move ?_
         | refine OW_assign ?_
         | refine OW_pass rfl ?_
         | refine OW_take rfl ?_
         | refine OW_lenS (by first | with_reducible exact und_bytes | with_reducible exact und_bytess) rfl ?_
         | refine OW_convInt (by first | with_reducible exact und_u8 | with_reducible exact und_u64 | with_reducible exact und_int | with_reducible exact und_u32) (by first | with_reducible exact und_u8 | with_reducible exact und_u64 | with_reducible exact und_int | with_reducible exact und_u32) rfl ?_
         | refine OW_add rfl rfl ?_
         | refine OW_sub rfl rfl ?_
         | refine OW_mul rfl rfl ?_
         | refine OW_min2 rfl rfl ?_
         | refine OW_max2 rfl rfl ?_
         | refine OW_neg rfl ?_
         | refine CW_block ?_
         | refine CW_condT rfl ?_
         | refine CW_condF rfl ?_
         | refine CW_exit ?_
         | refine CW_ret ?_
         | refine CW_skip ?_
         | refine LW_seq ?_
         | refine LW_regC ?_
         | refine LW_condC ?_
         | refine LW_regF ?_
         | refine LW_condF ?_
         | refine FW_seq ?_
         | refine FW_region (by kernel_rfl) ?_
         | refine FW_block ?_
         | refine FW_condT rfl ?_
         | refine FW_condF rfl ?_
         | refine FW_exit ?_
         | refine FW_ret ?_
         | refine FW_skip ?_
         | refine LW_ret ?_
         | refine LW_skip ?_
         | refine thenE_exit ?_
         | refine thenE_ret ?_
         | refine inBlockE_normal ?_
         | refine inBlockE_same ?_
         | refine inBlockE_ret ?_
         | refine inBlockE_ne (by rfl) ?_
         | refine OW_eqlB (by with_reducible exact und_bool) rfl rfl ?_
         | refine OW_neqB (by with_reducible exact und_bool) rfl rfl ?_
         | refine OW_idxS (by with_reducible exact und_bytes) one_u8 rfl rfl _ rfl (by omega) ?_
         | refine OW_idxS (by with_reducible exact und_bytess) one_bytes rfl rfl _ rfl (by omega) ?_
         | refine OW_load1 (by first | with_reducible exact one_u8 | with_reducible exact one_bytes) rfl _ (by assumption) ?_
         | refine OW_load1 (by with_reducible exact one_u8) rfl _ (hk.ext.cell' (by assumption)) ?_)
          refine OW_nil ?_
          exact keepsF_mk _ _ _ _
      refine ⟨?_, ?_⟩
      · refine Obl_take (fun e1 w1 hk => ?_) (fun e1 w1 hk => ?_)
        · rw [upd_self (hk.pre 3 19 rfl rfl : isV _ _ _)]
          rfl
        · rw [upd_self (hk.out 1 rfl)]
          refine OW_load1 one_int rfl _ (hk.ext.cell' h1') ?_
          refine OW_nil ?_
          exact keepsF_mk _ _ _ _
      refine ⟨?_, ?_⟩
      · refine Obl_take (fun e1 w1 hk => ?_) (fun e1 w1 hk => ?_)
        · rw [upd_self (hk.pre 3 19 rfl rfl : isV _ _ _)]
          rfl
        · rw [upd_self (hk.pre 4 20 rfl rfl : isV _ _ _), upd_self (hk.pre 5 21 rfl rfl : isV _ _ _)]
          refine OW_leq rfl rfl ?_
          rw [decide_eq_true c2]
          refine OW_nil ?_
          exact keepsF_mk _ _ _ _
      refine ⟨?_, ?_⟩
      · refine Obl_of (fun e1 w1 hk => ?_)
        rw [upd_self (hk.pre 3 19 rfl rfl : isV _ _ _), upd_self (hk.pre 6 22 rfl rfl : isV _ _ _)]
        refine OW_pickT rfl (.bool true) rfl ?_
        refine OW_nil ?_
        exact keepsF_mk _ _ _ _
      refine ⟨?_, ?_⟩
      · refine Obl_of (fun e1 w1 hk => ?_)
        rw [upd_self (hk.pre 7 23 rfl rfl : isV _ _ _)]
        (first
       | refine OW_moveV (.int _ _) rfl ?_
       | refine OW_moveV (.slice _ _ _) rfl ?_
       | refine OW_moveV (.bool _) rfl ?_
       | refine OW_moveV (.pointer _) rfl ?_
       | refine OW_moveV (.string _) rfl ?_
       | refine OW_moveV (.agg _) rfl ?_
       | refine OW_moveV (.tuple _) rfl ?_
       | refine OW_nil ?_
       | refine thenE_normal ?_
       | refine CW_seq ?_
       | refine CW_region (by kernel_rfl) ?_
       | refine OW_assignV (.int _ _) rfl ?_
       | refine OW_assignV (.slice _ _ _) rfl ?_
       | refine OW_assignV (.bool _) rfl ?_
       | refine OW_assignV (.pointer _) rfl ?_
       | refine OW_assignV (.string _) rfl ?_
       | refine OW_assignV (.agg _) rfl ?_
       | refine OW_assignV (.tuple _) rfl ?_
       | refine OW_addI rfl rfl (by omega) ?_
       | refine OW_subI rfl rfl (by omega) ?_
       | refine OW_mulI rfl rfl (by omega) ?_
       | refine OW_lss rfl rfl ?_
       | refine OW_extract rfl rfl ?_
       | refine OW_gtr rfl rfl ?_
       | refine OW_leq rfl rfl ?_
       | refine OW_geq rfl rfl ?_
       | refine OW_eql rfl rfl ?_
       | refine OW_neq rfl rfl ?_
       | refine OW_not rfl ?_
       | refine OW_pickT rfl _ rfl ?_
       | refine OW_pickF rfl (.bool _) rfl ?_
       | refine OW_pickB rfl rfl rfl ?_
       | refine OW_move ?_
       | refine OW_assign ?_
       | refine OW_pass rfl ?_
       | refine OW_take rfl ?_
       | refine OW_lenS (by first | with_reducible exact und_bytes | with_reducible exact und_bytess) rfl ?_
       | refine OW_convInt (by first | with_reducible exact und_u8 | with_reducible exact und_u64 | with_reducible exact und_int | with_reducible exact und_u32) (by first | with_reducible exact und_u8 | with_reducible exact und_u64 | with_reducible exact und_int | with_reducible exact und_u32) rfl ?_
       | refine OW_add rfl rfl ?_
       | refine OW_sub rfl rfl ?_
       | refine OW_mul rfl rfl ?_
       | refine OW_min2 rfl rfl ?_
       | refine OW_max2 rfl rfl ?_
       | refine OW_neg rfl ?_
       | refine CW_block ?_
       | refine CW_condT rfl ?_
       | refine CW_condF rfl ?_
       | refine CW_exit ?_
       | refine CW_ret ?_
       | refine CW_skip ?_
       | refine LW_seq ?_
       | refine LW_regC ?_
       | refine LW_condC ?_
       | refine LW_regF ?_
       | refine LW_condF ?_
       | refine FW_seq ?_
       | refine FW_region (by kernel_rfl) ?_
       | refine FW_block ?_
       | refine FW_condT rfl ?_
       | refine FW_condF rfl ?_
       | refine FW_exit ?_
       | refine FW_ret ?_
       | refine FW_skip ?_
       | refine LW_ret ?_
       | refine LW_skip ?_
       | refine thenE_exit ?_
       | refine thenE_ret ?_
       | refine inBlockE_normal ?_
       | refine inBlockE_same ?_
       | refine inBlockE_ret ?_
       | refine inBlockE_ne (by rfl) ?_
       | refine OW_eqlB (by with_reducible exact und_bool) rfl rfl ?_
       | refine OW_neqB (by with_reducible exact und_bool) rfl rfl ?_
       | refine OW_idxS (by with_reducible exact und_bytes) one_u8 rfl rfl _ rfl (by omega) ?_
       | refine OW_idxS (by with_reducible exact und_bytess) one_bytes rfl rfl _ rfl (by omega) ?_
       | refine OW_load1 (by first | with_reducible exact one_u8 | with_reducible exact one_bytes) rfl _ (by assumption) ?_
       | refine OW_load1 (by with_reducible exact one_u8) rfl _ (hk.ext.cell' (by assumption)) ?_)
        refine OW_nil ?_
        exact keepsF_mk _ _ _ _
      refine ⟨?_, ?_⟩
      · refine Obl_take (fun e1 w1 hk => ?_) (fun e1 w1 hk => ?_)
        · rw [upd_self (hk.pre 8 24 rfl rfl : isV _ _ _)]
          rfl
        · rw [upd_self (hk.out 8 rfl)]
          (first
         | refine OW_moveV (.int _ _) rfl ?_
         | refine OW_moveV (.slice _ _ _) rfl ?_
         | refine OW_moveV (.bool _) rfl ?_
         | refine OW_moveV (.pointer _) rfl ?_
         | refine OW_moveV (.string _) rfl ?_
         | refine OW_moveV (.agg _) rfl ?_
         | refine OW_moveV (.tuple _) rfl ?_
         | refine OW_nil ?_
         | refine thenE_normal ?_
         | refine CW_seq ?_
         | refine CW_region (by kernel_rfl) ?_
         | refine OW_assignV (.int _ _) rfl ?_
         | refine OW_assignV (.slice _ _ _) rfl ?_
         | refine OW_assignV (.bool _) rfl ?_
         | refine OW_assignV (.pointer _) rfl ?_
         | refine OW_assignV (.string _) rfl ?_
         | refine OW_assignV (.agg _) rfl ?_
         | refine OW_assignV (.tuple _) rfl ?_
         | refine OW_addI rfl rfl (by omega) ?_
         | refine OW_subI rfl rfl (by omega) ?_
         | refine OW_mulI rfl rfl (by omega) ?_
         | refine OW_lss rfl rfl ?_
         | refine OW_extract rfl rfl ?_
         | refine OW_gtr rfl rfl ?_
         | refine OW_leq rfl rfl ?_
         | refine OW_geq rfl rfl ?_
         | refine OW_eql rfl rfl ?_
         | refine OW_neq rfl rfl ?_
         | refine OW_not rfl ?_
         | refine OW_pickT rfl _ rfl ?_
         | refine OW_pickF rfl (.bool _) rfl ?_
         | refine OW_pickB rfl rfl rfl ?_
         | refine OW_move ?_
         | refine OW_assign ?_
         | refine OW_pass rfl ?_
         | refine OW_take rfl ?_
         | refine OW_lenS (by first | with_reducible exact und_bytes | with_reducible exact und_bytess) rfl ?_
         | refine OW_convInt (by first | with_reducible exact und_u8 | with_reducible exact und_u64 | with_reducible exact und_int | with_reducible exact und_u32) (by first | with_reducible exact und_u8 | with_reducible exact und_u64 | with_reducible exact und_int | with_reducible exact und_u32) rfl ?_
         | refine OW_add rfl rfl ?_
         | refine OW_sub rfl rfl ?_
         | refine OW_mul rfl rfl ?_
         | refine OW_min2 rfl rfl ?_
         | refine OW_max2 rfl rfl ?_
         | refine OW_neg rfl ?_
         | refine CW_block ?_
         | refine CW_condT rfl ?_
         | refine CW_condF rfl ?_
         | refine CW_exit ?_
         | refine CW_ret ?_
         | refine CW_skip ?_
         | refine LW_seq ?_
         | refine LW_regC ?_
         | refine LW_condC ?_
         | refine LW_regF ?_
         | refine LW_condF ?_
         | refine FW_seq ?_
         | refine FW_region (by kernel_rfl) ?_
         | refine FW_block ?_
         | refine FW_condT rfl ?_
         | refine FW_condF rfl ?_
         | refine FW_exit ?_
         | refine FW_ret ?_
         | refine FW_skip ?_
         | refine LW_ret ?_
         | refine LW_skip ?_
         | refine thenE_exit ?_
         | refine thenE_ret ?_
         | refine inBlockE_normal ?_
         | refine inBlockE_same ?_
         | refine inBlockE_ret ?_
         | refine inBlockE_ne (by rfl) ?_
         | refine OW_eqlB (by with_reducible exact und_bool) rfl rfl ?_
         | refine OW_neqB (by with_reducible exact und_bool) rfl rfl ?_
         | refine OW_idxS (by with_reducible exact und_bytes) one_u8 rfl rfl _ rfl (by omega) ?_
         | refine OW_idxS (by with_reducible exact und_bytess) one_bytes rfl rfl _ rfl (by omega) ?_
         | refine OW_load1 (by first | with_reducible exact one_u8 | with_reducible exact one_bytes) rfl _ (by assumption) ?_
         | refine OW_load1 (by with_reducible exact one_u8) rfl _ (hk.ext.cell' (by assumption)) ?_)
          refine OW_nil ?_
          exact keepsF_mk _ _ _ _
      refine ⟨?_, ?_⟩
      · refine Obl_take (fun e1 w1 hk => ?_) (fun e1 w1 hk => ?_)
        · rw [upd_self (hk.pre 8 24 rfl rfl : isV _ _ _)]
          rfl
        · rw [upd_self (hk.out 2 rfl)]
          refine OW_load1 one_int rfl _ (hk.ext.cell' h2') ?_
          refine OW_nil ?_
          exact keepsF_mk _ _ _ _
      refine ⟨?_, ?_⟩
      · refine Obl_take (fun e1 w1 hk => ?_) (fun e1 w1 hk => ?_)
        · rw [upd_self (hk.pre 8 24 rfl rfl : isV _ _ _)]
          rfl
        · rw [upd_self (hk.pre 9 25 rfl rfl : isV _ _ _), upd_self (hk.pre 10 26 rfl rfl : isV _ _ _)]
          refine OW_leq rfl rfl ?_
          rw [decide_eq_true c3]
          refine OW_nil ?_
          exact keepsF_mk _ _ _ _
      refine ⟨?_, ?_⟩
      · refine Obl_of (fun e1 w1 hk => ?_)
        rw [upd_self (hk.pre 8 24 rfl rfl : isV _ _ _), upd_self (hk.pre 11 27 rfl rfl : isV _ _ _)]
        refine OW_pickT rfl (.bool true) rfl ?_
        refine OW_nil ?_
        exact keepsF_mk _ _ _ _
      refine ⟨?_, ?_⟩
      · refine Obl_of (fun e1 w1 hk => ?_)
        rw [upd_self (hk.pre 0 16 rfl rfl : isV _ _ _)]
        (first
       | refine OW_moveV (.int _ _) rfl ?_
       | refine OW_moveV (.slice _ _ _) rfl ?_
       | refine OW_moveV (.bool _) rfl ?_
       | refine OW_moveV (.pointer _) rfl ?_
       | refine OW_moveV (.string _) rfl ?_
       | refine OW_moveV (.agg _) rfl ?_
       | refine OW_moveV (.tuple _) rfl ?_
       | refine OW_nil ?_
       | refine thenE_normal ?_
       | refine CW_seq ?_
       | refine CW_region (by kernel_rfl) ?_
       | refine OW_assignV (.int _ _) rfl ?_
       | refine OW_assignV (.slice _ _ _) rfl ?_
       | refine OW_assignV (.bool _) rfl ?_
       | refine OW_assignV (.pointer _) rfl ?_
       | refine OW_assignV (.string _) rfl ?_
       | refine OW_assignV (.agg _) rfl ?_
       | refine OW_assignV (.tuple _) rfl ?_
       | refine OW_addI rfl rfl (by omega) ?_
       | refine OW_subI rfl rfl (by omega) ?_
       | refine OW_mulI rfl rfl (by omega) ?_
       | refine OW_lss rfl rfl ?_
       | refine OW_extract rfl rfl ?_
       | refine OW_gtr rfl rfl ?_
       | refine OW_leq rfl rfl ?_
       | refine OW_geq rfl rfl ?_
       | refine OW_eql rfl rfl ?_
       | refine OW_neq rfl rfl ?_
       | refine OW_not rfl ?_
       | refine OW_pickT rfl _ rfl ?_
       | refine OW_pickF rfl (.bool _) rfl ?_
       | refine OW_pickB rfl rfl rfl ?_
       | refine OW_move ?_
       | refine OW_assign ?_
       | refine OW_pass rfl ?_
       | refine OW_take rfl ?_
       | refine OW_lenS (by first | with_reducible exact und_bytes | with_reducible exact und_bytess) rfl ?_
       | refine OW_convInt (by first | with_reducible exact und_u8 | with_reducible exact und_u64 | with_reducible exact und_int | with_reducible exact und_u32) (by first | with_reducible exact und_u8 | with_reducible exact und_u64 | with_reducible exact und_int | with_reducible exact und_u32) rfl ?_
       | refine OW_add rfl rfl ?_
       | refine OW_sub rfl rfl ?_
       | refine OW_mul rfl rfl ?_
       | refine OW_min2 rfl rfl ?_
       | refine OW_max2 rfl rfl ?_
       | refine OW_neg rfl ?_
       | refine CW_block ?_
       | refine CW_condT rfl ?_
       | refine CW_condF rfl ?_
       | refine CW_exit ?_
       | refine CW_ret ?_
       | refine CW_skip ?_
       | refine LW_seq ?_
       | refine LW_regC ?_
       | refine LW_condC ?_
       | refine LW_regF ?_
       | refine LW_condF ?_
       | refine FW_seq ?_
       | refine FW_region (by kernel_rfl) ?_
       | refine FW_block ?_
       | refine FW_condT rfl ?_
       | refine FW_condF rfl ?_
       | refine FW_exit ?_
       | refine FW_ret ?_
       | refine FW_skip ?_
       | refine LW_ret ?_
       | refine LW_skip ?_
       | refine thenE_exit ?_
       | refine thenE_ret ?_
       | refine inBlockE_normal ?_
       | refine inBlockE_same ?_
       | refine inBlockE_ret ?_
       | refine inBlockE_ne (by rfl) ?_
       | refine OW_eqlB (by with_reducible exact und_bool) rfl rfl ?_
       | refine OW_neqB (by with_reducible exact und_bool) rfl rfl ?_
       | refine OW_idxS (by with_reducible exact und_bytes) one_u8 rfl rfl _ rfl (by omega) ?_
       | refine OW_idxS (by with_reducible exact und_bytess) one_bytes rfl rfl _ rfl (by omega) ?_
       | refine OW_load1 (by first | with_reducible exact one_u8 | with_reducible exact one_bytes) rfl _ (by assumption) ?_
       | refine OW_load1 (by with_reducible exact one_u8) rfl _ (hk.ext.cell' (by assumption)) ?_)
        refine OW_nil ?_
        exact keepsF_mk _ _ _ _
      refine ⟨?_, ?_⟩
      · refine Obl_of (fun e1 w1 hk => ?_)
        rw [upd_self (hk.pre 12 28 rfl rfl : isV _ _ _)]
        (first
       | refine OW_moveV (.int _ _) rfl ?_
       | refine OW_moveV (.slice _ _ _) rfl ?_
       | refine OW_moveV (.bool _) rfl ?_
       | refine OW_moveV (.pointer _) rfl ?_
       | refine OW_moveV (.string _) rfl ?_
       | refine OW_moveV (.agg _) rfl ?_
       | refine OW_moveV (.tuple _) rfl ?_
       | refine OW_nil ?_
       | refine thenE_normal ?_
       | refine CW_seq ?_
       | refine CW_region (by kernel_rfl) ?_
       | refine OW_assignV (.int _ _) rfl ?_
       | refine OW_assignV (.slice _ _ _) rfl ?_
       | refine OW_assignV (.bool _) rfl ?_
       | refine OW_assignV (.pointer _) rfl ?_
       | refine OW_assignV (.string _) rfl ?_
       | refine OW_assignV (.agg _) rfl ?_
       | refine OW_assignV (.tuple _) rfl ?_
       | refine OW_addI rfl rfl (by omega) ?_
       | refine OW_subI rfl rfl (by omega) ?_
       | refine OW_mulI rfl rfl (by omega) ?_
       | refine OW_lss rfl rfl ?_
       | refine OW_extract rfl rfl ?_
       | refine OW_gtr rfl rfl ?_
       | refine OW_leq rfl rfl ?_
       | refine OW_geq rfl rfl ?_
       | refine OW_eql rfl rfl ?_
       | refine OW_neq rfl rfl ?_
       | refine OW_not rfl ?_
       | refine OW_pickT rfl _ rfl ?_
       | refine OW_pickF rfl (.bool _) rfl ?_
       | refine OW_pickB rfl rfl rfl ?_
       | refine OW_move ?_
       | refine OW_assign ?_
       | refine OW_pass rfl ?_
       | refine OW_take rfl ?_
       | refine OW_lenS (by first | with_reducible exact und_bytes | with_reducible exact und_bytess) rfl ?_
       | refine OW_convInt (by first | with_reducible exact und_u8 | with_reducible exact und_u64 | with_reducible exact und_int | with_reducible exact und_u32) (by first | with_reducible exact und_u8 | with_reducible exact und_u64 | with_reducible exact und_int | with_reducible exact und_u32) rfl ?_
       | refine OW_add rfl rfl ?_
       | refine OW_sub rfl rfl ?_
       | refine OW_mul rfl rfl ?_
       | refine OW_min2 rfl rfl ?_
       | refine OW_max2 rfl rfl ?_
       | refine OW_neg rfl ?_
       | refine CW_block ?_
       | refine CW_condT rfl ?_
       | refine CW_condF rfl ?_
       | refine CW_exit ?_
       | refine CW_ret ?_
       | refine CW_skip ?_
       | refine LW_seq ?_
       | refine LW_regC ?_
       | refine LW_condC ?_
       | refine LW_regF ?_
       | refine LW_condF ?_
       | refine FW_seq ?_
       | refine FW_region (by kernel_rfl) ?_
       | refine FW_block ?_
       | refine FW_condT rfl ?_
       | refine FW_condF rfl ?_
       | refine FW_exit ?_
       | refine FW_ret ?_
       | refine FW_skip ?_
       | refine LW_ret ?_
       | refine LW_skip ?_
       | refine thenE_exit ?_
       | refine thenE_ret ?_
       | refine inBlockE_normal ?_
       | refine inBlockE_same ?_
       | refine inBlockE_ret ?_
       | refine inBlockE_ne (by rfl) ?_
       | refine OW_eqlB (by with_reducible exact und_bool) rfl rfl ?_
       | refine OW_neqB (by with_reducible exact und_bool) rfl rfl ?_
       | refine OW_idxS (by with_reducible exact und_bytes) one_u8 rfl rfl _ rfl (by omega) ?_
       | refine OW_idxS (by with_reducible exact und_bytess) one_bytes rfl rfl _ rfl (by omega) ?_
       | refine OW_load1 (by first | with_reducible exact one_u8 | with_reducible exact one_bytes) rfl _ (by assumption) ?_
       | refine OW_load1 (by with_reducible exact one_u8) rfl _ (hk.ext.cell' (by assumption)) ?_)
        refine OW_nil ?_
        exact keepsF_mk _ _ _ _
      trivial
    case h =>
      intro e1 w1 hw1 hout hall
      rw [upd_self (hall 13 4 rfl : isV _ _ _), upd_self (hall 14 5 rfl : isV _ _ _)]
      refine go_WireR4 (k := ?_)
      exact bodyE_ret2 rfl _ _ rfl rfl ⟨by unfold countOk; rw [decide_eq_true c1, decide_eq_true c2, decide_eq_true c3]; rfl, hx.trans' hw1⟩
/-- What Count reads; the reader behind it. -/
def countV (s : List UInt8 × Int) (most : Int) : Int := if fits s 8 && countOk (i64L (s.1.take 8)) most ((s.1.length : Int) - 8) then i64L (s.1.take 8) else 0
def countS (s : List UInt8 × Int) (most : Int) : List UInt8 × Int := stepS s 8 (countOk (i64L (s.1.take 8)) most ((s.1.length : Int) - 8))
set_option maxHeartbeats 8000000 in
theorem rCount_any (w : World) (g : Nat) (S : Nat → Prop) (s : List UInt8 × Int) (h : RR w g S s) (most : Int) : Calls Try.prog 39 #[.pointer (some ⟨g, 0, none⟩), .int .i64 most] w (RPost w g S (.int .i64 (countV s most)) (countS s most)) := by
  have hll := h.len
  refine calls_of_CW Try.func39 rfl (by simp [Try.ntmps39]) ?_
  rw [Try.ntmps39]
  refine go_WireR4 (k := ?_)
  refine OW_box (.int .i64 most) rfl ?_
  intro w1 g1 hb1 hg1 hlt1 hx1
  refine go_WireR4 (k := ?_)
  refine OW_callV Try.func40 (by kernel_rfl) rfl (rLeft_any w1 g S s (h.ext hx1)) rfl ?_
  intro w2 hx2
  refine go_WireR4 (k := ?_)
  refine OW_alloc1 (.int .i64 0) zero_int ?_
  intro w3 g3 hb3 hg3 hlt3 hx3
  refine go_WireR4 (k := ?_)
  refine OW_storeB one_int rfl (.int .i64 ((s.1.length : Int) - 8)) rfl rfl hb3 (by decide) ?_
  intro w4 hb4 hg4
  have hx34 : Ext w2 w4 := (Keeps.of_only (S := (· = g3)) hg4 rfl).ext hx3 (fun k hk => by subst hk; exact hg3)
  have hx := hx1.trans' (hx2.trans' hx34)
  have m1 : w4.cell? ⟨g1, 0, none⟩ = some (.int .i64 most) := (hb1.ext (hx2.trans' hx34)).cell 0
  have m3 : w4.cell? ⟨g3, 0, none⟩ = some (.int .i64 ((s.1.length : Int) - 8)) := hb4.cell 0
  refine go_WireR4 (k := ?_)
  refine OW_mkFunc [.pointer (some ⟨g1, 0, none⟩), .pointer (some ⟨g3, 0, none⟩)] rfl ?_
  have T := take_int w4 g S s (h.ext hx) 8 (by omega) _ _ [.pointer (some ⟨g1, 0, none⟩), .pointer (some ⟨g3, 0, none⟩)] (fun _ v => v = .int .i64 (i64L (s.1.take 8))) (countOk (i64L (s.1.take 8)) most ((s.1.length : Int) - 8)) Try.func87 (by kernel_rfl) rfl (fun _ _ _ _ _ h => h)
    (fun _ _ hl u1 A hx hb hlen => (cCount_any u1 A _ hb hlen g1 g3 most ((s.1.length : Int) - 8) (hx.cell' m1) (hx.cell' m3)).mono (fun en w' hh => ⟨_, hh.1, hh.2, rfl⟩))
  refine go_WireR4 (k := ?_)
  refine OW_callC Try.func76 (by kernel_rfl) rfl (T.mono (fun en w' hh => take_sum (v0 := .int .i64 (countV s most)) (by unfold countV; cases fits s 8 && countOk (i64L (s.1.take 8)) most ((s.1.length : Int) - 8) <;> rfl) hh)) rfl ?_
  rintro en w5 ⟨rfl, hr, hk⟩
  refine ⟨_, rfl, ?_⟩
  refine go_WireR4 (k := ?_)
  exact bodyE_ret1 rfl _ rfl ⟨rfl, hr, (Keeps.of_ext hx _).trans' hk⟩
end Go.Proofs.Ytdpomchhbbopbaa
