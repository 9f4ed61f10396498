/- Walks: the HMAC, the program's and the reference's. -/
import Derived.Test.YtdpcahfgdpikfaaHm2
import Derived.Test.YtdpcahfgdpikfaaShaL
import Derived.Test.YtdpcahfgdpikfaaOrd3
import Derived.Test.YtdpcahfgdpikfaaCat
namespace Go.Proofs.Ytdpcahfgdpikfaa
open Go Go.RowKit
set_option linter.unusedVariables false
theorem go_Hm3 {A B : Prop} (h : Held B → A := by
  intro hEnd
  repeat (first | refine OW_sliceP h_slp_Tag rfl ?_ | (refine OW_isLoad ?_; refine OW_loadT s_agg_Tag rfl (by apply_assumption; assumption) (by assumption) ?_) | refine OW_moveV (.int _ _) rfl ?_ | refine OW_moveV (.slice _ _ _) rfl ?_ | refine OW_moveV (.bool _) rfl ?_ | refine OW_moveV (.pointer _) rfl ?_ | refine OW_moveV (.string _) rfl ?_ | refine OW_moveV (.agg _) rfl ?_ | refine OW_moveV (.tuple _) rfl ?_ | refine OW_nil ?_ | refine thenE_normal ?_ | refine CW_seq ?_ | refine CW_region (by kernel_rfl) ?_ | refine OW_assignV (.int _ _) rfl ?_ | refine OW_assignV (.slice _ _ _) rfl ?_ | refine OW_assignV (.bool _) rfl ?_ | refine OW_assignV (.pointer _) rfl ?_ | refine OW_assignV (.string _) rfl ?_ | refine OW_assignV (.agg _) rfl ?_ | refine OW_assignV (.tuple _) rfl ?_ | refine OW_addI rfl rfl (by omega) ?_ | refine OW_subI rfl rfl (by omega) ?_ | refine OW_mulI rfl rfl (by omega) ?_ | refine OW_lss rfl rfl ?_ | refine OW_extract rfl rfl ?_ | refine OW_gtr rfl rfl ?_ | refine OW_leq rfl rfl ?_ | refine OW_geq rfl rfl ?_ | refine OW_eql rfl rfl ?_ | refine OW_neq rfl rfl ?_ | refine OW_not rfl ?_ | refine OW_pickT rfl _ rfl ?_ | refine OW_pickF rfl (.bool _) rfl ?_ | refine OW_pickB rfl rfl rfl ?_ | refine OW_move ?_ | refine OW_assign ?_ | refine OW_pass rfl ?_ | refine OW_take rfl ?_ | refine OW_lenS (by first | with_reducible exact und_bytes | with_reducible exact und_bytess) rfl ?_ | refine OW_convInt (by first | with_reducible exact und_u8 | with_reducible exact und_u64 | with_reducible exact und_int | with_reducible exact und_u32) (by first | with_reducible exact und_u8 | with_reducible exact und_u64 | with_reducible exact und_int | with_reducible exact und_u32) rfl ?_ | refine OW_add rfl rfl ?_ | refine OW_sub rfl rfl ?_ | refine OW_mul rfl rfl ?_ | refine OW_min2 rfl rfl ?_ | refine OW_max2 rfl rfl ?_ | refine OW_neg rfl ?_ | refine CW_block ?_ | refine CW_condT rfl ?_ | refine CW_condF rfl ?_ | refine CW_exit ?_ | refine CW_ret ?_ | refine CW_skip ?_ | refine LW_seq ?_ | refine LW_regC ?_ | refine LW_condC ?_ | refine LW_regF ?_ | refine LW_condF ?_ | refine FW_seq ?_ | refine FW_region (by kernel_rfl) ?_ | refine FW_block ?_ | refine FW_condT rfl ?_ | refine FW_condF rfl ?_ | refine FW_exit ?_ | refine FW_ret ?_ | refine FW_skip ?_ | refine LW_ret ?_ | refine LW_skip ?_ | refine thenE_exit ?_ | refine thenE_ret ?_ | refine inBlockE_normal ?_ | refine inBlockE_same ?_ | refine inBlockE_ret ?_ | refine inBlockE_ne (by rfl) ?_ | refine OW_eqlB (by with_reducible exact und_bool) rfl rfl ?_ | refine OW_neqB (by with_reducible exact und_bool) rfl rfl ?_ | refine OW_idxS (by with_reducible exact und_bytes) one_u8 rfl rfl _ rfl (by omega) ?_ | refine OW_idxS (by with_reducible exact und_bytess) one_bytes rfl rfl _ rfl (by omega) ?_ | refine OW_load1 (by first | with_reducible exact one_u8 | with_reducible exact one_bytes) rfl _ (by assumption) ?_)
  exact hEnd.out) (k : B) : A := h ⟨k⟩
theorem oy_Hm3 {A B : Prop} (h : Held B → A := by
  intro hEnd
  repeat (first
    | refine OY_done ?_
    | (apply OY_p _ rfl
       · intro wd
         (first | refine OW_sliceP h_slp_Tag rfl ?_ | (refine OW_isLoad ?_; refine OW_loadT s_agg_Tag rfl (by apply_assumption; assumption) (by assumption) ?_) | refine OW_moveV (.int _ _) rfl ?_ | refine OW_moveV (.slice _ _ _) rfl ?_ | refine OW_moveV (.bool _) rfl ?_ | refine OW_moveV (.pointer _) rfl ?_ | refine OW_moveV (.string _) rfl ?_ | refine OW_moveV (.agg _) rfl ?_ | refine OW_moveV (.tuple _) rfl ?_ | refine OW_nil ?_ | refine thenE_normal ?_ | refine CW_seq ?_ | refine CW_region (by kernel_rfl) ?_ | refine OW_assignV (.int _ _) rfl ?_ | refine OW_assignV (.slice _ _ _) rfl ?_ | refine OW_assignV (.bool _) rfl ?_ | refine OW_assignV (.pointer _) rfl ?_ | refine OW_assignV (.string _) rfl ?_ | refine OW_assignV (.agg _) rfl ?_ | refine OW_assignV (.tuple _) rfl ?_ | refine OW_addI rfl rfl (by omega) ?_ | refine OW_subI rfl rfl (by omega) ?_ | refine OW_mulI rfl rfl (by omega) ?_ | refine OW_lss rfl rfl ?_ | refine OW_extract rfl rfl ?_ | refine OW_gtr rfl rfl ?_ | refine OW_leq rfl rfl ?_ | refine OW_geq rfl rfl ?_ | refine OW_eql rfl rfl ?_ | refine OW_neq rfl rfl ?_ | refine OW_not rfl ?_ | refine OW_pickT rfl _ rfl ?_ | refine OW_pickF rfl (.bool _) rfl ?_ | refine OW_pickB rfl rfl rfl ?_ | refine OW_move ?_ | refine OW_assign ?_ | refine OW_pass rfl ?_ | refine OW_take rfl ?_ | refine OW_lenS (by first | with_reducible exact und_bytes | with_reducible exact und_bytess) rfl ?_ | refine OW_convInt (by first | with_reducible exact und_u8 | with_reducible exact und_u64 | with_reducible exact und_int | with_reducible exact und_u32) (by first | with_reducible exact und_u8 | with_reducible exact und_u64 | with_reducible exact und_int | with_reducible exact und_u32) rfl ?_ | refine OW_add rfl rfl ?_ | refine OW_sub rfl rfl ?_ | refine OW_mul rfl rfl ?_ | refine OW_min2 rfl rfl ?_ | refine OW_max2 rfl rfl ?_ | refine OW_neg rfl ?_ | refine CW_block ?_ | refine CW_condT rfl ?_ | refine CW_condF rfl ?_ | refine CW_exit ?_ | refine CW_ret ?_ | refine CW_skip ?_ | refine LW_seq ?_ | refine LW_regC ?_ | refine LW_condC ?_ | refine LW_regF ?_ | refine LW_condF ?_ | refine FW_seq ?_ | refine FW_region (by kernel_rfl) ?_ | refine FW_block ?_ | refine FW_condT rfl ?_ | refine FW_condF rfl ?_ | refine FW_exit ?_ | refine FW_ret ?_ | refine FW_skip ?_ | refine LW_ret ?_ | refine LW_skip ?_ | refine thenE_exit ?_ | refine thenE_ret ?_ | refine inBlockE_normal ?_ | refine inBlockE_same ?_ | refine inBlockE_ret ?_ | refine inBlockE_ne (by rfl) ?_ | refine OW_eqlB (by with_reducible exact und_bool) rfl rfl ?_ | refine OW_neqB (by with_reducible exact und_bool) rfl rfl ?_ | refine OW_idxS (by with_reducible exact und_bytes) one_u8 rfl rfl _ rfl (by omega) ?_ | refine OW_idxS (by with_reducible exact und_bytess) one_bytes rfl rfl _ rfl (by omega) ?_ | refine OW_load1 (by first | with_reducible exact one_u8 | with_reducible exact one_bytes) rfl _ (by assumption) ?_)
         refine OW_nil ?_
         exact stay_mk _ _ _ _)
    | (apply OY_q _ rfl
       · intro wd hwd
         (first | refine OW_sliceP h_slp_Tag rfl ?_ | (refine OW_isLoad ?_; refine OW_loadT s_agg_Tag rfl (by apply_assumption; assumption) (by assumption) ?_) | refine OW_moveV (.int _ _) rfl ?_ | refine OW_moveV (.slice _ _ _) rfl ?_ | refine OW_moveV (.bool _) rfl ?_ | refine OW_moveV (.pointer _) rfl ?_ | refine OW_moveV (.string _) rfl ?_ | refine OW_moveV (.agg _) rfl ?_ | refine OW_moveV (.tuple _) rfl ?_ | refine OW_nil ?_ | refine thenE_normal ?_ | refine CW_seq ?_ | refine CW_region (by kernel_rfl) ?_ | refine OW_assignV (.int _ _) rfl ?_ | refine OW_assignV (.slice _ _ _) rfl ?_ | refine OW_assignV (.bool _) rfl ?_ | refine OW_assignV (.pointer _) rfl ?_ | refine OW_assignV (.string _) rfl ?_ | refine OW_assignV (.agg _) rfl ?_ | refine OW_assignV (.tuple _) rfl ?_ | refine OW_addI rfl rfl (by omega) ?_ | refine OW_subI rfl rfl (by omega) ?_ | refine OW_mulI rfl rfl (by omega) ?_ | refine OW_lss rfl rfl ?_ | refine OW_extract rfl rfl ?_ | refine OW_gtr rfl rfl ?_ | refine OW_leq rfl rfl ?_ | refine OW_geq rfl rfl ?_ | refine OW_eql rfl rfl ?_ | refine OW_neq rfl rfl ?_ | refine OW_not rfl ?_ | refine OW_pickT rfl _ rfl ?_ | refine OW_pickF rfl (.bool _) rfl ?_ | refine OW_pickB rfl rfl rfl ?_ | refine OW_move ?_ | refine OW_assign ?_ | refine OW_pass rfl ?_ | refine OW_take rfl ?_ | refine OW_lenS (by first | with_reducible exact und_bytes | with_reducible exact und_bytess) rfl ?_ | refine OW_convInt (by first | with_reducible exact und_u8 | with_reducible exact und_u64 | with_reducible exact und_int | with_reducible exact und_u32) (by first | with_reducible exact und_u8 | with_reducible exact und_u64 | with_reducible exact und_int | with_reducible exact und_u32) rfl ?_ | refine OW_add rfl rfl ?_ | refine OW_sub rfl rfl ?_ | refine OW_mul rfl rfl ?_ | refine OW_min2 rfl rfl ?_ | refine OW_max2 rfl rfl ?_ | refine OW_neg rfl ?_ | refine CW_block ?_ | refine CW_condT rfl ?_ | refine CW_condF rfl ?_ | refine CW_exit ?_ | refine CW_ret ?_ | refine CW_skip ?_ | refine LW_seq ?_ | refine LW_regC ?_ | refine LW_condC ?_ | refine LW_regF ?_ | refine LW_condF ?_ | refine FW_seq ?_ | refine FW_region (by kernel_rfl) ?_ | refine FW_block ?_ | refine FW_condT rfl ?_ | refine FW_condF rfl ?_ | refine FW_exit ?_ | refine FW_ret ?_ | refine FW_skip ?_ | refine LW_ret ?_ | refine LW_skip ?_ | refine thenE_exit ?_ | refine thenE_ret ?_ | refine inBlockE_normal ?_ | refine inBlockE_same ?_ | refine inBlockE_ret ?_ | refine inBlockE_ne (by rfl) ?_ | refine OW_eqlB (by with_reducible exact und_bool) rfl rfl ?_ | refine OW_neqB (by with_reducible exact und_bool) rfl rfl ?_ | refine OW_idxS (by with_reducible exact und_bytes) one_u8 rfl rfl _ rfl (by omega) ?_ | refine OW_idxS (by with_reducible exact und_bytess) one_bytes rfl rfl _ rfl (by omega) ?_ | refine OW_load1 (by first | with_reducible exact one_u8 | with_reducible exact one_bytes) rfl _ (by assumption) ?_ | (refine OW_isLoad ?_; refine OW_loadBk (by first | with_reducible exact one_u8 | with_reducible exact one_bytes | with_reducible exact one_bool | with_reducible exact one_int | with_reducible exact one_errno | with_reducible exact one_u32 | with_reducible exact one_u64 | with_reducible exact one_string) rfl (by apply_assumption; assumption) _ (by first | assumption | rfl) ?_) | refine OW_load1 (by first | with_reducible exact one_u8 | with_reducible exact one_bytes | with_reducible exact one_bool | with_reducible exact one_int | with_reducible exact one_errno | with_reducible exact one_u32 | with_reducible exact one_u64 | with_reducible exact one_string) rfl _ (by apply_assumption; assumption) ?_)
         refine OW_nil ?_
         exact stay_mk _ _ _ _)
    | refine OY_ppass rfl rfl ?_
    | refine OY_qpass rfl rfl ?_
    | (apply OY_ptake _ rfl rfl
       · intro wd
         (first | refine OW_sliceP h_slp_Tag rfl ?_ | (refine OW_isLoad ?_; refine OW_loadT s_agg_Tag rfl (by apply_assumption; assumption) (by assumption) ?_) | refine OW_moveV (.int _ _) rfl ?_ | refine OW_moveV (.slice _ _ _) rfl ?_ | refine OW_moveV (.bool _) rfl ?_ | refine OW_moveV (.pointer _) rfl ?_ | refine OW_moveV (.string _) rfl ?_ | refine OW_moveV (.agg _) rfl ?_ | refine OW_moveV (.tuple _) rfl ?_ | refine OW_nil ?_ | refine thenE_normal ?_ | refine CW_seq ?_ | refine CW_region (by kernel_rfl) ?_ | refine OW_assignV (.int _ _) rfl ?_ | refine OW_assignV (.slice _ _ _) rfl ?_ | refine OW_assignV (.bool _) rfl ?_ | refine OW_assignV (.pointer _) rfl ?_ | refine OW_assignV (.string _) rfl ?_ | refine OW_assignV (.agg _) rfl ?_ | refine OW_assignV (.tuple _) rfl ?_ | refine OW_addI rfl rfl (by omega) ?_ | refine OW_subI rfl rfl (by omega) ?_ | refine OW_mulI rfl rfl (by omega) ?_ | refine OW_lss rfl rfl ?_ | refine OW_extract rfl rfl ?_ | refine OW_gtr rfl rfl ?_ | refine OW_leq rfl rfl ?_ | refine OW_geq rfl rfl ?_ | refine OW_eql rfl rfl ?_ | refine OW_neq rfl rfl ?_ | refine OW_not rfl ?_ | refine OW_pickT rfl _ rfl ?_ | refine OW_pickF rfl (.bool _) rfl ?_ | refine OW_pickB rfl rfl rfl ?_ | refine OW_move ?_ | refine OW_assign ?_ | refine OW_pass rfl ?_ | refine OW_take rfl ?_ | refine OW_lenS (by first | with_reducible exact und_bytes | with_reducible exact und_bytess) rfl ?_ | refine OW_convInt (by first | with_reducible exact und_u8 | with_reducible exact und_u64 | with_reducible exact und_int | with_reducible exact und_u32) (by first | with_reducible exact und_u8 | with_reducible exact und_u64 | with_reducible exact und_int | with_reducible exact und_u32) rfl ?_ | refine OW_add rfl rfl ?_ | refine OW_sub rfl rfl ?_ | refine OW_mul rfl rfl ?_ | refine OW_min2 rfl rfl ?_ | refine OW_max2 rfl rfl ?_ | refine OW_neg rfl ?_ | refine CW_block ?_ | refine CW_condT rfl ?_ | refine CW_condF rfl ?_ | refine CW_exit ?_ | refine CW_ret ?_ | refine CW_skip ?_ | refine LW_seq ?_ | refine LW_regC ?_ | refine LW_condC ?_ | refine LW_regF ?_ | refine LW_condF ?_ | refine FW_seq ?_ | refine FW_region (by kernel_rfl) ?_ | refine FW_block ?_ | refine FW_condT rfl ?_ | refine FW_condF rfl ?_ | refine FW_exit ?_ | refine FW_ret ?_ | refine FW_skip ?_ | refine LW_ret ?_ | refine LW_skip ?_ | refine thenE_exit ?_ | refine thenE_ret ?_ | refine inBlockE_normal ?_ | refine inBlockE_same ?_ | refine inBlockE_ret ?_ | refine inBlockE_ne (by rfl) ?_ | refine OW_eqlB (by with_reducible exact und_bool) rfl rfl ?_ | refine OW_neqB (by with_reducible exact und_bool) rfl rfl ?_ | refine OW_idxS (by with_reducible exact und_bytes) one_u8 rfl rfl _ rfl (by omega) ?_ | refine OW_idxS (by with_reducible exact und_bytess) one_bytes rfl rfl _ rfl (by omega) ?_ | refine OW_load1 (by first | with_reducible exact one_u8 | with_reducible exact one_bytes) rfl _ (by assumption) ?_)
         refine OW_nil ?_
         exact stay_mk _ _ _ _)
    | (apply OY_qtake _ rfl rfl
       · intro wd hwd
         (first | refine OW_sliceP h_slp_Tag rfl ?_ | (refine OW_isLoad ?_; refine OW_loadT s_agg_Tag rfl (by apply_assumption; assumption) (by assumption) ?_) | refine OW_moveV (.int _ _) rfl ?_ | refine OW_moveV (.slice _ _ _) rfl ?_ | refine OW_moveV (.bool _) rfl ?_ | refine OW_moveV (.pointer _) rfl ?_ | refine OW_moveV (.string _) rfl ?_ | refine OW_moveV (.agg _) rfl ?_ | refine OW_moveV (.tuple _) rfl ?_ | refine OW_nil ?_ | refine thenE_normal ?_ | refine CW_seq ?_ | refine CW_region (by kernel_rfl) ?_ | refine OW_assignV (.int _ _) rfl ?_ | refine OW_assignV (.slice _ _ _) rfl ?_ | refine OW_assignV (.bool _) rfl ?_ | refine OW_assignV (.pointer _) rfl ?_ | refine OW_assignV (.string _) rfl ?_ | refine OW_assignV (.agg _) rfl ?_ | refine OW_assignV (.tuple _) rfl ?_ | refine OW_addI rfl rfl (by omega) ?_ | refine OW_subI rfl rfl (by omega) ?_ | refine OW_mulI rfl rfl (by omega) ?_ | refine OW_lss rfl rfl ?_ | refine OW_extract rfl rfl ?_ | refine OW_gtr rfl rfl ?_ | refine OW_leq rfl rfl ?_ | refine OW_geq rfl rfl ?_ | refine OW_eql rfl rfl ?_ | refine OW_neq rfl rfl ?_ | refine OW_not rfl ?_ | refine OW_pickT rfl _ rfl ?_ | refine OW_pickF rfl (.bool _) rfl ?_ | refine OW_pickB rfl rfl rfl ?_ | refine OW_move ?_ | refine OW_assign ?_ | refine OW_pass rfl ?_ | refine OW_take rfl ?_ | refine OW_lenS (by first | with_reducible exact und_bytes | with_reducible exact und_bytess) rfl ?_ | refine OW_convInt (by first | with_reducible exact und_u8 | with_reducible exact und_u64 | with_reducible exact und_int | with_reducible exact und_u32) (by first | with_reducible exact und_u8 | with_reducible exact und_u64 | with_reducible exact und_int | with_reducible exact und_u32) rfl ?_ | refine OW_add rfl rfl ?_ | refine OW_sub rfl rfl ?_ | refine OW_mul rfl rfl ?_ | refine OW_min2 rfl rfl ?_ | refine OW_max2 rfl rfl ?_ | refine OW_neg rfl ?_ | refine CW_block ?_ | refine CW_condT rfl ?_ | refine CW_condF rfl ?_ | refine CW_exit ?_ | refine CW_ret ?_ | refine CW_skip ?_ | refine LW_seq ?_ | refine LW_regC ?_ | refine LW_condC ?_ | refine LW_regF ?_ | refine LW_condF ?_ | refine FW_seq ?_ | refine FW_region (by kernel_rfl) ?_ | refine FW_block ?_ | refine FW_condT rfl ?_ | refine FW_condF rfl ?_ | refine FW_exit ?_ | refine FW_ret ?_ | refine FW_skip ?_ | refine LW_ret ?_ | refine LW_skip ?_ | refine thenE_exit ?_ | refine thenE_ret ?_ | refine inBlockE_normal ?_ | refine inBlockE_same ?_ | refine inBlockE_ret ?_ | refine inBlockE_ne (by rfl) ?_ | refine OW_eqlB (by with_reducible exact und_bool) rfl rfl ?_ | refine OW_neqB (by with_reducible exact und_bool) rfl rfl ?_ | refine OW_idxS (by with_reducible exact und_bytes) one_u8 rfl rfl _ rfl (by omega) ?_ | refine OW_idxS (by with_reducible exact und_bytess) one_bytes rfl rfl _ rfl (by omega) ?_ | refine OW_load1 (by first | with_reducible exact one_u8 | with_reducible exact one_bytes) rfl _ (by assumption) ?_ | (refine OW_isLoad ?_; refine OW_loadBk (by first | with_reducible exact one_u8 | with_reducible exact one_bytes | with_reducible exact one_bool | with_reducible exact one_int | with_reducible exact one_errno | with_reducible exact one_u32 | with_reducible exact one_u64 | with_reducible exact one_string) rfl (by apply_assumption; assumption) _ (by first | assumption | rfl) ?_) | refine OW_load1 (by first | with_reducible exact one_u8 | with_reducible exact one_bytes | with_reducible exact one_bool | with_reducible exact one_int | with_reducible exact one_errno | with_reducible exact one_u32 | with_reducible exact one_u64 | with_reducible exact one_string) rfl _ (by apply_assumption; assumption) ?_)
         refine OW_nil ?_
         exact stay_mk _ _ _ _)
    | refine OY_a (actY_of rfl ?_)
    | refine OY_d (actY_of rfl ?_)
    | refine OY_a (actY_pass rfl rfl ?_)
    | refine OY_d (actY_pass rfl rfl ?_)
    | refine OY_a (actY_take rfl rfl ?_)
    | refine OY_d (actY_take rfl rfl ?_))
  exact hEnd.out) (k : B) : A := h ⟨k⟩
set_option maxHeartbeats 8000000 in
theorem hmacSum_any (w : World) (A B : Option Addr) (cA cB : Nat) (key b : List UInt8) (ha : Bs w A key) (hca : key.length ≤ cA) (hla : key.length ≤ 100000) (hb : Bs w B b) (hlb : b.length ≤ 100000) :
    Calls Try.prog 18 #[.slice A key.length cA, .slice B b.length cB] w (RetV w (.agg ((hmacL key b).map bv).toArray)) := by
  have hBl := keyB_length key
  obtain ⟨K, hK⟩ : ∃ K, keyB key = K := ⟨_, rfl⟩
  obtain ⟨X, hX⟩ : ∃ X, xorB 54 K = X := ⟨_, rfl⟩
  obtain ⟨Y, hY⟩ : ∃ Y, xorB 92 K = Y := ⟨_, rfl⟩
  obtain ⟨inner, hin⟩ : ∃ inner, shaL (X ++ b) = inner := ⟨_, rfl⟩
  obtain ⟨out, hout⟩ : ∃ out, shaL (Y ++ inner) = out := ⟨_, rfl⟩
  have hfin : hmacL key b = out := by rw [← hout, ← hin, ← hX, ← hY, ← hK]; rfl
  have hXl : X.length = 64 := by rw [← hX, xorB_length, ← hK]; exact hBl
  have hYl : Y.length = 64 := by rw [← hY, xorB_length, ← hK]; exact hBl
  have hinl : inner.length = 32 := by rw [← hin]; exact shaL_length _
  have hol : out.length = 32 := by rw [← hout]; exact shaL_length _
  have hKl : K.length = 64 := by rw [← hK]; exact hBl
  have hblk := fun w1 (hx : Ext w w1) => hblocks_any w1 A cA key (ha.ext hx) hca (by omega)
  have hb1 : ∀ (w2 : World) (x : UInt8) (xi : Int) (gk : Nat) (Ak : Option Addr) (ck : Nat), (x.toNat : Int) = xi → Blk w2 gk 22 #[.slice Ak K.length ck] → Bs w2 Ak K → Calls Try.prog 101 ([Value.int .u8 xi] ++ [Value.pointer (some ⟨gk, 0, none⟩)]).toArray w2 (RetBs 5 w2 (xorB x K)) := fun w2 x xi gk Ak ck hxi hbk hbsk => by
    subst hxi
    have h := hb1_any w2 x gk Ak ck K hbk hbsk (by omega)
    rw [show (#[.int .u8 (x.toNat : Int), .pointer (some ⟨gk, 0, none⟩)] : Array Value) = ([Value.int .u8 (x.toNat : Int)] ++ [Value.pointer (some ⟨gk, 0, none⟩)]).toArray from rfl] at h
    exact h
  have hs1 := fun w5 A5 c5 (hf5 : Bs w5 A5 (X ++ b)) => shaSum_any w5 A5 c5 (X ++ b) hf5 (by rw [List.length_append]; omega)
  have hs2 := fun w5 A5 c5 (hf5 : Bs w5 A5 (Y ++ inner)) => shaSum_any w5 A5 c5 (Y ++ inner) hf5 (by rw [List.length_append]; omega)
  rw [hK] at hblk
  rw [hin] at hs1
  rw [hout] at hs2
  rw [hfin]
  clear hfin hin hout hBl hK
  have hca2 : ∀ {w4 : World} {g3 c : Nat} {T : TypeId} {A3 : Option Addr} {c3 : Nat}, Blk w4 g3 T #[.slice A3 X.length c3, .slice B b.length cB] → Bs w4 A3 X → Bs w4 B b → Calls Try.prog 20 #[.slice (some ⟨g3, 0, none⟩) 2 c] w4 (RetBs 5 w4 (X ++ b)) := fun h1 h2 h3 => cat_lit2 h1 h2 rfl h3 rfl (by omega)
  have hca3 : ∀ {w4 : World} {g3 c : Nat} {T : TypeId} {A3 : Option Addr} {c3 g : Nat}, Blk w4 g3 T #[.slice A3 Y.length c3, .slice (some ⟨g, 0, none⟩) 32 32] → Bs w4 A3 Y → Bs w4 (some ⟨g, 0, none⟩) inner → Calls Try.prog 20 #[.slice (some ⟨g3, 0, none⟩) 2 c] w4 (RetBs 5 w4 (Y ++ inner)) := fun h1 h2 h3 => cat_lit2 h1 h2 rfl h3 hinl (by omega)
  clear ha hca hla
  refine calls_of_CW Try.func18 rfl (by simp [Try.ntmps18]) ?_
  rw [Try.ntmps18]
  refine go_Hm3 (k := ?_)
  refine OW_allocA s_agg_Tag ?_
  intro w1 g4 hb4 hg4 hl4 hx1
  refine go_Hm3 (k := ?_)
  refine OW_callC Try.func67 (by kernel_rfl) rfl (hblk w1 hx1) rfl ?_
  rintro en w2 ⟨gk, Ak, ck, rfl, hbk, hbsk, hx2⟩
  refine ⟨_, rfl, ?_⟩
  have hx02 := hx1.trans' hx2
  refine go_Hm3 (k := ?_)
  refine OW_callF Try.func101 (args' := [.int .u8 54]) (caps := [.pointer (some ⟨gk, 0, none⟩)]) (by kernel_rfl) rfl rfl (hb1 w2 54 54 gk Ak ck (by decide) hbk hbsk) rfl ?_
  rintro en w3 ⟨A3, c3, rfl, hf3⟩
  refine ⟨_, rfl, ?_⟩
  rw [hX] at hf3 ⊢
  have hx03 := hx02.trans' hf3.ext
  refine go_Hm3 (k := ?_)
  refine OW_lit [.slice A3 X.length c3, .slice B b.length cB] und_bytess info_bytes rfl rfl (by simp [Value.oneCell']) (by decide) ?_
  intro w4 g3 hb3 hg3 hx4
  refine go_Hm3 (k := ?_)
  refine OW_callBs Try.func20 (by kernel_rfl) rfl (hca2 hb3 (hf3.bs.ext hx4) (hb.ext (hx03.trans' hx4))) rfl ?_
  intro w5 A5 c5 hf5
  refine go_Hm3 (k := ?_)
  refine OW_callV Try.func19 (by kernel_rfl) rfl (hs1 w5 A5 c5 hf5.bs) rfl ?_
  intro w6 hx6
  refine go_Hm3 (k := ?_)
  refine OW_allocA s_agg_Tag ?_
  intro w7 g6 hb6 hg6 hl6 hx7
  have hilen : (inner.map bv).length = 32 := by rw [List.length_map, hinl]
  refine go_Hm3 (k := ?_)
  refine OW_storeA s_agg_Tag rfl (inner.map bv) rfl hilen hb6 rfl (bv_one _) ?_
  intro w8 hb8 hgr8
  have hx26 : Ext w2 w6 := ((hf3.ext.trans' hx4).trans' hf5.ext).trans' hx6
  have hx28 : Ext w2 w8 := below_only (hx26.trans' hx7) hgr8 (by have := hx26.size; omega) (hx26.trans' hx7).size
  have hx08 := hx02.trans' hx28
  have hbk8 := hbk.ext hx28
  have hbsk8 := hbsk.ext hx28
  have hb48 := (hb4.ext hx2).ext hx28
  have hi8 := bs_row hb8
  refine go_Hm3 (k := ?_)
  obtain ⟨C, hC⟩ : ∃ C : World → Prop, C = fun v => Ext w8 v := ⟨_, rfl⟩
  refine CW_tree2 [] (.p 0 (.p 2 (.d 1 (.d 3 (.d 4 (.d 5 (.d 6 .done))))))) (C) (by kernel_rfl) (by kernel_rfl) (by kernel_rfl) ?_ ?_
  · exact inE hC
  intro w9 hx9 h_C
  refine oy_Hm3 (k := ?_)
  refine OW_callF Try.func101 (args' := [.int .u8 92]) (caps := [.pointer (some ⟨gk, 0, none⟩)]) (by kernel_rfl) rfl rfl (hb1 w9 92 92 gk Ak ck (by decide) (hbk8.ext hx9) (hbsk8.ext hx9)) rfl ?_
  rintro en w10 ⟨A10, c10, rfl, hf10⟩
  refine ⟨_, rfl, ?_⟩
  rw [hY] at hf10 ⊢
  have hx10 := hx9.trans' hf10.ext
  first | refine OW_nil (goY_mkE hC (hx10) ?_) | refine OW_nil (goY_dropE hC (hx10) ?_)
  refine oy_Hm3 (k := ?_)
  refine OW_lit [.slice A10 Y.length c10, .slice (some ⟨g6, 0, none⟩) 32 32] und_bytess info_bytes rfl rfl (by simp [Value.oneCell']) (by decide) ?_
  intro w11 g11 hb11 hg11 hx11
  first | refine OW_nil (goY_mkE hC (hx10.trans' hx11) ?_) | refine OW_nil (goY_dropE hC (hx10.trans' hx11) ?_)
  refine oy_Hm3 (k := ?_)
  refine OW_callBs Try.func20 (by kernel_rfl) rfl (hca3 hb11 (hf10.bs.ext hx11) (hi8.ext (hx10.trans' hx11))) rfl ?_
  intro w12 A12 c12 hf12
  have hx12 := (hx10.trans' hx11).trans' hf12.ext
  first | refine OW_nil (goY_mkE hC (hx12) ?_) | refine OW_nil (goY_dropE hC (hx12) ?_)
  refine oy_Hm3 (k := ?_)
  refine OW_callV Try.func19 (by kernel_rfl) rfl (hs2 w12 A12 c12 hf12.bs) rfl ?_
  intro w13 hx13
  have hx13' := hx12.trans' hx13
  first | refine OW_nil (goY_mkE hC (hx13') ?_) | refine OW_nil (goY_dropE hC (hx13') ?_)
  refine oy_Hm3 (k := ?_)
  have holen : (out.map bv).length = 32 := by rw [List.length_map, hol]
  refine OW_storeA s_agg_Tag rfl (out.map bv) rfl holen (hb48.ext hx13') rfl (bv_one _) ?_
  intro w14 hb14 hgr14
  have hx013 := hx08.trans' hx13'
  refine OW_nil (goY_done ?_)
  refine go_Hm3 (k := ?_)
  exact bodyE_retc rfl s_agg_Tag rfl (out.map bv) holen hb14.range ⟨rfl, below_only hx013 hgr14 hg4 hx013.size⟩
set_option maxHeartbeats 8000000 in
theorem refHSum_any (w : World) (A B : Option Addr) (cA cB : Nat) (key b : List UInt8) (ha : Bs w A key) (hla : key.length ≤ 90000) (hb : Bs w B b) (hlb : b.length ≤ 90000) :
    Calls Try.prog 81 #[.slice A key.length cA, .slice B b.length cB] w (RetV w (.agg ((hmacL key b).map bv).toArray)) := by
  have hBl := keyB_length key
  obtain ⟨X, hX⟩ : ∃ X, xorB 54 (keyB key) = X := ⟨_, rfl⟩
  obtain ⟨Y, hY⟩ : ∃ Y, xorB 92 (keyB key) = Y := ⟨_, rfl⟩
  obtain ⟨inner, hin⟩ : ∃ inner, shaL (X ++ b) = inner := ⟨_, rfl⟩
  obtain ⟨out, hout⟩ : ∃ out, shaL (Y ++ inner) = out := ⟨_, rfl⟩
  have hfin : hmacL key b = out := by rw [← hout, ← hin, ← hX, ← hY]; rfl
  have hXl : X.length = 64 := by rw [← hX, xorB_length]; exact hBl
  have hYl : Y.length = 64 := by rw [← hY, xorB_length]; exact hBl
  have hinl : inner.length = 32 := by rw [← hin]; exact shaL_length _
  have hol : out.length = 32 := by rw [← hout]; exact shaL_length _
  have hb1 := fun (w2 : World) (hx : Ext w w2) => refBlock_any w2 A cA key 54 (ha.ext hx) (by omega)
  have hb2 := fun (w2 : World) (hx : Ext w w2) => refBlock_any w2 A cA key 92 (ha.ext hx) (by omega)
  have hs1 := fun w5 A5 c5 (hf5 : Bs w5 A5 (X ++ b)) => refSum_any w5 A5 c5 (X ++ b) hf5 (by rw [List.length_append]; omega)
  have hs2 := fun w5 A5 c5 (hf5 : Bs w5 A5 (Y ++ inner)) => refSum_any w5 A5 c5 (Y ++ inner) hf5 (by rw [List.length_append]; omega)
  have hct := fun w2 A2 c2 (hf2 : Bs w2 A2 X) (hb2 : Bs w2 B b) => refCat_any w2 A2 B X b c2 cB hf2 hb2 (by omega)
  have hct2 := fun w2 A2 c2 A3 c3 (hf2 : Bs w2 A2 Y) (hb2 : Bs w2 A3 inner) => refCat_any w2 A2 A3 Y inner c2 c3 hf2 hb2 (by omega)
  rw [hX] at hb1
  rw [hY] at hb2
  rw [hin] at hs1
  rw [hout] at hs2
  rw [hfin]
  clear hfin hin hout hBl ha hla
  refine calls_of_CW Try.func81 rfl (by simp [Try.ntmps81]) ?_
  rw [Try.ntmps81]
  refine go_Hm3 (k := ?_)
  refine OW_allocA s_agg_Tag ?_
  intro w1 g4 hb4 hg4 hl4 hx1
  refine go_Hm3 (k := ?_)
  refine OW_callBs Try.func104 (by kernel_rfl) rfl (hb1 w1 hx1) rfl ?_
  intro w2 A2 c2 hf2
  have hx02 := hx1.trans' hf2.ext
  refine go_Hm3 (k := ?_)
  refine OW_callBs Try.func74 (by kernel_rfl) rfl (hct w2 A2 c2 hf2.bs (hb.ext hx02)) rfl ?_
  intro w3 A3 c3 hf3
  refine go_Hm3 (k := ?_)
  refine OW_callV Try.func24 (by kernel_rfl) rfl (hs1 w3 A3 c3 hf3.bs) rfl ?_
  intro w4 hx4
  refine go_Hm3 (k := ?_)
  refine OW_allocA s_agg_Tag ?_
  intro w5 g5 hb5 hg5 hl5 hx5
  have hilen : (inner.map bv).length = 32 := by rw [List.length_map, hinl]
  refine go_Hm3 (k := ?_)
  refine OW_storeA s_agg_Tag rfl (inner.map bv) rfl hilen hb5 rfl (bv_one _) ?_
  intro w6 hb6 hgr6
  have hx14 : Ext w1 w4 := (hf2.ext.trans' hf3.ext).trans' hx4
  have hx16 : Ext w1 w6 := below_only (hx14.trans' hx5) hgr6 (by have := hx14.size; omega) (hx14.trans' hx5).size
  have hx06 := hx1.trans' hx16
  have hb46 := hb4.ext hx16
  refine go_Hm3 (k := ?_)
  obtain ⟨C, hC⟩ : ∃ C : World → Prop, C = fun v => Ext w6 v := ⟨_, rfl⟩
  have y_hb6 := blkE hC hb6
  refine CW_tree2 [2] (.p 0 (.q 2 (.a 1 (.d 3 (.d 4 (.d 5 (.d 6 .done))))))) (C) (by kernel_rfl) (by kernel_rfl) (by kernel_rfl) ?_ ?_
  · exact inE hC
  intro w9 hx9 h_C
  refine oy_Hm3 (k := ?_)
  refine OW_callBs Try.func104 (by kernel_rfl) rfl (hb2 w9 (hx06.trans' hx9)) rfl ?_
  intro w10 A10 c10 hf10
  have hx10 := hx9.trans' hf10.ext
  first | refine OW_nil (goY_mkE hC (hx10) ?_) | refine OW_nil (goY_dropE hC (hx10) ?_)
  refine oy_Hm3 (k := ?_)
  refine OW_callBs Try.func105 (by kernel_rfl) rfl (refBytes_any w10 inner hinl) rfl ?_
  intro w11 A11 c11 hf11
  have hx11 := hx10.trans' hf11.ext
  first | refine OW_nil (goY_mkE hC (hx11) ?_) | refine OW_nil (goY_dropE hC (hx11) ?_)
  refine oy_Hm3 (k := ?_)
  refine OW_callBs Try.func74 (by kernel_rfl) rfl (hct2 w11 A10 c10 A11 c11 (hf10.bs.ext hf11.ext) hf11.bs) rfl ?_
  intro w12 A12 c12 hf12
  have hx12 := hx11.trans' hf12.ext
  first | refine OW_nil (goY_mkE hC (hx12) ?_) | refine OW_nil (goY_dropE hC (hx12) ?_)
  refine oy_Hm3 (k := ?_)
  refine OW_callV Try.func24 (by kernel_rfl) rfl (hs2 w12 A12 c12 hf12.bs) rfl ?_
  intro w13 hx13
  have hx13' := hx12.trans' hx13
  first | refine OW_nil (goY_mkE hC (hx13') ?_) | refine OW_nil (goY_dropE hC (hx13') ?_)
  refine oy_Hm3 (k := ?_)
  have holen : (out.map bv).length = 32 := by rw [List.length_map, hol]
  refine OW_storeA s_agg_Tag rfl (out.map bv) rfl holen (hb46.ext hx13') rfl (bv_one _) ?_
  intro w14 hb14 hgr14
  have hx013 := hx06.trans' hx13'
  refine OW_nil (goY_done ?_)
  refine go_Hm3 (k := ?_)
  exact bodyE_retc rfl s_agg_Tag rfl (out.map bv) holen hb14.range ⟨rfl, below_only hx013 hgr14 hg4 hx013.size⟩
end Go.Proofs.Ytdpcahfgdpikfaa
