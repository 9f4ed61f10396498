/- Several texts in one, as they stand in wip/src. -/
import Derived.Test.YtnfeibbnjdegfaaGw1
import Derived.Test.YtnfeibbnjdegfaaGw2
import Derived.Test.YtnfeibbnjdegfaaGw3
/- The types' rows of SHA. -/
namespace Go.Proofs.Ytnfeibbnjdegfaa
open Go Go.RowKit
def tzS : List UInt8 := List.replicate 32 0
theorem one_u32 : OneT Try.prog 93 := ⟨.int .u32 0, 4, by kernel_rfl, rfl, by kernel_rfl⟩
theorem info_u32 : (Try.prog.info? 93).map (fun i => (i.zero, i.size, i.bytes)) = some (some (.int .u32 0), 1, 4) := by kernel_rfl
theorem s_int : OneT Try.prog 3 := ⟨.int .i64 0, 8, by kernel_rfl, rfl, by kernel_rfl⟩
theorem s_bool : OneT Try.prog 4 := ⟨.bool false, 1, by kernel_rfl, rfl, by kernel_rfl⟩
theorem s_errno : OneT Try.prog 29 := ⟨.int .i64 0, 8, by kernel_rfl, rfl, by kernel_rfl⟩
theorem s_hash : OneT Try.prog 112 := ⟨.pointer none, 8, by kernel_rfl, rfl, by kernel_rfl⟩
theorem und_u32s : Try.prog.underlying 116 = some (.slice 93) := Try.underlying116
theorem und_nums : Try.prog.underlying 121 = some (.array 8 93) := Try.underlying121
theorem und_w64 : Try.prog.underlying 131 = some (.array 64 93) := Try.underlying131
theorem s_und_Tag : Try.prog.underlying 103 = some (.array 32 5) := Try.underlying103
theorem agg_nums : AggT Try.prog 121 8 ((List.replicate 8 (0 : UInt32)).map uv) := ⟨⟨_, Try.underlying121, rfl⟩, by kernel_rfl, fun w => by kernel_rfl⟩
theorem agg_w64 : AggT Try.prog 131 64 ((List.replicate 64 (0 : UInt32)).map uv) := ⟨⟨_, Try.underlying131, rfl⟩, by kernel_rfl, fun w => by kernel_rfl⟩
theorem s_agg_Tag : AggT Try.prog 103 32 (tzS.map bv) := ⟨⟨_, Try.underlying103, rfl⟩, by kernel_rfl, fun w => by kernel_rfl⟩
theorem s_eqr_Tag : EqR Try.prog 103 32 := ⟨⟨⟨2, by decide, by kernel_rfl⟩, by kernel_rfl⟩, ⟨_, s_und_Tag, und_u8, by kernel_rfl⟩, by kernel_rfl⟩
theorem uv_one (l : List UInt32) : ∀ v ∈ l.map uv, v.oneCell' = true := by
  intro v hv
  obtain ⟨x, _, rfl⟩ := List.mem_map.1 hv
  rfl
end Go.Proofs.Ytnfeibbnjdegfaa

/- Walks: the functions of package words and of the reference 01, from the leaves up. -/
namespace Go.Proofs.Ytnfeibbnjdegfaa
open Go Go.RowKit
set_option linter.unusedVariables false

theorem go_Words1 {A B : Prop} (h : Held B → A := by
  intro hEnd
  repeat (first | refine OW_moveV (.int _ _) rfl ?_ | refine OW_moveV (.slice _ _ _) rfl ?_ | refine OW_moveV (.bool _) rfl ?_ | refine OW_moveV (.pointer _) rfl ?_ | refine OW_moveV (.string _) rfl ?_ | refine OW_moveV (.agg _) rfl ?_ | refine OW_moveV (.tuple _) rfl ?_ | refine OW_nil ?_ | refine thenE_normal ?_ | refine CW_seq ?_ | refine CW_region (by kernel_rfl) ?_ | refine OW_assignV (.int _ _) rfl ?_ | refine OW_assignV (.slice _ _ _) rfl ?_ | refine OW_assignV (.bool _) rfl ?_ | refine OW_assignV (.pointer _) rfl ?_ | refine OW_assignV (.string _) rfl ?_ | refine OW_assignV (.agg _) rfl ?_ | refine OW_assignV (.tuple _) rfl ?_ | refine OW_addI rfl rfl (by omega) ?_ | refine OW_subI rfl rfl (by omega) ?_ | refine OW_mulI rfl rfl (by omega) ?_ | refine OW_lss rfl rfl ?_ | refine OW_extract rfl rfl ?_ | refine OW_gtr rfl rfl ?_ | refine OW_leq rfl rfl ?_ | refine OW_geq rfl rfl ?_ | refine OW_eql rfl rfl ?_ | refine OW_neq rfl rfl ?_ | refine OW_not rfl ?_ | refine OW_pickT rfl _ rfl ?_ | refine OW_pickF rfl (.bool _) rfl ?_ | refine OW_pickB rfl rfl rfl ?_ | refine OW_move ?_ | refine OW_assign ?_ | refine OW_pass rfl ?_ | refine OW_take rfl ?_ | refine OW_lenS (by first | with_reducible exact und_bytes | with_reducible exact und_bytess) rfl ?_ | refine OW_convInt (by first | with_reducible exact und_u8 | with_reducible exact und_u64 | with_reducible exact und_int | with_reducible exact und_u32) (by first | with_reducible exact und_u8 | with_reducible exact und_u64 | with_reducible exact und_int | with_reducible exact und_u32) rfl ?_ | refine OW_add rfl rfl ?_ | refine OW_sub rfl rfl ?_ | refine OW_mul rfl rfl ?_ | refine OW_min2 rfl rfl ?_ | refine OW_max2 rfl rfl ?_ | refine OW_neg rfl ?_ | refine CW_block ?_ | refine CW_condT rfl ?_ | refine CW_condF rfl ?_ | refine CW_exit ?_ | refine CW_ret ?_ | refine CW_skip ?_ | refine LW_seq ?_ | refine LW_regC ?_ | refine LW_condC ?_ | refine LW_regF ?_ | refine LW_condF ?_ | refine FW_seq ?_ | refine FW_region (by kernel_rfl) ?_ | refine FW_block ?_ | refine FW_condT rfl ?_ | refine FW_condF rfl ?_ | refine FW_exit ?_ | refine FW_ret ?_ | refine FW_skip ?_ | refine LW_ret ?_ | refine LW_skip ?_ | refine thenE_exit ?_ | refine thenE_ret ?_ | refine inBlockE_normal ?_ | refine inBlockE_same ?_ | refine inBlockE_ret ?_ | refine inBlockE_ne (by rfl) ?_ | refine OW_eqlB (by with_reducible exact und_bool) rfl rfl ?_ | refine OW_neqB (by with_reducible exact und_bool) rfl rfl ?_ | refine OW_idxS (by with_reducible exact und_bytes) one_u8 rfl rfl _ rfl (by omega) ?_ | refine OW_idxS (by with_reducible exact und_bytess) one_bytes rfl rfl _ rfl (by omega) ?_ | refine OW_load1 (by first | with_reducible exact one_u8 | with_reducible exact one_bytes) rfl _ (by assumption) ?_)
  exact hEnd.out) (k : B) : A := h ⟨k⟩
theorem od_Words1 {A B : Prop} (h : Held B → A := by
  intro hEnd
  repeat (first
    | refine OD_pass rfl ?_
    | refine OD_take rfl ?_
    | (apply OD_step
       · intro wd hwd
         (first | refine OW_moveV (.int _ _) rfl ?_ | refine OW_moveV (.slice _ _ _) rfl ?_ | refine OW_moveV (.bool _) rfl ?_ | refine OW_moveV (.pointer _) rfl ?_ | refine OW_moveV (.string _) rfl ?_ | refine OW_moveV (.agg _) rfl ?_ | refine OW_moveV (.tuple _) rfl ?_ | refine OW_nil ?_ | refine thenE_normal ?_ | refine CW_seq ?_ | refine CW_region (by kernel_rfl) ?_ | refine OW_assignV (.int _ _) rfl ?_ | refine OW_assignV (.slice _ _ _) rfl ?_ | refine OW_assignV (.bool _) rfl ?_ | refine OW_assignV (.pointer _) rfl ?_ | refine OW_assignV (.string _) rfl ?_ | refine OW_assignV (.agg _) rfl ?_ | refine OW_assignV (.tuple _) rfl ?_ | refine OW_addI rfl rfl (by omega) ?_ | refine OW_subI rfl rfl (by omega) ?_ | refine OW_mulI rfl rfl (by omega) ?_ | refine OW_lss rfl rfl ?_ | refine OW_extract rfl rfl ?_ | refine OW_gtr rfl rfl ?_ | refine OW_leq rfl rfl ?_ | refine OW_geq rfl rfl ?_ | refine OW_eql rfl rfl ?_ | refine OW_neq rfl rfl ?_ | refine OW_not rfl ?_ | refine OW_pickT rfl _ rfl ?_ | refine OW_pickF rfl (.bool _) rfl ?_ | refine OW_pickB rfl rfl rfl ?_ | refine OW_move ?_ | refine OW_assign ?_ | refine OW_pass rfl ?_ | refine OW_take rfl ?_ | refine OW_lenS (by first | with_reducible exact und_bytes | with_reducible exact und_bytess) rfl ?_ | refine OW_convInt (by first | with_reducible exact und_u8 | with_reducible exact und_u64 | with_reducible exact und_int | with_reducible exact und_u32) (by first | with_reducible exact und_u8 | with_reducible exact und_u64 | with_reducible exact und_int | with_reducible exact und_u32) rfl ?_ | refine OW_add rfl rfl ?_ | refine OW_sub rfl rfl ?_ | refine OW_mul rfl rfl ?_ | refine OW_min2 rfl rfl ?_ | refine OW_max2 rfl rfl ?_ | refine OW_neg rfl ?_ | refine CW_block ?_ | refine CW_condT rfl ?_ | refine CW_condF rfl ?_ | refine CW_exit ?_ | refine CW_ret ?_ | refine CW_skip ?_ | refine LW_seq ?_ | refine LW_regC ?_ | refine LW_condC ?_ | refine LW_regF ?_ | refine LW_condF ?_ | refine FW_seq ?_ | refine FW_region (by kernel_rfl) ?_ | refine FW_block ?_ | refine FW_condT rfl ?_ | refine FW_condF rfl ?_ | refine FW_exit ?_ | refine FW_ret ?_ | refine FW_skip ?_ | refine LW_ret ?_ | refine LW_skip ?_ | refine thenE_exit ?_ | refine thenE_ret ?_ | refine inBlockE_normal ?_ | refine inBlockE_same ?_ | refine inBlockE_ret ?_ | refine inBlockE_ne (by rfl) ?_ | refine OW_eqlB (by with_reducible exact und_bool) rfl rfl ?_ | refine OW_neqB (by with_reducible exact und_bool) rfl rfl ?_ | refine OW_idxS (by with_reducible exact und_bytes) one_u8 rfl rfl _ rfl (by omega) ?_ | refine OW_idxS (by with_reducible exact und_bytess) one_bytes rfl rfl _ rfl (by omega) ?_ | refine OW_load1 (by first | with_reducible exact one_u8 | with_reducible exact one_bytes) rfl _ (by assumption) ?_ | refine OW_load1 (by with_reducible exact one_u8) rfl _ (by first | exact hwd.cell' (by assumption) | (subst hwd; assumption)) ?_)
         refine OW_nil ?_
         exact stay_mk _ _ _ _))
  exact hEnd.out) (k : B) : A := h ⟨k⟩
set_option maxHeartbeats 8000000 in
theorem refCat_any (w : World) (A B : Option Addr) (a b : List UInt8) (c c' : Nat) (ha : Bs w A a) (hb : Bs w B b) (hl : a.length + b.length ≤ 1000000) :
    Calls Try.prog 74 #[.slice A a.length c, .slice B b.length c'] w (RetBs 5 w (a ++ b)) := by
  refine calls_of_CW Try.func74 rfl (by simp [Try.ntmps74]) ?_
  rw [Try.ntmps74]
  refine go_Words1 (k := ?_)
  refine OW_append0 (base := w.heap.size) und_bytes info_u8 rfl rfl rfl ha (by simp) (bv_one _) (by unfold maxLen; omega) (by omega) (Nat.le_refl _) ?_
  intro w1 A1 c1 ho1 hb1
  refine go_Words1 (k := ?_)
  refine OW_append und_bytes info_u8 rfl rfl rfl ho1 (hb.ext hb1) (by simp) (bv_one _) (by unfold maxLen; omega) (by omega) hb1.size ?_
  intro w2 A2 c2 ho2 hb2
  refine go_Words1 (k := ?_)
  refine bodyE_ret1 rfl (.slice _ _ _) rfl ?_
  exact ⟨A2, c2, by simp, by simpa using ho2, hb1.trans hb2⟩

set_option maxHeartbeats 8000000 in
theorem refCopy_any (w : World) (A : Option Addr) (a : List UInt8) (c : Nat) (ha : Bs w A a) (hl : a.length ≤ 1000000) :
    Calls Try.prog 57 #[.slice A a.length c] w (RetBs 5 w a) := by
  refine calls_of_CW Try.func57 rfl (by simp [Try.ntmps57]) ?_
  rw [Try.ntmps57]
  refine go_Words1 (k := ?_)
  refine OW_callBs Try.func74 (by kernel_rfl) rfl (refCat_any w A none a [] c 0 ha (Bs.nil _ _) (by simpa using hl)) rfl ?_
  intro w1 A1 c1 h1
  rw [List.append_nil] at h1 ⊢
  refine go_Words1 (k := ?_)
  exact bodyE_ret1 rfl (.slice A1 a.length c1) rfl ⟨A1, c1, rfl, h1⟩

def sameUpTo (a b : List UInt8) (k : Nat) : Prop := ∀ j, j < k → a[j]? = b[j]?
theorem same_all {a b : List UInt8} (h : sameUpTo a b a.length) (hl : a.length = b.length) : a = b := by
  apply List.ext_getElem?
  intro j
  by_cases hj : j < a.length
  · exact h j hj
  · rw [List.getElem?_eq_none (by omega), List.getElem?_eq_none (by omega)]
theorem bv_inj {x y : UInt8} (h : (x.toNat : Int) = y.toNat) : x = y := UInt8.toNat_inj.1 (by omega)
set_option maxHeartbeats 8000000 in
theorem refSame_any (w : World) (A B : Option Addr) (a b : List UInt8) (c c' : Nat) (ha : Bs w A a) (hb : Bs w B b) (hl : a.length ≤ 1000000 ∧ b.length ≤ 1000000) :
    Calls Try.prog 32 #[.slice A a.length c, .slice B b.length c'] w (RetV w (.bool (a == b))) := by
  refine calls_of_CW Try.func32 rfl (by simp [Try.ntmps32]) ?_
  rw [Try.ntmps32]
  refine go_Words1 (k := ?_)
  refine CW_cond _ rfl (fun hne => ?_) (fun heq => ?_)
  · have hr : (a == b) = false := by
      rw [beq_eq_false_iff_ne]; rintro rfl; simp at hne
    refine go_Words1 (k := ?_)
    exact bodyE_ret1 rfl (.bool false) rfl ⟨by rw [hr], Ext.rfl' w⟩
  · have hlen : a.length = b.length := by simp at heq; omega
    refine go_Words1 (k := ?_)
    refine CW_loop (fun e' w' => ∃ k : Nat, k ≤ a.length ∧ e' 0 = .slice A a.length c ∧ e' 1 = .slice B b.length c' ∧ e' 5 = .int .i64 k ∧ sameUpTo a b k ∧ Ext w w') (fun e' _ => a.length - (intOf (e' 5)).toNat) ?_ ?_
    · exact ⟨0, Nat.zero_le _, rfl, rfl, rfl, fun j h => by omega, Ext.rfl' w⟩
    · rintro e' w' ⟨k, hk, e0, e1, e5, hs, hw⟩
      rw [upd_self e0, upd_self e1, upd_self e5]
      have hA := ha.ext hw
      have hB := hb.ext hw
      refine go_Words1 (k := ?_)
      refine CW_cond _ rfl (fun h => ?_) (fun h => ?_)
      · have hlt : k < a.length := by simpa using h
        obtain ⟨ad, hA1, hcA⟩ := hA.at_ hlt
        obtain ⟨bd, hB1, hcB⟩ := hB.at_ (show k < b.length by omega)
        subst hA1; subst hB1
        refine go_Words1 (k := ?_)
        refine CW_draw (by kernel_rfl) (by kernel_rfl) (by kernel_rfl) ?_
        refine od_Words1 (k := ?_)
        refine OD_nil ?_
        intro w1 hw1
        refine go_Words1 (k := ?_)
        refine CW_cond _ rfl (fun hne => ?_) (fun heq => ?_)
        · have hr : (a == b) = false := by
            rw [beq_eq_false_iff_ne]; rintro rfl; simp at hne
          refine go_Words1 (k := ?_)
          exact bodyE_ret1 rfl (.bool false) rfl ⟨by rw [hr], hw.trans' hw1⟩
        · have hx : a[k]'hlt = b[k]'(by omega) := bv_inj (by simpa using heq)
          refine go_Words1 (k := ?_)
          refine ⟨⟨k + 1, by omega, rfl, rfl, rfl, ?_, hw.trans' hw1⟩, ?_⟩
          · intro j hj
            by_cases hjk : j = k
            · subst hjk
              rw [List.getElem?_eq_getElem hlt, List.getElem?_eq_getElem (by omega), hx]
            · exact hs j (by omega)
          · show a.length - ((k : Int) + 1).toNat < a.length - (k : Int).toNat
            omega
      · have hge : k = a.length := by
          have : ¬ k < a.length := by simpa using h
          omega
        have hr : (a == b) = true := by
          rw [beq_iff_eq]; exact same_all (hge ▸ hs) hlen
        refine go_Words1 (k := ?_)
        exact bodyE_ret1 rfl (.bool true) rfl ⟨by rw [hr], hw⟩
end Go.Proofs.Ytnfeibbnjdegfaa

/- Walks: the reference 01's numbers. -/
namespace Go.Proofs.Ytnfeibbnjdegfaa
open Go Go.RowKit
set_option linter.unusedVariables false

theorem go_Words3 {A B : Prop} (h : Held B → A := by
  intro hEnd
  repeat (first | refine OW_moveV (.int _ _) rfl ?_ | refine OW_moveV (.slice _ _ _) rfl ?_ | refine OW_moveV (.bool _) rfl ?_ | refine OW_moveV (.pointer _) rfl ?_ | refine OW_moveV (.string _) rfl ?_ | refine OW_moveV (.agg _) rfl ?_ | refine OW_moveV (.tuple _) rfl ?_ | refine OW_nil ?_ | refine thenE_normal ?_ | refine CW_seq ?_ | refine CW_region (by kernel_rfl) ?_ | refine OW_assignV (.int _ _) rfl ?_ | refine OW_assignV (.slice _ _ _) rfl ?_ | refine OW_assignV (.bool _) rfl ?_ | refine OW_assignV (.pointer _) rfl ?_ | refine OW_assignV (.string _) rfl ?_ | refine OW_assignV (.agg _) rfl ?_ | refine OW_assignV (.tuple _) rfl ?_ | refine OW_addI rfl rfl (by omega) ?_ | refine OW_subI rfl rfl (by omega) ?_ | refine OW_mulI rfl rfl (by omega) ?_ | refine OW_lss rfl rfl ?_ | refine OW_extract rfl rfl ?_ | refine OW_gtr rfl rfl ?_ | refine OW_leq rfl rfl ?_ | refine OW_geq rfl rfl ?_ | refine OW_eql rfl rfl ?_ | refine OW_neq rfl rfl ?_ | refine OW_not rfl ?_ | refine OW_pickT rfl _ rfl ?_ | refine OW_pickF rfl (.bool _) rfl ?_ | refine OW_pickB rfl rfl rfl ?_ | refine OW_move ?_ | refine OW_assign ?_ | refine OW_pass rfl ?_ | refine OW_take rfl ?_ | refine OW_lenS (by first | with_reducible exact und_bytes | with_reducible exact und_bytess) rfl ?_ | refine OW_convInt (by first | with_reducible exact und_u8 | with_reducible exact und_u64 | with_reducible exact und_int | with_reducible exact und_u32) (by first | with_reducible exact und_u8 | with_reducible exact und_u64 | with_reducible exact und_int | with_reducible exact und_u32) rfl ?_ | refine OW_add rfl rfl ?_ | refine OW_sub rfl rfl ?_ | refine OW_mul rfl rfl ?_ | refine OW_min2 rfl rfl ?_ | refine OW_max2 rfl rfl ?_ | refine OW_neg rfl ?_ | refine CW_block ?_ | refine CW_condT rfl ?_ | refine CW_condF rfl ?_ | refine CW_exit ?_ | refine CW_ret ?_ | refine CW_skip ?_ | refine LW_seq ?_ | refine LW_regC ?_ | refine LW_condC ?_ | refine LW_regF ?_ | refine LW_condF ?_ | refine FW_seq ?_ | refine FW_region (by kernel_rfl) ?_ | refine FW_block ?_ | refine FW_condT rfl ?_ | refine FW_condF rfl ?_ | refine FW_exit ?_ | refine FW_ret ?_ | refine FW_skip ?_ | refine LW_ret ?_ | refine LW_skip ?_ | refine thenE_exit ?_ | refine thenE_ret ?_ | refine inBlockE_normal ?_ | refine inBlockE_same ?_ | refine inBlockE_ret ?_ | refine inBlockE_ne (by rfl) ?_ | refine OW_eqlB (by with_reducible exact und_bool) rfl rfl ?_ | refine OW_neqB (by with_reducible exact und_bool) rfl rfl ?_ | refine OW_idxS (by with_reducible exact und_bytes) one_u8 rfl rfl _ rfl (by omega) ?_ | refine OW_idxS (by with_reducible exact und_bytess) one_bytes rfl rfl _ rfl (by omega) ?_ | refine OW_load1 (by first | with_reducible exact one_u8 | with_reducible exact one_bytes) rfl _ (by assumption) ?_)
  exact hEnd.out) (k : B) : A := h ⟨k⟩
/-- n places, noughts coming in. -/
def shrS (x : Nat) (n : Int) : Nat := x / 2 ^ (min n.toNat 32)
set_option maxHeartbeats 8000000 in
theorem refLoad_any (w : World) (A : Option Addr) (b : List UInt8) (c : Nat) (at_ n : Int) (nN : Nat) (hnn : n = (nN : Int)) (h8 : nN ≤ 8) (ha : Bs w A b) (hl : b.length ≤ 1000000) (hat : -9223372036854775808 ≤ at_ ∧ at_ ≤ 9223372036854775807) :
    Calls Try.prog 81 #[.slice A b.length c, .int .i64 at_, .int .i64 n] w (RetV w (.tuple #[.int .u64 (ldV b at_ nN), .bool (ldB b at_ nN)])) := by
  subst hnn
  have hno : ¬ (0 ≤ at_ ∧ at_.toNat + nN ≤ b.length) → ldV b at_ nN = 0 ∧ ldB b at_ nN = false := fun h => by simp [ldV, ldB, ldL, h]
  have hyes : (0 ≤ at_ ∧ at_.toNat + nN ≤ b.length) → ldV b at_ nN = loadL ((b.drop at_.toNat).take nN) ∧ ldB b at_ nN = true := fun h => by simp [ldV, ldB, ldL, h]
  refine calls_of_CW Try.func81 rfl (by simp [Try.ntmps81]) ?_
  rw [Try.ntmps81]
  refine go_Words3 (k := ?_)
  refine OW_split 12 _ rfl (fun h1 => ?_) (fun h1 => ?_)
  · have h1 : at_ < 0 := by simpa using h1
    obtain ⟨r1, r2⟩ := hno (by omega)
    refine go_Words3 (k := ?_)
    exact bodyE_ret2 rfl (.int .u64 0) (.bool false) rfl rfl ⟨by rw [r1, r2]; rfl, Ext.rfl' w⟩
  · have h1 : 0 ≤ at_ := by simp at h1; omega
    refine go_Words3 (k := ?_)
    refine OW_split 18 _ rfl (fun h2 => ?_) (fun h2 => ?_)
    · have h2 : (b.length : Int) < at_ := by simpa using h2
      obtain ⟨r1, r2⟩ := hno (by omega)
      refine go_Words3 (k := ?_)
      exact bodyE_ret2 rfl (.int .u64 0) (.bool false) rfl rfl ⟨by rw [r1, r2]; rfl, Ext.rfl' w⟩
    · have h2 : at_ ≤ (b.length : Int) := by simp at h2; omega
      refine go_Words3 (k := ?_)
      refine CW_cond _ rfl (fun h3 => ?_) (fun h3 => ?_)
      · have h3 : (b.length : Int) - at_ < nN := by simpa using h3
        obtain ⟨r1, r2⟩ := hno (by omega)
        refine go_Words3 (k := ?_)
        exact bodyE_ret2 rfl (.int .u64 0) (.bool false) rfl rfl ⟨by rw [r1, r2]; rfl, Ext.rfl' w⟩
      · have h3 : (nN : Int) ≤ b.length - at_ := by simp at h3; omega
        obtain ⟨r1, r2⟩ := hyes (by omega)
        obtain ⟨p, rfl⟩ := Int.eq_ofNat_of_zero_le h1
        simp only [Int.toNat_natCast] at *
        refine go_Words3 (k := ?_)
        refine CW_loop (fun e' w' => ∃ k : Nat, k ≤ nN ∧ e' 0 = .slice A b.length c ∧ e' 1 = .int .i64 p ∧ e' 2 = .int .i64 nN ∧ e' 8 = .int .u64 (loadL ((b.drop p).take k) : Nat) ∧ e' 9 = .int .i64 ((p : Int) + k) ∧ Ext w w') (fun e' _ => p + nN - (intOf (e' 9)).toNat) ?_ ?_
        · exact ⟨0, Nat.zero_le _, rfl, rfl, rfl, rfl, by simp; rfl, Ext.rfl' w⟩
        · rintro e' w' ⟨k, hk, e0, e1, e2, e8, e9, hw⟩
          rw [upd_self e0, upd_self e1, upd_self e2, upd_self e8, upd_self e9]
          have hlen : ((b.drop p).take k).length = k := by simp; omega
          have hlt64 : loadL ((b.drop p).take k) < 256 ^ k := by have := loadL_lt ((b.drop p).take k); rwa [hlen] at this
          refine go_Words3 (k := ?_)
          refine CW_cond _ rfl (fun h => ?_) (fun h => ?_)
          · have hlt : k < nN := by simp at h; omega
            have hp : p + k < b.length := by omega
            obtain ⟨ad, hA1, hcA⟩ := (ha.ext hw).at_ hp
            subst hA1
            have hpow : (256 : Nat) ^ k ≤ 256 ^ 7 := Nat.pow_le_pow_right (by decide) (by omega)
            have hsn : loadL ((b.drop p).take (k + 1)) = 256 * loadL ((b.drop p).take k) + (b[p + k]'hp).toNat := by
              rw [take_succ_get _ _ (by simp; omega), loadL_snoc]
              simp
            have hbl := (b[p + k]'hp).toNat_lt
            generalize loadL ((b.drop p).take k) = y at *
            have hy : y < 72057594037927936 := Nat.lt_of_lt_of_le hlt64 hpow
            refine go_Words3 (k := ?_)
            rw [show (256 : Int) * (y : Int) = ((256 * y : Nat) : Int) by omega, wrap_u64_lt (256 * y) (by omega), wrap_u64_lt (b[p + k]'hp).toNat (by omega),
              show ((256 * y : Nat) : Int) + ((b[p + k]'hp).toNat : Int) = ((256 * y + (b[p + k]'hp).toNat : Nat) : Int) by omega, wrap_u64_lt _ (by omega), ← hsn]
            refine ⟨⟨k + 1, by omega, rfl, rfl, rfl, rfl, ?_, hw⟩, ?_⟩
            · show Value.int .i64 ((p : Int) + k + 1) = .int .i64 ((p : Int) + ((k + 1 : Nat) : Int))
              congr 1
            · show p + nN - ((p : Int) + k + 1).toNat < p + nN - ((p : Int) + k).toNat
              omega
          · have hge : k = nN := by
              simp at h
              omega
            subst hge
            refine go_Words3 (k := ?_)
            exact bodyE_ret2 rfl (.int .u64 (loadL ((b.drop p).take k) : Nat)) (.bool true) rfl rfl ⟨by rw [r1, r2], hw⟩
end Go.Proofs.Ytnfeibbnjdegfaa

/- Walks: package words. -/
namespace Go.Proofs.Ytnfeibbnjdegfaa
open Go Go.RowKit
set_option linter.unusedVariables false

theorem go_Words4 {A B : Prop} (h : Held B → A := by
  intro hEnd
  repeat (first | refine OW_moveV (.int _ _) rfl ?_ | refine OW_moveV (.slice _ _ _) rfl ?_ | refine OW_moveV (.bool _) rfl ?_ | refine OW_moveV (.pointer _) rfl ?_ | refine OW_moveV (.string _) rfl ?_ | refine OW_moveV (.agg _) rfl ?_ | refine OW_moveV (.tuple _) rfl ?_ | refine OW_nil ?_ | refine thenE_normal ?_ | refine CW_seq ?_ | refine CW_region (by kernel_rfl) ?_ | refine OW_assignV (.int _ _) rfl ?_ | refine OW_assignV (.slice _ _ _) rfl ?_ | refine OW_assignV (.bool _) rfl ?_ | refine OW_assignV (.pointer _) rfl ?_ | refine OW_assignV (.string _) rfl ?_ | refine OW_assignV (.agg _) rfl ?_ | refine OW_assignV (.tuple _) rfl ?_ | refine OW_addI rfl rfl (by omega) ?_ | refine OW_subI rfl rfl (by omega) ?_ | refine OW_mulI rfl rfl (by omega) ?_ | refine OW_lss rfl rfl ?_ | refine OW_extract rfl rfl ?_ | refine OW_gtr rfl rfl ?_ | refine OW_leq rfl rfl ?_ | refine OW_geq rfl rfl ?_ | refine OW_eql rfl rfl ?_ | refine OW_neq rfl rfl ?_ | refine OW_not rfl ?_ | refine OW_pickT rfl _ rfl ?_ | refine OW_pickF rfl (.bool _) rfl ?_ | refine OW_pickB rfl rfl rfl ?_ | refine OW_move ?_ | refine OW_assign ?_ | refine OW_pass rfl ?_ | refine OW_take rfl ?_ | refine OW_lenS (by first | with_reducible exact und_bytes | with_reducible exact und_bytess) rfl ?_ | refine OW_convInt (by first | with_reducible exact und_u8 | with_reducible exact und_u64 | with_reducible exact und_int | with_reducible exact und_u32) (by first | with_reducible exact und_u8 | with_reducible exact und_u64 | with_reducible exact und_int | with_reducible exact und_u32) rfl ?_ | refine OW_add rfl rfl ?_ | refine OW_sub rfl rfl ?_ | refine OW_mul rfl rfl ?_ | refine OW_min2 rfl rfl ?_ | refine OW_max2 rfl rfl ?_ | refine OW_neg rfl ?_ | refine CW_block ?_ | refine CW_condT rfl ?_ | refine CW_condF rfl ?_ | refine CW_exit ?_ | refine CW_ret ?_ | refine CW_skip ?_ | refine LW_seq ?_ | refine LW_regC ?_ | refine LW_condC ?_ | refine LW_regF ?_ | refine LW_condF ?_ | refine FW_seq ?_ | refine FW_region (by kernel_rfl) ?_ | refine FW_block ?_ | refine FW_condT rfl ?_ | refine FW_condF rfl ?_ | refine FW_exit ?_ | refine FW_ret ?_ | refine FW_skip ?_ | refine LW_ret ?_ | refine LW_skip ?_ | refine thenE_exit ?_ | refine thenE_ret ?_ | refine inBlockE_normal ?_ | refine inBlockE_same ?_ | refine inBlockE_ret ?_ | refine inBlockE_ne (by rfl) ?_ | refine OW_eqlB (by with_reducible exact und_bool) rfl rfl ?_ | refine OW_neqB (by with_reducible exact und_bool) rfl rfl ?_ | refine OW_idxS (by with_reducible exact und_bytes) one_u8 rfl rfl _ rfl (by omega) ?_ | refine OW_idxS (by with_reducible exact und_bytess) one_bytes rfl rfl _ rfl (by omega) ?_ | refine OW_load1 (by first | with_reducible exact one_u8 | with_reducible exact one_bytes) rfl _ (by assumption) ?_)
  exact hEnd.out) (k : B) : A := h ⟨k⟩
set_option maxHeartbeats 8000000 in
theorem rotL_any (w : World) (x : Nat) (k : Int) (hx : x < 4294967296) (hk : -9223372036854775808 ≤ k ∧ k ≤ 9223372036854775807) :
    Calls Try.prog 104 #[.int .u32 x, .int .i64 k] w (RetV w (.int .u32 (rotS x ((32 - (k % 32).toNat) % 32) : Nat))) := by
  have hu : IntKind.u64.wrap k = (((k % 18446744073709551616).toNat : Nat) : Int) := by
    simp only [IntKind.wrap, IntKind.signed, IntKind.bits]
    simp
    omega
  have hs : (k % 18446744073709551616).toNat % 32 = (k % 32).toNat := by omega
  have hsl : (k % 32).toNat < 32 := by omega
  generalize hS : (k % 32).toNat = s at *
  refine calls_of_CW Try.func104 rfl (by simp [Try.ntmps104]) ?_
  rw [Try.ntmps104]
  refine go_Words4 (k := ?_)
  refine OW_convInt und_int und_uint rfl ?_
  rw [hu]
  refine go_Words4 (k := ?_)
  refine OW_and rfl rfl (s : Nat) ?_ ?_
  · rw [show (31 : Int) = ((31 : Nat) : Int) from rfl, and_u64 _ _ (by omega) (by omega), show (31 : Nat) = 2 ^ 5 - 1 from rfl, Nat.and_two_pow_sub_one_eq_mod, ← hs]
  refine go_Words4 (k := ?_)
  refine OW_shl rfl rfl (by omega) ((x * 2 ^ s % 4294967296 : Nat) : Int) ?_ ?_
  · rw [show min ((s : Int)).toNat IntKind.u32.bits = s by simp [IntKind.bits]; omega, show (x : Int) * 2 ^ s = ((x * 2 ^ s : Nat) : Int) by rw [Int.natCast_mul, Int.natCast_pow]; rfl, wrap_u32]
  refine go_Words4 (k := ?_)
  rw [show (32 : Int) - (s : Int) = ((32 - s : Nat) : Int) by omega, wrap_u64_lt _ (by omega)]
  refine OW_shr rfl rfl (by omega) ((x / 2 ^ (32 - s) : Nat) : Int) ?_ ?_
  · rw [show min (((32 - s : Nat) : Int)).toNat IntKind.u32.bits = 32 - s by simp [IntKind.bits], show (2 : Int) ^ (32 - s) = ((2 ^ (32 - s) : Nat) : Int) by rw [Int.natCast_pow]; rfl, fdiv_nat]
  refine OW_or rfl rfl (rotS x ((32 - s) % 32) : Nat) ?_ ?_
  · rw [or_u32 _ _ (Nat.mod_lt _ (by decide)) (Nat.lt_of_le_of_lt (Nat.div_le_self _ _) hx), rot_or hx hsl]
  refine go_Words4 (k := ?_)
  exact bodyE_ret1 rfl (.int .u32 (rotS x ((32 - s) % 32) : Nat)) rfl ⟨rfl, Ext.rfl' w⟩

set_option maxHeartbeats 8000000 in
theorem rotr_any (w : World) (x : Nat) (n : Int) (hx : x < 4294967296) (hn : -9223372036854775808 ≤ n ∧ n ≤ 9223372036854775807) :
    Calls Try.prog 102 #[.int .u32 x, .int .i64 n] w (RetV w (.int .u32 (rotS x (rotK n)))) := by
  have hm : -31 ≤ n.tmod 32 ∧ n.tmod 32 ≤ 31 := by rw [tmod32]; split <;> omega
  have he : (32 - ((0 - n.tmod 32) % 32).toNat) % 32 = rotK n := by unfold rotK; rw [tmod32]; split <;> omega
  refine calls_of_CW Try.func102 rfl (by simp [Try.ntmps102]) ?_
  rw [Try.ntmps102]
  refine go_Words4 (k := ?_)
  refine OW_rem rfl rfl (by decide) ?_
  refine go_Words4 (k := ?_)
  rw [wrap64_in (show _ ∧ _ by omega)]
  refine OW_callV Try.func104 (by kernel_rfl) rfl (rotL_any w x (0 - n.tmod 32) hx (by omega)) rfl ?_
  intro w1 hw1
  rw [he]
  refine go_Words4 (k := ?_)
  exact bodyE_ret1 rfl (.int .u32 (rotS x (rotK n) : Nat)) rfl ⟨rfl, hw1⟩

set_option maxHeartbeats 8000000 in
theorem shr_any (w : World) (x : Nat) (n : Int) (hx : x < 4294967296) (hn : -9223372036854775808 ≤ n ∧ n ≤ 9223372036854775807) :
    Calls Try.prog 103 #[.int .u32 x, .int .i64 n] w (RetV w (.int .u32 (shrS x n))) := by
  refine calls_of_CW Try.func103 rfl (by simp [Try.ntmps103]) ?_
  rw [Try.ntmps103]
  refine go_Words4 (k := ?_)
  refine OW_shr rfl rfl (by split <;> omega) (shrS x n : Nat) ?_ ?_
  · unfold shrS
    rw [show min (if n < 0 then (0 : Int) else n).toNat IntKind.u32.bits = min n.toNat 32 by simp only [IntKind.bits]; split <;> omega, show (2 : Int) ^ (min n.toNat 32) = ((2 ^ (min n.toNat 32) : Nat) : Int) by rw [Int.natCast_pow]; rfl, fdiv_nat]
  refine go_Words4 (k := ?_)
  exact bodyE_ret1 rfl (.int .u32 (shrS x n : Nat)) rfl ⟨rfl, Ext.rfl' w⟩

theorem putL_get {x n i : Nat} (hi : i < n) : (putL x n)[i]? = some (UInt8.ofNat (x / 256 ^ (n - 1 - i))) := by
  unfold putL
  rw [List.getElem?_map, List.getElem?_range hi]
  rfl
set_option maxHeartbeats 8000000 in
theorem put_any (w : World) (x : Nat) (n : Int) (nN : Nat) (hnn : n = (nN : Int)) (h8 : nN ≤ 8) (hx : x < 18446744073709551616) :
    Calls Try.prog 79 #[.int .u64 x, .int .i64 n] w (RetBs 5 w (putL x nN)) := by
  subst hnn
  refine calls_of_CW Try.func79 rfl (by simp [Try.ntmps79]) ?_
  rw [Try.ntmps79]
  refine go_Words4 (k := ?_)
  refine OW_make (n := nN) und_bytes info_u8 rfl rfl rfl rfl rfl (by omega) (by unfold maxLen; omega) ?_
  intro w1 g hb1 hg1 hx1
  refine go_Words4 (k := ?_)
  refine CW_loop (fun e' w' => ∃ (k : Nat) (cs : Array Value), k ≤ nN ∧ e' 0 = .int .u64 x ∧ e' 1 = .int .i64 nN ∧ e' 5 = .slice (some ⟨g, 0, none⟩) nN nN ∧ e' 9 = .int .i64 nN ∧ e' 10 = .int .i64 k ∧
      Blk w' g 5 cs ∧ cs.size = nN ∧ (∀ j, nN - k ≤ j → j < nN → cs[j]? = ((putL x nN).map bv)[j]?) ∧ Ext w w') (fun e' _ => nN - (intOf (e' 10)).toNat) ?_ ?_
  · exact ⟨0, _, Nat.zero_le _, rfl, rfl, rfl, rfl, rfl, hb1, by simp, fun j h1 h2 => by omega, hx1⟩
  · rintro e' w' ⟨k, cs, hk, e0, e1, e5, e9, e10, hb, hsz, hcs, hw⟩
    rw [upd_self e0, upd_self e1, upd_self e5, upd_self e9, upd_self e10]
    refine go_Words4 (k := ?_)
    refine CW_cond _ rfl (fun h => ?_) (fun h => ?_)
    · have hlt : k < nN := by simpa using h
      have hpow : ∀ j, j ≤ 8 → (2 : Int) ^ (8 * j) = ((256 ^ j : Nat) : Int) := fun j hj => by
        rw [Int.natCast_pow, show (2 : Int) ^ (8 * j) = (2 ^ 8) ^ j from Int.pow_mul]; rfl
      refine go_Words4 (k := ?_)
      refine OW_shr rfl rfl (by omega) ((x / 256 ^ k : Nat) : Int) ?_ ?_
      · rw [show min ((8 : Int) * (k : Int)).toNat IntKind.u64.bits = 8 * k by simp only [IntKind.bits]; omega, hpow k (by omega), fdiv_nat]
      refine go_Words4 (k := ?_)
      refine go_Words4 (k := ?_)
      rw [wrap_u8]
      refine OW_idxS und_bytes one_u8 rfl rfl (nN - 1 - k) (by omega) (by omega) ?_
      rw [add0]
      refine OW_storeB one_u8 rfl (.int _ _) rfl rfl hb (by omega) ?_
      intro w2 hb2 ho2
      refine go_Words4 (k := ?_)
      refine ⟨⟨k + 1, _, by omega, rfl, rfl, rfl, rfl, rfl, hb2, by simp [hsz], fun j h1 h2 => ?_, below_only hw ho2 (by omega) hw.size⟩, ?_⟩
      · rw [Array.getElem?_setIfInBounds]
        split
        · rename_i hj
          subst hj
          rw [if_pos (by omega), List.getElem?_map, putL_get h2, Option.map_some, show nN - 1 - (nN - 1 - k) = k by omega]
          simp [bv]
        · exact hcs j (by omega) h2
      · show nN - ((k : Int) + 1).toNat < nN - (k : Int).toNat
        omega
    · have hge : k = nN := by simp at h; omega
      subst hge
      have hl := putL_length x k
      have hall : cs.toList = (putL x k).map bv := by
        apply List.ext_getElem?
        intro j
        by_cases hj : j < k
        · rw [← hcs j (by omega) hj]; simp
        · rw [List.getElem?_eq_none (by simp; omega), List.getElem?_eq_none (by simp; omega)]
      refine go_Words4 (k := ?_)
      refine bodyE_ret1 rfl (.slice (some ⟨g, 0, none⟩) k k) rfl ⟨some ⟨g, 0, none⟩, k, by rw [hl], ?_, hw⟩
      have := hb.own hg1 (by rw [hsz]; unfold maxLen; omega)
      rw [hsz, hall] at this
      rw [hl]
      exact this

set_option maxHeartbeats 8000000 in
theorem put32_any (w : World) (x : Nat) (hx : x < 4294967296) : Calls Try.prog 70 #[.int .u32 x] w (RetBs 5 w (putL x 4)) := by
  refine calls_of_CW Try.func70 rfl (by simp [Try.ntmps70]) ?_
  rw [Try.ntmps70]
  refine go_Words4 (k := ?_)
  rw [wrap_u64_lt _ (by omega)]
  refine OW_callBs Try.func79 (by kernel_rfl) rfl (put_any w x 4 4 rfl (by decide) (by omega)) rfl ?_
  intro w1 A1 c1 h1
  refine go_Words4 (k := ?_)
  exact bodyE_ret1 rfl (.slice A1 (putL x 4).length c1) rfl ⟨A1, c1, rfl, h1⟩
set_option maxHeartbeats 8000000 in
theorem put64_any (w : World) (x : Nat) (hx : x < 18446744073709551616) : Calls Try.prog 97 #[.int .u64 x] w (RetBs 5 w (putL x 8)) := by
  refine calls_of_CW Try.func97 rfl (by simp [Try.ntmps97]) ?_
  rw [Try.ntmps97]
  refine go_Words4 (k := ?_)
  refine OW_callBs Try.func79 (by kernel_rfl) rfl (put_any w x 8 8 rfl (by decide) hx) rfl ?_
  intro w1 A1 c1 h1
  refine go_Words4 (k := ?_)
  exact bodyE_ret1 rfl (.slice A1 (putL x 8).length c1) rfl ⟨A1, c1, rfl, h1⟩
end Go.Proofs.Ytnfeibbnjdegfaa

/- Walks: package words, on lists. -/
namespace Go.Proofs.Ytnfeibbnjdegfaa
open Go Go.RowKit
set_option linter.unusedVariables false

theorem go_Words5 {A B : Prop} (h : Held B → A := by
  intro hEnd
  repeat (first | refine OW_moveV (.int _ _) rfl ?_ | refine OW_moveV (.slice _ _ _) rfl ?_ | refine OW_moveV (.bool _) rfl ?_ | refine OW_moveV (.pointer _) rfl ?_ | refine OW_moveV (.string _) rfl ?_ | refine OW_moveV (.agg _) rfl ?_ | refine OW_moveV (.tuple _) rfl ?_ | refine OW_nil ?_ | refine thenE_normal ?_ | refine CW_seq ?_ | refine CW_region (by kernel_rfl) ?_ | refine OW_assignV (.int _ _) rfl ?_ | refine OW_assignV (.slice _ _ _) rfl ?_ | refine OW_assignV (.bool _) rfl ?_ | refine OW_assignV (.pointer _) rfl ?_ | refine OW_assignV (.string _) rfl ?_ | refine OW_assignV (.agg _) rfl ?_ | refine OW_assignV (.tuple _) rfl ?_ | refine OW_addI rfl rfl (by omega) ?_ | refine OW_subI rfl rfl (by omega) ?_ | refine OW_mulI rfl rfl (by omega) ?_ | refine OW_lss rfl rfl ?_ | refine OW_extract rfl rfl ?_ | refine OW_gtr rfl rfl ?_ | refine OW_leq rfl rfl ?_ | refine OW_geq rfl rfl ?_ | refine OW_eql rfl rfl ?_ | refine OW_neq rfl rfl ?_ | refine OW_not rfl ?_ | refine OW_pickT rfl _ rfl ?_ | refine OW_pickF rfl (.bool _) rfl ?_ | refine OW_pickB rfl rfl rfl ?_ | refine OW_move ?_ | refine OW_assign ?_ | refine OW_pass rfl ?_ | refine OW_take rfl ?_ | refine OW_lenS (by first | with_reducible exact und_bytes | with_reducible exact und_bytess) rfl ?_ | refine OW_convInt (by first | with_reducible exact und_u8 | with_reducible exact und_u64 | with_reducible exact und_int | with_reducible exact und_u32) (by first | with_reducible exact und_u8 | with_reducible exact und_u64 | with_reducible exact und_int | with_reducible exact und_u32) rfl ?_ | refine OW_add rfl rfl ?_ | refine OW_sub rfl rfl ?_ | refine OW_mul rfl rfl ?_ | refine OW_min2 rfl rfl ?_ | refine OW_max2 rfl rfl ?_ | refine OW_neg rfl ?_ | refine CW_block ?_ | refine CW_condT rfl ?_ | refine CW_condF rfl ?_ | refine CW_exit ?_ | refine CW_ret ?_ | refine CW_skip ?_ | refine LW_seq ?_ | refine LW_regC ?_ | refine LW_condC ?_ | refine LW_regF ?_ | refine LW_condF ?_ | refine FW_seq ?_ | refine FW_region (by kernel_rfl) ?_ | refine FW_block ?_ | refine FW_condT rfl ?_ | refine FW_condF rfl ?_ | refine FW_exit ?_ | refine FW_ret ?_ | refine FW_skip ?_ | refine LW_ret ?_ | refine LW_skip ?_ | refine thenE_exit ?_ | refine thenE_ret ?_ | refine inBlockE_normal ?_ | refine inBlockE_same ?_ | refine inBlockE_ret ?_ | refine inBlockE_ne (by rfl) ?_ | refine OW_eqlB (by with_reducible exact und_bool) rfl rfl ?_ | refine OW_neqB (by with_reducible exact und_bool) rfl rfl ?_ | refine OW_idxS (by with_reducible exact und_bytes) one_u8 rfl rfl _ rfl (by omega) ?_ | refine OW_idxS (by with_reducible exact und_bytess) one_bytes rfl rfl _ rfl (by omega) ?_ | refine OW_load1 (by first | with_reducible exact one_u8 | with_reducible exact one_bytes) rfl _ (by assumption) ?_)
  exact hEnd.out) (k : B) : A := h ⟨k⟩
theorem od_Words5 {A B : Prop} (h : Held B → A := by
  intro hEnd
  repeat (first
    | refine OD_pass rfl ?_
    | refine OD_take rfl ?_
    | (apply OD_step
       · intro wd hwd
         (first | refine OW_moveV (.int _ _) rfl ?_ | refine OW_moveV (.slice _ _ _) rfl ?_ | refine OW_moveV (.bool _) rfl ?_ | refine OW_moveV (.pointer _) rfl ?_ | refine OW_moveV (.string _) rfl ?_ | refine OW_moveV (.agg _) rfl ?_ | refine OW_moveV (.tuple _) rfl ?_ | refine OW_nil ?_ | refine thenE_normal ?_ | refine CW_seq ?_ | refine CW_region (by kernel_rfl) ?_ | refine OW_assignV (.int _ _) rfl ?_ | refine OW_assignV (.slice _ _ _) rfl ?_ | refine OW_assignV (.bool _) rfl ?_ | refine OW_assignV (.pointer _) rfl ?_ | refine OW_assignV (.string _) rfl ?_ | refine OW_assignV (.agg _) rfl ?_ | refine OW_assignV (.tuple _) rfl ?_ | refine OW_addI rfl rfl (by omega) ?_ | refine OW_subI rfl rfl (by omega) ?_ | refine OW_mulI rfl rfl (by omega) ?_ | refine OW_lss rfl rfl ?_ | refine OW_extract rfl rfl ?_ | refine OW_gtr rfl rfl ?_ | refine OW_leq rfl rfl ?_ | refine OW_geq rfl rfl ?_ | refine OW_eql rfl rfl ?_ | refine OW_neq rfl rfl ?_ | refine OW_not rfl ?_ | refine OW_pickT rfl _ rfl ?_ | refine OW_pickF rfl (.bool _) rfl ?_ | refine OW_pickB rfl rfl rfl ?_ | refine OW_move ?_ | refine OW_assign ?_ | refine OW_pass rfl ?_ | refine OW_take rfl ?_ | refine OW_lenS (by first | with_reducible exact und_bytes | with_reducible exact und_bytess) rfl ?_ | refine OW_convInt (by first | with_reducible exact und_u8 | with_reducible exact und_u64 | with_reducible exact und_int | with_reducible exact und_u32) (by first | with_reducible exact und_u8 | with_reducible exact und_u64 | with_reducible exact und_int | with_reducible exact und_u32) rfl ?_ | refine OW_add rfl rfl ?_ | refine OW_sub rfl rfl ?_ | refine OW_mul rfl rfl ?_ | refine OW_min2 rfl rfl ?_ | refine OW_max2 rfl rfl ?_ | refine OW_neg rfl ?_ | refine CW_block ?_ | refine CW_condT rfl ?_ | refine CW_condF rfl ?_ | refine CW_exit ?_ | refine CW_ret ?_ | refine CW_skip ?_ | refine LW_seq ?_ | refine LW_regC ?_ | refine LW_condC ?_ | refine LW_regF ?_ | refine LW_condF ?_ | refine FW_seq ?_ | refine FW_region (by kernel_rfl) ?_ | refine FW_block ?_ | refine FW_condT rfl ?_ | refine FW_condF rfl ?_ | refine FW_exit ?_ | refine FW_ret ?_ | refine FW_skip ?_ | refine LW_ret ?_ | refine LW_skip ?_ | refine thenE_exit ?_ | refine thenE_ret ?_ | refine inBlockE_normal ?_ | refine inBlockE_same ?_ | refine inBlockE_ret ?_ | refine inBlockE_ne (by rfl) ?_ | refine OW_eqlB (by with_reducible exact und_bool) rfl rfl ?_ | refine OW_neqB (by with_reducible exact und_bool) rfl rfl ?_ | refine OW_idxS (by with_reducible exact und_bytes) one_u8 rfl rfl _ rfl (by omega) ?_ | refine OW_idxS (by with_reducible exact und_bytess) one_bytes rfl rfl _ rfl (by omega) ?_ | refine OW_load1 (by first | with_reducible exact one_u8 | with_reducible exact one_bytes) rfl _ (by assumption) ?_ | refine OW_load1 (by with_reducible exact one_u8) rfl _ (by first | exact hwd.cell' (by assumption) | (subst hwd; assumption)) ?_)
         refine OW_nil ?_
         exact stay_mk _ _ _ _))
  exact hEnd.out) (k : B) : A := h ⟨k⟩
theorem shl8_or (y : Nat) (b : UInt8) (hy : y < 72057594037927936) : bitsK .or .u64 ((256 * y : Nat) : Int) (b.toNat : Int) = ((256 * y + b.toNat : Nat) : Int) := by
  have hb := b.toNat_lt
  rw [or_u64 _ _ (by omega) (by omega)]
  congr 1
  rw [show 256 * y = 2 ^ 8 * y from rfl, Nat.two_pow_add_eq_or_of_lt hb]
set_option maxHeartbeats 8000000 in
theorem load_any (w : World) (A : Option Addr) (b : List UInt8) (c : Nat) (at_ n : Int) (nN : Nat) (hnn : n = (nN : Int)) (h8 : nN ≤ 8) (ha : Bs w A b) (hc : b.length ≤ c) (hl : b.length ≤ 1000000) (hat : -9223372036854775808 ≤ at_ ∧ at_ ≤ 9223372036854775807) :
    Calls Try.prog 88 #[.slice A b.length c, .int .i64 at_, .int .i64 n] w (RetV w (.tuple #[.int .u64 (ldV b at_ nN), .bool (ldB b at_ nN)])) := by
  subst hnn
  have hno : ¬ (0 ≤ at_ ∧ at_.toNat + nN ≤ b.length) → ldV b at_ nN = 0 ∧ ldB b at_ nN = false := fun h => by simp [ldV, ldB, ldL, h]
  have hyes : (0 ≤ at_ ∧ at_.toNat + nN ≤ b.length) → ldV b at_ nN = loadL ((b.drop at_.toNat).take nN) ∧ ldB b at_ nN = true := fun h => by simp [ldV, ldB, ldL, h]
  refine calls_of_CW Try.func88 rfl (by simp [Try.ntmps88]) ?_
  rw [Try.ntmps88]
  refine go_Words5 (k := ?_)
  refine OW_split 13 _ rfl (fun h1 => ?_) (fun h1 => ?_)
  · have h1 : at_ < 0 := by simpa using h1
    obtain ⟨r1, r2⟩ := hno (by omega)
    refine go_Words5 (k := ?_)
    exact bodyE_ret2 rfl (.int .u64 0) (.bool false) rfl rfl ⟨by rw [r1, r2]; rfl, Ext.rfl' w⟩
  · have h1 : 0 ≤ at_ := by simp at h1; omega
    refine go_Words5 (k := ?_)
    refine CW_cond _ rfl (fun h3 => ?_) (fun h3 => ?_)
    · have h3 : (b.length : Int) - nN < at_ := by simpa using h3
      obtain ⟨r1, r2⟩ := hno (by omega)
      refine go_Words5 (k := ?_)
      exact bodyE_ret2 rfl (.int .u64 0) (.bool false) rfl rfl ⟨by rw [r1, r2]; rfl, Ext.rfl' w⟩
    · have h3 : at_ ≤ b.length - nN := by simp at h3; omega
      obtain ⟨r1, r2⟩ := hyes (by omega)
      obtain ⟨p, rfl⟩ := Int.eq_ofNat_of_zero_le h1
      simp only [Int.toNat_natCast] at *
      refine go_Words5 (k := ?_)
      refine OW_sliceBs und_bytes one_u8 ha rfl hc rfl ⟨_, rfl⟩ ⟨_, rfl⟩ p (p + nN) rfl (by omega) (by omega) ?_
      intro A' hA' hlen
      rw [show p + nN - p = nN by omega] at hA' hlen ⊢
      generalize hs : (b.drop p).take nN = s at *
      refine go_Words5 (k := ?_)
      refine CW_loop (fun e' w' => ∃ k : Nat, k ≤ nN ∧ e' 8 = .int .u64 (loadL (s.take k) : Nat) ∧ e' 26 = .slice A' nN (c - p) ∧ e' 27 = .int .i64 nN ∧ e' 28 = .int .i64 k ∧ Ext w w') (fun e' _ => nN - (intOf (e' 28)).toNat) ?_ ?_
      · exact ⟨0, Nat.zero_le _, by simp; rfl, rfl, rfl, rfl, Ext.rfl' w⟩
      · rintro e' w' ⟨k, hk, e8, e26, e27, e28, hw⟩
        rw [upd_self e8, upd_self e26, upd_self e27, upd_self e28]
        have hlt64 : loadL (s.take k) < 256 ^ k := by have := loadL_lt (s.take k); rwa [List.length_take, hlen, Nat.min_eq_left hk] at this
        refine go_Words5 (k := ?_)
        refine CW_cond _ rfl (fun h => ?_) (fun h => ?_)
        · have hlt : k < nN := by simp at h; omega
          obtain ⟨ad, hA1, hcA⟩ := (hA'.ext hw).at_ (show k < s.length by omega)
          subst hA1
          have hpow : (256 : Nat) ^ k ≤ 256 ^ 7 := Nat.pow_le_pow_right (by decide) (by omega)
          have hsn : loadL (s.take (k + 1)) = 256 * loadL (s.take k) + (s[k]'(by omega)).toNat := by
            rw [take_succ_get _ _ (by omega), loadL_snoc]
          generalize loadL (s.take k) = y at *
          have hy : y < 72057594037927936 := Nat.lt_of_lt_of_le hlt64 hpow
          refine go_Words5 (k := ?_)
          refine OW_shl rfl rfl (by decide) ((256 * y : Nat) : Int) ?_ ?_
          · rw [show min ((8 : Int)).toNat IntKind.u64.bits = 8 from rfl, show (y : Int) * 2 ^ 8 = ((256 * y : Nat) : Int) by omega, wrap_u64_lt _ (by omega)]
          refine go_Words5 (k := ?_)
          rw [wrap_u64_lt _ (by have := (s[k]'(by omega)).toNat_lt; omega)]
          refine OW_or rfl rfl _ (shl8_or y _ hy) ?_
          rw [← hsn]
          refine go_Words5 (k := ?_)
          refine ⟨⟨k + 1, by omega, rfl, rfl, rfl, rfl, hw⟩, ?_⟩
          show nN - ((k : Int) + 1).toNat < nN - (k : Int).toNat
          omega
        · have hge : k = nN := by simp at h; omega
          subst hge
          rw [List.take_of_length_le (by omega)]
          refine go_Words5 (k := ?_)
          exact bodyE_ret2 rfl (.int .u64 (loadL s : Nat)) (.bool true) rfl rfl ⟨by rw [r1, r2], hw⟩
theorem ldV_lt (b : List UInt8) (at_ : Int) (n : Nat) : ldV b at_ n < 256 ^ n := by
  unfold ldV ldL
  split
  · rename_i h
    have := loadL_lt ((b.drop at_.toNat).take n)
    rw [List.length_take, List.length_drop, Nat.min_eq_left (by omega)] at this
    exact this
  · simp; exact Nat.pow_pos (by decide)
set_option maxHeartbeats 8000000 in
theorem load32_any (w : World) (A : Option Addr) (b : List UInt8) (c : Nat) (at_ : Int) (ha : Bs w A b) (hc : b.length ≤ c) (hl : b.length ≤ 1000000) (hat : -9223372036854775808 ≤ at_ ∧ at_ ≤ 9223372036854775807) :
    Calls Try.prog 80 #[.slice A b.length c, .int .i64 at_] w (RetV w (.tuple #[.int .u32 (ldV b at_ 4), .bool (ldB b at_ 4)])) := by
  refine calls_of_CW Try.func80 rfl (by simp [Try.ntmps80]) ?_
  rw [Try.ntmps80]
  refine go_Words5 (k := ?_)
  refine OW_callV Try.func88 (by kernel_rfl) rfl (load_any w A b c at_ 4 4 rfl (by decide) ha hc hl hat) rfl ?_
  intro w1 hw1
  refine go_Words5 (k := ?_)
  rw [wrap_u32_lt _ (ldV_lt b at_ 4)]
  exact bodyE_ret2 rfl (.int .u32 (ldV b at_ 4 : Nat)) (.bool (ldB b at_ 4)) rfl rfl ⟨rfl, hw1⟩

set_option maxHeartbeats 8000000 in
theorem cat_any (w : World) (A : Option Addr) (c : Nat) (vs : List BV) (hv : Rd w A (vs.map sv)) (hb : ∀ x ∈ vs, Bs w x.1 x.2.2) (hn : vs.length ≤ 1000000) (hl : (flat vs).length ≤ 1000000) :
    Calls Try.prog 69 #[.slice A vs.length c] w (RetBs 5 w (flat vs)) := by
  refine calls_of_CW Try.func69 rfl (by simp [Try.ntmps69]) ?_
  rw [Try.ntmps69]
  refine go_Words5 (k := ?_)
  refine CW_loop (fun e' w' => ∃ (k : Nat) (A2 : Option Addr) (c2 : Nat), k ≤ vs.length ∧ e' 6 = .slice A vs.length c ∧ e' 7 = .int .i64 vs.length ∧ e' 8 = .int .i64 k ∧ e' 3 = .slice A2 (flat (vs.take k)).length c2 ∧
      w'.ownsRow w.heap.size 5 1 (.slice A2 (flat (vs.take k)).length c2) (flat (vs.take k)).length ((flat (vs.take k)).map bv) ∧ Ext w w') (fun e' _ => vs.length - (intOf (e' 8)).toNat) ?_ ?_
  · exact ⟨0, none, 0, Nat.zero_le _, rfl, rfl, rfl, rfl, World.ownsRow_nil _ _ _ _, Ext.rfl' w⟩
  · rintro e' w' ⟨k, A2, c2, hk, e6, e7, e8, e3, ho, hw⟩
    rw [upd_self e6, upd_self e7, upd_self e8, upd_self e3]
    refine go_Words5 (k := ?_)
    refine CW_cond _ rfl (fun h => ?_) (fun h => ?_)
    · have hlt : k < vs.length := by simpa using h
      obtain ⟨ad, hA1, hcA⟩ := (hv.ext hw).at_ (j := k) (by simpa using hlt)
      subst hA1
      have hf := flat_take_succ hlt
      have hle := flat_le vs (k + 1)
      rw [hf, List.length_append] at hle
      have hbk := (hb vs[k] (List.getElem_mem hlt)).ext hw
      have hcA : w'.cell? (ad.add k) = some (.slice (vs[k]).1 (vs[k]).2.2.length (vs[k]).2.1) := by rw [hcA]; simp [sv]
      generalize vs[k] = x at *
      refine go_Words5 (k := ?_)
      refine OW_append und_bytes info_u8 rfl rfl rfl ho hbk (by simp) (bv_one _) (by unfold maxLen; omega) (by omega) hw.size ?_
      intro w3 A3 c3 ho3 hb3
      refine go_Words5 (k := ?_)
      refine ⟨⟨k + 1, A3, c3, by omega, rfl, rfl, rfl, ?_, ?_, hw.trans hb3⟩, ?_⟩
      · rw [hf, List.length_append]; rfl
      · rw [hf, List.length_append, List.map_append]; exact ho3
      · show vs.length - ((k : Int) + 1).toNat < vs.length - (k : Int).toNat
        omega
    · have hge : k = vs.length := by simp at h; omega
      subst hge
      rw [List.take_length] at ho ⊢
      refine go_Words5 (k := ?_)
      exact bodyE_ret1 rfl (.slice A2 (flat vs).length c2) rfl ⟨A2, c2, rfl, ho, hw⟩

/-- The exclusive or of the first k, the rest of the first list behind. -/
def xorK (a b : List UInt8) (k : Nat) : List UInt8 := (xorL a b).take k ++ (a.take (min a.length b.length)).drop k
theorem xorK_length (a b : List UInt8) (k : Nat) (hk : k ≤ min a.length b.length) : (xorK a b k).length = min a.length b.length := by
  unfold xorK; rw [List.length_append, List.length_take, xorL_length, List.length_drop, List.length_take]; omega
theorem xorK_get {a b : List UInt8} {k : Nat} (ha : k < a.length) (hb : k < b.length) : (xorK a b k)[k]? = some a[k] := by
  unfold xorK
  rw [List.getElem?_append_right (by rw [List.length_take, xorL_length]; omega), List.length_take, xorL_length, List.getElem?_drop, List.getElem?_take, if_pos (by omega), List.getElem?_eq_getElem (by omega)]
  congr 2
  omega
theorem xorK_succ {a b : List UInt8} {k : Nat} (ha : k < a.length) (hb : k < b.length) : (xorK a b k).set k (a[k] ^^^ b[k]) = xorK a b (k + 1) := by
  unfold xorK
  rw [xorL_take_succ ha hb, List.set_append_right _ _ (by rw [List.length_take, xorL_length]; omega)]
  rw [show k - ((xorL a b).take k).length = 0 by rw [List.length_take, xorL_length]; omega]
  rw [List.drop_eq_getElem_cons (show k < (a.take (min a.length b.length)).length by rw [List.length_take]; omega)]
  simp
theorem xorK_all (a b : List UInt8) : xorK a b (min a.length b.length) = xorL a b := by
  unfold xorK
  rw [List.take_of_length_le (by rw [xorL_length]; omega), List.drop_eq_nil_of_le (by rw [List.length_take]; omega), List.append_nil]
set_option maxHeartbeats 8000000 in
theorem xor_any (w : World) (A B : Option Addr) (a b : List UInt8) (c c' : Nat) (ha : Bs w A a) (hb : Bs w B b) (hc : a.length ≤ c) (hl : a.length ≤ 1000000 ∧ b.length ≤ 1000000) :
    Calls Try.prog 64 #[.slice A a.length c, .slice B b.length c'] w (RetBs 5 w (xorL a b)) := by
  obtain ⟨m, hm⟩ : ∃ m, m = min a.length b.length := ⟨_, rfl⟩
  refine calls_of_CW Try.func64 rfl (by simp [Try.ntmps64]) ?_
  rw [Try.ntmps64]
  refine go_Words5 (k := ?_)
  refine OW_sliceBs und_bytes one_u8 ha rfl hc rfl rfl ⟨_, rfl⟩ 0 m rfl (by split <;> omega) (by omega) ?_
  intro A' hA' hlen
  simp only [Nat.sub_zero, List.drop_zero] at hA' hlen ⊢
  refine OW_lit [.slice A' m c] und_bytess info_bytes rfl rfl (by simp [Value.oneCell']) (by decide) ?_
  intro w1 g1 hb1 hg1 hx1
  refine OW_callBs Try.func69 (by kernel_rfl) rfl (cat_any w1 (some ⟨g1, 0, none⟩) 1 [(A', c, a.take m)] (by have := hb1.rd; simpa [sv, hlen] using this) (by simpa using hA'.ext hx1) (by simp) (by simp [flat]; omega)) rfl ?_
  intro w2 A2 c2 h2
  have hfl : flat [((A', c, a.take m) : BV)] = a.take m := by simp [flat]
  rw [hfl] at h2 ⊢
  rw [hlen]
  have ho2 := h2.own
  rw [hlen] at ho2
  have hw2 := hx1.trans' h2.ext
  refine go_Words5 (k := ?_)
  refine CW_loop (fun e' w' => ∃ k : Nat, k ≤ m ∧ e' 1 = .slice B b.length c' ∧ e' 5 = .slice A2 m c2 ∧ e' 17 = .int .i64 m ∧ e' 18 = .int .i64 k ∧
      w'.ownsRow w.heap.size 5 1 (.slice A2 m c2) m ((xorK a b k).map bv) ∧ Ext w w') (fun e' _ => m - (intOf (e' 18)).toNat) ?_ ?_
  · refine ⟨0, Nat.zero_le _, rfl, rfl, rfl, rfl, ?_, hw2⟩
    have : xorK a b 0 = a.take m := by unfold xorK; rw [← hm]; simp
    rw [this]
    exact own_mono ho2 hx1.size
  · rintro e' w' ⟨k, hk, e1, e5, e17, e18, ho, hw⟩
    rw [upd_self e1, upd_self e5, upd_self e17, upd_self e18]
    refine go_Words5 (k := ?_)
    refine CW_cond _ rfl (fun h => ?_) (fun h => ?_)
    · have hlt : k < m := by simpa using h
      have hka : k < a.length := by omega
      have hkb : k < b.length := by omega
      obtain ⟨g, cur, hA2, hg, _⟩ := own_blk ho (by omega)
      subst hA2
      obtain ⟨bd, hB1, hcB⟩ := (hb.ext hw).at_ hkb
      subst hB1
      have hcA : w'.cell? ⟨g, k, none⟩ = some (bv a[k]) := by
        rw [ho.cellAt k (by omega), List.getElem?_map, xorK_get hka hkb]; rfl
      have hcA' : w'.cell? ((⟨g, 0, none⟩ : Addr).add k) = some (bv a[k]) := by rw [add0]; exact hcA
      have hst := ho.stored k (bv (a[k] ^^^ b[k]))
      rw [← List.map_set, xorK_succ hka hkb] at hst
      refine go_Words5 (k := ?_)
      refine CW_tail 10 (by kernel_rfl) (by kernel_rfl) (by kernel_rfl) ?_
      simp only [List.take_succ_cons, List.take_zero, List.drop_succ_cons, List.drop_zero]
      refine od_Words5 (k := ?_)
      apply OD_step
      · intro wd hwd
        refine OW_xor rfl rfl _ (xor_bv _ _) ?_
        refine OW_nil ?_
        exact stay_mk _ _ _ _
      refine od_Words5 (k := ?_)
      refine OD_nil ?_
      refine go_Words5 (k := ?_)
      rw [add0]
      refine OW_store1 one_u8 rfl (bv (a[k] ^^^ b[k])) (bv a[k]) rfl rfl hcA (ho.frozenAt k) ?_
      refine go_Words5 (k := ?_)
      refine ⟨⟨k + 1, by omega, rfl, rfl, rfl, rfl, hst.1, ?_⟩, ?_⟩
      · exact (below_only hw hst.2 hg hw.size).drew
      · show m - ((k : Int) + 1).toNat < m - (k : Int).toNat
        omega
    · have hge : k = m := by simp at h; omega
      subst hge
      have hxl := xorL_length a b
      have hall := xorK_all a b
      rw [← hm] at hall hxl
      rw [hall] at ho
      refine go_Words5 (k := ?_)
      refine bodyE_ret1 rfl (.slice A2 k c2) rfl ⟨A2, c2, by rw [hxl], ?_, hw⟩
      rw [hxl]
      exact ho

/-- All bytes or-ed. -/
def orL (l : List UInt8) : UInt8 := l.foldl (· ||| ·) 0
theorem orL_snoc (l : List UInt8) (b : UInt8) : orL (l ++ [b]) = orL l ||| b := by simp [orL]
theorem or_zero_iff (x y : UInt8) : x ||| y = 0 ↔ x = 0 ∧ y = 0 := UInt8.or_eq_zero_iff
theorem foldl_or (l : List UInt8) : ∀ x, l.foldl (· ||| ·) x = 0 ↔ x = 0 ∧ ∀ b ∈ l, b = 0 := by
  induction l with
  | nil => intro x; simp
  | cons a l ih => intro x; rw [List.foldl_cons, ih, or_zero_iff]; simp [and_assoc]
theorem xor_zero_iff (x y : UInt8) : x ^^^ y = 0 ↔ x = y := UInt8.xor_eq_zero_iff
theorem orL_xor {a b : List UInt8} (hl : a.length = b.length) : (orL (xorL a b) == 0) = (a == b) := by
  have : orL (xorL a b) = 0 ↔ a = b := by
    unfold orL
    rw [foldl_or]
    simp only [true_and]
    constructor
    · intro h
      apply List.ext_getElem hl
      intro i h1 h2
      have := h (a[i] ^^^ b[i]) (by
        unfold xorL
        rw [List.mem_iff_getElem]
        exact ⟨i, by simp; omega, by simp⟩)
      exact (xor_zero_iff _ _).1 this
    · rintro rfl x hx
      unfold xorL at hx
      rw [List.mem_iff_getElem] at hx
      obtain ⟨i, hi, rfl⟩ := hx
      simp only [List.getElem_zipWith]
      exact (xor_zero_iff _ _).2 rfl
  rw [Bool.eq_iff_iff, beq_iff_eq, beq_iff_eq]
  exact this
set_option maxHeartbeats 8000000 in
theorem sameL_any (w : World) (A B : Option Addr) (a b : List UInt8) (c c' : Nat) (ha : Bs w A a) (hb : Bs w B b) (hc : a.length ≤ c) (hl : a.length ≤ 1000000) :
    Calls Try.prog 38 #[.slice A a.length c, .slice B b.length c'] w (RetV w (.bool (a == b))) := by
  refine calls_of_CW Try.func38 rfl (by simp [Try.ntmps38]) ?_
  rw [Try.ntmps38]
  refine go_Words5 (k := ?_)
  refine CW_cond _ rfl (fun hne => ?_) (fun heq => ?_)
  · have hr : (a == b) = false := by
      rw [beq_eq_false_iff_ne]; rintro rfl; simp at hne
    refine go_Words5 (k := ?_)
    exact bodyE_ret1 rfl (.bool false) rfl ⟨by rw [hr], Ext.rfl' w⟩
  · have hlen : a.length = b.length := by simp at heq; omega
    have hl : a.length ≤ 1000000 ∧ b.length ≤ 1000000 := by omega
    refine go_Words5 (k := ?_)
    refine OW_callBs Try.func64 (by kernel_rfl) rfl (xor_any w A B a b c c' ha hb hc hl) rfl ?_
    intro w1 A1 c1 h1
    have hfin := orL_xor hlen
    generalize hx : xorL a b = x at *
    have hxl : x.length ≤ 1000000 := by rw [← hx, xorL_length]; omega
    refine go_Words5 (k := ?_)
    refine CW_loop (fun e' w' => ∃ k : Nat, k ≤ x.length ∧ e' 5 = .int .u8 ((orL (x.take k)).toNat : Nat) ∧ e' 15 = .slice A1 x.length c1 ∧ e' 16 = .int .i64 x.length ∧ e' 17 = .int .i64 k ∧ Ext w w' ∧ Ext w1 w') (fun e' _ => x.length - (intOf (e' 17)).toNat) ?_ ?_
    · exact ⟨0, Nat.zero_le _, rfl, rfl, rfl, rfl, h1.ext, Ext.rfl' w1⟩
    · rintro e' w' ⟨k, hk, e5, e15, e16, e17, hw, hw1⟩
      rw [upd_self e5, upd_self e15, upd_self e16, upd_self e17]
      refine go_Words5 (k := ?_)
      refine CW_cond _ rfl (fun h => ?_) (fun h => ?_)
      · have hlt : k < x.length := by simpa using h
        obtain ⟨ad, hA1, hcA⟩ := (h1.bs.ext hw1).at_ hlt
        subst hA1
        refine go_Words5 (k := ?_)
        refine OW_or rfl rfl _ (or_bv _ _) ?_
        rw [← orL_snoc, ← take_succ_get _ _ hlt]
        refine go_Words5 (k := ?_)
        refine ⟨⟨k + 1, by omega, rfl, rfl, rfl, rfl, hw, hw1⟩, ?_⟩
        show x.length - ((k : Int) + 1).toNat < x.length - (k : Int).toNat
        omega
      · have hge : k = x.length := by simp at h; omega
        subst hge
        rw [List.take_length]
        have hz : (((orL x).toNat : Int) == 0) = (orL x == 0) := by
          rw [Bool.eq_iff_iff, beq_iff_eq, beq_iff_eq]
          constructor
          · intro h; exact UInt8.toNat_inj.1 (by simpa using h)
          · intro h; rw [h]; rfl
        refine go_Words5 (k := ?_)
        rw [hz, hfin]
        exact bodyE_ret1 rfl (.bool (a == b)) rfl ⟨rfl, hw⟩
set_option maxHeartbeats 8000000 in
theorem same_any (w : World) (A B : Option Addr) (a b : List UInt8) (c c' : Nat) (ha : Bs w A a) (hb : Bs w B b) (hc : a.length ≤ c) (hl : a.length ≤ 1000000 ∧ b.length ≤ 1000000) :
    Calls Try.prog 38 #[.slice A a.length c, .slice B b.length c'] w (RetV w (.bool (a == b))) := sameL_any w A B a b c c' ha hb hc hl.1
end Go.Proofs.Ytnfeibbnjdegfaa
