/- The statements' fields: what comes in, whether they are too many, what they are in bytes. -/
import Derived.Test.YthhphmbhlddihaaKt
import Derived.Test.YthhphmbhlddihaaRefTag
namespace Go.Proofs.Ythhphmbhlddihaa
open Go Go.RowKit Go.ChangeShapes Go.WideShapes
set_option linter.unusedVariables false
set_option maxRecDepth 4000
theorem go_Field {A B : Prop} (h : Held B → A := by
  intro hEnd
  repeat (first | refine OW_moveV (.int _ _) rfl ?_ | refine OW_moveV (.slice _ _ _) rfl ?_ | refine OW_moveV (.bool _) rfl ?_ | refine OW_moveV (.pointer _) rfl ?_ | refine OW_moveV (.string _) rfl ?_ | refine OW_moveV (.agg _) rfl ?_ | refine OW_moveV (.tuple _) rfl ?_ | refine OW_nil ?_ | refine thenE_normal ?_ | refine CW_seq ?_ | refine CW_region (by kernel_rfl) ?_ | refine OW_assignV (.int _ _) rfl ?_ | refine OW_assignV (.slice _ _ _) rfl ?_ | refine OW_assignV (.bool _) rfl ?_ | refine OW_assignV (.pointer _) rfl ?_ | refine OW_assignV (.string _) rfl ?_ | refine OW_assignV (.agg _) rfl ?_ | refine OW_assignV (.tuple _) rfl ?_ | refine OW_addI rfl rfl (by omega) ?_ | refine OW_subI rfl rfl (by omega) ?_ | refine OW_mulI rfl rfl (by omega) ?_ | refine OW_lss rfl rfl ?_ | refine OW_extract rfl rfl ?_ | refine OW_gtr rfl rfl ?_ | refine OW_leq rfl rfl ?_ | refine OW_geq rfl rfl ?_ | refine OW_eql rfl rfl ?_ | refine OW_neq rfl rfl ?_ | refine OW_not rfl ?_ | refine OW_pickT rfl _ rfl ?_ | refine OW_pickF rfl (.bool _) rfl ?_ | refine OW_pickB rfl rfl rfl ?_ | refine OW_move ?_ | refine OW_assign ?_ | refine OW_pass rfl ?_ | refine OW_take rfl ?_ | refine OW_lenS (by first | with_reducible exact und_bytes | with_reducible exact und_bytess) rfl ?_ | refine OW_convInt (by first | with_reducible exact und_u8 | with_reducible exact und_u64 | with_reducible exact und_int | with_reducible exact und_u32) (by first | with_reducible exact und_u8 | with_reducible exact und_u64 | with_reducible exact und_int | with_reducible exact und_u32) rfl ?_ | refine OW_add rfl rfl ?_ | refine OW_sub rfl rfl ?_ | refine OW_mul rfl rfl ?_ | refine OW_min2 rfl rfl ?_ | refine OW_max2 rfl rfl ?_ | refine OW_neg rfl ?_ | refine CW_block ?_ | refine CW_condT rfl ?_ | refine CW_condF rfl ?_ | refine CW_exit ?_ | refine CW_ret ?_ | refine CW_skip ?_ | refine LW_seq ?_ | refine LW_regC ?_ | refine LW_condC ?_ | refine LW_regF ?_ | refine LW_condF ?_ | refine FW_seq ?_ | refine FW_region (by kernel_rfl) ?_ | refine FW_block ?_ | refine FW_condT rfl ?_ | refine FW_condF rfl ?_ | refine FW_exit ?_ | refine FW_ret ?_ | refine FW_skip ?_ | refine LW_ret ?_ | refine LW_skip ?_ | refine thenE_exit ?_ | refine thenE_ret ?_ | refine inBlockE_normal ?_ | refine inBlockE_same ?_ | refine inBlockE_ret ?_ | refine inBlockE_ne (by rfl) ?_ | refine OW_eqlB (by with_reducible exact und_bool) rfl rfl ?_ | refine OW_neqB (by with_reducible exact und_bool) rfl rfl ?_ | refine OW_idxS (by with_reducible exact und_bytes) one_u8 rfl rfl _ rfl (by omega) ?_ | refine OW_idxS (by with_reducible exact und_bytess) one_bytes rfl rfl _ rfl (by omega) ?_ | refine OW_load1 (by first | with_reducible exact one_u8 | with_reducible exact one_bytes) rfl _ (by assumption) ?_ | refine OW_lenS (by with_reducible exact und_Fs) rfl ?_ | refine OW_idxN und_Fs el_F rfl rfl _ rfl (by omega) ?_ | refine OW_fieldO fldo_F2 rfl ?_ | refine OW_load1 (by with_reducible exact one_int) rfl _ (by assumption) ?_)
  exact hEnd.out) (k : B) : A := h ⟨k⟩
structure FD where
  kind : Int
  n : Int
  B : List UInt8
  T : List UInt8
def fcells (f : FD) (v : Value) : List Value := [.int .i64 f.kind, .int .i64 f.n, v] ++ f.T.map bv
theorem fcells_length {f : FD} {v : Value} (h : f.T.length = 32) : (fcells f v).length = 35 := by simp [fcells, h]
/-- A field's own data, behind its place. -/
structure FOk (w : World) (f : FD) (A : Option Addr) (c : Nat) : Prop where
  bs : Bs w A f.B
  cap : f.B.length ≤ c
  small : f.B.length ≤ 140737488351232
  tag : f.T.length = 32
  kind : I64 f.kind
  n : I64 f.n
theorem FOk.ext {w w' : World} {f : FD} {A : Option Addr} {c : Nat} (h : FOk w f A c) (hx : Ext w w') : FOk w' f A c := ⟨h.bs.ext hx, h.cap, h.small, h.tag, h.kind, h.n⟩
def kField : KD Try.prog 26 FD where
  n := 35
  hn := by kernel_rfl
  R := fun w cs f => ∃ A c, cs = fcells f (.slice A f.B.length c) ∧ FOk w f A c
  ext := fun hx ⟨A, c, h1, h2⟩ => ⟨A, c, h1, h2.ext hx⟩
  opn := fun {H enc w fuel cs x} h hw => by
    obtain ⟨hl, hp⟩ := kd_parts Try.underlying26 h hw
    have hl : cs.length = 35 := by rw [hl]; kernel_rfl
    obtain ⟨a0, h0, r0⟩ := hp 0 _ rfl kI
    obtain ⟨a1, h1, r1⟩ := hp 1 _ rfl kI
    obtain ⟨a2, A, c, h2, ⟨r2, r2'⟩, b2⟩ := hp 2 _ rfl kBs
    obtain ⟨a3, h3, r3⟩ := hp 3 _ rfl kTag
    refine ⟨⟨a0, a1, a2, a3⟩, A, c, ?_, b2, r2, Nat.le_trans r2 r2', r3, r0, r1⟩
    have e0 : (cs.drop 0).take 1 = [.int .i64 a0] := h0
    have e1 : (cs.drop (0 + 1)).take 1 = [.int .i64 a1] := h1
    have e2 : (cs.drop (0 + 1 + 1)).take 1 = [.slice A a2.length c] := h2
    have e3 : (cs.drop (0 + 1 + 1 + 1)).take 32 = a3.map bv := h3
    have e4 : cs.drop (0 + 1 + 1 + 1 + 32) = [] := List.drop_of_length_le (by omega)
    have := cut_cons cs 0 1
    rw [cut_cons cs (0 + 1) 1, cut_cons cs (0 + 1 + 1) 1, cut_cons cs (0 + 1 + 1 + 1) 32, e0, e1, e2, e3, e4, List.drop_zero] at this
    rw [this]
    simp [fcells]
def kFields : KD Try.prog 28 (List FD) := kSlice kField Try.underlying28 (by kernel_rfl) (of_decide_eq_true (by kernel_rfl))
abbrev FS (w : World) (A : Option Addr) (l : List FD) : Prop := SlR 35 kField.R w A l
theorem FS.ext {w w' : World} {A : Option Addr} {l : List FD} (h : FS w A l) (hx : Ext w w') : FS w' A l := fun i hi => by
  obtain ⟨ad, ce, e1, e2, e3, e4⟩ := h i hi
  exact ⟨ad, ce, e1, e2, e3.ext hx, kField.ext hx e4⟩
theorem FS.get {w : World} {A : Option Addr} {l : List FD} (h : FS w A l) {i : Nat} (hi : i < l.length) : ∃ ad A' c', A = some ad ∧ At w (ad.add (i * 35)) (fcells l[i] (.slice A' (l[i]).B.length c')) ∧ FOk w l[i] A' c' := by
  obtain ⟨ad, ce, e1, e2, e3, A', c', e4, e5⟩ := h i hi
  subst e4
  exact ⟨ad, A', c', e1, e3, e5⟩
theorem und_Fs : Try.prog.underlying 28 = some (.slice 26) := Try.underlying28
theorem el_F : ElT Try.prog 26 35 := ⟨by kernel_rfl⟩
theorem agg_F : AggT Try.prog 26 35 (fcells ⟨0, 0, [], tz⟩ (.slice none 0 0)) := ⟨⟨_, Try.underlying26, rfl⟩, by kernel_rfl, fun w => by kernel_rfl⟩
theorem fldo_F2 : FldO Try.prog 26 2 2 := ⟨fun w a => by kernel_rfl⟩
theorem fld_F0 : Fld Try.prog 26 0 := ⟨fun w g => by kernel_rfl⟩
theorem fld_F1 : Fld Try.prog 26 1 := ⟨fun w g => by kernel_rfl⟩
theorem fld_F2 : Fld Try.prog 26 2 := ⟨fun w g => by kernel_rfl⟩
theorem fld_F3 : Fld Try.prog 26 3 := ⟨fun w g => by kernel_rfl⟩

def gsum (l : List FD) : Nat := (l.map fun f => f.B.length + 40).sum
theorem gsum_take_succ {l : List FD} {k : Nat} (h : k < l.length) : gsum (l.take (k + 1)) = gsum (l.take k) + ((l[k]).B.length + 40) := by
  unfold gsum; rw [List.take_succ_eq_append_getElem h, List.map_append, List.sum_append]; simp
theorem gsum_take_le (l : List FD) (k : Nat) : gsum (l.take k) ≤ gsum l := by
  have h := congrArg (fun l => gsum l) (List.take_append_drop k l)
  simp only [gsum, List.map_append, List.sum_append] at h ⊢
  omega
theorem gsum_len (l : List FD) : 40 * l.length ≤ gsum l := by
  unfold gsum
  induction l with
  | nil => simp
  | cons f l ih => simp only [List.map_cons, List.sum_cons, List.length_cons]; omega
theorem gsum_mem {l : List FD} {i : Nat} (h : i < l.length) : (l[i]).B.length + 40 ≤ gsum l := by
  have h1 := gsum_take_succ h
  have h2 := gsum_take_le l (i + 1)
  omega
set_option maxHeartbeats 8000000 in
theorem great_any (w : World) (A : Option Addr) (c : Nat) (l : List FD) (h : FS w A l) (hl : l.length ≤ 140737488351232) : Calls Try.prog 16 #[.slice A l.length c] w (RetV w (.bool (decide (4000 < gsum l)))) := by
  refine calls_of_CW Try.func16 rfl (by simp [Try.ntmps16]) ?_
  rw [Try.ntmps16]
  refine go_Field (k := ?_)
  refine CW_loop (fun e' w' => ∃ k : Nat, k ≤ l.length ∧ gsum (l.take k) ≤ 4000 ∧ e' 0 = .slice A l.length c ∧ e' 3 = .int .i64 (gsum (l.take k)) ∧ e' 4 = .int .i64 k ∧ w' = w) (fun e' _ => l.length - (intOf (e' 4)).toNat) ⟨0, Nat.zero_le _, Nat.zero_le _, rfl, rfl, rfl, rfl⟩ ?_
  rintro e' w' ⟨k, hk, hg, e0, e3, e4, rfl⟩
  rw [upd_self e0, upd_self e3, upd_self e4]
  refine go_Field (k := ?_)
  refine CW_cond _ rfl (fun hh => ?_) (fun hh => ?_)
  · have hlt : k < l.length := by have := of_decide_eq_true hh; omega
    clear hh
    obtain ⟨ad, A', c', hA, hat, hok⟩ := h.get hlt
    subst hA
    have hs := gsum_take_succ hlt
    have hcap := hok.small
    have hc2 : w'.cell? ((ad.add (k * 35)).add 2) = some (.slice A' (l[k]).B.length c') := hat 2 _ rfl
    refine go_Field (k := ?_)
    refine CW_cond _ rfl (fun hh => ?_) (fun hh => ?_)
    · have h2 := of_decide_eq_true hh
      have h3 := gsum_take_le l (k + 1)
      refine go_Field (k := ?_)
      exact bodyE_ret1 rfl (.bool (decide (4000 < gsum l))) (by rw [decide_eq_true (show 4000 < gsum l by omega)]; rfl) ⟨rfl, Ext.rfl' _⟩
    · have h2 := of_decide_eq_false hh
      clear hh
      refine go_Field (k := ?_)
      refine ⟨⟨k + 1, by omega, by omega, rfl, ?_, rfl, rfl⟩, ?_⟩
      · show Value.int _ _ = _
        rw [hs]
        congr 1
      · show l.length - ((k : Int) + 1).toNat < l.length - (k : Int).toNat
        omega
  · have hge : k = l.length := by have := of_decide_eq_false hh; omega
    subst hge
    rw [List.take_of_length_le (Nat.le_refl _)] at hg
    refine go_Field (k := ?_)
    exact bodyE_ret1 rfl (.bool (decide (4000 < gsum l))) (by rw [decide_eq_false (show ¬ 4000 < gsum l by omega)]; rfl) ⟨rfl, Ext.rfl' _⟩
end Go.Proofs.Ythhphmbhlddihaa
