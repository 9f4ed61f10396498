/- Several texts in one, as they stand in wip/src. -/
import Derived.Test.YtdpomchhbbopbaaGr13
/- What a reply's bytes are read as, plainly: forth, cut off, and back. -/
namespace Go.Proofs.Ytdpomchhbbopbaa
open Go Go.RowKit
set_option linter.unusedVariables false
set_option maxRecDepth 4000
/-- A link that is read; the reader behind it. -/
def readLk (s : ST) : LK := ⟨rdI s, rdI (s8 s), rdB (s8 (s8 s)), rdI (s1 (s8 (s8 s))), rdI (s8 (s1 (s8 (s8 s)))), rdI (s8 (s8 (s1 (s8 (s8 s))))), rdI (s8 (s8 (s8 (s1 (s8 (s8 s)))))), tagV (s8 (s8 (s8 (s8 (s1 (s8 (s8 s))))))), tagV (s32 (s8 (s8 (s8 (s8 (s1 (s8 (s8 s))))))))⟩
def stLk (s : ST) : ST := s32 (s32 (s8 (s8 (s8 (s8 (s1 (s8 (s8 s))))))))
theorem readLk_ok (s : ST) : LOk (readLk s) := ⟨tagV_length _, tagV_length _, rdI_i64 _, rdI_i64 _, rdI_i64 _, rdI_i64 _, rdI_i64 _, rdI_i64 _⟩
def rp2 (b : List UInt8) : ST := bytesS (s8 (b, 0))
def rpN (b : List UInt8) : Int := countV (rp2 b) 16
def rp3 (b : List UInt8) : ST := countS (rp2 b) 16
def rp4 (b : List UInt8) : ST := (readKeys (rpN b).toNat (rp3 b)).2
def readRp (b : List UInt8) : RP := ⟨rdI (b, 0), bytesV (s8 (b, 0)), (readKeys (rpN b).toNat (rp3 b)).1, rdI (rp4 b), readLk (s8 (rp4 b))⟩
def endRp (b : List UInt8) : ST := stLk (s8 (rp4 b))
def lk0 : LK := ⟨0, 0, 0, 0, 0, 0, 0, tz, tz⟩
def rp0 : RP := ⟨0, [], [], 0, lk0⟩
def goodR (b : List UInt8) : Bool := decide (endE (endRp b) = 0) && mayP (readRp b)
/-- What ParseReply tells. -/
def parR (b : List UInt8) : RP := if goodR b then readRp b else rp0
def parE (b : List UInt8) : Int := if goodR b then 0 else 150
theorem eats_lk (s : ST) : Eats s (stLk s) (linkP (readLk s)).flatten := by
  have h := (((((((((eats_I s).trans (eats_I _)).trans (eats_B _)).trans (eats_I _)).trans (eats_I _)).trans (eats_I _)).trans (eats_I _)).trans (eats_T _)).trans (eats_T (s32 (s8 (s8 (s8 (s8 (s1 (s8 (s8 s))))))))))
  have e : (linkP (readLk s)).flatten = putL (u64N (rdI s)) 8 ++ putL (u64N (rdI (s8 s))) 8 ++ [rdB (s8 (s8 s))] ++ putL (u64N (rdI (s1 (s8 (s8 s))))) 8 ++ putL (u64N (rdI (s8 (s1 (s8 (s8 s)))))) 8 ++ putL (u64N (rdI (s8 (s8 (s1 (s8 (s8 s))))))) 8 ++ putL (u64N (rdI (s8 (s8 (s8 (s1 (s8 (s8 s)))))))) 8 ++ tagV (s8 (s8 (s8 (s8 (s1 (s8 (s8 s))))))) ++ tagV (s32 (s8 (s8 (s8 (s8 (s1 (s8 (s8 s)))))))) := by
    simp [linkP, readLk]
  rw [e]
  exact h
/-- What is read has that form. -/
theorem eats_rp (b : List UInt8) : Eats (b, 0) (endRp b) (repF (readRp b)) := by
  have h := (((((eats_I (b, 0)).trans (eats_X _)).trans (eats_C (rp2 b) 16)).trans (eats_K (rpN b).toNat (rp3 b))).trans (eats_I (rp4 b))).trans (eats_lk _)
  have hn : ((rpN b).toNat : Int) = rpN b := Int.toNat_of_nonneg (count_pos _ _).1
  have e : repF (readRp b) = putL (u64N (rdI (b, 0))) 8 ++ (putL (bytesV (s8 (b, 0))).length 4 ++ bytesV (s8 (b, 0))) ++ putL (u64N (rpN b)) 8 ++ ((readKeys (rpN b).toNat (rp3 b)).1.flatMap keyP).flatten ++ putL (u64N (rdI (rp4 b))) 8 ++ (linkP (readLk (s8 (rp4 b)))).flatten := by
    unfold repF repP headP
    simp only [readRp, readKeys_length, hn]
    simp
  rw [e]
  exact h
theorem good_back {b : List UInt8} (h : goodR b = true) : mayP (readRp b) = true ∧ repF (readRp b) = b := by
  unfold goodR at h
  rw [Bool.and_eq_true, decide_eq_true_eq, endE_zero] at h
  obtain ⟨⟨h1, h2⟩, h3⟩ := h
  obtain ⟨_, h5⟩ := eats_rp b h1
  rw [h2, List.append_nil] at h5
  exact ⟨h3, h5.symm⟩
theorem link_ok {l : LK} {r : List UInt8} (h : LOk l) : readLk ((linkP l).flatten ++ r, 0) = l ∧ stLk ((linkP l).flatten ++ r, 0) = (r, 0) := by
  obtain ⟨i1, i2, i3, i4, i5, i6⟩ := h.i
  have e : (linkP l).flatten ++ r = putL (u64N l.n) 8 ++ (putL (u64N l.stamp) 8 ++ ([l.op] ++ (putL (u64N l.ten) 8 ++ (putL (u64N l.a) 8 ++ (putL (u64N l.b) 8 ++ (putL (u64N l.c) 8 ++ (l.ahead ++ (l.self ++ r)))))))) := by simp [linkP]
  unfold readLk stLk
  rw [e, (rdI_ok i1).1, (rdI_ok i1).2, (rdI_ok i2).1, (rdI_ok i2).2, rdB_ok.1, rdB_ok.2, (rdI_ok i3).1, (rdI_ok i3).2, (rdI_ok i4).1, (rdI_ok i4).2, (rdI_ok i5).1, (rdI_ok i5).2, (rdI_ok i6).1, (rdI_ok i6).2, (rdT_ok h.ahead).1, (rdT_ok h.ahead).2, (rdT_ok h.self).1, (rdT_ok h.self).2]
  exact ⟨rfl, rfl⟩
theorem may_parts {r : RP} (h : mayP r = true) : r.keys.length ≤ 16 ∧ r.value.length ≤ 512 ∧ ∀ k ∈ r.keys, k.length ≤ 512 := by
  unfold mayP at h
  rw [Bool.and_eq_true, Bool.and_eq_true] at h
  exact ⟨of_decide_eq_true h.1.1, of_decide_eq_true h.1.2, fun k hk => of_decide_eq_true (List.all_eq_true.1 h.2 k hk)⟩
theorem rep_split (r : RP) : repF r = putL (u64N r.err) 8 ++ (putL r.value.length 4 ++ (r.value ++ (putL (u64N r.keys.length) 8 ++ ((r.keys.flatMap keyP).flatten ++ (putL (u64N r.n) 8 ++ ((linkP r.link).flatten ++ [])))))) := by
  unfold repF repP headP
  simp
/-- A reply that may be is read from its form. -/
theorem rep_back {r : RP} (hm : mayP r = true) (hl : LOk r.link) (hi : I64 r.err ∧ I64 r.n) : readRp (repF r) = r ∧ endRp (repF r) = ([], 0) := by
  obtain ⟨m1, m2, m3⟩ := may_parts hm
  have m3' : ∀ k ∈ r.keys, k.length ≤ 65536 := fun k hk => by have := m3 k hk; omega
  have a1 := rdI_ok (r := putL r.value.length 4 ++ (r.value ++ (putL (u64N r.keys.length) 8 ++ ((r.keys.flatMap keyP).flatten ++ (putL (u64N r.n) 8 ++ ((linkP r.link).flatten ++ [])))))) hi.1
  have a2 := bytes_ok (l := r.value) (r := putL (u64N r.keys.length) 8 ++ ((r.keys.flatMap keyP).flatten ++ (putL (u64N r.n) 8 ++ ((linkP r.link).flatten ++ [])))) (by omega)
  have a3 := count_ok (n := r.keys.length) (r := (r.keys.flatMap keyP).flatten ++ (putL (u64N r.n) 8 ++ ((linkP r.link).flatten ++ []))) (most := 16) (by omega) (by omega) (by
    have hll : (linkP r.link).flatten.length = 113 := by simp [linkP, putL_length, hl.ahead, hl.self]
    rw [List.length_append, List.length_append, putL_length, List.length_append, hll]; omega)
  have a4 := readKeys_ok r.keys (putL (u64N r.n) 8 ++ ((linkP r.link).flatten ++ [])) m3' r.keys.length (Nat.le_refl _)
  rw [List.take_of_length_le (Nat.le_refl _), List.drop_of_length_le (Nat.le_refl _)] at a4
  have a4 : readKeys r.keys.length ((r.keys.flatMap keyP).flatten ++ (putL (u64N r.n) 8 ++ ((linkP r.link).flatten ++ [])), 0) = (r.keys, (putL (u64N r.n) 8 ++ ((linkP r.link).flatten ++ []), 0)) := a4
  have a5 := rdI_ok (r := (linkP r.link).flatten ++ []) hi.2
  have a6 := link_ok (r := []) hl
  rw [← rep_split] at a1
  have b2 : rp2 (repF r) = (putL (u64N r.keys.length) 8 ++ ((r.keys.flatMap keyP).flatten ++ (putL (u64N r.n) 8 ++ ((linkP r.link).flatten ++ []))), 0) := by unfold rp2; rw [a1.2, a2.2]
  have bN : rpN (repF r) = r.keys.length := by unfold rpN; rw [b2, a3.1]
  have b3 : rp3 (repF r) = ((r.keys.flatMap keyP).flatten ++ (putL (u64N r.n) 8 ++ ((linkP r.link).flatten ++ [])), 0) := by unfold rp3; rw [b2, a3.2]
  have b4 : rp4 (repF r) = (putL (u64N r.n) 8 ++ ((linkP r.link).flatten ++ []), 0) := by unfold rp4; rw [bN, b3, show ((r.keys.length : Nat) : Int).toNat = r.keys.length from rfl, a4]
  refine ⟨?_, by unfold endRp; rw [b4, a5.2, a6.2]⟩
  unfold readRp
  rw [b4, bN, b3, show ((r.keys.length : Nat) : Int).toNat = r.keys.length from rfl, a4, a1.1, a1.2, a2.1, a5.1, a5.2, a6.1]
theorem parR_back {r : RP} (hm : mayP r = true) (hl : LOk r.link) (hi : I64 r.err ∧ I64 r.n) : goodR (repF r) = true ∧ readRp (repF r) = r := by
  obtain ⟨h1, h2⟩ := rep_back hm hl hi
  refine ⟨?_, h1⟩
  unfold goodR
  rw [h1, h2, hm]
  rfl
/-- A beginning of a form is none. -/
theorem parR_cut {r : RP} (hm : mayP r = true) (hl : LOk r.link) {m : Nat} (h : m < (repF r).length) : goodR ((repF r).take m) = false := by
  obtain ⟨m1, m2, m3⟩ := may_parts hm
  have m3' : ∀ k ∈ r.keys, k.length ≤ 65536 := fun k hk => by have := m3 k hk; omega
  have c0 : Cut (repF r) ((repF r).take m, 0) := .inr ⟨m, h, rfl⟩
  obtain ⟨b, hb⟩ : ∃ b, (repF r).take m = b := ⟨_, rfl⟩
  rw [hb] at c0 ⊢
  have hs := rep_split r
  rw [← List.append_assoc (putL r.value.length 4)] at hs
  rw [hs] at c0
  have c2 : Cut (putL (u64N r.keys.length) 8 ++ ((r.keys.flatMap keyP).flatten ++ (putL (u64N r.n) 8 ++ ((linkP r.link).flatten ++ [])))) (rp2 b) := c0.int.text (by omega)
  have c4 : Cut (putL (u64N r.n) 8 ++ ((linkP r.link).flatten ++ [])) (rp4 b) := by
    rcases c2.count (most := 16) (by omega) with hc | ⟨hn, hc⟩
    · have h3 : rp3 b = ([], 40) := hc
      unfold rp4
      rw [readKeys_bad _ (by rw [h3]; simp), h3]
      exact Cut.bad _
    · have hN : rpN b = r.keys.length := hn
      have := Cut.keys m3' hc r.keys.length (Nat.le_refl _)
      rw [List.drop_of_length_le (Nat.le_refl _)] at this
      unfold rp4
      rw [hN]
      exact this
  have c5 := c4.int
  have e : (linkP r.link).flatten ++ [] = putL (u64N r.link.n) 8 ++ (putL (u64N r.link.stamp) 8 ++ ([r.link.op] ++ (putL (u64N r.link.ten) 8 ++ (putL (u64N r.link.a) 8 ++ (putL (u64N r.link.b) 8 ++ (putL (u64N r.link.c) 8 ++ (r.link.ahead ++ (r.link.self ++ [])))))))) := by simp [linkP]
  rw [e] at c5
  have cE : Cut [] (endRp b) := (c5.int.int.byte.int.int.int.int.tag hl.ahead).tag hl.self
  unfold goodR
  rw [cE.end_]
  rfl
end Go.Proofs.Ytdpomchhbbopbaa

/- Walk: a reply is read. -/
namespace Go.Proofs.Ytdpomchhbbopbaa
open Go Go.RowKit
set_option linter.unusedVariables false
set_option maxRecDepth 4000
theorem go_Rep5 {A B : Prop} (h : Held B → A := by
  intro hEnd
  repeat (first | refine OW_fieldF fld_P2 rfl ?_ | refine OW_fieldF fld_P3 rfl ?_ | refine OW_fieldF fld_P4 rfl ?_ | (refine OW_isLoad ?_; refine OW_loadBk one_strs rfl (by apply_assumption; assumption) _ rfl ?_) | refine OW_moveV (.int _ _) rfl ?_ | refine OW_moveV (.slice _ _ _) rfl ?_ | refine OW_moveV (.bool _) rfl ?_ | refine OW_moveV (.pointer _) rfl ?_ | refine OW_moveV (.string _) rfl ?_ | refine OW_moveV (.agg _) rfl ?_ | refine OW_moveV (.tuple _) rfl ?_ | refine OW_nil ?_ | refine thenE_normal ?_ | refine CW_seq ?_ | refine CW_region (by kernel_rfl) ?_ | refine OW_assignV (.int _ _) rfl ?_ | refine OW_assignV (.slice _ _ _) rfl ?_ | refine OW_assignV (.bool _) rfl ?_ | refine OW_assignV (.pointer _) rfl ?_ | refine OW_assignV (.string _) rfl ?_ | refine OW_assignV (.agg _) rfl ?_ | refine OW_assignV (.tuple _) rfl ?_ | refine OW_addI rfl rfl (by omega) ?_ | refine OW_subI rfl rfl (by omega) ?_ | refine OW_mulI rfl rfl (by omega) ?_ | refine OW_lss rfl rfl ?_ | refine OW_extract rfl rfl ?_ | refine OW_gtr rfl rfl ?_ | refine OW_leq rfl rfl ?_ | refine OW_geq rfl rfl ?_ | refine OW_eql rfl rfl ?_ | refine OW_neq rfl rfl ?_ | refine OW_not rfl ?_ | refine OW_pickT rfl _ rfl ?_ | refine OW_pickF rfl (.bool _) rfl ?_ | refine OW_pickB rfl rfl rfl ?_ | refine OW_move ?_ | refine OW_assign ?_ | refine OW_pass rfl ?_ | refine OW_take rfl ?_ | refine OW_lenS (by first | with_reducible exact und_bytes | with_reducible exact und_bytess) rfl ?_ | refine OW_convInt (by first | with_reducible exact und_u8 | with_reducible exact und_u64 | with_reducible exact und_int | with_reducible exact und_u32) (by first | with_reducible exact und_u8 | with_reducible exact und_u64 | with_reducible exact und_int | with_reducible exact und_u32) rfl ?_ | refine OW_add rfl rfl ?_ | refine OW_sub rfl rfl ?_ | refine OW_mul rfl rfl ?_ | refine OW_min2 rfl rfl ?_ | refine OW_max2 rfl rfl ?_ | refine OW_neg rfl ?_ | refine CW_block ?_ | refine CW_condT rfl ?_ | refine CW_condF rfl ?_ | refine CW_exit ?_ | refine CW_ret ?_ | refine CW_skip ?_ | refine LW_seq ?_ | refine LW_regC ?_ | refine LW_condC ?_ | refine LW_regF ?_ | refine LW_condF ?_ | refine FW_seq ?_ | refine FW_region (by kernel_rfl) ?_ | refine FW_block ?_ | refine FW_condT rfl ?_ | refine FW_condF rfl ?_ | refine FW_exit ?_ | refine FW_ret ?_ | refine FW_skip ?_ | refine LW_ret ?_ | refine LW_skip ?_ | refine thenE_exit ?_ | refine thenE_ret ?_ | refine inBlockE_normal ?_ | refine inBlockE_same ?_ | refine inBlockE_ret ?_ | refine inBlockE_ne (by rfl) ?_ | refine OW_eqlB (by with_reducible exact und_bool) rfl rfl ?_ | refine OW_neqB (by with_reducible exact und_bool) rfl rfl ?_ | refine OW_idxS (by with_reducible exact und_bytes) one_u8 rfl rfl _ rfl (by omega) ?_ | refine OW_idxS (by with_reducible exact und_bytess) one_bytes rfl rfl _ rfl (by omega) ?_ | refine OW_load1 (by first | with_reducible exact one_u8 | with_reducible exact one_bytes) rfl _ (by assumption) ?_)
  exact hEnd.out) (k : B) : A := h ⟨k⟩
theorem oy_Rep5 {A B : Prop} (h : Held B → A := by
  intro hEnd
  repeat (first
    | refine OY_done ?_
    | (apply OY_p _ rfl
       · intro wd
         (first | refine OW_fieldF fld_P2 rfl ?_ | refine OW_fieldF fld_P3 rfl ?_ | refine OW_fieldF fld_P4 rfl ?_ | (refine OW_isLoad ?_; refine OW_loadBk one_strs rfl (by apply_assumption; assumption) _ rfl ?_) | refine OW_moveV (.int _ _) rfl ?_ | refine OW_moveV (.slice _ _ _) rfl ?_ | refine OW_moveV (.bool _) rfl ?_ | refine OW_moveV (.pointer _) rfl ?_ | refine OW_moveV (.string _) rfl ?_ | refine OW_moveV (.agg _) rfl ?_ | refine OW_moveV (.tuple _) rfl ?_ | refine OW_nil ?_ | refine thenE_normal ?_ | refine CW_seq ?_ | refine CW_region (by kernel_rfl) ?_ | refine OW_assignV (.int _ _) rfl ?_ | refine OW_assignV (.slice _ _ _) rfl ?_ | refine OW_assignV (.bool _) rfl ?_ | refine OW_assignV (.pointer _) rfl ?_ | refine OW_assignV (.string _) rfl ?_ | refine OW_assignV (.agg _) rfl ?_ | refine OW_assignV (.tuple _) rfl ?_ | refine OW_addI rfl rfl (by omega) ?_ | refine OW_subI rfl rfl (by omega) ?_ | refine OW_mulI rfl rfl (by omega) ?_ | refine OW_lss rfl rfl ?_ | refine OW_extract rfl rfl ?_ | refine OW_gtr rfl rfl ?_ | refine OW_leq rfl rfl ?_ | refine OW_geq rfl rfl ?_ | refine OW_eql rfl rfl ?_ | refine OW_neq rfl rfl ?_ | refine OW_not rfl ?_ | refine OW_pickT rfl _ rfl ?_ | refine OW_pickF rfl (.bool _) rfl ?_ | refine OW_pickB rfl rfl rfl ?_ | refine OW_move ?_ | refine OW_assign ?_ | refine OW_pass rfl ?_ | refine OW_take rfl ?_ | refine OW_lenS (by first | with_reducible exact und_bytes | with_reducible exact und_bytess) rfl ?_ | refine OW_convInt (by first | with_reducible exact und_u8 | with_reducible exact und_u64 | with_reducible exact und_int | with_reducible exact und_u32) (by first | with_reducible exact und_u8 | with_reducible exact und_u64 | with_reducible exact und_int | with_reducible exact und_u32) rfl ?_ | refine OW_add rfl rfl ?_ | refine OW_sub rfl rfl ?_ | refine OW_mul rfl rfl ?_ | refine OW_min2 rfl rfl ?_ | refine OW_max2 rfl rfl ?_ | refine OW_neg rfl ?_ | refine CW_block ?_ | refine CW_condT rfl ?_ | refine CW_condF rfl ?_ | refine CW_exit ?_ | refine CW_ret ?_ | refine CW_skip ?_ | refine LW_seq ?_ | refine LW_regC ?_ | refine LW_condC ?_ | refine LW_regF ?_ | refine LW_condF ?_ | refine FW_seq ?_ | refine FW_region (by kernel_rfl) ?_ | refine FW_block ?_ | refine FW_condT rfl ?_ | refine FW_condF rfl ?_ | refine FW_exit ?_ | refine FW_ret ?_ | refine FW_skip ?_ | refine LW_ret ?_ | refine LW_skip ?_ | refine thenE_exit ?_ | refine thenE_ret ?_ | refine inBlockE_normal ?_ | refine inBlockE_same ?_ | refine inBlockE_ret ?_ | refine inBlockE_ne (by rfl) ?_ | refine OW_eqlB (by with_reducible exact und_bool) rfl rfl ?_ | refine OW_neqB (by with_reducible exact und_bool) rfl rfl ?_ | refine OW_idxS (by with_reducible exact und_bytes) one_u8 rfl rfl _ rfl (by omega) ?_ | refine OW_idxS (by with_reducible exact und_bytess) one_bytes rfl rfl _ rfl (by omega) ?_ | refine OW_load1 (by first | with_reducible exact one_u8 | with_reducible exact one_bytes) rfl _ (by assumption) ?_)
         refine OW_nil ?_
         exact stay_mk _ _ _ _)
    | (apply OY_q _ rfl
       · intro wd hwd
         (first | refine OW_fieldF fld_P2 rfl ?_ | refine OW_fieldF fld_P3 rfl ?_ | refine OW_fieldF fld_P4 rfl ?_ | (refine OW_isLoad ?_; refine OW_loadBk one_strs rfl (by apply_assumption; assumption) _ rfl ?_) | refine OW_moveV (.int _ _) rfl ?_ | refine OW_moveV (.slice _ _ _) rfl ?_ | refine OW_moveV (.bool _) rfl ?_ | refine OW_moveV (.pointer _) rfl ?_ | refine OW_moveV (.string _) rfl ?_ | refine OW_moveV (.agg _) rfl ?_ | refine OW_moveV (.tuple _) rfl ?_ | refine OW_nil ?_ | refine thenE_normal ?_ | refine CW_seq ?_ | refine CW_region (by kernel_rfl) ?_ | refine OW_assignV (.int _ _) rfl ?_ | refine OW_assignV (.slice _ _ _) rfl ?_ | refine OW_assignV (.bool _) rfl ?_ | refine OW_assignV (.pointer _) rfl ?_ | refine OW_assignV (.string _) rfl ?_ | refine OW_assignV (.agg _) rfl ?_ | refine OW_assignV (.tuple _) rfl ?_ | refine OW_addI rfl rfl (by omega) ?_ | refine OW_subI rfl rfl (by omega) ?_ | refine OW_mulI rfl rfl (by omega) ?_ | refine OW_lss rfl rfl ?_ | refine OW_extract rfl rfl ?_ | refine OW_gtr rfl rfl ?_ | refine OW_leq rfl rfl ?_ | refine OW_geq rfl rfl ?_ | refine OW_eql rfl rfl ?_ | refine OW_neq rfl rfl ?_ | refine OW_not rfl ?_ | refine OW_pickT rfl _ rfl ?_ | refine OW_pickF rfl (.bool _) rfl ?_ | refine OW_pickB rfl rfl rfl ?_ | refine OW_move ?_ | refine OW_assign ?_ | refine OW_pass rfl ?_ | refine OW_take rfl ?_ | refine OW_lenS (by first | with_reducible exact und_bytes | with_reducible exact und_bytess) rfl ?_ | refine OW_convInt (by first | with_reducible exact und_u8 | with_reducible exact und_u64 | with_reducible exact und_int | with_reducible exact und_u32) (by first | with_reducible exact und_u8 | with_reducible exact und_u64 | with_reducible exact und_int | with_reducible exact und_u32) rfl ?_ | refine OW_add rfl rfl ?_ | refine OW_sub rfl rfl ?_ | refine OW_mul rfl rfl ?_ | refine OW_min2 rfl rfl ?_ | refine OW_max2 rfl rfl ?_ | refine OW_neg rfl ?_ | refine CW_block ?_ | refine CW_condT rfl ?_ | refine CW_condF rfl ?_ | refine CW_exit ?_ | refine CW_ret ?_ | refine CW_skip ?_ | refine LW_seq ?_ | refine LW_regC ?_ | refine LW_condC ?_ | refine LW_regF ?_ | refine LW_condF ?_ | refine FW_seq ?_ | refine FW_region (by kernel_rfl) ?_ | refine FW_block ?_ | refine FW_condT rfl ?_ | refine FW_condF rfl ?_ | refine FW_exit ?_ | refine FW_ret ?_ | refine FW_skip ?_ | refine LW_ret ?_ | refine LW_skip ?_ | refine thenE_exit ?_ | refine thenE_ret ?_ | refine inBlockE_normal ?_ | refine inBlockE_same ?_ | refine inBlockE_ret ?_ | refine inBlockE_ne (by rfl) ?_ | refine OW_eqlB (by with_reducible exact und_bool) rfl rfl ?_ | refine OW_neqB (by with_reducible exact und_bool) rfl rfl ?_ | refine OW_idxS (by with_reducible exact und_bytes) one_u8 rfl rfl _ rfl (by omega) ?_ | refine OW_idxS (by with_reducible exact und_bytess) one_bytes rfl rfl _ rfl (by omega) ?_ | refine OW_load1 (by first | with_reducible exact one_u8 | with_reducible exact one_bytes) rfl _ (by assumption) ?_ | (refine OW_isLoad ?_; refine OW_loadBk (by first | with_reducible exact one_u8 | with_reducible exact one_bytes | with_reducible exact one_bool | with_reducible exact one_int | with_reducible exact one_errno | with_reducible exact one_u32 | with_reducible exact one_u64 | with_reducible exact one_string | with_reducible exact one_strs) rfl (by apply_assumption; assumption) _ (by first | assumption | rfl) ?_) | refine OW_load1 (by first | with_reducible exact one_u8 | with_reducible exact one_bytes | with_reducible exact one_bool | with_reducible exact one_int | with_reducible exact one_errno | with_reducible exact one_u32 | with_reducible exact one_u64 | with_reducible exact one_string | with_reducible exact one_strs) rfl _ (by apply_assumption; assumption) ?_)
         refine OW_nil ?_
         exact stay_mk _ _ _ _)
    | refine OY_ppass rfl rfl ?_
    | refine OY_qpass rfl rfl ?_
    | (apply OY_ptake _ rfl rfl
       · intro wd
         (first | refine OW_fieldF fld_P2 rfl ?_ | refine OW_fieldF fld_P3 rfl ?_ | refine OW_fieldF fld_P4 rfl ?_ | (refine OW_isLoad ?_; refine OW_loadBk one_strs rfl (by apply_assumption; assumption) _ rfl ?_) | refine OW_moveV (.int _ _) rfl ?_ | refine OW_moveV (.slice _ _ _) rfl ?_ | refine OW_moveV (.bool _) rfl ?_ | refine OW_moveV (.pointer _) rfl ?_ | refine OW_moveV (.string _) rfl ?_ | refine OW_moveV (.agg _) rfl ?_ | refine OW_moveV (.tuple _) rfl ?_ | refine OW_nil ?_ | refine thenE_normal ?_ | refine CW_seq ?_ | refine CW_region (by kernel_rfl) ?_ | refine OW_assignV (.int _ _) rfl ?_ | refine OW_assignV (.slice _ _ _) rfl ?_ | refine OW_assignV (.bool _) rfl ?_ | refine OW_assignV (.pointer _) rfl ?_ | refine OW_assignV (.string _) rfl ?_ | refine OW_assignV (.agg _) rfl ?_ | refine OW_assignV (.tuple _) rfl ?_ | refine OW_addI rfl rfl (by omega) ?_ | refine OW_subI rfl rfl (by omega) ?_ | refine OW_mulI rfl rfl (by omega) ?_ | refine OW_lss rfl rfl ?_ | refine OW_extract rfl rfl ?_ | refine OW_gtr rfl rfl ?_ | refine OW_leq rfl rfl ?_ | refine OW_geq rfl rfl ?_ | refine OW_eql rfl rfl ?_ | refine OW_neq rfl rfl ?_ | refine OW_not rfl ?_ | refine OW_pickT rfl _ rfl ?_ | refine OW_pickF rfl (.bool _) rfl ?_ | refine OW_pickB rfl rfl rfl ?_ | refine OW_move ?_ | refine OW_assign ?_ | refine OW_pass rfl ?_ | refine OW_take rfl ?_ | refine OW_lenS (by first | with_reducible exact und_bytes | with_reducible exact und_bytess) rfl ?_ | refine OW_convInt (by first | with_reducible exact und_u8 | with_reducible exact und_u64 | with_reducible exact und_int | with_reducible exact und_u32) (by first | with_reducible exact und_u8 | with_reducible exact und_u64 | with_reducible exact und_int | with_reducible exact und_u32) rfl ?_ | refine OW_add rfl rfl ?_ | refine OW_sub rfl rfl ?_ | refine OW_mul rfl rfl ?_ | refine OW_min2 rfl rfl ?_ | refine OW_max2 rfl rfl ?_ | refine OW_neg rfl ?_ | refine CW_block ?_ | refine CW_condT rfl ?_ | refine CW_condF rfl ?_ | refine CW_exit ?_ | refine CW_ret ?_ | refine CW_skip ?_ | refine LW_seq ?_ | refine LW_regC ?_ | refine LW_condC ?_ | refine LW_regF ?_ | refine LW_condF ?_ | refine FW_seq ?_ | refine FW_region (by kernel_rfl) ?_ | refine FW_block ?_ | refine FW_condT rfl ?_ | refine FW_condF rfl ?_ | refine FW_exit ?_ | refine FW_ret ?_ | refine FW_skip ?_ | refine LW_ret ?_ | refine LW_skip ?_ | refine thenE_exit ?_ | refine thenE_ret ?_ | refine inBlockE_normal ?_ | refine inBlockE_same ?_ | refine inBlockE_ret ?_ | refine inBlockE_ne (by rfl) ?_ | refine OW_eqlB (by with_reducible exact und_bool) rfl rfl ?_ | refine OW_neqB (by with_reducible exact und_bool) rfl rfl ?_ | refine OW_idxS (by with_reducible exact und_bytes) one_u8 rfl rfl _ rfl (by omega) ?_ | refine OW_idxS (by with_reducible exact und_bytess) one_bytes rfl rfl _ rfl (by omega) ?_ | refine OW_load1 (by first | with_reducible exact one_u8 | with_reducible exact one_bytes) rfl _ (by assumption) ?_)
         refine OW_nil ?_
         exact stay_mk _ _ _ _)
    | (apply OY_qtake _ rfl rfl
       · intro wd hwd
         (first | refine OW_fieldF fld_P2 rfl ?_ | refine OW_fieldF fld_P3 rfl ?_ | refine OW_fieldF fld_P4 rfl ?_ | (refine OW_isLoad ?_; refine OW_loadBk one_strs rfl (by apply_assumption; assumption) _ rfl ?_) | refine OW_moveV (.int _ _) rfl ?_ | refine OW_moveV (.slice _ _ _) rfl ?_ | refine OW_moveV (.bool _) rfl ?_ | refine OW_moveV (.pointer _) rfl ?_ | refine OW_moveV (.string _) rfl ?_ | refine OW_moveV (.agg _) rfl ?_ | refine OW_moveV (.tuple _) rfl ?_ | refine OW_nil ?_ | refine thenE_normal ?_ | refine CW_seq ?_ | refine CW_region (by kernel_rfl) ?_ | refine OW_assignV (.int _ _) rfl ?_ | refine OW_assignV (.slice _ _ _) rfl ?_ | refine OW_assignV (.bool _) rfl ?_ | refine OW_assignV (.pointer _) rfl ?_ | refine OW_assignV (.string _) rfl ?_ | refine OW_assignV (.agg _) rfl ?_ | refine OW_assignV (.tuple _) rfl ?_ | refine OW_addI rfl rfl (by omega) ?_ | refine OW_subI rfl rfl (by omega) ?_ | refine OW_mulI rfl rfl (by omega) ?_ | refine OW_lss rfl rfl ?_ | refine OW_extract rfl rfl ?_ | refine OW_gtr rfl rfl ?_ | refine OW_leq rfl rfl ?_ | refine OW_geq rfl rfl ?_ | refine OW_eql rfl rfl ?_ | refine OW_neq rfl rfl ?_ | refine OW_not rfl ?_ | refine OW_pickT rfl _ rfl ?_ | refine OW_pickF rfl (.bool _) rfl ?_ | refine OW_pickB rfl rfl rfl ?_ | refine OW_move ?_ | refine OW_assign ?_ | refine OW_pass rfl ?_ | refine OW_take rfl ?_ | refine OW_lenS (by first | with_reducible exact und_bytes | with_reducible exact und_bytess) rfl ?_ | refine OW_convInt (by first | with_reducible exact und_u8 | with_reducible exact und_u64 | with_reducible exact und_int | with_reducible exact und_u32) (by first | with_reducible exact und_u8 | with_reducible exact und_u64 | with_reducible exact und_int | with_reducible exact und_u32) rfl ?_ | refine OW_add rfl rfl ?_ | refine OW_sub rfl rfl ?_ | refine OW_mul rfl rfl ?_ | refine OW_min2 rfl rfl ?_ | refine OW_max2 rfl rfl ?_ | refine OW_neg rfl ?_ | refine CW_block ?_ | refine CW_condT rfl ?_ | refine CW_condF rfl ?_ | refine CW_exit ?_ | refine CW_ret ?_ | refine CW_skip ?_ | refine LW_seq ?_ | refine LW_regC ?_ | refine LW_condC ?_ | refine LW_regF ?_ | refine LW_condF ?_ | refine FW_seq ?_ | refine FW_region (by kernel_rfl) ?_ | refine FW_block ?_ | refine FW_condT rfl ?_ | refine FW_condF rfl ?_ | refine FW_exit ?_ | refine FW_ret ?_ | refine FW_skip ?_ | refine LW_ret ?_ | refine LW_skip ?_ | refine thenE_exit ?_ | refine thenE_ret ?_ | refine inBlockE_normal ?_ | refine inBlockE_same ?_ | refine inBlockE_ret ?_ | refine inBlockE_ne (by rfl) ?_ | refine OW_eqlB (by with_reducible exact und_bool) rfl rfl ?_ | refine OW_neqB (by with_reducible exact und_bool) rfl rfl ?_ | refine OW_idxS (by with_reducible exact und_bytes) one_u8 rfl rfl _ rfl (by omega) ?_ | refine OW_idxS (by with_reducible exact und_bytess) one_bytes rfl rfl _ rfl (by omega) ?_ | refine OW_load1 (by first | with_reducible exact one_u8 | with_reducible exact one_bytes) rfl _ (by assumption) ?_ | (refine OW_isLoad ?_; refine OW_loadBk (by first | with_reducible exact one_u8 | with_reducible exact one_bytes | with_reducible exact one_bool | with_reducible exact one_int | with_reducible exact one_errno | with_reducible exact one_u32 | with_reducible exact one_u64 | with_reducible exact one_string | with_reducible exact one_strs) rfl (by apply_assumption; assumption) _ (by first | assumption | rfl) ?_) | refine OW_load1 (by first | with_reducible exact one_u8 | with_reducible exact one_bytes | with_reducible exact one_bool | with_reducible exact one_int | with_reducible exact one_errno | with_reducible exact one_u32 | with_reducible exact one_u64 | with_reducible exact one_string | with_reducible exact one_strs) rfl _ (by apply_assumption; assumption) ?_)
         refine OW_nil ?_
         exact stay_mk _ _ _ _)
    | refine OY_a (actY_of rfl ?_)
    | refine OY_d (actY_of rfl ?_)
    | refine OY_a (actY_pass rfl rfl ?_)
    | refine OY_d (actY_pass rfl rfl ?_)
    | refine OY_a (actY_take rfl rfl ?_)
    | refine OY_d (actY_take rfl rfl ?_))
  exact hEnd.out) (k : B) : A := h ⟨k⟩
theorem bld_L64 (w : World) (n st te a b c : Int) (op : UInt8) (a0 a1 a2 a3 a4 a5 a6 a7 a8 a9 a10 a11 a12 a13 a14 a15 a16 a17 a18 a19 a20 a21 a22 a23 a24 a25 a26 a27 a28 a29 a30 a31 b0 b1 b2 b3 b4 b5 b6 b7 b8 b9 b10 b11 b12 b13 b14 b15 b16 b17 b18 b19 b20 b21 b22 b23 b24 b25 b26 b27 b28 b29 b30 b31 : UInt8) : (Instr.build 27 [(0, .int .i64 n), (1, .int .i64 st), (2, bv op), (3, .int .i64 te), (4, .int .i64 a), (5, .int .i64 b), (6, .int .i64 c), (7, .agg [bv a0, bv a1, bv a2, bv a3, bv a4, bv a5, bv a6, bv a7, bv a8, bv a9, bv a10, bv a11, bv a12, bv a13, bv a14, bv a15, bv a16, bv a17, bv a18, bv a19, bv a20, bv a21, bv a22, bv a23, bv a24, bv a25, bv a26, bv a27, bv a28, bv a29, bv a30, bv a31].toArray), (8, .agg [bv b0, bv b1, bv b2, bv b3, bv b4, bv b5, bv b6, bv b7, bv b8, bv b9, bv b10, bv b11, bv b12, bv b13, bv b14, bv b15, bv b16, bv b17, bv b18, bv b19, bv b20, bv b21, bv b22, bv b23, bv b24, bv b25, bv b26, bv b27, bv b28, bv b29, bv b30, bv b31].toArray)].toArray).run Try.prog w = .ok (.agg [.int .i64 n, .int .i64 st, bv op, .int .i64 te, .int .i64 a, .int .i64 b, .int .i64 c, bv a0, bv a1, bv a2, bv a3, bv a4, bv a5, bv a6, bv a7, bv a8, bv a9, bv a10, bv a11, bv a12, bv a13, bv a14, bv a15, bv a16, bv a17, bv a18, bv a19, bv a20, bv a21, bv a22, bv a23, bv a24, bv a25, bv a26, bv a27, bv a28, bv a29, bv a30, bv a31, bv b0, bv b1, bv b2, bv b3, bv b4, bv b5, bv b6, bv b7, bv b8, bv b9, bv b10, bv b11, bv b12, bv b13, bv b14, bv b15, bv b16, bv b17, bv b18, bv b19, bv b20, bv b21, bv b22, bv b23, bv b24, bv b25, bv b26, bv b27, bv b28, bv b29, bv b30, bv b31].toArray) w := by kernel_rfl
theorem bld_L : ∀ (w : World) (l : LK), LOk l → (Instr.build 27 [(0, .int .i64 l.n), (1, .int .i64 l.stamp), (2, bv l.op), (3, .int .i64 l.ten), (4, .int .i64 l.a), (5, .int .i64 l.b), (6, .int .i64 l.c), (7, .agg (l.ahead.map bv).toArray), (8, .agg (l.self.map bv).toArray)].toArray).run Try.prog w = .ok (.agg (lcells l).toArray) w := fun w l h => by
  obtain ⟨n, st, op, te, a, b, c, ah, se⟩ := l
  have h1 : ah.length = 32 := h.ahead
  have h2 : se.length = 32 := h.self
  clear h
  match ah, h1, se, h2 with
  | [a0, a1, a2, a3, a4, a5, a6, a7, a8, a9, a10, a11, a12, a13, a14, a15, a16, a17, a18, a19, a20, a21, a22, a23, a24, a25, a26, a27, a28, a29, a30, a31], _, [b0, b1, b2, b3, b4, b5, b6, b7, b8, b9, b10, b11, b12, b13, b14, b15, b16, b17, b18, b19, b20, b21, b22, b23, b24, b25, b26, b27, b28, b29, b30, b31], _ => exact bld_L64 w n st te a b c op a0 a1 a2 a3 a4 a5 a6 a7 a8 a9 a10 a11 a12 a13 a14 a15 a16 a17 a18 a19 a20 a21 a22 a23 a24 a25 a26 a27 a28 a29 a30 a31 b0 b1 b2 b3 b4 b5 b6 b7 b8 b9 b10 b11 b12 b13 b14 b15 b16 b17 b18 b19 b20 b21 b22 b23 b24 b25 b26 b27 b28 b29 b30 b31
theorem bld_P0 : ∀ w, (Instr.build 29 [].toArray).run Try.prog w = .ok (.agg (rcells rp0 (.slice none 0 0)).toArray) w := fun w => by kernel_rfl
theorem bld_P2 : ∀ w n l, (Instr.build 29 [(0, .int .i64 n), (1, stv l)].toArray).run Try.prog w = .ok (.agg (rcells ⟨n, l, [], 0, lk0⟩ (.slice none 0 0)).toArray) w := fun w n l => by kernel_rfl
theorem lk0_ok : LOk lk0 := ⟨rfl, rfl, by unfold I64 lk0; simp⟩
theorem rcells_one (r : RP) (A : Option Addr) (c : Nat) : ∀ v ∈ rcells r (.slice A r.keys.length c), v.oneCell' = true := by
  intro v hv
  simp only [rcells, List.mem_append, List.mem_cons, List.not_mem_nil, or_false] at hv
  rcases hv with (rfl | rfl | rfl | rfl) | hv
  · rfl
  · rfl
  · rfl
  · rfl
  · exact lcells_one _ v hv
theorem info_str : (Try.prog.info? 9).map (fun i => (i.zero, i.size, i.bytes)) = some (some (.string ⟨#[]⟩), 1, 16) := by kernel_rfl
theorem newReader_own (w : World) (A : Option Addr) (b : List UInt8) (c : Nat) (hb : Bs w A b) (hl : b.length ≤ 65536) : Calls Try.prog 49 #[.slice A b.length c] w (fun en w' => ∃ g S, en = .returned (.pointer (some ⟨g, 0, none⟩)) ∧ Ext w w' ∧ RR w' g S (b, 0) ∧ (∀ k, S k → w.heap.size ≤ k) ∧ (∀ k, S k → k < w'.heap.size)) :=
  (newReader_any w A b c hb (by omega)).mono fun en w' ⟨g, h1, h2, h3, h4⟩ => ⟨g, _, h1, h3, by rw [if_neg (by omega)] at h4; exact h4, fun k hk => by rcases hk with hk | hk; exact hk.elim; exact hk.1, h4.bd⟩
/-- What ParseReply comes to. -/
def ParP (w : World) (r : RP) (n : Int) : Ending → World → Prop := fun en w' => ∃ B d, en = .returned (.tuple #[.agg (rcells r (.slice B r.keys.length d)).toArray, .int .i64 n]) ∧ w'.ownsRow w.heap.size 9 1 (.slice B r.keys.length d) r.keys.length (r.keys.map stv) ∧ Ext w w'
theorem stv_one (l : List (List UInt8)) : ∀ u ∈ l.map stv, u.oneCell' = true := by
  intro u hu
  obtain ⟨b, _, rfl⟩ := List.mem_map.1 hu
  rfl
theorem step_le (s : ST) (n : Int) (ok : Bool) : (stepS s n ok).1.length ≤ s.1.length := by
  unfold stepS
  repeat' split
  all_goals simp
theorem bytesV_le (s : ST) : (bytesV s).length ≤ s.1.length := by
  unfold bytesV
  split
  · have := step_le s 4 (lenOk s)
    rw [List.length_take]; omega
  · simp
theorem bytesS_le (s : ST) : (bytesS s).1.length ≤ s.1.length := Nat.le_trans (step_le _ _ _) (step_le _ _ _)
theorem keys_le : ∀ (n : Nat) (s : ST), (readKeys n s).2.1.length ≤ s.1.length ∧ ∀ k ∈ (readKeys n s).1, k.length ≤ s.1.length
  | 0, s => ⟨Nat.le_refl _, fun k hk => by cases hk⟩
  | n + 1, s => by
    obtain ⟨h1, h2⟩ := keys_le n s
    refine ⟨Nat.le_trans (bytesS_le _) h1, fun k hk => ?_⟩
    rcases List.mem_append.1 hk with hk | hk
    · exact h2 k hk
    · rw [List.mem_singleton] at hk
      subst hk
      exact Nat.le_trans (bytesV_le _) h1
theorem readRp_small (b : List UInt8) : (readRp b).value.length ≤ b.length ∧ ∀ k ∈ (readRp b).keys, k.length ≤ b.length := by
  have h1 : (s8 (b, 0)).1.length ≤ b.length := step_le (b, 0) 8 true
  have h2 : (rp2 b).1.length ≤ b.length := Nat.le_trans (bytesS_le _) h1
  have h3 : (rp3 b).1.length ≤ b.length := Nat.le_trans (step_le _ _ _) h2
  exact ⟨Nat.le_trans (bytesV_le _) h1, fun k hk => Nat.le_trans ((keys_le _ _).2 k hk) h3⟩
theorem par_ok {w : World} {base : Nat} {B : Option Addr} {d : Nat} {r : RP} {b : List UInt8} (hO : w.ownsRow base 9 1 (.slice B r.keys.length d) r.keys.length (r.keys.map stv)) (hl : LOk r.link) (hk : r.keys.length ≤ 1000) (hr : readRp b = r) (hb : b.length ≤ 65536) : ROk w r B d := by
  obtain ⟨h1, h2⟩ := readRp_small b
  rw [hr] at h1 h2
  exact ⟨own_rd hO, fun k hk => by have := h2 k hk; omega, ⟨(own_cap hO).1, by omega⟩, by omega, ⟨by rw [← hr]; exact rdI_i64 _, by rw [← hr]; exact rdI_i64 _⟩, hl⟩
set_option maxHeartbeats 8000000 in
theorem parseReply_any (w : World) (A : Option Addr) (c : Nat) (b : List UInt8) (hb : Bs w A b) (hl : b.length ≤ 65536) : Calls Try.prog 28 #[.slice A b.length c] w (ParP w (parR b) (parE b)) := by
  refine calls_of_CW Try.func28 rfl (by simp [Try.ntmps28]) ?_
  rw [Try.ntmps28]
  refine go_Rep5 (k := ?_)
  refine OW_allocA agg_Rep ?_
  intro w1 g1 hb1 hg1 hlt1 hx1
  refine go_Rep5 (k := ?_)
  refine OW_callC Try.func49 (by kernel_rfl) rfl (newReader_own w1 A b c (hb.ext hx1) hl) rfl ?_
  rintro en w2 ⟨gr, S, rfl, hx2, hR2, hS1, hS2⟩
  refine ⟨_, rfl, ?_⟩
  have hin := hR2.in_
  have lgr := hS1 _ hin
  have ugr := hS2 _ hin
  have n1 : ¬ g1 = gr := by omega
  have hb2 : Blk w2 g1 29 (rcells rp0 (.slice none 0 0)).toArray := hb1.ext hx2
  have hx02 := hx1.trans' hx2
  have ext_r : ∀ {u v : World}, Ext w u → Keeps u v (· = gr) → Ext w v := fun h k => k.ext h (fun j hj => by have hj : j = gr := hj; have := hx1.size; omega)
  clear hb1
  refine go_Rep5 (k := ?_)
  refine OW_callC Try.func34 (by kernel_rfl) rfl (rInt_any w2 gr S _ hR2) rfl ?_
  rintro en w3 ⟨rfl, hR3, hk3⟩
  refine ⟨_, rfl, ?_⟩
  replace hR3 : RR w3 gr S (s8 (b, 0)) := hR3
  have hb3 := hb2.keeps hk3 n1
  have hx03 := ext_r hx02 hk3
  rw [show (if fits (b, 0) 8 = true then i64L ((b, (0 : Int)).1.take 8) else 0) = rdI (b, 0) from rfl]
  refine go_Rep5 (k := ?_)
  refine OW_callC Try.func37 (by kernel_rfl) rfl (rText_any w3 gr S _ hR3) rfl ?_
  rintro en w4 ⟨rfl, hR4, hk4⟩
  refine ⟨_, rfl, ?_⟩
  replace hR4 : RR w4 gr S (rp2 b) := hR4
  have hb4 := hb3.keeps hk4 n1
  have hx04 := ext_r hx03 hk4
  rw [show (Value.string ⟨(bytesV (s8 (b, 0))).toArray⟩) = stv (bytesV (s8 (b, 0))) from rfl]
  refine go_Rep5 (k := ?_)
  refine OW_build _ _ (fun w => bld_P2 w _ _) rfl ?_
  refine go_Rep5 (k := ?_)
  refine OW_allocA agg_Rep ?_
  intro w5 g5 hb5 hg5 hlt5 hx5
  refine go_Rep5 (k := ?_)
  have s34 := hk3.size
  have s45 := hk4.size
  have n5 : ¬ g5 = gr := by omega
  have n15 : ¬ g1 = g5 := by have := hb4.lt; omega
  obtain ⟨r1, hr1⟩ : ∃ r1 : RP, (⟨rdI (b, 0), bytesV (s8 (b, 0)), [], 0, lk0⟩ : RP) = r1 := ⟨_, rfl⟩
  have hr1k : r1.keys = [] := by rw [← hr1]
  have hr1l : r1.link = lk0 := by rw [← hr1]
  have hlk : LOk r1.link := by rw [hr1l]; exact lk0_ok
  rw [hr1]
  refine OW_storeA agg_Rep rfl (rcells r1 (.slice none 0 0)) rfl (rcells_length hlk) hb5 (by kernel_rfl) (by have := rcells_one r1 none 0; rw [hr1k] at this; exact this) ?_
  intro w6 hb6 hg6
  have hk56 : Keeps w5 w6 (· = g5) := Keeps.of_only hg6 rfl
  have hx06 : Ext w w6 := hk56.ext (hx04.trans' hx5) (fun j hj => by have hj : j = g5 := hj; have := hx04.size; omega)
  have hR6 : RR w6 gr S (rp2 b) := (hR4.ext hx5).keeps hk56 (fun k hk hh => by have hh : k = g5 := hh; have := hS2 k hk; omega)
  have hB1 : Blk w6 g1 29 (rcells rp0 (.slice none 0 0)).toArray := (hb4.ext hx5).keeps hk56 n15
  have hB6 : Blk w6 g5 29 (rcells r1 (.slice none 0 0)).toArray := hb6
  have s6 := hk56.size
  have s5 := hx5.size
  clear hb2 hb3 hb4 hb5 hb6 hR2 hR3 hR4
  refine go_Rep5 (k := ?_)
  refine OW_callC Try.func39 (by kernel_rfl) rfl (rCount_any w6 gr S _ hR6 16) rfl ?_
  rintro en w7 ⟨rfl, hR7, hk7⟩
  refine ⟨_, rfl, ?_⟩
  replace hR7 : RR w7 gr S (rp3 b) := hR7
  replace hB1 := hB1.keeps hk7 n1
  replace hB6 := hB6.keeps hk7 n5
  have hx07 := ext_r hx06 hk7
  have s7 := hk7.size
  have hcp := count_pos (rp2 b) 16
  obtain ⟨N, hN⟩ : ∃ N : Nat, rpN b = N := ⟨(rpN b).toNat, (Int.toNat_of_nonneg hcp.1).symm⟩
  have hN16 : N ≤ 16 := by have := hcp.2 (by omega); unfold rpN at hN; omega
  rw [show countV (rp2 b) 16 = (N : Int) from hN]
  have hNt : (rpN b).toNat = N := by rw [hN]; rfl
  refine go_Rep5 (k := ?_)
  refine CW_meetB (fun e' w' => e' 2 = .pointer (some ⟨g1, 0, none⟩) ∧ e' 4 = .pointer (some ⟨gr, 0, none⟩) ∧ e' 5 = .pointer (some ⟨g5, 0, none⟩) ∧ ∃ B d, RR w' gr S (rp4 b) ∧ Blk w' g1 29 (rcells rp0 (.slice none 0 0)).toArray ∧ Blk w' g5 29 (rcells r1 (.slice B N d)).toArray ∧ w'.ownsRow w2.heap.size 9 1 (.slice B N d) N ((readKeys N (rp3 b)).1.map stv) ∧ Ext w w') ?_ ?_
  · refine CW_loop (fun e' w' => ∃ (k : Nat) (B : Option Addr) (d : Nat), k ≤ N ∧ e' 2 = .pointer (some ⟨g1, 0, none⟩) ∧ e' 4 = .pointer (some ⟨gr, 0, none⟩) ∧ e' 5 = .pointer (some ⟨g5, 0, none⟩) ∧ e' 14 = .int .i64 N ∧ e' 15 = .int .i64 k ∧ RR w' gr S (readKeys k (rp3 b)).2 ∧ Blk w' g1 29 (rcells rp0 (.slice none 0 0)).toArray ∧ Blk w' g5 29 (rcells r1 (.slice B k d)).toArray ∧ w'.ownsRow w2.heap.size 9 1 (.slice B k d) k ((readKeys k (rp3 b)).1.map stv) ∧ Ext w w' ∧ w2.heap.size ≤ w'.heap.size) (fun e' _ => N - (intOf (e' 15)).toNat) ?_ ?_
    · exact ⟨0, none, 0, Nat.zero_le _, rfl, rfl, rfl, rfl, rfl, hR7, hB1, hB6, World.ownsRow_nil _ _ _ _, hx07, by omega⟩
    clear hR7 hB1 hB6
    rintro e8 w8 ⟨k, B, d, hk, e2, e4, e5, e14, e15, hR, hB1, hB5, hO, hx, hsz⟩
    rw [upd_self e2, upd_self e4, upd_self e5, upd_self e14, upd_self e15]
    refine go_Rep5 (k := ?_)
    refine CW_cond _ rfl (fun hh => ?_) (fun hh => ?_)
    · have hlt : k < N := by have := of_decide_eq_true hh; omega
      clear hh
      obtain ⟨C, hC⟩ : ∃ C : World → Prop, C = fun v => Blk v g5 29 (rcells r1 (.slice B k d)).toArray := ⟨_, rfl⟩
      have y1 : ∀ v, C v → Blk v g5 29 (rcells r1 (.slice B k d)).toArray := by rw [hC]; exact fun v h => h
      have yx : ∀ v, Ext w8 v → C v := by rw [hC]; exact fun v hx => hB5.ext hx
      have yk : ∀ v u, C v → Keeps v u (· = gr) → C u := by rw [hC]; exact fun v u h hk => h.keeps hk n5
      have ye : ∀ v u, C v → Ext v u → C u := by rw [hC]; exact fun v u h hk => h.ext hk
      refine go_Rep5 (k := ?_)
      refine CW_tree2 [1] (.p 0 (.q 1 (.p 2 (.a 3 (.a 4 (.d 5 (.p 6 (.d 7 .done)))))))) (C) (by kernel_rfl) (by kernel_rfl) (by kernel_rfl) ?_ ?_
      · exact yx
      intro w9 hx9 hC9
      refine oy_Rep5 (k := ?_)
      refine OW_callC Try.func37 (by kernel_rfl) rfl (rText_any w9 gr S _ (hR.ext hx9)) rfl ?_
      rintro en w10 ⟨rfl, hR10, hk10⟩
      rw [show (Value.string ⟨(bytesV (readKeys k (rp3 b)).2).toArray⟩) = stv (bytesV (readKeys k (rp3 b)).2) from rfl]
      have hC10 := yk _ _ hC9 hk10
      refine ⟨_, rfl, ?_⟩
      have nB : ∀ ad, B = some ad → ¬ ad.block = gr := fun ad ha => by have := (own_block hO ad ha).1; omega
      have hO10 := own_keeps (own_ext hO hx9) hk10 nB
      have hx10 := ext_r (hx.trans' hx9) hk10
      have hB10 := (hB1.ext hx9).keeps hk10 n1
      have s9 := hx9.size
      have s10 := hk10.size
      first | refine OW_nil (goY_mk hC10 ?_) | refine OW_nil (goY_drop C hC10 ?_)
      refine oy_Rep5 (k := ?_)
      refine OW_lit [stv (bytesV (readKeys k (rp3 b)).2)] und_strs info_str rfl rfl (by simp [stv, Value.oneCell']) (by decide) ?_
      intro w11 g11 hb11 hg11 hx11
      have hC11 := ye _ _ hC10 hx11
      first | refine OW_nil (goY_mk hC11 ?_) | refine OW_nil (goY_drop C hC11 ?_)
      refine oy_Rep5 (k := ?_)
      have s11 := hx11.size
      refine OW_appendK und_strs info_str rfl rfl rfl (own_ext hO10 hx11) (by simpa using hb11.rd) rfl (by simp [stv, Value.oneCell']) (by unfold maxLen; omega) (by omega) (by omega) ?_
      intro w12 B12 d12 hO12 hg12 hw12
      have hK12 : Keeps w11 w12 (fun k => ∃ ad, B = some ad ∧ ad.block = k) := Keeps.of_grown hg12 (fun g hg => by
        cases B with
        | none => cases hg
        | some ad => cases hg; exact ⟨ad, rfl, rfl⟩)
      have hne5 := own_ne_blk hO hB5 (by decide)
      have hne1 := own_ne_blk hO hB1 (by decide)
      have hB12 := (y1 _ hC11).keeps hK12 (fun ⟨ad, ha, hh⟩ => hne5 ad ha hh)
      first | refine OW_nil (goY_mk (by rw [hC]; exact hB12) ?_) | refine OW_nil (goY_drop (fun _ => True) trivial ?_)
      refine oy_Rep5 (k := ?_)
      refine OW_storeB one_strs rfl (.slice B12 (k + 1) d12) rfl rfl hB12 (by show 2 < (rcells r1 _).toArray.size; simp [rcells_length hlk]) ?_
      intro w13 hB13 hg13
      have hK13 : Keeps w12 w13 (· = g5) := Keeps.of_only hg13 rfl
      refine OW_nil (goY_done ?_)
      refine go_Rep5 (k := ?_)
      have hB13' : Blk w13 g5 29 (rcells r1 (.slice B12 (k + 1) d12)).toArray := by
        have e : (rcells r1 (.slice B k d)).toArray.setIfInBounds 2 (.slice B12 (k + 1) d12) = (rcells r1 (.slice B12 (k + 1) d12)).toArray := by simp [rcells]
        rw [← e]; exact hB13
      have nO : ∀ ad, B12 = some ad → ¬ ad.block = g5 := fun ad ha hh => by
        rcases hw12 with h | h
        · rw [ha] at h
          cases B with
          | none => cases h
          | some ad0 => have hq : ad.block = ad0.block := by simpa [Value.ownBlock] using h
                        exact hne5 ad0 rfl (by rw [← hq, hh])
        · rw [ha] at h
          have hq : ad.block = w11.heap.size := by simpa [Value.ownBlock] using h
          have := hB5.lt; omega
      have hO12' : w12.ownsRow w2.heap.size 9 1 (.slice B12 (k + 1) d12) (k + 1) ((readKeys (k + 1) (rp3 b)).1.map stv) := by
        have e : (readKeys (k + 1) (rp3 b)).1.map stv = (readKeys k (rp3 b)).1.map stv ++ [stv (bytesV (readKeys k (rp3 b)).2)] := by
          show ((readKeys k (rp3 b)).1 ++ [_]).map stv = _
          simp
        rw [e]; exact hO12
      have hext12 : Ext w w12 := hK12.ext (hx10.trans' hx11) (fun j ⟨ad, ha, hh⟩ => by have := (own_block hO ad ha).1; have := hx02.size; omega)
      have s12 := hK12.size
      have s13 := hK13.size
      refine ⟨⟨k + 1, B12, d12, by omega, rfl, rfl, rfl, rfl, rfl, ?_, ?_, hB13', own_keeps hO12' hK13 nO, hK13.ext hext12 (fun j hj => by have hj : j = g5 := hj; have := hx04.size; omega), by omega⟩, ?_⟩
      · refine ((hR10.ext hx11).keeps hK12 (fun j hj ⟨ad, ha, hh⟩ => ?_)).keeps hK13 (fun j hj hh => ?_)
        · have := (own_block hO ad ha).1; have := hS2 j hj; omega
        · have hh : j = g5 := hh; have := hS2 j hj; omega
      · exact ((hB10.ext hx11).keeps hK12 (fun ⟨ad, ha, hh⟩ => hne1 ad ha hh)).keeps hK13 n15
      · show N - ((k : Int) + 1).toNat < N - (k : Int).toNat
        omega
    · have hge : k = N := by have := of_decide_eq_false hh; omega
      subst hge
      refine go_Rep5 (k := ?_)
      refine ⟨rfl, rfl, rfl, rfl, B, d, ?_, hB1, hB5, hO, hx⟩
      unfold rp4
      rw [hNt]
      exact hR
  rintro e8 w8 ⟨e2, e4, e5, B, d, hR8, hB1, hB5, hO8, hx08⟩
  rw [upd_self e2, upd_self e4, upd_self e5]
  obtain ⟨keys, hkeys⟩ : ∃ keys, (readKeys N (rp3 b)).1 = keys := ⟨_, rfl⟩
  have hkl : keys.length = N := by rw [← hkeys]; exact readKeys_length _ _
  rw [hkeys] at hO8
  have hne5 := own_ne_blk hO8 hB5 (by decide)
  have nB : ∀ ad, B = some ad → ¬ ad.block = gr := fun ad ha => by have := (own_block hO8 ad ha).1; omega
  clear hR7 hB6
  refine go_Rep5 (k := ?_)
  refine OW_callC Try.func34 (by kernel_rfl) rfl (rInt_any w8 gr S _ hR8) rfl ?_
  rintro en w9 ⟨rfl, hR9, hk9⟩
  refine ⟨_, rfl, ?_⟩
  replace hR9 : RR w9 gr S (s8 (rp4 b)) := hR9
  replace hB1 := hB1.keeps hk9 n1
  replace hB5 := hB5.keeps hk9 n5
  replace hO8 := own_keeps hO8 hk9 nB
  have hx09 := ext_r hx08 hk9
  rw [show (if fits (rp4 b) 8 = true then i64L ((rp4 b).1.take 8) else 0) = rdI (rp4 b) from rfl]
  refine go_Rep5 (k := ?_)
  refine OW_storeB one_int rfl (.int .i64 (rdI (rp4 b))) rfl rfl hB5 (by show 3 < (rcells r1 _).toArray.size; simp [rcells_length hlk]) ?_
  intro w10 hB10 hg10
  have hK10 : Keeps w9 w10 (· = g5) := Keeps.of_only hg10 rfl
  obtain ⟨r2, hr2⟩ : ∃ r2 : RP, { r1 with keys := keys, n := rdI (rp4 b) } = r2 := ⟨_, rfl⟩
  have hB10' : Blk w10 g5 29 (rcells r2 (.slice B N d)).toArray := by
    have e : (rcells r1 (.slice B N d)).toArray.setIfInBounds 3 (.int .i64 (rdI (rp4 b))) = (rcells r2 (.slice B N d)).toArray := by rw [← hr2]; simp [rcells]
    rw [← e]; exact hB10
  have hR10 : RR w10 gr S (s8 (rp4 b)) := hR9.keeps hK10 (fun k hk hh => by have hh : k = g5 := hh; have := hS2 k hk; omega)
  replace hB1 := hB1.keeps hK10 n15
  replace hO8 := own_keeps hO8 hK10 (fun ad ha => hne5 ad ha)
  have hx10 : Ext w w10 := hK10.ext hx09 (fun j hj => by have hj : j = g5 := hj; have := hx04.size; omega)
  clear hR8 hR9 hB5 hB10
  obtain ⟨s, hs⟩ : ∃ s, s8 (rp4 b) = s := ⟨_, rfl⟩
  rw [hs] at hR10
  refine go_Rep5 (k := ?_)
  refine OW_callC Try.func34 (by kernel_rfl) rfl (rInt_any w10 gr S _ hR10) rfl ?_
  rintro en w11 ⟨rfl, hR11, hk11⟩
  refine ⟨_, rfl, ?_⟩
  replace hR11 : RR w11 gr S (s8 s) := hR11
  replace hB1 := hB1.keeps hk11 n1
  replace hB10' := hB10'.keeps hk11 n5
  replace hO8 := own_keeps hO8 hk11 nB
  have hx11 := ext_r hx10 hk11
  rw [show (if fits s 8 = true then i64L (s.1.take 8) else 0) = rdI s from rfl]
  clear hR10
  refine go_Rep5 (k := ?_)
  refine OW_callC Try.func34 (by kernel_rfl) rfl (rInt_any w11 gr S _ hR11) rfl ?_
  rintro en w12 ⟨rfl, hR12, hk12⟩
  refine ⟨_, rfl, ?_⟩
  replace hR12 : RR w12 gr S (s8 (s8 s)) := hR12
  replace hB1 := hB1.keeps hk12 n1
  replace hB10' := hB10'.keeps hk12 n5
  replace hO8 := own_keeps hO8 hk12 nB
  have hx12 := ext_r hx11 hk12
  rw [show (if fits (s8 s) 8 = true then i64L ((s8 s).1.take 8) else 0) = rdI (s8 s) from rfl]
  clear hR11
  refine go_Rep5 (k := ?_)
  refine OW_callC Try.func33 (by kernel_rfl) rfl (rByte_any w12 gr S _ hR12) rfl ?_
  rintro en w13 ⟨rfl, hR13, hk13⟩
  refine ⟨_, rfl, ?_⟩
  replace hR13 : RR w13 gr S (s1 (s8 (s8 s))) := hR13
  replace hB1 := hB1.keeps hk13 n1
  replace hB10' := hB10'.keeps hk13 n5
  replace hO8 := own_keeps hO8 hk13 nB
  have hx13 := ext_r hx12 hk13
  rw [show (if fits (s8 (s8 s)) 1 = true then (s8 (s8 s)).1.headD 0 else 0) = rdB (s8 (s8 s)) from rfl]
  clear hR12
  refine go_Rep5 (k := ?_)
  refine OW_callC Try.func34 (by kernel_rfl) rfl (rInt_any w13 gr S _ hR13) rfl ?_
  rintro en w14 ⟨rfl, hR14, hk14⟩
  refine ⟨_, rfl, ?_⟩
  replace hR14 : RR w14 gr S (s8 (s1 (s8 (s8 s)))) := hR14
  replace hB1 := hB1.keeps hk14 n1
  replace hB10' := hB10'.keeps hk14 n5
  replace hO8 := own_keeps hO8 hk14 nB
  have hx14 := ext_r hx13 hk14
  rw [show (if fits (s1 (s8 (s8 s))) 8 = true then i64L ((s1 (s8 (s8 s))).1.take 8) else 0) = rdI (s1 (s8 (s8 s))) from rfl]
  clear hR13
  refine go_Rep5 (k := ?_)
  refine OW_callC Try.func34 (by kernel_rfl) rfl (rInt_any w14 gr S _ hR14) rfl ?_
  rintro en w15 ⟨rfl, hR15, hk15⟩
  refine ⟨_, rfl, ?_⟩
  replace hR15 : RR w15 gr S (s8 (s8 (s1 (s8 (s8 s))))) := hR15
  replace hB1 := hB1.keeps hk15 n1
  replace hB10' := hB10'.keeps hk15 n5
  replace hO8 := own_keeps hO8 hk15 nB
  have hx15 := ext_r hx14 hk15
  rw [show (if fits (s8 (s1 (s8 (s8 s)))) 8 = true then i64L ((s8 (s1 (s8 (s8 s)))).1.take 8) else 0) = rdI (s8 (s1 (s8 (s8 s)))) from rfl]
  clear hR14
  refine go_Rep5 (k := ?_)
  refine OW_callC Try.func34 (by kernel_rfl) rfl (rInt_any w15 gr S _ hR15) rfl ?_
  rintro en w16 ⟨rfl, hR16, hk16⟩
  refine ⟨_, rfl, ?_⟩
  replace hR16 : RR w16 gr S (s8 (s8 (s8 (s1 (s8 (s8 s)))))) := hR16
  replace hB1 := hB1.keeps hk16 n1
  replace hB10' := hB10'.keeps hk16 n5
  replace hO8 := own_keeps hO8 hk16 nB
  have hx16 := ext_r hx15 hk16
  rw [show (if fits (s8 (s8 (s1 (s8 (s8 s))))) 8 = true then i64L ((s8 (s8 (s1 (s8 (s8 s))))).1.take 8) else 0) = rdI (s8 (s8 (s1 (s8 (s8 s))))) from rfl]
  clear hR15
  refine go_Rep5 (k := ?_)
  refine OW_callC Try.func34 (by kernel_rfl) rfl (rInt_any w16 gr S _ hR16) rfl ?_
  rintro en w17 ⟨rfl, hR17, hk17⟩
  refine ⟨_, rfl, ?_⟩
  replace hR17 : RR w17 gr S (s8 (s8 (s8 (s8 (s1 (s8 (s8 s))))))) := hR17
  replace hB1 := hB1.keeps hk17 n1
  replace hB10' := hB10'.keeps hk17 n5
  replace hO8 := own_keeps hO8 hk17 nB
  have hx17 := ext_r hx16 hk17
  rw [show (if fits (s8 (s8 (s8 (s1 (s8 (s8 s)))))) 8 = true then i64L ((s8 (s8 (s8 (s1 (s8 (s8 s)))))).1.take 8) else 0) = rdI (s8 (s8 (s8 (s1 (s8 (s8 s)))))) from rfl]
  clear hR16
  refine go_Rep5 (k := ?_)
  refine OW_callC Try.func38 (by kernel_rfl) rfl (rTag_any w17 gr S _ hR17) rfl ?_
  rintro en w18 ⟨rfl, hR18, hk18⟩
  refine ⟨_, rfl, ?_⟩
  replace hR18 : RR w18 gr S (s32 (s8 (s8 (s8 (s8 (s1 (s8 (s8 s)))))))) := hR18
  replace hB1 := hB1.keeps hk18 n1
  replace hB10' := hB10'.keeps hk18 n5
  replace hO8 := own_keeps hO8 hk18 nB
  have hx18 := ext_r hx17 hk18
  clear hR17
  refine go_Rep5 (k := ?_)
  refine OW_callC Try.func38 (by kernel_rfl) rfl (rTag_any w18 gr S _ hR18) rfl ?_
  rintro en w19 ⟨rfl, hR19, hk19⟩
  refine ⟨_, rfl, ?_⟩
  replace hR19 : RR w19 gr S (s32 (s32 (s8 (s8 (s8 (s8 (s1 (s8 (s8 s))))))))) := hR19
  replace hB1 := hB1.keeps hk19 n1
  replace hB10' := hB10'.keeps hk19 n5
  replace hO8 := own_keeps hO8 hk19 nB
  have hx19 := ext_r hx18 hk19
  clear hR18
  refine go_Rep5 (k := ?_)
  have hL := readLk_ok s
  have hbl := bld_L w19 (readLk s) hL
  refine OW_build _ _ (fun w => bld_L w (readLk s) hL) rfl ?_
  refine go_Rep5 (k := ?_)
  have hr2l : LOk r2.link := by rw [← hr2]; exact hlk
  refine OW_storeM agg_Link rfl (lcells (readLk s)) rfl (lcells_length hL) hB10' (by rw [rcells_length hr2l]; omega) (lcells_one _) ?_
  intro w20 hB20 hg20
  have hK20 : Keeps w19 w20 (· = g5) := Keeps.of_only hg20 rfl
  obtain ⟨r3, hr3⟩ : ∃ r3 : RP, readRp b = r3 := ⟨_, rfl⟩
  have hr3e : { r2 with link := readLk s } = r3 := by rw [← hr3, ← hr2, ← hr1, ← hs]; unfold readRp; rw [hNt, hkeys]
  have hr3k : r3.keys = keys := by rw [← hr3e, ← hr2]
  have hr3l : LOk r3.link := by rw [← hr3e]; exact hL
  have hB20' : Blk w20 g5 29 (rcells r3 (.slice B r3.keys.length d)).toArray := by
    have e : (rcells r2 (.slice B N d)).take 4 ++ lcells (readLk s) ++ (rcells r2 (.slice B N d)).drop (4 + 71) = rcells r3 (.slice B r3.keys.length d) := by
      rw [List.drop_of_length_le (by rw [rcells_length hr2l]; omega), hr3k, hkl, ← hr3e]
      simp [rcells]
    rw [← e]; exact hB20
  replace hR19 := hR19.keeps hK20 (fun k hk hh => by have hh : k = g5 := hh; have := hS2 k hk; omega)
  replace hB1 := hB1.keeps hK20 n15
  replace hO8 := own_keeps hO8 hK20 (fun ad ha => hne5 ad ha)
  have hx20 : Ext w w20 := hK20.ext hx19 (fun j hj => by have hj : j = g5 := hj; have := hx04.size; omega)
  have hend : stLk s = endRp b := by rw [← hs]; rfl
  replace hR19 : RR w20 gr S (endRp b) := by rw [← hend]; exact hR19
  have hgood : goodR b = (decide (endE (endRp b) = 0) && mayP r3) := by unfold goodR; rw [hr3]
  have hpR : parR b = if goodR b then r3 else rp0 := by unfold parR; rw [hr3]
  have hpE : parE b = if goodR b then 0 else 150 := rfl
  clear hB20 hB10' hr3e
  have s20 := hK20.size
  have hw2 : w.heap.size ≤ w2.heap.size := hx02.size
  rw [hpR, hpE, hgood]
  -- none
  rw [← hkl, ← hr3k] at hO8
  have hkc := own_cap hO8
  have hok : ROk w20 r3 B d := par_ok hO8 hr3l (by rw [hr3k, hkl]; omega) hr3 hl
  refine go_Rep5 (k := ?_)
  refine OW_callV Try.func42 (by kernel_rfl) rfl (rEnd_any w20 gr S _ hR19) rfl ?_
  intro w21 hx21
  have zero : ∀ u, Ext w u → Blk u g1 29 (rcells rp0 (.slice none 0 0)).toArray → ParP w rp0 150 (.returned (.tuple #[.agg (rcells rp0 (.slice none 0 0)).toArray, .int .i64 150])) u := fun u hu _ => ⟨none, 0, rfl, World.ownsRow_nil _ _ _ _, hu⟩
  have hx021 := hx20.trans' hx21
  replace hB1 := hB1.ext hx21
  replace hB20' := hB20'.ext hx21
  refine go_Rep5 (k := ?_)
  refine OW_split 51 _ rfl (fun hh => ?_) (fun hh => ?_)
  · have he : ¬ endE (endRp b) = 0 := by simpa using hh
    rw [decide_eq_false he]
    refine go_Rep5 (k := ?_)
    refine OW_build _ _ bld_P0 rfl ?_
    refine go_Rep5 (k := ?_)
    refine OW_storeA agg_Rep rfl (rcells rp0 (.slice none 0 0)) rfl (rcells_length lk0_ok) hB1 (by kernel_rfl) (rcells_one rp0 none 0) ?_
    intro w22 hb22 hg22
    have hx22 : Ext w w22 := (Keeps.of_only (S := (· = g1)) hg22 rfl).ext hx021 (fun j hj => by have hj : j = g1 := hj; omega)
    refine go_Rep5 (k := ?_)
    exact bodyE_retc2 rfl agg_Rep rfl (rcells rp0 (.slice none 0 0)) (.int .i64 150) rfl (rcells_length lk0_ok) (Blk.range hb22) (zero _ hx22 hb22)
  have he : endE (endRp b) = 0 := by simpa using hh
  rw [decide_eq_true he]
  clear hh
  refine go_Rep5 (k := ?_)
  refine OW_loadX agg_Rep rfl (rcells r3 (.slice B r3.keys.length d)) (rcells_length hr3l) hB20'.atL ?_
  refine go_Rep5 (k := ?_)
  refine OW_callV Try.func59 (by kernel_rfl) rfl (mayReply_any w21 B d r3 (hok.ext hx21)) rfl ?_
  intro w22 hx22
  have hx022 := hx021.trans' hx22
  replace hB1 := hB1.ext hx22
  replace hB20' := hB20'.ext hx22
  cases hm : mayP r3 with
  | false =>
    refine go_Rep5 (k := ?_)
    refine OW_build _ _ bld_P0 rfl ?_
    refine go_Rep5 (k := ?_)
    refine OW_storeA agg_Rep rfl (rcells rp0 (.slice none 0 0)) rfl (rcells_length lk0_ok) hB1 (by kernel_rfl) (rcells_one rp0 none 0) ?_
    intro w23 hb23 hg23
    have hx23 : Ext w w23 := (Keeps.of_only (S := (· = g1)) hg23 rfl).ext hx022 (fun j hj => by have hj : j = g1 := hj; omega)
    refine go_Rep5 (k := ?_)
    exact bodyE_retc2 rfl agg_Rep rfl (rcells rp0 (.slice none 0 0)) (.int .i64 150) rfl (rcells_length lk0_ok) (Blk.range hb23) (zero _ hx23 hb23)
  | true =>
    refine go_Rep5 (k := ?_)
    refine OW_loadX agg_Rep rfl (rcells r3 (.slice B r3.keys.length d)) (rcells_length hr3l) hB20'.atL ?_
    refine go_Rep5 (k := ?_)
    refine OW_storeA agg_Rep rfl (rcells r3 (.slice B r3.keys.length d)) rfl (rcells_length hr3l) hB1 (by kernel_rfl) (rcells_one r3 B d) ?_
    intro w23 hb23 hg23
    have hK23 : Keeps w22 w23 (· = g1) := Keeps.of_only hg23 rfl
    have hx23 : Ext w w23 := hK23.ext hx022 (fun j hj => by have hj : j = g1 := hj; omega)
    have hO23 := own_keeps (own_ext (own_ext hO8 hx21) hx22) hK23 (fun ad ha hh => by have hh : ad.block = g1 := hh; have := (own_block hO8 ad ha).1; omega)
    refine go_Rep5 (k := ?_)
    exact bodyE_retc2 rfl agg_Rep rfl (rcells r3 (.slice B r3.keys.length d)) (.int .i64 0) rfl (rcells_length hr3l) (Blk.range hb23) ⟨B, d, rfl, own_mono hO23 hw2, hx23⟩
end Go.Proofs.Ytdpomchhbbopbaa
