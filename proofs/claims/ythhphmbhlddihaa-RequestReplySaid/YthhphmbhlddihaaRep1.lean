/- Walks: may a reply be? -/
import Derived.Test.YthhphmbhlddihaaRepT
namespace Go.Proofs.Ythhphmbhlddihaa
open Go Go.RowKit
set_option linter.unusedVariables false
set_option maxRecDepth 4000
theorem go_Rep1 {A B : Prop} (h : Held B → A := by
  intro hEnd
  repeat (first | refine OW_fieldF fld_P0 rfl ?_ | refine OW_fieldF fld_P1 rfl ?_ | refine OW_fieldF fld_P2 rfl ?_ | refine OW_fieldF fld_P3 rfl ?_ | refine OW_fieldF fld_P4 rfl ?_ | refine OW_lenL und_string rfl ?_ | refine OW_lenS und_strs rfl ?_ | refine OW_idxS und_strs one_str rfl rfl _ rfl (by omega) ?_ | refine OW_moveV (.int _ _) rfl ?_ | refine OW_moveV (.slice _ _ _) rfl ?_ | refine OW_moveV (.bool _) rfl ?_ | refine OW_moveV (.pointer _) rfl ?_ | refine OW_moveV (.string _) rfl ?_ | refine OW_moveV (.agg _) rfl ?_ | refine OW_moveV (.tuple _) rfl ?_ | refine OW_nil ?_ | refine thenE_normal ?_ | refine CW_seq ?_ | refine CW_region (by kernel_rfl) ?_ | refine OW_assignV (.int _ _) rfl ?_ | refine OW_assignV (.slice _ _ _) rfl ?_ | refine OW_assignV (.bool _) rfl ?_ | refine OW_assignV (.pointer _) rfl ?_ | refine OW_assignV (.string _) rfl ?_ | refine OW_assignV (.agg _) rfl ?_ | refine OW_assignV (.tuple _) rfl ?_ | refine OW_addI rfl rfl (by omega) ?_ | refine OW_subI rfl rfl (by omega) ?_ | refine OW_mulI rfl rfl (by omega) ?_ | refine OW_lss rfl rfl ?_ | refine OW_extract rfl rfl ?_ | refine OW_gtr rfl rfl ?_ | refine OW_leq rfl rfl ?_ | refine OW_geq rfl rfl ?_ | refine OW_eql rfl rfl ?_ | refine OW_neq rfl rfl ?_ | refine OW_not rfl ?_ | refine OW_pickT rfl _ rfl ?_ | refine OW_pickF rfl (.bool _) rfl ?_ | refine OW_pickB rfl rfl rfl ?_ | refine OW_move ?_ | refine OW_assign ?_ | refine OW_pass rfl ?_ | refine OW_take rfl ?_ | refine OW_lenS (by first | with_reducible exact und_bytes | with_reducible exact und_bytess) rfl ?_ | refine OW_convInt (by first | with_reducible exact und_u8 | with_reducible exact und_u64 | with_reducible exact und_int | with_reducible exact und_u32) (by first | with_reducible exact und_u8 | with_reducible exact und_u64 | with_reducible exact und_int | with_reducible exact und_u32) rfl ?_ | refine OW_add rfl rfl ?_ | refine OW_sub rfl rfl ?_ | refine OW_mul rfl rfl ?_ | refine OW_min2 rfl rfl ?_ | refine OW_max2 rfl rfl ?_ | refine OW_neg rfl ?_ | refine CW_block ?_ | refine CW_condT rfl ?_ | refine CW_condF rfl ?_ | refine CW_exit ?_ | refine CW_ret ?_ | refine CW_skip ?_ | refine LW_seq ?_ | refine LW_regC ?_ | refine LW_condC ?_ | refine LW_regF ?_ | refine LW_condF ?_ | refine FW_seq ?_ | refine FW_region (by kernel_rfl) ?_ | refine FW_block ?_ | refine FW_condT rfl ?_ | refine FW_condF rfl ?_ | refine FW_exit ?_ | refine FW_ret ?_ | refine FW_skip ?_ | refine LW_ret ?_ | refine LW_skip ?_ | refine thenE_exit ?_ | refine thenE_ret ?_ | refine inBlockE_normal ?_ | refine inBlockE_same ?_ | refine inBlockE_ret ?_ | refine inBlockE_ne (by rfl) ?_ | refine OW_eqlB (by with_reducible exact und_bool) rfl rfl ?_ | refine OW_neqB (by with_reducible exact und_bool) rfl rfl ?_ | refine OW_idxS (by with_reducible exact und_bytes) one_u8 rfl rfl _ rfl (by omega) ?_ | refine OW_idxS (by with_reducible exact und_bytess) one_bytes rfl rfl _ rfl (by omega) ?_ | refine OW_load1 (by first | with_reducible exact one_u8 | with_reducible exact one_bytes) rfl _ (by assumption) ?_ | refine OW_load1 (by first | with_reducible exact one_int | with_reducible exact one_str | with_reducible exact one_strs | with_reducible exact one_errno) rfl _ (by assumption) ?_)
  exact hEnd.out) (k : B) : A := h ⟨k⟩
theorem fld_P0 : Fld Try.prog 69 0 := ⟨fun w g => by kernel_rfl⟩
theorem fld_P1 : Fld Try.prog 69 1 := ⟨fun w g => by kernel_rfl⟩
theorem fld_P2 : Fld Try.prog 69 2 := ⟨fun w g => by kernel_rfl⟩
theorem fld_P3 : Fld Try.prog 69 3 := ⟨fun w g => by kernel_rfl⟩
theorem fld_P4 : Fld Try.prog 69 4 := ⟨fun w g => by kernel_rfl⟩
def okK (k : List UInt8) : Bool := decide (k.length ≤ 512)
def mayP (r : RP) : Bool := decide (r.keys.length ≤ 16) && decide (r.value.length ≤ 512) && r.keys.all okK
def ksum (l : List (List UInt8)) : Nat := (l.map fun k => k.length + 10).sum
theorem ksum_take_succ {l : List (List UInt8)} {k : Nat} (h : k < l.length) : ksum (l.take (k + 1)) = ksum (l.take k) + ((l[k]).length + 10) := by
  unfold ksum; rw [List.take_succ_eq_append_getElem h, List.map_append, List.sum_append]; simp
theorem ksum_take_le (l : List (List UInt8)) (k : Nat) : ksum (l.take k) ≤ ksum l := by
  have h := congrArg (fun l => ksum l) (List.take_append_drop k l)
  simp only [ksum, List.map_append, List.sum_append] at h ⊢
  omega
theorem ksum_mem {l : List (List UInt8)} {i : Nat} (h : i < l.length) : (l[i]).length + 10 ≤ ksum l := by
  have h1 := ksum_take_succ h
  have h2 := ksum_take_le l (i + 1)
  omega
theorem ksum_len (l : List (List UInt8)) : 10 * l.length ≤ ksum l := by
  unfold ksum
  induction l with
  | nil => simp
  | cons f l ih => simp only [List.map_cons, List.sum_cons, List.length_cons]; omega
theorem keys_at {w : World} {A : Option Addr} {l : List (List UInt8)} (h : Rd w A (l.map stv)) {k : Nat} (hk : k < l.length) : ∃ ad, A = some ad ∧ w.cell? (ad.add k) = some (stv l[k]) := by
  obtain ⟨ad, ha, hc⟩ := h.at_ (j := k) (by simpa using hk)
  exact ⟨ad, ha, by simpa using hc⟩
set_option maxHeartbeats 8000000 in
theorem greatP_any (w : World) (A : Option Addr) (c : Nat) (r : RP) (h : ROk w r A c) : Calls Try.prog 41 #[.agg (rcells r (.slice A r.keys.length c)).toArray] w (RetV w (.bool (decide (20000 < r.value.length + ksum r.keys)))) := by
  have hv := h.val
  have hcp := h.cap
  refine calls_of_CW Try.func41 rfl (by simp [Try.ntmps41]) ?_
  rw [Try.ntmps41]
  refine go_Rep1 (k := ?_)
  refine OW_box _ rfl ?_
  intro w1 g hb hg hlt hx
  have hb : Blk w1 g 69 (rcells r (.slice A r.keys.length c)).toArray := hb
  have m1 : w1.cell? ⟨g, 1, none⟩ = some (stv r.value) := hb.cell 1
  have m2 : w1.cell? ⟨g, 2, none⟩ = some (.slice A r.keys.length c) := hb.cell 2
  have hk := h.ks.ext hx
  refine go_Rep1 (k := ?_)
  refine CW_loop (fun e' w' => ∃ k : Nat, k ≤ r.keys.length ∧ r.value.length + ksum (r.keys.take k) ≤ 140737488355232 ∧ (0 < k → r.value.length + ksum (r.keys.take k) ≤ 20000) ∧ e' 1 = .pointer (some ⟨g, 0, none⟩) ∧ e' 3 = .int .i64 (r.value.length + ksum (r.keys.take k) : Nat) ∧ e' 4 = .int .i64 k ∧ w' = w1) (fun e' _ => r.keys.length - (intOf (e' 4)).toNat) ⟨0, Nat.zero_le _, by simp [ksum]; omega, fun h => absurd h (by decide), rfl, rfl, rfl, rfl⟩ ?_
  rintro e' w' ⟨k, hk2, hg1, hg2, e1, e3, e4, rfl⟩
  rw [upd_self e1, upd_self e3, upd_self e4]
  refine go_Rep1 (k := ?_)
  refine CW_cond _ rfl (fun hh => ?_) (fun hh => ?_)
  · have hlt : k < r.keys.length := by have := of_decide_eq_true hh; omega
    clear hh
    obtain ⟨ad, hA, hc⟩ := keys_at hk hlt
    have hkl := h.kl _ (List.getElem_mem hlt)
    have hs := ksum_take_succ hlt
    have hle := ksum_take_le r.keys (k + 1)
    generalize r.keys[k] = y at *
    subst hA
    refine go_Rep1 (k := ?_)
    refine CW_cond _ rfl (fun hh => ?_) (fun hh => ?_)
    · have h2 := of_decide_eq_true hh
      refine go_Rep1 (k := ?_)
      exact bodyE_ret1 rfl (.bool true) rfl ⟨by rw [decide_eq_true (by omega)], hx⟩
    · have h2 := of_decide_eq_false hh
      clear hh
      refine go_Rep1 (k := ?_)
      refine ⟨⟨k + 1, by omega, by omega, fun _ => by omega, rfl, ?_, rfl, rfl⟩, ?_⟩
      · show Value.int _ _ = _
        rw [hs]
        congr 1
        simp only [Int.natCast_add]
        omega
      · show r.keys.length - ((k : Int) + 1).toNat < r.keys.length - (k : Int).toNat
        omega
  · have hge : k = r.keys.length := by have := of_decide_eq_false hh; omega
    subst hge
    rw [List.take_of_length_le (Nat.le_refl _)] at hg1
    refine go_Rep1 (k := ?_)
    exact bodyE_ret1 rfl (.bool _) rfl ⟨by rw [List.take_of_length_le (Nat.le_refl _)]; congr 2; simp; omega, hx⟩
set_option maxHeartbeats 8000000 in
theorem long_any (w : World) (l : List UInt8) : Calls Try.prog 96 #[stv l] w (RetV w (.bool (decide (512 < l.length)))) := by
  refine calls_of_CW Try.func96 rfl (by simp [Try.ntmps96]) ?_
  rw [Try.ntmps96]
  refine go_Rep1 (k := ?_)
  exact bodyE_ret1 rfl (.bool (decide (512 < l.length))) (by show Value.bool _ = _; congr 1; rw [decide_eq_decide]; omega) ⟨rfl, Ext.rfl' w⟩
set_option maxHeartbeats 8000000 in
theorem index_any (w : World) (A : Option Addr) (c : Nat) (l : List (List UInt8)) (h : Rd w A (l.map stv)) (hl : l.length ≤ 1000000) :
    Calls Try.prog 121 #[.slice A l.length c, .func (.func 96) #[] #[]] w (fun en w' => ∃ n : Int, en = .returned (.int .i64 n) ∧ decide (0 ≤ n) = !l.all okK ∧ Ext w w') := by
  refine calls_of_CW Try.func121 rfl (by simp [Try.ntmps121]) ?_
  rw [Try.ntmps121]
  refine go_Rep1 (k := ?_)
  refine CW_loop (fun e' w' => ∃ k : Nat, k ≤ l.length ∧ (l.take k).all okK = true ∧ e' 0 = .slice A l.length c ∧ e' 1 = .func (.func 96) #[] #[] ∧ e' 7 = .int .i64 l.length ∧ e' 8 = .int .i64 k ∧ Ext w w') (fun e' _ => l.length - (intOf (e' 8)).toNat) ⟨0, Nat.zero_le _, rfl, rfl, rfl, rfl, rfl, Ext.rfl' w⟩ ?_
  rintro e' w1 ⟨k, hk, hal, e0, e1, e7, e8, hx⟩
  rw [upd_self e0, upd_self e1, upd_self e7, upd_self e8]
  refine go_Rep1 (k := ?_)
  refine CW_cond _ rfl (fun hh => ?_) (fun hh => ?_)
  · have hlt : k < l.length := by have := of_decide_eq_true hh; omega
    clear hh
    obtain ⟨ad, hA, hc⟩ := keys_at (h.ext hx) hlt
    have hsucc : (l.take (k + 1)).all okK = okK l[k] := by rw [List.take_succ_eq_append_getElem hlt, List.all_append, hal]; simp
    have hmem : okK l[k] = false → l.all okK = false := fun h0 => by
      rw [List.all_eq_false]
      exact ⟨_, List.getElem_mem hlt, by simp [h0]⟩
    generalize l[k] = y at *
    subst hA
    refine go_Rep1 (k := ?_)
    refine OW_callF Try.func96 (by kernel_rfl) rfl (caps := []) rfl (args' := [stv y]) (long_any w1 y) rfl ?_
    rintro en w2 ⟨rfl, hx2⟩
    refine ⟨_, rfl, ?_⟩
    refine go_Rep1 (k := ?_)
    refine CW_cond _ rfl (fun hh => ?_) (fun hh => ?_)
    · have h2 := of_decide_eq_true hh
      have hf : okK y = false := decide_eq_false (by omega)
      refine go_Rep1 (k := ?_)
      exact bodyE_ret1 rfl (.int .i64 k) rfl ⟨k, rfl, by rw [hmem hf]; simp, hx.trans' hx2⟩
    · have h2 := of_decide_eq_false hh
      have hf : okK y = true := decide_eq_true (by omega)
      clear hh
      refine go_Rep1 (k := ?_)
      refine ⟨⟨k + 1, by omega, by rw [hsucc, hf], rfl, rfl, rfl, rfl, hx.trans' hx2⟩, ?_⟩
      show l.length - ((k : Int) + 1).toNat < l.length - (k : Int).toNat
      omega
  · have hge : k = l.length := by have := of_decide_eq_false hh; omega
    subst hge
    rw [List.take_of_length_le (Nat.le_refl _)] at hal
    refine go_Rep1 (k := ?_)
    exact bodyE_ret1 rfl (.int .i64 (-1)) rfl ⟨-1, rfl, by rw [hal]; rfl, hx⟩
set_option maxHeartbeats 8000000 in
theorem contains_any (w : World) (A : Option Addr) (c : Nat) (l : List (List UInt8)) (h : Rd w A (l.map stv)) (hl : l.length ≤ 1000000) :
    Calls Try.prog 97 #[.slice A l.length c, .func (.func 96) #[] #[]] w (RetV w (.bool (!l.all okK))) := by
  refine calls_of_CW Try.func97 rfl (by simp [Try.ntmps97]) ?_
  rw [Try.ntmps97]
  refine go_Rep1 (k := ?_)
  refine OW_callC Try.func121 (by kernel_rfl) rfl (index_any w A c l h hl) rfl ?_
  rintro en w1 ⟨n, rfl, hn, hx⟩
  refine ⟨_, rfl, ?_⟩
  rw [← hn]
  refine go_Rep1 (k := ?_)
  exact bodyE_ret1 rfl (.bool (decide (0 ≤ n))) rfl ⟨rfl, hx⟩
set_option maxHeartbeats 8000000 in
theorem mayReply_any (w : World) (A : Option Addr) (c : Nat) (r : RP) (h : ROk w r A c) : Calls Try.prog 78 #[.agg (rcells r (.slice A r.keys.length c)).toArray] w (RetV w (.bool (mayP r))) := by
  refine calls_of_CW Try.func78 rfl (by simp [Try.ntmps78]) ?_
  rw [Try.ntmps78]
  refine go_Rep1 (k := ?_)
  refine OW_box _ rfl ?_
  intro w1 g hb hg hlt hx
  have hb : Blk w1 g 69 (rcells r (.slice A r.keys.length c)).toArray := hb
  have m1 : w1.cell? ⟨g, 1, none⟩ = some (stv r.value) := hb.cell 1
  have m2 : w1.cell? ⟨g, 2, none⟩ = some (.slice A r.keys.length c) := hb.cell 2
  have hk := h.ks.ext hx
  unfold mayP
  refine go_Rep1 (k := ?_)
  refine OW_split 8 _ rfl (fun hh => ?_) (fun hh => ?_)
  · have h16 : r.keys.length ≤ 16 := by have := of_decide_eq_true hh; omega
    clear hh
    rw [decide_eq_true h16]
    refine go_Rep1 (k := ?_)
    refine OW_callF Try.func96 (by kernel_rfl) rfl (caps := []) rfl (args' := [stv r.value]) (long_any w1 r.value) rfl ?_
    rintro en w2 ⟨rfl, hx2⟩
    refine ⟨_, rfl, ?_⟩
    have m2' := hx2.cell' m2
    by_cases h5 : r.value.length ≤ 512
    · rw [decide_eq_true h5, decide_eq_false (show ¬ 512 < r.value.length by omega)]
      refine go_Rep1 (k := ?_)
      refine OW_callV Try.func97 (by kernel_rfl) rfl (contains_any w2 A c r.keys (hk.ext hx2) (by omega)) rfl ?_
      intro w3 hx3
      refine go_Rep1 (k := ?_)
      exact bodyE_ret1 rfl (.bool _) rfl ⟨by simp, (hx.trans' hx2).trans' hx3⟩
    · rw [decide_eq_false h5, decide_eq_true (show 512 < r.value.length by omega)]
      refine go_Rep1 (k := ?_)
      exact bodyE_ret1 rfl (.bool false) rfl ⟨by simp, hx.trans' hx2⟩
  · have h16 : ¬ r.keys.length ≤ 16 := by have := of_decide_eq_false hh; omega
    rw [decide_eq_false h16]
    refine go_Rep1 (k := ?_)
    exact bodyE_ret1 rfl (.bool false) rfl ⟨by simp, hx⟩
set_option maxHeartbeats 8000000 in
theorem refMayReply_any (w : World) (A : Option Addr) (c : Nat) (r : RP) (h : ROk w r A c) : Calls Try.prog 43 #[.agg (rcells r (.slice A r.keys.length c)).toArray] w (RetV w (.bool (mayP r))) := by
  refine calls_of_CW Try.func43 rfl (by simp [Try.ntmps43]) ?_
  rw [Try.ntmps43]
  refine go_Rep1 (k := ?_)
  refine OW_box _ rfl ?_
  intro w1 g hb hg hlt hx
  have hb : Blk w1 g 69 (rcells r (.slice A r.keys.length c)).toArray := hb
  have m1 : w1.cell? ⟨g, 1, none⟩ = some (stv r.value) := hb.cell 1
  have m2 : w1.cell? ⟨g, 2, none⟩ = some (.slice A r.keys.length c) := hb.cell 2
  have hk := h.ks.ext hx
  unfold mayP
  refine go_Rep1 (k := ?_)
  refine OW_split 8 _ rfl (fun hh => ?_) (fun hh => ?_)
  · have h16 : ¬ r.keys.length ≤ 16 := by have := of_decide_eq_true hh; omega
    rw [decide_eq_false h16]
    refine go_Rep1 (k := ?_)
    exact bodyE_ret1 rfl (.bool false) rfl ⟨by simp, hx⟩
  have h16 : r.keys.length ≤ 16 := by have := of_decide_eq_false hh; omega
  clear hh
  rw [decide_eq_true h16]
  refine go_Rep1 (k := ?_)
  refine CW_cond _ rfl (fun hh => ?_) (fun hh => ?_)
  · have h5 : ¬ r.value.length ≤ 512 := by have := of_decide_eq_true hh; omega
    rw [decide_eq_false h5]
    refine go_Rep1 (k := ?_)
    exact bodyE_ret1 rfl (.bool false) rfl ⟨by simp, hx⟩
  have h5 : r.value.length ≤ 512 := by have := of_decide_eq_false hh; omega
  clear hh
  rw [decide_eq_true h5]
  refine go_Rep1 (k := ?_)
  refine CW_loop (fun e' w' => ∃ k : Nat, k ≤ r.keys.length ∧ (r.keys.take k).all okK = true ∧ e' 1 = .pointer (some ⟨g, 0, none⟩) ∧ e' 3 = .int .i64 k ∧ w' = w1) (fun e' _ => r.keys.length - (intOf (e' 3)).toNat) ⟨0, Nat.zero_le _, rfl, rfl, rfl, rfl⟩ ?_
  rintro e' w2 ⟨k, hk2, hal, e1, e3, rfl⟩
  rw [upd_self e1, upd_self e3]
  refine go_Rep1 (k := ?_)
  refine CW_cond _ rfl (fun hh => ?_) (fun hh => ?_)
  · have hlt : k < r.keys.length := by have := of_decide_eq_true hh; omega
    clear hh
    obtain ⟨ad, hA, hc⟩ := keys_at hk hlt
    have hsucc : (r.keys.take (k + 1)).all okK = okK r.keys[k] := by rw [List.take_succ_eq_append_getElem hlt, List.all_append, hal]; simp
    have hmem : okK r.keys[k] = false → r.keys.all okK = false := fun h0 => by
      rw [List.all_eq_false]
      exact ⟨_, List.getElem_mem hlt, by simp [h0]⟩
    generalize r.keys[k] = y at *
    subst hA
    refine go_Rep1 (k := ?_)
    refine CW_cond _ rfl (fun hh => ?_) (fun hh => ?_)
    · have h2 := of_decide_eq_true hh
      have hf : okK y = false := decide_eq_false (by omega)
      refine go_Rep1 (k := ?_)
      exact bodyE_ret1 rfl (.bool false) rfl ⟨by rw [hmem hf]; simp, hx⟩
    · have h2 := of_decide_eq_false hh
      have hf : okK y = true := decide_eq_true (by omega)
      clear hh
      refine go_Rep1 (k := ?_)
      refine ⟨⟨k + 1, by omega, by rw [hsucc, hf], rfl, rfl, rfl⟩, ?_⟩
      show r.keys.length - ((k : Int) + 1).toNat < r.keys.length - (k : Int).toNat
      omega
  · have hge : k = r.keys.length := by have := of_decide_eq_false hh; omega
    subst hge
    rw [List.take_of_length_le (Nat.le_refl _)] at hal
    refine go_Rep1 (k := ?_)
    exact bodyE_ret1 rfl (.bool true) rfl ⟨by rw [hal]; rfl, hx⟩
end Go.Proofs.Ythhphmbhlddihaa
