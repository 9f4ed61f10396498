/- Several texts in one, as they stand in wip/src. -/
import Derived.Test.YtdpcahfgdpikfaaGt2
import Derived.Test.YtdpcahfgdpikfaaGt3
import Derived.Test.YtdpcahfgdpikfaaGt4
import Derived.Test.YtdpcahfgdpikfaaGt5
import Derived.Test.YtdpcahfgdpikfaaGt6
import Derived.Test.YtdpcahfgdpikfaaGt9
import Derived.Test.YtdpcahfgdpikfaaGt11
/- Walks: HMAC, the reference's blocks and bytes. -/
namespace Go.Proofs.Ytdpcahfgdpikfaa
open Go Go.RowKit
set_option linter.unusedVariables false
set_option maxRecDepth 4000
theorem go_Hm2 {A B : Prop} (h : Held B → A := by
  intro hEnd
  repeat (first | refine OW_sliceP h_slp_Tag rfl ?_ | refine OW_idxAI s_und_Tag one_u8 rfl rfl (by omega) (by omega) ?_ | refine OW_moveV (.int _ _) rfl ?_ | refine OW_moveV (.slice _ _ _) rfl ?_ | refine OW_moveV (.bool _) rfl ?_ | refine OW_moveV (.pointer _) rfl ?_ | refine OW_moveV (.string _) rfl ?_ | refine OW_moveV (.agg _) rfl ?_ | refine OW_moveV (.tuple _) rfl ?_ | refine OW_nil ?_ | refine thenE_normal ?_ | refine CW_seq ?_ | refine CW_region (by kernel_rfl) ?_ | refine OW_assignV (.int _ _) rfl ?_ | refine OW_assignV (.slice _ _ _) rfl ?_ | refine OW_assignV (.bool _) rfl ?_ | refine OW_assignV (.pointer _) rfl ?_ | refine OW_assignV (.string _) rfl ?_ | refine OW_assignV (.agg _) rfl ?_ | refine OW_assignV (.tuple _) rfl ?_ | refine OW_addI rfl rfl (by omega) ?_ | refine OW_subI rfl rfl (by omega) ?_ | refine OW_mulI rfl rfl (by omega) ?_ | refine OW_lss rfl rfl ?_ | refine OW_extract rfl rfl ?_ | refine OW_gtr rfl rfl ?_ | refine OW_leq rfl rfl ?_ | refine OW_geq rfl rfl ?_ | refine OW_eql rfl rfl ?_ | refine OW_neq rfl rfl ?_ | refine OW_not rfl ?_ | refine OW_pickT rfl _ rfl ?_ | refine OW_pickF rfl (.bool _) rfl ?_ | refine OW_pickB rfl rfl rfl ?_ | refine OW_move ?_ | refine OW_assign ?_ | refine OW_pass rfl ?_ | refine OW_take rfl ?_ | refine OW_lenS (by first | with_reducible exact und_bytes | with_reducible exact und_bytess) rfl ?_ | refine OW_convInt (by first | with_reducible exact und_u8 | with_reducible exact und_u64 | with_reducible exact und_int | with_reducible exact und_u32) (by first | with_reducible exact und_u8 | with_reducible exact und_u64 | with_reducible exact und_int | with_reducible exact und_u32) rfl ?_ | refine OW_add rfl rfl ?_ | refine OW_sub rfl rfl ?_ | refine OW_mul rfl rfl ?_ | refine OW_min2 rfl rfl ?_ | refine OW_max2 rfl rfl ?_ | refine OW_neg rfl ?_ | refine CW_block ?_ | refine CW_condT rfl ?_ | refine CW_condF rfl ?_ | refine CW_exit ?_ | refine CW_ret ?_ | refine CW_skip ?_ | refine LW_seq ?_ | refine LW_regC ?_ | refine LW_condC ?_ | refine LW_regF ?_ | refine LW_condF ?_ | refine FW_seq ?_ | refine FW_region (by kernel_rfl) ?_ | refine FW_block ?_ | refine FW_condT rfl ?_ | refine FW_condF rfl ?_ | refine FW_exit ?_ | refine FW_ret ?_ | refine FW_skip ?_ | refine LW_ret ?_ | refine LW_skip ?_ | refine thenE_exit ?_ | refine thenE_ret ?_ | refine inBlockE_normal ?_ | refine inBlockE_same ?_ | refine inBlockE_ret ?_ | refine inBlockE_ne (by rfl) ?_ | refine OW_eqlB (by with_reducible exact und_bool) rfl rfl ?_ | refine OW_neqB (by with_reducible exact und_bool) rfl rfl ?_ | refine OW_idxS (by with_reducible exact und_bytes) one_u8 rfl rfl _ rfl (by omega) ?_ | refine OW_idxS (by with_reducible exact und_bytess) one_bytes rfl rfl _ rfl (by omega) ?_ | refine OW_load1 (by first | with_reducible exact one_u8 | with_reducible exact one_bytes) rfl _ (by assumption) ?_)
  exact hEnd.out) (k : B) : A := h ⟨k⟩
set_option maxHeartbeats 8000000 in
theorem refBytes_any (w : World) (t : List UInt8) (ht : t.length = 32) :
    Calls Try.prog 105 #[.agg (t.map bv).toArray] w (RetBs 5 w t) := by
  refine calls_of_CW Try.func105 rfl (by simp [Try.ntmps105]) ?_
  rw [Try.ntmps105]
  refine go_Hm2 (k := ?_)
  refine OW_box _ rfl ?_
  intro w1 g1 hb1 hg1 hl1 hx1
  replace hb1 : Blk w1 g1 29 (t.map bv).toArray := hb1
  refine go_Hm2 (k := ?_)
  refine CW_meetB (fun e' w' => ∃ A2 c2, e' 3 = .slice A2 32 c2 ∧ w'.ownsRow w1.heap.size 5 1 (.slice A2 32 c2) 32 (t.map bv) ∧ Ext w1 w') ?_ ?_
  · refine CW_loop (fun e' w' => ∃ (k : Nat) (A2 : Option Addr) (c2 : Nat), k ≤ 32 ∧ e' 1 = .pointer (some ⟨g1, 0, none⟩) ∧ e' 4 = .int .i64 k ∧ e' 3 = .slice A2 k c2 ∧ w'.ownsRow w1.heap.size 5 1 (.slice A2 k c2) k ((t.take k).map bv) ∧ Ext w1 w') (fun e' _ => 32 - (intOf (e' 4)).toNat) ?_ ?_
    · exact ⟨0, none, 0, by omega, rfl, rfl, rfl, World.ownsRow_nil _ _ _ _, Ext.rfl' _⟩
    rintro e' w' ⟨k, A2, c2, hk, q1, q4, q3, ho, hx⟩
    rw [upd_self q1, upd_self q4, upd_self q3]
    refine go_Hm2 (k := ?_)
    refine CW_cond _ rfl (fun h => ?_) (fun h => ?_)
    · have hlt : k < 32 := by simp at h; omega
      clear h
      refine go_Hm2 (k := ?_)
      have hget : (t.map bv).toArray[((k : Nat) : Int).toNat]? = some (bv (t[k]'(by omega))) := by
        rw [show ((k : Nat) : Int).toNat = k by omega]
        simp [List.getElem?_eq_getElem (show k < t.length by omega)]
      refine OW_isLoad ?_
      refine OW_loadBk one_u8 rfl (hb1.ext hx) (bv (t[k]'(by omega))) hget ?_
      refine OW_lit [bv (t[k]'(by omega))] und_bytes info_u8 rfl rfl (by simp [bv, Value.oneCell']) (by decide) ?_
      intro w4 g4 hb4 hg4 hx4
      refine go_Hm2 (k := ?_)
      refine OW_append und_bytes info_u8 rfl rfl rfl (own_ext ho hx4) hb4.rd rfl (by simp [bv, Value.oneCell']) (by unfold maxLen; omega) (by omega) (by have := hx.size; have := hx4.size; omega) ?_
      intro w5 A5 c5 ho5 hx5
      refine go_Hm2 (k := ?_)
      refine ⟨⟨k + 1, A5, c5, hlt, rfl, rfl, rfl, ?_, (hx.trans' hx4).trans hx5⟩, ?_⟩
      · rw [take_succ_get t k (by omega), List.map_append]
        exact ho5
      · show 32 - ((k : Int) + 1).toNat < 32 - (k : Int).toNat
        omega
    · have hge : k = 32 := by simp at h; omega
      subst hge
      rw [List.take_of_length_le (by omega)] at ho
      refine go_Hm2 (k := ?_)
      exact ⟨rfl, A2, c2, rfl, ho, hx⟩
  rintro e' w' ⟨A2, c2, q3, ho, hx⟩
  rw [upd_self q3]
  rw [show (32 : Nat) = t.length from ht.symm] at ho ⊢
  refine go_Hm2 (k := ?_)
  exact bodyE_ret1 rfl (.slice A2 _ c2) rfl ⟨A2, c2, rfl, own_mono ho hx1.size, hx1.trans' hx⟩
theorem keyB_get {key : List UInt8} {k : Nat} (h : k < 64) : (keyB key)[k]'(by rw [keyB_length]; exact h) = if hk : k < (keyK key).length then (keyK key)[k] else 0 := by
  unfold keyB
  split
  · rename_i hk; rw [List.getElem_append_left hk]
  · rename_i hk; rw [List.getElem_append_right (by omega)]; simp
set_option maxHeartbeats 8000000 in
theorem refBlock_any (w : World) (A : Option Addr) (c : Nat) (key : List UInt8) (x : UInt8) (hb : Bs w A key) (hl : key.length ≤ 100000) :
    Calls Try.prog 104 #[.slice A key.length c, .int .u8 (x.toNat : Int)] w (RetBs 5 w (xorB x (keyB key))) := by
  refine calls_of_CW Try.func104 rfl (by simp [Try.ntmps104]) ?_
  rw [Try.ntmps104]
  refine go_Hm2 (k := ?_)
  refine CW_meet (fun e' w' => ∃ A' c', e' 0 = .slice A' (keyK key).length c' ∧ e' 1 = .int .u8 (x.toNat : Int) ∧ Bs w' A' (keyK key) ∧ Ext w w') ?_ ?_
  · refine CW_cond _ rfl (fun h => ?_) (fun h => ?_)
    · have hlt : 64 < key.length := by simp at h; omega
      have hk : keyK key = shaL key := by unfold keyK; rw [if_pos hlt]
      refine go_Hm2 (k := ?_)
      refine OW_callV Try.func24 (by kernel_rfl) rfl (refSum_any w A c key hb (by omega)) rfl ?_
      intro w1 hx1
      refine go_Hm2 (k := ?_)
      refine OW_callBs Try.func105 (by kernel_rfl) rfl (refBytes_any w1 (shaL key) (shaL_length _)) rfl ?_
      intro w2 A2 c2 hf2
      refine go_Hm2 (k := ?_)
      exact ⟨rfl, A2, c2, by rw [hk]; rfl, rfl, by rw [hk]; exact hf2.bs, hx1.trans' hf2.ext⟩
    · have hle : key.length ≤ 64 := by simp at h; omega
      have hk : keyK key = key := by unfold keyK; rw [if_neg (by omega)]
      refine go_Hm2 (k := ?_)
      exact ⟨rfl, A, c, by rw [hk]; rfl, rfl, by rw [hk]; exact hb, Ext.rfl' _⟩
  rintro e' w1 ⟨A', c', q0, q1, hbk, hx1⟩
  rw [upd_self q0, upd_self q1]
  have hkl := keyK_length key
  have hBl := keyB_length key
  have hXl := xorB_length x (keyB key)
  refine go_Hm2 (k := ?_)
  refine CW_meetB (fun e' w' => ∃ A2 c2, e' 5 = .slice A2 64 c2 ∧ w'.ownsRow w1.heap.size 5 1 (.slice A2 64 c2) 64 ((xorB x (keyB key)).map bv) ∧ Ext w1 w') ?_ ?_
  · refine CW_loop (fun e' w' => ∃ (k : Nat) (A2 : Option Addr) (c2 : Nat), k ≤ 64 ∧ e' 0 = .slice A' (keyK key).length c' ∧ e' 1 = .int .u8 (x.toNat : Int) ∧ e' 6 = .int .i64 k ∧ e' 5 = .slice A2 k c2 ∧ w'.ownsRow w1.heap.size 5 1 (.slice A2 k c2) k (((xorB x (keyB key)).take k).map bv) ∧ Ext w1 w') (fun e' _ => 64 - (intOf (e' 6)).toNat) ?_ ?_
    · exact ⟨0, none, 0, by omega, rfl, rfl, rfl, rfl, World.ownsRow_nil _ _ _ _, Ext.rfl' _⟩
    rintro e' w' ⟨k, A2, c2, hk, q0, q1, q6, q5, ho, hx⟩
    have hbk' := hbk.ext hx
    rw [upd_self q0, upd_self q1, upd_self q6, upd_self q5]
    refine go_Hm2 (k := ?_)
    refine CW_cond _ rfl (fun h => ?_) (fun h => ?_)
    · have hlt : k < 64 := by simp at h; omega
      clear h
      refine go_Hm2 (k := ?_)
      refine CW_meet (fun e' w'' => e' 0 = .slice A' (keyK key).length c' ∧ e' 1 = .int .u8 (x.toNat : Int) ∧ e' 6 = .int .i64 k ∧ e' 5 = .slice A2 k c2 ∧ e' 7 = .int .u8 (((keyB key)[k]'(by omega)).toNat : Int) ∧ w'' = w') ?_ ?_
      · refine CW_cond _ rfl (fun h => ?_) (fun h => ?_)
        · have hlk : k < (keyK key).length := by simpa using h
          obtain ⟨ad, hA1, hcA⟩ := hbk'.at_ hlk
          subst hA1
          have hg := keyB_get (key := key) hlt
          rw [dif_pos hlk] at hg
          rw [← hg] at hcA
          refine go_Hm2 (k := ?_)
          exact ⟨rfl, rfl, rfl, rfl, rfl, rfl, rfl⟩
        · have hlk : ¬ k < (keyK key).length := by simpa using h
          have hg := keyB_get (key := key) hlt
          rw [dif_neg hlk] at hg
          refine go_Hm2 (k := ?_)
          exact ⟨rfl, rfl, rfl, rfl, rfl, by rw [hg]; rfl, rfl⟩
      rintro e'' w'' ⟨q0, q1, q6, q5, q7, rfl⟩
      rw [upd_self q0, upd_self q1, upd_self q6, upd_self q5, upd_self q7]
      have hXg : (xorB x (keyB key))[k]'(by omega) = (keyB key)[k]'(by omega) ^^^ x := by simp [xorB]
      refine go_Hm2 (k := ?_)
      refine OW_xor rfl rfl _ (xor_bv _ _) ?_
      rw [← hXg]
      refine go_Hm2 (k := ?_)
      refine OW_lit [bv ((xorB x (keyB key))[k]'(by omega))] und_bytes info_u8 rfl rfl (by simp [bv, Value.oneCell']) (by decide) ?_
      intro w4 g4 hb4 hg4 hx4
      refine go_Hm2 (k := ?_)
      refine OW_append und_bytes info_u8 rfl rfl rfl (own_ext ho hx4) hb4.rd rfl (by simp [bv, Value.oneCell']) (by unfold maxLen; omega) (by omega) (by have := hx.size; have := hx4.size; omega) ?_
      intro w5 A5 c5 ho5 hx5
      refine go_Hm2 (k := ?_)
      refine ⟨⟨k + 1, A5, c5, hlt, rfl, rfl, rfl, rfl, ?_, (hx.trans' hx4).trans hx5⟩, ?_⟩
      · rw [take_succ_get (xorB x (keyB key)) k (by omega), List.map_append]
        exact ho5
      · show 64 - ((k : Int) + 1).toNat < 64 - (k : Int).toNat
        omega
    · have hge : k = 64 := by simp at h; omega
      subst hge
      rw [List.take_of_length_le (by omega)] at ho
      refine go_Hm2 (k := ?_)
      exact ⟨rfl, A2, c2, rfl, ho, hx⟩
  rintro e' w' ⟨A2, c2, q5, ho, hx⟩
  rw [upd_self q5]
  rw [show (64 : Nat) = (xorB x (keyB key)).length by omega] at ho ⊢
  refine go_Hm2 (k := ?_)
  exact bodyE_ret1 rfl (.slice A2 _ c2) rfl ⟨A2, c2, rfl, own_mono ho hx1.size, hx1.trans' hx⟩
end Go.Proofs.Ytdpcahfgdpikfaa

/- SHA-256 computed: the same numbers, each forced before the next step, so that the kernel can compute them. No program in sight. -/
namespace Go.Proofs.Ytdpcahfgdpikfaa
open Go Go.RowKit
set_option linter.unusedVariables false
universe u
def force {α : Type u} (x : Nat) (k : Nat → α) : α := match x with
  | 0 => k 0
  | n + 1 => k (n + 1)
theorem force_eq {α : Type u} (x : Nat) (k : Nat → α) : force x k = k x := by cases x <;> rfl
def turnN (x a b c : Nat) : Nat := (rotS x a ^^^ rotS x b) ^^^ rotS x c
def smallN (x a b c : Nat) : Nat := (rotS x a ^^^ rotS x b) ^^^ (x / 2 ^ c)
theorem turnN_eq (x : UInt32) {a b c : Nat} (ha : a ≤ 32) (hb : b ≤ 32) (hc : c ≤ 32) : (turnU x a b c).toNat = turnN x.toNat a b c := by
  unfold turnU turnN
  rw [UInt32.toNat_xor, UInt32.toNat_xor, rotU_nat x ha, rotU_nat x hb, rotU_nat x hc]
theorem smallN_eq (x : UInt32) {a b c : Nat} (ha : a ≤ 32) (hb : b ≤ 32) : (smallU x a b c).toNat = smallN x.toNat a b c := by
  unfold smallU smallN
  rw [UInt32.toNat_xor, UInt32.toNat_xor, rotU_nat x ha, rotU_nat x hb, shU_nat]
theorem notN_eq (x : UInt32) : (~~~ x).toNat = 4294967295 - x.toNat := by
  have := u32_lt x
  rw [UInt32.toNat_not]
  rfl
def wN (ws : List UInt32) : List Nat := ws.map UInt32.toNat
theorem ldV_lt4 (b : List UInt8) (at_ : Int) : ldV b at_ 4 < 4294967296 := by
  unfold ldV ldL
  split
  · have := loadL_lt ((b.drop at_.toNat).take 4)
    have hl : ((b.drop at_.toNat).take 4).length ≤ 4 := by rw [List.length_take]; omega
    have h2 : 256 ^ ((b.drop at_.toNat).take 4).length ≤ 256 ^ 4 := Nat.pow_le_pow_right (by decide) hl
    simp only [Option.getD_some]
    omega
  · decide
/-- The first sixteen, the latest first. -/
def fstF {α : Type u} : Nat → Nat → List UInt8 → List Nat → (List Nat → α) → α
  | 0, _, _, ws, k => k ws
  | n + 1, t, b, ws, k => force (ldV b ((4 * t : Nat) : Int) 4) fun x => fstF n (t + 1) b (x :: ws) k
theorem fstF_eq {α : Type u} (b : List UInt8) (k : List Nat → α) : ∀ n t, t + n ≤ 16 → fstF n t b (wN (sch b t)).reverse k = k (wN (sch b (t + n))).reverse
  | 0, t, _ => rfl
  | n + 1, t, h => by
    unfold fstF
    rw [force_eq]
    have h1 : ldV b ((4 * t : Nat) : Int) 4 :: (wN (sch b t)).reverse = (wN (sch b (t + 1))).reverse := by
      have h2 : (nxt b (sch b t) t).toNat = ldV b ((4 * t : Nat) : Int) 4 := by
        unfold nxt
        rw [if_pos (by omega), UInt32.toNat_ofNat']
        exact Nat.mod_eq_of_lt (ldV_lt4 b _)
      simp [sch, wN, h2]
    rw [h1, fstF_eq b k n (t + 1) (by omega), show t + 1 + n = t + (n + 1) by omega]
def schF {α : Type u} : Nat → List Nat → (List Nat → α) → α
  | 0, ws, k => k ws
  | n + 1, ws, k => force ((((smallN (ws.getD 1 0) 17 19 10 + ws.getD 6 0) % 4294967296 + smallN (ws.getD 14 0) 7 18 3) % 4294967296 + ws.getD 15 0) % 4294967296) fun x => schF n (x :: ws) k
theorem rev_get (ws : List UInt32) {i : Nat} (h : i < ws.length) : (wN ws).reverse.getD i 0 = (ws.getD (ws.length - 1 - i) 0).toNat := by
  unfold wN
  rw [List.getD_eq_getElem?_getD, List.getElem?_reverse (by simpa using h), List.length_map, List.getElem?_map, List.getD_eq_getElem?_getD, List.getElem?_eq_getElem (by omega)]
  rfl
theorem schF_eq {α : Type u} (b : List UInt8) (k : List Nat → α) : ∀ n t, 16 ≤ t → schF n (wN (sch b t)).reverse k = k (wN (sch b (t + n))).reverse
  | 0, t, _ => rfl
  | n + 1, t, h => by
    unfold schF
    rw [force_eq]
    have hl := sch_length b t
    rw [rev_get (sch b t) (by omega), rev_get (sch b t) (by omega), rev_get (sch b t) (by omega), rev_get (sch b t) (by omega), hl]
    have h2 : (nxt b (sch b t) t).toNat = (((smallN ((sch b t).getD (t - 1 - 1) 0).toNat 17 19 10 + ((sch b t).getD (t - 1 - 6) 0).toNat) % 4294967296 + smallN ((sch b t).getD (t - 1 - 14) 0).toNat 7 18 3) % 4294967296 + ((sch b t).getD (t - 1 - 15) 0).toNat) % 4294967296 := by
      unfold nxt
      rw [if_neg (by omega), UInt32.toNat_add, UInt32.toNat_add, UInt32.toNat_add, smallN_eq _ (by decide) (by decide), smallN_eq _ (by decide) (by decide)]
      rw [show t - 1 - 1 = t - 2 by omega, show t - 1 - 6 = t - 7 by omega, show t - 1 - 14 = t - 15 by omega, show t - 1 - 15 = t - 16 by omega]
    rw [← h2]
    have h1 : (nxt b (sch b t) t).toNat :: (wN (sch b t)).reverse = (wN (sch b (t + 1))).reverse := by simp [sch, wN]
    rw [h1, schF_eq b k n (t + 1) (by omega), show t + 1 + n = t + (n + 1) by omega]
def rndL : N8 → List UInt32 → List UInt32 → N8
  | s, k :: ks, w :: ws => rndL (rnd s k w) ks ws
  | s, _, _ => s
theorem rndL_snoc (k w : UInt32) : ∀ (ks ws : List UInt32) (s : N8), ks.length = ws.length → rndL s (ks ++ [k]) (ws ++ [w]) = rnd (rndL s ks ws) k w
  | [], [], s, _ => rfl
  | k' :: ks, w' :: ws, s, h => by
    show rndL (rnd s k' w') (ks ++ [k]) (ws ++ [w]) = rnd (rndL (rnd s k' w') ks ws) k w
    exact rndL_snoc k w ks ws _ (by simpa using h)
  | [], _ :: _, s, h => by simp at h
  | _ :: _, [], s, h => by simp at h
theorem getD_get {α : Type u} (l : List α) (t : Nat) (d : α) (h : t < l.length) : l.getD t d = l[t] := by
  rw [List.getD_eq_getElem?_getD, List.getElem?_eq_getElem h]
  rfl
theorem rnds_L (b : List UInt8) (s : N8) : ∀ t, t ≤ 64 → rnds b s t = rndL s (kL.take t) ((sch b 64).take t)
  | 0, _ => by rw [rnds, List.take_zero, List.take_zero, rndL]; simp
  | t + 1, h => by
    have hk : t < kL.length := by rw [kL_length]; omega
    have hw : t < (sch b 64).length := by rw [sch_length]; omega
    have h1 := kL_length
    have h2 := sch_length b 64
    rw [rnds, getD_get _ _ _ hk, getD_get _ _ _ hw, take_succ_get _ _ hk, take_succ_get _ _ hw, rndL_snoc _ _ _ _ _ (by rw [List.length_take, List.length_take, h1, h2]), rnds_L b s t (by omega)]
def roundsF {α : Type u} : List Nat → List Nat → Nat → Nat → Nat → Nat → Nat → Nat → Nat → Nat → (Nat → Nat → Nat → Nat → Nat → Nat → Nat → Nat → α) → α
  | kk :: ks, w :: ws, a, b, c, d, e, f, g, h, k =>
    force (((((h + turnN e 6 11 25) % 4294967296 + ((e &&& f) ||| ((4294967295 - e) &&& g))) % 4294967296 + kk) % 4294967296 + w) % 4294967296) fun t1 =>
    force ((d + t1) % 4294967296) fun e' =>
    force ((t1 + (turnN a 2 13 22 + ((a &&& b ||| a &&& c) ||| b &&& c)) % 4294967296) % 4294967296) fun a' => roundsF ks ws a' a b c e' e f g k
  | _, _, a, b, c, d, e, f, g, h, k => k a b c d e f g h
theorem roundsF_eq {α : Type u} (k : Nat → Nat → Nat → Nat → Nat → Nat → Nat → Nat → α) : ∀ (ks ws : List UInt32) (s : N8), ks.length = ws.length →
    roundsF (wN ks) (wN ws) s.a.toNat s.b.toNat s.c.toNat s.d.toNat s.e.toNat s.f.toNat s.g.toNat s.h.toNat k =
      k (rndL s ks ws).a.toNat (rndL s ks ws).b.toNat (rndL s ks ws).c.toNat (rndL s ks ws).d.toNat (rndL s ks ws).e.toNat (rndL s ks ws).f.toNat (rndL s ks ws).g.toNat (rndL s ks ws).h.toNat
  | [], [], s, _ => rfl
  | kk :: ks, w :: ws, s, h => by
    have ih := roundsF_eq k ks ws (rnd s kk w) (by simpa using h)
    show roundsF (kk.toNat :: wN ks) (w.toNat :: wN ws) _ _ _ _ _ _ _ _ _ = _
    unfold roundsF
    rw [force_eq, force_eq, force_eq]
    have h1 : (one8 s kk w).toNat = ((((s.h.toNat + turnN s.e.toNat 6 11 25) % 4294967296 + ((s.e.toNat &&& s.f.toNat) ||| ((4294967295 - s.e.toNat) &&& s.g.toNat))) % 4294967296 + kk.toNat) % 4294967296 + w.toNat) % 4294967296 := by
      unfold one8
      rw [UInt32.toNat_add, UInt32.toNat_add, UInt32.toNat_add, UInt32.toNat_add, UInt32.toNat_or, UInt32.toNat_and, UInt32.toNat_and, notN_eq, turnN_eq _ (by decide) (by decide) (by decide)]
    have h2 : (two8 s).toNat = (turnN s.a.toNat 2 13 22 + ((s.a.toNat &&& s.b.toNat ||| s.a.toNat &&& s.c.toNat) ||| s.b.toNat &&& s.c.toNat)) % 4294967296 := by
      unfold two8
      rw [UInt32.toNat_add, UInt32.toNat_or, UInt32.toNat_or, UInt32.toNat_and, UInt32.toNat_and, UInt32.toNat_and, turnN_eq _ (by decide) (by decide) (by decide)]
    rw [← h1, ← h2]
    have h3 : (rnd s kk w).a.toNat = ((one8 s kk w).toNat + (two8 s).toNat) % 4294967296 := UInt32.toNat_add _ _
    have h4 : (rnd s kk w).e.toNat = (s.d.toNat + (one8 s kk w).toNat) % 4294967296 := UInt32.toNat_add _ _
    rw [← h3, ← h4]
    exact ih
  | [], _ :: _, s, h => by simp at h
  | _ :: _, [], s, h => by simp at h
def kN : List Nat := [1116352408, 1899447441, 3049323471, 3921009573, 961987163, 1508970993, 2453635748, 2870763221, 3624381080, 310598401, 607225278, 1426881987, 1925078388, 2162078206, 2614888103, 3248222580, 3835390401, 4022224774, 264347078, 604807628, 770255983, 1249150122, 1555081692, 1996064986, 2554220882, 2821834349, 2952996808, 3210313671, 3336571891, 3584528711, 113926993, 338241895, 666307205, 773529912, 1294757372, 1396182291, 1695183700, 1986661051, 2177026350, 2456956037, 2730485921, 2820302411, 3259730800, 3345764771, 3516065817, 3600352804, 4094571909, 275423344, 430227734, 506948616, 659060556, 883997877, 958139571, 1322822218, 1537002063, 1747873779, 1955562222, 2024104815, 2227730452, 2361852424, 2428436474, 2756734187, 3204031479, 3329325298]
theorem kN_eq : kN = wN kL := by decide +kernel
def blkF {α : Type u} (bs : List UInt8) (a b c d e f g h : Nat) (k : Nat → Nat → Nat → Nat → Nat → Nat → Nat → Nat → α) : α :=
  fstF 16 0 bs [] fun w16 => schF 48 w16 fun wr => roundsF kN wr.reverse a b c d e f g h fun a' b' c' d' e' f' g' h' =>
    force ((a + a') % 4294967296) fun a => force ((b + b') % 4294967296) fun b => force ((c + c') % 4294967296) fun c => force ((d + d') % 4294967296) fun d =>
    force ((e + e') % 4294967296) fun e => force ((f + f') % 4294967296) fun f => force ((g + g') % 4294967296) fun g => force ((h + h') % 4294967296) fun h => k a b c d e f g h
/-- The eight, handed on. -/
def give {α : Type u} (s : N8) (k : Nat → Nat → Nat → Nat → Nat → Nat → Nat → Nat → α) : α := k s.a.toNat s.b.toNat s.c.toNat s.d.toNat s.e.toNat s.f.toNat s.g.toNat s.h.toNat
theorem blkF_eq {α : Type u} (bs : List UInt8) (s : N8) (k : Nat → Nat → Nat → Nat → Nat → Nat → Nat → Nat → α) : give s (fun a b c d e f g h => blkF bs a b c d e f g h k) = give (blk s bs) k := by
  unfold give blkF
  have h0 := fstF_eq bs (fun w16 => schF 48 w16 fun wr => roundsF kN wr.reverse s.a.toNat s.b.toNat s.c.toNat s.d.toNat s.e.toNat s.f.toNat s.g.toNat s.h.toNat fun a' b' c' d' e' f' g' h' =>
    force ((s.a.toNat + a') % 4294967296) fun a => force ((s.b.toNat + b') % 4294967296) fun b => force ((s.c.toNat + c') % 4294967296) fun c => force ((s.d.toNat + d') % 4294967296) fun d =>
    force ((s.e.toNat + e') % 4294967296) fun e => force ((s.f.toNat + f') % 4294967296) fun f => force ((s.g.toNat + g') % 4294967296) fun g => force ((s.h.toNat + h') % 4294967296) fun h => k a b c d e f g h) 16 0 (by decide)
  refine h0.trans ?_
  rw [schF_eq bs _ 48 (0 + 16) (by decide), List.reverse_reverse, kN_eq, roundsF_eq _ kL (sch bs (0 + 16 + 48)) s (by rw [sch_length]; rfl)]
  have hr : rndL s kL (sch bs (0 + 16 + 48)) = rnds bs s 64 := by
    rw [rnds_L bs s 64 (Nat.le_refl _), List.take_of_length_le (by rw [kL_length]; exact Nat.le_refl _), List.take_of_length_le (by rw [sch_length]; exact Nat.le_refl _)]
  rw [hr]
  simp only [force_eq, blk, N8.add, UInt32.toNat_add]
def forceL {α : Type u} : List UInt8 → (List UInt8 → α) → α
  | [], k => k []
  | x :: xs, k => force x.toNat fun n => forceL xs fun ys => k (UInt8.ofNat n :: ys)
theorem forceL_eq {α : Type u} : ∀ (l : List UInt8) (k : List UInt8 → α), forceL l k = k l
  | [], k => rfl
  | x :: xs, k => by
    unfold forceL
    rw [force_eq, forceL_eq xs, UInt8.ofNat_toNat]
def runF {α : Type u} : Nat → Nat → List UInt8 → Nat → Nat → Nat → Nat → Nat → Nat → Nat → Nat → (Nat → Nat → Nat → Nat → Nat → Nat → Nat → Nat → α) → α
  | 0, _, _, a, b, c, d, e, f, g, h, k => k a b c d e f g h
  | n + 1, i, l, a, b, c, d, e, f, g, h, k => forceL (chunk l i) fun bs => blkF bs a b c d e f g h fun a b c d e f g h => runF n (i + 1) l a b c d e f g h k
theorem runF_eq {α : Type u} (s : N8) (l : List UInt8) (k : Nat → Nat → Nat → Nat → Nat → Nat → Nat → Nat → α) : ∀ n i, give (runB s l i) (fun a b c d e f g h => runF n i l a b c d e f g h k) = give (runB s l (i + n)) k
  | 0, i => rfl
  | n + 1, i => by
    have h1 : give (runB s l i) (fun a b c d e f g h => runF (n + 1) i l a b c d e f g h k) = give (runB s l i) (fun a b c d e f g h => blkF (chunk l i) a b c d e f g h fun a b c d e f g h => runF n (i + 1) l a b c d e f g h k) := by
      unfold give
      conv => lhs; unfold runF
      simp only [forceL_eq]
    rw [h1, blkF_eq, show i + (n + 1) = i + 1 + n by omega, ← runF_eq s l k n (i + 1)]
    rfl
/-- The tag's eight numbers, computed. -/
def shaF {α : Type u} (l : List UInt8) (k : Nat → Nat → Nat → Nat → Nat → Nat → Nat → Nat → α) : α :=
  forceL (l ++ tailB l.length) fun m => force (m.length / 64) fun n => runF n 0 m 1779033703 3144134277 1013904242 2773480762 1359893119 2600822924 528734635 1541459225 k
theorem shaF_eq {α : Type u} (l : List UInt8) (k : Nat → Nat → Nat → Nat → Nat → Nat → Nat → Nat → α) : shaF l k = give (shaN l) k := by
  unfold shaF
  rw [forceL_eq, force_eq]
  have := runF_eq iv8 (l ++ tailB l.length) k ((l ++ tailB l.length).length / 64) 0
  rw [Nat.zero_add] at this
  exact this
theorem sha_empty : shaF [] (fun a b c d e f g h => [a, b, c, d, e, f, g, h]) = [0xe3b0c442, 0x98fc1c14, 0x9afbf4c8, 0x996fb924, 0x27ae41e4, 0x649b934c, 0xa495991b, 0x7852b855] := by decide +kernel
theorem sha_abc : shaF [97, 98, 99] (fun a b c d e f g h => [a, b, c, d, e, f, g, h]) = [0xba7816bf, 0x8f01cfea, 0x414140de, 0x5dae2223, 0xb00361a3, 0x96177a9c, 0xb410ff61, 0xf20015ad] := by decide +kernel
theorem sha_abcd : shaF [97, 98, 99, 100, 98, 99, 100, 101, 99, 100, 101, 102, 100, 101, 102, 103, 101, 102, 103, 104, 102, 103, 104, 105, 103, 104, 105, 106, 104, 105, 106, 107, 105, 106, 107, 108, 106, 107, 108, 109, 107, 108, 109, 110, 108, 109, 110, 111, 109, 110, 111, 112, 110, 111, 112, 113] (fun a b c d e f g h => [a, b, c, d, e, f, g, h]) = [0x248d6a61, 0xd20638b8, 0xe5c02693, 0x0c3e6039, 0xa33ce459, 0x64ff2167, 0xf6ecedd4, 0x19db06c1] := by decide +kernel
end Go.Proofs.Ytdpcahfgdpikfaa

/- Walk: the chapter's examples. -/
namespace Go.Proofs.Ytdpcahfgdpikfaa
open Go Go.RowKit
set_option linter.unusedVariables false
section
variable {P : Program} {ops : Array Oper} {Q : Exit → (Nat → Value) → World → Prop} {rest : List Oper} {e : Nat → Value} {w : World} {d : Tmp} {ty : TypeId} {pos : String} {aft : Array Edge}
theorem OW_shrZ {x y : Operand} {t t' : TypeId} {a : UInt32} {ky : IntKind} {b : Int} (hx : ev e x = uv a) (hy : ev e y = .int ky b) (hk : 0 ≤ b ∧ b ≤ 32) (h : OW P ops Q rest (upd e d (uv (shU a b.toNat))) w) : OW P ops Q (⟨some d, .binOp .shr t x y t', ty, pos, aft, none⟩ :: rest) e w :=
  OW_shrW b.toNat hx hy (by omega) (by omega) h
theorem OW_eqlT {x y : Operand} {t t' : TypeId} {k : IntKind} {a b : Int} (hx : ev e x = .int k a) (hy : ev e y = .int k b) (hh : a = b) (h : OW P ops Q rest (upd e d (.bool true)) w) : OW P ops Q (⟨some d, .binOp .eql t x y t', ty, pos, aft, none⟩ :: rest) e w :=
  OW_eql hx hy (by rw [hh, beq_self_eq_true]; exact h)
/-- Bytes of a constant, converted: the block is marked behind its end. -/
theorem OW_convB {x : Operand} {t el : TypeId} {g n c : Nat} {cs : Array Value} (ht : P.underlying t = some (.slice el)) (he : P.underlying el = some (.int .u8)) (hx : ev e x = .slice (some ⟨g, 0, none⟩) n c) (hb : Blk w g el cs)
    (h : ∀ w', Rd w' (some ⟨g, 0, none⟩) cs.toList → w.grownBy w' (some g) → OW P ops Q rest (upd e d (.slice (some ⟨g, 0, none⟩) n c)) w') : OW P ops Q (⟨some d, .convert t t x, ty, pos, aft, none⟩ :: rest) e w := by
  have hb' : w.heap[g]? = some (.cells cs el (0, 0)) := hb
  have hsh : w.shape? g = some (el, cs.size) := by unfold World.shape?; rw [hb']
  refine OW_valw (.slice (some ⟨g, 0, none⟩) n c) (w.freeze ⟨g, cs.size, none⟩ 1) rfl ?_ (h _ ?_ ?_)
  · simp only [execOp, hx, Sem.run_bind]
    simp [convert, run_underlying ht, run_underlying he, markStringish, hsh]
  · intro j u hu
    refine ⟨_, rfl, ?_⟩
    rw [add0]
    have hm : (w.freeze ⟨g, cs.size, none⟩ 1).heap[g]? = some (.cells cs el (cs.size, cs.size + 1)) := by
      simp [World.freeze, Array.getElem?_modify, hb']
    rw [cell_of_row _ _ _ _ _ _ hm]
    simpa using hu
  · refine ⟨rfl, rfl, rfl, by simp [World.freeze], fun k hk hne => ?_⟩
    have : g ≠ k := fun h => hne (by rw [h])
    simp [World.freeze, Array.getElem?_modify, this]
end
theorem nat_u32_ofNat {x : UInt32} {n : Nat} (h : x.toNat = n) : uv x = .int .u32 (n : Int) := by unfold uv; rw [h]
/-- One word of a tag, from the computation. -/
theorem fst_of {l : List UInt8} {a b c d e f g h : Nat} (hs : shaF l (fun a b c d e f g h => [a, b, c, d, e, f, g, h]) = [a, b, c, d, e, f, g, h]) : (shaN l).a.toNat = a ∧ (shaN l).h.toNat = h := by
  rw [shaF_eq] at hs
  simp only [give, List.cons.injEq] at hs
  exact ⟨hs.1, hs.2.2.2.2.2.2.2.1⟩
theorem last_of {l : List UInt8} {n : Nat} (h : (shaN l).h.toNat = n) : ((shaL l).map bv).toArray[31]? = some (.int .u8 ((UInt8.ofNat n).toNat : Int)) := by
  have h1 : ((shaL l).map bv).toArray[31]? = some (.int .u8 ((UInt8.ofNat ((shaN l).h.toNat / 256 ^ 0)).toNat : Int)) := rfl
  rw [h1, h, Nat.pow_zero, Nat.div_one]
def abcd : List UInt8 := [97, 98, 99, 100, 98, 99, 100, 101, 99, 100, 101, 102, 100, 101, 102, 103, 101, 102, 103, 104, 102, 103, 104, 105, 103, 104, 105, 106, 104, 105, 106, 107, 105, 106, 107, 108, 106, 107, 108, 109, 107, 108, 109, 110, 108, 109, 110, 111, 109, 110, 111, 112, 110, 111, 112, 113]
theorem bs_conv {w : World} {g : Nat} {l : List UInt8} (h : Rd w (some ⟨g, 0, none⟩) (l.map bv).toArray.toList) : Bs w (some ⟨g, 0, none⟩) l := h
end Go.Proofs.Ytdpcahfgdpikfaa

/- For the laws of SHA: hashes side by side; tags compared. -/
namespace Go.Proofs.Ytdpcahfgdpikfaa
open Go Go.RowKit
set_option linter.unusedVariables false
section
variable {P : Program} {ops : Array Oper} {Q : Exit → (Nat → Value) → World → Prop} {rest : List Oper} {e : Nat → Value} {w : World} {d : Tmp} {ty : TypeId} {pos : String} {aft : Array Edge}
theorem OW_loadT {x : Operand} {t T : TypeId} {zs : List Value} {g : Nat} {l : List UInt8} (ht : AggT P t 32 zs) (hx : ev e x = .pointer (some ⟨g, 0, none⟩)) (hb : Blk w g T (l.map bv).toArray) (hl : l.length = 32)
    (h : OW P ops Q rest (upd e d (.agg (l.map bv).toArray)) w) : OW P ops Q (⟨some d, .load t x, ty, pos, aft, none⟩ :: rest) e w :=
  OW_loadAB ht hx (l.map bv) hb (by rw [List.length_map, hl]) h
theorem OW_eqlRT {x y : Operand} {t t' : TypeId} {n : Nat} (hq : EqR P t n) {a : List UInt8} (hx : ev e x = .agg (a.map bv).toArray) (hy : ev e y = .agg (a.map bv).toArray) (ha : a.length = n)
    (h : OW P ops Q rest (upd e d (.bool true)) w) : OW P ops Q (⟨some d, .binOp .eql t x y t', ty, pos, aft, none⟩ :: rest) e w :=
  OW_eqlR hq hx hy ha ha (by rw [decide_eq_true rfl]; exact h)
theorem OW_neqRF {x y : Operand} {t t' : TypeId} {n : Nat} (hq : EqR P t n) {a : List UInt8} (hx : ev e x = .agg (a.map bv).toArray) (hy : ev e y = .agg (a.map bv).toArray) (ha : a.length = n)
    (h : OW P ops Q rest (upd e d (.bool false)) w) : OW P ops Q (⟨some d, .binOp .neq t x y t', ty, pos, aft, none⟩ :: rest) e w :=
  OW_neqR hq hx hy ha ha (by rw [decide_eq_true rfl]; exact h)
end
/-- What a call of its own blocks leaves. -/
structure Own (w0 w : World) (S : Nat → Prop) : Prop where
  ext : Ext w0 w
  lo : ∀ k, S k → w0.heap.size ≤ k
theorem Own.step {w0 w w' : World} {S : Nat → Prop} (h : Own w0 w S) (hk : Keeps w w' S) : Own w0 w' (more S w w') :=
  ⟨hk.ext h.ext h.lo, fun k hk2 => by
    rcases hk2 with h1 | h1
    · exact h.lo k h1
    · have := h.ext.size; omega⟩
theorem Own.to {w0 w w' : World} {S : Nat → Prop} (h : Own w0 w S) (hx : Ext w w') : Own w0 w' S := ⟨h.ext.trans' hx, h.lo⟩
theorem Own.new {w0 w w' : World} (h : Ext w0 w) (hx : Ext w w') : Own w0 w' (more (fun _ => False) w w') := ⟨h.trans' hx, fun k hk => by
  rcases hk with h1 | h1
  · exact h1.elim
  · have := h.size; omega⟩
theorem HR.beside {w w' : World} {S1 S2 : Nat → Prop} {g2 : Nat} {l2 : List UInt8} (h : HR w g2 S2 l2) (hk : Keeps w w' S1) (hd : ∀ k, S2 k → ¬ S1 k) : HR w' g2 S2 l2 := h.keeps hk hd
theorem more_apart {w w' : World} {S1 S2 : Nat → Prop} (hb : ∀ k, S2 k → k < w.heap.size) (hd : ∀ k, S2 k → ¬ S1 k) : ∀ k, S2 k → ¬ more S1 w w' k := fun k hk hm => by
  rcases hm with h | h
  · exact hd k hk h
  · have := hb k hk; omega
theorem more_apart' {w1 w2 w3 : World} {S : Nat → Prop} (hb : ∀ k, more S w1 w2 k → k < w2.heap.size) : ∀ k, more (fun _ => False) w2 w3 k → ¬ more S w1 w2 k := fun k hk hm => by
  rcases hk with h | h
  · exact h
  · have := hb k hm; omega
theorem apart_symm {S1 S2 : Nat → Prop} (hd : ∀ k, S2 k → ¬ S1 k) : ∀ k, S1 k → ¬ S2 k := fun k h1 h2 => hd k h2 h1
end Go.Proofs.Ytdpcahfgdpikfaa

/- Drawn regions of a class of worlds that only grow: short forms. No program in sight. -/
namespace Go.Proofs.Ytdpcahfgdpikfaa
open Go Go.RowKit
set_option linter.unusedVariables false
section
variable {P : Program} {l : List Oper} {C : World → Prop} {Q : Exit → (Nat → Value) → World → Prop} {e : Nat → Value} {w W : World}
theorem goY_mkE {t : Ty} (hC : C = fun v => Ext W v) (hx : Ext W w) (h : OY P l C Q t e w) : goY P l (fun C' => ∀ u, C' u → C u) Q t .normal e w := goY_mk (by rw [hC]; exact hx) h
theorem goY_dropE {t : Ty} (hC : C = fun v => Ext W v) (hx : Ext W w) (h : OY P l C Q t e w) : goY P l (fun _ => True) Q t .normal e w := goY_drop C (by rw [hC]; exact hx) h
theorem blkE {g : Nat} {T : TypeId} {cs : Array Value} (hC : C = fun v => Ext W v) (hb : Blk W g T cs) : ∀ v, C v → Blk v g T cs := fun v hv => by rw [hC] at hv; exact hb.ext hv
theorem cellE {ad : Addr} {u : Value} (hC : C = fun v => Ext W v) (hb : W.cell? ad = some u) : ∀ v, C v → v.cell? ad = some u := fun v hv => by rw [hC] at hv; exact hv.cell' hb
theorem inE (hC : C = fun v => Ext W v) : ∀ v, Ext W v → C v := fun v hv => by rw [hC]; exact hv
end
end Go.Proofs.Ytdpcahfgdpikfaa

/- Lists put together, of a literal list of lists. -/
namespace Go.Proofs.Ytdpcahfgdpikfaa
open Go Go.RowKit
set_option linter.unusedVariables false
theorem cat_lit (w : World) (g n c : Nat) {T : TypeId} (vs : List BV) (hb : Blk w g T (vs.map sv).toArray) (h : ∀ x ∈ vs, Bs w x.1 x.2.2) (hn : vs.length = n) (hm : n ≤ 1000) (hl : (flat vs).length ≤ 1000000) :
    Calls Try.prog 20 #[.slice (some ⟨g, 0, none⟩) n c] w (RetBs 5 w (flat vs)) := by
  subst hn
  exact cat_any w _ _ vs (by simpa using hb.rd) h (by omega) hl
theorem cat_lit1 {w : World} {g c : Nat} {T : TypeId} {A : Option Addr} {cA n : Nat} {a : List UInt8} (hb : Blk w g T #[.slice A n cA]) (ha : Bs w A a) (hn : a.length = n) (hl : a.length ≤ 1000000) :
    Calls Try.prog 20 #[.slice (some ⟨g, 0, none⟩) 1 c] w (RetBs 5 w a) := by
  subst hn
  have := cat_lit w g 1 c [(A, cA, a)] hb (by simpa using ha) rfl (by decide) (by simpa [flat] using hl)
  simpa [flat] using this
theorem cat_lit2 {w : World} {g c : Nat} {T : TypeId} {A B : Option Addr} {cA cB n m : Nat} {a b : List UInt8} (hb : Blk w g T #[.slice A n cA, .slice B m cB]) (ha : Bs w A a) (hn : a.length = n) (hB : Bs w B b) (hm : b.length = m) (hl : a.length + b.length ≤ 1000000) :
    Calls Try.prog 20 #[.slice (some ⟨g, 0, none⟩) 2 c] w (RetBs 5 w (a ++ b)) := by
  subst hn; subst hm
  have := cat_lit w g 2 c [(A, cA, a), (B, cB, b)] hb (by simp; exact ⟨ha, hB⟩) rfl (by decide) (by simpa [flat] using hl)
  simpa [flat] using this
theorem cat_lit3 {w : World} {g c : Nat} {T : TypeId} {A B D : Option Addr} {cA cB cD n m k : Nat} {a b d : List UInt8} (hb : Blk w g T #[.slice A n cA, .slice B m cB, .slice D k cD]) (ha : Bs w A a) (hn : a.length = n) (hB : Bs w B b) (hm : b.length = m) (hD : Bs w D d) (hk : d.length = k) (hl : a.length + (b.length + d.length) ≤ 1000000) :
    Calls Try.prog 20 #[.slice (some ⟨g, 0, none⟩) 3 c] w (RetBs 5 w (a ++ (b ++ d))) := by
  subst hn; subst hm; subst hk
  have := cat_lit w g 3 c [(A, cA, a), (B, cB, b), (D, cD, d)] hb (by simp; exact ⟨ha, hB, hD⟩) rfl (by decide) (by simpa [flat] using hl)
  simpa [flat] using this
theorem cat_lit4 {w : World} {g c : Nat} {T : TypeId} {A B D E : Option Addr} {cA cB cD cE n m k j : Nat} {a b d f : List UInt8} (hb : Blk w g T #[.slice A n cA, .slice B m cB, .slice D k cD, .slice E j cE]) (ha : Bs w A a) (hn : a.length = n) (hB : Bs w B b) (hm : b.length = m) (hD : Bs w D d) (hk : d.length = k) (hE : Bs w E f) (hj : f.length = j) (hl : a.length + (b.length + (d.length + f.length)) ≤ 1000000) :
    Calls Try.prog 20 #[.slice (some ⟨g, 0, none⟩) 4 c] w (RetBs 5 w (a ++ (b ++ (d ++ f)))) := by
  subst hn; subst hm; subst hk; subst hj
  have := cat_lit w g 4 c [(A, cA, a), (B, cB, b), (D, cD, d), (E, cE, f)] hb (by simp; exact ⟨ha, hB, hD, hE⟩) rfl (by decide) (by simpa [flat] using hl)
  simpa [flat] using this
end Go.Proofs.Ytdpcahfgdpikfaa

/- Walks: the HMAC, the program's and the reference's. -/
namespace Go.Proofs.Ytdpcahfgdpikfaa
open Go Go.RowKit
set_option linter.unusedVariables false
theorem go_Hm3 {A B : Prop} (h : Held B → A := by
  intro hEnd
  repeat (first | refine OW_sliceP h_slp_Tag rfl ?_ | (refine OW_isLoad ?_; refine OW_loadT s_agg_Tag rfl (by apply_assumption; assumption) (by assumption) ?_) | refine OW_moveV (.int _ _) rfl ?_ | refine OW_moveV (.slice _ _ _) rfl ?_ | refine OW_moveV (.bool _) rfl ?_ | refine OW_moveV (.pointer _) rfl ?_ | refine OW_moveV (.string _) rfl ?_ | refine OW_moveV (.agg _) rfl ?_ | refine OW_moveV (.tuple _) rfl ?_ | refine OW_nil ?_ | refine thenE_normal ?_ | refine CW_seq ?_ | refine CW_region (by kernel_rfl) ?_ | refine OW_assignV (.int _ _) rfl ?_ | refine OW_assignV (.slice _ _ _) rfl ?_ | refine OW_assignV (.bool _) rfl ?_ | refine OW_assignV (.pointer _) rfl ?_ | refine OW_assignV (.string _) rfl ?_ | refine OW_assignV (.agg _) rfl ?_ | refine OW_assignV (.tuple _) rfl ?_ | refine OW_addI rfl rfl (by omega) ?_ | refine OW_subI rfl rfl (by omega) ?_ | refine OW_mulI rfl rfl (by omega) ?_ | refine OW_lss rfl rfl ?_ | refine OW_extract rfl rfl ?_ | refine OW_gtr rfl rfl ?_ | refine OW_leq rfl rfl ?_ | refine OW_geq rfl rfl ?_ | refine OW_eql rfl rfl ?_ | refine OW_neq rfl rfl ?_ | refine OW_not rfl ?_ | refine OW_pickT rfl _ rfl ?_ | refine OW_pickF rfl (.bool _) rfl ?_ | refine OW_pickB rfl rfl rfl ?_ | refine OW_move ?_ | refine OW_assign ?_ | refine OW_pass rfl ?_ | refine OW_take rfl ?_ | refine OW_lenS (by first | with_reducible exact und_bytes | with_reducible exact und_bytess) rfl ?_ | refine OW_convInt (by first | with_reducible exact und_u8 | with_reducible exact und_u64 | with_reducible exact und_int | with_reducible exact und_u32) (by first | with_reducible exact und_u8 | with_reducible exact und_u64 | with_reducible exact und_int | with_reducible exact und_u32) rfl ?_ | refine OW_add rfl rfl ?_ | refine OW_sub rfl rfl ?_ | refine OW_mul rfl rfl ?_ | refine OW_min2 rfl rfl ?_ | refine OW_max2 rfl rfl ?_ | refine OW_neg rfl ?_ | refine CW_block ?_ | refine CW_condT rfl ?_ | refine CW_condF rfl ?_ | refine CW_exit ?_ | refine CW_ret ?_ | refine CW_skip ?_ | refine LW_seq ?_ | refine LW_regC ?_ | refine LW_condC ?_ | refine LW_regF ?_ | refine LW_condF ?_ | refine FW_seq ?_ | refine FW_region (by kernel_rfl) ?_ | refine FW_block ?_ | refine FW_condT rfl ?_ | refine FW_condF rfl ?_ | refine FW_exit ?_ | refine FW_ret ?_ | refine FW_skip ?_ | refine LW_ret ?_ | refine LW_skip ?_ | refine thenE_exit ?_ | refine thenE_ret ?_ | refine inBlockE_normal ?_ | refine inBlockE_same ?_ | refine inBlockE_ret ?_ | refine inBlockE_ne (by rfl) ?_ | refine OW_eqlB (by with_reducible exact und_bool) rfl rfl ?_ | refine OW_neqB (by with_reducible exact und_bool) rfl rfl ?_ | refine OW_idxS (by with_reducible exact und_bytes) one_u8 rfl rfl _ rfl (by omega) ?_ | refine OW_idxS (by with_reducible exact und_bytess) one_bytes rfl rfl _ rfl (by omega) ?_ | refine OW_load1 (by first | with_reducible exact one_u8 | with_reducible exact one_bytes) rfl _ (by assumption) ?_)
  exact hEnd.out) (k : B) : A := h ⟨k⟩
theorem oy_Hm3 {A B : Prop} (h : Held B → A := by
  intro hEnd
  repeat (first
    | refine OY_done ?_
    | (apply OY_p _ rfl
       · intro wd
         (first | refine OW_sliceP h_slp_Tag rfl ?_ | (refine OW_isLoad ?_; refine OW_loadT s_agg_Tag rfl (by apply_assumption; assumption) (by assumption) ?_) | refine OW_moveV (.int _ _) rfl ?_ | refine OW_moveV (.slice _ _ _) rfl ?_ | refine OW_moveV (.bool _) rfl ?_ | refine OW_moveV (.pointer _) rfl ?_ | refine OW_moveV (.string _) rfl ?_ | refine OW_moveV (.agg _) rfl ?_ | refine OW_moveV (.tuple _) rfl ?_ | refine OW_nil ?_ | refine thenE_normal ?_ | refine CW_seq ?_ | refine CW_region (by kernel_rfl) ?_ | refine OW_assignV (.int _ _) rfl ?_ | refine OW_assignV (.slice _ _ _) rfl ?_ | refine OW_assignV (.bool _) rfl ?_ | refine OW_assignV (.pointer _) rfl ?_ | refine OW_assignV (.string _) rfl ?_ | refine OW_assignV (.agg _) rfl ?_ | refine OW_assignV (.tuple _) rfl ?_ | refine OW_addI rfl rfl (by omega) ?_ | refine OW_subI rfl rfl (by omega) ?_ | refine OW_mulI rfl rfl (by omega) ?_ | refine OW_lss rfl rfl ?_ | refine OW_extract rfl rfl ?_ | refine OW_gtr rfl rfl ?_ | refine OW_leq rfl rfl ?_ | refine OW_geq rfl rfl ?_ | refine OW_eql rfl rfl ?_ | refine OW_neq rfl rfl ?_ | refine OW_not rfl ?_ | refine OW_pickT rfl _ rfl ?_ | refine OW_pickF rfl (.bool _) rfl ?_ | refine OW_pickB rfl rfl rfl ?_ | refine OW_move ?_ | refine OW_assign ?_ | refine OW_pass rfl ?_ | refine OW_take rfl ?_ | refine OW_lenS (by first | with_reducible exact und_bytes | with_reducible exact und_bytess) rfl ?_ | refine OW_convInt (by first | with_reducible exact und_u8 | with_reducible exact und_u64 | with_reducible exact und_int | with_reducible exact und_u32) (by first | with_reducible exact und_u8 | with_reducible exact und_u64 | with_reducible exact und_int | with_reducible exact und_u32) rfl ?_ | refine OW_add rfl rfl ?_ | refine OW_sub rfl rfl ?_ | refine OW_mul rfl rfl ?_ | refine OW_min2 rfl rfl ?_ | refine OW_max2 rfl rfl ?_ | refine OW_neg rfl ?_ | refine CW_block ?_ | refine CW_condT rfl ?_ | refine CW_condF rfl ?_ | refine CW_exit ?_ | refine CW_ret ?_ | refine CW_skip ?_ | refine LW_seq ?_ | refine LW_regC ?_ | refine LW_condC ?_ | refine LW_regF ?_ | refine LW_condF ?_ | refine FW_seq ?_ | refine FW_region (by kernel_rfl) ?_ | refine FW_block ?_ | refine FW_condT rfl ?_ | refine FW_condF rfl ?_ | refine FW_exit ?_ | refine FW_ret ?_ | refine FW_skip ?_ | refine LW_ret ?_ | refine LW_skip ?_ | refine thenE_exit ?_ | refine thenE_ret ?_ | refine inBlockE_normal ?_ | refine inBlockE_same ?_ | refine inBlockE_ret ?_ | refine inBlockE_ne (by rfl) ?_ | refine OW_eqlB (by with_reducible exact und_bool) rfl rfl ?_ | refine OW_neqB (by with_reducible exact und_bool) rfl rfl ?_ | refine OW_idxS (by with_reducible exact und_bytes) one_u8 rfl rfl _ rfl (by omega) ?_ | refine OW_idxS (by with_reducible exact und_bytess) one_bytes rfl rfl _ rfl (by omega) ?_ | refine OW_load1 (by first | with_reducible exact one_u8 | with_reducible exact one_bytes) rfl _ (by assumption) ?_)
         refine OW_nil ?_
         exact stay_mk _ _ _ _)
    | (apply OY_q _ rfl
       · intro wd hwd
         (first | refine OW_sliceP h_slp_Tag rfl ?_ | (refine OW_isLoad ?_; refine OW_loadT s_agg_Tag rfl (by apply_assumption; assumption) (by assumption) ?_) | refine OW_moveV (.int _ _) rfl ?_ | refine OW_moveV (.slice _ _ _) rfl ?_ | refine OW_moveV (.bool _) rfl ?_ | refine OW_moveV (.pointer _) rfl ?_ | refine OW_moveV (.string _) rfl ?_ | refine OW_moveV (.agg _) rfl ?_ | refine OW_moveV (.tuple _) rfl ?_ | refine OW_nil ?_ | refine thenE_normal ?_ | refine CW_seq ?_ | refine CW_region (by kernel_rfl) ?_ | refine OW_assignV (.int _ _) rfl ?_ | refine OW_assignV (.slice _ _ _) rfl ?_ | refine OW_assignV (.bool _) rfl ?_ | refine OW_assignV (.pointer _) rfl ?_ | refine OW_assignV (.string _) rfl ?_ | refine OW_assignV (.agg _) rfl ?_ | refine OW_assignV (.tuple _) rfl ?_ | refine OW_addI rfl rfl (by omega) ?_ | refine OW_subI rfl rfl (by omega) ?_ | refine OW_mulI rfl rfl (by omega) ?_ | refine OW_lss rfl rfl ?_ | refine OW_extract rfl rfl ?_ | refine OW_gtr rfl rfl ?_ | refine OW_leq rfl rfl ?_ | refine OW_geq rfl rfl ?_ | refine OW_eql rfl rfl ?_ | refine OW_neq rfl rfl ?_ | refine OW_not rfl ?_ | refine OW_pickT rfl _ rfl ?_ | refine OW_pickF rfl (.bool _) rfl ?_ | refine OW_pickB rfl rfl rfl ?_ | refine OW_move ?_ | refine OW_assign ?_ | refine OW_pass rfl ?_ | refine OW_take rfl ?_ | refine OW_lenS (by first | with_reducible exact und_bytes | with_reducible exact und_bytess) rfl ?_ | refine OW_convInt (by first | with_reducible exact und_u8 | with_reducible exact und_u64 | with_reducible exact und_int | with_reducible exact und_u32) (by first | with_reducible exact und_u8 | with_reducible exact und_u64 | with_reducible exact und_int | with_reducible exact und_u32) rfl ?_ | refine OW_add rfl rfl ?_ | refine OW_sub rfl rfl ?_ | refine OW_mul rfl rfl ?_ | refine OW_min2 rfl rfl ?_ | refine OW_max2 rfl rfl ?_ | refine OW_neg rfl ?_ | refine CW_block ?_ | refine CW_condT rfl ?_ | refine CW_condF rfl ?_ | refine CW_exit ?_ | refine CW_ret ?_ | refine CW_skip ?_ | refine LW_seq ?_ | refine LW_regC ?_ | refine LW_condC ?_ | refine LW_regF ?_ | refine LW_condF ?_ | refine FW_seq ?_ | refine FW_region (by kernel_rfl) ?_ | refine FW_block ?_ | refine FW_condT rfl ?_ | refine FW_condF rfl ?_ | refine FW_exit ?_ | refine FW_ret ?_ | refine FW_skip ?_ | refine LW_ret ?_ | refine LW_skip ?_ | refine thenE_exit ?_ | refine thenE_ret ?_ | refine inBlockE_normal ?_ | refine inBlockE_same ?_ | refine inBlockE_ret ?_ | refine inBlockE_ne (by rfl) ?_ | refine OW_eqlB (by with_reducible exact und_bool) rfl rfl ?_ | refine OW_neqB (by with_reducible exact und_bool) rfl rfl ?_ | refine OW_idxS (by with_reducible exact und_bytes) one_u8 rfl rfl _ rfl (by omega) ?_ | refine OW_idxS (by with_reducible exact und_bytess) one_bytes rfl rfl _ rfl (by omega) ?_ | refine OW_load1 (by first | with_reducible exact one_u8 | with_reducible exact one_bytes) rfl _ (by assumption) ?_ | (refine OW_isLoad ?_; refine OW_loadBk (by first | with_reducible exact one_u8 | with_reducible exact one_bytes | with_reducible exact one_bool | with_reducible exact one_int | with_reducible exact one_errno | with_reducible exact one_u32 | with_reducible exact one_u64 | with_reducible exact one_string) rfl (by apply_assumption; assumption) _ (by first | assumption | rfl) ?_) | refine OW_load1 (by first | with_reducible exact one_u8 | with_reducible exact one_bytes | with_reducible exact one_bool | with_reducible exact one_int | with_reducible exact one_errno | with_reducible exact one_u32 | with_reducible exact one_u64 | with_reducible exact one_string) rfl _ (by apply_assumption; assumption) ?_)
         refine OW_nil ?_
         exact stay_mk _ _ _ _)
    | refine OY_ppass rfl rfl ?_
    | refine OY_qpass rfl rfl ?_
    | (apply OY_ptake _ rfl rfl
       · intro wd
         (first | refine OW_sliceP h_slp_Tag rfl ?_ | (refine OW_isLoad ?_; refine OW_loadT s_agg_Tag rfl (by apply_assumption; assumption) (by assumption) ?_) | refine OW_moveV (.int _ _) rfl ?_ | refine OW_moveV (.slice _ _ _) rfl ?_ | refine OW_moveV (.bool _) rfl ?_ | refine OW_moveV (.pointer _) rfl ?_ | refine OW_moveV (.string _) rfl ?_ | refine OW_moveV (.agg _) rfl ?_ | refine OW_moveV (.tuple _) rfl ?_ | refine OW_nil ?_ | refine thenE_normal ?_ | refine CW_seq ?_ | refine CW_region (by kernel_rfl) ?_ | refine OW_assignV (.int _ _) rfl ?_ | refine OW_assignV (.slice _ _ _) rfl ?_ | refine OW_assignV (.bool _) rfl ?_ | refine OW_assignV (.pointer _) rfl ?_ | refine OW_assignV (.string _) rfl ?_ | refine OW_assignV (.agg _) rfl ?_ | refine OW_assignV (.tuple _) rfl ?_ | refine OW_addI rfl rfl (by omega) ?_ | refine OW_subI rfl rfl (by omega) ?_ | refine OW_mulI rfl rfl (by omega) ?_ | refine OW_lss rfl rfl ?_ | refine OW_extract rfl rfl ?_ | refine OW_gtr rfl rfl ?_ | refine OW_leq rfl rfl ?_ | refine OW_geq rfl rfl ?_ | refine OW_eql rfl rfl ?_ | refine OW_neq rfl rfl ?_ | refine OW_not rfl ?_ | refine OW_pickT rfl _ rfl ?_ | refine OW_pickF rfl (.bool _) rfl ?_ | refine OW_pickB rfl rfl rfl ?_ | refine OW_move ?_ | refine OW_assign ?_ | refine OW_pass rfl ?_ | refine OW_take rfl ?_ | refine OW_lenS (by first | with_reducible exact und_bytes | with_reducible exact und_bytess) rfl ?_ | refine OW_convInt (by first | with_reducible exact und_u8 | with_reducible exact und_u64 | with_reducible exact und_int | with_reducible exact und_u32) (by first | with_reducible exact und_u8 | with_reducible exact und_u64 | with_reducible exact und_int | with_reducible exact und_u32) rfl ?_ | refine OW_add rfl rfl ?_ | refine OW_sub rfl rfl ?_ | refine OW_mul rfl rfl ?_ | refine OW_min2 rfl rfl ?_ | refine OW_max2 rfl rfl ?_ | refine OW_neg rfl ?_ | refine CW_block ?_ | refine CW_condT rfl ?_ | refine CW_condF rfl ?_ | refine CW_exit ?_ | refine CW_ret ?_ | refine CW_skip ?_ | refine LW_seq ?_ | refine LW_regC ?_ | refine LW_condC ?_ | refine LW_regF ?_ | refine LW_condF ?_ | refine FW_seq ?_ | refine FW_region (by kernel_rfl) ?_ | refine FW_block ?_ | refine FW_condT rfl ?_ | refine FW_condF rfl ?_ | refine FW_exit ?_ | refine FW_ret ?_ | refine FW_skip ?_ | refine LW_ret ?_ | refine LW_skip ?_ | refine thenE_exit ?_ | refine thenE_ret ?_ | refine inBlockE_normal ?_ | refine inBlockE_same ?_ | refine inBlockE_ret ?_ | refine inBlockE_ne (by rfl) ?_ | refine OW_eqlB (by with_reducible exact und_bool) rfl rfl ?_ | refine OW_neqB (by with_reducible exact und_bool) rfl rfl ?_ | refine OW_idxS (by with_reducible exact und_bytes) one_u8 rfl rfl _ rfl (by omega) ?_ | refine OW_idxS (by with_reducible exact und_bytess) one_bytes rfl rfl _ rfl (by omega) ?_ | refine OW_load1 (by first | with_reducible exact one_u8 | with_reducible exact one_bytes) rfl _ (by assumption) ?_)
         refine OW_nil ?_
         exact stay_mk _ _ _ _)
    | (apply OY_qtake _ rfl rfl
       · intro wd hwd
         (first | refine OW_sliceP h_slp_Tag rfl ?_ | (refine OW_isLoad ?_; refine OW_loadT s_agg_Tag rfl (by apply_assumption; assumption) (by assumption) ?_) | refine OW_moveV (.int _ _) rfl ?_ | refine OW_moveV (.slice _ _ _) rfl ?_ | refine OW_moveV (.bool _) rfl ?_ | refine OW_moveV (.pointer _) rfl ?_ | refine OW_moveV (.string _) rfl ?_ | refine OW_moveV (.agg _) rfl ?_ | refine OW_moveV (.tuple _) rfl ?_ | refine OW_nil ?_ | refine thenE_normal ?_ | refine CW_seq ?_ | refine CW_region (by kernel_rfl) ?_ | refine OW_assignV (.int _ _) rfl ?_ | refine OW_assignV (.slice _ _ _) rfl ?_ | refine OW_assignV (.bool _) rfl ?_ | refine OW_assignV (.pointer _) rfl ?_ | refine OW_assignV (.string _) rfl ?_ | refine OW_assignV (.agg _) rfl ?_ | refine OW_assignV (.tuple _) rfl ?_ | refine OW_addI rfl rfl (by omega) ?_ | refine OW_subI rfl rfl (by omega) ?_ | refine OW_mulI rfl rfl (by omega) ?_ | refine OW_lss rfl rfl ?_ | refine OW_extract rfl rfl ?_ | refine OW_gtr rfl rfl ?_ | refine OW_leq rfl rfl ?_ | refine OW_geq rfl rfl ?_ | refine OW_eql rfl rfl ?_ | refine OW_neq rfl rfl ?_ | refine OW_not rfl ?_ | refine OW_pickT rfl _ rfl ?_ | refine OW_pickF rfl (.bool _) rfl ?_ | refine OW_pickB rfl rfl rfl ?_ | refine OW_move ?_ | refine OW_assign ?_ | refine OW_pass rfl ?_ | refine OW_take rfl ?_ | refine OW_lenS (by first | with_reducible exact und_bytes | with_reducible exact und_bytess) rfl ?_ | refine OW_convInt (by first | with_reducible exact und_u8 | with_reducible exact und_u64 | with_reducible exact und_int | with_reducible exact und_u32) (by first | with_reducible exact und_u8 | with_reducible exact und_u64 | with_reducible exact und_int | with_reducible exact und_u32) rfl ?_ | refine OW_add rfl rfl ?_ | refine OW_sub rfl rfl ?_ | refine OW_mul rfl rfl ?_ | refine OW_min2 rfl rfl ?_ | refine OW_max2 rfl rfl ?_ | refine OW_neg rfl ?_ | refine CW_block ?_ | refine CW_condT rfl ?_ | refine CW_condF rfl ?_ | refine CW_exit ?_ | refine CW_ret ?_ | refine CW_skip ?_ | refine LW_seq ?_ | refine LW_regC ?_ | refine LW_condC ?_ | refine LW_regF ?_ | refine LW_condF ?_ | refine FW_seq ?_ | refine FW_region (by kernel_rfl) ?_ | refine FW_block ?_ | refine FW_condT rfl ?_ | refine FW_condF rfl ?_ | refine FW_exit ?_ | refine FW_ret ?_ | refine FW_skip ?_ | refine LW_ret ?_ | refine LW_skip ?_ | refine thenE_exit ?_ | refine thenE_ret ?_ | refine inBlockE_normal ?_ | refine inBlockE_same ?_ | refine inBlockE_ret ?_ | refine inBlockE_ne (by rfl) ?_ | refine OW_eqlB (by with_reducible exact und_bool) rfl rfl ?_ | refine OW_neqB (by with_reducible exact und_bool) rfl rfl ?_ | refine OW_idxS (by with_reducible exact und_bytes) one_u8 rfl rfl _ rfl (by omega) ?_ | refine OW_idxS (by with_reducible exact und_bytess) one_bytes rfl rfl _ rfl (by omega) ?_ | refine OW_load1 (by first | with_reducible exact one_u8 | with_reducible exact one_bytes) rfl _ (by assumption) ?_ | (refine OW_isLoad ?_; refine OW_loadBk (by first | with_reducible exact one_u8 | with_reducible exact one_bytes | with_reducible exact one_bool | with_reducible exact one_int | with_reducible exact one_errno | with_reducible exact one_u32 | with_reducible exact one_u64 | with_reducible exact one_string) rfl (by apply_assumption; assumption) _ (by first | assumption | rfl) ?_) | refine OW_load1 (by first | with_reducible exact one_u8 | with_reducible exact one_bytes | with_reducible exact one_bool | with_reducible exact one_int | with_reducible exact one_errno | with_reducible exact one_u32 | with_reducible exact one_u64 | with_reducible exact one_string) rfl _ (by apply_assumption; assumption) ?_)
         refine OW_nil ?_
         exact stay_mk _ _ _ _)
    | refine OY_a (actY_of rfl ?_)
    | refine OY_d (actY_of rfl ?_)
    | refine OY_a (actY_pass rfl rfl ?_)
    | refine OY_d (actY_pass rfl rfl ?_)
    | refine OY_a (actY_take rfl rfl ?_)
    | refine OY_d (actY_take rfl rfl ?_))
  exact hEnd.out) (k : B) : A := h ⟨k⟩
set_option maxHeartbeats 8000000 in
theorem hmacSum_any (w : World) (A B : Option Addr) (cA cB : Nat) (key b : List UInt8) (ha : Bs w A key) (hca : key.length ≤ cA) (hla : key.length ≤ 100000) (hb : Bs w B b) (hlb : b.length ≤ 100000) :
    Calls Try.prog 18 #[.slice A key.length cA, .slice B b.length cB] w (RetV w (.agg ((hmacL key b).map bv).toArray)) := by
  have hBl := keyB_length key
  obtain ⟨K, hK⟩ : ∃ K, keyB key = K := ⟨_, rfl⟩
  obtain ⟨X, hX⟩ : ∃ X, xorB 54 K = X := ⟨_, rfl⟩
  obtain ⟨Y, hY⟩ : ∃ Y, xorB 92 K = Y := ⟨_, rfl⟩
  obtain ⟨inner, hin⟩ : ∃ inner, shaL (X ++ b) = inner := ⟨_, rfl⟩
  obtain ⟨out, hout⟩ : ∃ out, shaL (Y ++ inner) = out := ⟨_, rfl⟩
  have hfin : hmacL key b = out := by rw [← hout, ← hin, ← hX, ← hY, ← hK]; rfl
  have hXl : X.length = 64 := by rw [← hX, xorB_length, ← hK]; exact hBl
  have hYl : Y.length = 64 := by rw [← hY, xorB_length, ← hK]; exact hBl
  have hinl : inner.length = 32 := by rw [← hin]; exact shaL_length _
  have hol : out.length = 32 := by rw [← hout]; exact shaL_length _
  have hKl : K.length = 64 := by rw [← hK]; exact hBl
  have hblk := fun w1 (hx : Ext w w1) => hblocks_any w1 A cA key (ha.ext hx) hca (by omega)
  have hb1 : ∀ (w2 : World) (x : UInt8) (xi : Int) (gk : Nat) (Ak : Option Addr) (ck : Nat), (x.toNat : Int) = xi → Blk w2 gk 22 #[.slice Ak K.length ck] → Bs w2 Ak K → Calls Try.prog 101 ([Value.int .u8 xi] ++ [Value.pointer (some ⟨gk, 0, none⟩)]).toArray w2 (RetBs 5 w2 (xorB x K)) := fun w2 x xi gk Ak ck hxi hbk hbsk => by
    subst hxi
    have h := hb1_any w2 x gk Ak ck K hbk hbsk (by omega)
    rw [show (#[.int .u8 (x.toNat : Int), .pointer (some ⟨gk, 0, none⟩)] : Array Value) = ([Value.int .u8 (x.toNat : Int)] ++ [Value.pointer (some ⟨gk, 0, none⟩)]).toArray from rfl] at h
    exact h
  have hs1 := fun w5 A5 c5 (hf5 : Bs w5 A5 (X ++ b)) => shaSum_any w5 A5 c5 (X ++ b) hf5 (by rw [List.length_append]; omega)
  have hs2 := fun w5 A5 c5 (hf5 : Bs w5 A5 (Y ++ inner)) => shaSum_any w5 A5 c5 (Y ++ inner) hf5 (by rw [List.length_append]; omega)
  rw [hK] at hblk
  rw [hin] at hs1
  rw [hout] at hs2
  rw [hfin]
  clear hfin hin hout hBl hK
  have hca2 : ∀ {w4 : World} {g3 c : Nat} {T : TypeId} {A3 : Option Addr} {c3 : Nat}, Blk w4 g3 T #[.slice A3 X.length c3, .slice B b.length cB] → Bs w4 A3 X → Bs w4 B b → Calls Try.prog 20 #[.slice (some ⟨g3, 0, none⟩) 2 c] w4 (RetBs 5 w4 (X ++ b)) := fun h1 h2 h3 => cat_lit2 h1 h2 rfl h3 rfl (by omega)
  have hca3 : ∀ {w4 : World} {g3 c : Nat} {T : TypeId} {A3 : Option Addr} {c3 g : Nat}, Blk w4 g3 T #[.slice A3 Y.length c3, .slice (some ⟨g, 0, none⟩) 32 32] → Bs w4 A3 Y → Bs w4 (some ⟨g, 0, none⟩) inner → Calls Try.prog 20 #[.slice (some ⟨g3, 0, none⟩) 2 c] w4 (RetBs 5 w4 (Y ++ inner)) := fun h1 h2 h3 => cat_lit2 h1 h2 rfl h3 hinl (by omega)
  clear ha hca hla
  refine calls_of_CW Try.func18 rfl (by simp [Try.ntmps18]) ?_
  rw [Try.ntmps18]
  refine go_Hm3 (k := ?_)
  refine OW_allocA s_agg_Tag ?_
  intro w1 g4 hb4 hg4 hl4 hx1
  refine go_Hm3 (k := ?_)
  refine OW_callC Try.func67 (by kernel_rfl) rfl (hblk w1 hx1) rfl ?_
  rintro en w2 ⟨gk, Ak, ck, rfl, hbk, hbsk, hx2⟩
  refine ⟨_, rfl, ?_⟩
  have hx02 := hx1.trans' hx2
  refine go_Hm3 (k := ?_)
  refine OW_callF Try.func101 (args' := [.int .u8 54]) (caps := [.pointer (some ⟨gk, 0, none⟩)]) (by kernel_rfl) rfl rfl (hb1 w2 54 54 gk Ak ck (by decide) hbk hbsk) rfl ?_
  rintro en w3 ⟨A3, c3, rfl, hf3⟩
  refine ⟨_, rfl, ?_⟩
  rw [hX] at hf3 ⊢
  have hx03 := hx02.trans' hf3.ext
  refine go_Hm3 (k := ?_)
  refine OW_lit [.slice A3 X.length c3, .slice B b.length cB] und_bytess info_bytes rfl rfl (by simp [Value.oneCell']) (by decide) ?_
  intro w4 g3 hb3 hg3 hx4
  refine go_Hm3 (k := ?_)
  refine OW_callBs Try.func20 (by kernel_rfl) rfl (hca2 hb3 (hf3.bs.ext hx4) (hb.ext (hx03.trans' hx4))) rfl ?_
  intro w5 A5 c5 hf5
  refine go_Hm3 (k := ?_)
  refine OW_callV Try.func19 (by kernel_rfl) rfl (hs1 w5 A5 c5 hf5.bs) rfl ?_
  intro w6 hx6
  refine go_Hm3 (k := ?_)
  refine OW_allocA s_agg_Tag ?_
  intro w7 g6 hb6 hg6 hl6 hx7
  have hilen : (inner.map bv).length = 32 := by rw [List.length_map, hinl]
  refine go_Hm3 (k := ?_)
  refine OW_storeA s_agg_Tag rfl (inner.map bv) rfl hilen hb6 rfl (bv_one _) ?_
  intro w8 hb8 hgr8
  have hx26 : Ext w2 w6 := ((hf3.ext.trans' hx4).trans' hf5.ext).trans' hx6
  have hx28 : Ext w2 w8 := below_only (hx26.trans' hx7) hgr8 (by have := hx26.size; omega) (hx26.trans' hx7).size
  have hx08 := hx02.trans' hx28
  have hbk8 := hbk.ext hx28
  have hbsk8 := hbsk.ext hx28
  have hb48 := (hb4.ext hx2).ext hx28
  have hi8 := bs_row hb8
  refine go_Hm3 (k := ?_)
  obtain ⟨C, hC⟩ : ∃ C : World → Prop, C = fun v => Ext w8 v := ⟨_, rfl⟩
  refine CW_tree2 [] (.p 0 (.p 2 (.d 1 (.d 3 (.d 4 (.d 5 (.d 6 .done))))))) (C) (by kernel_rfl) (by kernel_rfl) (by kernel_rfl) ?_ ?_
  · exact inE hC
  intro w9 hx9 h_C
  refine oy_Hm3 (k := ?_)
  refine OW_callF Try.func101 (args' := [.int .u8 92]) (caps := [.pointer (some ⟨gk, 0, none⟩)]) (by kernel_rfl) rfl rfl (hb1 w9 92 92 gk Ak ck (by decide) (hbk8.ext hx9) (hbsk8.ext hx9)) rfl ?_
  rintro en w10 ⟨A10, c10, rfl, hf10⟩
  refine ⟨_, rfl, ?_⟩
  rw [hY] at hf10 ⊢
  have hx10 := hx9.trans' hf10.ext
  first | refine OW_nil (goY_mkE hC (hx10) ?_) | refine OW_nil (goY_dropE hC (hx10) ?_)
  refine oy_Hm3 (k := ?_)
  refine OW_lit [.slice A10 Y.length c10, .slice (some ⟨g6, 0, none⟩) 32 32] und_bytess info_bytes rfl rfl (by simp [Value.oneCell']) (by decide) ?_
  intro w11 g11 hb11 hg11 hx11
  first | refine OW_nil (goY_mkE hC (hx10.trans' hx11) ?_) | refine OW_nil (goY_dropE hC (hx10.trans' hx11) ?_)
  refine oy_Hm3 (k := ?_)
  refine OW_callBs Try.func20 (by kernel_rfl) rfl (hca3 hb11 (hf10.bs.ext hx11) (hi8.ext (hx10.trans' hx11))) rfl ?_
  intro w12 A12 c12 hf12
  have hx12 := (hx10.trans' hx11).trans' hf12.ext
  first | refine OW_nil (goY_mkE hC (hx12) ?_) | refine OW_nil (goY_dropE hC (hx12) ?_)
  refine oy_Hm3 (k := ?_)
  refine OW_callV Try.func19 (by kernel_rfl) rfl (hs2 w12 A12 c12 hf12.bs) rfl ?_
  intro w13 hx13
  have hx13' := hx12.trans' hx13
  first | refine OW_nil (goY_mkE hC (hx13') ?_) | refine OW_nil (goY_dropE hC (hx13') ?_)
  refine oy_Hm3 (k := ?_)
  have holen : (out.map bv).length = 32 := by rw [List.length_map, hol]
  refine OW_storeA s_agg_Tag rfl (out.map bv) rfl holen (hb48.ext hx13') rfl (bv_one _) ?_
  intro w14 hb14 hgr14
  have hx013 := hx08.trans' hx13'
  refine OW_nil (goY_done ?_)
  refine go_Hm3 (k := ?_)
  exact bodyE_retc rfl s_agg_Tag rfl (out.map bv) holen hb14.range ⟨rfl, below_only hx013 hgr14 hg4 hx013.size⟩
set_option maxHeartbeats 8000000 in
theorem refHSum_any (w : World) (A B : Option Addr) (cA cB : Nat) (key b : List UInt8) (ha : Bs w A key) (hla : key.length ≤ 90000) (hb : Bs w B b) (hlb : b.length ≤ 90000) :
    Calls Try.prog 81 #[.slice A key.length cA, .slice B b.length cB] w (RetV w (.agg ((hmacL key b).map bv).toArray)) := by
  have hBl := keyB_length key
  obtain ⟨X, hX⟩ : ∃ X, xorB 54 (keyB key) = X := ⟨_, rfl⟩
  obtain ⟨Y, hY⟩ : ∃ Y, xorB 92 (keyB key) = Y := ⟨_, rfl⟩
  obtain ⟨inner, hin⟩ : ∃ inner, shaL (X ++ b) = inner := ⟨_, rfl⟩
  obtain ⟨out, hout⟩ : ∃ out, shaL (Y ++ inner) = out := ⟨_, rfl⟩
  have hfin : hmacL key b = out := by rw [← hout, ← hin, ← hX, ← hY]; rfl
  have hXl : X.length = 64 := by rw [← hX, xorB_length]; exact hBl
  have hYl : Y.length = 64 := by rw [← hY, xorB_length]; exact hBl
  have hinl : inner.length = 32 := by rw [← hin]; exact shaL_length _
  have hol : out.length = 32 := by rw [← hout]; exact shaL_length _
  have hb1 := fun (w2 : World) (hx : Ext w w2) => refBlock_any w2 A cA key 54 (ha.ext hx) (by omega)
  have hb2 := fun (w2 : World) (hx : Ext w w2) => refBlock_any w2 A cA key 92 (ha.ext hx) (by omega)
  have hs1 := fun w5 A5 c5 (hf5 : Bs w5 A5 (X ++ b)) => refSum_any w5 A5 c5 (X ++ b) hf5 (by rw [List.length_append]; omega)
  have hs2 := fun w5 A5 c5 (hf5 : Bs w5 A5 (Y ++ inner)) => refSum_any w5 A5 c5 (Y ++ inner) hf5 (by rw [List.length_append]; omega)
  have hct := fun w2 A2 c2 (hf2 : Bs w2 A2 X) (hb2 : Bs w2 B b) => refCat_any w2 A2 B X b c2 cB hf2 hb2 (by omega)
  have hct2 := fun w2 A2 c2 A3 c3 (hf2 : Bs w2 A2 Y) (hb2 : Bs w2 A3 inner) => refCat_any w2 A2 A3 Y inner c2 c3 hf2 hb2 (by omega)
  rw [hX] at hb1
  rw [hY] at hb2
  rw [hin] at hs1
  rw [hout] at hs2
  rw [hfin]
  clear hfin hin hout hBl ha hla
  refine calls_of_CW Try.func81 rfl (by simp [Try.ntmps81]) ?_
  rw [Try.ntmps81]
  refine go_Hm3 (k := ?_)
  refine OW_allocA s_agg_Tag ?_
  intro w1 g4 hb4 hg4 hl4 hx1
  refine go_Hm3 (k := ?_)
  refine OW_callBs Try.func104 (by kernel_rfl) rfl (hb1 w1 hx1) rfl ?_
  intro w2 A2 c2 hf2
  have hx02 := hx1.trans' hf2.ext
  refine go_Hm3 (k := ?_)
  refine OW_callBs Try.func74 (by kernel_rfl) rfl (hct w2 A2 c2 hf2.bs (hb.ext hx02)) rfl ?_
  intro w3 A3 c3 hf3
  refine go_Hm3 (k := ?_)
  refine OW_callV Try.func24 (by kernel_rfl) rfl (hs1 w3 A3 c3 hf3.bs) rfl ?_
  intro w4 hx4
  refine go_Hm3 (k := ?_)
  refine OW_allocA s_agg_Tag ?_
  intro w5 g5 hb5 hg5 hl5 hx5
  have hilen : (inner.map bv).length = 32 := by rw [List.length_map, hinl]
  refine go_Hm3 (k := ?_)
  refine OW_storeA s_agg_Tag rfl (inner.map bv) rfl hilen hb5 rfl (bv_one _) ?_
  intro w6 hb6 hgr6
  have hx14 : Ext w1 w4 := (hf2.ext.trans' hf3.ext).trans' hx4
  have hx16 : Ext w1 w6 := below_only (hx14.trans' hx5) hgr6 (by have := hx14.size; omega) (hx14.trans' hx5).size
  have hx06 := hx1.trans' hx16
  have hb46 := hb4.ext hx16
  refine go_Hm3 (k := ?_)
  obtain ⟨C, hC⟩ : ∃ C : World → Prop, C = fun v => Ext w6 v := ⟨_, rfl⟩
  have y_hb6 := blkE hC hb6
  refine CW_tree2 [2] (.p 0 (.q 2 (.a 1 (.d 3 (.d 4 (.d 5 (.d 6 .done))))))) (C) (by kernel_rfl) (by kernel_rfl) (by kernel_rfl) ?_ ?_
  · exact inE hC
  intro w9 hx9 h_C
  refine oy_Hm3 (k := ?_)
  refine OW_callBs Try.func104 (by kernel_rfl) rfl (hb2 w9 (hx06.trans' hx9)) rfl ?_
  intro w10 A10 c10 hf10
  have hx10 := hx9.trans' hf10.ext
  first | refine OW_nil (goY_mkE hC (hx10) ?_) | refine OW_nil (goY_dropE hC (hx10) ?_)
  refine oy_Hm3 (k := ?_)
  refine OW_callBs Try.func105 (by kernel_rfl) rfl (refBytes_any w10 inner hinl) rfl ?_
  intro w11 A11 c11 hf11
  have hx11 := hx10.trans' hf11.ext
  first | refine OW_nil (goY_mkE hC (hx11) ?_) | refine OW_nil (goY_dropE hC (hx11) ?_)
  refine oy_Hm3 (k := ?_)
  refine OW_callBs Try.func74 (by kernel_rfl) rfl (hct2 w11 A10 c10 A11 c11 (hf10.bs.ext hf11.ext) hf11.bs) rfl ?_
  intro w12 A12 c12 hf12
  have hx12 := hx11.trans' hf12.ext
  first | refine OW_nil (goY_mkE hC (hx12) ?_) | refine OW_nil (goY_dropE hC (hx12) ?_)
  refine oy_Hm3 (k := ?_)
  refine OW_callV Try.func24 (by kernel_rfl) rfl (hs2 w12 A12 c12 hf12.bs) rfl ?_
  intro w13 hx13
  have hx13' := hx12.trans' hx13
  first | refine OW_nil (goY_mkE hC (hx13') ?_) | refine OW_nil (goY_dropE hC (hx13') ?_)
  refine oy_Hm3 (k := ?_)
  have holen : (out.map bv).length = 32 := by rw [List.length_map, hol]
  refine OW_storeA s_agg_Tag rfl (out.map bv) rfl holen (hb46.ext hx13') rfl (bv_one _) ?_
  intro w14 hb14 hgr14
  have hx013 := hx06.trans' hx13'
  refine OW_nil (goY_done ?_)
  refine go_Hm3 (k := ?_)
  exact bodyE_retc rfl s_agg_Tag rfl (out.map bv) holen hb14.range ⟨rfl, below_only hx013 hgr14 hg4 hx013.size⟩
end Go.Proofs.Ytdpcahfgdpikfaa

/- A number's own bits. No program in sight. -/
namespace Go.Proofs.Ytdpcahfgdpikfaa
open Go Go.RowKit
/-- A number's own 64 bits. -/
def u64N (n : Int) : Nat := (n % 18446744073709551616).toNat
theorem u64N_lt (n : Int) : u64N n < 18446744073709551616 := by unfold u64N; omega
theorem wrap_u64I (n : Int) : IntKind.u64.wrap n = (u64N n : Int) := by
  have h : IntKind.u64.wrap n = n % 18446744073709551616 := by simp [IntKind.wrap, IntKind.signed, IntKind.bits]
  rw [h]; unfold u64N; omega
def u32N (n : Int) : Nat := (n % 4294967296).toNat
theorem u32N_lt (n : Int) : u32N n < 4294967296 := by unfold u32N; omega
theorem wrap_u32I (n : Int) : IntKind.u32.wrap n = (u32N n : Int) := by
  have h : IntKind.u32.wrap n = n % 4294967296 := by simp [IntKind.wrap, IntKind.signed, IntKind.bits]
  rw [h]; unfold u32N; omega
/-- Numbers, one behind the other. -/
def numsB (l : List Int) : List UInt8 := (l.map fun n => putL (u64N n) 8).flatten
theorem numsB_length (l : List Int) : (numsB l).length = 8 * l.length := by
  induction l with
  | nil => rfl
  | cons n l ih => simp only [numsB, List.map_cons, List.flatten_cons, List.length_append, putL_length, List.length_cons] at ih ⊢; omega
theorem numsB_snoc (l : List Int) (n : Int) : numsB (l ++ [n]) = numsB l ++ putL (u64N n) 8 := by simp [numsB]
def iv (n : Int) : Value := .int .i64 n
end Go.Proofs.Ytdpcahfgdpikfaa
