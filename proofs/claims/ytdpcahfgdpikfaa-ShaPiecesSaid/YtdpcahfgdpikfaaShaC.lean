/- SHA-256 computed: the same numbers, each forced before the next step, so that the kernel can compute them. No program in sight. -/
import Derived.Test.YtdpcahfgdpikfaaShaP
namespace Go.Proofs.Ytdpcahfgdpikfaa
open Go Go.RowKit
set_option linter.unusedVariables false
universe u
def force {α : Type u} (x : Nat) (k : Nat → α) : α := match x with
  | 0 => k 0
  | n + 1 => k (n + 1)
theorem force_eq {α : Type u} (x : Nat) (k : Nat → α) : force x k = k x := by cases x <;> rfl
def turnN (x a b c : Nat) : Nat := (rotS x a ^^^ rotS x b) ^^^ rotS x c
def smallN (x a b c : Nat) : Nat := (rotS x a ^^^ rotS x b) ^^^ (x / 2 ^ c)
theorem turnN_eq (x : UInt32) {a b c : Nat} (ha : a ≤ 32) (hb : b ≤ 32) (hc : c ≤ 32) : (turnU x a b c).toNat = turnN x.toNat a b c := by
  unfold turnU turnN
  rw [UInt32.toNat_xor, UInt32.toNat_xor, rotU_nat x ha, rotU_nat x hb, rotU_nat x hc]
theorem smallN_eq (x : UInt32) {a b c : Nat} (ha : a ≤ 32) (hb : b ≤ 32) : (smallU x a b c).toNat = smallN x.toNat a b c := by
  unfold smallU smallN
  rw [UInt32.toNat_xor, UInt32.toNat_xor, rotU_nat x ha, rotU_nat x hb, shU_nat]
theorem notN_eq (x : UInt32) : (~~~ x).toNat = 4294967295 - x.toNat := by
  have := u32_lt x
  rw [UInt32.toNat_not]
  rfl
def wN (ws : List UInt32) : List Nat := ws.map UInt32.toNat
theorem ldV_lt4 (b : List UInt8) (at_ : Int) : ldV b at_ 4 < 4294967296 := by
  unfold ldV ldL
  split
  · have := loadL_lt ((b.drop at_.toNat).take 4)
    have hl : ((b.drop at_.toNat).take 4).length ≤ 4 := by rw [List.length_take]; omega
    have h2 : 256 ^ ((b.drop at_.toNat).take 4).length ≤ 256 ^ 4 := Nat.pow_le_pow_right (by decide) hl
    simp only [Option.getD_some]
    omega
  · decide
/-- The first sixteen, the latest first. -/
def fstF {α : Type u} : Nat → Nat → List UInt8 → List Nat → (List Nat → α) → α
  | 0, _, _, ws, k => k ws
  | n + 1, t, b, ws, k => force (ldV b ((4 * t : Nat) : Int) 4) fun x => fstF n (t + 1) b (x :: ws) k
theorem fstF_eq {α : Type u} (b : List UInt8) (k : List Nat → α) : ∀ n t, t + n ≤ 16 → fstF n t b (wN (sch b t)).reverse k = k (wN (sch b (t + n))).reverse
  | 0, t, _ => rfl
  | n + 1, t, h => by
    unfold fstF
    rw [force_eq]
    have h1 : ldV b ((4 * t : Nat) : Int) 4 :: (wN (sch b t)).reverse = (wN (sch b (t + 1))).reverse := by
      have h2 : (nxt b (sch b t) t).toNat = ldV b ((4 * t : Nat) : Int) 4 := by
        unfold nxt
        rw [if_pos (by omega), UInt32.toNat_ofNat']
        exact Nat.mod_eq_of_lt (ldV_lt4 b _)
      simp [sch, wN, h2]
    rw [h1, fstF_eq b k n (t + 1) (by omega), show t + 1 + n = t + (n + 1) by omega]
def schF {α : Type u} : Nat → List Nat → (List Nat → α) → α
  | 0, ws, k => k ws
  | n + 1, ws, k => force ((((smallN (ws.getD 1 0) 17 19 10 + ws.getD 6 0) % 4294967296 + smallN (ws.getD 14 0) 7 18 3) % 4294967296 + ws.getD 15 0) % 4294967296) fun x => schF n (x :: ws) k
theorem rev_get (ws : List UInt32) {i : Nat} (h : i < ws.length) : (wN ws).reverse.getD i 0 = (ws.getD (ws.length - 1 - i) 0).toNat := by
  unfold wN
  rw [List.getD_eq_getElem?_getD, List.getElem?_reverse (by simpa using h), List.length_map, List.getElem?_map, List.getD_eq_getElem?_getD, List.getElem?_eq_getElem (by omega)]
  rfl
theorem schF_eq {α : Type u} (b : List UInt8) (k : List Nat → α) : ∀ n t, 16 ≤ t → schF n (wN (sch b t)).reverse k = k (wN (sch b (t + n))).reverse
  | 0, t, _ => rfl
  | n + 1, t, h => by
    unfold schF
    rw [force_eq]
    have hl := sch_length b t
    rw [rev_get (sch b t) (by omega), rev_get (sch b t) (by omega), rev_get (sch b t) (by omega), rev_get (sch b t) (by omega), hl]
    have h2 : (nxt b (sch b t) t).toNat = (((smallN ((sch b t).getD (t - 1 - 1) 0).toNat 17 19 10 + ((sch b t).getD (t - 1 - 6) 0).toNat) % 4294967296 + smallN ((sch b t).getD (t - 1 - 14) 0).toNat 7 18 3) % 4294967296 + ((sch b t).getD (t - 1 - 15) 0).toNat) % 4294967296 := by
      unfold nxt
      rw [if_neg (by omega), UInt32.toNat_add, UInt32.toNat_add, UInt32.toNat_add, smallN_eq _ (by decide) (by decide), smallN_eq _ (by decide) (by decide)]
      rw [show t - 1 - 1 = t - 2 by omega, show t - 1 - 6 = t - 7 by omega, show t - 1 - 14 = t - 15 by omega, show t - 1 - 15 = t - 16 by omega]
    rw [← h2]
    have h1 : (nxt b (sch b t) t).toNat :: (wN (sch b t)).reverse = (wN (sch b (t + 1))).reverse := by simp [sch, wN]
    rw [h1, schF_eq b k n (t + 1) (by omega), show t + 1 + n = t + (n + 1) by omega]
def rndL : N8 → List UInt32 → List UInt32 → N8
  | s, k :: ks, w :: ws => rndL (rnd s k w) ks ws
  | s, _, _ => s
theorem rndL_snoc (k w : UInt32) : ∀ (ks ws : List UInt32) (s : N8), ks.length = ws.length → rndL s (ks ++ [k]) (ws ++ [w]) = rnd (rndL s ks ws) k w
  | [], [], s, _ => rfl
  | k' :: ks, w' :: ws, s, h => by
    show rndL (rnd s k' w') (ks ++ [k]) (ws ++ [w]) = rnd (rndL (rnd s k' w') ks ws) k w
    exact rndL_snoc k w ks ws _ (by simpa using h)
  | [], _ :: _, s, h => by simp at h
  | _ :: _, [], s, h => by simp at h
theorem getD_get {α : Type u} (l : List α) (t : Nat) (d : α) (h : t < l.length) : l.getD t d = l[t] := by
  rw [List.getD_eq_getElem?_getD, List.getElem?_eq_getElem h]
  rfl
theorem rnds_L (b : List UInt8) (s : N8) : ∀ t, t ≤ 64 → rnds b s t = rndL s (kL.take t) ((sch b 64).take t)
  | 0, _ => by rw [rnds, List.take_zero, List.take_zero, rndL]; simp
  | t + 1, h => by
    have hk : t < kL.length := by rw [kL_length]; omega
    have hw : t < (sch b 64).length := by rw [sch_length]; omega
    have h1 := kL_length
    have h2 := sch_length b 64
    rw [rnds, getD_get _ _ _ hk, getD_get _ _ _ hw, take_succ_get _ _ hk, take_succ_get _ _ hw, rndL_snoc _ _ _ _ _ (by rw [List.length_take, List.length_take, h1, h2]), rnds_L b s t (by omega)]
def roundsF {α : Type u} : List Nat → List Nat → Nat → Nat → Nat → Nat → Nat → Nat → Nat → Nat → (Nat → Nat → Nat → Nat → Nat → Nat → Nat → Nat → α) → α
  | kk :: ks, w :: ws, a, b, c, d, e, f, g, h, k =>
    force (((((h + turnN e 6 11 25) % 4294967296 + ((e &&& f) ||| ((4294967295 - e) &&& g))) % 4294967296 + kk) % 4294967296 + w) % 4294967296) fun t1 =>
    force ((d + t1) % 4294967296) fun e' =>
    force ((t1 + (turnN a 2 13 22 + ((a &&& b ||| a &&& c) ||| b &&& c)) % 4294967296) % 4294967296) fun a' => roundsF ks ws a' a b c e' e f g k
  | _, _, a, b, c, d, e, f, g, h, k => k a b c d e f g h
theorem roundsF_eq {α : Type u} (k : Nat → Nat → Nat → Nat → Nat → Nat → Nat → Nat → α) : ∀ (ks ws : List UInt32) (s : N8), ks.length = ws.length →
    roundsF (wN ks) (wN ws) s.a.toNat s.b.toNat s.c.toNat s.d.toNat s.e.toNat s.f.toNat s.g.toNat s.h.toNat k =
      k (rndL s ks ws).a.toNat (rndL s ks ws).b.toNat (rndL s ks ws).c.toNat (rndL s ks ws).d.toNat (rndL s ks ws).e.toNat (rndL s ks ws).f.toNat (rndL s ks ws).g.toNat (rndL s ks ws).h.toNat
  | [], [], s, _ => rfl
  | kk :: ks, w :: ws, s, h => by
    have ih := roundsF_eq k ks ws (rnd s kk w) (by simpa using h)
    show roundsF (kk.toNat :: wN ks) (w.toNat :: wN ws) _ _ _ _ _ _ _ _ _ = _
    unfold roundsF
    rw [force_eq, force_eq, force_eq]
    have h1 : (one8 s kk w).toNat = ((((s.h.toNat + turnN s.e.toNat 6 11 25) % 4294967296 + ((s.e.toNat &&& s.f.toNat) ||| ((4294967295 - s.e.toNat) &&& s.g.toNat))) % 4294967296 + kk.toNat) % 4294967296 + w.toNat) % 4294967296 := by
      unfold one8
      rw [UInt32.toNat_add, UInt32.toNat_add, UInt32.toNat_add, UInt32.toNat_add, UInt32.toNat_or, UInt32.toNat_and, UInt32.toNat_and, notN_eq, turnN_eq _ (by decide) (by decide) (by decide)]
    have h2 : (two8 s).toNat = (turnN s.a.toNat 2 13 22 + ((s.a.toNat &&& s.b.toNat ||| s.a.toNat &&& s.c.toNat) ||| s.b.toNat &&& s.c.toNat)) % 4294967296 := by
      unfold two8
      rw [UInt32.toNat_add, UInt32.toNat_or, UInt32.toNat_or, UInt32.toNat_and, UInt32.toNat_and, UInt32.toNat_and, turnN_eq _ (by decide) (by decide) (by decide)]
    rw [← h1, ← h2]
    have h3 : (rnd s kk w).a.toNat = ((one8 s kk w).toNat + (two8 s).toNat) % 4294967296 := UInt32.toNat_add _ _
    have h4 : (rnd s kk w).e.toNat = (s.d.toNat + (one8 s kk w).toNat) % 4294967296 := UInt32.toNat_add _ _
    rw [← h3, ← h4]
    exact ih
  | [], _ :: _, s, h => by simp at h
  | _ :: _, [], s, h => by simp at h
def kN : List Nat := [1116352408, 1899447441, 3049323471, 3921009573, 961987163, 1508970993, 2453635748, 2870763221, 3624381080, 310598401, 607225278, 1426881987, 1925078388, 2162078206, 2614888103, 3248222580, 3835390401, 4022224774, 264347078, 604807628, 770255983, 1249150122, 1555081692, 1996064986, 2554220882, 2821834349, 2952996808, 3210313671, 3336571891, 3584528711, 113926993, 338241895, 666307205, 773529912, 1294757372, 1396182291, 1695183700, 1986661051, 2177026350, 2456956037, 2730485921, 2820302411, 3259730800, 3345764771, 3516065817, 3600352804, 4094571909, 275423344, 430227734, 506948616, 659060556, 883997877, 958139571, 1322822218, 1537002063, 1747873779, 1955562222, 2024104815, 2227730452, 2361852424, 2428436474, 2756734187, 3204031479, 3329325298]
theorem kN_eq : kN = wN kL := by decide +kernel
def blkF {α : Type u} (bs : List UInt8) (a b c d e f g h : Nat) (k : Nat → Nat → Nat → Nat → Nat → Nat → Nat → Nat → α) : α :=
  fstF 16 0 bs [] fun w16 => schF 48 w16 fun wr => roundsF kN wr.reverse a b c d e f g h fun a' b' c' d' e' f' g' h' =>
    force ((a + a') % 4294967296) fun a => force ((b + b') % 4294967296) fun b => force ((c + c') % 4294967296) fun c => force ((d + d') % 4294967296) fun d =>
    force ((e + e') % 4294967296) fun e => force ((f + f') % 4294967296) fun f => force ((g + g') % 4294967296) fun g => force ((h + h') % 4294967296) fun h => k a b c d e f g h
/-- The eight, handed on. -/
def give {α : Type u} (s : N8) (k : Nat → Nat → Nat → Nat → Nat → Nat → Nat → Nat → α) : α := k s.a.toNat s.b.toNat s.c.toNat s.d.toNat s.e.toNat s.f.toNat s.g.toNat s.h.toNat
theorem blkF_eq {α : Type u} (bs : List UInt8) (s : N8) (k : Nat → Nat → Nat → Nat → Nat → Nat → Nat → Nat → α) : give s (fun a b c d e f g h => blkF bs a b c d e f g h k) = give (blk s bs) k := by
  unfold give blkF
  have h0 := fstF_eq bs (fun w16 => schF 48 w16 fun wr => roundsF kN wr.reverse s.a.toNat s.b.toNat s.c.toNat s.d.toNat s.e.toNat s.f.toNat s.g.toNat s.h.toNat fun a' b' c' d' e' f' g' h' =>
    force ((s.a.toNat + a') % 4294967296) fun a => force ((s.b.toNat + b') % 4294967296) fun b => force ((s.c.toNat + c') % 4294967296) fun c => force ((s.d.toNat + d') % 4294967296) fun d =>
    force ((s.e.toNat + e') % 4294967296) fun e => force ((s.f.toNat + f') % 4294967296) fun f => force ((s.g.toNat + g') % 4294967296) fun g => force ((s.h.toNat + h') % 4294967296) fun h => k a b c d e f g h) 16 0 (by decide)
  refine h0.trans ?_
  rw [schF_eq bs _ 48 (0 + 16) (by decide), List.reverse_reverse, kN_eq, roundsF_eq _ kL (sch bs (0 + 16 + 48)) s (by rw [sch_length]; rfl)]
  have hr : rndL s kL (sch bs (0 + 16 + 48)) = rnds bs s 64 := by
    rw [rnds_L bs s 64 (Nat.le_refl _), List.take_of_length_le (by rw [kL_length]; exact Nat.le_refl _), List.take_of_length_le (by rw [sch_length]; exact Nat.le_refl _)]
  rw [hr]
  simp only [force_eq, blk, N8.add, UInt32.toNat_add]
def forceL {α : Type u} : List UInt8 → (List UInt8 → α) → α
  | [], k => k []
  | x :: xs, k => force x.toNat fun n => forceL xs fun ys => k (UInt8.ofNat n :: ys)
theorem forceL_eq {α : Type u} : ∀ (l : List UInt8) (k : List UInt8 → α), forceL l k = k l
  | [], k => rfl
  | x :: xs, k => by
    unfold forceL
    rw [force_eq, forceL_eq xs, UInt8.ofNat_toNat]
def runF {α : Type u} : Nat → Nat → List UInt8 → Nat → Nat → Nat → Nat → Nat → Nat → Nat → Nat → (Nat → Nat → Nat → Nat → Nat → Nat → Nat → Nat → α) → α
  | 0, _, _, a, b, c, d, e, f, g, h, k => k a b c d e f g h
  | n + 1, i, l, a, b, c, d, e, f, g, h, k => forceL (chunk l i) fun bs => blkF bs a b c d e f g h fun a b c d e f g h => runF n (i + 1) l a b c d e f g h k
theorem runF_eq {α : Type u} (s : N8) (l : List UInt8) (k : Nat → Nat → Nat → Nat → Nat → Nat → Nat → Nat → α) : ∀ n i, give (runB s l i) (fun a b c d e f g h => runF n i l a b c d e f g h k) = give (runB s l (i + n)) k
  | 0, i => rfl
  | n + 1, i => by
    have h1 : give (runB s l i) (fun a b c d e f g h => runF (n + 1) i l a b c d e f g h k) = give (runB s l i) (fun a b c d e f g h => blkF (chunk l i) a b c d e f g h fun a b c d e f g h => runF n (i + 1) l a b c d e f g h k) := by
      unfold give
      conv => lhs; unfold runF
      simp only [forceL_eq]
    rw [h1, blkF_eq, show i + (n + 1) = i + 1 + n by omega, ← runF_eq s l k n (i + 1)]
    rfl
/-- The tag's eight numbers, computed. -/
def shaF {α : Type u} (l : List UInt8) (k : Nat → Nat → Nat → Nat → Nat → Nat → Nat → Nat → α) : α :=
  forceL (l ++ tailB l.length) fun m => force (m.length / 64) fun n => runF n 0 m 1779033703 3144134277 1013904242 2773480762 1359893119 2600822924 528734635 1541459225 k
theorem shaF_eq {α : Type u} (l : List UInt8) (k : Nat → Nat → Nat → Nat → Nat → Nat → Nat → Nat → α) : shaF l k = give (shaN l) k := by
  unfold shaF
  rw [forceL_eq, force_eq]
  have := runF_eq iv8 (l ++ tailB l.length) k ((l ++ tailB l.length).length / 64) 0
  rw [Nat.zero_add] at this
  exact this
theorem sha_empty : shaF [] (fun a b c d e f g h => [a, b, c, d, e, f, g, h]) = [0xe3b0c442, 0x98fc1c14, 0x9afbf4c8, 0x996fb924, 0x27ae41e4, 0x649b934c, 0xa495991b, 0x7852b855] := by decide +kernel
theorem sha_abc : shaF [97, 98, 99] (fun a b c d e f g h => [a, b, c, d, e, f, g, h]) = [0xba7816bf, 0x8f01cfea, 0x414140de, 0x5dae2223, 0xb00361a3, 0x96177a9c, 0xb410ff61, 0xf20015ad] := by decide +kernel
theorem sha_abcd : shaF [97, 98, 99, 100, 98, 99, 100, 101, 99, 100, 101, 102, 100, 101, 102, 103, 101, 102, 103, 104, 102, 103, 104, 105, 103, 104, 105, 106, 104, 105, 106, 107, 105, 106, 107, 108, 106, 107, 108, 109, 107, 108, 109, 110, 108, 109, 110, 111, 109, 110, 111, 112, 110, 111, 112, 113] (fun a b c d e f g h => [a, b, c, d, e, f, g, h]) = [0x248d6a61, 0xd20638b8, 0xe5c02693, 0x0c3e6039, 0xa33ce459, 0x64ff2167, 0xf6ecedd4, 0x19db06c1] := by decide +kernel
end Go.Proofs.Ytdpcahfgdpikfaa
