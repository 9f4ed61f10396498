/- The tags of noughts alone are unlike: computed. No program in sight. -/
import Derived.Test.YtikkfpgbbenheaaShaC
namespace Go.Proofs.Ytikkfpgbbenheaa
open Go Go.RowKit
set_option linter.unusedVariables false
/-- The first number of the tag of n noughts. -/
def zW (n : Nat) : Nat := shaF (List.replicate n 0) (fun a _ _ _ _ _ _ _ => a)
def zL : List Nat := [3820012610, 1848904604, 2527237842, 1889435848, 3745472920, 2287292554, 2968939228, 2205713864, 2941612277, 1047558141, 30689455, 1907802581, 367819760, 3712402414, 3891063740, 1394802383, 927402239, 176689432, 1624941477, 3606930165, 3729246642, 3372364376, 1783133661, 22181350, 2643496655, 1628597729, 1704801994, 3930696351, 987626260, 300167618, 108602477, 4245208725, 1718123181, 2140970545, 3943967500, 223688161, 1840668629, 2871306591, 1982530102, 2495684307, 741658141, 2652321476, 155994417, 2241278649, 2239077176, 2316312675, 2274308855, 336517701, 397440543, 2022145960, 3425142497, 2391794814, 2035665709, 893376040, 3932527836, 41391206, 3565255333, 1705077943, 1723115698, 3718538892, 1573657432, 3336727614, 515582940, 3346153377, 4121296194, 2563654366, 4022010807, 467841945, 391228434, 3439706664, 2197618002, 134601948, 2202693787, 2622944394, 3498052817, 913598452, 4072723781, 123036143, 1431467147, 1097342864, 1534047630, 1735968711, 281820216, 8432119, 1340759658, 1782223617, 921197452, 1772410763, 284095109, 2696905651, 2559183305, 664136851, 1655785575, 3687828599, 3548305469, 2235721748, 782871441, 325964199, 807882522, 1261011032, 3439387282, 3767392662, 3290016044, 927229301, 972259213, 1379680582, 886822591, 2734464934, 1997750083, 3045754337, 4063465816, 616112379, 3053300600, 2501581973, 2150350609, 600663941, 1532066130, 4276343713, 24818871, 4128682197, 1860018031, 3625098724, 292644460, 1083867011, 2072955101, 1121360345, 3955522838, 366667159, 947010094, 746611101, 3847904295, 3546802366, 291220756, 1476381130, 3890723452, 1101636653, 3070698517, 1251182927, 1214939666, 1043699442, 604265488, 3693093313, 3085984948, 1712000982, 2177241587, 3280933524, 1442852139, 600202682, 991479180, 1443049353, 495145355, 1024674892, 2242749822, 4050009294, 4178694156, 816272703, 1505726609, 1589722449, 381865141, 3616185035, 3012794248, 2668558037, 2067508820, 2114831265, 1260580456, 715259243, 2159400996, 219280420, 3821186869, 1616725926, 3497779160, 1103592471, 1492261038, 868439618, 3937310890, 1427432262, 2261962587, 2374299434, 1760763262, 1577500585, 280143464, 3676591266, 182527153, 4048019392, 3625712464, 3132976998, 3044855468, 2533948684, 3816612784, 116003214, 132946937, 1354080417, 1569321046, 3844497973, 1544092804, 530468711, 3640975857, 2363834279, 2800399362, 1333037101, 1838961886, 2872964631, 2439068073, 772616160, 3234284867, 2541199228, 3128598719, 2461998069]
def zOk (c : Nat) : Bool := (List.range 26).all fun i => zW (26 * c + i) == zL.getD (26 * c + i) 0
theorem zOk_0 : zOk 0 = true := by decide +kernel
theorem zOk_1 : zOk 1 = true := by decide +kernel
theorem zOk_2 : zOk 2 = true := by decide +kernel
theorem zOk_3 : zOk 3 = true := by decide +kernel
theorem zOk_4 : zOk 4 = true := by decide +kernel
theorem zOk_5 : zOk 5 = true := by decide +kernel
theorem zOk_6 : zOk 6 = true := by decide +kernel
theorem zOk_7 : zOk 7 = true := by decide +kernel
theorem zOk_all {n : Nat} (h : n < 208) : zW n = zL.getD n 0 := by
  have hc : ∀ c, c < 8 → zOk c = true := fun c hc => by
    match c, hc with
    | 0, _ => exact zOk_0
    | 1, _ => exact zOk_1
    | 2, _ => exact zOk_2
    | 3, _ => exact zOk_3
    | 4, _ => exact zOk_4
    | 5, _ => exact zOk_5
    | 6, _ => exact zOk_6
    | 7, _ => exact zOk_7
  have h1 := hc (n / 26) (by omega)
  unfold zOk at h1
  rw [List.all_eq_true] at h1
  have h2 := h1 (n % 26) (List.mem_range.2 (by omega))
  rw [show 26 * (n / 26) + n % 26 = n by omega] at h2
  simpa using h2
theorem zL_nodup : zL.Nodup := by decide +kernel
theorem zL_length : zL.length = 208 := by decide +kernel
theorem zW_inj {n m : Nat} (hn : n < 208) (hm : m < 208) (h : zW n = zW m) : n = m := by
  have hl := zL_length
  rw [zOk_all hn, zOk_all hm, List.getD_eq_getElem?_getD, List.getD_eq_getElem?_getD, List.getElem?_eq_getElem (by omega), List.getElem?_eq_getElem (by omega)] at h
  simp only [Option.getD_some] at h
  have hp := List.pairwise_iff_getElem.1 zL_nodup
  rcases Nat.lt_trichotomy n m with h1 | h1 | h1
  · exact absurd h (hp n m (by omega) (by omega) h1)
  · exact h1
  · exact absurd h.symm (hp m n (by omega) (by omega) h1)
theorem putL4_inj {x y : Nat} (hx : x < 4294967296) (hy : y < 4294967296) (h : putL x 4 = putL y 4) : x = y := by
  have h0 : UInt8.ofNat (x / 256 ^ 3) = UInt8.ofNat (y / 256 ^ 3) := congrArg (fun l => l.getD 0 0) h
  have h1 : UInt8.ofNat (x / 256 ^ 2) = UInt8.ofNat (y / 256 ^ 2) := congrArg (fun l => l.getD 1 0) h
  have h2 : UInt8.ofNat (x / 256 ^ 1) = UInt8.ofNat (y / 256 ^ 1) := congrArg (fun l => l.getD 2 0) h
  have h3 : UInt8.ofNat (x / 256 ^ 0) = UInt8.ofNat (y / 256 ^ 0) := congrArg (fun l => l.getD 3 0) h
  have k0 := congrArg UInt8.toNat h0
  have k1 := congrArg UInt8.toNat h1
  have k2 := congrArg UInt8.toNat h2
  have k3 := congrArg UInt8.toNat h3
  rw [UInt8.toNat_ofNat', UInt8.toNat_ofNat'] at k0 k1 k2 k3
  simp only [Nat.reducePow, Nat.div_one] at k0 k1 k2 k3
  omega
theorem fst4 (s : N8) : (outB s).take 4 = putL s.a.toNat 4 := rfl
theorem zeros_inj {n m : Nat} (hn : n < 208) (hm : m < 208) (h : shaL (List.replicate n 0) = shaL (List.replicate m 0)) : n = m := by
  refine zW_inj hn hm ?_
  unfold zW
  rw [shaF_eq, shaF_eq]
  have h1 := congrArg (List.take 4) h
  unfold shaL at h1
  rw [fst4, fst4] at h1
  exact putL4_inj (u32_lt _) (u32_lt _) h1
end Go.Proofs.Ytikkfpgbbenheaa
