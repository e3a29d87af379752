/- Plain law: the form of a number is read back from its bytes. -/
import Derived.Test.YtnnhcnmggfhkeaaBase
import Derived.Lib.BitFns
import Derived.Lib.ItoaNum
import Derived.Laws.BitsAllLaws
namespace Go.Proofs.Ytnnhcnmggfhkeaa.Wb
open Go.RowKit Go.Proofs.YtnnhcnmggfhkeaaW.PrintWords Go.Proofs.YtnnhcnmggfhkeaaW.PrintLast Go.Proofs.YtnnhcnmggfhkeaaW.PrintMore

def be : Nat → Nat → List Int
  | 0, _ => []
  | n + 1, x => ((x / 256 ^ n % 256 : Nat) : Int) :: be n x
def nb (x : Nat) : Nat := (Lib.bitLen x + 7) / 8
def enc (x : Nat) : List Int := if x < 248 then [(x : Int)] else ((247 + nb x : Nat) : Int) :: be (nb x) x

theorem be_length : ∀ n x, (be n x).length = n
  | 0, _ => rfl
  | n + 1, x => by simp [be, be_length n x]

theorem wrap64_id {x : Int} (h0 : -9223372036854775808 ≤ x) (h1 : x ≤ 9223372036854775807) : wrap64 x = x := by unfold wrap64; omega

theorem bitLen_bounds (x : Nat) (h : x < 2 ^ 64) (h0 : x ≠ 0) : 1 ≤ Lib.bitLen x ∧ 2 ^ (Lib.bitLen x - 1) ≤ x ∧ x < 2 ^ Lib.bitLen x := Lib.bitLenAux_bounds 64 x h h0
theorem bitLen_64 (x : Nat) (h : x < 2 ^ 64) : Lib.bitLen x ≤ 64 := Lib.bitLen_le x 64 (by omega) h

theorem pow_8 (n : Nat) : (2 : Nat) ^ (8 * n) = 256 ^ n := by rw [Nat.pow_mul]

theorem nb_bounds (x : Nat) (h : x < 2 ^ 64) (h0 : 248 ≤ x) : 1 ≤ nb x ∧ nb x ≤ 8 ∧ x < 256 ^ nb x ∧ 8 * (nb x - 1) < Lib.bitLen x := by
  obtain ⟨a, b, c⟩ := bitLen_bounds x h (by omega)
  have d := bitLen_64 x h
  unfold nb
  refine ⟨by omega, by omega, ?_, by omega⟩
  rw [← pow_8]
  exact Nat.lt_of_lt_of_le c (Nat.pow_le_pow_right (by omega) (by omega))

theorem shr_at (x n : Nat) (h : n ≤ 7) : shr .u64 (x : Int) (8 * n : Int) % 256 = ((x / 256 ^ n % 256 : Nat) : Int) := by
  unfold shr
  have e : (8 * (n : Int)).toNat = 8 * n := by omega
  have e2 : IntKind.bits .u64 = 64 := rfl
  rw [e, e2, Nat.min_eq_left (by omega)]
  have e3 : ((2 : Int) ^ (8 * n)) = ((256 ^ n : Nat) : Int) := by rw [← pow_8, Int.natCast_pow]; rfl
  rw [e3, Int.natCast_emod, Int.natCast_ediv]
  rfl

theorem high_ok : ∀ (n k : Nat) (l : List Int) (x : Nat), n ≤ 8 → n < k → l.length + n < 140737488355328 → wire_high.l0 k l x n = some (l ++ be n x)
  | 0, k, l, x, _, hk, _ => by
    obtain ⟨k, rfl⟩ : ∃ m, k = m + 1 := ⟨k - 1, by omega⟩
    simp [wire_high.l0, be]
  | n + 1, k, l, x, hn, hk, hl => by
    obtain ⟨k, rfl⟩ : ∃ m, k = m + 1 := ⟨k - 1, by omega⟩
    have ih := high_ok n k (l ++ [((x / 256 ^ n % 256 : Nat) : Int)]) x (by omega) (by omega) (by simp; omega)
    have w1 : wrap64 (8 * ((n + 1 : Nat) : Int)) = 8 * ((n + 1 : Nat) : Int) := wrap64_id (by omega) (by omega)
    have w2 : wrap64 (8 * ((n + 1 : Nat) : Int) - 8) = 8 * (n : Int) := by rw [wrap64_id (by omega) (by omega)]; omega
    have w3 : wrap64 (((n + 1 : Nat) : Int) - 1) = (n : Int) := by rw [wrap64_id (by omega) (by omega)]; omega
    simp only [wire_high.l0]
    rw [if_pos (by omega), w1, w2, if_pos (by omega), if_pos (by omega), w3, shr_at x n (by omega), ih]
    simp [be]

theorem put_ok (l : List Int) (x : Nat) (hx : x < 2 ^ 64) (hl : l.length + 9 < 140737488355328) : wire_put.f 10 l x = some (l ++ enc x) := by
  unfold wire_put.f enc
  by_cases h : x < 248
  · rw [if_pos (by omega), if_pos (by omega), if_pos h, show ((x : Int) % 256) = x by omega]
  · obtain ⟨a, b, _, _⟩ := nb_bounds x hx (by omega)
    have d := bitLen_64 x hx
    rw [if_neg (by omega), if_neg h]
    have e0 : bits_Len64.f 10 (x : Int) = some (Lib.bitLen x : Int) := by
      unfold bits_Len64.f
      rw [if_pos ⟨by omega, by omega⟩]
      simp
    rw [e0]
    simp only [Option.bind_some]
    have e1 : wrap64 ((Lib.bitLen x : Int) + 7) = ((Lib.bitLen x + 7 : Nat) : Int) := by rw [wrap64_id (by omega) (by omega)]; omega
    have e2 : wrap64 (Int.tdiv ((Lib.bitLen x + 7 : Nat) : Int) 8) = (nb x : Int) := by
      rw [Int.tdiv_eq_ediv_of_nonneg (by omega)]
      unfold nb
      rw [wrap64_id (by omega) (by omega)]
      omega
    have e3 : wrap64 (247 + (nb x : Int)) % 256 = ((247 + nb x : Nat) : Int) := by rw [wrap64_id (by omega) (by omega)]; omega
    rw [if_pos (by omega), e1, e2, e3]
    unfold wire_high.f
    rw [high_ok (nb x) 10 _ x b (by omega) (by simp; omega)]
    simp

theorem rd_be : ∀ (n x i : Nat), i < n → rd (be n x) i = ((x / 256 ^ (n - 1 - i) % 256 : Nat) : Int)
  | 0, _, _, h => by omega
  | n + 1, x, 0, _ => by simp [rd, be]
  | n + 1, x, i + 1, h => by
    have := rd_be n x i (by omega)
    simp only [rd] at this ⊢
    simp only [be, Int.toNat_natCast, List.getD_cons_succ] at this ⊢
    rw [this]
    congr 4
    omega

theorem low_ok (n x : Nat) (hn : n ≤ 8) (hx : x < 256 ^ n) : ∀ (d i k : Nat), d + i = n → d < k →
    wire_low.l0 k ((x / 256 ^ d : Nat) : Int) (be n x) (n : Int) (i : Int) = some (x : Int)
  | 0, i, k, hd, hk => by
    obtain ⟨k, rfl⟩ : ∃ m, k = m + 1 := ⟨k - 1, by omega⟩
    simp only [wire_low.l0]
    rw [if_neg (by omega)]
    simp
  | d + 1, i, k, hd, hk => by
    obtain ⟨k, rfl⟩ : ∃ m, k = m + 1 := ⟨k - 1, by omega⟩
    have ih := low_ok n x hn hx d (i + 1) k (by omega) (by omega)
    simp only [wire_low.l0]
    rw [if_pos (by omega), if_pos (by omega), if_pos (by rw [be_length]; omega)]
    have w1 : wrap64 ((i : Int) + 1) = ((i + 1 : Nat) : Int) := by rw [wrap64_id (by omega) (by omega)]; omega
    have hq : x / 256 ^ (d + 1) < 256 ^ 7 := by
      refine Nat.div_lt_of_lt_mul (Nat.lt_of_lt_of_le hx ?_)
      rw [← Nat.pow_add]
      exact Nat.pow_le_pow_right (by omega) (by omega)
    have hs : x / 256 ^ d = x / 256 ^ (d + 1) * 256 + x / 256 ^ d % 256 := by
      rw [Nat.pow_succ, ← Nat.div_div_eq_div_mul]
      omega
    have hb : x / 256 ^ d % 256 < 256 := Nat.mod_lt _ (by omega)
    have e : rd (be n x) (i : Int) = ((x / 256 ^ d % 256 : Nat) : Int) := by
      rw [rd_be n x i (by omega)]
      congr 4
      omega
    rw [w1, e]
    generalize x / 256 ^ (d + 1) = q at *
    generalize x / 256 ^ d % 256 = b at *
    have e2 : Go.bits .or .u64 (IntKind.u64.wrap ((q : Int) * 256)) (IntKind.u64.wrap (b : Int)) = ((q * 256 + b : Nat) : Int) := by
      have c1 : IntKind.u64.wrap ((q : Int) * 256) = ((q * 256 : Nat) : Int) := by
        have z : IntKind.u64.wrap ((q : Int) * 256) = ((q : Int) * 256) % 18446744073709551616 := by simp [IntKind.wrap, IntKind.bits, IntKind.signed]
        rw [z]
        have : q < 72057594037927936 := hq
        omega
      have c2 : IntKind.u64.wrap (b : Int) = (b : Int) := by
        have z : IntKind.u64.wrap (b : Int) = (b : Int) % 18446744073709551616 := by simp [IntKind.wrap, IntKind.bits, IntKind.signed]
        rw [z]
        omega
      rw [c1, c2]
      have h7 : q < 72057594037927936 := hq
      rw [u64_or_nat _ _ (by omega) (by omega)]
      have := Nat.two_pow_add_eq_or_of_lt (i := 8) (by omega : b < 2 ^ 8) q
      rw [show q * 256 = 2 ^ 8 * q by omega, ← this]
    rw [e2, ← hs]
    exact ih

theorem low_be (n x : Nat) (hn : n ≤ 8) (hx : x < 256 ^ n) : wire_low.f 10 (be n x) = some (x : Int) := by
  have h := low_ok n x hn hx n 0 10 (by omega) (by omega)
  unfold wire_low.f
  rw [be_length]
  have e : x / 256 ^ n = 0 := Nat.div_eq_of_lt hx
  rw [e] at h
  exact h
end Go.Proofs.Ytnnhcnmggfhkeaa.Wb
