/- Numbers by digits to the base 65536, roots, primes: plain. -/
import Derived.Test.YtjkdpnkbdfnokaaDoorSha
set_option linter.unusedSimpArgs false
set_option linter.unusedVariables false
namespace Go.Rm
def V : List Nat → Nat
  | [] => 0
  | d :: r => d + 65536 * V r
def Dg (l : List Nat) : Prop := ∀ d ∈ l, d < 65536
theorem V_lt : ∀ (l : List Nat), Dg l → V l < 65536 ^ l.length
  | [], _ => by simp [V]
  | d :: r, h => by
    have h1 := V_lt r fun x hx => h x (by simp [hx])
    have h2 := h d (by simp)
    simp only [V, List.length_cons, Nat.pow_succ]
    omega
theorem V_set : ∀ (l : List Nat) (j d : Nat), j < l.length → V (l.set j d) + l.getD j 0 * 65536 ^ j = V l + d * 65536 ^ j
  | [], _, _, h => by simp at h
  | x :: r, 0, d, _ => by simp [V]; omega
  | x :: r, j + 1, d, h => by
    have ih := V_set r j d (by simpa using h)
    simp only [List.set_cons_succ, V, List.getD_cons_succ, Nat.pow_succ]
    have e1 : r.getD j 0 * (65536 ^ j * 65536) = 65536 * (r.getD j 0 * 65536 ^ j) := by rw [← Nat.mul_assoc, Nat.mul_comm _ 65536]
    have e2 : d * (65536 ^ j * 65536) = 65536 * (d * 65536 ^ j) := by rw [← Nat.mul_assoc, Nat.mul_comm _ 65536]
    rw [e1, e2]
    omega
theorem V_append : ∀ (a b : List Nat), V (a ++ b) = V a + 65536 ^ a.length * V b
  | [], b => by simp [V]
  | x :: r, b => by
    simp only [List.cons_append, V, V_append r b, List.length_cons, Nat.pow_succ]
    have : 65536 ^ r.length * 65536 * V b = 65536 * (65536 ^ r.length * V b) := by rw [Nat.mul_comm (65536 ^ r.length), Nat.mul_assoc]
    rw [this]; omega
theorem V_take_succ (l : List Nat) (i : Nat) (h : i < l.length) : V (l.take (i + 1)) = V (l.take i) + l.getD i 0 * 65536 ^ i := by
  rw [List.take_add_one, List.getElem?_eq_getElem h, V_append]
  simp only [Option.toList_some, V, List.length_take, List.getD_eq_getElem?_getD, List.getElem?_eq_getElem h, Option.getD_some]
  rw [Nat.min_eq_left (by omega)]
  rw [Nat.mul_comm (65536 ^ i)]
  simp
theorem V_zeros : ∀ n, V (List.replicate n 0) = 0
  | 0 => rfl
  | n + 1 => by simp [List.replicate_succ, V, V_zeros n]
theorem V_digit : ∀ (l : List Nat) (j : Nat), Dg l → V l / 65536 ^ j % 65536 = l.getD j 0
  | [], j, _ => by simp [V]
  | x :: r, 0, h => by
    have := h x (by simp)
    simp [V]; omega
  | x :: r, j + 1, h => by
    have := h x (by simp)
    have ih := V_digit r j fun y hy => h y (by simp [hy])
    rw [Nat.pow_succ, Nat.mul_comm, ← Nat.div_div_eq_div_mul]
    have : V (x :: r) / 65536 = V r := by simp only [V]; omega
    rw [this, ih]; rfl
theorem Dg_set {l : List Nat} (h : Dg l) {j d : Nat} (hd : d < 65536) : Dg (l.set j d) := fun x hx => by
  rcases List.mem_or_eq_of_mem_set hx with h1 | h1
  · exact h x h1
  · rw [h1]; exact hd
theorem Dg_get {l : List Nat} (h : Dg l) (j : Nat) : l.getD j 0 < 65536 := by
  rw [List.getD_eq_getElem?_getD]
  cases hj : l[j]? with
  | none => simp
  | some x => simpa using h x (List.mem_of_getElem? hj)
theorem Dg_zeros (n : Nat) : Dg (List.replicate n 0) := fun x hx => by rw [List.eq_of_mem_replicate hx]; decide
/-- the value of the first n digits, whatever the length -/
def W (l : List Nat) : Nat → Nat
  | 0 => 0
  | n + 1 => W l n + l.getD n 0 * 65536 ^ n
theorem W_eq (l : List Nat) : ∀ n, l.length ≤ n → W l n = V l
  | 0, h => by
    have : l = [] := List.eq_nil_of_length_eq_zero (by omega)
    subst this; rfl
  | n + 1, h => by
    by_cases e : l.length = n + 1
    · have key : ∀ k, k ≤ l.length → W l k = V (l.take k) := by
        intro k
        induction k with
        | zero => intro _; rfl
        | succ k ih => intro hk; rw [W, ih (by omega), V_take_succ l k (by omega)]
      rw [key (n + 1) (by omega), List.take_of_length_le (by omega)]
    · rw [W, W_eq l n (by omega), List.getD_eq_getElem?_getD, List.getElem?_eq_none (by omega)]
      simp
theorem W_lt (l : List Nat) (h : Dg l) : ∀ n, W l n < 65536 ^ n
  | 0 => by simp [W]
  | n + 1 => by
    have h1 := W_lt l h n
    have h2 := Dg_get h n
    have h3 : l.getD n 0 * 65536 ^ n ≤ 65535 * 65536 ^ n := Nat.mul_le_mul_right _ (by omega)
    rw [W, Nat.pow_succ]; omega
/-- the highest digits that differ decide -/
theorem W_cmp {a b : List Nat} (ha : Dg a) (hb : Dg b) (n : Nat) (h : a.getD n 0 ≠ b.getD n 0) : (W b (n + 1) < W a (n + 1)) ↔ (b.getD n 0 < a.getD n 0) := by
  have h1 := W_lt a ha n
  have h2 := W_lt b hb n
  simp only [W]
  constructor
  · intro hlt
    rcases Nat.lt_or_ge (b.getD n 0) (a.getD n 0) with h3 | h3
    · exact h3
    · have h4 : (a.getD n 0 + 1) * 65536 ^ n ≤ b.getD n 0 * 65536 ^ n := Nat.mul_le_mul_right _ (by omega)
      rw [Nat.add_mul] at h4; omega
  · intro hlt
    have h4 : (b.getD n 0 + 1) * 65536 ^ n ≤ a.getD n 0 * 65536 ^ n := Nat.mul_le_mul_right _ (by omega)
    rw [Nat.add_mul] at h4; omega
/-- one step of the product -/
theorem mul_step {n c B P x : Nat} (hn : n = x + P + c) : (n % 65536) * B + (n / 65536) * (65536 * B) = (x + P + c) * B := by
  rw [← hn]
  have : n = n % 65536 + n / 65536 * 65536 := by omega
  conv => rhs; rw [this]
  rw [Nat.add_mul, Nat.mul_assoc]
theorem carry_lt {x a b c n : Nat} (hx : x < 65536) (ha : a < 65536) (hb : b < 65536) (hc : c < 65536) (hn : n = x + a * b + c) : n / 65536 < 65536 := by
  have : a * b ≤ 65535 * 65535 := Nat.mul_le_mul (by omega) (by omega)
  omega
/-- the digit at which a bit is set has room -/
theorem bit_room {l : List Nat} (h : Dg l) {j r q : Nat} (hr : r < 16) (hv : V l = 2 ^ (16 * j + r + 1) * q) : l.getD j 0 + 2 ^ r < 65536 := by
  have h1 := V_digit l j h
  have e1 : (65536 : Nat) ^ j = 2 ^ (16 * j) := by rw [Nat.pow_mul]
  have e2 : (2 : Nat) ^ (16 * j + r + 1) * q = 2 ^ (16 * j) * (2 ^ (r + 1) * q) := by rw [show 16 * j + r + 1 = 16 * j + (r + 1) by omega, Nat.pow_add, Nat.mul_assoc]
  rw [hv, e1, e2, Nat.mul_div_cancel_left _ (Nat.pow_pos (by decide))] at h1
  have e3 : (65536 : Nat) = 2 ^ (r + 1) * 2 ^ (15 - r) := by rw [← Nat.pow_add, show r + 1 + (15 - r) = 16 by omega]
  rw [e3, Nat.mul_mod_mul_left] at h1
  have h2 : q % 2 ^ (15 - r) < 2 ^ (15 - r) := Nat.mod_lt _ (Nat.pow_pos (by decide))
  have h3 : 2 ^ (r + 1) * (q % 2 ^ (15 - r)) ≤ 2 ^ (r + 1) * (2 ^ (15 - r) - 1) := Nat.mul_le_mul_left _ (by omega)
  rw [Nat.mul_sub, ← e3, Nat.mul_one] at h3
  have h4 : (2 : Nat) ^ (r + 1) = 2 * 2 ^ r := by rw [Nat.pow_succ, Nat.mul_comm]
  have h5 : (2 : Nat) ^ r > 0 := Nat.pow_pos (by decide)
  have h6 : (2 : Nat) ^ (r + 1) ≤ 2 ^ 16 := Nat.pow_le_pow_right (by decide) (by omega)
  omega
def powD (d X : Nat) : Nat := if d = 3 then X * X * X else X * X
def rootF (d most : Nat) : Nat → Nat → Nat
  | 0, X => X
  | k + 1, X => rootF d most k (if most < powD d (X + 2 ^ k) then X else X + 2 ^ k)
def root (p d : Nat) : Nat := rootF d (p * 65536 ^ (4 * d)) 69 0
def isP (l : List Nat) (n : Nat) : Bool := l.all fun p => n % p != 0
def sieve : Nat → List Nat
  | 0 => []
  | n + 1 => if isP (sieve n) (n + 2) then sieve n ++ [n + 2] else sieve n
theorem sieve_pre (n m : Nat) (h : n ≤ m) : ∃ t, sieve m = sieve n ++ t := by
  induction m with
  | zero =>
    have : n = 0 := by omega
    subst this; exact ⟨[], rfl⟩
  | succ m ih =>
    by_cases e : n = m + 1
    · exact ⟨[], by rw [e]; simp⟩
    · obtain ⟨t, ht⟩ := ih (by omega)
      simp only [sieve]
      split
      · exact ⟨t ++ [m + 2], by rw [ht]; simp⟩
      · exact ⟨t, ht⟩
theorem sieve_pos (n : Nat) : ∀ p ∈ sieve n, 2 ≤ p ∧ p ≤ n + 1 := by
  induction n with
  | zero => simp [sieve]
  | succ n ih =>
    intro p hp
    simp only [sieve] at hp
    split at hp
    · rcases List.mem_append.1 hp with h | h
      · have := ih p h; omega
      · simp at h; omega
    · have := ih p hp; omega
theorem sieve_len : (sieve 408).length = 80 := by decide +kernel
def primes (k : Nat) : List Nat := (sieve 408).take k
theorem k32_eq : (primes 64).map (fun p => ((BitVec.ofNat 64 (root p 3)) >>> 32).setWidth 32) = Sha.k32 := by decide +kernel
theorem h32_eq : ((primes 64).take 8).map (fun p => ((BitVec.ofNat 64 (root p 2)) >>> 32).setWidth 32) = Sha.h32.list := by decide +kernel
theorem k64_eq : (primes 80).map (fun p => BitVec.ofNat 64 (root p 3)) = Sha.k64 := by decide +kernel
theorem h512_eq : (primes 8).map (fun p => BitVec.ofNat 64 (root p 2)) = Sha.h512.list := by decide +kernel
theorem h384_eq : ((primes 16).drop 8).map (fun p => BitVec.ofNat 64 (root p 2)) = Sha.h384.list := by decide +kernel
end Go.Rm
