/- Plain definitions on the document's roots: products by digits, a root bit by bit, the primes; all roots, reckoned. -/
import Derived.Test.YtegeglnfpddgfaaShaMath
import Derived.KernelRfl
namespace Go.Proofs.Ytegeglnfpddgfaa
/-- The carry from place j on. -/
def carryN : Nat → List Nat → Nat → List Nat
  | 0, l, _ => l
  | f + 1, l, j => if 65536 ≤ l.getD j 0 ∧ j + 1 < l.length then carryN f ((l.set (j + 1) ((l.getD (j + 1) 0 + l.getD j 0 / 65536) % 18446744073709551616)).set j (l.getD j 0 % 65536)) (j + 1) else l
def putN (a b out : List Nat) (i k : Nat) : List Nat := out.set (i + k) ((out.getD (i + k) 0 + a.getD i 0 * b.getD k 0 % 18446744073709551616) % 18446744073709551616)
def colTo (a b out : List Nat) (i : Nat) : Nat → List Nat
  | 0 => out
  | k + 1 => carryN (a.length + b.length) (putN a b (colTo a b out i k) i k) (i + k)
def rowTo (a b : List Nat) : Nat → List Nat
  | 0 => List.replicate (a.length + b.length) 0
  | i + 1 => colTo a b (rowTo a b i) i b.length
def timesN (a b : List Nat) : List Nat := rowTo a b a.length
def digitsN (v : Nat) : List Nat := [v % 65536, v / 65536 % 65536, v / 4294967296 % 65536]
/-- Is there a number above zero among the places from lo on, k of them? -/
def someN (a : List Nat) (lo : Nat) : Nat → Bool
  | 0 => false
  | k + 1 => decide (0 < a.getD (lo + k) 0) || someN a lo k
def aboveN (a : List Nat) (p z : Nat) : Bool :=
  if someN a (z + 1) (a.length - 1 - z) then true else if a.getD z 0 ≠ p then decide (p < a.getD z 0) else someN a 0 z
def allN (v n : Nat) : List Nat := if n = 3 then timesN (timesN (digitsN v) (digitsN v)) (digitsN v) else timesN (digitsN v) (digitsN v)
/-- The root's bits, from bit 36 on, k of them. -/
def rootTo (p n : Nat) : Nat → Nat
  | 0 => 0
  | k + 1 => if aboveN (allN (rootTo p n k + 2 ^ (36 - k)) n) p (2 * n) then rootTo p n k else rootTo p n k + 2 ^ (36 - k)
def rootN (p n : Nat) : Nat := rootTo p n 37 % 4294967296
def primeFrom (n : Nat) : Nat → Nat → Bool
  | 0, _ => decide (1 < n)
  | f + 1, d => if d * d ≤ n then (if n % d = 0 then false else primeFrom n f (d + 1)) else decide (1 < n)
def primeN (n : Nat) : Bool := primeFrom n n 2
def nthFrom : Nat → Nat → Nat → Nat
  | 0, _, _ => 0
  | f + 1, n, i => if primeN n then (if i = 0 then n else nthFrom f (n + 1) (i - 1)) else nthFrom f (n + 1) i
def nthN (i : Nat) : Nat := nthFrom 400 2 i
theorem nth_0 : nthN 0 = 2 := by kernel_rfl
theorem nth_1 : nthN 1 = 3 := by kernel_rfl
theorem nth_2 : nthN 2 = 5 := by kernel_rfl
theorem nth_3 : nthN 3 = 7 := by kernel_rfl
theorem nth_4 : nthN 4 = 11 := by kernel_rfl
theorem nth_5 : nthN 5 = 13 := by kernel_rfl
theorem nth_6 : nthN 6 = 17 := by kernel_rfl
theorem nth_7 : nthN 7 = 19 := by kernel_rfl
theorem nth_8 : nthN 8 = 23 := by kernel_rfl
theorem nth_9 : nthN 9 = 29 := by kernel_rfl
theorem nth_10 : nthN 10 = 31 := by kernel_rfl
theorem nth_11 : nthN 11 = 37 := by kernel_rfl
theorem nth_12 : nthN 12 = 41 := by kernel_rfl
theorem nth_13 : nthN 13 = 43 := by kernel_rfl
theorem nth_14 : nthN 14 = 47 := by kernel_rfl
theorem nth_15 : nthN 15 = 53 := by kernel_rfl
theorem nth_16 : nthN 16 = 59 := by kernel_rfl
theorem nth_17 : nthN 17 = 61 := by kernel_rfl
theorem nth_18 : nthN 18 = 67 := by kernel_rfl
theorem nth_19 : nthN 19 = 71 := by kernel_rfl
theorem nth_20 : nthN 20 = 73 := by kernel_rfl
theorem nth_21 : nthN 21 = 79 := by kernel_rfl
theorem nth_22 : nthN 22 = 83 := by kernel_rfl
theorem nth_23 : nthN 23 = 89 := by kernel_rfl
theorem nth_24 : nthN 24 = 97 := by kernel_rfl
theorem nth_25 : nthN 25 = 101 := by kernel_rfl
theorem nth_26 : nthN 26 = 103 := by kernel_rfl
theorem nth_27 : nthN 27 = 107 := by kernel_rfl
theorem nth_28 : nthN 28 = 109 := by kernel_rfl
theorem nth_29 : nthN 29 = 113 := by kernel_rfl
theorem nth_30 : nthN 30 = 127 := by kernel_rfl
theorem nth_31 : nthN 31 = 131 := by kernel_rfl
theorem nth_32 : nthN 32 = 137 := by kernel_rfl
theorem nth_33 : nthN 33 = 139 := by kernel_rfl
theorem nth_34 : nthN 34 = 149 := by kernel_rfl
theorem nth_35 : nthN 35 = 151 := by kernel_rfl
theorem nth_36 : nthN 36 = 157 := by kernel_rfl
theorem nth_37 : nthN 37 = 163 := by kernel_rfl
theorem nth_38 : nthN 38 = 167 := by kernel_rfl
theorem nth_39 : nthN 39 = 173 := by kernel_rfl
theorem nth_40 : nthN 40 = 179 := by kernel_rfl
theorem nth_41 : nthN 41 = 181 := by kernel_rfl
theorem nth_42 : nthN 42 = 191 := by kernel_rfl
theorem nth_43 : nthN 43 = 193 := by kernel_rfl
theorem nth_44 : nthN 44 = 197 := by kernel_rfl
theorem nth_45 : nthN 45 = 199 := by kernel_rfl
theorem nth_46 : nthN 46 = 211 := by kernel_rfl
theorem nth_47 : nthN 47 = 223 := by kernel_rfl
theorem nth_48 : nthN 48 = 227 := by kernel_rfl
theorem nth_49 : nthN 49 = 229 := by kernel_rfl
theorem nth_50 : nthN 50 = 233 := by kernel_rfl
theorem nth_51 : nthN 51 = 239 := by kernel_rfl
theorem nth_52 : nthN 52 = 241 := by kernel_rfl
theorem nth_53 : nthN 53 = 251 := by kernel_rfl
theorem nth_54 : nthN 54 = 257 := by kernel_rfl
theorem nth_55 : nthN 55 = 263 := by kernel_rfl
theorem nth_56 : nthN 56 = 269 := by kernel_rfl
theorem nth_57 : nthN 57 = 271 := by kernel_rfl
theorem nth_58 : nthN 58 = 277 := by kernel_rfl
theorem nth_59 : nthN 59 = 281 := by kernel_rfl
theorem nth_60 : nthN 60 = 283 := by kernel_rfl
theorem nth_61 : nthN 61 = 293 := by kernel_rfl
theorem nth_62 : nthN 62 = 307 := by kernel_rfl
theorem nth_63 : nthN 63 = 311 := by kernel_rfl
theorem cube_0 : rootN 2 3 = 1116352408 := by kernel_rfl
theorem cube_1 : rootN 3 3 = 1899447441 := by kernel_rfl
theorem cube_2 : rootN 5 3 = 3049323471 := by kernel_rfl
theorem cube_3 : rootN 7 3 = 3921009573 := by kernel_rfl
theorem cube_4 : rootN 11 3 = 961987163 := by kernel_rfl
theorem cube_5 : rootN 13 3 = 1508970993 := by kernel_rfl
theorem cube_6 : rootN 17 3 = 2453635748 := by kernel_rfl
theorem cube_7 : rootN 19 3 = 2870763221 := by kernel_rfl
theorem cube_8 : rootN 23 3 = 3624381080 := by kernel_rfl
theorem cube_9 : rootN 29 3 = 310598401 := by kernel_rfl
theorem cube_10 : rootN 31 3 = 607225278 := by kernel_rfl
theorem cube_11 : rootN 37 3 = 1426881987 := by kernel_rfl
theorem cube_12 : rootN 41 3 = 1925078388 := by kernel_rfl
theorem cube_13 : rootN 43 3 = 2162078206 := by kernel_rfl
theorem cube_14 : rootN 47 3 = 2614888103 := by kernel_rfl
theorem cube_15 : rootN 53 3 = 3248222580 := by kernel_rfl
theorem cube_16 : rootN 59 3 = 3835390401 := by kernel_rfl
theorem cube_17 : rootN 61 3 = 4022224774 := by kernel_rfl
theorem cube_18 : rootN 67 3 = 264347078 := by kernel_rfl
theorem cube_19 : rootN 71 3 = 604807628 := by kernel_rfl
theorem cube_20 : rootN 73 3 = 770255983 := by kernel_rfl
theorem cube_21 : rootN 79 3 = 1249150122 := by kernel_rfl
theorem cube_22 : rootN 83 3 = 1555081692 := by kernel_rfl
theorem cube_23 : rootN 89 3 = 1996064986 := by kernel_rfl
theorem cube_24 : rootN 97 3 = 2554220882 := by kernel_rfl
theorem cube_25 : rootN 101 3 = 2821834349 := by kernel_rfl
theorem cube_26 : rootN 103 3 = 2952996808 := by kernel_rfl
theorem cube_27 : rootN 107 3 = 3210313671 := by kernel_rfl
theorem cube_28 : rootN 109 3 = 3336571891 := by kernel_rfl
theorem cube_29 : rootN 113 3 = 3584528711 := by kernel_rfl
theorem cube_30 : rootN 127 3 = 113926993 := by kernel_rfl
theorem cube_31 : rootN 131 3 = 338241895 := by kernel_rfl
theorem cube_32 : rootN 137 3 = 666307205 := by kernel_rfl
theorem cube_33 : rootN 139 3 = 773529912 := by kernel_rfl
theorem cube_34 : rootN 149 3 = 1294757372 := by kernel_rfl
theorem cube_35 : rootN 151 3 = 1396182291 := by kernel_rfl
theorem cube_36 : rootN 157 3 = 1695183700 := by kernel_rfl
theorem cube_37 : rootN 163 3 = 1986661051 := by kernel_rfl
theorem cube_38 : rootN 167 3 = 2177026350 := by kernel_rfl
theorem cube_39 : rootN 173 3 = 2456956037 := by kernel_rfl
theorem cube_40 : rootN 179 3 = 2730485921 := by kernel_rfl
theorem cube_41 : rootN 181 3 = 2820302411 := by kernel_rfl
theorem cube_42 : rootN 191 3 = 3259730800 := by kernel_rfl
theorem cube_43 : rootN 193 3 = 3345764771 := by kernel_rfl
theorem cube_44 : rootN 197 3 = 3516065817 := by kernel_rfl
theorem cube_45 : rootN 199 3 = 3600352804 := by kernel_rfl
theorem cube_46 : rootN 211 3 = 4094571909 := by kernel_rfl
theorem cube_47 : rootN 223 3 = 275423344 := by kernel_rfl
theorem cube_48 : rootN 227 3 = 430227734 := by kernel_rfl
theorem cube_49 : rootN 229 3 = 506948616 := by kernel_rfl
theorem cube_50 : rootN 233 3 = 659060556 := by kernel_rfl
theorem cube_51 : rootN 239 3 = 883997877 := by kernel_rfl
theorem cube_52 : rootN 241 3 = 958139571 := by kernel_rfl
theorem cube_53 : rootN 251 3 = 1322822218 := by kernel_rfl
theorem cube_54 : rootN 257 3 = 1537002063 := by kernel_rfl
theorem cube_55 : rootN 263 3 = 1747873779 := by kernel_rfl
theorem cube_56 : rootN 269 3 = 1955562222 := by kernel_rfl
theorem cube_57 : rootN 271 3 = 2024104815 := by kernel_rfl
theorem cube_58 : rootN 277 3 = 2227730452 := by kernel_rfl
theorem cube_59 : rootN 281 3 = 2361852424 := by kernel_rfl
theorem cube_60 : rootN 283 3 = 2428436474 := by kernel_rfl
theorem cube_61 : rootN 293 3 = 2756734187 := by kernel_rfl
theorem cube_62 : rootN 307 3 = 3204031479 := by kernel_rfl
theorem cube_63 : rootN 311 3 = 3329325298 := by kernel_rfl
theorem square_0 : rootN 2 2 = 1779033703 := by kernel_rfl
theorem square_1 : rootN 3 2 = 3144134277 := by kernel_rfl
theorem square_2 : rootN 5 2 = 1013904242 := by kernel_rfl
theorem square_3 : rootN 7 2 = 2773480762 := by kernel_rfl
theorem square_4 : rootN 11 2 = 1359893119 := by kernel_rfl
theorem square_5 : rootN 13 2 = 2600822924 := by kernel_rfl
theorem square_6 : rootN 17 2 = 528734635 := by kernel_rfl
theorem square_7 : rootN 19 2 = 1541459225 := by kernel_rfl
theorem roots_all : ∀ i, i < 64 → (nthN i ≠ 0 ∧ nthN i ≤ 311) ∧ rootN (nthN i) 3 = rootsL.getD i 0
  | 0, _ => by rw [nth_0, cube_0]; exact ⟨by decide, rfl⟩
  | 1, _ => by rw [nth_1, cube_1]; exact ⟨by decide, rfl⟩
  | 2, _ => by rw [nth_2, cube_2]; exact ⟨by decide, rfl⟩
  | 3, _ => by rw [nth_3, cube_3]; exact ⟨by decide, rfl⟩
  | 4, _ => by rw [nth_4, cube_4]; exact ⟨by decide, rfl⟩
  | 5, _ => by rw [nth_5, cube_5]; exact ⟨by decide, rfl⟩
  | 6, _ => by rw [nth_6, cube_6]; exact ⟨by decide, rfl⟩
  | 7, _ => by rw [nth_7, cube_7]; exact ⟨by decide, rfl⟩
  | 8, _ => by rw [nth_8, cube_8]; exact ⟨by decide, rfl⟩
  | 9, _ => by rw [nth_9, cube_9]; exact ⟨by decide, rfl⟩
  | 10, _ => by rw [nth_10, cube_10]; exact ⟨by decide, rfl⟩
  | 11, _ => by rw [nth_11, cube_11]; exact ⟨by decide, rfl⟩
  | 12, _ => by rw [nth_12, cube_12]; exact ⟨by decide, rfl⟩
  | 13, _ => by rw [nth_13, cube_13]; exact ⟨by decide, rfl⟩
  | 14, _ => by rw [nth_14, cube_14]; exact ⟨by decide, rfl⟩
  | 15, _ => by rw [nth_15, cube_15]; exact ⟨by decide, rfl⟩
  | 16, _ => by rw [nth_16, cube_16]; exact ⟨by decide, rfl⟩
  | 17, _ => by rw [nth_17, cube_17]; exact ⟨by decide, rfl⟩
  | 18, _ => by rw [nth_18, cube_18]; exact ⟨by decide, rfl⟩
  | 19, _ => by rw [nth_19, cube_19]; exact ⟨by decide, rfl⟩
  | 20, _ => by rw [nth_20, cube_20]; exact ⟨by decide, rfl⟩
  | 21, _ => by rw [nth_21, cube_21]; exact ⟨by decide, rfl⟩
  | 22, _ => by rw [nth_22, cube_22]; exact ⟨by decide, rfl⟩
  | 23, _ => by rw [nth_23, cube_23]; exact ⟨by decide, rfl⟩
  | 24, _ => by rw [nth_24, cube_24]; exact ⟨by decide, rfl⟩
  | 25, _ => by rw [nth_25, cube_25]; exact ⟨by decide, rfl⟩
  | 26, _ => by rw [nth_26, cube_26]; exact ⟨by decide, rfl⟩
  | 27, _ => by rw [nth_27, cube_27]; exact ⟨by decide, rfl⟩
  | 28, _ => by rw [nth_28, cube_28]; exact ⟨by decide, rfl⟩
  | 29, _ => by rw [nth_29, cube_29]; exact ⟨by decide, rfl⟩
  | 30, _ => by rw [nth_30, cube_30]; exact ⟨by decide, rfl⟩
  | 31, _ => by rw [nth_31, cube_31]; exact ⟨by decide, rfl⟩
  | 32, _ => by rw [nth_32, cube_32]; exact ⟨by decide, rfl⟩
  | 33, _ => by rw [nth_33, cube_33]; exact ⟨by decide, rfl⟩
  | 34, _ => by rw [nth_34, cube_34]; exact ⟨by decide, rfl⟩
  | 35, _ => by rw [nth_35, cube_35]; exact ⟨by decide, rfl⟩
  | 36, _ => by rw [nth_36, cube_36]; exact ⟨by decide, rfl⟩
  | 37, _ => by rw [nth_37, cube_37]; exact ⟨by decide, rfl⟩
  | 38, _ => by rw [nth_38, cube_38]; exact ⟨by decide, rfl⟩
  | 39, _ => by rw [nth_39, cube_39]; exact ⟨by decide, rfl⟩
  | 40, _ => by rw [nth_40, cube_40]; exact ⟨by decide, rfl⟩
  | 41, _ => by rw [nth_41, cube_41]; exact ⟨by decide, rfl⟩
  | 42, _ => by rw [nth_42, cube_42]; exact ⟨by decide, rfl⟩
  | 43, _ => by rw [nth_43, cube_43]; exact ⟨by decide, rfl⟩
  | 44, _ => by rw [nth_44, cube_44]; exact ⟨by decide, rfl⟩
  | 45, _ => by rw [nth_45, cube_45]; exact ⟨by decide, rfl⟩
  | 46, _ => by rw [nth_46, cube_46]; exact ⟨by decide, rfl⟩
  | 47, _ => by rw [nth_47, cube_47]; exact ⟨by decide, rfl⟩
  | 48, _ => by rw [nth_48, cube_48]; exact ⟨by decide, rfl⟩
  | 49, _ => by rw [nth_49, cube_49]; exact ⟨by decide, rfl⟩
  | 50, _ => by rw [nth_50, cube_50]; exact ⟨by decide, rfl⟩
  | 51, _ => by rw [nth_51, cube_51]; exact ⟨by decide, rfl⟩
  | 52, _ => by rw [nth_52, cube_52]; exact ⟨by decide, rfl⟩
  | 53, _ => by rw [nth_53, cube_53]; exact ⟨by decide, rfl⟩
  | 54, _ => by rw [nth_54, cube_54]; exact ⟨by decide, rfl⟩
  | 55, _ => by rw [nth_55, cube_55]; exact ⟨by decide, rfl⟩
  | 56, _ => by rw [nth_56, cube_56]; exact ⟨by decide, rfl⟩
  | 57, _ => by rw [nth_57, cube_57]; exact ⟨by decide, rfl⟩
  | 58, _ => by rw [nth_58, cube_58]; exact ⟨by decide, rfl⟩
  | 59, _ => by rw [nth_59, cube_59]; exact ⟨by decide, rfl⟩
  | 60, _ => by rw [nth_60, cube_60]; exact ⟨by decide, rfl⟩
  | 61, _ => by rw [nth_61, cube_61]; exact ⟨by decide, rfl⟩
  | 62, _ => by rw [nth_62, cube_62]; exact ⟨by decide, rfl⟩
  | 63, _ => by rw [nth_63, cube_63]; exact ⟨by decide, rfl⟩
  | n + 64, h => by omega
theorem begin_all : ∀ i, i < 8 → (nthN i ≠ 0 ∧ nthN i ≤ 311) ∧ rootN (nthN i) 2 = begin8.getD i 0
  | 0, _ => by rw [nth_0, square_0]; exact ⟨by decide, rfl⟩
  | 1, _ => by rw [nth_1, square_1]; exact ⟨by decide, rfl⟩
  | 2, _ => by rw [nth_2, square_2]; exact ⟨by decide, rfl⟩
  | 3, _ => by rw [nth_3, square_3]; exact ⟨by decide, rfl⟩
  | 4, _ => by rw [nth_4, square_4]; exact ⟨by decide, rfl⟩
  | 5, _ => by rw [nth_5, square_5]; exact ⟨by decide, rfl⟩
  | 6, _ => by rw [nth_6, square_6]; exact ⟨by decide, rfl⟩
  | 7, _ => by rw [nth_7, square_7]; exact ⟨by decide, rfl⟩
  | n + 8, h => by omega
end Go.Proofs.Ytegeglnfpddgfaa
