/- Plain arithmetic under math/bits.Div64 (no program): a digit of a quotient, guessed and put right. -/

set_option linter.unusedSimpArgs false
set_option linter.unusedVariables false
namespace Go.Proofs.Ytfdaabdibpcjeaa
namespace Knuth

theorem lt_of_mul {a b y : Int} (hy : 0 < y) (h : a * y < b * y) : a < b := Int.lt_of_mul_lt_mul_right h (Int.le_of_lt hy)

/-- the digit that is meant -/
def Dig (u d y Q : Int) : Prop := Q * y ≤ u * 4294967296 + d ∧ u * 4294967296 + d < (Q + 1) * y

theorem dig_div {u d y : Int} (hy : 0 < y) : Dig u d y ((u * 4294967296 + d) / y) :=
  ⟨by rw [Int.mul_comm]; exact Int.mul_ediv_self_le (Int.ne_of_gt hy), by rw [Int.add_mul, Int.one_mul, Int.mul_comm _ y]; exact Int.lt_mul_ediv_self_add hy⟩

structure Cx (u d y y1 y0 : Int) : Prop where
  hy : y = y1 * 4294967296 + y0
  h1 : 2147483648 ≤ y1
  h2 : y1 < 4294967296
  h3 : 0 ≤ y0
  h4 : y0 < 4294967296
  hu : 0 ≤ u
  huy : u < y
  hd : 0 ≤ d
  hd' : d < 4294967296

section
variable {u d y y1 y0 q r Q : Int}

theorem qy (c : Cx u d y y1 y0) (q : Int) : q * y = q * y1 * 4294967296 + q * y0 := by rw [c.hy, Int.mul_add, Int.mul_assoc]
theorem ypos (c : Cx u d y y1 y0) : 0 < y := by have := c.hy; have := c.h1; have := c.h3; omega

theorem q_lt (c : Cx u d y y1 y0) (hQ : Dig u d y Q) : Q < 4294967296 := by
  refine lt_of_mul (ypos c) (Int.lt_of_le_of_lt hQ.1 ?_)
  have := c.huy; have := c.hd'
  omega
theorem q_nn (c : Cx u d y y1 y0) (hQ : Dig u d y Q) : 0 ≤ Q := by
  have hp := ypos c
  have h1 : (0 : Int) * y < (Q + 1) * y := by
    have := c.hu; have := c.hd
    refine Int.lt_of_le_of_lt ?_ hQ.2
    omega
  have := lt_of_mul hp h1
  omega

theorem start_le (c : Cx u d y y1 y0) (hQ : Dig u d y Q) : Q ≤ u / y1 := by
  have h1 := c.h1
  refine (Int.le_ediv_iff_mul_le (by omega)).2 ?_
  have h2 := hQ.1
  rw [qy c Q] at h2
  have h3 : 0 ≤ Q * y0 := Int.mul_nonneg (q_nn c hQ) c.h3
  have := c.hd'
  omega
theorem start_top (c : Cx u d y y1 y0) : u / y1 ≤ 4294967297 := by
  have h1 := c.h1
  have h2 : u / y1 < 4294967298 := by
    refine (Int.ediv_lt_iff_lt_mul (by omega)).2 ?_
    have := c.huy; have := c.hy; have := c.h4
    omega
  omega
theorem start_rest : u - u / y1 * y1 = u % y1 := by
  have := Int.emod_def u y1
  rw [Int.mul_comm y1] at this
  omega

/-- too great: one less is enough -/
theorem step_le (c : Cx u d y y1 y0) (hQ : Dig u d y Q) (hr : r = u - q * y1) (h : 4294967296 ≤ q ∨ q * y0 > 4294967296 * r + d) (hq : Q ≤ q) : Q ≤ q - 1 := by
  rcases h with h | h
  · have := q_lt c hQ; omega
  · have h1 : Q * y < q * y := by
      refine Int.lt_of_le_of_lt hQ.1 ?_
      rw [qy c q]
      omega
    have := lt_of_mul (ypos c) h1
    omega
/-- not too great -/
theorem done_eq (c : Cx u d y y1 y0) (hQ : Dig u d y Q) (hr : r = u - q * y1) (h : q * y0 ≤ 4294967296 * r + d) (hq : Q ≤ q) : q = Q := by
  have h1 : q * y < (Q + 1) * y := by
    refine Int.lt_of_le_of_lt ?_ hQ.2
    rw [qy c q]
    omega
  have := lt_of_mul (ypos c) h1
  omega
/-- the rest has left 32 bits -/
theorem break_eq (c : Cx u d y y1 y0) (hQ : Dig u d y Q) (hr : r = u - q * y1) (h : 4294967296 ≤ r) (hq : Q ≤ q) (hq' : q ≤ 4294967296) : q = Q := by
  refine done_eq c hQ hr ?_ hq
  have h0 : 0 ≤ q := by have := q_nn c hQ; omega
  have h1 : q * y0 ≤ 4294967296 * 4294967295 := Int.mul_le_mul hq' (by have := c.h4; omega) c.h3 (by decide)
  have := c.hd
  omega
end

/-- two digits make the quotient -/
theorem two {N Y u1 u0 un q1 r1 q0 r : Int} (hN : N = (un * 4294967296 + u1) * 4294967296 + u0)
    (h1 : un * 4294967296 + u1 = q1 * Y + r1) (h0 : r1 * 4294967296 + u0 = q0 * Y + r) : N = (q1 * 4294967296 + q0) * Y + r := by
  rw [hN, h1, Int.add_mul, Int.add_mul, Int.mul_right_comm]
  omega
theorem quo {N Y q r : Int} (hr : 0 ≤ r) (hr' : r < Y) (h : N = q * Y + r) : N / Y = q ∧ N % Y = r := by
  have hY : 0 < Y := by omega
  subst h
  constructor
  · rw [Int.add_comm, Int.add_mul_ediv_right _ _ (by omega), Int.ediv_eq_zero_of_lt hr hr']
    omega
  · rw [Int.add_comm, Int.add_mul_emod_self_right, Int.emod_eq_of_lt hr hr']
end Knuth
end Go.Proofs.Ytfdaabdibpcjeaa
