
set_option linter.unusedVariables false
namespace Dv
def varPut (n : Int) : List Int :=
  if n < 128 then [n]
  else if n < 16384 then [n % 128 + 128, n / 128]
  else if n < 2097152 then [n % 128 + 128, n / 128 % 128 + 128, n / 16384]
  else [n % 128 + 128, n / 128 % 128 + 128, n / 16384 % 128 + 128, n / 2097152]

def varGet : List Int → Int × Int × Int
  | [] => (0, 0, 3)
  | b0 :: r =>
    if b0 < 128 then (b0, 1, 0) else
    match r with
    | [] => (0, 0, 3)
    | b1 :: r =>
      if b1 < 128 then (if b1 = 0 then (0, 0, 1) else (b0 % 128 + b1 * 128, 2, 0)) else
      match r with
      | [] => (0, 0, 3)
      | b2 :: r =>
        if b2 < 128 then (if b2 = 0 then (0, 0, 1) else (b0 % 128 + b1 % 128 * 128 + b2 * 16384, 3, 0)) else
        match r with
        | [] => (0, 0, 3)
        | b3 :: _ =>
          if b3 < 128 then (if b3 = 0 then (0, 0, 1) else (b0 % 128 + b1 % 128 * 128 + b2 % 128 * 16384 + b3 * 2097152, 4, 0)) else (0, 0, 1)

theorem varGet_put (n : Int) (h0 : 0 ≤ n) (h1 : n ≤ 268435455) (r : List Int) : varGet (varPut n ++ r) = (n, ((varPut n).length : Int), 0) := by
  unfold varPut
  split
  · simp [varGet]; omega
  · split
    · simp only [List.cons_append, List.nil_append, varGet]
      rw [if_neg (by omega), if_pos (by omega), if_neg (by omega)]
      simp; omega
    · split
      · simp only [List.cons_append, List.nil_append, varGet]
        rw [if_neg (by omega), if_neg (by omega), if_pos (by omega), if_neg (by omega)]
        simp; omega
      · simp only [List.cons_append, List.nil_append, varGet]
        rw [if_neg (by omega), if_neg (by omega), if_neg (by omega), if_pos (by omega), if_neg (by omega)]
        simp; omega

theorem varGet_short (n : Int) (h0 : 0 ≤ n) (h1 : n ≤ 268435455) (k : Nat) (hk : k < (varPut n).length) : varGet ((varPut n).take k) = (0, 0, 3) := by
  unfold varPut at hk ⊢
  split at hk
  · rename_i h; rw [if_pos h]; simp at hk; subst hk; simp [varGet]
  · rename_i h; rw [if_neg h]
    split at hk
    · rename_i h2; rw [if_pos h2]; simp at hk
      match k, hk with
      | 0, _ => simp [varGet]
      | 1, _ => simp only [List.take_succ_cons, List.take_zero, varGet]; rw [if_neg (by omega)]
    · rename_i h2; rw [if_neg h2]
      split at hk
      · rename_i h3; rw [if_pos h3]; simp at hk
        match k, hk with
        | 0, _ => simp [varGet]
        | 1, _ => simp only [List.take_succ_cons, List.take_zero, varGet]; rw [if_neg (by omega)]
        | 2, _ => simp only [List.take_succ_cons, List.take_zero, varGet]; rw [if_neg (by omega), if_neg (by omega)]
      · rename_i h3; rw [if_neg h3]; simp at hk
        match k, hk with
        | 0, _ => simp [varGet]
        | 1, _ => simp only [List.take_succ_cons, List.take_zero, varGet]; rw [if_neg (by omega)]
        | 2, _ => simp only [List.take_succ_cons, List.take_zero, varGet]; rw [if_neg (by omega), if_neg (by omega)]
        | 3, _ => simp only [List.take_succ_cons, List.take_zero, varGet]; rw [if_neg (by omega), if_neg (by omega), if_neg (by omega)]
end Dv
