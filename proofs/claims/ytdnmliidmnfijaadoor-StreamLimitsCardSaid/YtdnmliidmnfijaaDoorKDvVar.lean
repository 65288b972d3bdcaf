
set_option linter.unusedVariables false
namespace Dv
def varGet : List Int → Int × Int × Int
  | [] => (0, 0, 3)
  | b0 :: r =>
    if b0 < 128 then (b0, 1, 0) else
    match r with
    | [] => (0, 0, 3)
    | b1 :: r =>
      if b1 < 128 then (if b1 = 0 then (0, 0, 1) else (b0 % 128 + b1 * 128, 2, 0)) else
      match r with
      | [] => (0, 0, 3)
      | b2 :: r =>
        if b2 < 128 then (if b2 = 0 then (0, 0, 1) else (b0 % 128 + b1 % 128 * 128 + b2 * 16384, 3, 0)) else
        match r with
        | [] => (0, 0, 3)
        | b3 :: _ =>
          if b3 < 128 then (if b3 = 0 then (0, 0, 1) else (b0 % 128 + b1 % 128 * 128 + b2 % 128 * 16384 + b3 * 2097152, 4, 0)) else (0, 0, 1)

end Dv
