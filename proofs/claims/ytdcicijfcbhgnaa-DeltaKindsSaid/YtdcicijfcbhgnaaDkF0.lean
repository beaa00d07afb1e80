import Derived.Test.YtdcicijfcbhgnaaDkH0
set_option linter.all false
section
namespace Go.XM
set_option maxRecDepth 100000
abbrev api_Graph : Type := Int × (List (List Int))
abbrev Ty_api_Graph : Ty := (.pr (.int .i64) (.sl (.sl (.int .i64))))
abbrev api_Graph.N (x : api_Graph) : Int := x.1
abbrev api_Graph.Out (x : api_Graph) : List (List Int) := x.2
abbrev herbariumlaw7_Made.sg : Sig := ⟨[(.one, (.int .i64)), (.one, (.int .i64))], [], [(.agg, Ty_api_Graph)], [.s, .o]⟩
def herbariumlaw7_Made.l2 (K : Nat) (go_l1 : Int → Int → (List (List Int)) → Option api_Graph) (t_10 : Int) (t_12 : Int) (x0 : Int) (x1 : Int) : Nat → Int → (List (List Int)) → Option api_Graph
  | 0, _, _ => none
  | k + 1, t_13, t_14 =>
    if decide (t_13 < (if (10 : Int) < x0 then (10 : Int) else x0)) then
      if decide (t_12 < 10) then
        if (0 : Int) ≤ t_12 ∧ t_12 < ((t_14.length : Nat) : Int) then
        if ((nth t_14 t_12).length + ([t_13] : List Int).length) * 8 ≤ 140737488355328 then
        if (0 : Int) ≤ t_12 ∧ t_12 < ((t_14.length : Nat) : Int) then
        if t_12 = t_12 then
        herbariumlaw7_Made.l2 K go_l1 t_10 t_12 x0 x1 k (wr .i64 (t_13 + 1)) ((t_14).set t_12.toNat ((nth t_14 t_12) ++ ([t_13] : List Int)))
        else none
        else none
        else none
        else none
      else
        go_l1 (wr .i64 (t_12 + 1)) t_10 t_14
    else
      go_l1 (wr .i64 (t_12 + 1)) t_10 t_14
def herbariumlaw7_Made.l1 (K : Nat) (x0 : Int) (x1 : Int) : Nat → Int → Int → (List (List Int)) → Option api_Graph
  | 0, _, _, _ => none
  | k + 1, t_12, t_10, t_11 =>
    if decide (t_12 < x0) then
      if (x1 == 0) then
        if x0 ≠ 0 then
        if (0 : Int) ≤ t_12 ∧ t_12 < ((t_11.length : Nat) : Int) then
        herbariumlaw7_Made.l1 K x0 x1 k (wr .i64 (t_12 + 1)) t_10 ((t_11).set t_12.toNat ([(wr .i64 (t_12 + 1)).tmod x0] : List Int))
        else none
        else none
      else
        if (x1 == 1) then
          if decide ((wr .i64 (t_12 + 1)) < x0) then
            if (0 : Int) ≤ t_12 ∧ t_12 < ((t_11.length : Nat) : Int) then
            herbariumlaw7_Made.l1 K x0 x1 k (wr .i64 (t_12 + 1)) t_10 ((t_11).set t_12.toNat ([wr .i64 (t_12 + 1)] : List Int))
            else none
          else
            herbariumlaw7_Made.l1 K x0 x1 k (wr .i64 (t_12 + 1)) t_10 t_11
        else
          if (x1 == 2) then
            if decide (t_12 > 0) then
              if (0 : Int) ≤ (0 : Int) ∧ (0 : Int) < ((t_11.length : Nat) : Int) then
              if ((nth t_11 0).length + ([t_12] : List Int).length) * 8 ≤ 140737488355328 then
              if (0 : Int) ≤ (0 : Int) ∧ (0 : Int) < ((t_11.length : Nat) : Int) then
              if (0 : Int) = (0 : Int) then
              herbariumlaw7_Made.l1 K x0 x1 k (wr .i64 (t_12 + 1)) t_10 ((t_11).set (0 : Int).toNat ((nth t_11 0) ++ ([t_12] : List Int)))
              else none
              else none
              else none
              else none
            else
              herbariumlaw7_Made.l1 K x0 x1 k (wr .i64 (t_12 + 1)) t_10 t_11
          else
            herbariumlaw7_Made.l2 K (herbariumlaw7_Made.l1 K x0 x1 k) t_10 t_12 x0 x1 K (0 : Int) t_11
    else
      some ((x0, t_11) : api_Graph)
def herbariumlaw7_Made (K : Nat) (x0 : Int) (x1 : Int) : Option api_Graph :=
  if x0 = x0 ∧ (0 : Int) ≤ x0 ∧ (24 : Int) * x0 ≤ 281474976710656 ∧ x0 ≤ 9223372036854775807 then
  herbariumlaw7_Made.l1 K x0 x1 K (0 : Int) (0 : Int) (List.replicate x0.toNat ([] : List Int))
  else none
abbrev gaps_Is.sg : Sig := ⟨[(.one, (.int .i64))], [], [(.one, .bool)], []⟩
def gaps_Is (K : Nat) (x0 : Int) : Option Bool :=
  if decide (x0 ≥ 0) then
    some (decide (x0 < 16))
  else
    some false
abbrev gaps_May.sg : Sig := ⟨[(.one, (.sl (.int .i64)))], [], [(.one, .bool)], []⟩
def gaps_May.l1 (K : Nat) (x0 : List Int) : Nat → Int → Int → Option Bool
  | 0, _, _ => none
  | k + 1, t_10, t_11 =>
    if decide (t_11 < t_10) then
      if (0 : Int) ≤ t_11 ∧ t_11 < ((x0.length : Nat) : Int) then
      (gaps_Is K (nth x0 t_11)).bind fun r13 =>
      if (!r13) then
        some false
      else
        if decide (t_11 > 0) then
          if (0 : Int) ≤ (wr .i64 (t_11 - 1)) ∧ (wr .i64 (t_11 - 1)) < ((x0.length : Nat) : Int) then
          if decide ((nth x0 t_11) ≤ (nth x0 (wr .i64 (t_11 - 1)))) then
            some false
          else
            gaps_May.l1 K x0 k t_10 (wr .i64 (t_11 + 1))
          else none
        else
          gaps_May.l1 K x0 k t_10 (wr .i64 (t_11 + 1))
      else none
    else
      some true
def gaps_May (K : Nat) (x0 : List Int) : Option Bool :=
  gaps_May.l1 K x0 K ((x0.length : Nat) : Int) (0 : Int)
abbrev graph_many.sg : Sig := ⟨[(.agg, Ty_api_Graph)], [], [(.one, (.int .i64))], []⟩
def graph_many.l1 (K : Nat) (x0 : api_Graph) : Nat → Int → Int → Int → Option Int
  | 0, _, _, _ => none
  | k + 1, n_10, t_11, t_12 =>
    if decide (t_12 < t_11) then
      if (0 : Int) ≤ t_12 ∧ t_12 < ((x0.Out.length : Nat) : Int) then
      graph_many.l1 K x0 k (wr .i64 (n_10 + (((nth x0.Out t_12).length : Nat) : Int))) t_11 (wr .i64 (t_12 + 1))
      else none
    else
      some n_10
def graph_many (K : Nat) (x0 : api_Graph) : Option Int :=
  graph_many.l1 K x0 K (0 : Int) ((x0.Out.length : Nat) : Int) (0 : Int)
abbrev graph_May.sg : Sig := ⟨[(.agg, Ty_api_Graph)], [], [(.one, .bool)], []⟩
def graph_May.l1 (K : Nat) (x0 : api_Graph) : Nat → Int → Int → Option Bool
  | 0, _, _ => none
  | k + 1, t_10, t_11 =>
    if decide (t_11 < t_10) then
      if (0 : Int) ≤ t_11 ∧ t_11 < ((x0.Out.length : Nat) : Int) then
      (gaps_May K (nth x0.Out t_11)).bind fun r29 =>
      if (!r29) then
        some false
      else
        if decide ((((nth x0.Out t_11).length : Nat) : Int) > 0) then
          if (0 : Int) ≤ (wr .i64 ((((nth x0.Out t_11).length : Nat) : Int) - 1)) ∧ (wr .i64 ((((nth x0.Out t_11).length : Nat) : Int) - 1)) < (((nth x0.Out t_11).length : Nat) : Int) then
          if decide ((nth (nth x0.Out t_11) (wr .i64 ((((nth x0.Out t_11).length : Nat) : Int) - 1))) ≥ x0.N) then
            some false
          else
            graph_May.l1 K x0 k t_10 (wr .i64 (t_11 + 1))
          else none
        else
          graph_May.l1 K x0 k t_10 (wr .i64 (t_11 + 1))
      else none
    else
      (graph_many K x0).bind fun r49 =>
      some (decide (r49 ≤ 120))
def graph_May (K : Nat) (x0 : api_Graph) : Option Bool :=
  if decide (x0.N < 0) then
    some false
  else
    if decide (x0.N > 16) then
      some false
    else
      if (((x0.Out.length : Nat) : Int) != x0.N) then
        some false
      else
        graph_May.l1 K x0 K ((x0.Out.length : Nat) : Int) (0 : Int)
abbrev bits_Row : Type := (List Int) × Int
abbrev Ty_bits_Row : Ty := (.pr (.sl (.int .u8)) (.int .i64))
abbrev bits_Row.data (x : bits_Row) : List Int := x.1
abbrev bits_Row.n (x : bits_Row) : Int := x.2
abbrev __bits_Row__Put.sg : Sig := ⟨[(.box, Ty_bits_Row), (.one, (.int .i64)), (.one, (.int .i64))], [.o], [], [.o]⟩
def __bits_Row__Put.j2 (K : Nat) (go_l1 : Int → Int → (List Int) → Option bits_Row) (h_13 : Int) (i_10 : Int) (x1 : Int) (h_11 : List Int) : Option bits_Row :=
  if (8 : Int) ≠ 0 then
  if (0 : Int) ≤ (wr .i64 (h_13.tdiv 8)) ∧ (wr .i64 (h_13.tdiv 8)) < ((h_11.length : Nat) : Int) then
  if (0 : Int) ≤ i_10 then
  if (8 : Int) ≠ 0 then
  if (0 : Int) ≤ (wr .i64 (7 - (h_13.tmod 8))) then
  if (0 : Int) ≤ (wr .i64 (h_13.tdiv 8)) ∧ (wr .i64 (h_13.tdiv 8)) < ((h_11.length : Nat) : Int) then
  go_l1 (wr .i64 (i_10 - 1)) (wr .i64 (h_13 + 1)) ((h_11).set (wr .i64 (h_13.tdiv 8)).toNat (ib .or .u8 (nth h_11 (wr .i64 (h_13.tdiv 8))) (wr .u8 ((wr .u8 (ib .and .i64 (x1.fdiv (2 ^ min (i_10).toNat 64)) 1)) * 2 ^ min ((wr .i64 (7 - (h_13.tmod 8)))).toNat 8))))
  else none
  else none
  else none
  else none
  else none
  else none
def __bits_Row__Put.l1 (K : Nat) (x1 : Int) : Nat → Int → Int → (List Int) → Option bits_Row
  | 0, _, _, _ => none
  | k + 1, i_10, h_13, h_12 =>
    if decide (i_10 ≥ 0) then
      if (8 : Int) ≠ 0 then
      if ((h_13.tmod 8) == 0) then
        if (h_12.length + ([0] : List Int).length) * 1 ≤ 140737488355328 then
        __bits_Row__Put.j2 K (__bits_Row__Put.l1 K x1 k) h_13 i_10 x1 (h_12 ++ ([0] : List Int))
        else none
      else
        __bits_Row__Put.j2 K (__bits_Row__Put.l1 K x1 k) h_13 i_10 x1 h_12
      else none
    else
      some ((h_12, h_13) : bits_Row)
def __bits_Row__Put (K : Nat) (x0 : bits_Row) (x1 : Int) (x2 : Int) : Option bits_Row :=
  __bits_Row__Put.l1 K x1 K (wr .i64 (x2 - 1)) x0.n x0.data
abbrev math_bits_Len32.sg : Sig := ⟨[(.one, (.int .u32))], [], [(.one, (.int .i64))], []⟩
def math_bits_Len32.j2 (K : Nat) (x_12 : Int) (n_13 : Int) : Option Int :=
  if (0 : Int) ≤ (wr .u8 x_12) ∧ (wr .u8 x_12) < (((⟨#[0, 1, 2, 2, 3, 3, 3, 3, 4, 4, 4, 4, 4, 4, 4, 4, 5, 5, 5, 5, 5, 5, 5, 5, 5, 5, 5, 5, 5, 5, 5, 5, 6, 6, 6, 6, 6, 6, 6, 6, 6, 6, 6, 6, 6, 6, 6, 6, 6, 6, 6, 6, 6, 6, 6, 6, 6, 6, 6, 6, 6, 6, 6, 6, 7, 7, 7, 7, 7, 7, 7, 7, 7, 7, 7, 7, 7, 7, 7, 7, 7, 7, 7, 7, 7, 7, 7, 7, 7, 7, 7, 7, 7, 7, 7, 7, 7, 7, 7, 7, 7, 7, 7, 7, 7, 7, 7, 7, 7, 7, 7, 7, 7, 7, 7, 7, 7, 7, 7, 7, 7, 7, 7, 7, 7, 7, 7, 7, 8, 8, 8, 8, 8, 8, 8, 8, 8, 8, 8, 8, 8, 8, 8, 8, 8, 8, 8, 8, 8, 8, 8, 8, 8, 8, 8, 8, 8, 8, 8, 8, 8, 8, 8, 8, 8, 8, 8, 8, 8, 8, 8, 8, 8, 8, 8, 8, 8, 8, 8, 8, 8, 8, 8, 8, 8, 8, 8, 8, 8, 8, 8, 8, 8, 8, 8, 8, 8, 8, 8, 8, 8, 8, 8, 8, 8, 8, 8, 8, 8, 8, 8, 8, 8, 8, 8, 8, 8, 8, 8, 8, 8, 8, 8, 8, 8, 8, 8, 8, 8, 8, 8, 8, 8, 8, 8, 8, 8, 8, 8, 8, 8, 8, 8, 8, 8, 8, 8, 8, 8, 8, 8, 8, 8, 8, 8, 8]⟩ : ByteArray).size : Nat) : Int) then
  some (wr .i64 (n_13 + (wr .i64 (bt (⟨#[0, 1, 2, 2, 3, 3, 3, 3, 4, 4, 4, 4, 4, 4, 4, 4, 5, 5, 5, 5, 5, 5, 5, 5, 5, 5, 5, 5, 5, 5, 5, 5, 6, 6, 6, 6, 6, 6, 6, 6, 6, 6, 6, 6, 6, 6, 6, 6, 6, 6, 6, 6, 6, 6, 6, 6, 6, 6, 6, 6, 6, 6, 6, 6, 7, 7, 7, 7, 7, 7, 7, 7, 7, 7, 7, 7, 7, 7, 7, 7, 7, 7, 7, 7, 7, 7, 7, 7, 7, 7, 7, 7, 7, 7, 7, 7, 7, 7, 7, 7, 7, 7, 7, 7, 7, 7, 7, 7, 7, 7, 7, 7, 7, 7, 7, 7, 7, 7, 7, 7, 7, 7, 7, 7, 7, 7, 7, 7, 8, 8, 8, 8, 8, 8, 8, 8, 8, 8, 8, 8, 8, 8, 8, 8, 8, 8, 8, 8, 8, 8, 8, 8, 8, 8, 8, 8, 8, 8, 8, 8, 8, 8, 8, 8, 8, 8, 8, 8, 8, 8, 8, 8, 8, 8, 8, 8, 8, 8, 8, 8, 8, 8, 8, 8, 8, 8, 8, 8, 8, 8, 8, 8, 8, 8, 8, 8, 8, 8, 8, 8, 8, 8, 8, 8, 8, 8, 8, 8, 8, 8, 8, 8, 8, 8, 8, 8, 8, 8, 8, 8, 8, 8, 8, 8, 8, 8, 8, 8, 8, 8, 8, 8, 8, 8, 8, 8, 8, 8, 8, 8, 8, 8, 8, 8, 8, 8, 8, 8, 8, 8, 8, 8, 8, 8, 8, 8]⟩ : ByteArray) (wr .u8 x_12)))))
  else none
def math_bits_Len32.j1 (K : Nat) (x_10 : Int) (n_11 : Int) : Option Int :=
  if decide (x_10 ≥ 256) then
    if (0 : Int) ≤ 8 then
    math_bits_Len32.j2 K (x_10.fdiv (2 ^ min ((8 : Int)).toNat 32)) (wr .i64 (n_11 + 8))
    else none
  else
    math_bits_Len32.j2 K x_10 n_11
def math_bits_Len32 (K : Nat) (x0 : Int) : Option Int :=
  if decide (x0 ≥ 65536) then
    if (0 : Int) ≤ 16 then
    math_bits_Len32.j1 K (x0.fdiv (2 ^ min ((16 : Int)).toNat 32)) (16 : Int)
    else none
  else
    math_bits_Len32.j1 K x0 (0 : Int)
abbrev math_bits_Len64.sg : Sig := ⟨[(.one, (.int .u64))], [], [(.one, (.int .i64))], []⟩
def math_bits_Len64.j3 (K : Nat) (x_14 : Int) (n_15 : Int) : Option Int :=
  if (0 : Int) ≤ (wr .u8 x_14) ∧ (wr .u8 x_14) < (((⟨#[0, 1, 2, 2, 3, 3, 3, 3, 4, 4, 4, 4, 4, 4, 4, 4, 5, 5, 5, 5, 5, 5, 5, 5, 5, 5, 5, 5, 5, 5, 5, 5, 6, 6, 6, 6, 6, 6, 6, 6, 6, 6, 6, 6, 6, 6, 6, 6, 6, 6, 6, 6, 6, 6, 6, 6, 6, 6, 6, 6, 6, 6, 6, 6, 7, 7, 7, 7, 7, 7, 7, 7, 7, 7, 7, 7, 7, 7, 7, 7, 7, 7, 7, 7, 7, 7, 7, 7, 7, 7, 7, 7, 7, 7, 7, 7, 7, 7, 7, 7, 7, 7, 7, 7, 7, 7, 7, 7, 7, 7, 7, 7, 7, 7, 7, 7, 7, 7, 7, 7, 7, 7, 7, 7, 7, 7, 7, 7, 8, 8, 8, 8, 8, 8, 8, 8, 8, 8, 8, 8, 8, 8, 8, 8, 8, 8, 8, 8, 8, 8, 8, 8, 8, 8, 8, 8, 8, 8, 8, 8, 8, 8, 8, 8, 8, 8, 8, 8, 8, 8, 8, 8, 8, 8, 8, 8, 8, 8, 8, 8, 8, 8, 8, 8, 8, 8, 8, 8, 8, 8, 8, 8, 8, 8, 8, 8, 8, 8, 8, 8, 8, 8, 8, 8, 8, 8, 8, 8, 8, 8, 8, 8, 8, 8, 8, 8, 8, 8, 8, 8, 8, 8, 8, 8, 8, 8, 8, 8, 8, 8, 8, 8, 8, 8, 8, 8, 8, 8, 8, 8, 8, 8, 8, 8, 8, 8, 8, 8, 8, 8, 8, 8, 8, 8, 8, 8]⟩ : ByteArray).size : Nat) : Int) then
  some (wr .i64 (n_15 + (wr .i64 (bt (⟨#[0, 1, 2, 2, 3, 3, 3, 3, 4, 4, 4, 4, 4, 4, 4, 4, 5, 5, 5, 5, 5, 5, 5, 5, 5, 5, 5, 5, 5, 5, 5, 5, 6, 6, 6, 6, 6, 6, 6, 6, 6, 6, 6, 6, 6, 6, 6, 6, 6, 6, 6, 6, 6, 6, 6, 6, 6, 6, 6, 6, 6, 6, 6, 6, 7, 7, 7, 7, 7, 7, 7, 7, 7, 7, 7, 7, 7, 7, 7, 7, 7, 7, 7, 7, 7, 7, 7, 7, 7, 7, 7, 7, 7, 7, 7, 7, 7, 7, 7, 7, 7, 7, 7, 7, 7, 7, 7, 7, 7, 7, 7, 7, 7, 7, 7, 7, 7, 7, 7, 7, 7, 7, 7, 7, 7, 7, 7, 7, 8, 8, 8, 8, 8, 8, 8, 8, 8, 8, 8, 8, 8, 8, 8, 8, 8, 8, 8, 8, 8, 8, 8, 8, 8, 8, 8, 8, 8, 8, 8, 8, 8, 8, 8, 8, 8, 8, 8, 8, 8, 8, 8, 8, 8, 8, 8, 8, 8, 8, 8, 8, 8, 8, 8, 8, 8, 8, 8, 8, 8, 8, 8, 8, 8, 8, 8, 8, 8, 8, 8, 8, 8, 8, 8, 8, 8, 8, 8, 8, 8, 8, 8, 8, 8, 8, 8, 8, 8, 8, 8, 8, 8, 8, 8, 8, 8, 8, 8, 8, 8, 8, 8, 8, 8, 8, 8, 8, 8, 8, 8, 8, 8, 8, 8, 8, 8, 8, 8, 8, 8, 8, 8, 8, 8, 8, 8, 8]⟩ : ByteArray) (wr .u8 x_14)))))
  else none
def math_bits_Len64.j2 (K : Nat) (x_12 : Int) (n_13 : Int) : Option Int :=
  if decide (x_12 ≥ 256) then
    if (0 : Int) ≤ 8 then
    math_bits_Len64.j3 K (x_12.fdiv (2 ^ min ((8 : Int)).toNat 64)) (wr .i64 (n_13 + 8))
    else none
  else
    math_bits_Len64.j3 K x_12 n_13
def math_bits_Len64.j1 (K : Nat) (x_10 : Int) (n_11 : Int) : Option Int :=
  if decide (x_10 ≥ 65536) then
    if (0 : Int) ≤ 16 then
    math_bits_Len64.j2 K (x_10.fdiv (2 ^ min ((16 : Int)).toNat 64)) (wr .i64 (n_11 + 16))
    else none
  else
    math_bits_Len64.j2 K x_10 n_11
def math_bits_Len64 (K : Nat) (x0 : Int) : Option Int :=
  if decide (x0 ≥ 4294967296) then
    if (0 : Int) ≤ 32 then
    math_bits_Len64.j1 K (x0.fdiv (2 ^ min ((32 : Int)).toNat 64)) (32 : Int)
    else none
  else
    math_bits_Len64.j1 K x0 (0 : Int)
abbrev math_bits_Len.sg : Sig := ⟨[(.one, (.int .u64))], [], [(.one, (.int .i64))], []⟩
def math_bits_Len (K : Nat) (x0 : Int) : Option Int :=
  (math_bits_Len64 K x0).bind fun r7 =>
  some r7
abbrev code_log.sg : Sig := ⟨[(.one, (.int .i64))], [], [(.one, (.int .i64))], []⟩
def code_log (K : Nat) (x0 : Int) : Option Int :=
  (math_bits_Len K (wr .u64 x0)).bind fun r5 =>
  some (wr .i64 (r5 - 1))
abbrev code_parts.sg : Sig := ⟨[(.one, (.int .i64))], [], [(.one, (.int .i64))], []⟩
def code_parts (K : Nat) (x0 : Int) : Option Int :=
  some (wr .i64 ((wr .i64 (x0 - 4)) + 2))
abbrev code_zeta.sg : Sig := ⟨[(.one, (.int .i64)), (.one, (.int .i64))], [], [(.one, (.int .i64)), (.one, (.int .i64)), (.one, (.int .i64)), (.one, (.int .i64))], []⟩
def code_zeta (K : Nat) (x0 : Int) (x1 : Int) : Option (Int × Int × Int × Int) :=
  if (0 : Int) ≤ (wr .i64 (x1 * x0)) then
  if (0 : Int) ≤ x0 then
  (math_bits_Len K (wr .u64 (wr .i64 ((wr .i64 ((wr .i64 ((wr .i64 ((1 : Int) * 2 ^ min ((wr .i64 (x1 * x0))).toNat 64)) * 2 ^ min (x0).toNat 64)) - (wr .i64 ((1 : Int) * 2 ^ min ((wr .i64 (x1 * x0))).toNat 64)))) - 1)))).bind fun r20 =>
  if (0 : Int) ≤ r20 then
  some (wr .i64 ((1 : Int) * 2 ^ min ((wr .i64 (x1 * x0))).toNat 64), wr .i64 ((wr .i64 ((wr .i64 ((1 : Int) * 2 ^ min ((wr .i64 (x1 * x0))).toNat 64)) * 2 ^ min (x0).toNat 64)) - (wr .i64 ((1 : Int) * 2 ^ min ((wr .i64 (x1 * x0))).toNat 64))), r20, wr .i64 ((wr .i64 ((1 : Int) * 2 ^ min (r20).toNat 64)) - (wr .i64 ((wr .i64 ((wr .i64 ((1 : Int) * 2 ^ min ((wr .i64 (x1 * x0))).toNat 64)) * 2 ^ min (x0).toNat 64)) - (wr .i64 ((1 : Int) * 2 ^ min ((wr .i64 (x1 * x0))).toNat 64))))))
  else none
  else none
  else none
abbrev code_Lay.sg : Sig := ⟨[(.box, Ty_bits_Row), (.one, (.int .i64)), (.one, (.int .i64))], [.o], [], [.o]⟩
def code_Lay : Nat → bits_Row → Int → Int → Option bits_Row
  | 0, _, _, _ => none
  | K + 1, x0, x1, x2 =>
    if (x1 == 1) then
      (__bits_Row__Put K x0 0 (wr .i64 (x2 - 1))).bind fun r53 =>
      (__bits_Row__Put K r53 1 1).bind fun r55 =>
      some r55
    else
      if (x1 == 2) then
        (code_log K x2).bind fun r60 =>
        (__bits_Row__Put K x0 0 r60).bind fun r61 =>
        (code_log K x2).bind fun r65 =>
        (__bits_Row__Put K r61 x2 (wr .i64 (r65 + 1))).bind fun r67 =>
        some r67
      else
        if (x1 == 3) then
          (code_log K x2).bind fun r72 =>
          ((code_Lay K) x0 2 (wr .i64 (r72 + 1))).bind fun r74 =>
          (code_log K x2).bind fun r78 =>
          (__bits_Row__Put K r74 x2 r78).bind fun r79 =>
          some r79
        else
          (code_log K x2).bind fun r14 =>
          (code_parts K x1).bind fun r16 =>
          if r16 ≠ 0 then
          (code_parts K x1).bind fun r20 =>
          (code_zeta K r20 (wr .i64 (r14.tdiv r16))).bind fun r22 =>
          ((code_Lay K) x0 1 (wr .i64 ((wr .i64 (r14.tdiv r16)) + 1))).bind fun r30 =>
          if decide ((wr .i64 (x2 - r22.1)) < r22.2.2.2) then
            (__bits_Row__Put K r30 (wr .i64 (x2 - r22.1)) (wr .i64 (r22.2.2.1 - 1))).bind fun r41 =>
            some r41
          else
            (__bits_Row__Put K r30 (wr .i64 ((wr .i64 (x2 - r22.1)) + r22.2.2.2)) r22.2.2.1).bind fun r47 =>
            some r47
          else none
abbrev graph_Is.sg : Sig := ⟨[(.agg, Ty_api_Graph), (.one, (.int .i64))], [], [(.one, .bool)], []⟩
def graph_Is (K : Nat) (x0 : api_Graph) (x1 : Int) : Option Bool :=
  if decide (x1 ≥ 0) then
    some (decide (x1 < x0.N))
  else
    some false
abbrev delta_list.sg : Sig := ⟨[(.agg, Ty_api_Graph), (.one, (.int .i64))], [], [(.one, (.sl (.int .i64)))], []⟩
def delta_list (K : Nat) (x0 : api_Graph) (x1 : Int) : Option (List Int) :=
  (graph_Is K x0 x1).bind fun r7 =>
  if (!r7) then
    some ([] : List Int)
  else
    if (0 : Int) ≤ x1 ∧ x1 < ((x0.Out.length : Nat) : Int) then
    some (nth x0.Out x1)
    else none
abbrev slices_Index___int_int_.sg : Sig := ⟨[(.one, (.sl (.int .i64))), (.one, (.int .i64))], [], [(.one, (.int .i64))], []⟩
def slices_Index___int_int_.l1 (K : Nat) (x0 : List Int) (x1 : Int) : Nat → Int → Int → Option Int
  | 0, _, _ => none
  | k + 1, t_10, t_11 =>
    if decide (t_11 < t_10) then
      if (0 : Int) ≤ t_11 ∧ t_11 < ((x0.length : Nat) : Int) then
      if (x1 == (nth x0 t_11)) then
        some t_11
      else
        slices_Index___int_int_.l1 K x0 x1 k t_10 (wr .i64 (t_11 + 1))
      else none
    else
      some ((-1) : Int)
def slices_Index___int_int_ (K : Nat) (x0 : List Int) (x1 : Int) : Option Int :=
  slices_Index___int_int_.l1 K x0 x1 K ((x0.length : Nat) : Int) (0 : Int)
abbrev slices_Contains___int_int_.sg : Sig := ⟨[(.one, (.sl (.int .i64))), (.one, (.int .i64))], [], [(.one, .bool)], []⟩
def slices_Contains___int_int_ (K : Nat) (x0 : List Int) (x1 : Int) : Option Bool :=
  (slices_Index___int_int_ K x0 x1).bind fun r7 =>
  some (decide (r7 ≥ 0))
abbrev copies_Parts.sg : Sig := ⟨[(.one, (.sl (.int .i64))), (.one, (.sl (.int .i64)))], [], [(.one, (.sl (.int .i64))), (.one, (.sl (.int .i64)))], [.o, .o]⟩
def copies_Parts.l2 (K : Nat) (x0 : List Int) (x1 : List Int) : Nat → Int → Int → (List Int) → (List Int) → Option ((List Int) × (List Int))
  | 0, _, _, _, _ => none
  | k + 1, t_13, t_14, blocks_18, rest_17 =>
    if decide (t_14 < t_13) then
      if (0 : Int) ≤ t_14 ∧ t_14 < ((x1.length : Nat) : Int) then
      (slices_Contains___int_int_ K x0 (nth x1 t_14)).bind fun r40 =>
      if (!r40) then
        if (rest_17.length + ([nth x1 t_14] : List Int).length) * 8 ≤ 140737488355328 then
        copies_Parts.l2 K x0 x1 k t_13 (wr .i64 (t_14 + 1)) blocks_18 (rest_17 ++ ([nth x1 t_14] : List Int))
        else none
      else
        copies_Parts.l2 K x0 x1 k t_13 (wr .i64 (t_14 + 1)) blocks_18 rest_17
      else none
    else
      some (blocks_18, rest_17)
def copies_Parts.l1 (K : Nat) (x0 : List Int) (x1 : List Int) : Nat → Bool → Int → Int → Int → (List Int) → Option ((List Int) × (List Int))
  | 0, _, _, _, _, _ => none
  | k + 1, in_16, many_10, t_11, t_12, blocks_15 =>
    if decide (t_12 < t_11) then
      if (0 : Int) ≤ t_12 ∧ t_12 < ((x0.length : Nat) : Int) then
      (slices_Contains___int_int_ K x1 (nth x0 t_12)).bind fun r20 =>
      if (!(r20 == in_16)) then
        if (blocks_15.length + ([many_10] : List Int).length) * 8 ≤ 140737488355328 then
        copies_Parts.l1 K x0 x1 k (!in_16) (wr .i64 ((0 : Int) + 1)) t_11 (wr .i64 (t_12 + 1)) (blocks_15 ++ ([many_10] : List Int))
        else none
      else
        copies_Parts.l1 K x0 x1 k in_16 (wr .i64 (many_10 + 1)) t_11 (wr .i64 (t_12 + 1)) blocks_15
      else none
    else
      copies_Parts.l2 K x0 x1 K ((x1.length : Nat) : Int) (0 : Int) blocks_15 ([] : List Int)
def copies_Parts (K : Nat) (x0 : List Int) (x1 : List Int) : Option ((List Int) × (List Int)) :=
  copies_Parts.l1 K x0 x1 K true (0 : Int) ((x0.length : Nat) : Int) (0 : Int) ([] : List Int)
abbrev api_Run : Type := Int × Int
abbrev Ty_api_Run : Ty := (.pr (.int .i64) (.int .i64))
abbrev api_Run.At (x : api_Run) : Int := x.1
abbrev api_Run.Len (x : api_Run) : Int := x.2
abbrev runs_Parts.sg : Sig := ⟨[(.one, (.sl (.int .i64)))], [], [(.one, (.sl Ty_api_Run)), (.one, (.sl (.int .i64)))], [.o, .o]⟩
def runs_Parts.l2 (K : Nat) (go_l1 : Int → (List api_Run) → (List Int) → Option ((List api_Run) × (List Int))) (i_10 : Int) (x0 : List Int) : Nat → Int → (List api_Run) → (List Int) → Option ((List api_Run) × (List Int))
  | 0, _, _, _ => none
  | k + 1, k_11, r_14, rest_15 =>
    if decide (k_11 < ((x0.length : Nat) : Int)) then
      if (0 : Int) ≤ k_11 ∧ k_11 < ((x0.length : Nat) : Int) then
      if (0 : Int) ≤ (wr .i64 (k_11 - 1)) ∧ (wr .i64 (k_11 - 1)) < ((x0.length : Nat) : Int) then
      if ((nth x0 k_11) == (wr .i64 ((nth x0 (wr .i64 (k_11 - 1))) + 1))) then
        runs_Parts.l2 K go_l1 i_10 x0 k (wr .i64 (k_11 + 1)) r_14 rest_15
      else
        if decide ((wr .i64 (k_11 - i_10)) ≥ 3) then
          if (0 : Int) ≤ i_10 ∧ i_10 < ((x0.length : Nat) : Int) then
          if (r_14.length + ([((nth x0 i_10, wr .i64 (k_11 - i_10)) : api_Run)] : List api_Run).length) * 16 ≤ 140737488355328 then
          go_l1 k_11 (r_14 ++ ([((nth x0 i_10, wr .i64 (k_11 - i_10)) : api_Run)] : List api_Run)) rest_15
          else none
          else none
        else
          if (0 : Int) ≤ i_10 ∧ i_10 ≤ k_11 ∧ k_11 ≤ ((x0.length : Nat) : Int) then
          if (rest_15.length + (((x0).drop i_10.toNat).take (k_11.toNat - i_10.toNat)).length) * 8 ≤ 140737488355328 then
          go_l1 k_11 r_14 (rest_15 ++ (((x0).drop i_10.toNat).take (k_11.toNat - i_10.toNat)))
          else none
          else none
      else none
      else none
    else
      if decide ((wr .i64 (k_11 - i_10)) ≥ 3) then
        if (0 : Int) ≤ i_10 ∧ i_10 < ((x0.length : Nat) : Int) then
        if (r_14.length + ([((nth x0 i_10, wr .i64 (k_11 - i_10)) : api_Run)] : List api_Run).length) * 16 ≤ 140737488355328 then
        go_l1 k_11 (r_14 ++ ([((nth x0 i_10, wr .i64 (k_11 - i_10)) : api_Run)] : List api_Run)) rest_15
        else none
        else none
      else
        if (0 : Int) ≤ i_10 ∧ i_10 ≤ k_11 ∧ k_11 ≤ ((x0.length : Nat) : Int) then
        if (rest_15.length + (((x0).drop i_10.toNat).take (k_11.toNat - i_10.toNat)).length) * 8 ≤ 140737488355328 then
        go_l1 k_11 r_14 (rest_15 ++ (((x0).drop i_10.toNat).take (k_11.toNat - i_10.toNat)))
        else none
        else none
def runs_Parts.l1 (K : Nat) (x0 : List Int) : Nat → Int → (List api_Run) → (List Int) → Option ((List api_Run) × (List Int))
  | 0, _, _, _ => none
  | k + 1, i_10, r_12, rest_13 =>
    if decide (i_10 < ((x0.length : Nat) : Int)) then
      runs_Parts.l2 K (runs_Parts.l1 K x0 k) i_10 x0 K (wr .i64 (i_10 + 1)) r_12 rest_13
    else
      some (r_12, rest_13)
def runs_Parts (K : Nat) (x0 : List Int) : Option ((List api_Run) × (List Int)) :=
  runs_Parts.l1 K x0 K (0 : Int) ([] : List api_Run) ([] : List Int)
abbrev code_Fold.sg : Sig := ⟨[(.one, (.int .i64))], [], [(.one, (.int .i64))], []⟩
def code_Fold (K : Nat) (x0 : Int) : Option Int :=
  if decide (x0 < 0) then
    some (wr .i64 ((wr .i64 ((-2) * x0)) - 1))
  else
    some (wr .i64 (2 * x0))
abbrev gaps_Lay.sg : Sig := ⟨[(.box, Ty_bits_Row), (.one, (.int .i64)), (.one, (.sl (.int .i64)))], [.o], [], [.o]⟩
def gaps_Lay.l1 (K : Nat) (x1 : Int) (x2 : List Int) : Nat → Int → Int → Int → (List Int) → Option bits_Row
  | 0, _, _, _, _ => none
  | k + 1, t_10, t_11, h_13, h_12 =>
    if decide (t_11 < t_10) then
      if (0 : Int) ≤ t_11 ∧ t_11 < ((x2.length : Nat) : Int) then
      if (t_11 == 0) then
        (code_Fold K (wr .i64 ((nth x2 t_11) - x1))).bind fun r26 =>
        (code_Lay K ((h_12, h_13) : bits_Row) 2 (wr .i64 (r26 + 1))).bind fun r28 =>
        gaps_Lay.l1 K x1 x2 k t_10 (wr .i64 (t_11 + 1)) r28.n r28.data
      else
        if (0 : Int) ≤ (wr .i64 (t_11 - 1)) ∧ (wr .i64 (t_11 - 1)) < ((x2.length : Nat) : Int) then
        (code_Lay K ((h_12, h_13) : bits_Row) 2 (wr .i64 ((nth x2 t_11) - (nth x2 (wr .i64 (t_11 - 1)))))).bind fun r37 =>
        gaps_Lay.l1 K x1 x2 k t_10 (wr .i64 (t_11 + 1)) r37.n r37.data
        else none
      else none
    else
      some ((h_12, h_13) : bits_Row)
def gaps_Lay (K : Nat) (x0 : bits_Row) (x1 : Int) (x2 : List Int) : Option bits_Row :=
  (code_Lay K x0 2 (wr .i64 (((x2.length : Nat) : Int) + 1))).bind fun r12 =>
  gaps_Lay.l1 K x1 x2 K ((x2.length : Nat) : Int) (0 : Int) r12.n r12.data
abbrev runs_Lay.sg : Sig := ⟨[(.box, Ty_bits_Row), (.one, (.int .i64)), (.one, (.sl (.int .i64)))], [.o], [], [.o]⟩
def runs_Lay.j2 (K : Nat) (go_l1 : Int → Int → Int → Int → (List Int) → Option bits_Row) (r13 : (List api_Run) × (List Int)) (t_11 : Int) (t_12 : Int) (x1 : Int) (h_14 : Int) (h_13 : List Int) (x_15 : Int) (x_16 : Int) : Option bits_Row :=
  (code_Lay K ((h_13, h_14) : bits_Row) 2 (wr .i64 ((wr .i64 (x_16 - 3)) + 1))).bind fun r49 =>
  go_l1 (wr .i64 (x_15 + x_16)) t_11 (wr .i64 (t_12 + 1)) r49.n r49.data
def runs_Lay.l1 (K : Nat) (r13 : (List api_Run) × (List Int)) (x1 : Int) : Nat → Int → Int → Int → Int → (List Int) → Option bits_Row
  | 0, _, _, _, _, _ => none
  | k + 1, end_10, t_11, t_12, h_18, h_17 =>
    if decide (t_12 < t_11) then
      if (0 : Int) ≤ t_12 ∧ t_12 < ((r13.1.length : Nat) : Int) then
      if (t_12 == 0) then
        (code_Fold K (wr .i64 (((nth r13.1 t_12).At) - x1))).bind fun r35 =>
        (code_Lay K ((h_17, h_18) : bits_Row) 2 (wr .i64 (r35 + 1))).bind fun r37 =>
        runs_Lay.j2 K (runs_Lay.l1 K r13 x1 k) r13 t_11 t_12 x1 r37.n r37.data ((nth r13.1 t_12).At) ((nth r13.1 t_12).Len)
      else
        (code_Lay K ((h_17, h_18) : bits_Row) 2 (wr .i64 (((nth r13.1 t_12).At) - end_10))).bind fun r43 =>
        runs_Lay.j2 K (runs_Lay.l1 K r13 x1 k) r13 t_11 t_12 x1 r43.n r43.data ((nth r13.1 t_12).At) ((nth r13.1 t_12).Len)
      else none
    else
      (gaps_Lay K ((h_17, h_18) : bits_Row) x1 r13.2).bind fun r59 =>
      some r59
def runs_Lay (K : Nat) (x0 : bits_Row) (x1 : Int) (x2 : List Int) : Option bits_Row :=
  (runs_Parts K x2).bind fun r13 =>
  (code_Lay K x0 2 (wr .i64 (((r13.1.length : Nat) : Int) + 1))).bind fun r20 =>
  runs_Lay.l1 K r13 x1 K (0 : Int) ((r13.1.length : Nat) : Int) (0 : Int) r20.n r20.data
abbrev copies_Lay.sg : Sig := ⟨[(.box, Ty_bits_Row), (.one, (.int .i64)), (.one, (.sl (.int .i64))), (.one, (.sl (.int .i64)))], [.o], [], [.o]⟩
def copies_Lay.l1 (K : Nat) (r15 : (List Int) × (List Int)) (x1 : Int) : Nat → Int → Int → Int → (List Int) → Option bits_Row
  | 0, _, _, _, _ => none
  | k + 1, t_10, t_11, h_13, h_12 =>
    if decide (t_11 < t_10) then
      if (0 : Int) ≤ t_11 ∧ t_11 < ((r15.1.length : Nat) : Int) then
      if (t_11 == 0) then
        (code_Lay K ((h_12, h_13) : bits_Row) 2 (wr .i64 ((nth r15.1 t_11) + 1))).bind fun r36 =>
        copies_Lay.l1 K r15 x1 k t_10 (wr .i64 (t_11 + 1)) r36.n r36.data
      else
        (code_Lay K ((h_12, h_13) : bits_Row) 2 (nth r15.1 t_11)).bind fun r36 =>
        copies_Lay.l1 K r15 x1 k t_10 (wr .i64 (t_11 + 1)) r36.n r36.data
      else none
    else
      (runs_Lay K ((h_12, h_13) : bits_Row) x1 r15.2).bind fun r41 =>
      some r41
def copies_Lay (K : Nat) (x0 : bits_Row) (x1 : Int) (x2 : List Int) (x3 : List Int) : Option bits_Row :=
  (copies_Parts K x2 x3).bind fun r15 =>
  (code_Lay K x0 2 (wr .i64 (((r15.1.length : Nat) : Int) + 1))).bind fun r22 =>
  copies_Lay.l1 K r15 x1 K ((r15.1.length : Nat) : Int) (0 : Int) r22.n r22.data
abbrev api_Bits : Type := ByteArray × Int
abbrev Ty_api_Bits : Ty := (.pr .str (.int .i64))
abbrev api_Bits.Data (x : api_Bits) : ByteArray := x.1
abbrev api_Bits.N (x : api_Bits) : Int := x.2
abbrev __bits_Row__Bits.sg : Sig := ⟨[(.box, Ty_bits_Row)], [.o], [(.agg, Ty_api_Bits), (.one, (.int .i64))], [.s, .s, .s, .o]⟩
def __bits_Row__Bits (K : Nat) (x0 : bits_Row) : Option (api_Bits × Int × bits_Row) :=
  if decide (x0.n > 6000) then
    some (((ByteArray.empty, 0) : api_Bits), 2, x0)
  else
    some (((bytesOf x0.data, x0.n) : api_Bits), 0, x0)
abbrev delta_Bits.sg : Sig := ⟨[(.agg, Ty_api_Graph), (.agg, Ty_api_Graph)], [], [(.agg, Ty_api_Bits)], []⟩
def delta_Bits.l1 (K : Nat) (x0 : api_Graph) (x1 : api_Graph) : Nat → Int → Int → ByteArray → Int → Int → (List Int) → Option api_Bits
  | 0, _, _, _, _, _, _ => none
  | k + 1, t_12, t_13, t_10, t_11, r_15, r_14 =>
    if decide (t_13 < t_12) then
      if (0 : Int) ≤ t_13 ∧ t_13 < ((x1.Out.length : Nat) : Int) then
      (delta_list K x0 t_13).bind fun r29 =>
      (copies_Lay K ((r_14, r_15) : bits_Row) t_13 r29 (nth x1.Out t_13)).bind fun r31 =>
      delta_Bits.l1 K x0 x1 k t_12 (wr .i64 (t_13 + 1)) t_10 t_11 r31.n r31.data
      else none
    else
      (__bits_Row__Bits K ((r_14, r_15) : bits_Row)).bind fun r35 =>
      some r35.1
def delta_Bits (K : Nat) (x0 : api_Graph) (x1 : api_Graph) : Option api_Bits :=
  (code_Lay K ((([] : List Int), 0) : bits_Row) 2 (wr .i64 (x1.N + 1))).bind fun r16 =>
  delta_Bits.l1 K x0 x1 K ((x1.Out.length : Nat) : Int) (0 : Int) ByteArray.empty (0 : Int) r16.n r16.data
abbrev delta_Put.sg : Sig := ⟨[(.agg, Ty_api_Graph), (.agg, Ty_api_Graph)], [], [(.agg, Ty_api_Bits), (.one, (.int .i64))], []⟩
def delta_Put (K : Nat) (x0 : api_Graph) (x1 : api_Graph) : Option (api_Bits × Int) :=
  (graph_May K x0).bind fun r7 =>
  if (!r7) then
    some (((ByteArray.empty, 0) : api_Bits), 1)
  else
    (graph_May K x1).bind fun r11 =>
    if (!r11) then
      some (((ByteArray.empty, 0) : api_Bits), 1)
    else
      (delta_Bits K x0 x1).bind fun r17 =>
      some (r17, 0)
abbrev bits_May.sg : Sig := ⟨[(.agg, Ty_api_Bits)], [], [(.one, .bool)], []⟩
def bits_May (K : Nat) (x0 : api_Bits) : Option Bool :=
  if decide (x0.N < 0) then
    some false
  else
    if decide (x0.N > 6000) then
      some false
    else
      if (8 : Int) ≠ 0 then
      if (((x0.Data.size : Nat) : Int) != (wr .i64 ((wr .i64 ((wr .i64 (x0.N + 8)) - 1)).tdiv 8))) then
        some false
      else
        if (8 : Int) ≠ 0 then
        if ((x0.N.tmod 8) == 0) then
          some true
        else
          if (0 : Int) ≤ (wr .i64 (((x0.Data.size : Nat) : Int) - 1)) ∧ (wr .i64 (((x0.Data.size : Nat) : Int) - 1)) < ((x0.Data.size : Nat) : Int) then
          if (0 : Int) ≤ (x0.N.tmod 8) then
          some ((ib .and .u8 (bt x0.Data (wr .i64 (((x0.Data.size : Nat) : Int) - 1))) ((255 : Int).fdiv (2 ^ min ((x0.N.tmod 8)).toNat 8))) == 0)
          else none
          else none
        else none
      else none
abbrev bits_bit.sg : Sig := ⟨[(.agg, Ty_api_Bits), (.one, (.int .i64))], [], [(.one, (.int .i64))], []⟩
def bits_bit (K : Nat) (x0 : api_Bits) (x1 : Int) : Option Int :=
  if (8 : Int) ≠ 0 then
  if (0 : Int) ≤ (wr .i64 (x1.tdiv 8)) ∧ (wr .i64 (x1.tdiv 8)) < ((x0.Data.size : Nat) : Int) then
  if (8 : Int) ≠ 0 then
  if (0 : Int) ≤ (wr .i64 (7 - (x1.tmod 8))) then
  some (ib .and .i64 (wr .i64 ((bt x0.Data (wr .i64 (x1.tdiv 8))).fdiv (2 ^ min ((wr .i64 (7 - (x1.tmod 8)))).toNat 8))) 1)
  else none
  else none
  else none
  else none
abbrev bits_Ahead.sg : Sig := ⟨[(.agg, Ty_api_Bits), (.one, (.int .i64))], [], [(.one, (.int .i64))], []⟩
def bits_Ahead.l1 (K : Nat) (x0 : api_Bits) (x1 : Int) : Nat → Int → Option Int
  | 0, _ => none
  | k + 1, i_10 =>
    if decide (i_10 < x0.N) then
      (bits_bit K x0 i_10).bind fun r15 =>
      if (r15 == 1) then
        some (wr .i64 (i_10 - x1))
      else
        bits_Ahead.l1 K x0 x1 k (wr .i64 (i_10 + 1))
    else
      some ((-1) : Int)
def bits_Ahead (K : Nat) (x0 : api_Bits) (x1 : Int) : Option Int :=
  bits_Ahead.l1 K x0 x1 K x1
abbrev code_reader : Type := api_Bits × Int × Bool
abbrev Ty_code_reader : Ty := (.pr Ty_api_Bits (.pr (.int .i64) .bool))
abbrev code_reader.b (x : code_reader) : api_Bits := x.1
abbrev code_reader.at_ (x : code_reader) : Int := x.2.1
abbrev code_reader.bad (x : code_reader) : Bool := x.2.2
abbrev __code_reader__zeros.sg : Sig := ⟨[(.box, Ty_code_reader), (.one, (.int .i64))], [], [(.one, (.int .i64))], []⟩
def __code_reader__zeros (K : Nat) (x0 : code_reader) (x1 : Int) : Option (Int × code_reader) :=
  (bits_Ahead K x0.b x0.at_).bind fun r14 =>
  if x0.bad then
    some (0, ((x0.b, x0.at_, true) : code_reader))
  else
    if decide (r14 < 0) then
      some (0, ((x0.b, x0.at_, true) : code_reader))
    else
      if decide (r14 > x1) then
        some (0, ((x0.b, x0.at_, true) : code_reader))
      else
        some (r14, ((x0.b, wr .i64 (x0.at_ + r14), x0.bad) : code_reader))
abbrev bits_Look.sg : Sig := ⟨[(.agg, Ty_api_Bits), (.one, (.int .i64)), (.one, (.int .i64))], [], [(.one, (.int .i64)), (.one, .bool)], []⟩
def bits_Look.l1 (K : Nat) (x0 : api_Bits) (x1 : Int) (x2 : Int) : Nat → Int → Int → Option (Int × Bool)
  | 0, _, _ => none
  | k + 1, v_10, t_11 =>
    if decide (t_11 < x2) then
      if (0 : Int) ≤ 1 then
      (bits_bit K x0 (wr .i64 (x1 + t_11))).bind fun r32 =>
      bits_Look.l1 K x0 x1 x2 k (ib .or .i64 (wr .i64 (v_10 * 2 ^ min ((1 : Int)).toNat 64)) r32) (wr .i64 (t_11 + 1))
      else none
    else
      some (v_10, true)
def bits_Look (K : Nat) (x0 : api_Bits) (x1 : Int) (x2 : Int) : Option (Int × Bool) :=
  if decide (x1 > x0.N) then
    some (0, false)
  else
    if decide (x2 > (wr .i64 (x0.N - x1))) then
      some (0, false)
    else
      bits_Look.l1 K x0 x1 x2 K (0 : Int) (0 : Int)
abbrev __code_reader__look.sg : Sig := ⟨[(.box, Ty_code_reader), (.one, (.int .i64))], [], [(.one, (.int .i64))], []⟩
def __code_reader__look (K : Nat) (x0 : code_reader) (x1 : Int) : Option (Int × code_reader) :=
  (bits_Look K x0.b x0.at_ x1).bind fun r17 =>
  if x0.bad then
    some (0, ((x0.b, x0.at_, true) : code_reader))
  else
    if (!r17.2) then
      some (0, ((x0.b, x0.at_, true) : code_reader))
    else
      some (r17.1, ((x0.b, wr .i64 (x0.at_ + x1), x0.bad) : code_reader))
abbrev __code_reader__unary.sg : Sig := ⟨[(.box, Ty_code_reader), (.one, (.int .i64))], [], [(.one, (.int .i64))], []⟩
def __code_reader__unary (K : Nat) (x0 : code_reader) (x1 : Int) : Option (Int × code_reader) :=
  (__code_reader__zeros K x0 (wr .i64 (x1 - 1))).bind fun r9 =>
  (__code_reader__look K r9.2 1).bind fun r11 =>
  some (wr .i64 (r9.1 + 1), r11.2)
abbrev __code_reader__gamma.sg : Sig := ⟨[(.box, Ty_code_reader)], [], [(.one, (.int .i64))], []⟩
def __code_reader__gamma (K : Nat) (x0 : code_reader) : Option (Int × code_reader) :=
  (__code_reader__zeros K x0 30).bind fun r5 =>
  (__code_reader__look K r5.2 (wr .i64 (r5.1 + 1))).bind fun r9 =>
  some (r9.1, r9.2)
abbrev __code_reader__delta.sg : Sig := ⟨[(.box, Ty_code_reader)], [], [(.one, (.int .i64))], []⟩
def __code_reader__delta (K : Nat) (x0 : code_reader) : Option (Int × code_reader) :=
  (__code_reader__gamma K x0).bind fun r5 =>
  if r5.2.bad then
    some (0, ((r5.2.b, r5.2.at_, true) : code_reader))
  else
    if decide ((wr .i64 (r5.1 - 1)) > 30) then
      some (0, ((r5.2.b, r5.2.at_, true) : code_reader))
    else
      if (0 : Int) ≤ (wr .i64 (r5.1 - 1)) then
      (__code_reader__look K r5.2 (wr .i64 (r5.1 - 1))).bind fun r22 =>
      some (ib .or .i64 (wr .i64 ((1 : Int) * 2 ^ min ((wr .i64 (r5.1 - 1))).toNat 64)) r22.1, r22.2)
      else none
abbrev __code_reader__zeta.sg : Sig := ⟨[(.box, Ty_code_reader), (.one, (.int .i64))], [], [(.one, (.int .i64))], []⟩
def __code_reader__zeta (K : Nat) (x0 : code_reader) (x1 : Int) : Option (Int × code_reader) :=
  if x1 ≠ 0 then
  (__code_reader__unary K x0 (wr .i64 ((wr .i64 ((30 : Int).tdiv x1)) + 1))).bind fun r15 =>
  if r15.2.bad then
    some (0, r15.2)
  else
    (code_zeta K x1 (wr .i64 (r15.1 - 1))).bind fun r24 =>
    (__code_reader__look K r15.2 (wr .i64 (r24.2.2.1 - 1))).bind fun r32 =>
    if decide (r32.1 ≥ r24.2.2.2) then
      if (0 : Int) ≤ 1 then
      (__code_reader__look K r32.2 1).bind fun r39 =>
      some (wr .i64 (r24.1 + (wr .i64 ((wr .i64 ((wr .i64 (r32.1 * 2 ^ min ((1 : Int)).toNat 64)) + r39.1)) - r24.2.2.2))), r39.2)
      else none
    else
      some (wr .i64 (r24.1 + r32.1), r32.2)
  else none
abbrev code_Read.sg : Sig := ⟨[(.agg, Ty_api_Bits), (.one, (.int .i64)), (.one, (.int .i64))], [], [(.one, (.int .i64)), (.one, (.int .i64)), (.one, .bool)], []⟩
def code_Read.j1 (K : Nat) (n_14 : Int) (r_10 : ByteArray) (r_11 : Int) (r_12 : Int) (r_13 : Bool) : Option (Int × Int × Bool) :=
  if r_13 then
    some (0, 0, false)
  else
    if decide (n_14 > 1073741824) then
      some (0, 0, false)
    else
      some (n_14, r_12, true)
def code_Read (K : Nat) (x0 : api_Bits) (x1 : Int) (x2 : Int) : Option (Int × Int × Bool) :=
  if (x2 == 1) then
    (__code_reader__unary K ((x0, x1, false) : code_reader) 1000).bind fun r23 =>
    code_Read.j1 K r23.1 r23.2.b.Data r23.2.b.N r23.2.at_ r23.2.bad
  else
    if (x2 == 2) then
      (__code_reader__gamma K ((x0, x1, false) : code_reader)).bind fun r27 =>
      code_Read.j1 K r27.1 r27.2.b.Data r27.2.b.N r27.2.at_ r27.2.bad
    else
      if (x2 == 3) then
        (__code_reader__delta K ((x0, x1, false) : code_reader)).bind fun r31 =>
        code_Read.j1 K r31.1 r31.2.b.Data r31.2.b.N r31.2.at_ r31.2.bad
      else
        (code_parts K x2).bind fun r18 =>
        (__code_reader__zeta K ((x0, x1, false) : code_reader) r18).bind fun r19 =>
        code_Read.j1 K r19.1 r19.2.b.Data r19.2.b.N r19.2.at_ r19.2.bad
abbrev frame_Head.sg : Sig := ⟨[(.agg, Ty_api_Bits)], [], [(.one, (.int .i64)), (.one, (.int .i64)), (.one, .bool)], []⟩
def frame_Head (K : Nat) (x0 : api_Bits) : Option (Int × Int × Bool) :=
  (code_Read K x0 0 2).bind fun r7 =>
  if (!r7.2.2) then
    some (0, 0, false)
  else
    if decide (r7.1 > 17) then
      some (0, 0, false)
    else
      some (wr .i64 (r7.1 - 1), r7.2.1, true)
abbrev code_Unfold.sg : Sig := ⟨[(.one, (.int .i64))], [], [(.one, (.int .i64))], []⟩
def code_Unfold (K : Nat) (x0 : Int) : Option Int :=
  if (2 : Int) ≠ 0 then
  if ((x0.tmod 2) == 1) then
    if (2 : Int) ≠ 0 then
    some (wr .i64 ((wr .i64 (0 - (wr .i64 (x0 + 1)))).tdiv 2))
    else none
  else
    if (2 : Int) ≠ 0 then
    some (wr .i64 (x0.tdiv 2))
    else none
  else none
abbrev runs_read.sg : Sig := ⟨[(.agg, Ty_api_Bits), (.one, (.int .i64)), (.one, (.int .i64))], [], [(.one, (.sl Ty_api_Run)), (.one, (.int .i64)), (.one, .bool)], [.o]⟩
def runs_read.j2 (K : Nat) (go_l1 : Int → Int → Int → Int → (List api_Run) → Option ((List api_Run) × Int × Bool)) (r48 : Int × Int × Bool) (t_10 : Int) (t_11 : Int) (t_13 : List api_Run) (t_15 : Int) (x0 : api_Bits) (t_12 : Int) : Option ((List api_Run) × Int × Bool) :=
  if (t_13.length + ([((wr .i64 (t_15 + t_12), wr .i64 ((wr .i64 (r48.1 - 1)) + 3)) : api_Run)] : List api_Run).length) * 16 ≤ 140737488355328 then
  go_l1 r48.2.1 (wr .i64 ((wr .i64 (t_15 + t_12)) + (wr .i64 ((wr .i64 (r48.1 - 1)) + 3)))) t_10 (wr .i64 (t_11 + 1)) (t_13 ++ ([((wr .i64 (t_15 + t_12), wr .i64 ((wr .i64 (r48.1 - 1)) + 3)) : api_Run)] : List api_Run))
  else none
def runs_read.l1 (K : Nat) (x0 : api_Bits) : Nat → Int → Int → Int → Int → (List api_Run) → Option ((List api_Run) × Int × Bool)
  | 0, _, _, _, _, _ => none
  | k + 1, t_14, t_15, t_10, t_11, t_13 =>
    if decide (t_11 < t_10) then
      (code_Read K x0 t_14 2).bind fun r39 =>
      if (!r39.2.2) then
        some (([] : List api_Run), 0, false)
      else
        (code_Read K x0 r39.2.1 2).bind fun r48 =>
        if (!r48.2.2) then
          some (([] : List api_Run), 0, false)
        else
          if (t_11 == 0) then
            (code_Unfold K (wr .i64 (r39.1 - 1))).bind fun r58 =>
            runs_read.j2 K (runs_read.l1 K x0 k) r48 t_10 t_11 t_13 t_15 x0 r58
          else
            runs_read.j2 K (runs_read.l1 K x0 k) r48 t_10 t_11 t_13 t_15 x0 r39.1
    else
      some (t_13, t_14, true)
def runs_read (K : Nat) (x0 : api_Bits) (x1 : Int) (x2 : Int) : Option ((List api_Run) × Int × Bool) :=
  (code_Read K x0 x1 2).bind fun r20 =>
  if (!r20.2.2) then
    some (([] : List api_Run), 0, false)
  else
    if decide (r20.1 > 16) then
      some (([] : List api_Run), 0, false)
    else
      runs_read.l1 K x0 K r20.2.1 x2 (wr .i64 (r20.1 - 1)) (0 : Int) ([] : List api_Run)
abbrev gaps_Read.sg : Sig := ⟨[(.agg, Ty_api_Bits), (.one, (.int .i64)), (.one, (.int .i64))], [], [(.one, (.sl (.int .i64))), (.one, (.int .i64)), (.one, .bool)], [.o]⟩
def gaps_Read.j2 (K : Nat) (go_l1 : Int → Int → Int → Int → (List Int) → Option ((List Int) × Int × Bool)) (l_13 : List Int) (last_15 : Int) (r35 : Int × Int × Bool) (t_10 : Int) (t_11 : Int) (x0 : api_Bits) (n_12 : Int) : Option ((List Int) × Int × Bool) :=
  (gaps_Is K (wr .i64 (last_15 + n_12))).bind fun r50 =>
  if (!r50) then
    some (([] : List Int), 0, false)
  else
    if (l_13.length + ([wr .i64 (last_15 + n_12)] : List Int).length) * 8 ≤ 140737488355328 then
    go_l1 r35.2.1 (wr .i64 (last_15 + n_12)) t_10 (wr .i64 (t_11 + 1)) (l_13 ++ ([wr .i64 (last_15 + n_12)] : List Int))
    else none
def gaps_Read.l1 (K : Nat) (x0 : api_Bits) : Nat → Int → Int → Int → Int → (List Int) → Option ((List Int) × Int × Bool)
  | 0, _, _, _, _, _ => none
  | k + 1, next_14, last_15, t_10, t_11, l_13 =>
    if decide (t_11 < t_10) then
      (code_Read K x0 next_14 2).bind fun r35 =>
      if (!r35.2.2) then
        some (([] : List Int), 0, false)
      else
        if (t_11 == 0) then
          (code_Unfold K (wr .i64 (r35.1 - 1))).bind fun r45 =>
          gaps_Read.j2 K (gaps_Read.l1 K x0 k) l_13 last_15 r35 t_10 t_11 x0 r45
        else
          gaps_Read.j2 K (gaps_Read.l1 K x0 k) l_13 last_15 r35 t_10 t_11 x0 r35.1
    else
      some (l_13, next_14, true)
def gaps_Read (K : Nat) (x0 : api_Bits) (x1 : Int) (x2 : Int) : Option ((List Int) × Int × Bool) :=
  (code_Read K x0 x1 2).bind fun r16 =>
  if (!r16.2.2) then
    some (([] : List Int), 0, false)
  else
    if decide (r16.1 > 17) then
      some (([] : List Int), 0, false)
    else
      gaps_Read.l1 K x0 K r16.2.1 x2 (wr .i64 (r16.1 - 1)) (0 : Int) ([] : List Int)
abbrev slices_Clone___int_int_.sg : Sig := ⟨[(.one, (.sl (.int .i64)))], [], [(.one, (.sl (.int .i64)))], [.o]⟩
def slices_Clone___int_int_ (K : Nat) (x0 : List Int) : Option (List Int) :=
  if (([] : List Int).length + x0.length) * 8 ≤ 140737488355328 then
  some (([] : List Int) ++ x0)
  else none
abbrev runs_Whole.sg : Sig := ⟨[(.one, (.sl Ty_api_Run)), (.one, (.sl (.int .i64)))], [], [(.one, (.sl (.int .i64))), (.one, .bool)], [.o]⟩
def runs_Whole.l2 (K : Nat) (go_l1 : Int → Int → Int → (List Int) → Option ((List Int) × Bool)) (t_11 : Int) (t_12 : Int) (x0 : List api_Run) (x1 : List Int) : Nat → Int → Int → (List Int) → Option ((List Int) × Bool)
  | 0, _, _, _ => none
  | k + 1, t_13, t_14, t_15 =>
    if decide (t_14 < t_13) then
      if (t_15.length + ([t_14] : List Int).length) * 8 ≤ 140737488355328 then
      runs_Whole.l2 K go_l1 t_11 t_12 x0 x1 k t_13 (wr .i64 (t_14 + 1)) (t_15 ++ ([t_14] : List Int))
      else none
    else
      go_l1 t_13 t_11 (wr .i64 (t_12 + 1)) t_15
def runs_Whole.l1 (K : Nat) (x0 : List api_Run) (x1 : List Int) : Nat → Int → Int → Int → (List Int) → Option ((List Int) × Bool)
  | 0, _, _, _, _ => none
  | k + 1, t_10, t_11, t_12, t_16 =>
    if decide (t_12 < t_11) then
      if (0 : Int) ≤ t_12 ∧ t_12 < ((x0.length : Nat) : Int) then
      if decide (((nth x0 t_12).Len) < 3) then
        some (([] : List Int), false)
      else
        if decide (((nth x0 t_12).Len) > 16) then
          some (([] : List Int), false)
        else
          if decide (((nth x0 t_12).At) ≤ t_10) then
            some (([] : List Int), false)
          else
            (gaps_Is K ((nth x0 t_12).At)).bind fun r36 =>
            if (!r36) then
              some (([] : List Int), false)
            else
              (gaps_Is K (wr .i64 ((wr .i64 (((nth x0 t_12).At) + ((nth x0 t_12).Len))) - 1))).bind fun r46 =>
              if (!r46) then
                some (([] : List Int), false)
              else
                runs_Whole.l2 K (runs_Whole.l1 K x0 x1 k) t_11 t_12 x0 x1 K (wr .i64 (((nth x0 t_12).At) + ((nth x0 t_12).Len))) ((nth x0 t_12).At) t_16
      else none
    else
      if t_16.length < 4611686018427387904 then
      (gaps_May K x1).bind fun r70 =>
      if r70 then
        (gaps_May K (sortF t_16)).bind fun r73 =>
        some (sortF t_16, r73)
      else
        some (sortF t_16, false)
      else none
def runs_Whole (K : Nat) (x0 : List api_Run) (x1 : List Int) : Option ((List Int) × Bool) :=
  (slices_Clone___int_int_ K x1).bind fun r12 =>
  runs_Whole.l1 K x0 x1 K ((-1) : Int) ((x0.length : Nat) : Int) (0 : Int) r12
abbrev slices_Equal___api_Run_api_Run_.sg : Sig := ⟨[(.one, (.sl Ty_api_Run)), (.one, (.sl Ty_api_Run))], [], [(.one, .bool)], []⟩
def slices_Equal___api_Run_api_Run_.l1 (K : Nat) (x0 : List api_Run) (x1 : List api_Run) : Nat → Int → Int → Option Bool
  | 0, _, _ => none
  | k + 1, t_10, t_11 =>
    if decide (t_11 < t_10) then
      if (0 : Int) ≤ t_11 ∧ t_11 < ((x0.length : Nat) : Int) then
      if (0 : Int) ≤ t_11 ∧ t_11 < ((x1.length : Nat) : Int) then
      if (!((((nth x0 t_11).At) == ((nth x1 t_11).At)) && ((((nth x0 t_11).Len) == ((nth x1 t_11).Len)) && true))) then
        some false
      else
        slices_Equal___api_Run_api_Run_.l1 K x0 x1 k t_10 (wr .i64 (t_11 + 1))
      else none
      else none
    else
      some true
def slices_Equal___api_Run_api_Run_ (K : Nat) (x0 : List api_Run) (x1 : List api_Run) : Option Bool :=
  if (((x0.length : Nat) : Int) != ((x1.length : Nat) : Int)) then
    some false
  else
    slices_Equal___api_Run_api_Run_.l1 K x0 x1 K ((x0.length : Nat) : Int) (0 : Int)
abbrev slices_Equal___int_int_.sg : Sig := ⟨[(.one, (.sl (.int .i64))), (.one, (.sl (.int .i64)))], [], [(.one, .bool)], []⟩
def slices_Equal___int_int_.l1 (K : Nat) (x0 : List Int) (x1 : List Int) : Nat → Int → Int → Option Bool
  | 0, _, _ => none
  | k + 1, t_10, t_11 =>
    if decide (t_11 < t_10) then
      if (0 : Int) ≤ t_11 ∧ t_11 < ((x0.length : Nat) : Int) then
      if (0 : Int) ≤ t_11 ∧ t_11 < ((x1.length : Nat) : Int) then
      if ((nth x0 t_11) != (nth x1 t_11)) then
        some false
      else
        slices_Equal___int_int_.l1 K x0 x1 k t_10 (wr .i64 (t_11 + 1))
      else none
      else none
    else
      some true
def slices_Equal___int_int_ (K : Nat) (x0 : List Int) (x1 : List Int) : Option Bool :=
  if (((x0.length : Nat) : Int) != ((x1.length : Nat) : Int)) then
    some false
  else
    slices_Equal___int_int_.l1 K x0 x1 K ((x0.length : Nat) : Int) (0 : Int)
abbrev runs_Read.sg : Sig := ⟨[(.agg, Ty_api_Bits), (.one, (.int .i64)), (.one, (.int .i64))], [], [(.one, (.sl (.int .i64))), (.one, (.int .i64)), (.one, .bool)], [.o]⟩
def runs_Read (K : Nat) (x0 : api_Bits) (x1 : Int) (x2 : Int) : Option ((List Int) × Int × Bool) :=
  (runs_read K x0 x1 x2).bind fun r17 =>
  if (!r17.2.2) then
    some (([] : List Int), 0, false)
  else
    (gaps_Read K x0 r17.2.1 x2).bind fun r27 =>
    if (!r27.2.2) then
      some (([] : List Int), 0, false)
    else
      (runs_Whole K r17.1 r27.1).bind fun r36 =>
      if (!r36.2) then
        some (([] : List Int), 0, false)
      else
        (runs_Parts K r36.1).bind fun r43 =>
        (slices_Equal___api_Run_api_Run_ K r43.1 r17.1).bind fun r50 =>
        if r50 then
          (slices_Equal___int_int_ K r43.2 r27.1).bind fun r54 =>
          some (r36.1, r27.2.1, r54)
        else
          some (r36.1, r27.2.1, false)
abbrev copies_Whole.sg : Sig := ⟨[(.one, (.sl (.int .i64))), (.one, (.sl (.int .i64))), (.one, (.sl (.int .i64)))], [], [(.one, (.sl (.int .i64))), (.one, .bool)], [.o]⟩
def copies_Whole.j3 (K : Nat) (x0 : List Int) (x1 : List Int) (x2 : List Int) (t_14 : List Int) : Option ((List Int) × Bool) :=
  if t_14.length < 4611686018427387904 then
  (gaps_May K (sortF t_14)).bind fun r51 =>
  if (!r51) then
    some (([] : List Int), false)
  else
    (copies_Parts K x0 (sortF t_14)).bind fun r56 =>
    (slices_Equal___int_int_ K r56.1 x1).bind fun r62 =>
    if r62 then
      (slices_Equal___int_int_ K r56.2 x2).bind fun r66 =>
      some (sortF t_14, r66)
    else
      some (sortF t_14, false)
  else none
def copies_Whole.j2 (K : Nat) (go_l1 : (List Int) → Bool → Int → Int → (List Int) → Option ((List Int) × Bool)) (t_10 : Int) (t_11 : Int) (t_16 : List Int) (t_17 : Bool) (x0 : List Int) (x1 : List Int) (x2 : List Int) (t_13 : Int) (t_12 : List Int) : Option ((List Int) × Bool) :=
  if (0 : Int) ≤ t_13 ∧ t_13 ≤ ((t_16.length : Nat) : Int) ∧ ((t_16.length : Nat) : Int) ≤ ((t_16.length : Nat) : Int) then
  go_l1 (((t_16).drop t_13.toNat).take (((t_16.length : Nat) : Int).toNat - t_13.toNat)) (!t_17) t_10 (wr .i64 (t_11 + 1)) t_12
  else none
def copies_Whole.l1 (K : Nat) (x0 : List Int) (x1 : List Int) (x2 : List Int) : Nat → (List Int) → Bool → Int → Int → (List Int) → Option ((List Int) × Bool)
  | 0, _, _, _, _, _ => none
  | k + 1, t_16, t_17, t_10, t_11, t_15 =>
    if decide (t_11 < t_10) then
      if (0 : Int) ≤ t_11 ∧ t_11 < ((x1.length : Nat) : Int) then
      if decide ((nth x1 t_11) < 0) then
        some (([] : List Int), false)
      else
        if decide ((nth x1 t_11) > ((t_16.length : Nat) : Int)) then
          some (([] : List Int), false)
        else
          if t_17 then
            if (0 : Int) ≤ (0 : Int) ∧ (0 : Int) ≤ (nth x1 t_11) ∧ (nth x1 t_11) ≤ ((t_16.length : Nat) : Int) then
            if (t_15.length + (((t_16).drop (0 : Int).toNat).take ((nth x1 t_11).toNat - (0 : Int).toNat)).length) * 8 ≤ 140737488355328 then
            copies_Whole.j2 K (copies_Whole.l1 K x0 x1 x2 k) t_10 t_11 t_16 t_17 x0 x1 x2 (nth x1 t_11) (t_15 ++ (((t_16).drop (0 : Int).toNat).take ((nth x1 t_11).toNat - (0 : Int).toNat)))
            else none
            else none
          else
            copies_Whole.j2 K (copies_Whole.l1 K x0 x1 x2 k) t_10 t_11 t_16 t_17 x0 x1 x2 (nth x1 t_11) t_15
      else none
    else
      if t_17 then
        if (t_15.length + t_16.length) * 8 ≤ 140737488355328 then
        copies_Whole.j3 K x0 x1 x2 (t_15 ++ t_16)
        else none
      else
        copies_Whole.j3 K x0 x1 x2 t_15
def copies_Whole (K : Nat) (x0 : List Int) (x1 : List Int) (x2 : List Int) : Option ((List Int) × Bool) :=
  (slices_Clone___int_int_ K x2).bind fun r16 =>
  copies_Whole.l1 K x0 x1 x2 K x0 true ((x1.length : Nat) : Int) (0 : Int) r16
abbrev copies_Read.sg : Sig := ⟨[(.agg, Ty_api_Bits), (.one, (.int .i64)), (.one, (.int .i64)), (.one, (.sl (.int .i64)))], [], [(.one, (.sl (.int .i64))), (.one, (.int .i64)), (.one, .bool)], [.o]⟩
def copies_Read.l1 (K : Nat) (x0 : api_Bits) (x2 : Int) (x3 : List Int) : Nat → Int → Int → Int → (List Int) → Option ((List Int) × Int × Bool)
  | 0, _, _, _, _ => none
  | k + 1, t_12, t_10, t_11, t_13 =>
    if decide (t_11 < t_10) then
      (code_Read K x0 t_12 2).bind fun r37 =>
      if (!r37.2.2) then
        some (([] : List Int), 0, false)
      else
        if (t_11 == 0) then
          if (t_13.length + ([wr .i64 (r37.1 - 1)] : List Int).length) * 8 ≤ 140737488355328 then
          copies_Read.l1 K x0 x2 x3 k r37.2.1 t_10 (wr .i64 (t_11 + 1)) (t_13 ++ ([wr .i64 (r37.1 - 1)] : List Int))
          else none
        else
          if (t_13.length + ([r37.1] : List Int).length) * 8 ≤ 140737488355328 then
          copies_Read.l1 K x0 x2 x3 k r37.2.1 t_10 (wr .i64 (t_11 + 1)) (t_13 ++ ([r37.1] : List Int))
          else none
    else
      (runs_Read K x0 t_12 x2).bind fun r56 =>
      if (!r56.2.2) then
        some (([] : List Int), 0, false)
      else
        (copies_Whole K x3 t_13 r56.1).bind fun r66 =>
        some (r66.1, r56.2.1, r66.2)
def copies_Read (K : Nat) (x0 : api_Bits) (x1 : Int) (x2 : Int) (x3 : List Int) : Option ((List Int) × Int × Bool) :=
  (code_Read K x0 x1 2).bind fun r19 =>
  if (!r19.2.2) then
    some (([] : List Int), 0, false)
  else
    if decide (r19.1 > 17) then
      some (([] : List Int), 0, false)
    else
      copies_Read.l1 K x0 x2 x3 K r19.2.1 (wr .i64 (r19.1 - 1)) (0 : Int) ([] : List Int)
abbrev delta_Read_1.sg : Sig := ⟨[(.one, (.int .i64)), (.one, (.int .i64)), (.box, Ty_api_Bits), (.box, Ty_api_Graph)], [], [(.one, (.sl (.int .i64))), (.one, (.int .i64)), (.one, .bool)], [.o]⟩
def delta_Read_1 (K : Nat) (x0 : Int) (x1 : Int) (x2 : api_Bits) (x3 : api_Graph) : Option ((List Int) × Int × Bool × api_Bits × api_Graph) :=
  (delta_list K x3 x1).bind fun r14 =>
  (copies_Read K x2 x0 x1 r14).bind fun r15 =>
  some (r15.1, r15.2.1, r15.2.2, x2, x3)
abbrev graph_Empty.sg : Sig := ⟨[(.one, (.int .i64))], [], [(.agg, Ty_api_Graph)], [.s, .o]⟩
def graph_Empty (K : Nat) (x0 : Int) : Option api_Graph :=
  if x0 = x0 ∧ (0 : Int) ≤ x0 ∧ (24 : Int) * x0 ≤ 281474976710656 ∧ x0 ≤ 9223372036854775807 then
  some ((x0, List.replicate x0.toNat ([] : List Int)) : api_Graph)
  else none
abbrev frame_Lists_delta_Read_1.sg : Sig := ⟨[(.one, (.int .i64)), (.one, (.int .i64)), (.one, (.int .i64)), (.fn 133 2, .un), (.hid, Ty_api_Bits), (.hid, Ty_api_Graph)], [], [(.agg, Ty_api_Graph), (.one, (.int .i64)), (.one, .bool)], [.s, .o]⟩
def frame_Lists_delta_Read_1.l1 (K : Nat) (r17 : api_Graph) (x1 : Int) : Nat → Int → Int → ByteArray → Int → Int → (List (List Int)) → Int → (List (List Int)) → Option (api_Graph × Int × Bool × api_Bits × api_Graph)
  | 0, _, _, _, _, _, _, _, _ => none
  | k + 1, at_16, t_11, h_12, h_13, h_14, h_15, t_10, g_17 =>
    if decide (t_11 < x1) then
      (delta_Read_1 K at_16 t_11 ((h_12, h_13) : api_Bits) ((h_14, h_15) : api_Graph)).bind fun r26 =>
      if (!r26.2.2.1) then
        some (((0, ([] : List (List Int))) : api_Graph), 0, false, r26.2.2.2.1, r26.2.2.2.2)
      else
        if (0 : Int) ≤ t_11 ∧ t_11 < ((g_17.length : Nat) : Int) then
        frame_Lists_delta_Read_1.l1 K r17 x1 k r26.2.1 (wr .i64 (t_11 + 1)) r26.2.2.2.1.Data r26.2.2.2.1.N r26.2.2.2.2.N r26.2.2.2.2.Out t_10 ((g_17).set t_11.toNat r26.1)
        else none
    else
      (graph_May K ((r17.N, g_17) : api_Graph)).bind fun r43 =>
      some (((r17.N, g_17) : api_Graph), at_16, r43, ((h_12, h_13) : api_Bits), ((h_14, h_15) : api_Graph))
def frame_Lists_delta_Read_1 (K : Nat) (x0 : Int) (x1 : Int) (x2 : Int) (x4 : api_Bits) (x5 : api_Graph) : Option (api_Graph × Int × Bool × api_Bits × api_Graph) :=
  (graph_Empty K x0).bind fun r17 =>
  frame_Lists_delta_Read_1.l1 K r17 x1 K x2 (0 : Int) x4.Data x4.N x5.N x5.Out (0 : Int) r17.Out
abbrev delta_Read.sg : Sig := ⟨[(.agg, Ty_api_Graph), (.agg, Ty_api_Bits)], [], [(.agg, Ty_api_Graph), (.one, .bool)], [.s, .o]⟩
def delta_Read (K : Nat) (x0 : api_Graph) (x1 : api_Bits) : Option (api_Graph × Bool) :=
  (frame_Head K x1).bind fun r13 =>
  if (!r13.2.2) then
    some (((0, ([] : List (List Int))) : api_Graph), false)
  else
    (frame_Lists_delta_Read_1 K r13.1 r13.1 r13.2.1 x1 x0).bind fun r25 =>
    if r25.2.2.1 then
      some (r25.1, (r25.2.1 == r25.2.2.2.1.N))
    else
      some (r25.1, false)
abbrev delta_Take.sg : Sig := ⟨[(.agg, Ty_api_Graph), (.agg, Ty_api_Bits)], [], [(.agg, Ty_api_Graph), (.one, (.int .i64))], [.s, .o]⟩
def delta_Take (K : Nat) (x0 : api_Graph) (x1 : api_Bits) : Option (api_Graph × Int) :=
  (graph_May K x0).bind fun r9 =>
  if (!r9) then
    some (((0, ([] : List (List Int))) : api_Graph), 1)
  else
    (bits_May K x1).bind fun r13 =>
    if (!r13) then
      some (((0, ([] : List (List Int))) : api_Graph), 1)
    else
      (delta_Read K x0 x1).bind fun r20 =>
      if (!r20.2) then
        some (((0, ([] : List (List Int))) : api_Graph), 9)
      else
        some (r20.1, 0)
abbrev __bits_Row__Size.sg : Sig := ⟨[(.box, Ty_bits_Row)], [.o], [(.one, (.int .i64))], [.s, .o]⟩
def __bits_Row__Size (K : Nat) (x0 : bits_Row) : Option (Int × bits_Row) :=
  some (x0.n, x0)
abbrev frame_lay.sg : Sig := ⟨[(.agg, Ty_api_Graph)], [], [(.ptr, Ty_bits_Row), (.one, (.sl (.int .i64)))], [.o, .s, .o]⟩
def frame_lay.l1 (K : Nat) (x0 : api_Graph) : Nat → Int → Int → Int → (List Int) → (List Int) → Option (bits_Row × (List Int))
  | 0, _, _, _, _, _ => none
  | k + 1, t_10, t_11, r_13, r_12, at_14 =>
    if decide (t_11 < t_10) then
      if (0 : Int) ≤ t_11 ∧ t_11 < ((x0.Out.length : Nat) : Int) then
      (__bits_Row__Size K ((r_12, r_13) : bits_Row)).bind fun r25 =>
      if (at_14.length + ([r25.1] : List Int).length) * 8 ≤ 140737488355328 then
      (runs_Lay K r25.2 t_11 (nth x0.Out t_11)).bind fun r31 =>
      frame_lay.l1 K x0 k t_10 (wr .i64 (t_11 + 1)) r31.n r31.data (at_14 ++ ([r25.1] : List Int))
      else none
      else none
    else
      some (((r_12, r_13) : bits_Row), at_14)
def frame_lay (K : Nat) (x0 : api_Graph) : Option (bits_Row × (List Int)) :=
  (code_Lay K ((([] : List Int), 0) : bits_Row) 2 (wr .i64 (x0.N + 1))).bind fun r14 =>
  frame_lay.l1 K x0 K ((x0.Out.length : Nat) : Int) (0 : Int) r14.n r14.data ([] : List Int)
abbrev frame_Bits.sg : Sig := ⟨[(.agg, Ty_api_Graph)], [], [(.agg, Ty_api_Bits)], []⟩
def frame_Bits (K : Nat) (x0 : api_Graph) : Option api_Bits :=
  (frame_lay K x0).bind fun r9 =>
  (__bits_Row__Bits K r9.1).bind fun r14 =>
  some r14.1
abbrev delta_Shorter.sg : Sig := ⟨[(.agg, Ty_api_Graph), (.agg, Ty_api_Graph)], [], [(.one, .bool), (.one, (.int .i64))], []⟩
def delta_Shorter (K : Nat) (x0 : api_Graph) (x1 : api_Graph) : Option (Bool × Int) :=
  (graph_May K x0).bind fun r7 =>
  if (!r7) then
    some (false, 1)
  else
    (graph_May K x1).bind fun r11 =>
    if (!r11) then
      some (false, 1)
    else
      (delta_Bits K x0 x1).bind fun r16 =>
      (frame_Bits K x1).bind fun r19 =>
      some (decide (r16.N < r19.N), 0)
abbrev frame_Put.sg : Sig := ⟨[(.agg, Ty_api_Graph)], [], [(.agg, Ty_api_Bits), (.one, (.int .i64))], []⟩
def frame_Put (K : Nat) (x0 : api_Graph) : Option (api_Bits × Int) :=
  (graph_May K x0).bind fun r7 =>
  if (!r7) then
    some (((ByteArray.empty, 0) : api_Bits), 1)
  else
    (frame_lay K x0).bind fun r12 =>
    (__bits_Row__Bits K r12.1).bind fun r16 =>
    some (r16.1, r16.2.1)
abbrev frame_Size.sg : Sig := ⟨[(.agg, Ty_api_Graph)], [], [(.one, (.int .i64)), (.one, (.int .i64))], []⟩
def frame_Size (K : Nat) (x0 : api_Graph) : Option (Int × Int) :=
  (frame_Put K x0).bind fun r8 =>
  some (r8.1.N, r8.2)
abbrev herbariumlaw8_num.sg : Sig := ⟨[(.one, (.int .i64))], [], [(.one, (.int .i64))], []⟩
def herbariumlaw8_num (K : Nat) (x0 : Int) : Option Int :=
  some x0
abbrev herbariumref0_EqNumbers.sg : Sig := ⟨[(.one, (.sl (.int .i64))), (.one, (.sl (.int .i64)))], [], [(.one, .bool)], []⟩
def herbariumref0_EqNumbers.l1 (K : Nat) (x0 : List Int) (x1 : List Int) : Nat → Int → Option Bool
  | 0, _ => none
  | k + 1, i_10 =>
    if decide (i_10 < ((x0.length : Nat) : Int)) then
      if (0 : Int) ≤ i_10 ∧ i_10 < ((x0.length : Nat) : Int) then
      if (0 : Int) ≤ i_10 ∧ i_10 < ((x1.length : Nat) : Int) then
      if ((nth x0 i_10) != (nth x1 i_10)) then
        some false
      else
        herbariumref0_EqNumbers.l1 K x0 x1 k (wr .i64 (i_10 + 1))
      else none
      else none
    else
      some true
def herbariumref0_EqNumbers (K : Nat) (x0 : List Int) (x1 : List Int) : Option Bool :=
  if (((x0.length : Nat) : Int) != ((x1.length : Nat) : Int)) then
    some false
  else
    herbariumref0_EqNumbers.l1 K x0 x1 K (0 : Int)
abbrev herbariumref0_EqNumberLists.sg : Sig := ⟨[(.one, (.sl (.sl (.int .i64)))), (.one, (.sl (.sl (.int .i64))))], [], [(.one, .bool)], []⟩
def herbariumref0_EqNumberLists.l1 (K : Nat) (x0 : List (List Int)) (x1 : List (List Int)) : Nat → Int → Option Bool
  | 0, _ => none
  | k + 1, i_10 =>
    if decide (i_10 < ((x0.length : Nat) : Int)) then
      if (0 : Int) ≤ i_10 ∧ i_10 < ((x0.length : Nat) : Int) then
      if (0 : Int) ≤ i_10 ∧ i_10 < ((x1.length : Nat) : Int) then
      (herbariumref0_EqNumbers K (nth x0 i_10) (nth x1 i_10)).bind fun r25 =>
      if (!r25) then
        some false
      else
        herbariumref0_EqNumberLists.l1 K x0 x1 k (wr .i64 (i_10 + 1))
      else none
      else none
    else
      some true
def herbariumref0_EqNumberLists (K : Nat) (x0 : List (List Int)) (x1 : List (List Int)) : Option Bool :=
  if (((x0.length : Nat) : Int) != ((x1.length : Nat) : Int)) then
    some false
  else
    herbariumref0_EqNumberLists.l1 K x0 x1 K (0 : Int)
abbrev herbariumref0_EqGraph.sg : Sig := ⟨[(.agg, Ty_api_Graph), (.agg, Ty_api_Graph)], [], [(.one, .bool)], []⟩
def herbariumref0_EqGraph (K : Nat) (x0 : api_Graph) (x1 : api_Graph) : Option Bool :=
  if (x0.N == x1.N) then
    (herbariumref0_EqNumberLists K x0.Out x1.Out).bind fun r15 =>
    some r15
  else
    some false
abbrev herbariumlaw8_wakes.sg : Sig := ⟨[], [], [(.one, .bool)], []⟩
def herbariumlaw8_wakes (K : Nat) : Option Bool :=
  (delta_Put K ((2, ([([1] : List Int), ([] : List Int)] : List (List Int))) : api_Graph) ((2, ([([1] : List Int), ([] : List Int)] : List (List Int))) : api_Graph)).bind fun r12 =>
  (delta_Take K ((2, ([([1] : List Int), ([] : List Int)] : List (List Int))) : api_Graph) r12.1).bind fun r18 =>
  (herbariumlaw8_num K r12.2).bind fun r22 =>
  if (r22 == 0) then
    (herbariumlaw8_num K r18.2).bind fun r26 =>
    if (r26 == 0) then
      (herbariumref0_EqGraph K r18.1 ((2, ([([1] : List Int), ([] : List Int)] : List (List Int))) : api_Graph)).bind fun r32 =>
      if r32 then
        some (decide (r12.1.N > 0))
      else
        some false
    else
      some false
  else
    some false
abbrev herbariumlaw6_Act : Type := Int × Int × Int
abbrev Ty_herbariumlaw6_Act : Ty := (.pr (.int .i64) (.pr (.int .i64) (.int .i64)))
abbrev herbariumlaw6_Act.Do (x : herbariumlaw6_Act) : Int := x.1
abbrev herbariumlaw6_Act.A (x : herbariumlaw6_Act) : Int := x.2.1
abbrev herbariumlaw6_Act.B (x : herbariumlaw6_Act) : Int := x.2.2
abbrev herbariumlaw6_Script : Type := (List api_Graph) × (List herbariumlaw6_Act)
abbrev Ty_herbariumlaw6_Script : Ty := (.pr (.sl Ty_api_Graph) (.sl Ty_herbariumlaw6_Act))
abbrev herbariumlaw6_Script.G (x : herbariumlaw6_Script) : List api_Graph := x.1
abbrev herbariumlaw6_Script.A (x : herbariumlaw6_Script) : List herbariumlaw6_Act := x.2
abbrev herbariumlaw8_DeltaKinds.sg : Sig := ⟨[(.agg, Ty_herbariumlaw6_Script)], [], [(.one, .bool)], []⟩
def herbariumlaw8_DeltaKinds.l2 (K : Nat) (go_l1 : Int → Option Bool) (t_10 : Int) (x0 : herbariumlaw6_Script) : Nat → Int → Option Bool
  | 0, _ => none
  | k + 1, t_11 =>
    if decide (t_11 < 16) then
      if (17 : Int) ≠ 0 then
      if (4 : Int) ≠ 0 then
      (herbariumlaw7_Made K ((wr .i64 (t_10 + ((x0.A.length : Nat) : Int))).tmod 17) (wr .i64 (t_11.tdiv 4))).bind fun r31 =>
      if (4 : Int) ≠ 0 then
      (herbariumlaw7_Made K t_10 (t_11.tmod 4)).bind fun r35 =>
      (delta_Put K r31 r35).bind fun r39 =>
      (delta_Take K r31 r39.1).bind fun r45 =>
      (delta_Shorter K r31 r35).bind fun r51 =>
      (frame_Size K r35).bind fun r56 =>
      (herbariumlaw8_num K r39.2).bind fun r60 =>
      (herbariumlaw8_num K r45.2).bind fun r62 =>
      (herbariumlaw8_num K r51.2).bind fun r65 =>
      (herbariumlaw8_num K r56.2).bind fun r68 =>
      if ((wr .i64 ((wr .i64 ((wr .i64 (r60 + r62)) + r65)) + r68)) != 0) then
        some false
      else
        (herbariumref0_EqGraph K r45.1 r35).bind fun r74 =>
        if (!r74) then
          some false
        else
          if (!(r51.1 == (decide (r39.1.N < r56.1)))) then
            some false
          else
            herbariumlaw8_DeltaKinds.l2 K go_l1 t_10 x0 k (wr .i64 (t_11 + 1))
      else none
      else none
      else none
    else
      go_l1 (wr .i64 (t_10 + 3))
def herbariumlaw8_DeltaKinds.l1 (K : Nat) (x0 : herbariumlaw6_Script) : Nat → Int → Option Bool
  | 0, _ => none
  | k + 1, t_10 =>
    if decide (t_10 ≤ 16) then
      herbariumlaw8_DeltaKinds.l2 K (herbariumlaw8_DeltaKinds.l1 K x0 k) t_10 x0 K (0 : Int)
    else
      (herbariumlaw8_wakes K).bind fun r85 =>
      some r85
def herbariumlaw8_DeltaKinds (K : Nat) (x0 : herbariumlaw6_Script) : Option Bool :=
  herbariumlaw8_DeltaKinds.l1 K x0 K (0 : Int)
abbrev frame_Read_1.sg : Sig := ⟨[(.one, (.int .i64)), (.one, (.int .i64)), (.box, Ty_api_Bits)], [], [(.one, (.sl (.int .i64))), (.one, (.int .i64)), (.one, .bool)], [.o]⟩
def frame_Read_1 (K : Nat) (x0 : Int) (x1 : Int) (x2 : api_Bits) : Option ((List Int) × Int × Bool × api_Bits) :=
  (runs_Read K x2 x0 x1).bind fun r11 =>
  some (r11.1, r11.2.1, r11.2.2, x2)
abbrev frame_Lists_frame_Read_1.sg : Sig := ⟨[(.one, (.int .i64)), (.one, (.int .i64)), (.one, (.int .i64)), (.fn 129 1, .un), (.hid, Ty_api_Bits)], [], [(.agg, Ty_api_Graph), (.one, (.int .i64)), (.one, .bool)], [.s, .o]⟩
def frame_Lists_frame_Read_1.l1 (K : Nat) (r17 : api_Graph) (x1 : Int) : Nat → Int → Int → ByteArray → Int → Int → (List (List Int)) → Option (api_Graph × Int × Bool × api_Bits)
  | 0, _, _, _, _, _, _ => none
  | k + 1, at_14, t_11, h_12, h_13, t_10, g_15 =>
    if decide (t_11 < x1) then
      (frame_Read_1 K at_14 t_11 ((h_12, h_13) : api_Bits)).bind fun r26 =>
      if (!r26.2.2.1) then
        some (((0, ([] : List (List Int))) : api_Graph), 0, false, r26.2.2.2)
      else
        if (0 : Int) ≤ t_11 ∧ t_11 < ((g_15.length : Nat) : Int) then
        frame_Lists_frame_Read_1.l1 K r17 x1 k r26.2.1 (wr .i64 (t_11 + 1)) r26.2.2.2.Data r26.2.2.2.N t_10 ((g_15).set t_11.toNat r26.1)
        else none
    else
      (graph_May K ((r17.N, g_15) : api_Graph)).bind fun r43 =>
      some (((r17.N, g_15) : api_Graph), at_14, r43, ((h_12, h_13) : api_Bits))
def frame_Lists_frame_Read_1 (K : Nat) (x0 : Int) (x1 : Int) (x2 : Int) (x4 : api_Bits) : Option (api_Graph × Int × Bool × api_Bits) :=
  (graph_Empty K x0).bind fun r17 =>
  frame_Lists_frame_Read_1.l1 K r17 x1 K x2 (0 : Int) x4.Data x4.N (0 : Int) r17.Out
abbrev frame_Read.sg : Sig := ⟨[(.agg, Ty_api_Bits)], [], [(.agg, Ty_api_Graph), (.one, .bool)], [.s, .o]⟩
def frame_Read (K : Nat) (x0 : api_Bits) : Option (api_Graph × Bool) :=
  (frame_Head K x0).bind fun r11 =>
  if (!r11.2.2) then
    some (((0, ([] : List (List Int))) : api_Graph), false)
  else
    (frame_Lists_frame_Read_1 K r11.1 r11.1 r11.2.1 x0).bind fun r23 =>
    if r23.2.2.1 then
      some (r23.1, (r23.2.1 == r23.2.2.2.N))
    else
      some (r23.1, false)
abbrev frame_Take.sg : Sig := ⟨[(.agg, Ty_api_Bits)], [], [(.agg, Ty_api_Graph), (.one, (.int .i64))], [.s, .o]⟩
def frame_Take (K : Nat) (x0 : api_Bits) : Option (api_Graph × Int) :=
  (bits_May K x0).bind fun r7 =>
  if (!r7) then
    some (((0, ([] : List (List Int))) : api_Graph), 1)
  else
    (frame_Read K x0).bind fun r12 =>
    if (!r12.2) then
      some (((0, ([] : List (List Int))) : api_Graph), 9)
    else
      some (r12.1, 0)
abbrev herbariumlaw7_num.sg : Sig := ⟨[(.one, (.int .i64))], [], [(.one, (.int .i64))], []⟩
def herbariumlaw7_num (K : Nat) (x0 : Int) : Option Int :=
  some x0
abbrev frame_One_1.sg : Sig := ⟨[(.one, (.int .i64)), (.one, (.int .i64)), (.box, Ty_api_Bits)], [], [(.one, (.sl (.int .i64))), (.one, (.int .i64)), (.one, .bool)], [.o]⟩
def frame_One_1 (K : Nat) (x0 : Int) (x1 : Int) (x2 : api_Bits) : Option ((List Int) × Int × Bool × api_Bits) :=
  (runs_Read K x2 x0 x1).bind fun r11 =>
  some (r11.1, r11.2.1, r11.2.2, x2)
abbrev frame_Lists_frame_One_1.sg : Sig := ⟨[(.one, (.int .i64)), (.one, (.int .i64)), (.one, (.int .i64)), (.fn 100 1, .un), (.hid, Ty_api_Bits)], [], [(.agg, Ty_api_Graph), (.one, (.int .i64)), (.one, .bool)], [.s, .o]⟩
def frame_Lists_frame_One_1.l1 (K : Nat) (r17 : api_Graph) (x1 : Int) : Nat → Int → Int → ByteArray → Int → Int → (List (List Int)) → Option (api_Graph × Int × Bool × api_Bits)
  | 0, _, _, _, _, _, _ => none
  | k + 1, at_14, t_11, h_12, h_13, t_10, g_15 =>
    if decide (t_11 < x1) then
      (frame_One_1 K at_14 t_11 ((h_12, h_13) : api_Bits)).bind fun r26 =>
      if (!r26.2.2.1) then
        some (((0, ([] : List (List Int))) : api_Graph), 0, false, r26.2.2.2)
      else
        if (0 : Int) ≤ t_11 ∧ t_11 < ((g_15.length : Nat) : Int) then
        frame_Lists_frame_One_1.l1 K r17 x1 k r26.2.1 (wr .i64 (t_11 + 1)) r26.2.2.2.Data r26.2.2.2.N t_10 ((g_15).set t_11.toNat r26.1)
        else none
    else
      (graph_May K ((r17.N, g_15) : api_Graph)).bind fun r43 =>
      some (((r17.N, g_15) : api_Graph), at_14, r43, ((h_12, h_13) : api_Bits))
def frame_Lists_frame_One_1 (K : Nat) (x0 : Int) (x1 : Int) (x2 : Int) (x4 : api_Bits) : Option (api_Graph × Int × Bool × api_Bits) :=
  (graph_Empty K x0).bind fun r17 =>
  frame_Lists_frame_One_1.l1 K r17 x1 K x2 (0 : Int) x4.Data x4.N (0 : Int) r17.Out
abbrev frame_One.sg : Sig := ⟨[(.agg, Ty_api_Bits), (.one, (.int .i64))], [], [(.one, (.sl (.int .i64))), (.one, (.int .i64))], [.o]⟩
def frame_One (K : Nat) (x0 : api_Bits) (x1 : Int) : Option ((List Int) × Int) :=
  (bits_May K x0).bind fun r12 =>
  if (!r12) then
    some (([] : List Int), 1)
  else
    (frame_Head K x0).bind fun r16 =>
    if (!r16.2.2) then
      some (([] : List Int), 9)
    else
      if decide (x1 < 0) then
        some (([] : List Int), 3)
      else
        if decide (x1 ≥ r16.1) then
          some (([] : List Int), 3)
        else
          (frame_Lists_frame_One_1 K r16.1 (wr .i64 (x1 + 1)) r16.2.1 x0).bind fun r37 =>
          if (!r37.2.2.1) then
            some (([] : List Int), 9)
          else
            if (0 : Int) ≤ x1 ∧ x1 < ((r37.1.Out.length : Nat) : Int) then
            some (nth r37.1.Out x1, 0)
            else none
abbrev herbariumlaw7_wakes.sg : Sig := ⟨[], [], [(.one, .bool)], []⟩
def herbariumlaw7_wakes (K : Nat) : Option Bool :=
  (frame_Put K ((0, ([] : List (List Int))) : api_Graph)).bind fun r7 =>
  (frame_Take K r7.1).bind fun r12 =>
  (herbariumlaw7_num K r7.2).bind fun r16 =>
  if (r16 == 0) then
    (herbariumlaw7_num K r12.2).bind fun r20 =>
    if (r20 == 0) then
      if (r7.1.N == 1) then
        some (r12.1.N == 0)
      else
        some false
    else
      some false
  else
    some false
abbrev herbariumlaw7_FrameRings.sg : Sig := ⟨[(.agg, Ty_herbariumlaw6_Script)], [], [(.one, .bool)], []⟩
def herbariumlaw7_FrameRings.l3 (K : Nat) (go_l1 : Int → Option Bool) (go_l2 : Int → Option Bool) (r26 : api_Bits × Int) (t_10 : Int) (t_11 : Int) (x0 : herbariumlaw6_Script) : Nat → Int → (List (List Int)) → Option Bool
  | 0, _, _ => none
  | k + 1, t_12, t_13 =>
    if decide (t_12 < t_10) then
      (frame_One K r26.1 t_12).bind fun r56 =>
      (herbariumlaw7_num K r56.2).bind fun r60 =>
      if (r60 != 0) then
        some false
      else
        if (0 : Int) ≤ t_12 ∧ t_12 < ((t_13.length : Nat) : Int) then
        (herbariumref0_EqNumbers K r56.1 (nth t_13 t_12)).bind fun r69 =>
        if (!r69) then
          some false
        else
          herbariumlaw7_FrameRings.l3 K go_l1 go_l2 r26 t_10 t_11 x0 k (wr .i64 (t_12 + 1)) t_13
        else none
    else
      go_l2 (wr .i64 (t_11 + 1))
def herbariumlaw7_FrameRings.l2 (K : Nat) (go_l1 : Int → Option Bool) (t_10 : Int) (x0 : herbariumlaw6_Script) : Nat → Int → Option Bool
  | 0, _ => none
  | k + 1, t_11 =>
    if decide (t_11 < 4) then
      (herbariumlaw7_Made K t_10 t_11).bind fun r23 =>
      (frame_Put K r23).bind fun r26 =>
      (frame_Take K r26.1).bind fun r31 =>
      (herbariumlaw7_num K r26.2).bind fun r35 =>
      if (r35 != 0) then
        some false
      else
        (herbariumlaw7_num K r31.2).bind fun r39 =>
        if (r39 != 0) then
          some false
        else
          (herbariumref0_EqGraph K r31.1 r23).bind fun r45 =>
          if (!r45) then
            some false
          else
            herbariumlaw7_FrameRings.l3 K go_l1 (herbariumlaw7_FrameRings.l2 K go_l1 t_10 x0 k) r26 t_10 t_11 x0 K (0 : Int) r23.Out
    else
      go_l1 (wr .i64 (t_10 + 1))
def herbariumlaw7_FrameRings.l1 (K : Nat) (x0 : herbariumlaw6_Script) : Nat → Int → Option Bool
  | 0, _ => none
  | k + 1, t_10 =>
    if decide (t_10 ≤ 16) then
      herbariumlaw7_FrameRings.l2 K (herbariumlaw7_FrameRings.l1 K x0 k) t_10 x0 K (0 : Int)
    else
      if decide (((x0.A.length : Nat) : Int) ≥ 0) then
        (herbariumlaw7_wakes K).bind fun r77 =>
        some r77
      else
        some false
def herbariumlaw7_FrameRings (K : Nat) (x0 : herbariumlaw6_Script) : Option Bool :=
  herbariumlaw7_FrameRings.l1 K x0 K (0 : Int)
abbrev herbariumlaw0_Lists.sg : Sig := ⟨[(.one, (.sl (.sl (.int .i64))))], [], [(.one, (.int .i64))], []⟩
def herbariumlaw0_Lists.l1 (K : Nat) (x0 : List (List Int)) : Nat → Int → Int → Option Int
  | 0, _, _ => none
  | k + 1, n_10, i_11 =>
    if decide (i_11 < ((x0.length : Nat) : Int)) then
      if decide (n_10 < 1048576) then
        if (0 : Int) ≤ i_11 ∧ i_11 < ((x0.length : Nat) : Int) then
        herbariumlaw0_Lists.l1 K x0 k (wr .i64 (n_10 + (((nth x0 i_11).length : Nat) : Int))) (wr .i64 (i_11 + 1))
        else none
      else
        some n_10
    else
      some n_10
def herbariumlaw0_Lists (K : Nat) (x0 : List (List Int)) : Option Int :=
  herbariumlaw0_Lists.l1 K x0 K ((x0.length : Nat) : Int) (0 : Int)
abbrev herbariumlaw0_GraphsWeight.sg : Sig := ⟨[(.one, (.sl Ty_api_Graph))], [], [(.one, (.int .i64))], []⟩
def herbariumlaw0_GraphsWeight.l1 (K : Nat) (x0 : List api_Graph) : Nat → Int → Int → Option Int
  | 0, _, _ => none
  | k + 1, n_10, i_11 =>
    if decide (i_11 < ((x0.length : Nat) : Int)) then
      if decide (n_10 < 1048576) then
        if (0 : Int) ≤ i_11 ∧ i_11 < ((x0.length : Nat) : Int) then
        (herbariumlaw0_Lists K ((nth x0 i_11).Out)).bind fun r23 =>
        herbariumlaw0_GraphsWeight.l1 K x0 k (wr .i64 (n_10 + r23)) (wr .i64 (i_11 + 1))
        else none
      else
        some n_10
    else
      some n_10
def herbariumlaw0_GraphsWeight (K : Nat) (x0 : List api_Graph) : Option Int :=
  herbariumlaw0_GraphsWeight.l1 K x0 K ((x0.length : Nat) : Int) (0 : Int)
abbrev herbariumlaw6_Heavy.sg : Sig := ⟨[(.agg, Ty_herbariumlaw6_Script)], [], [(.one, .bool)], []⟩
def herbariumlaw6_Heavy (K : Nat) (x0 : herbariumlaw6_Script) : Option Bool :=
  (herbariumlaw0_GraphsWeight K x0.G).bind fun r5 =>
  some (decide ((wr .i64 (r5 + ((x0.A.length : Nat) : Int))) > 1200))
abbrev delta_Size.sg : Sig := ⟨[(.agg, Ty_api_Graph), (.agg, Ty_api_Graph)], [], [(.one, (.int .i64)), (.one, (.int .i64))], []⟩
def delta_Size (K : Nat) (x0 : api_Graph) (x1 : api_Graph) : Option (Int × Int) :=
  (delta_Put K x0 x1).bind fun r11 =>
  some (r11.1.N, r11.2)
abbrev herbariumlaw8_DeltaBack.sg : Sig := ⟨[(.agg, Ty_herbariumlaw6_Script)], [], [(.one, .bool)], []⟩
def herbariumlaw8_DeltaBack.l2 (K : Nat) (go_l1 : Int → Option Bool) (t_10 : Int) (x0 : herbariumlaw6_Script) : Nat → Int → Option Bool
  | 0, _ => none
  | k + 1, t_11 =>
    if decide (t_11 < ((x0.G.length : Nat) : Int)) then
      if decide (t_11 < 4) then
        if (0 : Int) ≤ t_10 ∧ t_10 < ((x0.G.length : Nat) : Int) then
        if (0 : Int) ≤ t_11 ∧ t_11 < ((x0.G.length : Nat) : Int) then
        (delta_Put K (nth x0.G t_10) (nth x0.G t_11)).bind fun r50 =>
        (herbariumlaw8_num K r50.2).bind fun r54 =>
        if (r54 != 0) then
          herbariumlaw8_DeltaBack.l2 K go_l1 t_10 x0 k (wr .i64 (t_11 + 1))
        else
          if (0 : Int) ≤ t_10 ∧ t_10 < ((x0.G.length : Nat) : Int) then
          (delta_Take K (nth x0.G t_10) r50.1).bind fun r63 =>
          if (0 : Int) ≤ t_10 ∧ t_10 < ((x0.G.length : Nat) : Int) then
          if (0 : Int) ≤ t_11 ∧ t_11 < ((x0.G.length : Nat) : Int) then
          (delta_Size K (nth x0.G t_10) (nth x0.G t_11)).bind fun r77 =>
          (herbariumlaw8_num K r63.2).bind fun r81 =>
          if (r81 != 0) then
            some false
          else
            (herbariumlaw8_num K r77.2).bind fun r85 =>
            if (r85 != 0) then
              some false
            else
              if (0 : Int) ≤ t_11 ∧ t_11 < ((x0.G.length : Nat) : Int) then
              (herbariumref0_EqGraph K r63.1 (nth x0.G t_11)).bind fun r95 =>
              if (!r95) then
                some false
              else
                if (r77.1 != r50.1.N) then
                  some false
                else
                  herbariumlaw8_DeltaBack.l2 K go_l1 t_10 x0 k (wr .i64 (t_11 + 1))
              else none
          else none
          else none
          else none
        else none
        else none
      else
        if (0 : Int) ≤ t_10 ∧ t_10 < ((x0.G.length : Nat) : Int) then
        if (0 : Int) ≤ t_10 ∧ t_10 < ((x0.G.length : Nat) : Int) then
        (delta_Size K (nth x0.G t_10) (nth x0.G t_10)).bind fun r115 =>
        if (0 : Int) ≤ t_10 ∧ t_10 < ((x0.G.length : Nat) : Int) then
        if (0 : Int) ≤ t_10 ∧ t_10 < ((x0.G.length : Nat) : Int) then
        if ((((nth x0.G t_10).Out).length : Nat) : Int) = ((((nth x0.G t_10).Out).length : Nat) : Int) ∧ (0 : Int) ≤ ((((nth x0.G t_10).Out).length : Nat) : Int) ∧ (24 : Int) * ((((nth x0.G t_10).Out).length : Nat) : Int) ≤ 281474976710656 ∧ ((((nth x0.G t_10).Out).length : Nat) : Int) ≤ 9223372036854775807 then
        (delta_Size K ((0, ([] : List (List Int))) : api_Graph) (((nth x0.G t_10).N, List.replicate ((((nth x0.G t_10).Out).length : Nat) : Int).toNat ([] : List Int)) : api_Graph)).bind fun r135 =>
        (herbariumlaw8_num K r115.2).bind fun r139 =>
        if (r139 == 0) then
          (herbariumlaw8_num K r135.2).bind fun r143 =>
          if (r143 != 0) then
            some false
          else
            if (r115.1 != r135.1) then
              some false
            else
              go_l1 (wr .i64 (t_10 + 1))
        else
          go_l1 (wr .i64 (t_10 + 1))
        else none
        else none
        else none
        else none
        else none
    else
      if (0 : Int) ≤ t_10 ∧ t_10 < ((x0.G.length : Nat) : Int) then
      if (0 : Int) ≤ t_10 ∧ t_10 < ((x0.G.length : Nat) : Int) then
      (delta_Size K (nth x0.G t_10) (nth x0.G t_10)).bind fun r115 =>
      if (0 : Int) ≤ t_10 ∧ t_10 < ((x0.G.length : Nat) : Int) then
      if (0 : Int) ≤ t_10 ∧ t_10 < ((x0.G.length : Nat) : Int) then
      if ((((nth x0.G t_10).Out).length : Nat) : Int) = ((((nth x0.G t_10).Out).length : Nat) : Int) ∧ (0 : Int) ≤ ((((nth x0.G t_10).Out).length : Nat) : Int) ∧ (24 : Int) * ((((nth x0.G t_10).Out).length : Nat) : Int) ≤ 281474976710656 ∧ ((((nth x0.G t_10).Out).length : Nat) : Int) ≤ 9223372036854775807 then
      (delta_Size K ((0, ([] : List (List Int))) : api_Graph) (((nth x0.G t_10).N, List.replicate ((((nth x0.G t_10).Out).length : Nat) : Int).toNat ([] : List Int)) : api_Graph)).bind fun r135 =>
      (herbariumlaw8_num K r115.2).bind fun r139 =>
      if (r139 == 0) then
        (herbariumlaw8_num K r135.2).bind fun r143 =>
        if (r143 != 0) then
          some false
        else
          if (r115.1 != r135.1) then
            some false
          else
            go_l1 (wr .i64 (t_10 + 1))
      else
        go_l1 (wr .i64 (t_10 + 1))
      else none
      else none
      else none
      else none
      else none
def herbariumlaw8_DeltaBack.l1 (K : Nat) (x0 : herbariumlaw6_Script) : Nat → Int → Option Bool
  | 0, _ => none
  | k + 1, t_10 =>
    if decide (t_10 < ((x0.G.length : Nat) : Int)) then
      if decide (t_10 < 4) then
        herbariumlaw8_DeltaBack.l2 K (herbariumlaw8_DeltaBack.l1 K x0 k) t_10 x0 K (0 : Int)
      else
        (herbariumlaw8_wakes K).bind fun r151 =>
        some r151
    else
      (herbariumlaw8_wakes K).bind fun r151 =>
      some r151
def herbariumlaw8_DeltaBack (K : Nat) (x0 : herbariumlaw6_Script) : Option Bool :=
  (herbariumlaw6_Heavy K x0).bind fun r16 =>
  if r16 then
    some true
  else
    herbariumlaw8_DeltaBack.l1 K x0 K (0 : Int)
abbrev herbariumlaw7_FrameBack.sg : Sig := ⟨[(.agg, Ty_herbariumlaw6_Script)], [], [(.one, .bool)], []⟩
def herbariumlaw7_FrameBack.l2 (K : Nat) (go_l1 : Int → Option Bool) (r34 : api_Bits × Int) (t_10 : Int) (x0 : herbariumlaw6_Script) : Nat → Int → Option Bool
  | 0, _ => none
  | k + 1, t_11 =>
    if (0 : Int) ≤ t_10 ∧ t_10 < ((x0.G.length : Nat) : Int) then
    if decide (t_11 < ((nth x0.G t_10).N)) then
      (frame_One K r34.1 t_11).bind fun r91 =>
      (herbariumlaw7_num K r91.2).bind fun r95 =>
      if (r95 != 0) then
        some false
      else
        if (0 : Int) ≤ t_10 ∧ t_10 < ((x0.G.length : Nat) : Int) then
        if (0 : Int) ≤ t_11 ∧ t_11 < ((((nth x0.G t_10).Out).length : Nat) : Int) then
        (herbariumref0_EqNumbers K r91.1 (nth ((nth x0.G t_10).Out) t_11)).bind fun r108 =>
        if (!r108) then
          some false
        else
          herbariumlaw7_FrameBack.l2 K go_l1 r34 t_10 x0 k (wr .i64 (t_11 + 1))
        else none
        else none
    else
      if (0 : Int) ≤ t_10 ∧ t_10 < ((x0.G.length : Nat) : Int) then
      (frame_One K r34.1 ((nth x0.G t_10).N)).bind fun r119 =>
      (herbariumlaw7_num K r119.2).bind fun r123 =>
      if (r123 != 3) then
        some false
      else
        go_l1 (wr .i64 (t_10 + 1))
      else none
    else none
def herbariumlaw7_FrameBack.l1 (K : Nat) (x0 : herbariumlaw6_Script) : Nat → Int → Option Bool
  | 0, _ => none
  | k + 1, t_10 =>
    if decide (t_10 < ((x0.G.length : Nat) : Int)) then
      if decide (t_10 < 4) then
        if (0 : Int) ≤ t_10 ∧ t_10 < ((x0.G.length : Nat) : Int) then
        (frame_Put K (nth x0.G t_10)).bind fun r34 =>
        (herbariumlaw7_num K r34.2).bind fun r38 =>
        if (r38 != 0) then
          herbariumlaw7_FrameBack.l1 K x0 k (wr .i64 (t_10 + 1))
        else
          (frame_Take K r34.1).bind fun r42 =>
          if (0 : Int) ≤ t_10 ∧ t_10 < ((x0.G.length : Nat) : Int) then
          (frame_Size K (nth x0.G t_10)).bind fun r51 =>
          (herbariumlaw7_num K r42.2).bind fun r55 =>
          if (r55 != 0) then
            some false
          else
            (herbariumlaw7_num K r51.2).bind fun r59 =>
            if (r59 != 0) then
              some false
            else
              if (0 : Int) ≤ t_10 ∧ t_10 < ((x0.G.length : Nat) : Int) then
              (herbariumref0_EqGraph K r42.1 (nth x0.G t_10)).bind fun r69 =>
              if (!r69) then
                some false
              else
                if (r51.1 != r34.1.N) then
                  some false
                else
                  herbariumlaw7_FrameBack.l2 K (herbariumlaw7_FrameBack.l1 K x0 k) r34 t_10 x0 K (0 : Int)
              else none
          else none
        else none
      else
        (herbariumlaw7_wakes K).bind fun r125 =>
        some r125
    else
      (herbariumlaw7_wakes K).bind fun r125 =>
      some r125
def herbariumlaw7_FrameBack (K : Nat) (x0 : herbariumlaw6_Script) : Option Bool :=
  (herbariumlaw6_Heavy K x0).bind fun r16 =>
  if r16 then
    some true
  else
    herbariumlaw7_FrameBack.l1 K x0 K (0 : Int)
abbrev herbariumlaw0_BitsWeight.sg : Sig := ⟨[(.one, (.sl Ty_api_Bits))], [], [(.one, (.int .i64))], []⟩
def herbariumlaw0_BitsWeight.l1 (K : Nat) (x0 : List api_Bits) : Nat → Int → Int → Option Int
  | 0, _, _ => none
  | k + 1, n_10, i_11 =>
    if decide (i_11 < ((x0.length : Nat) : Int)) then
      if decide (n_10 < 1048576) then
        if (0 : Int) ≤ i_11 ∧ i_11 < ((x0.length : Nat) : Int) then
        if (4 : Int) ≠ 0 then
        herbariumlaw0_BitsWeight.l1 K x0 k (wr .i64 (n_10 + (wr .i64 (((((nth x0 i_11).Data).size : Nat) : Int).tdiv 4)))) (wr .i64 (i_11 + 1))
        else none
        else none
      else
        some n_10
    else
      some n_10
def herbariumlaw0_BitsWeight (K : Nat) (x0 : List api_Bits) : Option Int :=
  herbariumlaw0_BitsWeight.l1 K x0 K ((x0.length : Nat) : Int) (0 : Int)
abbrev herbariumlaw3_Ask : Type := (List (List Int)) × (List api_Bits) × (List Int)
abbrev Ty_herbariumlaw3_Ask : Ty := (.pr (.sl (.sl (.int .i64))) (.pr (.sl Ty_api_Bits) (.sl (.int .i64))))
abbrev herbariumlaw3_Ask.L (x : herbariumlaw3_Ask) : List (List Int) := x.1
abbrev herbariumlaw3_Ask.B (x : herbariumlaw3_Ask) : List api_Bits := x.2.1
abbrev herbariumlaw3_Ask.N (x : herbariumlaw3_Ask) : List Int := x.2.2
abbrev herbariumlaw3_Heavy.sg : Sig := ⟨[(.agg, Ty_herbariumlaw3_Ask)], [], [(.one, .bool)], []⟩
def herbariumlaw3_Heavy (K : Nat) (x0 : herbariumlaw3_Ask) : Option Bool :=
  (herbariumlaw0_Lists K x0.L).bind fun r5 =>
  (herbariumlaw0_BitsWeight K x0.B).bind fun r8 =>
  some (decide ((wr .i64 ((wr .i64 (r5 + r8)) + ((x0.N.length : Nat) : Int))) > 900))
abbrev herbariumlaw3_Lists.sg : Sig := ⟨[(.agg, Ty_herbariumlaw3_Ask)], [], [(.one, (.sl (.sl (.int .i64))))], [.o1]⟩
def herbariumlaw3_Lists (K : Nat) (x0 : herbariumlaw3_Ask) : Option (List (List Int)) :=
  if (([([] : List Int), ([0] : List Int), ([2, 3, 4, 9] : List Int), ([15] : List Int)] : List (List Int)).length + x0.L.length) * 24 ≤ 140737488355328 then
  if decide ((((([([] : List Int), ([0] : List Int), ([2, 3, 4, 9] : List Int), ([15] : List Int)] : List (List Int)) ++ x0.L).length : Nat) : Int) > 9) then
    if (0 : Int) ≤ (9 : Int) ∧ (9 : Int) ≤ (((([([] : List Int), ([0] : List Int), ([2, 3, 4, 9] : List Int), ([15] : List Int)] : List (List Int)) ++ x0.L).length : Nat) : Int) then
    some ((([([] : List Int), ([0] : List Int), ([2, 3, 4, 9] : List Int), ([15] : List Int)] : List (List Int)) ++ x0.L).take (9 : Int).toNat)
    else none
  else
    some (([([] : List Int), ([0] : List Int), ([2, 3, 4, 9] : List Int), ([15] : List Int)] : List (List Int)) ++ x0.L)
  else none
abbrev herbariumref0_CopyNumbers.sg : Sig := ⟨[(.one, (.sl (.int .i64)))], [], [(.one, (.sl (.int .i64)))], [.o]⟩
def herbariumref0_CopyNumbers.l1 (K : Nat) (x0 : List Int) : Nat → Int → (List Int) → Option (List Int)
  | 0, _, _ => none
  | k + 1, i_10, m_11 =>
    if decide (i_10 < ((x0.length : Nat) : Int)) then
      if (0 : Int) ≤ i_10 ∧ i_10 < ((x0.length : Nat) : Int) then
      if (m_11.length + ([nth x0 i_10] : List Int).length) * 8 ≤ 140737488355328 then
      herbariumref0_CopyNumbers.l1 K x0 k (wr .i64 (i_10 + 1)) (m_11 ++ ([nth x0 i_10] : List Int))
      else none
      else none
    else
      some m_11
def herbariumref0_CopyNumbers (K : Nat) (x0 : List Int) : Option (List Int) :=
  herbariumref0_CopyNumbers.l1 K x0 K (0 : Int) ([] : List Int)
abbrev runs_Split.sg : Sig := ⟨[(.one, (.sl (.int .i64)))], [], [(.one, (.sl Ty_api_Run)), (.one, (.sl (.int .i64))), (.one, (.int .i64))], [.o, .o]⟩
def runs_Split (K : Nat) (x0 : List Int) : Option ((List api_Run) × (List Int) × Int) :=
  (gaps_May K x0).bind fun r6 =>
  if (!r6) then
    some (([] : List api_Run), ([] : List Int), 1)
  else
    (runs_Parts K x0).bind fun r10 =>
    some (r10.1, r10.2, 0)
abbrev herbariumref0_Num.sg : Sig := ⟨[(.one, (.int .i64)), (.one, (.int .i64))], [], [(.one, .bool)], []⟩
def herbariumref0_Num (K : Nat) (x0 : Int) (x1 : Int) : Option Bool :=
  if decide (x0 ≥ 0) then
    some (decide (x0 ≤ x1))
  else
    some false
abbrev herbariumref3_Origin.sg : Sig := ⟨[(.one, (.int .i64))], [], [(.one, .bool)], []⟩
def herbariumref3_Origin (K : Nat) (x0 : Int) : Option Bool :=
  (herbariumref0_Num K x0 15).bind fun r4 =>
  some r4
abbrev herbariumref3_May.sg : Sig := ⟨[(.one, (.sl (.int .i64)))], [], [(.one, .bool)], []⟩
def herbariumref3_May.l1 (K : Nat) (x0 : List Int) : Nat → Int → Option Bool
  | 0, _ => none
  | k + 1, i_10 =>
    if decide (i_10 < ((x0.length : Nat) : Int)) then
      if decide (i_10 ≤ 16) then
        if (0 : Int) ≤ i_10 ∧ i_10 < ((x0.length : Nat) : Int) then
        (herbariumref3_Origin K (nth x0 i_10)).bind fun r18 =>
        if (!r18) then
          some false
        else
          if decide (i_10 > 0) then
            if (0 : Int) ≤ (wr .i64 (i_10 - 1)) ∧ (wr .i64 (i_10 - 1)) < ((x0.length : Nat) : Int) then
            if (0 : Int) ≤ i_10 ∧ i_10 < ((x0.length : Nat) : Int) then
            if decide ((nth x0 (wr .i64 (i_10 - 1))) ≥ (nth x0 i_10)) then
              some false
            else
              herbariumref3_May.l1 K x0 k (wr .i64 (i_10 + 1))
            else none
            else none
          else
            herbariumref3_May.l1 K x0 k (wr .i64 (i_10 + 1))
        else none
      else
        some (decide (((x0.length : Nat) : Int) ≤ 16))
    else
      some (decide (((x0.length : Nat) : Int) ≤ 16))
def herbariumref3_May (K : Nat) (x0 : List Int) : Option Bool :=
  herbariumref3_May.l1 K x0 K (0 : Int)
abbrev herbariumref3_Split.sg : Sig := ⟨[(.one, (.sl (.int .i64)))], [], [(.one, (.sl Ty_api_Run)), (.one, (.sl (.int .i64)))], [.o, .o]⟩
def herbariumref3_Split.l2 (K : Nat) (go_l1 : Int → (List api_Run) → (List Int) → Option ((List api_Run) × (List Int))) (i_10 : Int) (x0 : List Int) : Nat → Int → (List api_Run) → (List Int) → Option ((List api_Run) × (List Int))
  | 0, _, _, _ => none
  | k + 1, k_11, r_14, rest_15 =>
    if decide (k_11 < ((x0.length : Nat) : Int)) then
      if (0 : Int) ≤ k_11 ∧ k_11 < ((x0.length : Nat) : Int) then
      if (0 : Int) ≤ (wr .i64 (k_11 - 1)) ∧ (wr .i64 (k_11 - 1)) < ((x0.length : Nat) : Int) then
      if ((nth x0 k_11) == (wr .i64 ((nth x0 (wr .i64 (k_11 - 1))) + 1))) then
        herbariumref3_Split.l2 K go_l1 i_10 x0 k (wr .i64 (k_11 + 1)) r_14 rest_15
      else
        if decide ((wr .i64 (k_11 - i_10)) ≥ 3) then
          if (0 : Int) ≤ i_10 ∧ i_10 < ((x0.length : Nat) : Int) then
          if (r_14.length + ([((nth x0 i_10, wr .i64 (k_11 - i_10)) : api_Run)] : List api_Run).length) * 16 ≤ 140737488355328 then
          go_l1 k_11 (r_14 ++ ([((nth x0 i_10, wr .i64 (k_11 - i_10)) : api_Run)] : List api_Run)) rest_15
          else none
          else none
        else
          if (0 : Int) ≤ i_10 ∧ i_10 ≤ k_11 ∧ k_11 ≤ ((x0.length : Nat) : Int) then
          if (rest_15.length + (((x0).drop i_10.toNat).take (k_11.toNat - i_10.toNat)).length) * 8 ≤ 140737488355328 then
          go_l1 k_11 r_14 (rest_15 ++ (((x0).drop i_10.toNat).take (k_11.toNat - i_10.toNat)))
          else none
          else none
      else none
      else none
    else
      if decide ((wr .i64 (k_11 - i_10)) ≥ 3) then
        if (0 : Int) ≤ i_10 ∧ i_10 < ((x0.length : Nat) : Int) then
        if (r_14.length + ([((nth x0 i_10, wr .i64 (k_11 - i_10)) : api_Run)] : List api_Run).length) * 16 ≤ 140737488355328 then
        go_l1 k_11 (r_14 ++ ([((nth x0 i_10, wr .i64 (k_11 - i_10)) : api_Run)] : List api_Run)) rest_15
        else none
        else none
      else
        if (0 : Int) ≤ i_10 ∧ i_10 ≤ k_11 ∧ k_11 ≤ ((x0.length : Nat) : Int) then
        if (rest_15.length + (((x0).drop i_10.toNat).take (k_11.toNat - i_10.toNat)).length) * 8 ≤ 140737488355328 then
        go_l1 k_11 r_14 (rest_15 ++ (((x0).drop i_10.toNat).take (k_11.toNat - i_10.toNat)))
        else none
        else none
def herbariumref3_Split.l1 (K : Nat) (x0 : List Int) : Nat → Int → (List api_Run) → (List Int) → Option ((List api_Run) × (List Int))
  | 0, _, _, _ => none
  | k + 1, i_10, r_12, rest_13 =>
    if decide (i_10 < ((x0.length : Nat) : Int)) then
      herbariumref3_Split.l2 K (herbariumref3_Split.l1 K x0 k) i_10 x0 K (wr .i64 (i_10 + 1)) r_12 rest_13
    else
      some (r_12, rest_13)
def herbariumref3_Split (K : Nat) (x0 : List Int) : Option ((List api_Run) × (List Int)) :=
  herbariumref3_Split.l1 K x0 K (0 : Int) ([] : List api_Run) ([] : List Int)
abbrev herbariumlaw4_num.sg : Sig := ⟨[(.one, (.int .i64))], [], [(.one, (.int .i64))], []⟩
def herbariumlaw4_num (K : Nat) (x0 : Int) : Option Int :=
  some x0
abbrev herbariumref0_EqRuns.sg : Sig := ⟨[(.one, (.sl Ty_api_Run)), (.one, (.sl Ty_api_Run))], [], [(.one, .bool)], []⟩
def herbariumref0_EqRuns.l1 (K : Nat) (x0 : List api_Run) (x1 : List api_Run) : Nat → Int → Option Bool
  | 0, _ => none
  | k + 1, i_10 =>
    if decide (i_10 < ((x0.length : Nat) : Int)) then
      if (0 : Int) ≤ i_10 ∧ i_10 < ((x0.length : Nat) : Int) then
      if (0 : Int) ≤ i_10 ∧ i_10 < ((x1.length : Nat) : Int) then
      if (!((((nth x0 i_10).At) == ((nth x1 i_10).At)) && ((((nth x0 i_10).Len) == ((nth x1 i_10).Len)) && true))) then
        some false
      else
        herbariumref0_EqRuns.l1 K x0 x1 k (wr .i64 (i_10 + 1))
      else none
      else none
    else
      some true
def herbariumref0_EqRuns (K : Nat) (x0 : List api_Run) (x1 : List api_Run) : Option Bool :=
  if (((x0.length : Nat) : Int) != ((x1.length : Nat) : Int)) then
    some false
  else
    herbariumref0_EqRuns.l1 K x0 x1 K (0 : Int)
abbrev herbariumlaw0_Numbers.sg : Sig := ⟨[(.one, (.sl (.int .i64)))], [.o], [], []⟩
def herbariumlaw0_Numbers.l1 (K : Nat) : Nat → Int → (List Int) → Option Unit
  | 0, _, _ => none
  | k + 1, i_10, l_11 =>
    if decide (i_10 < ((l_11.length : Nat) : Int)) then
      if (0 : Int) ≤ i_10 ∧ i_10 < ((l_11.length : Nat) : Int) then
      herbariumlaw0_Numbers.l1 K k (wr .i64 (i_10 + 1)) ((l_11).set i_10.toNat (-99))
      else none
    else
      some ()
def herbariumlaw0_Numbers (K : Nat) (x0 : List Int) : Option Unit :=
  herbariumlaw0_Numbers.l1 K K (0 : Int) x0
abbrev runs_Join.sg : Sig := ⟨[(.one, (.sl Ty_api_Run)), (.one, (.sl (.int .i64)))], [], [(.one, (.sl (.int .i64))), (.one, (.int .i64))], [.o]⟩
def runs_Join (K : Nat) (x0 : List api_Run) (x1 : List Int) : Option ((List Int) × Int) :=
  (runs_Whole K x0 x1).bind fun r11 =>
  if (!r11.2) then
    some (([] : List Int), 1)
  else
    some (r11.1, 0)
abbrev herbariumref3_Join.sg : Sig := ⟨[(.one, (.sl Ty_api_Run)), (.one, (.sl (.int .i64)))], [], [(.one, (.sl (.int .i64))), (.one, .bool)], [.o]⟩
def herbariumref3_Join.l4 (K : Nat) : Nat → Int → (List Bool) → (List Int) → Option ((List Int) × Bool)
  | 0, _, _, _ => none
  | k + 1, t_16, t_20, t_19 =>
    if decide (t_16 < 16) then
      if ((0 : Int) ≤ t_16 ∧ t_16 < ((t_20.length : Nat) : Int)) ∧ t_20.length = 16 then
      if nth t_20 t_16 then
        if (t_19.length + ([t_16] : List Int).length) * 8 ≤ 140737488355328 then
        herbariumref3_Join.l4 K k (wr .i64 (t_16 + 1)) t_20 (t_19 ++ ([t_16] : List Int))
        else none
      else
        herbariumref3_Join.l4 K k (wr .i64 (t_16 + 1)) t_20 t_19
      else none
    else
      some (t_19, true)
def herbariumref3_Join.l3 (K : Nat) (x1 : List Int) : Nat → Int → (List Bool) → Option ((List Int) × Bool)
  | 0, _, _ => none
  | k + 1, t_15, t_18 =>
    if decide (t_15 < ((x1.length : Nat) : Int)) then
      if (0 : Int) ≤ t_15 ∧ t_15 < ((x1.length : Nat) : Int) then
      if ((0 : Int) ≤ (nth x1 t_15) ∧ (nth x1 t_15) < ((t_18.length : Nat) : Int)) ∧ t_18.length = 16 then
      if nth t_18 (nth x1 t_15) then
        some (([] : List Int), false)
      else
        if (0 : Int) ≤ t_15 ∧ t_15 < ((x1.length : Nat) : Int) then
        if ((0 : Int) ≤ (nth x1 t_15) ∧ (nth x1 t_15) < ((t_18.length : Nat) : Int)) ∧ t_18.length = 16 then
        herbariumref3_Join.l3 K x1 k (wr .i64 (t_15 + 1)) ((t_18).set (nth x1 t_15).toNat true)
        else none
        else none
      else none
      else none
    else
      herbariumref3_Join.l4 K K (0 : Int) t_18 ([] : List Int)
def herbariumref3_Join.l2 (K : Nat) (go_l1 : Int → (List Bool) → Option ((List Int) × Bool)) (t_11 : Int) (x0 : List api_Run) (x1 : List Int) : Nat → Int → (List Bool) → Int → Int → Option ((List Int) × Bool)
  | 0, _, _, _, _ => none
  | k + 1, t_14, t_17, t_12, t_13 =>
    if decide (t_14 < t_13) then
      if ((0 : Int) ≤ (wr .i64 (t_12 + t_14)) ∧ (wr .i64 (t_12 + t_14)) < ((t_17.length : Nat) : Int)) ∧ t_17.length = 16 then
      herbariumref3_Join.l2 K go_l1 t_11 x0 x1 k (wr .i64 (t_14 + 1)) ((t_17).set (wr .i64 (t_12 + t_14)).toNat true) t_12 t_13
      else none
    else
      go_l1 (wr .i64 (t_11 + 1)) t_17
def herbariumref3_Join.l1 (K : Nat) (x0 : List api_Run) (x1 : List Int) : Nat → Int → (List Bool) → Option ((List Int) × Bool)
  | 0, _, _ => none
  | k + 1, t_11, t_10 =>
    if decide (t_11 < ((x0.length : Nat) : Int)) then
      if (0 : Int) ≤ t_11 ∧ t_11 < ((x0.length : Nat) : Int) then
      (herbariumref3_Origin K ((nth x0 t_11).At)).bind fun r28 =>
      if (!r28) then
        some (([] : List Int), false)
      else
        if decide (((nth x0 t_11).Len) < 3) then
          some (([] : List Int), false)
        else
          if decide (((nth x0 t_11).Len) > (wr .i64 (16 - ((nth x0 t_11).At)))) then
            some (([] : List Int), false)
          else
            if decide (t_11 > 0) then
              if (0 : Int) ≤ (wr .i64 (t_11 - 1)) ∧ (wr .i64 (t_11 - 1)) < ((x0.length : Nat) : Int) then
              if (0 : Int) ≤ (wr .i64 (t_11 - 1)) ∧ (wr .i64 (t_11 - 1)) < ((x0.length : Nat) : Int) then
              if decide (((nth x0 t_11).At) ≤ (wr .i64 (((nth x0 (wr .i64 (t_11 - 1))).At) + ((nth x0 (wr .i64 (t_11 - 1))).Len)))) then
                some (([] : List Int), false)
              else
                herbariumref3_Join.l2 K (herbariumref3_Join.l1 K x0 x1 k) t_11 x0 x1 K (0 : Int) t_10 ((nth x0 t_11).At) ((nth x0 t_11).Len)
              else none
              else none
            else
              herbariumref3_Join.l2 K (herbariumref3_Join.l1 K x0 x1 k) t_11 x0 x1 K (0 : Int) t_10 ((nth x0 t_11).At) ((nth x0 t_11).Len)
      else none
    else
      herbariumref3_Join.l3 K x1 K (0 : Int) t_10
def herbariumref3_Join (K : Nat) (x0 : List api_Run) (x1 : List Int) : Option ((List Int) × Bool) :=
  (herbariumref3_May K x1).bind fun r14 =>
  if (!r14) then
    some (([] : List Int), false)
  else
    herbariumref3_Join.l1 K x0 x1 K (0 : Int) (List.replicate 16 false)
abbrev herbariumlaw4_wakes.sg : Sig := ⟨[], [], [(.one, .bool)], []⟩
def herbariumlaw4_wakes (K : Nat) : Option Bool :=
  (runs_Split K ([3, 4, 5, 9] : List Int)).bind fun r8 =>
  (runs_Join K r8.1 r8.2.1).bind fun r15 =>
  (herbariumlaw4_num K r8.2.2).bind fun r19 =>
  if (r19 == 0) then
    (herbariumlaw4_num K r15.2).bind fun r23 =>
    if (r23 == 0) then
      if (((r8.1.length : Nat) : Int) == 1) then
        if (0 : Int) ≤ (0 : Int) ∧ (0 : Int) < ((r8.1.length : Nat) : Int) then
        if ((((nth r8.1 0).At) == 3) && ((((nth r8.1 0).Len) == 3) && true)) then
          (herbariumref0_EqNumbers K r8.2.1 ([9] : List Int)).bind fun r41 =>
          if r41 then
            some (((r15.1.length : Nat) : Int) == 4)
          else
            some false
        else
          some false
        else none
      else
        some false
    else
      some false
  else
    some false
abbrev herbariumlaw4_RunsSplit.sg : Sig := ⟨[(.agg, Ty_herbariumlaw3_Ask)], [], [(.one, .bool)], []⟩
def herbariumlaw4_RunsSplit.j6 (K : Nat) (go_l1 : Int → Option Bool) (go_l3 : (List Int) → Int → (List (List api_Run)) → Option Bool) (go_l4 : (List Int) → Int → Option Bool) (r126 : (List Int) × Int) (r25 : List (List Int)) (t_10 : Int) (t_14 : List (List api_Run)) (t_15 : Int) (t_16 : Int) (t_18 : List Int) (t_19 : Int) (t_20 : List Int) : Option Bool :=
  (herbariumlaw4_num K r126.2).bind fun r141 =>
  if (r141 != t_19) then
    some false
  else
    (herbariumref0_EqNumbers K r126.1 t_20).bind fun r147 =>
    if (!r147) then
      some false
    else
      go_l4 t_18 (wr .i64 (t_16 + 2))
def herbariumlaw4_RunsSplit.j5 (K : Nat) (go_l1 : Int → Option Bool) (go_l3 : (List Int) → Int → (List (List api_Run)) → Option Bool) (go_l4 : (List Int) → Int → Option Bool) (r25 : List (List Int)) (t_10 : Int) (t_14 : List (List api_Run)) (t_15 : Int) (t_16 : Int) (t_18 : List Int) (t_17 : List Int) : Option Bool :=
  if (0 : Int) ≤ t_15 ∧ t_15 < ((t_14.length : Nat) : Int) then
  (runs_Join K (nth t_14 t_15) t_17).bind fun r126 =>
  if (0 : Int) ≤ t_15 ∧ t_15 < ((t_14.length : Nat) : Int) then
  (herbariumref3_Join K (nth t_14 t_15) t_17).bind fun r135 =>
  if r135.2 then
    herbariumlaw4_RunsSplit.j6 K go_l1 go_l3 go_l4 r126 r25 t_10 t_14 t_15 t_16 t_18 (0 : Int) r135.1
  else
    herbariumlaw4_RunsSplit.j6 K go_l1 go_l3 go_l4 r126 r25 t_10 t_14 t_15 t_16 t_18 (1 : Int) ([] : List Int)
  else none
  else none
def herbariumlaw4_RunsSplit.l4 (K : Nat) (go_l1 : Int → Option Bool) (go_l3 : (List Int) → Int → (List (List api_Run)) → Option Bool) (r25 : List (List Int)) (t_10 : Int) (t_14 : List (List api_Run)) (t_15 : Int) : Nat → (List Int) → Int → Option Bool
  | 0, _, _ => none
  | k + 1, t_21, t_16 =>
    if decide (t_16 < ((r25.length : Nat) : Int)) then
      if (0 : Int) ≤ t_16 ∧ t_16 < ((r25.length : Nat) : Int) then
      if (t_15 == 0) then
        herbariumlaw4_RunsSplit.j5 K go_l1 go_l3 (herbariumlaw4_RunsSplit.l4 K go_l1 go_l3 r25 t_10 t_14 t_15 k) r25 t_10 t_14 t_15 t_16 t_21 t_21
      else
        herbariumlaw4_RunsSplit.j5 K go_l1 go_l3 (herbariumlaw4_RunsSplit.l4 K go_l1 go_l3 r25 t_10 t_14 t_15 k) r25 t_10 t_14 t_15 t_16 t_21 (nth r25 t_16)
      else none
    else
      go_l3 t_21 (wr .i64 (t_15 + 1)) t_14
def herbariumlaw4_RunsSplit.l3 (K : Nat) (go_l1 : Int → Option Bool) (r25 : List (List Int)) (t_10 : Int) : Nat → (List Int) → Int → (List (List api_Run)) → Option Bool
  | 0, _, _, _ => none
  | k + 1, t_22, t_15, t_14 =>
    if decide (t_15 < ((t_14.length : Nat) : Int)) then
      herbariumlaw4_RunsSplit.l4 K go_l1 (herbariumlaw4_RunsSplit.l3 K go_l1 r25 t_10 k) r25 t_10 t_14 t_15 K t_22 (0 : Int)
    else
      go_l1 (wr .i64 (t_10 + 1))
def herbariumlaw4_RunsSplit.j2 (K : Nat) (go_l1 : Int → Option Bool) (r25 : List (List Int)) (r36 : List Int) (r39 : (List api_Run) × (List Int) × Int) (t_10 : Int) (t_11 : Int) (t_12 : List api_Run) (t_13 : List Int) : Option Bool :=
  (herbariumlaw4_num K r39.2.2).bind fun r57 =>
  if (r57 != t_11) then
    some false
  else
    (herbariumref0_EqRuns K r39.1 t_12).bind fun r63 =>
    if (!r63) then
      some false
    else
      (herbariumref0_EqNumbers K r39.2.1 t_13).bind fun r69 =>
      if (!r69) then
        some false
      else
        if (0 : Int) ≤ t_10 ∧ t_10 < ((r25.length : Nat) : Int) then
        (herbariumref0_EqNumbers K r36 (nth r25 t_10)).bind fun r78 =>
        if (!r78) then
          some false
        else
          (herbariumlaw0_Numbers K r39.2.1).bind fun r82 =>
          herbariumlaw4_RunsSplit.l3 K go_l1 r25 t_10 K t_13 (0 : Int) ([t_12, ([] : List api_Run), ([((2, 3) : api_Run)] : List api_Run), ([((2, 3) : api_Run), ((5, 4) : api_Run)] : List api_Run), ([((2, 3) : api_Run), ((6, 4) : api_Run)] : List api_Run), ([((13, 4) : api_Run)] : List api_Run), ([((1, 2) : api_Run)] : List api_Run), ([(((-1), 4) : api_Run)] : List api_Run), ([((1, 4611686018427387904) : api_Run)] : List api_Run)] : List (List api_Run))
        else none
def herbariumlaw4_RunsSplit.l1 (K : Nat) (r25 : List (List Int)) : Nat → Int → Option Bool
  | 0, _ => none
  | k + 1, t_10 =>
    if decide (t_10 < ((r25.length : Nat) : Int)) then
      if (0 : Int) ≤ t_10 ∧ t_10 < ((r25.length : Nat) : Int) then
      (herbariumref0_CopyNumbers K (nth r25 t_10)).bind fun r36 =>
      (runs_Split K r36).bind fun r39 =>
      if (0 : Int) ≤ t_10 ∧ t_10 < ((r25.length : Nat) : Int) then
      (herbariumref3_May K (nth r25 t_10)).bind fun r47 =>
      if r47 then
        if (0 : Int) ≤ t_10 ∧ t_10 < ((r25.length : Nat) : Int) then
        (herbariumref3_Split K (nth r25 t_10)).bind fun r53 =>
        herbariumlaw4_RunsSplit.j2 K (herbariumlaw4_RunsSplit.l1 K r25 k) r25 r36 r39 t_10 (0 : Int) r53.1 r53.2
        else none
      else
        herbariumlaw4_RunsSplit.j2 K (herbariumlaw4_RunsSplit.l1 K r25 k) r25 r36 r39 t_10 (1 : Int) ([] : List api_Run) ([] : List Int)
      else none
      else none
    else
      (herbariumlaw4_wakes K).bind fun r150 =>
      some r150
def herbariumlaw4_RunsSplit (K : Nat) (x0 : herbariumlaw3_Ask) : Option Bool :=
  (herbariumlaw3_Heavy K x0).bind fun r23 =>
  if r23 then
    some true
  else
    (herbariumlaw3_Lists K x0).bind fun r25 =>
    herbariumlaw4_RunsSplit.l1 K r25 K (0 : Int)
abbrev bits_From.sg : Sig := ⟨[(.agg, Ty_api_Bits)], [], [(.ptr, Ty_bits_Row)], [.o]⟩
def bits_From (K : Nat) (x0 : api_Bits) : Option bits_Row :=
  some ((bytesL x0.Data, x0.N) : bits_Row)
abbrev runs_Put.sg : Sig := ⟨[(.agg, Ty_api_Bits), (.one, (.int .i64)), (.one, (.sl (.int .i64)))], [], [(.agg, Ty_api_Bits), (.one, (.int .i64))], []⟩
def runs_Put (K : Nat) (x0 : api_Bits) (x1 : Int) (x2 : List Int) : Option (api_Bits × Int) :=
  (bits_May K x0).bind fun r10 =>
  if (!r10) then
    some (((ByteArray.empty, 0) : api_Bits), 1)
  else
    (gaps_Is K x1).bind fun r14 =>
    if (!r14) then
      some (((ByteArray.empty, 0) : api_Bits), 1)
    else
      (gaps_May K x2).bind fun r19 =>
      if (!r19) then
        some (((ByteArray.empty, 0) : api_Bits), 1)
      else
        (bits_From K x0).bind fun r24 =>
        (runs_Lay K r24 x1 x2).bind fun r28 =>
        (__bits_Row__Bits K r28).bind fun r30 =>
        some (r30.1, r30.2.1)
abbrev runs_Take.sg : Sig := ⟨[(.agg, Ty_api_Bits), (.one, (.int .i64)), (.one, (.int .i64))], [], [(.one, (.sl (.int .i64))), (.one, (.int .i64)), (.one, (.int .i64))], [.o]⟩
def runs_Take (K : Nat) (x0 : api_Bits) (x1 : Int) (x2 : Int) : Option ((List Int) × Int × Int) :=
  (bits_May K x0).bind fun r11 =>
  if (!r11) then
    some (([] : List Int), 0, 1)
  else
    (gaps_Is K x2).bind fun r15 =>
    if (!r15) then
      some (([] : List Int), 0, 1)
    else
      if decide (x1 < 0) then
        some (([] : List Int), 0, 1)
      else
        if decide (x1 > x0.N) then
          some (([] : List Int), 0, 1)
        else
          (runs_Read K x0 x1 x2).bind fun r32 =>
          if (!r32.2.2) then
            some (([] : List Int), 0, 9)
          else
            some (r32.1, r32.2.1, 0)
abbrev runs_Size.sg : Sig := ⟨[(.one, (.int .i64)), (.one, (.sl (.int .i64)))], [], [(.one, (.int .i64)), (.one, (.int .i64))], []⟩
def runs_Size (K : Nat) (x0 : Int) (x1 : List Int) : Option (Int × Int) :=
  (gaps_Is K x0).bind fun r8 =>
  if (!r8) then
    some (0, 1)
  else
    (gaps_May K x1).bind fun r12 =>
    if (!r12) then
      some (0, 1)
    else
      (runs_Lay K ((([] : List Int), 0) : bits_Row) x0 x1).bind fun r20 =>
      (__bits_Row__Size K r20).bind fun r22 =>
      some (r22.1, 0)
abbrev herbariumlaw4_RunsAll.sg : Sig := ⟨[(.agg, Ty_herbariumlaw3_Ask)], [], [(.one, .bool)], []⟩
def herbariumlaw4_RunsAll.l4 (K : Nat) (go_l1 : Int → Option Bool) (r51 : (List api_Run) × (List Int) × Int) (t_10 : Int) (x0 : herbariumlaw3_Ask) : Nat → Int → Int → (List Int) → Option Bool
  | 0, _, _, _ => none
  | k + 1, t_13, t_14, t_16 =>
    if decide (t_14 < ((r51.1.length : Nat) : Int)) then
      if (0 : Int) ≤ t_14 ∧ t_14 < ((r51.1.length : Nat) : Int) then
      herbariumlaw4_RunsAll.l4 K go_l1 r51 t_10 x0 k (wr .i64 (t_13 + ((nth r51.1 t_14).Len))) (wr .i64 (t_14 + 1)) t_16
      else none
    else
      if ((wr .i64 (t_13 + ((r51.2.1.length : Nat) : Int))) != ((t_16.length : Nat) : Int)) then
        some false
      else
        go_l1 (wr .i64 (t_10 + 1))
def herbariumlaw4_RunsAll.j3 (K : Nat) (go_l1 : Int → Option Bool) (t_10 : Int) (t_15 : List Int) (x0 : herbariumlaw3_Ask) (t_12 : Int) : Option Bool :=
  (runs_Split K t_15).bind fun r51 =>
  (runs_Join K r51.1 r51.2.1).bind fun r58 =>
  (runs_Put K ((ByteArray.empty, 0) : api_Bits) t_12 t_15).bind fun r65 =>
  (runs_Take K r65.1 0 t_12).bind fun r71 =>
  (runs_Size K t_12 t_15).bind fun r78 =>
  (herbariumlaw4_num K r51.2.2).bind fun r82 =>
  (herbariumlaw4_num K r58.2).bind fun r84 =>
  (herbariumlaw4_num K r65.2).bind fun r87 =>
  (herbariumlaw4_num K r71.2.2).bind fun r90 =>
  (herbariumlaw4_num K r78.2).bind fun r93 =>
  if ((wr .i64 ((wr .i64 ((wr .i64 ((wr .i64 (r82 + r84)) + r87)) + r90)) + r93)) != 0) then
    some false
  else
    (herbariumref0_EqNumbers K r71.1 t_15).bind fun r99 =>
    if (!r99) then
      some false
    else
      (herbariumref0_EqNumbers K r58.1 t_15).bind fun r105 =>
      if (!r105) then
        some false
      else
        if (r71.2.1 != r65.1.N) then
          some false
        else
          if (r78.1 != r65.1.N) then
            some false
          else
            herbariumlaw4_RunsAll.l4 K go_l1 r51 t_10 x0 K (0 : Int) (0 : Int) t_15
def herbariumlaw4_RunsAll.l2 (K : Nat) (go_l1 : Int → Option Bool) (t_10 : Int) (x0 : herbariumlaw3_Ask) : Nat → Int → (List Int) → Option Bool
  | 0, _, _ => none
  | k + 1, t_11, t_15 =>
    if decide (t_11 < 8) then
      if (0 : Int) ≤ t_11 then
      if ((ib .and .i64 (t_10.fdiv (2 ^ min (t_11).toNat 64)) 1) == 1) then
        if (4 : Int) ≠ 0 then
        if (t_15.length + ([wr .i64 ((wr .i64 (2 * (wr .i64 (t_11.tdiv 4)))) + t_11)] : List Int).length) * 8 ≤ 140737488355328 then
        herbariumlaw4_RunsAll.l2 K go_l1 t_10 x0 k (wr .i64 (t_11 + 1)) (t_15 ++ ([wr .i64 ((wr .i64 (2 * (wr .i64 (t_11.tdiv 4)))) + t_11)] : List Int))
        else none
        else none
      else
        herbariumlaw4_RunsAll.l2 K go_l1 t_10 x0 k (wr .i64 (t_11 + 1)) t_15
      else none
    else
      if (16 : Int) ≠ 0 then
      herbariumlaw4_RunsAll.j3 K go_l1 t_10 t_15 x0 ((wr .i64 ((wr .i64 (((x0.L.length : Nat) : Int) * 5)) + t_10)).tmod 16)
      else none
def herbariumlaw4_RunsAll.l1 (K : Nat) (x0 : herbariumlaw3_Ask) : Nat → Int → Option Bool
  | 0, _ => none
  | k + 1, t_10 =>
    if decide (t_10 < 256) then
      herbariumlaw4_RunsAll.l2 K (herbariumlaw4_RunsAll.l1 K x0 k) t_10 x0 K (0 : Int) ([] : List Int)
    else
      (herbariumlaw4_wakes K).bind fun r140 =>
      some r140
def herbariumlaw4_RunsAll (K : Nat) (x0 : herbariumlaw3_Ask) : Option Bool :=
  herbariumlaw4_RunsAll.l1 K x0 K (0 : Int)
abbrev herbariumlaw4_RunsBack.sg : Sig := ⟨[(.agg, Ty_herbariumlaw3_Ask)], [], [(.one, .bool)], []⟩
def herbariumlaw4_RunsBack.l3 (K : Nat) (go_l1 : Int → Option Bool) (r25 : List (List Int)) (t_10 : Int) : Nat → Int → Option Bool
  | 0, _ => none
  | k + 1, t_12 =>
    if decide (t_12 < 16) then
      if (0 : Int) ≤ t_10 ∧ t_10 < ((r25.length : Nat) : Int) then
      (runs_Put K ((ByteArray.empty, 0) : api_Bits) t_12 (nth r25 t_10)).bind fun r110 =>
      (runs_Put K r110.1 3 ([0, 1, 2, 3] : List Int)).bind fun r116 =>
      (runs_Take K r116.1 0 t_12).bind fun r122 =>
      (runs_Take K r116.1 r122.2.1 3).bind fun r129 =>
      (herbariumlaw4_num K r110.2).bind fun r134 =>
      (herbariumlaw4_num K r116.2).bind fun r136 =>
      (herbariumlaw4_num K r122.2.2).bind fun r139 =>
      (herbariumlaw4_num K r129.2.2).bind fun r142 =>
      if ((wr .i64 ((wr .i64 ((wr .i64 (r134 + r136)) + r139)) + r142)) != 0) then
        some false
      else
        if (0 : Int) ≤ t_10 ∧ t_10 < ((r25.length : Nat) : Int) then
        (herbariumref0_EqNumbers K r122.1 (nth r25 t_10)).bind fun r151 =>
        if (!r151) then
          some false
        else
          if (r122.2.1 != r110.1.N) then
            some false
          else
            if (r129.2.1 != r116.1.N) then
              some false
            else
              (herbariumref0_EqNumbers K r129.1 ([0, 1, 2, 3] : List Int)).bind fun r169 =>
              if (!r169) then
                some false
              else
                herbariumlaw4_RunsBack.l3 K go_l1 r25 t_10 k (wr .i64 (t_12 + 4))
        else none
      else none
    else
      go_l1 (wr .i64 (t_10 + 1))
def herbariumlaw4_RunsBack.l2 (K : Nat) (go_l1 : Int → Option Bool) (r25 : List (List Int)) (r37 : (List api_Run) × (List Int) × Int) (t_10 : Int) : Nat → Int → Option Bool
  | 0, _ => none
  | k + 1, t_11 =>
    if decide (t_11 < ((r37.1.length : Nat) : Int)) then
      if (0 : Int) ≤ t_11 ∧ t_11 < ((r37.1.length : Nat) : Int) then
      if decide (((nth r37.1 t_11).Len) < 3) then
        some false
      else
        if decide (t_11 > 0) then
          if (0 : Int) ≤ t_11 ∧ t_11 < ((r37.1.length : Nat) : Int) then
          if (0 : Int) ≤ (wr .i64 (t_11 - 1)) ∧ (wr .i64 (t_11 - 1)) < ((r37.1.length : Nat) : Int) then
          if (0 : Int) ≤ (wr .i64 (t_11 - 1)) ∧ (wr .i64 (t_11 - 1)) < ((r37.1.length : Nat) : Int) then
          if decide (((nth r37.1 t_11).At) ≤ (wr .i64 (((nth r37.1 (wr .i64 (t_11 - 1))).At) + ((nth r37.1 (wr .i64 (t_11 - 1))).Len)))) then
            some false
          else
            herbariumlaw4_RunsBack.l2 K go_l1 r25 r37 t_10 k (wr .i64 (t_11 + 1))
          else none
          else none
          else none
        else
          herbariumlaw4_RunsBack.l2 K go_l1 r25 r37 t_10 k (wr .i64 (t_11 + 1))
      else none
    else
      herbariumlaw4_RunsBack.l3 K go_l1 r25 t_10 K (0 : Int)
def herbariumlaw4_RunsBack.l1 (K : Nat) (r25 : List (List Int)) : Nat → Int → Option Bool
  | 0, _ => none
  | k + 1, t_10 =>
    if decide (t_10 < ((r25.length : Nat) : Int)) then
      if (0 : Int) ≤ t_10 ∧ t_10 < ((r25.length : Nat) : Int) then
      (runs_Split K (nth r25 t_10)).bind fun r37 =>
      (herbariumlaw4_num K r37.2.2).bind fun r42 =>
      if (r42 != 0) then
        herbariumlaw4_RunsBack.l1 K r25 k (wr .i64 (t_10 + 1))
      else
        (runs_Join K r37.1 r37.2.1).bind fun r47 =>
        (herbariumlaw4_num K r47.2).bind fun r51 =>
        if (r51 != 0) then
          some false
        else
          if (0 : Int) ≤ t_10 ∧ t_10 < ((r25.length : Nat) : Int) then
          (herbariumref0_EqNumbers K r47.1 (nth r25 t_10)).bind fun r59 =>
          if (!r59) then
            some false
          else
            herbariumlaw4_RunsBack.l2 K (herbariumlaw4_RunsBack.l1 K r25 k) r25 r37 t_10 K (0 : Int)
          else none
      else none
    else
      (herbariumlaw4_wakes K).bind fun r172 =>
      some r172
def herbariumlaw4_RunsBack (K : Nat) (x0 : herbariumlaw3_Ask) : Option Bool :=
  (herbariumlaw3_Heavy K x0).bind fun r23 =>
  if r23 then
    some true
  else
    (herbariumlaw3_Lists K x0).bind fun r25 =>
    herbariumlaw4_RunsBack.l1 K r25 K (0 : Int)
abbrev copies_Of.sg : Sig := ⟨[(.one, (.sl (.int .i64))), (.one, (.sl (.int .i64)))], [], [(.one, (.sl (.int .i64))), (.one, (.sl (.int .i64))), (.one, (.int .i64))], [.o, .o]⟩
def copies_Of (K : Nat) (x0 : List Int) (x1 : List Int) : Option ((List Int) × (List Int) × Int) :=
  (gaps_May K x0).bind fun r8 =>
  if (!r8) then
    some (([] : List Int), ([] : List Int), 1)
  else
    (gaps_May K x1).bind fun r12 =>
    if (!r12) then
      some (([] : List Int), ([] : List Int), 1)
    else
      (copies_Parts K x0 x1).bind fun r18 =>
      some (r18.1, r18.2, 0)
abbrev copies_Join.sg : Sig := ⟨[(.one, (.sl (.int .i64))), (.one, (.sl (.int .i64))), (.one, (.sl (.int .i64)))], [], [(.one, (.sl (.int .i64))), (.one, (.int .i64))], [.o]⟩
def copies_Join (K : Nat) (x0 : List Int) (x1 : List Int) (x2 : List Int) : Option ((List Int) × Int) :=
  (gaps_May K x0).bind fun r11 =>
  if (!r11) then
    some (([] : List Int), 1)
  else
    (gaps_May K x2).bind fun r15 =>
    if (!r15) then
      some (([] : List Int), 1)
    else
      (copies_Whole K x0 x1 x2).bind fun r22 =>
      if (!r22.2) then
        some (([] : List Int), 1)
      else
        some (r22.1, 0)
abbrev copies_Put.sg : Sig := ⟨[(.agg, Ty_api_Bits), (.one, (.int .i64)), (.one, (.sl (.int .i64))), (.one, (.sl (.int .i64)))], [], [(.agg, Ty_api_Bits), (.one, (.int .i64))], []⟩
def copies_Put (K : Nat) (x0 : api_Bits) (x1 : Int) (x2 : List Int) (x3 : List Int) : Option (api_Bits × Int) :=
  (bits_May K x0).bind fun r12 =>
  if (!r12) then
    some (((ByteArray.empty, 0) : api_Bits), 1)
  else
    (gaps_Is K x1).bind fun r16 =>
    if (!r16) then
      some (((ByteArray.empty, 0) : api_Bits), 1)
    else
      (gaps_May K x2).bind fun r21 =>
      if (!r21) then
        some (((ByteArray.empty, 0) : api_Bits), 1)
      else
        (gaps_May K x3).bind fun r26 =>
        if (!r26) then
          some (((ByteArray.empty, 0) : api_Bits), 1)
        else
          (bits_From K x0).bind fun r31 =>
          (copies_Lay K r31 x1 x2 x3).bind fun r36 =>
          (__bits_Row__Bits K r36).bind fun r38 =>
          some (r38.1, r38.2.1)
abbrev copies_Take.sg : Sig := ⟨[(.agg, Ty_api_Bits), (.one, (.int .i64)), (.one, (.int .i64)), (.one, (.sl (.int .i64)))], [], [(.one, (.sl (.int .i64))), (.one, (.int .i64)), (.one, (.int .i64))], [.o]⟩
def copies_Take (K : Nat) (x0 : api_Bits) (x1 : Int) (x2 : Int) (x3 : List Int) : Option ((List Int) × Int × Int) :=
  (bits_May K x0).bind fun r13 =>
  if (!r13) then
    some (([] : List Int), 0, 1)
  else
    (gaps_Is K x2).bind fun r17 =>
    if (!r17) then
      some (([] : List Int), 0, 1)
    else
      (gaps_May K x3).bind fun r22 =>
      if (!r22) then
        some (([] : List Int), 0, 1)
      else
        if decide (x1 < 0) then
          some (([] : List Int), 0, 1)
        else
          if decide (x1 > x0.N) then
            some (([] : List Int), 0, 1)
          else
            (copies_Read K x0 x1 x2 x3).bind fun r40 =>
            if (!r40.2.2) then
              some (([] : List Int), 0, 9)
            else
              some (r40.1, r40.2.1, 0)
abbrev copies_Size.sg : Sig := ⟨[(.one, (.int .i64)), (.one, (.sl (.int .i64))), (.one, (.sl (.int .i64)))], [], [(.one, (.int .i64)), (.one, (.int .i64))], []⟩
def copies_Size (K : Nat) (x0 : Int) (x1 : List Int) (x2 : List Int) : Option (Int × Int) :=
  (gaps_Is K x0).bind fun r10 =>
  if (!r10) then
    some (0, 1)
  else
    (gaps_May K x1).bind fun r14 =>
    if (!r14) then
      some (0, 1)
    else
      (gaps_May K x2).bind fun r19 =>
      if (!r19) then
        some (0, 1)
      else
        (copies_Lay K ((([] : List Int), 0) : bits_Row) x0 x1 x2).bind fun r28 =>
        (__bits_Row__Size K r28).bind fun r30 =>
        some (r30.1, 0)
abbrev herbariumlaw5_num.sg : Sig := ⟨[(.one, (.int .i64))], [], [(.one, (.int .i64))], []⟩
def herbariumlaw5_num (K : Nat) (x0 : Int) : Option Int :=
  some x0
abbrev herbariumlaw5_wakes.sg : Sig := ⟨[], [], [(.one, .bool)], []⟩
def herbariumlaw5_wakes (K : Nat) : Option Bool :=
  (copies_Of K ([1, 2, 3] : List Int) ([1, 3] : List Int)).bind fun r9 =>
  (copies_Join K ([1, 2, 3] : List Int) r9.1 r9.2.1).bind fun r17 =>
  (herbariumlaw5_num K r9.2.2).bind fun r21 =>
  if (r21 == 0) then
    (herbariumlaw5_num K r17.2).bind fun r25 =>
    if (r25 == 0) then
      (herbariumref0_EqNumbers K r9.1 ([1, 1] : List Int)).bind fun r31 =>
      if r31 then
        if (((r9.2.1.length : Nat) : Int) == 0) then
          (herbariumref0_EqNumbers K r17.1 ([1, 3] : List Int)).bind fun r41 =>
          some r41
        else
          some false
      else
        some false
    else
      some false
  else
    some false
abbrev herbariumlaw5_CopiesAll.sg : Sig := ⟨[(.agg, Ty_herbariumlaw3_Ask)], [], [(.one, .bool)], []⟩
def herbariumlaw5_CopiesAll.l4 (K : Nat) (go_l1 : Int → Option Bool) (go_l3 : Int → (List Int) → Option Bool) (t_10 : Int) (t_12 : Int) (x0 : herbariumlaw3_Ask) : Nat → Int → (List Int) → (List Int) → Option Bool
  | 0, _, _, _ => none
  | k + 1, t_13, t_17, t_15 =>
    if decide (t_13 < 8) then
      if (0 : Int) ≤ t_13 then
      if ((ib .and .i64 (t_12.fdiv (2 ^ min (t_13).toNat 64)) 1) == 1) then
        if (4 : Int) ≠ 0 then
        if (t_15.length + ([wr .i64 (t_13 + (((x0.N.length : Nat) : Int).tmod 4))] : List Int).length) * 8 ≤ 140737488355328 then
        herbariumlaw5_CopiesAll.l4 K go_l1 go_l3 t_10 t_12 x0 k (wr .i64 (t_13 + 1)) t_17 (t_15 ++ ([wr .i64 (t_13 + (((x0.N.length : Nat) : Int).tmod 4))] : List Int))
        else none
        else none
      else
        herbariumlaw5_CopiesAll.l4 K go_l1 go_l3 t_10 t_12 x0 k (wr .i64 (t_13 + 1)) t_17 t_15
      else none
    else
      (copies_Of K t_15 t_17).bind fun r72 =>
      (copies_Join K t_15 r72.1 r72.2.1).bind fun r80 =>
      (copies_Put K ((ByteArray.empty, 0) : api_Bits) 3 t_15 t_17).bind fun r87 =>
      (copies_Take K r87.1 0 3 t_15).bind fun r93 =>
      (copies_Size K 3 t_15 t_17).bind fun r100 =>
      (herbariumlaw5_num K r72.2.2).bind fun r104 =>
      (herbariumlaw5_num K r80.2).bind fun r106 =>
      (herbariumlaw5_num K r87.2).bind fun r109 =>
      (herbariumlaw5_num K r93.2.2).bind fun r112 =>
      (herbariumlaw5_num K r100.2).bind fun r115 =>
      if ((wr .i64 ((wr .i64 ((wr .i64 ((wr .i64 (r104 + r106)) + r109)) + r112)) + r115)) != 0) then
        some false
      else
        (herbariumref0_EqNumbers K r93.1 t_17).bind fun r121 =>
        if (!r121) then
          some false
        else
          (herbariumref0_EqNumbers K r80.1 t_17).bind fun r127 =>
          if (!r127) then
            some false
          else
            if (r93.2.1 != r87.1.N) then
              some false
            else
              if (r100.1 != r87.1.N) then
                some false
              else
                if (5 : Int) ≠ 0 then
                go_l3 (wr .i64 ((wr .i64 (t_12 + 29)) + (((x0.L.length : Nat) : Int).tmod 5))) t_17
                else none
def herbariumlaw5_CopiesAll.l3 (K : Nat) (go_l1 : Int → Option Bool) (t_10 : Int) (x0 : herbariumlaw3_Ask) : Nat → Int → (List Int) → Option Bool
  | 0, _, _ => none
  | k + 1, t_12, t_16 =>
    if decide (t_12 < 256) then
      herbariumlaw5_CopiesAll.l4 K go_l1 (herbariumlaw5_CopiesAll.l3 K go_l1 t_10 x0 k) t_10 t_12 x0 K (0 : Int) t_16 ([] : List Int)
    else
      go_l1 (wr .i64 (t_10 + 1))
def herbariumlaw5_CopiesAll.l2 (K : Nat) (go_l1 : Int → Option Bool) (t_10 : Int) (x0 : herbariumlaw3_Ask) : Nat → Int → (List Int) → Option Bool
  | 0, _, _ => none
  | k + 1, t_11, t_14 =>
    if decide (t_11 < 8) then
      if (0 : Int) ≤ t_11 then
      if ((ib .and .i64 (t_10.fdiv (2 ^ min (t_11).toNat 64)) 1) == 1) then
        if (4 : Int) ≠ 0 then
        if (t_14.length + ([wr .i64 ((wr .i64 (2 * (wr .i64 (t_11.tdiv 4)))) + t_11)] : List Int).length) * 8 ≤ 140737488355328 then
        herbariumlaw5_CopiesAll.l2 K go_l1 t_10 x0 k (wr .i64 (t_11 + 1)) (t_14 ++ ([wr .i64 ((wr .i64 (2 * (wr .i64 (t_11.tdiv 4)))) + t_11)] : List Int))
        else none
        else none
      else
        herbariumlaw5_CopiesAll.l2 K go_l1 t_10 x0 k (wr .i64 (t_11 + 1)) t_14
      else none
    else
      herbariumlaw5_CopiesAll.l3 K go_l1 t_10 x0 K (0 : Int) t_14
def herbariumlaw5_CopiesAll.l1 (K : Nat) (x0 : herbariumlaw3_Ask) : Nat → Int → Option Bool
  | 0, _ => none
  | k + 1, t_10 =>
    if decide (t_10 < 256) then
      herbariumlaw5_CopiesAll.l2 K (herbariumlaw5_CopiesAll.l1 K x0 k) t_10 x0 K (0 : Int) ([] : List Int)
    else
      (herbariumlaw5_wakes K).bind fun r142 =>
      some r142
def herbariumlaw5_CopiesAll (K : Nat) (x0 : herbariumlaw3_Ask) : Option Bool :=
  herbariumlaw5_CopiesAll.l1 K x0 K (0 : Int)
abbrev herbariumref0_In.sg : Sig := ⟨[(.one, (.sl (.int .i64))), (.one, (.int .i64))], [], [(.one, (.int .i64))], []⟩
def herbariumref0_In.l1 (K : Nat) (x0 : List Int) (x1 : Int) : Nat → Int → Option Int
  | 0, _ => none
  | k + 1, i_10 =>
    if decide (i_10 < ((x0.length : Nat) : Int)) then
      if (0 : Int) ≤ i_10 ∧ i_10 < ((x0.length : Nat) : Int) then
      if ((nth x0 i_10) == x1) then
        some i_10
      else
        herbariumref0_In.l1 K x0 x1 k (wr .i64 (i_10 + 1))
      else none
    else
      some ((-1) : Int)
def herbariumref0_In (K : Nat) (x0 : List Int) (x1 : Int) : Option Int :=
  herbariumref0_In.l1 K x0 x1 K (0 : Int)
abbrev herbariumref3_Copies.sg : Sig := ⟨[(.one, (.sl (.int .i64))), (.one, (.sl (.int .i64)))], [], [(.one, (.sl (.int .i64))), (.one, (.sl (.int .i64)))], [.o, .o]⟩
def herbariumref3_Copies.l2 (K : Nat) (x0 : List Int) (x1 : List Int) : Nat → Int → (List Int) → (List Int) → Option ((List Int) × (List Int))
  | 0, _, _, _ => none
  | k + 1, i_12, blocks_16, rest_15 =>
    if decide (i_12 < ((x1.length : Nat) : Int)) then
      if (0 : Int) ≤ i_12 ∧ i_12 < ((x1.length : Nat) : Int) then
      (herbariumref0_In K x0 (nth x1 i_12)).bind fun r47 =>
      if decide (r47 < 0) then
        if (0 : Int) ≤ i_12 ∧ i_12 < ((x1.length : Nat) : Int) then
        if (rest_15.length + ([nth x1 i_12] : List Int).length) * 8 ≤ 140737488355328 then
        herbariumref3_Copies.l2 K x0 x1 k (wr .i64 (i_12 + 1)) blocks_16 (rest_15 ++ ([nth x1 i_12] : List Int))
        else none
        else none
      else
        herbariumref3_Copies.l2 K x0 x1 k (wr .i64 (i_12 + 1)) blocks_16 rest_15
      else none
    else
      some (blocks_16, rest_15)
def herbariumref3_Copies.l1 (K : Nat) (x0 : List Int) (x1 : List Int) : Nat → Bool → Int → Int → (List Int) → Option ((List Int) × (List Int))
  | 0, _, _, _, _ => none
  | k + 1, in_14, n_10, i_11, blocks_13 =>
    if decide (i_11 < ((x0.length : Nat) : Int)) then
      if (0 : Int) ≤ i_11 ∧ i_11 < ((x0.length : Nat) : Int) then
      (herbariumref0_In K x1 (nth x0 i_11)).bind fun r24 =>
      if (!((decide (r24 ≥ 0)) == in_14)) then
        if (blocks_13.length + ([n_10] : List Int).length) * 8 ≤ 140737488355328 then
        herbariumref3_Copies.l1 K x0 x1 k (decide (r24 ≥ 0)) (wr .i64 ((0 : Int) + 1)) (wr .i64 (i_11 + 1)) (blocks_13 ++ ([n_10] : List Int))
        else none
      else
        herbariumref3_Copies.l1 K x0 x1 k in_14 (wr .i64 (n_10 + 1)) (wr .i64 (i_11 + 1)) blocks_13
      else none
    else
      herbariumref3_Copies.l2 K x0 x1 K (0 : Int) blocks_13 ([] : List Int)
def herbariumref3_Copies (K : Nat) (x0 : List Int) (x1 : List Int) : Option ((List Int) × (List Int)) :=
  herbariumref3_Copies.l1 K x0 x1 K true (0 : Int) (0 : Int) ([] : List Int)
abbrev herbariumref3_JoinCopies.sg : Sig := ⟨[(.one, (.sl (.int .i64))), (.one, (.sl (.int .i64))), (.one, (.sl (.int .i64)))], [], [(.one, (.sl (.int .i64))), (.one, .bool)], [.o]⟩
def herbariumref3_JoinCopies.l5 (K : Nat) (x0 : List Int) (x1 : List Int) (x2 : List Int) : Nat → Int → (List Bool) → (List Int) → Option ((List Int) × Bool)
  | 0, _, _, _ => none
  | k + 1, t_16, t_20, t_19 =>
    if decide (t_16 < 16) then
      if ((0 : Int) ≤ t_16 ∧ t_16 < ((t_20.length : Nat) : Int)) ∧ t_20.length = 16 then
      if nth t_20 t_16 then
        if (t_19.length + ([t_16] : List Int).length) * 8 ≤ 140737488355328 then
        herbariumref3_JoinCopies.l5 K x0 x1 x2 k (wr .i64 (t_16 + 1)) t_20 (t_19 ++ ([t_16] : List Int))
        else none
      else
        herbariumref3_JoinCopies.l5 K x0 x1 x2 k (wr .i64 (t_16 + 1)) t_20 t_19
      else none
    else
      (herbariumref3_Copies K x0 t_19).bind fun r104 =>
      (herbariumref0_EqNumbers K r104.1 x1).bind fun r110 =>
      if r110 then
        (herbariumref0_EqNumbers K r104.2 x2).bind fun r114 =>
        some (t_19, r114)
      else
        some (t_19, false)
def herbariumref3_JoinCopies.l4 (K : Nat) (x0 : List Int) (x1 : List Int) (x2 : List Int) : Nat → Int → (List Bool) → Option ((List Int) × Bool)
  | 0, _, _ => none
  | k + 1, t_15, t_18 =>
    if decide (t_15 < ((x2.length : Nat) : Int)) then
      if (0 : Int) ≤ t_15 ∧ t_15 < ((x2.length : Nat) : Int) then
      if ((0 : Int) ≤ (nth x2 t_15) ∧ (nth x2 t_15) < ((t_18.length : Nat) : Int)) ∧ t_18.length = 16 then
      herbariumref3_JoinCopies.l4 K x0 x1 x2 k (wr .i64 (t_15 + 1)) ((t_18).set (nth x2 t_15).toNat true)
      else none
      else none
    else
      herbariumref3_JoinCopies.l5 K x0 x1 x2 K (0 : Int) t_18 ([] : List Int)
def herbariumref3_JoinCopies.l3 (K : Nat) (go_l1 : Int → Int → (List Bool) → Option ((List Int) × Bool)) (t_11 : Int) (t_12 : Int) (t_13 : Int) (x0 : List Int) (x1 : List Int) (x2 : List Int) : Nat → Int → (List Bool) → Option ((List Int) × Bool)
  | 0, _, _ => none
  | k + 1, t_14, t_17 =>
    if decide (t_14 < t_13) then
      if (2 : Int) ≠ 0 then
      if ((t_12.tmod 2) == 0) then
        if (0 : Int) ≤ (wr .i64 (t_11 + t_14)) ∧ (wr .i64 (t_11 + t_14)) < ((x0.length : Nat) : Int) then
        if ((0 : Int) ≤ (nth x0 (wr .i64 (t_11 + t_14))) ∧ (nth x0 (wr .i64 (t_11 + t_14))) < ((t_17.length : Nat) : Int)) ∧ t_17.length = 16 then
        herbariumref3_JoinCopies.l3 K go_l1 t_11 t_12 t_13 x0 x1 x2 k (wr .i64 (t_14 + 1)) ((t_17).set (nth x0 (wr .i64 (t_11 + t_14))).toNat true)
        else none
        else none
      else
        go_l1 (wr .i64 (t_11 + t_13)) (wr .i64 (t_12 + 1)) t_17
      else none
    else
      go_l1 (wr .i64 (t_11 + t_13)) (wr .i64 (t_12 + 1)) t_17
def herbariumref3_JoinCopies.j2 (K : Nat) (go_l1 : Int → Int → (List Bool) → Option ((List Int) × Bool)) (t_10 : List Bool) (t_11 : Int) (t_12 : Int) (x0 : List Int) (x1 : List Int) (x2 : List Int) (t_13 : Int) : Option ((List Int) × Bool) :=
  if decide (t_13 < 0) then
    some (([] : List Int), false)
  else
    if decide (t_13 > (wr .i64 (((x0.length : Nat) : Int) - t_11))) then
      some (([] : List Int), false)
    else
      herbariumref3_JoinCopies.l3 K go_l1 t_11 t_12 t_13 x0 x1 x2 K (0 : Int) t_10
def herbariumref3_JoinCopies.l1 (K : Nat) (x0 : List Int) (x1 : List Int) (x2 : List Int) : Nat → Int → Int → (List Bool) → Option ((List Int) × Bool)
  | 0, _, _, _ => none
  | k + 1, t_11, t_12, t_10 =>
    if decide (t_12 ≤ ((x1.length : Nat) : Int)) then
      if decide (t_12 < ((x1.length : Nat) : Int)) then
        if (0 : Int) ≤ t_12 ∧ t_12 < ((x1.length : Nat) : Int) then
        herbariumref3_JoinCopies.j2 K (herbariumref3_JoinCopies.l1 K x0 x1 x2 k) t_10 t_11 t_12 x0 x1 x2 (nth x1 t_12)
        else none
      else
        herbariumref3_JoinCopies.j2 K (herbariumref3_JoinCopies.l1 K x0 x1 x2 k) t_10 t_11 t_12 x0 x1 x2 (wr .i64 (((x0.length : Nat) : Int) - t_11))
    else
      herbariumref3_JoinCopies.l4 K x0 x1 x2 K (0 : Int) t_10
def herbariumref3_JoinCopies (K : Nat) (x0 : List Int) (x1 : List Int) (x2 : List Int) : Option ((List Int) × Bool) :=
  (herbariumref3_May K x0).bind fun r19 =>
  if (!r19) then
    some (([] : List Int), false)
  else
    (herbariumref3_May K x2).bind fun r23 =>
    if (!r23) then
      some (([] : List Int), false)
    else
      if decide (((x1.length : Nat) : Int) > 16) then
        some (([] : List Int), false)
      else
        herbariumref3_JoinCopies.l1 K x0 x1 x2 K (0 : Int) (0 : Int) (List.replicate 16 false)
abbrev herbariumlaw5_CopiesOf.sg : Sig := ⟨[(.agg, Ty_herbariumlaw3_Ask)], [], [(.one, .bool)], []⟩
def herbariumlaw5_CopiesOf.j7 (K : Nat) (go_l1 : Int → Option Bool) (go_l2 : Int → Option Bool) (go_l5 : (List Int) → Int → (List (List Int)) → Option Bool) (r124 : List Int) (r132 : (List Int) × Int) (r25 : List (List Int)) (t_10 : Int) (t_11 : Int) (t_17 : List (List Int)) (t_18 : Int) (t_20 : List Int) (x0 : herbariumlaw3_Ask) (t_21 : Int) (t_22 : List Int) : Option Bool :=
  (herbariumlaw5_num K r132.2).bind fun r151 =>
  if (r151 != t_21) then
    some false
  else
    (herbariumref0_EqNumbers K r132.1 t_22).bind fun r157 =>
    if (!r157) then
      some false
    else
      if (0 : Int) ≤ t_18 ∧ t_18 < ((t_17.length : Nat) : Int) then
      (herbariumref0_EqNumbers K r124 (nth t_17 t_18)).bind fun r166 =>
      if (!r166) then
        some false
      else
        go_l5 t_20 (wr .i64 (t_18 + 1)) t_17
      else none
def herbariumlaw5_CopiesOf.j6 (K : Nat) (go_l1 : Int → Option Bool) (go_l2 : Int → Option Bool) (go_l5 : (List Int) → Int → (List (List Int)) → Option Bool) (r25 : List (List Int)) (t_10 : Int) (t_11 : Int) (t_17 : List (List Int)) (t_18 : Int) (x0 : herbariumlaw3_Ask) (t_20 : List Int) (t_19 : List Int) : Option Bool :=
  if (0 : Int) ≤ t_18 ∧ t_18 < ((t_17.length : Nat) : Int) then
  (herbariumref0_CopyNumbers K (nth t_17 t_18)).bind fun r124 =>
  if (0 : Int) ≤ t_10 ∧ t_10 < ((r25.length : Nat) : Int) then
  (copies_Join K (nth r25 t_10) r124 t_19).bind fun r132 =>
  if (0 : Int) ≤ t_10 ∧ t_10 < ((r25.length : Nat) : Int) then
  if (0 : Int) ≤ t_18 ∧ t_18 < ((t_17.length : Nat) : Int) then
  (herbariumref3_JoinCopies K (nth r25 t_10) (nth t_17 t_18) t_19).bind fun r145 =>
  if r145.2 then
    herbariumlaw5_CopiesOf.j7 K go_l1 go_l2 go_l5 r124 r132 r25 t_10 t_11 t_17 t_18 t_20 x0 (0 : Int) r145.1
  else
    herbariumlaw5_CopiesOf.j7 K go_l1 go_l2 go_l5 r124 r132 r25 t_10 t_11 t_17 t_18 t_20 x0 (1 : Int) ([] : List Int)
  else none
  else none
  else none
  else none
def herbariumlaw5_CopiesOf.l5 (K : Nat) (go_l1 : Int → Option Bool) (go_l2 : Int → Option Bool) (r25 : List (List Int)) (t_10 : Int) (t_11 : Int) (x0 : herbariumlaw3_Ask) : Nat → (List Int) → Int → (List (List Int)) → Option Bool
  | 0, _, _, _ => none
  | k + 1, t_23, t_18, t_17 =>
    if decide (t_18 < ((t_17.length : Nat) : Int)) then
      if ((r25.length : Nat) : Int) ≠ 0 then
      if (0 : Int) ≤ ((wr .i64 (t_18 + t_11)).tmod ((r25.length : Nat) : Int)) ∧ ((wr .i64 (t_18 + t_11)).tmod ((r25.length : Nat) : Int)) < ((r25.length : Nat) : Int) then
      if (t_18 == 0) then
        herbariumlaw5_CopiesOf.j6 K go_l1 go_l2 (herbariumlaw5_CopiesOf.l5 K go_l1 go_l2 r25 t_10 t_11 x0 k) r25 t_10 t_11 t_17 t_18 x0 t_23 t_23
      else
        herbariumlaw5_CopiesOf.j6 K go_l1 go_l2 (herbariumlaw5_CopiesOf.l5 K go_l1 go_l2 r25 t_10 t_11 x0 k) r25 t_10 t_11 t_17 t_18 x0 t_23 (nth r25 ((wr .i64 (t_18 + t_11)).tmod ((r25.length : Nat) : Int)))
      else none
      else none
    else
      go_l2 (wr .i64 (t_11 + 1))
def herbariumlaw5_CopiesOf.j3 (K : Nat) (go_l1 : Int → Option Bool) (go_l2 : Int → Option Bool) (r25 : List (List Int)) (r47 : (List Int) × (List Int) × Int) (t_10 : Int) (t_11 : Int) (x0 : herbariumlaw3_Ask) (t_14 : Int) (t_15 : List Int) (t_16 : List Int) : Option Bool :=
  (herbariumlaw5_num K r47.2.2).bind fun r76 =>
  if (r76 != t_14) then
    some false
  else
    (herbariumref0_EqNumbers K r47.1 t_15).bind fun r82 =>
    if (!r82) then
      some false
    else
      (herbariumref0_EqNumbers K r47.2.1 t_16).bind fun r88 =>
      if (!r88) then
        some false
      else
        herbariumlaw5_CopiesOf.l5 K go_l1 go_l2 r25 t_10 t_11 x0 K t_16 (0 : Int) ([t_15, ([] : List Int), ([0] : List Int), ([1] : List Int), ([0, 1] : List Int), ([1, 1, 1] : List Int), ([2, 0] : List Int), ([(-1)] : List Int), ([4611686018427387904] : List Int), x0.N] : List (List Int))
def herbariumlaw5_CopiesOf.j4 (K : Nat) (go_l1 : Int → Option Bool) (go_l2 : Int → Option Bool) (r25 : List (List Int)) (r47 : (List Int) × (List Int) × Int) (t_10 : Int) (t_11 : Int) (x0 : herbariumlaw3_Ask) (t_12 : Int) (t_13 : Bool) : Option Bool :=
  if t_13 then
    if (0 : Int) ≤ t_10 ∧ t_10 < ((r25.length : Nat) : Int) then
    if (0 : Int) ≤ t_11 ∧ t_11 < ((r25.length : Nat) : Int) then
    (herbariumref3_Copies K (nth r25 t_10) (nth r25 t_11)).bind fun r72 =>
    herbariumlaw5_CopiesOf.j3 K go_l1 go_l2 r25 r47 t_10 t_11 x0 (0 : Int) r72.1 r72.2
    else none
    else none
  else
    herbariumlaw5_CopiesOf.j3 K go_l1 go_l2 r25 r47 t_10 t_11 x0 t_12 ([] : List Int) ([] : List Int)
def herbariumlaw5_CopiesOf.l2 (K : Nat) (go_l1 : Int → Option Bool) (r25 : List (List Int)) (t_10 : Int) (x0 : herbariumlaw3_Ask) : Nat → Int → Option Bool
  | 0, _ => none
  | k + 1, t_11 =>
    if decide (t_11 < ((r25.length : Nat) : Int)) then
      if (0 : Int) ≤ t_10 ∧ t_10 < ((r25.length : Nat) : Int) then
      if (0 : Int) ≤ t_11 ∧ t_11 < ((r25.length : Nat) : Int) then
      (copies_Of K (nth r25 t_10) (nth r25 t_11)).bind fun r47 =>
      if (0 : Int) ≤ t_10 ∧ t_10 < ((r25.length : Nat) : Int) then
      (herbariumref3_May K (nth r25 t_10)).bind fun r55 =>
      if r55 then
        if (0 : Int) ≤ t_11 ∧ t_11 < ((r25.length : Nat) : Int) then
        (herbariumref3_May K (nth r25 t_11)).bind fun r61 =>
        herbariumlaw5_CopiesOf.j4 K go_l1 (herbariumlaw5_CopiesOf.l2 K go_l1 r25 t_10 x0 k) r25 r47 t_10 t_11 x0 (1 : Int) r61
        else none
      else
        herbariumlaw5_CopiesOf.j4 K go_l1 (herbariumlaw5_CopiesOf.l2 K go_l1 r25 t_10 x0 k) r25 r47 t_10 t_11 x0 (1 : Int) false
      else none
      else none
      else none
    else
      go_l1 (wr .i64 (t_10 + 1))
def herbariumlaw5_CopiesOf.l1 (K : Nat) (r25 : List (List Int)) (x0 : herbariumlaw3_Ask) : Nat → Int → Option Bool
  | 0, _ => none
  | k + 1, t_10 =>
    if decide (t_10 < ((r25.length : Nat) : Int)) then
      herbariumlaw5_CopiesOf.l2 K (herbariumlaw5_CopiesOf.l1 K r25 x0 k) r25 t_10 x0 K (0 : Int)
    else
      (herbariumlaw5_wakes K).bind fun r169 =>
      some r169
def herbariumlaw5_CopiesOf (K : Nat) (x0 : herbariumlaw3_Ask) : Option Bool :=
  (herbariumlaw3_Heavy K x0).bind fun r23 =>
  if r23 then
    some true
  else
    (herbariumlaw3_Lists K x0).bind fun r25 =>
    herbariumlaw5_CopiesOf.l1 K r25 x0 K (0 : Int)
abbrev herbariumlaw5_CopiesBack.sg : Sig := ⟨[(.agg, Ty_herbariumlaw3_Ask)], [], [(.one, .bool)], []⟩
def herbariumlaw5_CopiesBack.l3 (K : Nat) (go_l1 : Int → Option Bool) (go_l2 : Int → Option Bool) (r21 : List (List Int)) (r43 : (List Int) × (List Int) × Int) (t_10 : Int) (t_11 : Int) : Nat → Int → Int → Option Bool
  | 0, _, _ => none
  | k + 1, t_12, t_13 =>
    if decide (t_13 < ((r43.1.length : Nat) : Int)) then
      if (0 : Int) ≤ t_13 ∧ t_13 < ((r43.1.length : Nat) : Int) then
      if decide ((nth r43.1 t_13) < 1) then
        if decide (t_13 > 0) then
          some false
        else
          if (0 : Int) ≤ t_13 ∧ t_13 < ((r43.1.length : Nat) : Int) then
          herbariumlaw5_CopiesBack.l3 K go_l1 go_l2 r21 r43 t_10 t_11 k (wr .i64 (t_12 + (nth r43.1 t_13))) (wr .i64 (t_13 + 1))
          else none
      else
        if (0 : Int) ≤ t_13 ∧ t_13 < ((r43.1.length : Nat) : Int) then
        herbariumlaw5_CopiesBack.l3 K go_l1 go_l2 r21 r43 t_10 t_11 k (wr .i64 (t_12 + (nth r43.1 t_13))) (wr .i64 (t_13 + 1))
        else none
      else none
    else
      if (0 : Int) ≤ t_11 ∧ t_11 < ((r21.length : Nat) : Int) then
      if decide (t_12 > (((nth r21 t_11).length : Nat) : Int)) then
        some false
      else
        go_l2 (wr .i64 (t_11 + 1))
      else none
def herbariumlaw5_CopiesBack.l2 (K : Nat) (go_l1 : Int → Option Bool) (r21 : List (List Int)) (t_10 : Int) : Nat → Int → Option Bool
  | 0, _ => none
  | k + 1, t_11 =>
    if decide (t_11 < ((r21.length : Nat) : Int)) then
      if (0 : Int) ≤ t_11 ∧ t_11 < ((r21.length : Nat) : Int) then
      if (0 : Int) ≤ t_10 ∧ t_10 < ((r21.length : Nat) : Int) then
      (copies_Of K (nth r21 t_11) (nth r21 t_10)).bind fun r43 =>
      (herbariumlaw5_num K r43.2.2).bind fun r48 =>
      if (r48 != 0) then
        herbariumlaw5_CopiesBack.l2 K go_l1 r21 t_10 k (wr .i64 (t_11 + 1))
      else
        if (0 : Int) ≤ t_11 ∧ t_11 < ((r21.length : Nat) : Int) then
        (copies_Join K (nth r21 t_11) r43.1 r43.2.1).bind fun r57 =>
        if (0 : Int) ≤ t_11 ∧ t_11 < ((r21.length : Nat) : Int) then
        if (0 : Int) ≤ t_10 ∧ t_10 < ((r21.length : Nat) : Int) then
        (copies_Put K ((ByteArray.empty, 0) : api_Bits) 4 (nth r21 t_11) (nth r21 t_10)).bind fun r70 =>
        if (0 : Int) ≤ t_11 ∧ t_11 < ((r21.length : Nat) : Int) then
        (copies_Take K r70.1 0 4 (nth r21 t_11)).bind fun r79 =>
        (herbariumlaw5_num K r57.2).bind fun r84 =>
        (herbariumlaw5_num K r70.2).bind fun r86 =>
        (herbariumlaw5_num K r79.2.2).bind fun r89 =>
        if ((wr .i64 ((wr .i64 (r84 + r86)) + r89)) != 0) then
          some false
        else
          if (0 : Int) ≤ t_10 ∧ t_10 < ((r21.length : Nat) : Int) then
          (herbariumref0_EqNumbers K r57.1 (nth r21 t_10)).bind fun r98 =>
          if (!r98) then
            some false
          else
            if (0 : Int) ≤ t_10 ∧ t_10 < ((r21.length : Nat) : Int) then
            (herbariumref0_EqNumbers K r79.1 (nth r21 t_10)).bind fun r107 =>
            if (!r107) then
              some false
            else
              if (r79.2.1 != r70.1.N) then
                some false
              else
                if (t_10 == t_11) then
                  if (((r43.1.length : Nat) : Int) != 0) then
                    some false
                  else
                    if (((r43.2.1.length : Nat) : Int) != 0) then
                      some false
                    else
                      herbariumlaw5_CopiesBack.l3 K go_l1 (herbariumlaw5_CopiesBack.l2 K go_l1 r21 t_10 k) r21 r43 t_10 t_11 K (0 : Int) (0 : Int)
                else
                  herbariumlaw5_CopiesBack.l3 K go_l1 (herbariumlaw5_CopiesBack.l2 K go_l1 r21 t_10 k) r21 r43 t_10 t_11 K (0 : Int) (0 : Int)
            else none
          else none
        else none
        else none
        else none
        else none
      else none
      else none
    else
      go_l1 (wr .i64 (t_10 + 1))
def herbariumlaw5_CopiesBack.l1 (K : Nat) (r21 : List (List Int)) : Nat → Int → Option Bool
  | 0, _ => none
  | k + 1, t_10 =>
    if decide (t_10 < ((r21.length : Nat) : Int)) then
      herbariumlaw5_CopiesBack.l2 K (herbariumlaw5_CopiesBack.l1 K r21 k) r21 t_10 K (0 : Int)
    else
      (herbariumlaw5_wakes K).bind fun r159 =>
      some r159
def herbariumlaw5_CopiesBack (K : Nat) (x0 : herbariumlaw3_Ask) : Option Bool :=
  (herbariumlaw3_Heavy K x0).bind fun r19 =>
  if r19 then
    some true
  else
    (herbariumlaw3_Lists K x0).bind fun r21 =>
    herbariumlaw5_CopiesBack.l1 K r21 K (0 : Int)
end Go.XM
end
