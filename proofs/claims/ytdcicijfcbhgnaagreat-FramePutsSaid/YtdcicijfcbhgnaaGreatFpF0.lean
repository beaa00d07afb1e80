import Derived.Test.YtdcicijfcbhgnaaGreatFpH0
set_option linter.all false
section
namespace Go.XM
set_option maxRecDepth 100000
abbrev herbariumlaw0_Lists.sg : Sig := ⟨[(.one, (.sl (.sl (.int .i64))))], [], [(.one, (.int .i64))], []⟩
def herbariumlaw0_Lists.l1 (K : Nat) (x0 : List (List Int)) : Nat → Int → Int → Option Int
  | 0, _, _ => none
  | k + 1, n_10, i_11 =>
    if decide (i_11 < ((x0.length : Nat) : Int)) then
      if decide (n_10 < 1048576) then
        if (0 : Int) ≤ i_11 ∧ i_11 < ((x0.length : Nat) : Int) then
        herbariumlaw0_Lists.l1 K x0 k (wr .i64 (n_10 + (((nth x0 i_11).length : Nat) : Int))) (wr .i64 (i_11 + 1))
        else none
      else
        some n_10
    else
      some n_10
def herbariumlaw0_Lists (K : Nat) (x0 : List (List Int)) : Option Int :=
  herbariumlaw0_Lists.l1 K x0 K ((x0.length : Nat) : Int) (0 : Int)
abbrev api_Graph : Type := Int × (List (List Int))
abbrev Ty_api_Graph : Ty := (.pr (.int .i64) (.sl (.sl (.int .i64))))
abbrev api_Graph.N (x : api_Graph) : Int := x.1
abbrev api_Graph.Out (x : api_Graph) : List (List Int) := x.2
abbrev herbariumlaw0_GraphsWeight.sg : Sig := ⟨[(.one, (.sl Ty_api_Graph))], [], [(.one, (.int .i64))], []⟩
def herbariumlaw0_GraphsWeight.l1 (K : Nat) (x0 : List api_Graph) : Nat → Int → Int → Option Int
  | 0, _, _ => none
  | k + 1, n_10, i_11 =>
    if decide (i_11 < ((x0.length : Nat) : Int)) then
      if decide (n_10 < 1048576) then
        if (0 : Int) ≤ i_11 ∧ i_11 < ((x0.length : Nat) : Int) then
        (herbariumlaw0_Lists K ((nth x0 i_11).Out)).bind fun r23 =>
        herbariumlaw0_GraphsWeight.l1 K x0 k (wr .i64 (n_10 + r23)) (wr .i64 (i_11 + 1))
        else none
      else
        some n_10
    else
      some n_10
def herbariumlaw0_GraphsWeight (K : Nat) (x0 : List api_Graph) : Option Int :=
  herbariumlaw0_GraphsWeight.l1 K x0 K ((x0.length : Nat) : Int) (0 : Int)
abbrev herbariumlaw6_Act : Type := Int × Int × Int
abbrev Ty_herbariumlaw6_Act : Ty := (.pr (.int .i64) (.pr (.int .i64) (.int .i64)))
abbrev herbariumlaw6_Act.Do (x : herbariumlaw6_Act) : Int := x.1
abbrev herbariumlaw6_Act.A (x : herbariumlaw6_Act) : Int := x.2.1
abbrev herbariumlaw6_Act.B (x : herbariumlaw6_Act) : Int := x.2.2
abbrev herbariumlaw6_Script : Type := (List api_Graph) × (List herbariumlaw6_Act)
abbrev Ty_herbariumlaw6_Script : Ty := (.pr (.sl Ty_api_Graph) (.sl Ty_herbariumlaw6_Act))
abbrev herbariumlaw6_Script.G (x : herbariumlaw6_Script) : List api_Graph := x.1
abbrev herbariumlaw6_Script.A (x : herbariumlaw6_Script) : List herbariumlaw6_Act := x.2
abbrev herbariumlaw6_Heavy.sg : Sig := ⟨[(.agg, Ty_herbariumlaw6_Script)], [], [(.one, .bool)], []⟩
def herbariumlaw6_Heavy (K : Nat) (x0 : herbariumlaw6_Script) : Option Bool :=
  (herbariumlaw0_GraphsWeight K x0.G).bind fun r5 =>
  some (decide ((wr .i64 (r5 + ((x0.A.length : Nat) : Int))) > 1200))
abbrev herbariumref0_CopyNumbers.sg : Sig := ⟨[(.one, (.sl (.int .i64)))], [], [(.one, (.sl (.int .i64)))], [.o]⟩
def herbariumref0_CopyNumbers.l1 (K : Nat) (x0 : List Int) : Nat → Int → (List Int) → Option (List Int)
  | 0, _, _ => none
  | k + 1, i_10, m_11 =>
    if decide (i_10 < ((x0.length : Nat) : Int)) then
      if (0 : Int) ≤ i_10 ∧ i_10 < ((x0.length : Nat) : Int) then
      if (m_11.length + ([nth x0 i_10] : List Int).length) * 8 ≤ 140737488355328 then
      herbariumref0_CopyNumbers.l1 K x0 k (wr .i64 (i_10 + 1)) (m_11 ++ ([nth x0 i_10] : List Int))
      else none
      else none
    else
      some m_11
def herbariumref0_CopyNumbers (K : Nat) (x0 : List Int) : Option (List Int) :=
  herbariumref0_CopyNumbers.l1 K x0 K (0 : Int) ([] : List Int)
abbrev herbariumref0_CopyNumberLists.sg : Sig := ⟨[(.one, (.sl (.sl (.int .i64))))], [], [(.one, (.sl (.sl (.int .i64))))], [.o1]⟩
def herbariumref0_CopyNumberLists.l1 (K : Nat) (x0 : List (List Int)) : Nat → Int → (List (List Int)) → Option (List (List Int))
  | 0, _, _ => none
  | k + 1, i_10, l_11 =>
    if decide (i_10 < ((x0.length : Nat) : Int)) then
      if (0 : Int) ≤ i_10 ∧ i_10 < ((x0.length : Nat) : Int) then
      (herbariumref0_CopyNumbers K (nth x0 i_10)).bind fun r16 =>
      if (l_11.length + ([r16] : List (List Int)).length) * 24 ≤ 140737488355328 then
      herbariumref0_CopyNumberLists.l1 K x0 k (wr .i64 (i_10 + 1)) (l_11 ++ ([r16] : List (List Int)))
      else none
      else none
    else
      some l_11
def herbariumref0_CopyNumberLists (K : Nat) (x0 : List (List Int)) : Option (List (List Int)) :=
  herbariumref0_CopyNumberLists.l1 K x0 K (0 : Int) ([] : List (List Int))
abbrev herbariumref0_CopyGraph.sg : Sig := ⟨[(.agg, Ty_api_Graph)], [], [(.agg, Ty_api_Graph)], [.s, .o1]⟩
def herbariumref0_CopyGraph (K : Nat) (x0 : api_Graph) : Option api_Graph :=
  (herbariumref0_CopyNumberLists K x0.Out).bind fun r7 =>
  some ((x0.N, r7) : api_Graph)
abbrev gaps_Is.sg : Sig := ⟨[(.one, (.int .i64))], [], [(.one, .bool)], []⟩
def gaps_Is (K : Nat) (x0 : Int) : Option Bool :=
  if decide (x0 ≥ 0) then
    some (decide (x0 < 16))
  else
    some false
abbrev gaps_May.sg : Sig := ⟨[(.one, (.sl (.int .i64)))], [], [(.one, .bool)], []⟩
def gaps_May.l1 (K : Nat) (x0 : List Int) : Nat → Int → Int → Option Bool
  | 0, _, _ => none
  | k + 1, t_10, t_11 =>
    if decide (t_11 < t_10) then
      if (0 : Int) ≤ t_11 ∧ t_11 < ((x0.length : Nat) : Int) then
      (gaps_Is K (nth x0 t_11)).bind fun r13 =>
      if (!r13) then
        some false
      else
        if decide (t_11 > 0) then
          if (0 : Int) ≤ (wr .i64 (t_11 - 1)) ∧ (wr .i64 (t_11 - 1)) < ((x0.length : Nat) : Int) then
          if decide ((nth x0 t_11) ≤ (nth x0 (wr .i64 (t_11 - 1)))) then
            some false
          else
            gaps_May.l1 K x0 k t_10 (wr .i64 (t_11 + 1))
          else none
        else
          gaps_May.l1 K x0 k t_10 (wr .i64 (t_11 + 1))
      else none
    else
      some true
def gaps_May (K : Nat) (x0 : List Int) : Option Bool :=
  gaps_May.l1 K x0 K ((x0.length : Nat) : Int) (0 : Int)
abbrev graph_many.sg : Sig := ⟨[(.agg, Ty_api_Graph)], [], [(.one, (.int .i64))], []⟩
def graph_many.l1 (K : Nat) (x0 : api_Graph) : Nat → Int → Int → Int → Option Int
  | 0, _, _, _ => none
  | k + 1, n_10, t_11, t_12 =>
    if decide (t_12 < t_11) then
      if (0 : Int) ≤ t_12 ∧ t_12 < ((x0.Out.length : Nat) : Int) then
      graph_many.l1 K x0 k (wr .i64 (n_10 + (((nth x0.Out t_12).length : Nat) : Int))) t_11 (wr .i64 (t_12 + 1))
      else none
    else
      some n_10
def graph_many (K : Nat) (x0 : api_Graph) : Option Int :=
  graph_many.l1 K x0 K (0 : Int) ((x0.Out.length : Nat) : Int) (0 : Int)
abbrev graph_May.sg : Sig := ⟨[(.agg, Ty_api_Graph)], [], [(.one, .bool)], []⟩
def graph_May.l1 (K : Nat) (x0 : api_Graph) : Nat → Int → Int → Option Bool
  | 0, _, _ => none
  | k + 1, t_10, t_11 =>
    if decide (t_11 < t_10) then
      if (0 : Int) ≤ t_11 ∧ t_11 < ((x0.Out.length : Nat) : Int) then
      (gaps_May K (nth x0.Out t_11)).bind fun r29 =>
      if (!r29) then
        some false
      else
        if decide ((((nth x0.Out t_11).length : Nat) : Int) > 0) then
          if (0 : Int) ≤ (wr .i64 ((((nth x0.Out t_11).length : Nat) : Int) - 1)) ∧ (wr .i64 ((((nth x0.Out t_11).length : Nat) : Int) - 1)) < (((nth x0.Out t_11).length : Nat) : Int) then
          if decide ((nth (nth x0.Out t_11) (wr .i64 ((((nth x0.Out t_11).length : Nat) : Int) - 1))) ≥ x0.N) then
            some false
          else
            graph_May.l1 K x0 k t_10 (wr .i64 (t_11 + 1))
          else none
        else
          graph_May.l1 K x0 k t_10 (wr .i64 (t_11 + 1))
      else none
    else
      (graph_many K x0).bind fun r49 =>
      some (decide (r49 ≤ 120))
def graph_May (K : Nat) (x0 : api_Graph) : Option Bool :=
  if decide (x0.N < 0) then
    some false
  else
    if decide (x0.N > 16) then
      some false
    else
      if (((x0.Out.length : Nat) : Int) != x0.N) then
        some false
      else
        graph_May.l1 K x0 K ((x0.Out.length : Nat) : Int) (0 : Int)
abbrev bits_Row : Type := (List Int) × Int
abbrev Ty_bits_Row : Ty := (.pr (.sl (.int .u8)) (.int .i64))
abbrev bits_Row.data (x : bits_Row) : List Int := x.1
abbrev bits_Row.n (x : bits_Row) : Int := x.2
abbrev __bits_Row__Put.sg : Sig := ⟨[(.box, Ty_bits_Row), (.one, (.int .i64)), (.one, (.int .i64))], [.o], [], [.o]⟩
def __bits_Row__Put.j2 (K : Nat) (go_l1 : Int → Int → (List Int) → Option bits_Row) (h_13 : Int) (i_10 : Int) (x1 : Int) (h_11 : List Int) : Option bits_Row :=
  if (8 : Int) ≠ 0 then
  if (0 : Int) ≤ (wr .i64 (h_13.tdiv 8)) ∧ (wr .i64 (h_13.tdiv 8)) < ((h_11.length : Nat) : Int) then
  if (0 : Int) ≤ i_10 then
  if (8 : Int) ≠ 0 then
  if (0 : Int) ≤ (wr .i64 (7 - (h_13.tmod 8))) then
  if (0 : Int) ≤ (wr .i64 (h_13.tdiv 8)) ∧ (wr .i64 (h_13.tdiv 8)) < ((h_11.length : Nat) : Int) then
  go_l1 (wr .i64 (i_10 - 1)) (wr .i64 (h_13 + 1)) ((h_11).set (wr .i64 (h_13.tdiv 8)).toNat (ib .or .u8 (nth h_11 (wr .i64 (h_13.tdiv 8))) (wr .u8 ((wr .u8 (ib .and .i64 (x1.fdiv (2 ^ min (i_10).toNat 64)) 1)) * 2 ^ min ((wr .i64 (7 - (h_13.tmod 8)))).toNat 8))))
  else none
  else none
  else none
  else none
  else none
  else none
def __bits_Row__Put.l1 (K : Nat) (x1 : Int) : Nat → Int → Int → (List Int) → Option bits_Row
  | 0, _, _, _ => none
  | k + 1, i_10, h_13, h_12 =>
    if decide (i_10 ≥ 0) then
      if (8 : Int) ≠ 0 then
      if ((h_13.tmod 8) == 0) then
        if (h_12.length + ([0] : List Int).length) * 1 ≤ 140737488355328 then
        __bits_Row__Put.j2 K (__bits_Row__Put.l1 K x1 k) h_13 i_10 x1 (h_12 ++ ([0] : List Int))
        else none
      else
        __bits_Row__Put.j2 K (__bits_Row__Put.l1 K x1 k) h_13 i_10 x1 h_12
      else none
    else
      some ((h_12, h_13) : bits_Row)
def __bits_Row__Put (K : Nat) (x0 : bits_Row) (x1 : Int) (x2 : Int) : Option bits_Row :=
  __bits_Row__Put.l1 K x1 K (wr .i64 (x2 - 1)) x0.n x0.data
abbrev math_bits_Len32.sg : Sig := ⟨[(.one, (.int .u32))], [], [(.one, (.int .i64))], []⟩
def math_bits_Len32.j2 (K : Nat) (x_12 : Int) (n_13 : Int) : Option Int :=
  if (0 : Int) ≤ (wr .u8 x_12) ∧ (wr .u8 x_12) < (((⟨#[0, 1, 2, 2, 3, 3, 3, 3, 4, 4, 4, 4, 4, 4, 4, 4, 5, 5, 5, 5, 5, 5, 5, 5, 5, 5, 5, 5, 5, 5, 5, 5, 6, 6, 6, 6, 6, 6, 6, 6, 6, 6, 6, 6, 6, 6, 6, 6, 6, 6, 6, 6, 6, 6, 6, 6, 6, 6, 6, 6, 6, 6, 6, 6, 7, 7, 7, 7, 7, 7, 7, 7, 7, 7, 7, 7, 7, 7, 7, 7, 7, 7, 7, 7, 7, 7, 7, 7, 7, 7, 7, 7, 7, 7, 7, 7, 7, 7, 7, 7, 7, 7, 7, 7, 7, 7, 7, 7, 7, 7, 7, 7, 7, 7, 7, 7, 7, 7, 7, 7, 7, 7, 7, 7, 7, 7, 7, 7, 8, 8, 8, 8, 8, 8, 8, 8, 8, 8, 8, 8, 8, 8, 8, 8, 8, 8, 8, 8, 8, 8, 8, 8, 8, 8, 8, 8, 8, 8, 8, 8, 8, 8, 8, 8, 8, 8, 8, 8, 8, 8, 8, 8, 8, 8, 8, 8, 8, 8, 8, 8, 8, 8, 8, 8, 8, 8, 8, 8, 8, 8, 8, 8, 8, 8, 8, 8, 8, 8, 8, 8, 8, 8, 8, 8, 8, 8, 8, 8, 8, 8, 8, 8, 8, 8, 8, 8, 8, 8, 8, 8, 8, 8, 8, 8, 8, 8, 8, 8, 8, 8, 8, 8, 8, 8, 8, 8, 8, 8, 8, 8, 8, 8, 8, 8, 8, 8, 8, 8, 8, 8, 8, 8, 8, 8, 8, 8]⟩ : ByteArray).size : Nat) : Int) then
  some (wr .i64 (n_13 + (wr .i64 (bt (⟨#[0, 1, 2, 2, 3, 3, 3, 3, 4, 4, 4, 4, 4, 4, 4, 4, 5, 5, 5, 5, 5, 5, 5, 5, 5, 5, 5, 5, 5, 5, 5, 5, 6, 6, 6, 6, 6, 6, 6, 6, 6, 6, 6, 6, 6, 6, 6, 6, 6, 6, 6, 6, 6, 6, 6, 6, 6, 6, 6, 6, 6, 6, 6, 6, 7, 7, 7, 7, 7, 7, 7, 7, 7, 7, 7, 7, 7, 7, 7, 7, 7, 7, 7, 7, 7, 7, 7, 7, 7, 7, 7, 7, 7, 7, 7, 7, 7, 7, 7, 7, 7, 7, 7, 7, 7, 7, 7, 7, 7, 7, 7, 7, 7, 7, 7, 7, 7, 7, 7, 7, 7, 7, 7, 7, 7, 7, 7, 7, 8, 8, 8, 8, 8, 8, 8, 8, 8, 8, 8, 8, 8, 8, 8, 8, 8, 8, 8, 8, 8, 8, 8, 8, 8, 8, 8, 8, 8, 8, 8, 8, 8, 8, 8, 8, 8, 8, 8, 8, 8, 8, 8, 8, 8, 8, 8, 8, 8, 8, 8, 8, 8, 8, 8, 8, 8, 8, 8, 8, 8, 8, 8, 8, 8, 8, 8, 8, 8, 8, 8, 8, 8, 8, 8, 8, 8, 8, 8, 8, 8, 8, 8, 8, 8, 8, 8, 8, 8, 8, 8, 8, 8, 8, 8, 8, 8, 8, 8, 8, 8, 8, 8, 8, 8, 8, 8, 8, 8, 8, 8, 8, 8, 8, 8, 8, 8, 8, 8, 8, 8, 8, 8, 8, 8, 8, 8, 8]⟩ : ByteArray) (wr .u8 x_12)))))
  else none
def math_bits_Len32.j1 (K : Nat) (x_10 : Int) (n_11 : Int) : Option Int :=
  if decide (x_10 ≥ 256) then
    if (0 : Int) ≤ 8 then
    math_bits_Len32.j2 K (x_10.fdiv (2 ^ min ((8 : Int)).toNat 32)) (wr .i64 (n_11 + 8))
    else none
  else
    math_bits_Len32.j2 K x_10 n_11
def math_bits_Len32 (K : Nat) (x0 : Int) : Option Int :=
  if decide (x0 ≥ 65536) then
    if (0 : Int) ≤ 16 then
    math_bits_Len32.j1 K (x0.fdiv (2 ^ min ((16 : Int)).toNat 32)) (16 : Int)
    else none
  else
    math_bits_Len32.j1 K x0 (0 : Int)
abbrev math_bits_Len64.sg : Sig := ⟨[(.one, (.int .u64))], [], [(.one, (.int .i64))], []⟩
def math_bits_Len64.j3 (K : Nat) (x_14 : Int) (n_15 : Int) : Option Int :=
  if (0 : Int) ≤ (wr .u8 x_14) ∧ (wr .u8 x_14) < (((⟨#[0, 1, 2, 2, 3, 3, 3, 3, 4, 4, 4, 4, 4, 4, 4, 4, 5, 5, 5, 5, 5, 5, 5, 5, 5, 5, 5, 5, 5, 5, 5, 5, 6, 6, 6, 6, 6, 6, 6, 6, 6, 6, 6, 6, 6, 6, 6, 6, 6, 6, 6, 6, 6, 6, 6, 6, 6, 6, 6, 6, 6, 6, 6, 6, 7, 7, 7, 7, 7, 7, 7, 7, 7, 7, 7, 7, 7, 7, 7, 7, 7, 7, 7, 7, 7, 7, 7, 7, 7, 7, 7, 7, 7, 7, 7, 7, 7, 7, 7, 7, 7, 7, 7, 7, 7, 7, 7, 7, 7, 7, 7, 7, 7, 7, 7, 7, 7, 7, 7, 7, 7, 7, 7, 7, 7, 7, 7, 7, 8, 8, 8, 8, 8, 8, 8, 8, 8, 8, 8, 8, 8, 8, 8, 8, 8, 8, 8, 8, 8, 8, 8, 8, 8, 8, 8, 8, 8, 8, 8, 8, 8, 8, 8, 8, 8, 8, 8, 8, 8, 8, 8, 8, 8, 8, 8, 8, 8, 8, 8, 8, 8, 8, 8, 8, 8, 8, 8, 8, 8, 8, 8, 8, 8, 8, 8, 8, 8, 8, 8, 8, 8, 8, 8, 8, 8, 8, 8, 8, 8, 8, 8, 8, 8, 8, 8, 8, 8, 8, 8, 8, 8, 8, 8, 8, 8, 8, 8, 8, 8, 8, 8, 8, 8, 8, 8, 8, 8, 8, 8, 8, 8, 8, 8, 8, 8, 8, 8, 8, 8, 8, 8, 8, 8, 8, 8, 8]⟩ : ByteArray).size : Nat) : Int) then
  some (wr .i64 (n_15 + (wr .i64 (bt (⟨#[0, 1, 2, 2, 3, 3, 3, 3, 4, 4, 4, 4, 4, 4, 4, 4, 5, 5, 5, 5, 5, 5, 5, 5, 5, 5, 5, 5, 5, 5, 5, 5, 6, 6, 6, 6, 6, 6, 6, 6, 6, 6, 6, 6, 6, 6, 6, 6, 6, 6, 6, 6, 6, 6, 6, 6, 6, 6, 6, 6, 6, 6, 6, 6, 7, 7, 7, 7, 7, 7, 7, 7, 7, 7, 7, 7, 7, 7, 7, 7, 7, 7, 7, 7, 7, 7, 7, 7, 7, 7, 7, 7, 7, 7, 7, 7, 7, 7, 7, 7, 7, 7, 7, 7, 7, 7, 7, 7, 7, 7, 7, 7, 7, 7, 7, 7, 7, 7, 7, 7, 7, 7, 7, 7, 7, 7, 7, 7, 8, 8, 8, 8, 8, 8, 8, 8, 8, 8, 8, 8, 8, 8, 8, 8, 8, 8, 8, 8, 8, 8, 8, 8, 8, 8, 8, 8, 8, 8, 8, 8, 8, 8, 8, 8, 8, 8, 8, 8, 8, 8, 8, 8, 8, 8, 8, 8, 8, 8, 8, 8, 8, 8, 8, 8, 8, 8, 8, 8, 8, 8, 8, 8, 8, 8, 8, 8, 8, 8, 8, 8, 8, 8, 8, 8, 8, 8, 8, 8, 8, 8, 8, 8, 8, 8, 8, 8, 8, 8, 8, 8, 8, 8, 8, 8, 8, 8, 8, 8, 8, 8, 8, 8, 8, 8, 8, 8, 8, 8, 8, 8, 8, 8, 8, 8, 8, 8, 8, 8, 8, 8, 8, 8, 8, 8, 8, 8]⟩ : ByteArray) (wr .u8 x_14)))))
  else none
def math_bits_Len64.j2 (K : Nat) (x_12 : Int) (n_13 : Int) : Option Int :=
  if decide (x_12 ≥ 256) then
    if (0 : Int) ≤ 8 then
    math_bits_Len64.j3 K (x_12.fdiv (2 ^ min ((8 : Int)).toNat 64)) (wr .i64 (n_13 + 8))
    else none
  else
    math_bits_Len64.j3 K x_12 n_13
def math_bits_Len64.j1 (K : Nat) (x_10 : Int) (n_11 : Int) : Option Int :=
  if decide (x_10 ≥ 65536) then
    if (0 : Int) ≤ 16 then
    math_bits_Len64.j2 K (x_10.fdiv (2 ^ min ((16 : Int)).toNat 64)) (wr .i64 (n_11 + 16))
    else none
  else
    math_bits_Len64.j2 K x_10 n_11
def math_bits_Len64 (K : Nat) (x0 : Int) : Option Int :=
  if decide (x0 ≥ 4294967296) then
    if (0 : Int) ≤ 32 then
    math_bits_Len64.j1 K (x0.fdiv (2 ^ min ((32 : Int)).toNat 64)) (32 : Int)
    else none
  else
    math_bits_Len64.j1 K x0 (0 : Int)
abbrev math_bits_Len.sg : Sig := ⟨[(.one, (.int .u64))], [], [(.one, (.int .i64))], []⟩
def math_bits_Len (K : Nat) (x0 : Int) : Option Int :=
  (math_bits_Len64 K x0).bind fun r7 =>
  some r7
abbrev code_log.sg : Sig := ⟨[(.one, (.int .i64))], [], [(.one, (.int .i64))], []⟩
def code_log (K : Nat) (x0 : Int) : Option Int :=
  (math_bits_Len K (wr .u64 x0)).bind fun r5 =>
  some (wr .i64 (r5 - 1))
abbrev code_parts.sg : Sig := ⟨[(.one, (.int .i64))], [], [(.one, (.int .i64))], []⟩
def code_parts (K : Nat) (x0 : Int) : Option Int :=
  some (wr .i64 ((wr .i64 (x0 - 4)) + 2))
abbrev code_zeta.sg : Sig := ⟨[(.one, (.int .i64)), (.one, (.int .i64))], [], [(.one, (.int .i64)), (.one, (.int .i64)), (.one, (.int .i64)), (.one, (.int .i64))], []⟩
def code_zeta (K : Nat) (x0 : Int) (x1 : Int) : Option (Int × Int × Int × Int) :=
  if (0 : Int) ≤ (wr .i64 (x1 * x0)) then
  if (0 : Int) ≤ x0 then
  (math_bits_Len K (wr .u64 (wr .i64 ((wr .i64 ((wr .i64 ((wr .i64 ((1 : Int) * 2 ^ min ((wr .i64 (x1 * x0))).toNat 64)) * 2 ^ min (x0).toNat 64)) - (wr .i64 ((1 : Int) * 2 ^ min ((wr .i64 (x1 * x0))).toNat 64)))) - 1)))).bind fun r20 =>
  if (0 : Int) ≤ r20 then
  some (wr .i64 ((1 : Int) * 2 ^ min ((wr .i64 (x1 * x0))).toNat 64), wr .i64 ((wr .i64 ((wr .i64 ((1 : Int) * 2 ^ min ((wr .i64 (x1 * x0))).toNat 64)) * 2 ^ min (x0).toNat 64)) - (wr .i64 ((1 : Int) * 2 ^ min ((wr .i64 (x1 * x0))).toNat 64))), r20, wr .i64 ((wr .i64 ((1 : Int) * 2 ^ min (r20).toNat 64)) - (wr .i64 ((wr .i64 ((wr .i64 ((1 : Int) * 2 ^ min ((wr .i64 (x1 * x0))).toNat 64)) * 2 ^ min (x0).toNat 64)) - (wr .i64 ((1 : Int) * 2 ^ min ((wr .i64 (x1 * x0))).toNat 64))))))
  else none
  else none
  else none
abbrev code_Lay.sg : Sig := ⟨[(.box, Ty_bits_Row), (.one, (.int .i64)), (.one, (.int .i64))], [.o], [], [.o]⟩
def code_Lay : Nat → bits_Row → Int → Int → Option bits_Row
  | 0, _, _, _ => none
  | K + 1, x0, x1, x2 =>
    if (x1 == 1) then
      (__bits_Row__Put K x0 0 (wr .i64 (x2 - 1))).bind fun r53 =>
      (__bits_Row__Put K r53 1 1).bind fun r55 =>
      some r55
    else
      if (x1 == 2) then
        (code_log K x2).bind fun r60 =>
        (__bits_Row__Put K x0 0 r60).bind fun r61 =>
        (code_log K x2).bind fun r65 =>
        (__bits_Row__Put K r61 x2 (wr .i64 (r65 + 1))).bind fun r67 =>
        some r67
      else
        if (x1 == 3) then
          (code_log K x2).bind fun r72 =>
          ((code_Lay K) x0 2 (wr .i64 (r72 + 1))).bind fun r74 =>
          (code_log K x2).bind fun r78 =>
          (__bits_Row__Put K r74 x2 r78).bind fun r79 =>
          some r79
        else
          (code_log K x2).bind fun r14 =>
          (code_parts K x1).bind fun r16 =>
          if r16 ≠ 0 then
          (code_parts K x1).bind fun r20 =>
          (code_zeta K r20 (wr .i64 (r14.tdiv r16))).bind fun r22 =>
          ((code_Lay K) x0 1 (wr .i64 ((wr .i64 (r14.tdiv r16)) + 1))).bind fun r30 =>
          if decide ((wr .i64 (x2 - r22.1)) < r22.2.2.2) then
            (__bits_Row__Put K r30 (wr .i64 (x2 - r22.1)) (wr .i64 (r22.2.2.1 - 1))).bind fun r41 =>
            some r41
          else
            (__bits_Row__Put K r30 (wr .i64 ((wr .i64 (x2 - r22.1)) + r22.2.2.2)) r22.2.2.1).bind fun r47 =>
            some r47
          else none
abbrev __bits_Row__Size.sg : Sig := ⟨[(.box, Ty_bits_Row)], [.o], [(.one, (.int .i64))], [.s, .o]⟩
def __bits_Row__Size (K : Nat) (x0 : bits_Row) : Option (Int × bits_Row) :=
  some (x0.n, x0)
abbrev api_Run : Type := Int × Int
abbrev Ty_api_Run : Ty := (.pr (.int .i64) (.int .i64))
abbrev api_Run.At (x : api_Run) : Int := x.1
abbrev api_Run.Len (x : api_Run) : Int := x.2
abbrev runs_Parts.sg : Sig := ⟨[(.one, (.sl (.int .i64)))], [], [(.one, (.sl Ty_api_Run)), (.one, (.sl (.int .i64)))], [.o, .o]⟩
def runs_Parts.l2 (K : Nat) (go_l1 : Int → (List api_Run) → (List Int) → Option ((List api_Run) × (List Int))) (i_10 : Int) (x0 : List Int) : Nat → Int → (List api_Run) → (List Int) → Option ((List api_Run) × (List Int))
  | 0, _, _, _ => none
  | k + 1, k_11, r_14, rest_15 =>
    if decide (k_11 < ((x0.length : Nat) : Int)) then
      if (0 : Int) ≤ k_11 ∧ k_11 < ((x0.length : Nat) : Int) then
      if (0 : Int) ≤ (wr .i64 (k_11 - 1)) ∧ (wr .i64 (k_11 - 1)) < ((x0.length : Nat) : Int) then
      if ((nth x0 k_11) == (wr .i64 ((nth x0 (wr .i64 (k_11 - 1))) + 1))) then
        runs_Parts.l2 K go_l1 i_10 x0 k (wr .i64 (k_11 + 1)) r_14 rest_15
      else
        if decide ((wr .i64 (k_11 - i_10)) ≥ 3) then
          if (0 : Int) ≤ i_10 ∧ i_10 < ((x0.length : Nat) : Int) then
          if (r_14.length + ([((nth x0 i_10, wr .i64 (k_11 - i_10)) : api_Run)] : List api_Run).length) * 16 ≤ 140737488355328 then
          go_l1 k_11 (r_14 ++ ([((nth x0 i_10, wr .i64 (k_11 - i_10)) : api_Run)] : List api_Run)) rest_15
          else none
          else none
        else
          if (0 : Int) ≤ i_10 ∧ i_10 ≤ k_11 ∧ k_11 ≤ ((x0.length : Nat) : Int) then
          if (rest_15.length + (((x0).drop i_10.toNat).take (k_11.toNat - i_10.toNat)).length) * 8 ≤ 140737488355328 then
          go_l1 k_11 r_14 (rest_15 ++ (((x0).drop i_10.toNat).take (k_11.toNat - i_10.toNat)))
          else none
          else none
      else none
      else none
    else
      if decide ((wr .i64 (k_11 - i_10)) ≥ 3) then
        if (0 : Int) ≤ i_10 ∧ i_10 < ((x0.length : Nat) : Int) then
        if (r_14.length + ([((nth x0 i_10, wr .i64 (k_11 - i_10)) : api_Run)] : List api_Run).length) * 16 ≤ 140737488355328 then
        go_l1 k_11 (r_14 ++ ([((nth x0 i_10, wr .i64 (k_11 - i_10)) : api_Run)] : List api_Run)) rest_15
        else none
        else none
      else
        if (0 : Int) ≤ i_10 ∧ i_10 ≤ k_11 ∧ k_11 ≤ ((x0.length : Nat) : Int) then
        if (rest_15.length + (((x0).drop i_10.toNat).take (k_11.toNat - i_10.toNat)).length) * 8 ≤ 140737488355328 then
        go_l1 k_11 r_14 (rest_15 ++ (((x0).drop i_10.toNat).take (k_11.toNat - i_10.toNat)))
        else none
        else none
def runs_Parts.l1 (K : Nat) (x0 : List Int) : Nat → Int → (List api_Run) → (List Int) → Option ((List api_Run) × (List Int))
  | 0, _, _, _ => none
  | k + 1, i_10, r_12, rest_13 =>
    if decide (i_10 < ((x0.length : Nat) : Int)) then
      runs_Parts.l2 K (runs_Parts.l1 K x0 k) i_10 x0 K (wr .i64 (i_10 + 1)) r_12 rest_13
    else
      some (r_12, rest_13)
def runs_Parts (K : Nat) (x0 : List Int) : Option ((List api_Run) × (List Int)) :=
  runs_Parts.l1 K x0 K (0 : Int) ([] : List api_Run) ([] : List Int)
abbrev code_Fold.sg : Sig := ⟨[(.one, (.int .i64))], [], [(.one, (.int .i64))], []⟩
def code_Fold (K : Nat) (x0 : Int) : Option Int :=
  if decide (x0 < 0) then
    some (wr .i64 ((wr .i64 ((-2) * x0)) - 1))
  else
    some (wr .i64 (2 * x0))
abbrev gaps_Lay.sg : Sig := ⟨[(.box, Ty_bits_Row), (.one, (.int .i64)), (.one, (.sl (.int .i64)))], [.o], [], [.o]⟩
def gaps_Lay.l1 (K : Nat) (x1 : Int) (x2 : List Int) : Nat → Int → Int → Int → (List Int) → Option bits_Row
  | 0, _, _, _, _ => none
  | k + 1, t_10, t_11, h_13, h_12 =>
    if decide (t_11 < t_10) then
      if (0 : Int) ≤ t_11 ∧ t_11 < ((x2.length : Nat) : Int) then
      if (t_11 == 0) then
        (code_Fold K (wr .i64 ((nth x2 t_11) - x1))).bind fun r26 =>
        (code_Lay K ((h_12, h_13) : bits_Row) 2 (wr .i64 (r26 + 1))).bind fun r28 =>
        gaps_Lay.l1 K x1 x2 k t_10 (wr .i64 (t_11 + 1)) r28.n r28.data
      else
        if (0 : Int) ≤ (wr .i64 (t_11 - 1)) ∧ (wr .i64 (t_11 - 1)) < ((x2.length : Nat) : Int) then
        (code_Lay K ((h_12, h_13) : bits_Row) 2 (wr .i64 ((nth x2 t_11) - (nth x2 (wr .i64 (t_11 - 1)))))).bind fun r37 =>
        gaps_Lay.l1 K x1 x2 k t_10 (wr .i64 (t_11 + 1)) r37.n r37.data
        else none
      else none
    else
      some ((h_12, h_13) : bits_Row)
def gaps_Lay (K : Nat) (x0 : bits_Row) (x1 : Int) (x2 : List Int) : Option bits_Row :=
  (code_Lay K x0 2 (wr .i64 (((x2.length : Nat) : Int) + 1))).bind fun r12 =>
  gaps_Lay.l1 K x1 x2 K ((x2.length : Nat) : Int) (0 : Int) r12.n r12.data
abbrev runs_Lay.sg : Sig := ⟨[(.box, Ty_bits_Row), (.one, (.int .i64)), (.one, (.sl (.int .i64)))], [.o], [], [.o]⟩
def runs_Lay.j2 (K : Nat) (go_l1 : Int → Int → Int → Int → (List Int) → Option bits_Row) (r13 : (List api_Run) × (List Int)) (t_11 : Int) (t_12 : Int) (x1 : Int) (h_14 : Int) (h_13 : List Int) (x_15 : Int) (x_16 : Int) : Option bits_Row :=
  (code_Lay K ((h_13, h_14) : bits_Row) 2 (wr .i64 ((wr .i64 (x_16 - 3)) + 1))).bind fun r49 =>
  go_l1 (wr .i64 (x_15 + x_16)) t_11 (wr .i64 (t_12 + 1)) r49.n r49.data
def runs_Lay.l1 (K : Nat) (r13 : (List api_Run) × (List Int)) (x1 : Int) : Nat → Int → Int → Int → Int → (List Int) → Option bits_Row
  | 0, _, _, _, _, _ => none
  | k + 1, end_10, t_11, t_12, h_18, h_17 =>
    if decide (t_12 < t_11) then
      if (0 : Int) ≤ t_12 ∧ t_12 < ((r13.1.length : Nat) : Int) then
      if (t_12 == 0) then
        (code_Fold K (wr .i64 (((nth r13.1 t_12).At) - x1))).bind fun r35 =>
        (code_Lay K ((h_17, h_18) : bits_Row) 2 (wr .i64 (r35 + 1))).bind fun r37 =>
        runs_Lay.j2 K (runs_Lay.l1 K r13 x1 k) r13 t_11 t_12 x1 r37.n r37.data ((nth r13.1 t_12).At) ((nth r13.1 t_12).Len)
      else
        (code_Lay K ((h_17, h_18) : bits_Row) 2 (wr .i64 (((nth r13.1 t_12).At) - end_10))).bind fun r43 =>
        runs_Lay.j2 K (runs_Lay.l1 K r13 x1 k) r13 t_11 t_12 x1 r43.n r43.data ((nth r13.1 t_12).At) ((nth r13.1 t_12).Len)
      else none
    else
      (gaps_Lay K ((h_17, h_18) : bits_Row) x1 r13.2).bind fun r59 =>
      some r59
def runs_Lay (K : Nat) (x0 : bits_Row) (x1 : Int) (x2 : List Int) : Option bits_Row :=
  (runs_Parts K x2).bind fun r13 =>
  (code_Lay K x0 2 (wr .i64 (((r13.1.length : Nat) : Int) + 1))).bind fun r20 =>
  runs_Lay.l1 K r13 x1 K (0 : Int) ((r13.1.length : Nat) : Int) (0 : Int) r20.n r20.data
abbrev frame_lay.sg : Sig := ⟨[(.agg, Ty_api_Graph)], [], [(.ptr, Ty_bits_Row), (.one, (.sl (.int .i64)))], [.o, .s, .o]⟩
def frame_lay.l1 (K : Nat) (x0 : api_Graph) : Nat → Int → Int → Int → (List Int) → (List Int) → Option (bits_Row × (List Int))
  | 0, _, _, _, _, _ => none
  | k + 1, t_10, t_11, r_13, r_12, at_14 =>
    if decide (t_11 < t_10) then
      if (0 : Int) ≤ t_11 ∧ t_11 < ((x0.Out.length : Nat) : Int) then
      (__bits_Row__Size K ((r_12, r_13) : bits_Row)).bind fun r25 =>
      if (at_14.length + ([r25.1] : List Int).length) * 8 ≤ 140737488355328 then
      (runs_Lay K r25.2 t_11 (nth x0.Out t_11)).bind fun r31 =>
      frame_lay.l1 K x0 k t_10 (wr .i64 (t_11 + 1)) r31.n r31.data (at_14 ++ ([r25.1] : List Int))
      else none
      else none
    else
      some (((r_12, r_13) : bits_Row), at_14)
def frame_lay (K : Nat) (x0 : api_Graph) : Option (bits_Row × (List Int)) :=
  (code_Lay K ((([] : List Int), 0) : bits_Row) 2 (wr .i64 (x0.N + 1))).bind fun r14 =>
  frame_lay.l1 K x0 K ((x0.Out.length : Nat) : Int) (0 : Int) r14.n r14.data ([] : List Int)
abbrev api_Bits : Type := ByteArray × Int
abbrev Ty_api_Bits : Ty := (.pr .str (.int .i64))
abbrev api_Bits.Data (x : api_Bits) : ByteArray := x.1
abbrev api_Bits.N (x : api_Bits) : Int := x.2
abbrev __bits_Row__Bits.sg : Sig := ⟨[(.box, Ty_bits_Row)], [.o], [(.agg, Ty_api_Bits), (.one, (.int .i64))], [.s, .s, .s, .o]⟩
def __bits_Row__Bits (K : Nat) (x0 : bits_Row) : Option (api_Bits × Int × bits_Row) :=
  if decide (x0.n > 6000) then
    some (((ByteArray.empty, 0) : api_Bits), 2, x0)
  else
    some (((bytesOf x0.data, x0.n) : api_Bits), 0, x0)
abbrev frame_Put.sg : Sig := ⟨[(.agg, Ty_api_Graph)], [], [(.agg, Ty_api_Bits), (.one, (.int .i64))], []⟩
def frame_Put (K : Nat) (x0 : api_Graph) : Option (api_Bits × Int) :=
  (graph_May K x0).bind fun r7 =>
  if (!r7) then
    some (((ByteArray.empty, 0) : api_Bits), 1)
  else
    (frame_lay K x0).bind fun r12 =>
    (__bits_Row__Bits K r12.1).bind fun r16 =>
    some (r16.1, r16.2.1)
abbrev frame_Places.sg : Sig := ⟨[(.agg, Ty_api_Graph)], [], [(.one, (.sl (.int .i64))), (.one, (.int .i64))], [.o]⟩
def frame_Places (K : Nat) (x0 : api_Graph) : Option ((List Int) × Int) :=
  (graph_May K x0).bind fun r7 =>
  if (!r7) then
    some (([] : List Int), 1)
  else
    (frame_lay K x0).bind fun r11 =>
    some (r11.2, 0)
abbrev frame_Size.sg : Sig := ⟨[(.agg, Ty_api_Graph)], [], [(.one, (.int .i64)), (.one, (.int .i64))], []⟩
def frame_Size (K : Nat) (x0 : api_Graph) : Option (Int × Int) :=
  (frame_Put K x0).bind fun r8 =>
  some (r8.1.N, r8.2)
abbrev herbariumref0_Num.sg : Sig := ⟨[(.one, (.int .i64)), (.one, (.int .i64))], [], [(.one, .bool)], []⟩
def herbariumref0_Num (K : Nat) (x0 : Int) (x1 : Int) : Option Bool :=
  if decide (x0 ≥ 0) then
    some (decide (x0 ≤ x1))
  else
    some false
abbrev herbariumref3_Origin.sg : Sig := ⟨[(.one, (.int .i64))], [], [(.one, .bool)], []⟩
def herbariumref3_Origin (K : Nat) (x0 : Int) : Option Bool :=
  (herbariumref0_Num K x0 15).bind fun r4 =>
  some r4
abbrev herbariumref3_May.sg : Sig := ⟨[(.one, (.sl (.int .i64)))], [], [(.one, .bool)], []⟩
def herbariumref3_May.l1 (K : Nat) (x0 : List Int) : Nat → Int → Option Bool
  | 0, _ => none
  | k + 1, i_10 =>
    if decide (i_10 < ((x0.length : Nat) : Int)) then
      if decide (i_10 ≤ 16) then
        if (0 : Int) ≤ i_10 ∧ i_10 < ((x0.length : Nat) : Int) then
        (herbariumref3_Origin K (nth x0 i_10)).bind fun r18 =>
        if (!r18) then
          some false
        else
          if decide (i_10 > 0) then
            if (0 : Int) ≤ (wr .i64 (i_10 - 1)) ∧ (wr .i64 (i_10 - 1)) < ((x0.length : Nat) : Int) then
            if (0 : Int) ≤ i_10 ∧ i_10 < ((x0.length : Nat) : Int) then
            if decide ((nth x0 (wr .i64 (i_10 - 1))) ≥ (nth x0 i_10)) then
              some false
            else
              herbariumref3_May.l1 K x0 k (wr .i64 (i_10 + 1))
            else none
            else none
          else
            herbariumref3_May.l1 K x0 k (wr .i64 (i_10 + 1))
        else none
      else
        some (decide (((x0.length : Nat) : Int) ≤ 16))
    else
      some (decide (((x0.length : Nat) : Int) ≤ 16))
def herbariumref3_May (K : Nat) (x0 : List Int) : Option Bool :=
  herbariumref3_May.l1 K x0 K (0 : Int)
abbrev herbariumref6_Edges.sg : Sig := ⟨[(.agg, Ty_api_Graph)], [], [(.one, (.int .i64))], []⟩
def herbariumref6_Edges.l1 (K : Nat) (x0 : api_Graph) : Nat → Int → Int → Option Int
  | 0, _, _ => none
  | k + 1, n_10, i_11 =>
    if decide (i_11 < ((x0.Out.length : Nat) : Int)) then
      if (0 : Int) ≤ i_11 ∧ i_11 < ((x0.Out.length : Nat) : Int) then
      herbariumref6_Edges.l1 K x0 k (wr .i64 (n_10 + (((nth x0.Out i_11).length : Nat) : Int))) (wr .i64 (i_11 + 1))
      else none
    else
      some n_10
def herbariumref6_Edges (K : Nat) (x0 : api_Graph) : Option Int :=
  herbariumref6_Edges.l1 K x0 K (0 : Int) (0 : Int)
abbrev herbariumref6_Graph.sg : Sig := ⟨[(.agg, Ty_api_Graph)], [], [(.one, .bool)], []⟩
def herbariumref6_Graph.l1 (K : Nat) (x0 : api_Graph) : Nat → Int → Option Bool
  | 0, _ => none
  | k + 1, i_10 =>
    if decide (i_10 < x0.N) then
      if (0 : Int) ≤ i_10 ∧ i_10 < ((x0.Out.length : Nat) : Int) then
      (herbariumref3_May K (nth x0.Out i_10)).bind fun r27 =>
      if (!r27) then
        some false
      else
        if (0 : Int) ≤ i_10 ∧ i_10 < ((x0.Out.length : Nat) : Int) then
        if decide ((((nth x0.Out i_10).length : Nat) : Int) > 0) then
          if (0 : Int) ≤ i_10 ∧ i_10 < ((x0.Out.length : Nat) : Int) then
          if (0 : Int) ≤ i_10 ∧ i_10 < ((x0.Out.length : Nat) : Int) then
          if (0 : Int) ≤ (wr .i64 ((((nth x0.Out i_10).length : Nat) : Int) - 1)) ∧ (wr .i64 ((((nth x0.Out i_10).length : Nat) : Int) - 1)) < (((nth x0.Out i_10).length : Nat) : Int) then
          if decide ((nth (nth x0.Out i_10) (wr .i64 ((((nth x0.Out i_10).length : Nat) : Int) - 1))) ≥ x0.N) then
            some false
          else
            herbariumref6_Graph.l1 K x0 k (wr .i64 (i_10 + 1))
          else none
          else none
          else none
        else
          herbariumref6_Graph.l1 K x0 k (wr .i64 (i_10 + 1))
        else none
      else none
    else
      (herbariumref6_Edges K x0).bind fun r58 =>
      some (decide (r58 ≤ 120))
def herbariumref6_Graph (K : Nat) (x0 : api_Graph) : Option Bool :=
  (herbariumref0_Num K x0.N 16).bind fun r6 =>
  if (!r6) then
    some false
  else
    if (((x0.Out.length : Nat) : Int) != x0.N) then
      some false
    else
      herbariumref6_Graph.l1 K x0 K (0 : Int)
abbrev herbariumref1_log.sg : Sig := ⟨[(.one, (.int .i64))], [], [(.one, (.int .i64))], []⟩
def herbariumref1_log.l1 (K : Nat) : Nat → Int → Int → Option Int
  | 0, _, _ => none
  | k + 1, n_11, k_10 =>
    if decide (n_11 > 1) then
      if (0 : Int) ≤ 1 then
      herbariumref1_log.l1 K k (n_11.fdiv (2 ^ min ((1 : Int)).toNat 64)) (wr .i64 (k_10 + 1))
      else none
    else
      some k_10
def herbariumref1_log (K : Nat) (x0 : Int) : Option Int :=
  herbariumref1_log.l1 K K x0 (0 : Int)
abbrev _herbariumref1_List__Put.sg : Sig := ⟨[(.one, (.sl (.int .u8))), (.one, (.int .i64)), (.one, (.int .i64))], [.o], [(.one, (.sl (.int .u8)))], [.o]⟩
def _herbariumref1_List__Put.l1 (K : Nat) (x1 : Int) : Nat → Int → (List Int) → Option (List Int)
  | 0, _, _ => none
  | k + 1, i_10, l_11 =>
    if decide (i_10 ≥ 0) then
      if (0 : Int) ≤ i_10 then
      if (l_11.length + ([wr .u8 (ib .and .i64 (x1.fdiv (2 ^ min (i_10).toNat 64)) 1)] : List Int).length) * 1 ≤ 140737488355328 then
      _herbariumref1_List__Put.l1 K x1 k (wr .i64 (i_10 - 1)) (l_11 ++ ([wr .u8 (ib .and .i64 (x1.fdiv (2 ^ min (i_10).toNat 64)) 1)] : List Int))
      else none
      else none
    else
      some l_11
def _herbariumref1_List__Put (K : Nat) (x0 : List Int) (x1 : Int) (x2 : Int) : Option (List Int) :=
  _herbariumref1_List__Put.l1 K x1 K (wr .i64 (x2 - 1)) x0
abbrev _herbariumref1_List__Write.sg : Sig := ⟨[(.one, (.sl (.int .u8))), (.one, (.int .i64)), (.one, (.int .i64))], [.o], [(.one, (.sl (.int .u8)))], [.o]⟩
def _herbariumref1_List__Write.j2 (K : Nat) (rec_ : (List Int) → Int → Int → Option (List Int)) (x0 : List Int) (x2 : Int) (t_11 : Int) : Option (List Int) :=
  (herbariumref1_log K x2).bind fun r56 =>
  if t_11 ≠ 0 then
  (_herbariumref1_List__Put K x0 0 (wr .i64 (r56.tdiv t_11))).bind fun r61 =>
  (_herbariumref1_List__Put K r61 1 1).bind fun r62 =>
  if (0 : Int) ≤ (wr .i64 ((wr .i64 (r56.tdiv t_11)) * t_11)) then
  if (0 : Int) ≤ (wr .i64 ((wr .i64 ((wr .i64 (r56.tdiv t_11)) + 1)) * t_11)) then
  if (0 : Int) ≤ (wr .i64 ((wr .i64 (r56.tdiv t_11)) * t_11)) then
  (herbariumref1_log K (wr .i64 ((wr .i64 ((wr .i64 ((1 : Int) * 2 ^ min ((wr .i64 ((wr .i64 ((wr .i64 (r56.tdiv t_11)) + 1)) * t_11))).toNat 64)) - (wr .i64 ((1 : Int) * 2 ^ min ((wr .i64 ((wr .i64 (r56.tdiv t_11)) * t_11))).toNat 64)))) - 1))).bind fun r81 =>
  if (0 : Int) ≤ (wr .i64 (r81 + 1)) then
  if decide ((wr .i64 (x2 - (wr .i64 ((1 : Int) * 2 ^ min ((wr .i64 ((wr .i64 (r56.tdiv t_11)) * t_11))).toNat 64)))) < (wr .i64 ((wr .i64 ((1 : Int) * 2 ^ min ((wr .i64 (r81 + 1))).toNat 64)) - (wr .i64 ((wr .i64 ((1 : Int) * 2 ^ min ((wr .i64 ((wr .i64 ((wr .i64 (r56.tdiv t_11)) + 1)) * t_11))).toNat 64)) - (wr .i64 ((1 : Int) * 2 ^ min ((wr .i64 ((wr .i64 (r56.tdiv t_11)) * t_11))).toNat 64))))))) then
    (_herbariumref1_List__Put K r62 (wr .i64 (x2 - (wr .i64 ((1 : Int) * 2 ^ min ((wr .i64 ((wr .i64 (r56.tdiv t_11)) * t_11))).toNat 64)))) (wr .i64 ((wr .i64 (r81 + 1)) - 1))).bind fun r93 =>
    some r93
  else
    if (0 : Int) ≤ (wr .i64 (r81 + 1)) then
    (_herbariumref1_List__Put K r62 (wr .i64 ((wr .i64 ((wr .i64 (x2 - (wr .i64 ((1 : Int) * 2 ^ min ((wr .i64 ((wr .i64 (r56.tdiv t_11)) * t_11))).toNat 64)))) + (wr .i64 ((1 : Int) * 2 ^ min ((wr .i64 (r81 + 1))).toNat 64)))) - (wr .i64 ((wr .i64 ((1 : Int) * 2 ^ min ((wr .i64 ((wr .i64 ((wr .i64 (r56.tdiv t_11)) + 1)) * t_11))).toNat 64)) - (wr .i64 ((1 : Int) * 2 ^ min ((wr .i64 ((wr .i64 (r56.tdiv t_11)) * t_11))).toNat 64)))))) (wr .i64 (r81 + 1))).bind fun r102 =>
    some r102
    else none
  else none
  else none
  else none
  else none
  else none
def _herbariumref1_List__Write.l1 (K : Nat) (rec_ : (List Int) → Int → Int → Option (List Int)) (x2 : Int) : Nat → Int → (List Int) → Option (List Int)
  | 0, _, _ => none
  | k + 1, t_10, t_12 =>
    if decide (t_10 < x2) then
      if (t_12.length + ([0] : List Int).length) * 1 ≤ 140737488355328 then
      _herbariumref1_List__Write.l1 K rec_ x2 k (wr .i64 (t_10 + 1)) (t_12 ++ ([0] : List Int))
      else none
    else
      if (t_12.length + ([1] : List Int).length) * 1 ≤ 140737488355328 then
      some (t_12 ++ ([1] : List Int))
      else none
def _herbariumref1_List__Write : Nat → (List Int) → Int → Int → Option (List Int)
  | 0, _, _, _ => none
  | K + 1, x0, x1, x2 =>
    if (x1 == 1) then
      _herbariumref1_List__Write.l1 K (_herbariumref1_List__Write K) x2 K (1 : Int) x0
    else
      if (x1 == 2) then
        (herbariumref1_log K x2).bind fun r31 =>
        (_herbariumref1_List__Put K x0 0 r31).bind fun r32 =>
        (herbariumref1_log K x2).bind fun r35 =>
        (_herbariumref1_List__Put K r32 x2 (wr .i64 (r35 + 1))).bind fun r37 =>
        some r37
      else
        if (x1 == 3) then
          (herbariumref1_log K x2).bind fun r42 =>
          ((_herbariumref1_List__Write K) x0 2 (wr .i64 (r42 + 1))).bind fun r44 =>
          (herbariumref1_log K x2).bind fun r47 =>
          if (0 : Int) ≤ r47 then
          (herbariumref1_log K x2).bind fun r51 =>
          (_herbariumref1_List__Put K r44 (wr .i64 (x2 - (wr .i64 ((1 : Int) * 2 ^ min (r47).toNat 64)))) r51).bind fun r52 =>
          some r52
          else none
        else
          if (x1 == 5) then
            _herbariumref1_List__Write.j2 K (_herbariumref1_List__Write K) x0 x2 (3 : Int)
          else
            _herbariumref1_List__Write.j2 K (_herbariumref1_List__Write K) x0 x2 (2 : Int)
abbrev herbariumref3_Split.sg : Sig := ⟨[(.one, (.sl (.int .i64)))], [], [(.one, (.sl Ty_api_Run)), (.one, (.sl (.int .i64)))], [.o, .o]⟩
def herbariumref3_Split.l2 (K : Nat) (go_l1 : Int → (List api_Run) → (List Int) → Option ((List api_Run) × (List Int))) (i_10 : Int) (x0 : List Int) : Nat → Int → (List api_Run) → (List Int) → Option ((List api_Run) × (List Int))
  | 0, _, _, _ => none
  | k + 1, k_11, r_14, rest_15 =>
    if decide (k_11 < ((x0.length : Nat) : Int)) then
      if (0 : Int) ≤ k_11 ∧ k_11 < ((x0.length : Nat) : Int) then
      if (0 : Int) ≤ (wr .i64 (k_11 - 1)) ∧ (wr .i64 (k_11 - 1)) < ((x0.length : Nat) : Int) then
      if ((nth x0 k_11) == (wr .i64 ((nth x0 (wr .i64 (k_11 - 1))) + 1))) then
        herbariumref3_Split.l2 K go_l1 i_10 x0 k (wr .i64 (k_11 + 1)) r_14 rest_15
      else
        if decide ((wr .i64 (k_11 - i_10)) ≥ 3) then
          if (0 : Int) ≤ i_10 ∧ i_10 < ((x0.length : Nat) : Int) then
          if (r_14.length + ([((nth x0 i_10, wr .i64 (k_11 - i_10)) : api_Run)] : List api_Run).length) * 16 ≤ 140737488355328 then
          go_l1 k_11 (r_14 ++ ([((nth x0 i_10, wr .i64 (k_11 - i_10)) : api_Run)] : List api_Run)) rest_15
          else none
          else none
        else
          if (0 : Int) ≤ i_10 ∧ i_10 ≤ k_11 ∧ k_11 ≤ ((x0.length : Nat) : Int) then
          if (rest_15.length + (((x0).drop i_10.toNat).take (k_11.toNat - i_10.toNat)).length) * 8 ≤ 140737488355328 then
          go_l1 k_11 r_14 (rest_15 ++ (((x0).drop i_10.toNat).take (k_11.toNat - i_10.toNat)))
          else none
          else none
      else none
      else none
    else
      if decide ((wr .i64 (k_11 - i_10)) ≥ 3) then
        if (0 : Int) ≤ i_10 ∧ i_10 < ((x0.length : Nat) : Int) then
        if (r_14.length + ([((nth x0 i_10, wr .i64 (k_11 - i_10)) : api_Run)] : List api_Run).length) * 16 ≤ 140737488355328 then
        go_l1 k_11 (r_14 ++ ([((nth x0 i_10, wr .i64 (k_11 - i_10)) : api_Run)] : List api_Run)) rest_15
        else none
        else none
      else
        if (0 : Int) ≤ i_10 ∧ i_10 ≤ k_11 ∧ k_11 ≤ ((x0.length : Nat) : Int) then
        if (rest_15.length + (((x0).drop i_10.toNat).take (k_11.toNat - i_10.toNat)).length) * 8 ≤ 140737488355328 then
        go_l1 k_11 r_14 (rest_15 ++ (((x0).drop i_10.toNat).take (k_11.toNat - i_10.toNat)))
        else none
        else none
def herbariumref3_Split.l1 (K : Nat) (x0 : List Int) : Nat → Int → (List api_Run) → (List Int) → Option ((List api_Run) × (List Int))
  | 0, _, _, _ => none
  | k + 1, i_10, r_12, rest_13 =>
    if decide (i_10 < ((x0.length : Nat) : Int)) then
      herbariumref3_Split.l2 K (herbariumref3_Split.l1 K x0 k) i_10 x0 K (wr .i64 (i_10 + 1)) r_12 rest_13
    else
      some (r_12, rest_13)
def herbariumref3_Split (K : Nat) (x0 : List Int) : Option ((List api_Run) × (List Int)) :=
  herbariumref3_Split.l1 K x0 K (0 : Int) ([] : List api_Run) ([] : List Int)
abbrev herbariumref1_Zig.sg : Sig := ⟨[(.one, (.int .i64))], [], [(.one, (.int .i64))], []⟩
def herbariumref1_Zig (K : Nat) (x0 : Int) : Option Int :=
  if decide (x0 ≥ 0) then
    some (wr .i64 (2 * x0))
  else
    some (wr .i64 ((wr .i64 ((-2) * x0)) - 1))
abbrev herbariumref3_Gaps.sg : Sig := ⟨[(.one, (.sl (.int .u8))), (.one, (.int .i64)), (.one, (.sl (.int .i64)))], [.o], [(.one, (.sl (.int .u8)))], [.o]⟩
def herbariumref3_Gaps.l1 (K : Nat) (x1 : Int) (x2 : List Int) : Nat → Int → (List Int) → Option (List Int)
  | 0, _, _ => none
  | k + 1, i_10, b_11 =>
    if decide (i_10 < ((x2.length : Nat) : Int)) then
      if (i_10 == 0) then
        if (0 : Int) ≤ (0 : Int) ∧ (0 : Int) < ((x2.length : Nat) : Int) then
        (herbariumref1_Zig K (wr .i64 ((nth x2 0) - x1))).bind fun r27 =>
        (_herbariumref1_List__Write K b_11 2 (wr .i64 (r27 + 1))).bind fun r29 =>
        herbariumref3_Gaps.l1 K x1 x2 k (wr .i64 (i_10 + 1)) r29
        else none
      else
        if (0 : Int) ≤ i_10 ∧ i_10 < ((x2.length : Nat) : Int) then
        if (0 : Int) ≤ (wr .i64 (i_10 - 1)) ∧ (wr .i64 (i_10 - 1)) < ((x2.length : Nat) : Int) then
        (_herbariumref1_List__Write K b_11 2 (wr .i64 ((nth x2 i_10) - (nth x2 (wr .i64 (i_10 - 1)))))).bind fun r41 =>
        herbariumref3_Gaps.l1 K x1 x2 k (wr .i64 (i_10 + 1)) r41
        else none
        else none
    else
      some b_11
def herbariumref3_Gaps (K : Nat) (x0 : List Int) (x1 : Int) (x2 : List Int) : Option (List Int) :=
  (_herbariumref1_List__Write K x0 2 (wr .i64 (((x2.length : Nat) : Int) + 1))).bind fun r12 =>
  herbariumref3_Gaps.l1 K x1 x2 K (0 : Int) r12
abbrev herbariumref3_Runs.sg : Sig := ⟨[(.one, (.sl (.int .u8))), (.one, (.int .i64)), (.one, (.sl (.int .i64)))], [.o], [(.one, (.sl (.int .u8)))], [.o]⟩
def herbariumref3_Runs.j2 (K : Nat) (go_l1 : Int → (List Int) → Option (List Int)) (r12 : (List api_Run) × (List Int)) (t_10 : Int) (x1 : Int) (t_11 : List Int) : Option (List Int) :=
  if (0 : Int) ≤ t_10 ∧ t_10 < ((r12.1.length : Nat) : Int) then
  (_herbariumref1_List__Write K t_11 2 (wr .i64 ((wr .i64 (((nth r12.1 t_10).Len) - 3)) + 1))).bind fun r67 =>
  go_l1 (wr .i64 (t_10 + 1)) r67
  else none
def herbariumref3_Runs.l1 (K : Nat) (r12 : (List api_Run) × (List Int)) (x1 : Int) : Nat → Int → (List Int) → Option (List Int)
  | 0, _, _ => none
  | k + 1, t_10, t_12 =>
    if decide (t_10 < ((r12.1.length : Nat) : Int)) then
      if (t_10 == 0) then
        if (0 : Int) ≤ (0 : Int) ∧ (0 : Int) < ((r12.1.length : Nat) : Int) then
        (herbariumref1_Zig K (wr .i64 (((nth r12.1 0).At) - x1))).bind fun r35 =>
        (_herbariumref1_List__Write K t_12 2 (wr .i64 (r35 + 1))).bind fun r37 =>
        herbariumref3_Runs.j2 K (herbariumref3_Runs.l1 K r12 x1 k) r12 t_10 x1 r37
        else none
      else
        if (0 : Int) ≤ t_10 ∧ t_10 < ((r12.1.length : Nat) : Int) then
        if (0 : Int) ≤ (wr .i64 (t_10 - 1)) ∧ (wr .i64 (t_10 - 1)) < ((r12.1.length : Nat) : Int) then
        if (0 : Int) ≤ (wr .i64 (t_10 - 1)) ∧ (wr .i64 (t_10 - 1)) < ((r12.1.length : Nat) : Int) then
        (_herbariumref1_List__Write K t_12 2 (wr .i64 ((wr .i64 (((nth r12.1 t_10).At) - ((nth r12.1 (wr .i64 (t_10 - 1))).At))) - ((nth r12.1 (wr .i64 (t_10 - 1))).Len)))).bind fun r58 =>
        herbariumref3_Runs.j2 K (herbariumref3_Runs.l1 K r12 x1 k) r12 t_10 x1 r58
        else none
        else none
        else none
    else
      (herbariumref3_Gaps K t_12 x1 r12.2).bind fun r71 =>
      some r71
def herbariumref3_Runs (K : Nat) (x0 : List Int) (x1 : Int) (x2 : List Int) : Option (List Int) :=
  (herbariumref3_Split K x2).bind fun r12 =>
  (_herbariumref1_List__Write K x0 2 (wr .i64 (((r12.1.length : Nat) : Int) + 1))).bind fun r19 =>
  herbariumref3_Runs.l1 K r12 x1 K (0 : Int) r19
abbrev _herbariumref1_List__Write_nil0.sg : Sig := ⟨[(.one, (.sl (.int .u8))), (.one, (.int .i64)), (.one, (.int .i64))], [.n], [(.one, (.sl (.int .u8)))], [.o]⟩
def _herbariumref1_List__Write_nil0.j2 (K : Nat) (x2 : Int) (t_11 : Int) : Option (List Int) :=
  (herbariumref1_log K x2).bind fun r56 =>
  if t_11 ≠ 0 then
  (_herbariumref1_List__Put K ([] : List Int) 0 (wr .i64 (r56.tdiv t_11))).bind fun r61 =>
  (_herbariumref1_List__Put K r61 1 1).bind fun r62 =>
  if (0 : Int) ≤ (wr .i64 ((wr .i64 (r56.tdiv t_11)) * t_11)) then
  if (0 : Int) ≤ (wr .i64 ((wr .i64 ((wr .i64 (r56.tdiv t_11)) + 1)) * t_11)) then
  if (0 : Int) ≤ (wr .i64 ((wr .i64 (r56.tdiv t_11)) * t_11)) then
  (herbariumref1_log K (wr .i64 ((wr .i64 ((wr .i64 ((1 : Int) * 2 ^ min ((wr .i64 ((wr .i64 ((wr .i64 (r56.tdiv t_11)) + 1)) * t_11))).toNat 64)) - (wr .i64 ((1 : Int) * 2 ^ min ((wr .i64 ((wr .i64 (r56.tdiv t_11)) * t_11))).toNat 64)))) - 1))).bind fun r81 =>
  if (0 : Int) ≤ (wr .i64 (r81 + 1)) then
  if decide ((wr .i64 (x2 - (wr .i64 ((1 : Int) * 2 ^ min ((wr .i64 ((wr .i64 (r56.tdiv t_11)) * t_11))).toNat 64)))) < (wr .i64 ((wr .i64 ((1 : Int) * 2 ^ min ((wr .i64 (r81 + 1))).toNat 64)) - (wr .i64 ((wr .i64 ((1 : Int) * 2 ^ min ((wr .i64 ((wr .i64 ((wr .i64 (r56.tdiv t_11)) + 1)) * t_11))).toNat 64)) - (wr .i64 ((1 : Int) * 2 ^ min ((wr .i64 ((wr .i64 (r56.tdiv t_11)) * t_11))).toNat 64))))))) then
    (_herbariumref1_List__Put K r62 (wr .i64 (x2 - (wr .i64 ((1 : Int) * 2 ^ min ((wr .i64 ((wr .i64 (r56.tdiv t_11)) * t_11))).toNat 64)))) (wr .i64 ((wr .i64 (r81 + 1)) - 1))).bind fun r93 =>
    some r93
  else
    if (0 : Int) ≤ (wr .i64 (r81 + 1)) then
    (_herbariumref1_List__Put K r62 (wr .i64 ((wr .i64 ((wr .i64 (x2 - (wr .i64 ((1 : Int) * 2 ^ min ((wr .i64 ((wr .i64 (r56.tdiv t_11)) * t_11))).toNat 64)))) + (wr .i64 ((1 : Int) * 2 ^ min ((wr .i64 (r81 + 1))).toNat 64)))) - (wr .i64 ((wr .i64 ((1 : Int) * 2 ^ min ((wr .i64 ((wr .i64 ((wr .i64 (r56.tdiv t_11)) + 1)) * t_11))).toNat 64)) - (wr .i64 ((1 : Int) * 2 ^ min ((wr .i64 ((wr .i64 (r56.tdiv t_11)) * t_11))).toNat 64)))))) (wr .i64 (r81 + 1))).bind fun r102 =>
    some r102
    else none
  else none
  else none
  else none
  else none
  else none
def _herbariumref1_List__Write_nil0.l1 (K : Nat) (x2 : Int) : Nat → Int → (List Int) → Option (List Int)
  | 0, _, _ => none
  | k + 1, t_10, t_12 =>
    if decide (t_10 < x2) then
      if (t_12.length + ([0] : List Int).length) * 1 ≤ 140737488355328 then
      _herbariumref1_List__Write_nil0.l1 K x2 k (wr .i64 (t_10 + 1)) (t_12 ++ ([0] : List Int))
      else none
    else
      if (t_12.length + ([1] : List Int).length) * 1 ≤ 140737488355328 then
      some (t_12 ++ ([1] : List Int))
      else none
def _herbariumref1_List__Write_nil0 (K : Nat) (x0 : List Int) (x1 : Int) (x2 : Int) : Option (List Int) :=
  if (x1 == 1) then
    _herbariumref1_List__Write_nil0.l1 K x2 K (1 : Int) ([] : List Int)
  else
    if (x1 == 2) then
      (herbariumref1_log K x2).bind fun r31 =>
      (_herbariumref1_List__Put K ([] : List Int) 0 r31).bind fun r32 =>
      (herbariumref1_log K x2).bind fun r35 =>
      (_herbariumref1_List__Put K r32 x2 (wr .i64 (r35 + 1))).bind fun r37 =>
      some r37
    else
      if (x1 == 3) then
        (herbariumref1_log K x2).bind fun r42 =>
        (_herbariumref1_List__Write K ([] : List Int) 2 (wr .i64 (r42 + 1))).bind fun r44 =>
        (herbariumref1_log K x2).bind fun r47 =>
        if (0 : Int) ≤ r47 then
        (herbariumref1_log K x2).bind fun r51 =>
        (_herbariumref1_List__Put K r44 (wr .i64 (x2 - (wr .i64 ((1 : Int) * 2 ^ min (r47).toNat 64)))) r51).bind fun r52 =>
        some r52
        else none
      else
        if (x1 == 5) then
          _herbariumref1_List__Write_nil0.j2 K x2 (3 : Int)
        else
          _herbariumref1_List__Write_nil0.j2 K x2 (2 : Int)
abbrev herbariumref6_Frame.sg : Sig := ⟨[(.agg, Ty_api_Graph)], [], [(.one, (.sl (.int .u8))), (.one, (.sl (.int .i64)))], [.o, .o]⟩
def herbariumref6_Frame.l1 (K : Nat) (x0 : api_Graph) : Nat → Int → (List Int) → (List Int) → Option ((List Int) × (List Int))
  | 0, _, _, _ => none
  | k + 1, v_10, b_11, at_12 =>
    if decide (v_10 < x0.N) then
      if (at_12.length + ([((b_11.length : Nat) : Int)] : List Int).length) * 8 ≤ 140737488355328 then
      if (0 : Int) ≤ v_10 ∧ v_10 < ((x0.Out.length : Nat) : Int) then
      (herbariumref3_Runs K b_11 v_10 (nth x0.Out v_10)).bind fun r29 =>
      herbariumref6_Frame.l1 K x0 k (wr .i64 (v_10 + 1)) r29 (at_12 ++ ([((b_11.length : Nat) : Int)] : List Int))
      else none
      else none
    else
      some (b_11, at_12)
def herbariumref6_Frame (K : Nat) (x0 : api_Graph) : Option ((List Int) × (List Int)) :=
  (_herbariumref1_List__Write_nil0 K ([] : List Int) 2 (wr .i64 (x0.N + 1))).bind fun r10 =>
  herbariumref6_Frame.l1 K x0 K (0 : Int) r10 ([] : List Int)
abbrev _herbariumref1_List__Pack.sg : Sig := ⟨[(.one, (.sl (.int .u8)))], [], [(.agg, Ty_api_Bits)], []⟩
def _herbariumref1_List__Pack.l1 (K : Nat) (x0 : List Int) : Nat → Int → ByteArray → Int → (List Int) → Option api_Bits
  | 0, _, _, _, _ => none
  | k + 1, i_13, t_10, t_11, x_12 =>
    if decide (i_13 < ((x0.length : Nat) : Int)) then
      if (8 : Int) ≠ 0 then
      if (8 : Int) ≠ 0 then
      if (0 : Int) ≤ (wr .i64 (i_13.tdiv 8)) ∧ (wr .i64 (i_13.tdiv 8)) < ((x_12.length : Nat) : Int) then
      if (0 : Int) ≤ i_13 ∧ i_13 < ((x0.length : Nat) : Int) then
      if (8 : Int) ≠ 0 then
      if (0 : Int) ≤ (wr .i64 (7 - (i_13.tmod 8))) then
      if (0 : Int) ≤ (wr .i64 (i_13.tdiv 8)) ∧ (wr .i64 (i_13.tdiv 8)) < ((x_12.length : Nat) : Int) then
      _herbariumref1_List__Pack.l1 K x0 k (wr .i64 (i_13 + 1)) t_10 t_11 ((x_12).set (wr .i64 (i_13.tdiv 8)).toNat (ib .or .u8 (nth x_12 (wr .i64 (i_13.tdiv 8))) (wr .u8 ((nth x0 i_13) * 2 ^ min ((wr .i64 (7 - (i_13.tmod 8)))).toNat 8))))
      else none
      else none
      else none
      else none
      else none
      else none
      else none
    else
      some ((bytesOf x_12, ((x0.length : Nat) : Int)) : api_Bits)
def _herbariumref1_List__Pack (K : Nat) (x0 : List Int) : Option api_Bits :=
  if (8 : Int) ≠ 0 then
  if (wr .i64 ((wr .i64 (((x0.length : Nat) : Int) + 7)).tdiv 8)) = (wr .i64 ((wr .i64 (((x0.length : Nat) : Int) + 7)).tdiv 8)) ∧ (0 : Int) ≤ (wr .i64 ((wr .i64 (((x0.length : Nat) : Int) + 7)).tdiv 8)) ∧ (1 : Int) * (wr .i64 ((wr .i64 (((x0.length : Nat) : Int) + 7)).tdiv 8)) ≤ 281474976710656 ∧ (wr .i64 ((wr .i64 (((x0.length : Nat) : Int) + 7)).tdiv 8)) ≤ 9223372036854775807 then
  _herbariumref1_List__Pack.l1 K x0 K (0 : Int) ByteArray.empty (0 : Int) (List.replicate (wr .i64 ((wr .i64 (((x0.length : Nat) : Int) + 7)).tdiv 8)).toNat (0 : Int))
  else none
  else none
abbrev herbariumlaw7_num.sg : Sig := ⟨[(.one, (.int .i64))], [], [(.one, (.int .i64))], []⟩
def herbariumlaw7_num (K : Nat) (x0 : Int) : Option Int :=
  some x0
abbrev herbariumref0_EqNumbers.sg : Sig := ⟨[(.one, (.sl (.int .i64))), (.one, (.sl (.int .i64)))], [], [(.one, .bool)], []⟩
def herbariumref0_EqNumbers.l1 (K : Nat) (x0 : List Int) (x1 : List Int) : Nat → Int → Option Bool
  | 0, _ => none
  | k + 1, i_10 =>
    if decide (i_10 < ((x0.length : Nat) : Int)) then
      if (0 : Int) ≤ i_10 ∧ i_10 < ((x0.length : Nat) : Int) then
      if (0 : Int) ≤ i_10 ∧ i_10 < ((x1.length : Nat) : Int) then
      if ((nth x0 i_10) != (nth x1 i_10)) then
        some false
      else
        herbariumref0_EqNumbers.l1 K x0 x1 k (wr .i64 (i_10 + 1))
      else none
      else none
    else
      some true
def herbariumref0_EqNumbers (K : Nat) (x0 : List Int) (x1 : List Int) : Option Bool :=
  if (((x0.length : Nat) : Int) != ((x1.length : Nat) : Int)) then
    some false
  else
    herbariumref0_EqNumbers.l1 K x0 x1 K (0 : Int)
abbrev herbariumref0_EqNumberLists.sg : Sig := ⟨[(.one, (.sl (.sl (.int .i64)))), (.one, (.sl (.sl (.int .i64))))], [], [(.one, .bool)], []⟩
def herbariumref0_EqNumberLists.l1 (K : Nat) (x0 : List (List Int)) (x1 : List (List Int)) : Nat → Int → Option Bool
  | 0, _ => none
  | k + 1, i_10 =>
    if decide (i_10 < ((x0.length : Nat) : Int)) then
      if (0 : Int) ≤ i_10 ∧ i_10 < ((x0.length : Nat) : Int) then
      if (0 : Int) ≤ i_10 ∧ i_10 < ((x1.length : Nat) : Int) then
      (herbariumref0_EqNumbers K (nth x0 i_10) (nth x1 i_10)).bind fun r25 =>
      if (!r25) then
        some false
      else
        herbariumref0_EqNumberLists.l1 K x0 x1 k (wr .i64 (i_10 + 1))
      else none
      else none
    else
      some true
def herbariumref0_EqNumberLists (K : Nat) (x0 : List (List Int)) (x1 : List (List Int)) : Option Bool :=
  if (((x0.length : Nat) : Int) != ((x1.length : Nat) : Int)) then
    some false
  else
    herbariumref0_EqNumberLists.l1 K x0 x1 K (0 : Int)
abbrev herbariumref0_EqGraph.sg : Sig := ⟨[(.agg, Ty_api_Graph), (.agg, Ty_api_Graph)], [], [(.one, .bool)], []⟩
def herbariumref0_EqGraph (K : Nat) (x0 : api_Graph) (x1 : api_Graph) : Option Bool :=
  if (x0.N == x1.N) then
    (herbariumref0_EqNumberLists K x0.Out x1.Out).bind fun r15 =>
    some r15
  else
    some false
abbrev herbariumlaw0_Within.sg : Sig := ⟨[(.one, (.int .i64)), (.one, (.int .i64))], [], [(.one, (.int .i64))], []⟩
def herbariumlaw0_Within (K : Nat) (x0 : Int) (x1 : Int) : Option Int :=
  if (wr .u64 x1) ≠ 0 then
  some (wr .i64 ((wr .u64 x0).tmod (wr .u64 x1)))
  else none
abbrev herbariumlaw3_Ask : Type := (List (List Int)) × (List api_Bits) × (List Int)
abbrev Ty_herbariumlaw3_Ask : Ty := (.pr (.sl (.sl (.int .i64))) (.pr (.sl Ty_api_Bits) (.sl (.int .i64))))
abbrev herbariumlaw3_Ask.L (x : herbariumlaw3_Ask) : List (List Int) := x.1
abbrev herbariumlaw3_Ask.B (x : herbariumlaw3_Ask) : List api_Bits := x.2.1
abbrev herbariumlaw3_Ask.N (x : herbariumlaw3_Ask) : List Int := x.2.2
abbrev herbariumlaw3_Texts.sg : Sig := ⟨[(.agg, Ty_herbariumlaw3_Ask), (.one, (.sl (.sl (.int .u8))))], [], [(.one, (.sl Ty_api_Bits))], [.o]⟩
def herbariumlaw3_Texts.l2 (K : Nat) (x0 : herbariumlaw3_Ask) (x1 : List (List Int)) : Nat → Int → (List api_Bits) → Option (List api_Bits)
  | 0, _, _ => none
  | k + 1, t_11, t_12 =>
    if decide (t_11 < ((x1.length : Nat) : Int)) then
      if decide (t_11 < 10) then
        if (0 : Int) ≤ t_11 ∧ t_11 < ((x1.length : Nat) : Int) then
        (_herbariumref1_List__Pack K (nth x1 t_11)).bind fun r36 =>
        if (t_12.length + ([r36] : List api_Bits).length) * 24 ≤ 140737488355328 then
        if ((((nth x1 t_11).length : Nat) : Int) == 0) then
          herbariumlaw3_Texts.l2 K x0 x1 k (wr .i64 (t_11 + 1)) (t_12 ++ ([r36] : List api_Bits))
        else
          if (([] : List Int).length + (nth x1 t_11).length) * 1 ≤ 140737488355328 then
          (herbariumlaw0_Within K (wr .i64 ((wr .i64 (t_11 * 7)) + (wr .i64 (((x0.N.length : Nat) : Int) * 3)))) (((([] : List Int) ++ (nth x1 t_11)).length : Nat) : Int)).bind fun r54 =>
          if (0 : Int) ≤ r54 ∧ r54 < (((([] : List Int) ++ (nth x1 t_11)).length : Nat) : Int) then
          if (0 : Int) ≤ r54 ∧ r54 < (((([] : List Int) ++ (nth x1 t_11)).length : Nat) : Int) then
          (_herbariumref1_List__Pack K ((([] : List Int) ++ (nth x1 t_11)).set r54.toNat (wr .u8 (1 - (nth (([] : List Int) ++ (nth x1 t_11)) r54))))).bind fun r65 =>
          if (0 : Int) ≤ (0 : Int) ∧ (0 : Int) ≤ r54 ∧ r54 ≤ (((nth x1 t_11).length : Nat) : Int) then
          (_herbariumref1_List__Pack K (((nth x1 t_11).drop (0 : Int).toNat).take (r54.toNat - (0 : Int).toNat))).bind fun r69 =>
          if (([] : List Int).length + (nth x1 t_11).length) * 1 ≤ 140737488355328 then
          if ((([] : List Int) ++ (nth x1 t_11)).length + ([1, 0, 1] : List Int).length) * 1 ≤ 140737488355328 then
          (_herbariumref1_List__Pack K ((([] : List Int) ++ (nth x1 t_11)) ++ ([1, 0, 1] : List Int))).bind fun r75 =>
          if ((t_12 ++ ([r36] : List api_Bits)).length + ([r65, r69, r75] : List api_Bits).length) * 24 ≤ 140737488355328 then
          herbariumlaw3_Texts.l2 K x0 x1 k (wr .i64 (t_11 + 1)) ((t_12 ++ ([r36] : List api_Bits)) ++ ([r65, r69, r75] : List api_Bits))
          else none
          else none
          else none
          else none
          else none
          else none
          else none
        else none
        else none
      else
        some t_12
    else
      some t_12
def herbariumlaw3_Texts.j1 (K : Nat) (x0 : herbariumlaw3_Ask) (x1 : List (List Int)) (t_10 : List api_Bits) : Option (List api_Bits) :=
  herbariumlaw3_Texts.l2 K x0 x1 K (0 : Int) t_10
def herbariumlaw3_Texts (K : Nat) (x0 : herbariumlaw3_Ask) (x1 : List (List Int)) : Option (List api_Bits) :=
  if (([((ByteArray.empty, 0) : api_Bits)] : List api_Bits).length + x0.B.length) * 24 ≤ 140737488355328 then
  if decide ((((([((ByteArray.empty, 0) : api_Bits)] : List api_Bits) ++ x0.B).length : Nat) : Int) > 6) then
    if (0 : Int) ≤ (6 : Int) ∧ (6 : Int) ≤ (((([((ByteArray.empty, 0) : api_Bits)] : List api_Bits) ++ x0.B).length : Nat) : Int) then
    herbariumlaw3_Texts.j1 K x0 x1 ((([((ByteArray.empty, 0) : api_Bits)] : List api_Bits) ++ x0.B).take (6 : Int).toNat)
    else none
  else
    herbariumlaw3_Texts.j1 K x0 x1 (([((ByteArray.empty, 0) : api_Bits)] : List api_Bits) ++ x0.B)
  else none
abbrev bits_May.sg : Sig := ⟨[(.agg, Ty_api_Bits)], [], [(.one, .bool)], []⟩
def bits_May (K : Nat) (x0 : api_Bits) : Option Bool :=
  if decide (x0.N < 0) then
    some false
  else
    if decide (x0.N > 6000) then
      some false
    else
      if (8 : Int) ≠ 0 then
      if (((x0.Data.size : Nat) : Int) != (wr .i64 ((wr .i64 ((wr .i64 (x0.N + 8)) - 1)).tdiv 8))) then
        some false
      else
        if (8 : Int) ≠ 0 then
        if ((x0.N.tmod 8) == 0) then
          some true
        else
          if (0 : Int) ≤ (wr .i64 (((x0.Data.size : Nat) : Int) - 1)) ∧ (wr .i64 (((x0.Data.size : Nat) : Int) - 1)) < ((x0.Data.size : Nat) : Int) then
          if (0 : Int) ≤ (x0.N.tmod 8) then
          some ((ib .and .u8 (bt x0.Data (wr .i64 (((x0.Data.size : Nat) : Int) - 1))) ((255 : Int).fdiv (2 ^ min ((x0.N.tmod 8)).toNat 8))) == 0)
          else none
          else none
        else none
      else none
abbrev bits_bit.sg : Sig := ⟨[(.agg, Ty_api_Bits), (.one, (.int .i64))], [], [(.one, (.int .i64))], []⟩
def bits_bit (K : Nat) (x0 : api_Bits) (x1 : Int) : Option Int :=
  if (8 : Int) ≠ 0 then
  if (0 : Int) ≤ (wr .i64 (x1.tdiv 8)) ∧ (wr .i64 (x1.tdiv 8)) < ((x0.Data.size : Nat) : Int) then
  if (8 : Int) ≠ 0 then
  if (0 : Int) ≤ (wr .i64 (7 - (x1.tmod 8))) then
  some (ib .and .i64 (wr .i64 ((bt x0.Data (wr .i64 (x1.tdiv 8))).fdiv (2 ^ min ((wr .i64 (7 - (x1.tmod 8)))).toNat 8))) 1)
  else none
  else none
  else none
  else none
abbrev bits_Ahead.sg : Sig := ⟨[(.agg, Ty_api_Bits), (.one, (.int .i64))], [], [(.one, (.int .i64))], []⟩
def bits_Ahead.l1 (K : Nat) (x0 : api_Bits) (x1 : Int) : Nat → Int → Option Int
  | 0, _ => none
  | k + 1, i_10 =>
    if decide (i_10 < x0.N) then
      (bits_bit K x0 i_10).bind fun r15 =>
      if (r15 == 1) then
        some (wr .i64 (i_10 - x1))
      else
        bits_Ahead.l1 K x0 x1 k (wr .i64 (i_10 + 1))
    else
      some ((-1) : Int)
def bits_Ahead (K : Nat) (x0 : api_Bits) (x1 : Int) : Option Int :=
  bits_Ahead.l1 K x0 x1 K x1
abbrev code_reader : Type := api_Bits × Int × Bool
abbrev Ty_code_reader : Ty := (.pr Ty_api_Bits (.pr (.int .i64) .bool))
abbrev code_reader.b (x : code_reader) : api_Bits := x.1
abbrev code_reader.at_ (x : code_reader) : Int := x.2.1
abbrev code_reader.bad (x : code_reader) : Bool := x.2.2
abbrev __code_reader__zeros.sg : Sig := ⟨[(.box, Ty_code_reader), (.one, (.int .i64))], [], [(.one, (.int .i64))], []⟩
def __code_reader__zeros (K : Nat) (x0 : code_reader) (x1 : Int) : Option (Int × code_reader) :=
  (bits_Ahead K x0.b x0.at_).bind fun r14 =>
  if x0.bad then
    some (0, ((x0.b, x0.at_, true) : code_reader))
  else
    if decide (r14 < 0) then
      some (0, ((x0.b, x0.at_, true) : code_reader))
    else
      if decide (r14 > x1) then
        some (0, ((x0.b, x0.at_, true) : code_reader))
      else
        some (r14, ((x0.b, wr .i64 (x0.at_ + r14), x0.bad) : code_reader))
abbrev bits_Look.sg : Sig := ⟨[(.agg, Ty_api_Bits), (.one, (.int .i64)), (.one, (.int .i64))], [], [(.one, (.int .i64)), (.one, .bool)], []⟩
def bits_Look.l1 (K : Nat) (x0 : api_Bits) (x1 : Int) (x2 : Int) : Nat → Int → Int → Option (Int × Bool)
  | 0, _, _ => none
  | k + 1, v_10, t_11 =>
    if decide (t_11 < x2) then
      if (0 : Int) ≤ 1 then
      (bits_bit K x0 (wr .i64 (x1 + t_11))).bind fun r32 =>
      bits_Look.l1 K x0 x1 x2 k (ib .or .i64 (wr .i64 (v_10 * 2 ^ min ((1 : Int)).toNat 64)) r32) (wr .i64 (t_11 + 1))
      else none
    else
      some (v_10, true)
def bits_Look (K : Nat) (x0 : api_Bits) (x1 : Int) (x2 : Int) : Option (Int × Bool) :=
  if decide (x1 > x0.N) then
    some (0, false)
  else
    if decide (x2 > (wr .i64 (x0.N - x1))) then
      some (0, false)
    else
      bits_Look.l1 K x0 x1 x2 K (0 : Int) (0 : Int)
abbrev __code_reader__look.sg : Sig := ⟨[(.box, Ty_code_reader), (.one, (.int .i64))], [], [(.one, (.int .i64))], []⟩
def __code_reader__look (K : Nat) (x0 : code_reader) (x1 : Int) : Option (Int × code_reader) :=
  (bits_Look K x0.b x0.at_ x1).bind fun r17 =>
  if x0.bad then
    some (0, ((x0.b, x0.at_, true) : code_reader))
  else
    if (!r17.2) then
      some (0, ((x0.b, x0.at_, true) : code_reader))
    else
      some (r17.1, ((x0.b, wr .i64 (x0.at_ + x1), x0.bad) : code_reader))
abbrev __code_reader__unary.sg : Sig := ⟨[(.box, Ty_code_reader), (.one, (.int .i64))], [], [(.one, (.int .i64))], []⟩
def __code_reader__unary (K : Nat) (x0 : code_reader) (x1 : Int) : Option (Int × code_reader) :=
  (__code_reader__zeros K x0 (wr .i64 (x1 - 1))).bind fun r9 =>
  (__code_reader__look K r9.2 1).bind fun r11 =>
  some (wr .i64 (r9.1 + 1), r11.2)
abbrev __code_reader__gamma.sg : Sig := ⟨[(.box, Ty_code_reader)], [], [(.one, (.int .i64))], []⟩
def __code_reader__gamma (K : Nat) (x0 : code_reader) : Option (Int × code_reader) :=
  (__code_reader__zeros K x0 30).bind fun r5 =>
  (__code_reader__look K r5.2 (wr .i64 (r5.1 + 1))).bind fun r9 =>
  some (r9.1, r9.2)
abbrev __code_reader__delta.sg : Sig := ⟨[(.box, Ty_code_reader)], [], [(.one, (.int .i64))], []⟩
def __code_reader__delta (K : Nat) (x0 : code_reader) : Option (Int × code_reader) :=
  (__code_reader__gamma K x0).bind fun r5 =>
  if r5.2.bad then
    some (0, ((r5.2.b, r5.2.at_, true) : code_reader))
  else
    if decide ((wr .i64 (r5.1 - 1)) > 30) then
      some (0, ((r5.2.b, r5.2.at_, true) : code_reader))
    else
      if (0 : Int) ≤ (wr .i64 (r5.1 - 1)) then
      (__code_reader__look K r5.2 (wr .i64 (r5.1 - 1))).bind fun r22 =>
      some (ib .or .i64 (wr .i64 ((1 : Int) * 2 ^ min ((wr .i64 (r5.1 - 1))).toNat 64)) r22.1, r22.2)
      else none
abbrev __code_reader__zeta.sg : Sig := ⟨[(.box, Ty_code_reader), (.one, (.int .i64))], [], [(.one, (.int .i64))], []⟩
def __code_reader__zeta (K : Nat) (x0 : code_reader) (x1 : Int) : Option (Int × code_reader) :=
  if x1 ≠ 0 then
  (__code_reader__unary K x0 (wr .i64 ((wr .i64 ((30 : Int).tdiv x1)) + 1))).bind fun r15 =>
  if r15.2.bad then
    some (0, r15.2)
  else
    (code_zeta K x1 (wr .i64 (r15.1 - 1))).bind fun r24 =>
    (__code_reader__look K r15.2 (wr .i64 (r24.2.2.1 - 1))).bind fun r32 =>
    if decide (r32.1 ≥ r24.2.2.2) then
      if (0 : Int) ≤ 1 then
      (__code_reader__look K r32.2 1).bind fun r39 =>
      some (wr .i64 (r24.1 + (wr .i64 ((wr .i64 ((wr .i64 (r32.1 * 2 ^ min ((1 : Int)).toNat 64)) + r39.1)) - r24.2.2.2))), r39.2)
      else none
    else
      some (wr .i64 (r24.1 + r32.1), r32.2)
  else none
abbrev code_Read.sg : Sig := ⟨[(.agg, Ty_api_Bits), (.one, (.int .i64)), (.one, (.int .i64))], [], [(.one, (.int .i64)), (.one, (.int .i64)), (.one, .bool)], []⟩
def code_Read.j1 (K : Nat) (n_14 : Int) (r_10 : ByteArray) (r_11 : Int) (r_12 : Int) (r_13 : Bool) : Option (Int × Int × Bool) :=
  if r_13 then
    some (0, 0, false)
  else
    if decide (n_14 > 1073741824) then
      some (0, 0, false)
    else
      some (n_14, r_12, true)
def code_Read (K : Nat) (x0 : api_Bits) (x1 : Int) (x2 : Int) : Option (Int × Int × Bool) :=
  if (x2 == 1) then
    (__code_reader__unary K ((x0, x1, false) : code_reader) 1000).bind fun r23 =>
    code_Read.j1 K r23.1 r23.2.b.Data r23.2.b.N r23.2.at_ r23.2.bad
  else
    if (x2 == 2) then
      (__code_reader__gamma K ((x0, x1, false) : code_reader)).bind fun r27 =>
      code_Read.j1 K r27.1 r27.2.b.Data r27.2.b.N r27.2.at_ r27.2.bad
    else
      if (x2 == 3) then
        (__code_reader__delta K ((x0, x1, false) : code_reader)).bind fun r31 =>
        code_Read.j1 K r31.1 r31.2.b.Data r31.2.b.N r31.2.at_ r31.2.bad
      else
        (code_parts K x2).bind fun r18 =>
        (__code_reader__zeta K ((x0, x1, false) : code_reader) r18).bind fun r19 =>
        code_Read.j1 K r19.1 r19.2.b.Data r19.2.b.N r19.2.at_ r19.2.bad
abbrev frame_Head.sg : Sig := ⟨[(.agg, Ty_api_Bits)], [], [(.one, (.int .i64)), (.one, (.int .i64)), (.one, .bool)], []⟩
def frame_Head (K : Nat) (x0 : api_Bits) : Option (Int × Int × Bool) :=
  (code_Read K x0 0 2).bind fun r7 =>
  if (!r7.2.2) then
    some (0, 0, false)
  else
    if decide (r7.1 > 17) then
      some (0, 0, false)
    else
      some (wr .i64 (r7.1 - 1), r7.2.1, true)
abbrev code_Unfold.sg : Sig := ⟨[(.one, (.int .i64))], [], [(.one, (.int .i64))], []⟩
def code_Unfold (K : Nat) (x0 : Int) : Option Int :=
  if (2 : Int) ≠ 0 then
  if ((x0.tmod 2) == 1) then
    if (2 : Int) ≠ 0 then
    some (wr .i64 ((wr .i64 (0 - (wr .i64 (x0 + 1)))).tdiv 2))
    else none
  else
    if (2 : Int) ≠ 0 then
    some (wr .i64 (x0.tdiv 2))
    else none
  else none
abbrev runs_read.sg : Sig := ⟨[(.agg, Ty_api_Bits), (.one, (.int .i64)), (.one, (.int .i64))], [], [(.one, (.sl Ty_api_Run)), (.one, (.int .i64)), (.one, .bool)], [.o]⟩
def runs_read.j2 (K : Nat) (go_l1 : Int → Int → Int → Int → (List api_Run) → Option ((List api_Run) × Int × Bool)) (r48 : Int × Int × Bool) (t_10 : Int) (t_11 : Int) (t_13 : List api_Run) (t_15 : Int) (x0 : api_Bits) (t_12 : Int) : Option ((List api_Run) × Int × Bool) :=
  if (t_13.length + ([((wr .i64 (t_15 + t_12), wr .i64 ((wr .i64 (r48.1 - 1)) + 3)) : api_Run)] : List api_Run).length) * 16 ≤ 140737488355328 then
  go_l1 r48.2.1 (wr .i64 ((wr .i64 (t_15 + t_12)) + (wr .i64 ((wr .i64 (r48.1 - 1)) + 3)))) t_10 (wr .i64 (t_11 + 1)) (t_13 ++ ([((wr .i64 (t_15 + t_12), wr .i64 ((wr .i64 (r48.1 - 1)) + 3)) : api_Run)] : List api_Run))
  else none
def runs_read.l1 (K : Nat) (x0 : api_Bits) : Nat → Int → Int → Int → Int → (List api_Run) → Option ((List api_Run) × Int × Bool)
  | 0, _, _, _, _, _ => none
  | k + 1, t_14, t_15, t_10, t_11, t_13 =>
    if decide (t_11 < t_10) then
      (code_Read K x0 t_14 2).bind fun r39 =>
      if (!r39.2.2) then
        some (([] : List api_Run), 0, false)
      else
        (code_Read K x0 r39.2.1 2).bind fun r48 =>
        if (!r48.2.2) then
          some (([] : List api_Run), 0, false)
        else
          if (t_11 == 0) then
            (code_Unfold K (wr .i64 (r39.1 - 1))).bind fun r58 =>
            runs_read.j2 K (runs_read.l1 K x0 k) r48 t_10 t_11 t_13 t_15 x0 r58
          else
            runs_read.j2 K (runs_read.l1 K x0 k) r48 t_10 t_11 t_13 t_15 x0 r39.1
    else
      some (t_13, t_14, true)
def runs_read (K : Nat) (x0 : api_Bits) (x1 : Int) (x2 : Int) : Option ((List api_Run) × Int × Bool) :=
  (code_Read K x0 x1 2).bind fun r20 =>
  if (!r20.2.2) then
    some (([] : List api_Run), 0, false)
  else
    if decide (r20.1 > 16) then
      some (([] : List api_Run), 0, false)
    else
      runs_read.l1 K x0 K r20.2.1 x2 (wr .i64 (r20.1 - 1)) (0 : Int) ([] : List api_Run)
abbrev gaps_Read.sg : Sig := ⟨[(.agg, Ty_api_Bits), (.one, (.int .i64)), (.one, (.int .i64))], [], [(.one, (.sl (.int .i64))), (.one, (.int .i64)), (.one, .bool)], [.o]⟩
def gaps_Read.j2 (K : Nat) (go_l1 : Int → Int → Int → Int → (List Int) → Option ((List Int) × Int × Bool)) (l_13 : List Int) (last_15 : Int) (r35 : Int × Int × Bool) (t_10 : Int) (t_11 : Int) (x0 : api_Bits) (n_12 : Int) : Option ((List Int) × Int × Bool) :=
  (gaps_Is K (wr .i64 (last_15 + n_12))).bind fun r50 =>
  if (!r50) then
    some (([] : List Int), 0, false)
  else
    if (l_13.length + ([wr .i64 (last_15 + n_12)] : List Int).length) * 8 ≤ 140737488355328 then
    go_l1 r35.2.1 (wr .i64 (last_15 + n_12)) t_10 (wr .i64 (t_11 + 1)) (l_13 ++ ([wr .i64 (last_15 + n_12)] : List Int))
    else none
def gaps_Read.l1 (K : Nat) (x0 : api_Bits) : Nat → Int → Int → Int → Int → (List Int) → Option ((List Int) × Int × Bool)
  | 0, _, _, _, _, _ => none
  | k + 1, next_14, last_15, t_10, t_11, l_13 =>
    if decide (t_11 < t_10) then
      (code_Read K x0 next_14 2).bind fun r35 =>
      if (!r35.2.2) then
        some (([] : List Int), 0, false)
      else
        if (t_11 == 0) then
          (code_Unfold K (wr .i64 (r35.1 - 1))).bind fun r45 =>
          gaps_Read.j2 K (gaps_Read.l1 K x0 k) l_13 last_15 r35 t_10 t_11 x0 r45
        else
          gaps_Read.j2 K (gaps_Read.l1 K x0 k) l_13 last_15 r35 t_10 t_11 x0 r35.1
    else
      some (l_13, next_14, true)
def gaps_Read (K : Nat) (x0 : api_Bits) (x1 : Int) (x2 : Int) : Option ((List Int) × Int × Bool) :=
  (code_Read K x0 x1 2).bind fun r16 =>
  if (!r16.2.2) then
    some (([] : List Int), 0, false)
  else
    if decide (r16.1 > 17) then
      some (([] : List Int), 0, false)
    else
      gaps_Read.l1 K x0 K r16.2.1 x2 (wr .i64 (r16.1 - 1)) (0 : Int) ([] : List Int)
abbrev slices_Clone___int_int_.sg : Sig := ⟨[(.one, (.sl (.int .i64)))], [], [(.one, (.sl (.int .i64)))], [.o]⟩
def slices_Clone___int_int_ (K : Nat) (x0 : List Int) : Option (List Int) :=
  if (([] : List Int).length + x0.length) * 8 ≤ 140737488355328 then
  some (([] : List Int) ++ x0)
  else none
abbrev runs_Whole.sg : Sig := ⟨[(.one, (.sl Ty_api_Run)), (.one, (.sl (.int .i64)))], [], [(.one, (.sl (.int .i64))), (.one, .bool)], [.o]⟩
def runs_Whole.l2 (K : Nat) (go_l1 : Int → Int → Int → (List Int) → Option ((List Int) × Bool)) (t_11 : Int) (t_12 : Int) (x0 : List api_Run) (x1 : List Int) : Nat → Int → Int → (List Int) → Option ((List Int) × Bool)
  | 0, _, _, _ => none
  | k + 1, t_13, t_14, t_15 =>
    if decide (t_14 < t_13) then
      if (t_15.length + ([t_14] : List Int).length) * 8 ≤ 140737488355328 then
      runs_Whole.l2 K go_l1 t_11 t_12 x0 x1 k t_13 (wr .i64 (t_14 + 1)) (t_15 ++ ([t_14] : List Int))
      else none
    else
      go_l1 t_13 t_11 (wr .i64 (t_12 + 1)) t_15
def runs_Whole.l1 (K : Nat) (x0 : List api_Run) (x1 : List Int) : Nat → Int → Int → Int → (List Int) → Option ((List Int) × Bool)
  | 0, _, _, _, _ => none
  | k + 1, t_10, t_11, t_12, t_16 =>
    if decide (t_12 < t_11) then
      if (0 : Int) ≤ t_12 ∧ t_12 < ((x0.length : Nat) : Int) then
      if decide (((nth x0 t_12).Len) < 3) then
        some (([] : List Int), false)
      else
        if decide (((nth x0 t_12).Len) > 16) then
          some (([] : List Int), false)
        else
          if decide (((nth x0 t_12).At) ≤ t_10) then
            some (([] : List Int), false)
          else
            (gaps_Is K ((nth x0 t_12).At)).bind fun r36 =>
            if (!r36) then
              some (([] : List Int), false)
            else
              (gaps_Is K (wr .i64 ((wr .i64 (((nth x0 t_12).At) + ((nth x0 t_12).Len))) - 1))).bind fun r46 =>
              if (!r46) then
                some (([] : List Int), false)
              else
                runs_Whole.l2 K (runs_Whole.l1 K x0 x1 k) t_11 t_12 x0 x1 K (wr .i64 (((nth x0 t_12).At) + ((nth x0 t_12).Len))) ((nth x0 t_12).At) t_16
      else none
    else
      if t_16.length < 4611686018427387904 then
      (gaps_May K x1).bind fun r70 =>
      if r70 then
        (gaps_May K (sortF t_16)).bind fun r73 =>
        some (sortF t_16, r73)
      else
        some (sortF t_16, false)
      else none
def runs_Whole (K : Nat) (x0 : List api_Run) (x1 : List Int) : Option ((List Int) × Bool) :=
  (slices_Clone___int_int_ K x1).bind fun r12 =>
  runs_Whole.l1 K x0 x1 K ((-1) : Int) ((x0.length : Nat) : Int) (0 : Int) r12
abbrev slices_Equal___api_Run_api_Run_.sg : Sig := ⟨[(.one, (.sl Ty_api_Run)), (.one, (.sl Ty_api_Run))], [], [(.one, .bool)], []⟩
def slices_Equal___api_Run_api_Run_.l1 (K : Nat) (x0 : List api_Run) (x1 : List api_Run) : Nat → Int → Int → Option Bool
  | 0, _, _ => none
  | k + 1, t_10, t_11 =>
    if decide (t_11 < t_10) then
      if (0 : Int) ≤ t_11 ∧ t_11 < ((x0.length : Nat) : Int) then
      if (0 : Int) ≤ t_11 ∧ t_11 < ((x1.length : Nat) : Int) then
      if (!((((nth x0 t_11).At) == ((nth x1 t_11).At)) && ((((nth x0 t_11).Len) == ((nth x1 t_11).Len)) && true))) then
        some false
      else
        slices_Equal___api_Run_api_Run_.l1 K x0 x1 k t_10 (wr .i64 (t_11 + 1))
      else none
      else none
    else
      some true
def slices_Equal___api_Run_api_Run_ (K : Nat) (x0 : List api_Run) (x1 : List api_Run) : Option Bool :=
  if (((x0.length : Nat) : Int) != ((x1.length : Nat) : Int)) then
    some false
  else
    slices_Equal___api_Run_api_Run_.l1 K x0 x1 K ((x0.length : Nat) : Int) (0 : Int)
abbrev slices_Equal___int_int_.sg : Sig := ⟨[(.one, (.sl (.int .i64))), (.one, (.sl (.int .i64)))], [], [(.one, .bool)], []⟩
def slices_Equal___int_int_.l1 (K : Nat) (x0 : List Int) (x1 : List Int) : Nat → Int → Int → Option Bool
  | 0, _, _ => none
  | k + 1, t_10, t_11 =>
    if decide (t_11 < t_10) then
      if (0 : Int) ≤ t_11 ∧ t_11 < ((x0.length : Nat) : Int) then
      if (0 : Int) ≤ t_11 ∧ t_11 < ((x1.length : Nat) : Int) then
      if ((nth x0 t_11) != (nth x1 t_11)) then
        some false
      else
        slices_Equal___int_int_.l1 K x0 x1 k t_10 (wr .i64 (t_11 + 1))
      else none
      else none
    else
      some true
def slices_Equal___int_int_ (K : Nat) (x0 : List Int) (x1 : List Int) : Option Bool :=
  if (((x0.length : Nat) : Int) != ((x1.length : Nat) : Int)) then
    some false
  else
    slices_Equal___int_int_.l1 K x0 x1 K ((x0.length : Nat) : Int) (0 : Int)
abbrev runs_Read.sg : Sig := ⟨[(.agg, Ty_api_Bits), (.one, (.int .i64)), (.one, (.int .i64))], [], [(.one, (.sl (.int .i64))), (.one, (.int .i64)), (.one, .bool)], [.o]⟩
def runs_Read (K : Nat) (x0 : api_Bits) (x1 : Int) (x2 : Int) : Option ((List Int) × Int × Bool) :=
  (runs_read K x0 x1 x2).bind fun r17 =>
  if (!r17.2.2) then
    some (([] : List Int), 0, false)
  else
    (gaps_Read K x0 r17.2.1 x2).bind fun r27 =>
    if (!r27.2.2) then
      some (([] : List Int), 0, false)
    else
      (runs_Whole K r17.1 r27.1).bind fun r36 =>
      if (!r36.2) then
        some (([] : List Int), 0, false)
      else
        (runs_Parts K r36.1).bind fun r43 =>
        (slices_Equal___api_Run_api_Run_ K r43.1 r17.1).bind fun r50 =>
        if r50 then
          (slices_Equal___int_int_ K r43.2 r27.1).bind fun r54 =>
          some (r36.1, r27.2.1, r54)
        else
          some (r36.1, r27.2.1, false)
abbrev frame_Read_1.sg : Sig := ⟨[(.one, (.int .i64)), (.one, (.int .i64)), (.box, Ty_api_Bits)], [], [(.one, (.sl (.int .i64))), (.one, (.int .i64)), (.one, .bool)], [.o]⟩
def frame_Read_1 (K : Nat) (x0 : Int) (x1 : Int) (x2 : api_Bits) : Option ((List Int) × Int × Bool × api_Bits) :=
  (runs_Read K x2 x0 x1).bind fun r11 =>
  some (r11.1, r11.2.1, r11.2.2, x2)
abbrev graph_Empty.sg : Sig := ⟨[(.one, (.int .i64))], [], [(.agg, Ty_api_Graph)], [.s, .o]⟩
def graph_Empty (K : Nat) (x0 : Int) : Option api_Graph :=
  if x0 = x0 ∧ (0 : Int) ≤ x0 ∧ (24 : Int) * x0 ≤ 281474976710656 ∧ x0 ≤ 9223372036854775807 then
  some ((x0, List.replicate x0.toNat ([] : List Int)) : api_Graph)
  else none
abbrev frame_Lists_frame_Read_1.sg : Sig := ⟨[(.one, (.int .i64)), (.one, (.int .i64)), (.one, (.int .i64)), (.fn 140 1, .un), (.hid, Ty_api_Bits)], [], [(.agg, Ty_api_Graph), (.one, (.int .i64)), (.one, .bool)], [.s, .o]⟩
def frame_Lists_frame_Read_1.l1 (K : Nat) (r17 : api_Graph) (x1 : Int) : Nat → Int → Int → ByteArray → Int → Int → (List (List Int)) → Option (api_Graph × Int × Bool × api_Bits)
  | 0, _, _, _, _, _, _ => none
  | k + 1, at_14, t_11, h_12, h_13, t_10, g_15 =>
    if decide (t_11 < x1) then
      (frame_Read_1 K at_14 t_11 ((h_12, h_13) : api_Bits)).bind fun r26 =>
      if (!r26.2.2.1) then
        some (((0, ([] : List (List Int))) : api_Graph), 0, false, r26.2.2.2)
      else
        if (0 : Int) ≤ t_11 ∧ t_11 < ((g_15.length : Nat) : Int) then
        frame_Lists_frame_Read_1.l1 K r17 x1 k r26.2.1 (wr .i64 (t_11 + 1)) r26.2.2.2.Data r26.2.2.2.N t_10 ((g_15).set t_11.toNat r26.1)
        else none
    else
      (graph_May K ((r17.N, g_15) : api_Graph)).bind fun r43 =>
      some (((r17.N, g_15) : api_Graph), at_14, r43, ((h_12, h_13) : api_Bits))
def frame_Lists_frame_Read_1 (K : Nat) (x0 : Int) (x1 : Int) (x2 : Int) (x4 : api_Bits) : Option (api_Graph × Int × Bool × api_Bits) :=
  (graph_Empty K x0).bind fun r17 =>
  frame_Lists_frame_Read_1.l1 K r17 x1 K x2 (0 : Int) x4.Data x4.N (0 : Int) r17.Out
abbrev frame_Read.sg : Sig := ⟨[(.agg, Ty_api_Bits)], [], [(.agg, Ty_api_Graph), (.one, .bool)], [.s, .o]⟩
def frame_Read (K : Nat) (x0 : api_Bits) : Option (api_Graph × Bool) :=
  (frame_Head K x0).bind fun r11 =>
  if (!r11.2.2) then
    some (((0, ([] : List (List Int))) : api_Graph), false)
  else
    (frame_Lists_frame_Read_1 K r11.1 r11.1 r11.2.1 x0).bind fun r23 =>
    if r23.2.2.1 then
      some (r23.1, (r23.2.1 == r23.2.2.2.N))
    else
      some (r23.1, false)
abbrev frame_Take.sg : Sig := ⟨[(.agg, Ty_api_Bits)], [], [(.agg, Ty_api_Graph), (.one, (.int .i64))], [.s, .o]⟩
def frame_Take (K : Nat) (x0 : api_Bits) : Option (api_Graph × Int) :=
  (bits_May K x0).bind fun r7 =>
  if (!r7) then
    some (((0, ([] : List (List Int))) : api_Graph), 1)
  else
    (frame_Read K x0).bind fun r12 =>
    if (!r12.2) then
      some (((0, ([] : List (List Int))) : api_Graph), 9)
    else
      some (r12.1, 0)
abbrev herbariumref1_bit.sg : Sig := ⟨[(.agg, Ty_api_Bits), (.one, (.int .i64))], [], [(.one, (.int .i64))], []⟩
def herbariumref1_bit (K : Nat) (x0 : api_Bits) (x1 : Int) : Option Int :=
  if (8 : Int) ≠ 0 then
  if (0 : Int) ≤ (wr .i64 (x1.tdiv 8)) ∧ (wr .i64 (x1.tdiv 8)) < ((x0.Data.size : Nat) : Int) then
  if (8 : Int) ≠ 0 then
  if (0 : Int) ≤ (wr .i64 (7 - (x1.tmod 8))) then
  some (ib .and .i64 ((wr .i64 (bt x0.Data (wr .i64 (x1.tdiv 8)))).fdiv (2 ^ min ((wr .i64 (7 - (x1.tmod 8)))).toNat 64)) 1)
  else none
  else none
  else none
  else none
abbrev herbariumref1_Of.sg : Sig := ⟨[(.agg, Ty_api_Bits)], [], [(.one, (.sl (.int .u8)))], [.o]⟩
def herbariumref1_Of.l1 (K : Nat) (x0 : api_Bits) : Nat → Int → (List Int) → Option (List Int)
  | 0, _, _ => none
  | k + 1, i_10, l_11 =>
    if decide (i_10 < x0.N) then
      (herbariumref1_bit K x0 i_10).bind fun r14 =>
      if (l_11.length + ([wr .u8 r14] : List Int).length) * 1 ≤ 140737488355328 then
      herbariumref1_Of.l1 K x0 k (wr .i64 (i_10 + 1)) (l_11 ++ ([wr .u8 r14] : List Int))
      else none
    else
      some l_11
def herbariumref1_Of (K : Nat) (x0 : api_Bits) : Option (List Int) :=
  herbariumref1_Of.l1 K x0 K (0 : Int) ([] : List Int)
abbrev _herbariumref1_List__Zeros.sg : Sig := ⟨[(.one, (.sl (.int .u8))), (.one, (.int .i64))], [], [(.one, (.int .i64))], []⟩
def _herbariumref1_List__Zeros.l1 (K : Nat) (x0 : List Int) (x1 : Int) : Nat → Int → Option Int
  | 0, _ => none
  | k + 1, i_10 =>
    if decide (i_10 < ((x0.length : Nat) : Int)) then
      if (0 : Int) ≤ i_10 ∧ i_10 < ((x0.length : Nat) : Int) then
      if ((nth x0 i_10) == 1) then
        some (wr .i64 (i_10 - x1))
      else
        _herbariumref1_List__Zeros.l1 K x0 x1 k (wr .i64 (i_10 + 1))
      else none
    else
      some ((-1) : Int)
def _herbariumref1_List__Zeros (K : Nat) (x0 : List Int) (x1 : Int) : Option Int :=
  _herbariumref1_List__Zeros.l1 K x0 x1 K x1
abbrev _herbariumref1_List__Get.sg : Sig := ⟨[(.one, (.sl (.int .u8))), (.one, (.int .i64)), (.one, (.int .i64))], [], [(.one, (.int .i64))], []⟩
def _herbariumref1_List__Get.l1 (K : Nat) (x0 : List Int) (x1 : Int) (x2 : Int) : Nat → Int → Int → Option Int
  | 0, _, _ => none
  | k + 1, v_10, i_11 =>
    if decide (i_11 < (wr .i64 (x1 + x2))) then
      if (0 : Int) ≤ i_11 ∧ i_11 < ((x0.length : Nat) : Int) then
      _herbariumref1_List__Get.l1 K x0 x1 x2 k (wr .i64 ((wr .i64 (2 * v_10)) + (wr .i64 (nth x0 i_11)))) (wr .i64 (i_11 + 1))
      else none
    else
      some v_10
def _herbariumref1_List__Get (K : Nat) (x0 : List Int) (x1 : Int) (x2 : Int) : Option Int :=
  _herbariumref1_List__Get.l1 K x0 x1 x2 K (0 : Int) x1
abbrev herbariumref0_Between.sg : Sig := ⟨[(.one, (.int .i64)), (.one, (.int .i64)), (.one, (.int .i64))], [], [(.one, .bool)], []⟩
def herbariumref0_Between (K : Nat) (x0 : Int) (x1 : Int) (x2 : Int) : Option Bool :=
  if decide (x0 ≥ x1) then
    some (decide (x0 ≤ x2))
  else
    some false
abbrev herbariumref1_Code.sg : Sig := ⟨[(.one, (.int .i64)), (.one, (.int .i64))], [], [(.one, .bool)], []⟩
def herbariumref1_Code (K : Nat) (x0 : Int) (x1 : Int) : Option Bool :=
  if (x0 == 1) then
    (herbariumref0_Between K x1 1 1000).bind fun r8 =>
    some r8
  else
    (herbariumref0_Between K x0 2 5).bind fun r10 =>
    if r10 then
      (herbariumref0_Between K x1 1 1073741824).bind fun r13 =>
      some r13
    else
      some false
abbrev _herbariumref1_List__Read.sg : Sig := ⟨[(.one, (.sl (.int .u8))), (.one, (.int .i64)), (.one, (.int .i64))], [], [(.one, (.int .i64)), (.one, (.int .i64))], []⟩
def _herbariumref1_List__Read.j1 (K : Nat) (rec_ : (List Int) → Int → Int → Option (Int × Int)) (x2 : Int) (t_14 : Int) (t_15 : Int) : Option (Int × Int) :=
  (herbariumref1_Code K x2 t_14).bind fun r161 =>
  if (!r161) then
    some ((-1), 0)
  else
    some (t_14, t_15)
def _herbariumref1_List__Read.j3 (K : Nat) (rec_ : (List Int) → Int → Int → Option (Int × Int)) (r19 : Int) (t_11 : Int) (x2 : Int) (t_12 : Int) (t_13 : Int) : Option (Int × Int) :=
  if (0 : Int) ≤ (wr .i64 (r19 * t_11)) then
  _herbariumref1_List__Read.j1 K rec_ x2 (wr .i64 ((wr .i64 ((1 : Int) * 2 ^ min ((wr .i64 (r19 * t_11))).toNat 64)) + t_13)) t_12
  else none
def _herbariumref1_List__Read.j2 (K : Nat) (rec_ : (List Int) → Int → Int → Option (Int × Int)) (r19 : Int) (x0 : List Int) (x2 : Int) (t_10 : Int) (t_11 : Int) : Option (Int × Int) :=
  if decide (r19 > 15) then
    some ((-1), 0)
  else
    if (0 : Int) ≤ (wr .i64 ((wr .i64 (r19 + 1)) * t_11)) then
    if (0 : Int) ≤ (wr .i64 (r19 * t_11)) then
    (herbariumref1_log K (wr .i64 ((wr .i64 ((wr .i64 ((1 : Int) * 2 ^ min ((wr .i64 ((wr .i64 (r19 + 1)) * t_11))).toNat 64)) - (wr .i64 ((1 : Int) * 2 ^ min ((wr .i64 (r19 * t_11))).toNat 64)))) - 1))).bind fun r43 =>
    if decide ((wr .i64 ((wr .i64 (t_10 + (wr .i64 (r43 + 1)))) - 1)) > ((x0.length : Nat) : Int)) then
      some ((-1), 0)
    else
      (_herbariumref1_List__Get K x0 t_10 (wr .i64 ((wr .i64 (r43 + 1)) - 1))).bind fun r56 =>
      if (0 : Int) ≤ (wr .i64 (r43 + 1)) then
      if decide (r56 ≥ (wr .i64 ((wr .i64 ((1 : Int) * 2 ^ min ((wr .i64 (r43 + 1))).toNat 64)) - (wr .i64 ((wr .i64 ((1 : Int) * 2 ^ min ((wr .i64 ((wr .i64 (r19 + 1)) * t_11))).toNat 64)) - (wr .i64 ((1 : Int) * 2 ^ min ((wr .i64 (r19 * t_11))).toNat 64))))))) then
        if decide ((wr .i64 ((wr .i64 ((wr .i64 (t_10 + (wr .i64 (r43 + 1)))) - 1)) + 1)) > ((x0.length : Nat) : Int)) then
          some ((-1), 0)
        else
          if (0 : Int) ≤ (wr .i64 ((wr .i64 (t_10 + (wr .i64 (r43 + 1)))) - 1)) ∧ (wr .i64 ((wr .i64 (t_10 + (wr .i64 (r43 + 1)))) - 1)) < ((x0.length : Nat) : Int) then
          if (0 : Int) ≤ (wr .i64 (r43 + 1)) then
          _herbariumref1_List__Read.j3 K rec_ r19 t_11 x2 (wr .i64 ((wr .i64 ((wr .i64 (t_10 + (wr .i64 (r43 + 1)))) - 1)) + 1)) (wr .i64 ((wr .i64 ((wr .i64 (2 * r56)) + (wr .i64 (nth x0 (wr .i64 ((wr .i64 (t_10 + (wr .i64 (r43 + 1)))) - 1)))))) - (wr .i64 ((wr .i64 ((1 : Int) * 2 ^ min ((wr .i64 (r43 + 1))).toNat 64)) - (wr .i64 ((wr .i64 ((1 : Int) * 2 ^ min ((wr .i64 ((wr .i64 (r19 + 1)) * t_11))).toNat 64)) - (wr .i64 ((1 : Int) * 2 ^ min ((wr .i64 (r19 * t_11))).toNat 64))))))))
          else none
          else none
      else
        _herbariumref1_List__Read.j3 K rec_ r19 t_11 x2 (wr .i64 ((wr .i64 (t_10 + (wr .i64 (r43 + 1)))) - 1)) r56
      else none
    else none
    else none
def _herbariumref1_List__Read : Nat → (List Int) → Int → Int → Option (Int × Int)
  | 0, _, _, _ => none
  | K + 1, x0, x1, x2 =>
    (_herbariumref1_List__Zeros K x0 x1).bind fun r19 =>
    if decide (r19 < 0) then
      some ((-1), 0)
    else
      if (x2 == 1) then
        _herbariumref1_List__Read.j1 K (_herbariumref1_List__Read K) x2 (wr .i64 (r19 + 1)) (wr .i64 ((wr .i64 (x1 + r19)) + 1))
      else
        if (x2 == 2) then
          if decide (r19 > 30) then
            some ((-1), 0)
          else
            if decide ((wr .i64 ((wr .i64 (x1 + (wr .i64 (2 * r19)))) + 1)) > ((x0.length : Nat) : Int)) then
              some ((-1), 0)
            else
              (_herbariumref1_List__Get K x0 (wr .i64 (x1 + r19)) (wr .i64 (r19 + 1))).bind fun r117 =>
              _herbariumref1_List__Read.j1 K (_herbariumref1_List__Read K) x2 r117 (wr .i64 ((wr .i64 (x1 + (wr .i64 (2 * r19)))) + 1))
        else
          if (x2 == 3) then
            ((_herbariumref1_List__Read K) x0 x1 2).bind fun r128 =>
            if decide (r128.1 < 1) then
              some ((-1), 0)
            else
              if decide (r128.1 > 31) then
                some ((-1), 0)
              else
                if decide ((wr .i64 ((wr .i64 (r128.2 + r128.1)) - 1)) > ((x0.length : Nat) : Int)) then
                  some ((-1), 0)
                else
                  if (0 : Int) ≤ (wr .i64 (r128.1 - 1)) then
                  (_herbariumref1_List__Get K x0 r128.2 (wr .i64 (r128.1 - 1))).bind fun r153 =>
                  _herbariumref1_List__Read.j1 K (_herbariumref1_List__Read K) x2 (wr .i64 ((wr .i64 ((1 : Int) * 2 ^ min ((wr .i64 (r128.1 - 1))).toNat 64)) + r153)) (wr .i64 ((wr .i64 (r128.2 + r128.1)) - 1))
                  else none
          else
            if (x2 == 5) then
              _herbariumref1_List__Read.j2 K (_herbariumref1_List__Read K) r19 x0 x2 (wr .i64 ((wr .i64 (x1 + r19)) + 1)) (3 : Int)
            else
              _herbariumref1_List__Read.j2 K (_herbariumref1_List__Read K) r19 x0 x2 (wr .i64 ((wr .i64 (x1 + r19)) + 1)) (2 : Int)
abbrev herbariumref6_New.sg : Sig := ⟨[(.one, (.int .i64))], [], [(.agg, Ty_api_Graph)], [.s, .o]⟩
def herbariumref6_New (K : Nat) (x0 : Int) : Option api_Graph :=
  if x0 = x0 ∧ (0 : Int) ≤ x0 ∧ (24 : Int) * x0 ≤ 281474976710656 ∧ x0 ≤ 9223372036854775807 then
  some ((x0, List.replicate x0.toNat ([] : List Int)) : api_Graph)
  else none
abbrev herbariumref1_Zag.sg : Sig := ⟨[(.one, (.int .i64))], [], [(.one, (.int .i64))], []⟩
def herbariumref1_Zag (K : Nat) (x0 : Int) : Option Int :=
  if (2 : Int) ≠ 0 then
  if ((x0.tmod 2) == 0) then
    if (2 : Int) ≠ 0 then
    some (wr .i64 (x0.tdiv 2))
    else none
  else
    if (2 : Int) ≠ 0 then
    some (wr .i64 ((wr .i64 (0 - (wr .i64 (x0 + 1)))).tdiv 2))
    else none
  else none
abbrev herbariumref3_TakeGaps.sg : Sig := ⟨[(.one, (.sl (.int .u8))), (.one, (.int .i64)), (.one, (.int .i64))], [], [(.one, (.sl (.int .i64))), (.one, (.int .i64)), (.one, .bool)], [.o]⟩
def herbariumref3_TakeGaps.l1 (K : Nat) (r18 : Int × Int) (x0 : List Int) (x2 : Int) : Nat → Int → Int → Int → (List Int) → Option ((List Int) × Int × Bool)
  | 0, _, _, _, _ => none
  | k + 1, at_12, last_10, i_11, l_13 =>
    if decide (i_11 < (wr .i64 (r18.1 - 1))) then
      (_herbariumref1_List__Read K x0 at_12 2).bind fun r37 =>
      if decide (r37.1 < 1) then
        some (([] : List Int), 0, false)
      else
        if (i_11 == 0) then
          (herbariumref1_Zag K (wr .i64 (r37.1 - 1))).bind fun r48 =>
          if (l_13.length + ([wr .i64 (x2 + r48)] : List Int).length) * 8 ≤ 140737488355328 then
          herbariumref3_TakeGaps.l1 K r18 x0 x2 k r37.2 (wr .i64 (x2 + r48)) (wr .i64 (i_11 + 1)) (l_13 ++ ([wr .i64 (x2 + r48)] : List Int))
          else none
        else
          if (l_13.length + ([wr .i64 (last_10 + r37.1)] : List Int).length) * 8 ≤ 140737488355328 then
          herbariumref3_TakeGaps.l1 K r18 x0 x2 k r37.2 (wr .i64 (last_10 + r37.1)) (wr .i64 (i_11 + 1)) (l_13 ++ ([wr .i64 (last_10 + r37.1)] : List Int))
          else none
    else
      (herbariumref3_May K l_13).bind fun r58 =>
      if (!r58) then
        some (([] : List Int), 0, false)
      else
        some (l_13, at_12, true)
def herbariumref3_TakeGaps (K : Nat) (x0 : List Int) (x1 : Int) (x2 : Int) : Option ((List Int) × Int × Bool) :=
  (_herbariumref1_List__Read K x0 x1 2).bind fun r18 =>
  if decide (r18.1 < 1) then
    some (([] : List Int), 0, false)
  else
    if decide ((wr .i64 (r18.1 - 1)) > 16) then
      some (([] : List Int), 0, false)
    else
      herbariumref3_TakeGaps.l1 K r18 x0 x2 K r18.2 (0 : Int) (0 : Int) ([] : List Int)
abbrev herbariumref3_Join.sg : Sig := ⟨[(.one, (.sl Ty_api_Run)), (.one, (.sl (.int .i64)))], [], [(.one, (.sl (.int .i64))), (.one, .bool)], [.o]⟩
def herbariumref3_Join.l4 (K : Nat) : Nat → Int → (List Bool) → (List Int) → Option ((List Int) × Bool)
  | 0, _, _, _ => none
  | k + 1, t_16, t_20, t_19 =>
    if decide (t_16 < 16) then
      if ((0 : Int) ≤ t_16 ∧ t_16 < ((t_20.length : Nat) : Int)) ∧ t_20.length = 16 then
      if nth t_20 t_16 then
        if (t_19.length + ([t_16] : List Int).length) * 8 ≤ 140737488355328 then
        herbariumref3_Join.l4 K k (wr .i64 (t_16 + 1)) t_20 (t_19 ++ ([t_16] : List Int))
        else none
      else
        herbariumref3_Join.l4 K k (wr .i64 (t_16 + 1)) t_20 t_19
      else none
    else
      some (t_19, true)
def herbariumref3_Join.l3 (K : Nat) (x1 : List Int) : Nat → Int → (List Bool) → Option ((List Int) × Bool)
  | 0, _, _ => none
  | k + 1, t_15, t_18 =>
    if decide (t_15 < ((x1.length : Nat) : Int)) then
      if (0 : Int) ≤ t_15 ∧ t_15 < ((x1.length : Nat) : Int) then
      if ((0 : Int) ≤ (nth x1 t_15) ∧ (nth x1 t_15) < ((t_18.length : Nat) : Int)) ∧ t_18.length = 16 then
      if nth t_18 (nth x1 t_15) then
        some (([] : List Int), false)
      else
        if (0 : Int) ≤ t_15 ∧ t_15 < ((x1.length : Nat) : Int) then
        if ((0 : Int) ≤ (nth x1 t_15) ∧ (nth x1 t_15) < ((t_18.length : Nat) : Int)) ∧ t_18.length = 16 then
        herbariumref3_Join.l3 K x1 k (wr .i64 (t_15 + 1)) ((t_18).set (nth x1 t_15).toNat true)
        else none
        else none
      else none
      else none
    else
      herbariumref3_Join.l4 K K (0 : Int) t_18 ([] : List Int)
def herbariumref3_Join.l2 (K : Nat) (go_l1 : Int → (List Bool) → Option ((List Int) × Bool)) (t_11 : Int) (x0 : List api_Run) (x1 : List Int) : Nat → Int → (List Bool) → Int → Int → Option ((List Int) × Bool)
  | 0, _, _, _, _ => none
  | k + 1, t_14, t_17, t_12, t_13 =>
    if decide (t_14 < t_13) then
      if ((0 : Int) ≤ (wr .i64 (t_12 + t_14)) ∧ (wr .i64 (t_12 + t_14)) < ((t_17.length : Nat) : Int)) ∧ t_17.length = 16 then
      herbariumref3_Join.l2 K go_l1 t_11 x0 x1 k (wr .i64 (t_14 + 1)) ((t_17).set (wr .i64 (t_12 + t_14)).toNat true) t_12 t_13
      else none
    else
      go_l1 (wr .i64 (t_11 + 1)) t_17
def herbariumref3_Join.l1 (K : Nat) (x0 : List api_Run) (x1 : List Int) : Nat → Int → (List Bool) → Option ((List Int) × Bool)
  | 0, _, _ => none
  | k + 1, t_11, t_10 =>
    if decide (t_11 < ((x0.length : Nat) : Int)) then
      if (0 : Int) ≤ t_11 ∧ t_11 < ((x0.length : Nat) : Int) then
      (herbariumref3_Origin K ((nth x0 t_11).At)).bind fun r28 =>
      if (!r28) then
        some (([] : List Int), false)
      else
        if decide (((nth x0 t_11).Len) < 3) then
          some (([] : List Int), false)
        else
          if decide (((nth x0 t_11).Len) > (wr .i64 (16 - ((nth x0 t_11).At)))) then
            some (([] : List Int), false)
          else
            if decide (t_11 > 0) then
              if (0 : Int) ≤ (wr .i64 (t_11 - 1)) ∧ (wr .i64 (t_11 - 1)) < ((x0.length : Nat) : Int) then
              if (0 : Int) ≤ (wr .i64 (t_11 - 1)) ∧ (wr .i64 (t_11 - 1)) < ((x0.length : Nat) : Int) then
              if decide (((nth x0 t_11).At) ≤ (wr .i64 (((nth x0 (wr .i64 (t_11 - 1))).At) + ((nth x0 (wr .i64 (t_11 - 1))).Len)))) then
                some (([] : List Int), false)
              else
                herbariumref3_Join.l2 K (herbariumref3_Join.l1 K x0 x1 k) t_11 x0 x1 K (0 : Int) t_10 ((nth x0 t_11).At) ((nth x0 t_11).Len)
              else none
              else none
            else
              herbariumref3_Join.l2 K (herbariumref3_Join.l1 K x0 x1 k) t_11 x0 x1 K (0 : Int) t_10 ((nth x0 t_11).At) ((nth x0 t_11).Len)
      else none
    else
      herbariumref3_Join.l3 K x1 K (0 : Int) t_10
def herbariumref3_Join (K : Nat) (x0 : List api_Run) (x1 : List Int) : Option ((List Int) × Bool) :=
  (herbariumref3_May K x1).bind fun r14 =>
  if (!r14) then
    some (([] : List Int), false)
  else
    herbariumref3_Join.l1 K x0 x1 K (0 : Int) (List.replicate 16 false)
abbrev herbariumref3_same.sg : Sig := ⟨[(.one, (.sl (.int .u8))), (.one, (.int .i64)), (.one, (.sl (.int .u8)))], [], [(.one, .bool)], []⟩
def herbariumref3_same.l1 (K : Nat) (x0 : List Int) (x1 : Int) (x2 : List Int) : Nat → Int → Option Bool
  | 0, _ => none
  | k + 1, i_10 =>
    if decide (i_10 < ((x2.length : Nat) : Int)) then
      if decide ((wr .i64 (x1 + i_10)) ≥ ((x0.length : Nat) : Int)) then
        some false
      else
        if (0 : Int) ≤ (wr .i64 (x1 + i_10)) ∧ (wr .i64 (x1 + i_10)) < ((x0.length : Nat) : Int) then
        if (0 : Int) ≤ i_10 ∧ i_10 < ((x2.length : Nat) : Int) then
        if ((nth x0 (wr .i64 (x1 + i_10))) != (nth x2 i_10)) then
          some false
        else
          herbariumref3_same.l1 K x0 x1 x2 k (wr .i64 (i_10 + 1))
        else none
        else none
    else
      some true
def herbariumref3_same (K : Nat) (x0 : List Int) (x1 : Int) (x2 : List Int) : Option Bool :=
  herbariumref3_same.l1 K x0 x1 x2 K (0 : Int)
abbrev herbariumref3_Runs_nil0.sg : Sig := ⟨[(.one, (.sl (.int .u8))), (.one, (.int .i64)), (.one, (.sl (.int .i64)))], [.n], [(.one, (.sl (.int .u8)))], [.o]⟩
def herbariumref3_Runs_nil0.j2 (K : Nat) (go_l1 : Int → (List Int) → Option (List Int)) (r12 : (List api_Run) × (List Int)) (t_10 : Int) (x1 : Int) (t_11 : List Int) : Option (List Int) :=
  if (0 : Int) ≤ t_10 ∧ t_10 < ((r12.1.length : Nat) : Int) then
  (_herbariumref1_List__Write K t_11 2 (wr .i64 ((wr .i64 (((nth r12.1 t_10).Len) - 3)) + 1))).bind fun r67 =>
  go_l1 (wr .i64 (t_10 + 1)) r67
  else none
def herbariumref3_Runs_nil0.l1 (K : Nat) (r12 : (List api_Run) × (List Int)) (x1 : Int) : Nat → Int → (List Int) → Option (List Int)
  | 0, _, _ => none
  | k + 1, t_10, t_12 =>
    if decide (t_10 < ((r12.1.length : Nat) : Int)) then
      if (t_10 == 0) then
        if (0 : Int) ≤ (0 : Int) ∧ (0 : Int) < ((r12.1.length : Nat) : Int) then
        (herbariumref1_Zig K (wr .i64 (((nth r12.1 0).At) - x1))).bind fun r35 =>
        (_herbariumref1_List__Write K t_12 2 (wr .i64 (r35 + 1))).bind fun r37 =>
        herbariumref3_Runs_nil0.j2 K (herbariumref3_Runs_nil0.l1 K r12 x1 k) r12 t_10 x1 r37
        else none
      else
        if (0 : Int) ≤ t_10 ∧ t_10 < ((r12.1.length : Nat) : Int) then
        if (0 : Int) ≤ (wr .i64 (t_10 - 1)) ∧ (wr .i64 (t_10 - 1)) < ((r12.1.length : Nat) : Int) then
        if (0 : Int) ≤ (wr .i64 (t_10 - 1)) ∧ (wr .i64 (t_10 - 1)) < ((r12.1.length : Nat) : Int) then
        (_herbariumref1_List__Write K t_12 2 (wr .i64 ((wr .i64 (((nth r12.1 t_10).At) - ((nth r12.1 (wr .i64 (t_10 - 1))).At))) - ((nth r12.1 (wr .i64 (t_10 - 1))).Len)))).bind fun r58 =>
        herbariumref3_Runs_nil0.j2 K (herbariumref3_Runs_nil0.l1 K r12 x1 k) r12 t_10 x1 r58
        else none
        else none
        else none
    else
      (herbariumref3_Gaps K t_12 x1 r12.2).bind fun r71 =>
      some r71
def herbariumref3_Runs_nil0 (K : Nat) (x0 : List Int) (x1 : Int) (x2 : List Int) : Option (List Int) :=
  (herbariumref3_Split K x2).bind fun r12 =>
  (_herbariumref1_List__Write K ([] : List Int) 2 (wr .i64 (((r12.1.length : Nat) : Int) + 1))).bind fun r19 =>
  herbariumref3_Runs_nil0.l1 K r12 x1 K (0 : Int) r19
abbrev herbariumref3_TakeRuns.sg : Sig := ⟨[(.one, (.sl (.int .u8))), (.one, (.int .i64)), (.one, (.int .i64))], [], [(.one, (.sl (.int .i64))), (.one, (.int .i64)), (.one, .bool)], [.o]⟩
def herbariumref3_TakeRuns.j2 (K : Nat) (go_l1 : Int → Int → Int → (List api_Run) → Option ((List Int) × Int × Bool)) (r28 : Int × Int) (r55 : Int × Int) (t_11 : Int) (t_15 : List api_Run) (x0 : List Int) (x1 : Int) (x2 : Int) (t_12 : Int) (t_13 : Int) : Option ((List Int) × Int × Bool) :=
  if (t_15.length + ([((t_12, t_13) : api_Run)] : List api_Run).length) * 16 ≤ 140737488355328 then
  go_l1 r55.2 (wr .i64 (t_12 + t_13)) (wr .i64 (t_11 + 1)) (t_15 ++ ([((t_12, t_13) : api_Run)] : List api_Run))
  else none
def herbariumref3_TakeRuns.l1 (K : Nat) (r28 : Int × Int) (x0 : List Int) (x1 : Int) (x2 : Int) : Nat → Int → Int → Int → (List api_Run) → Option ((List Int) × Int × Bool)
  | 0, _, _, _, _ => none
  | k + 1, t_14, t_10, t_11, t_15 =>
    if decide (t_11 < (wr .i64 (r28.1 - 1))) then
      (_herbariumref1_List__Read K x0 t_14 2).bind fun r47 =>
      if decide (r47.1 < 1) then
        some (([] : List Int), 0, false)
      else
        (_herbariumref1_List__Read K x0 r47.2 2).bind fun r55 =>
        if decide (r55.1 < 1) then
          some (([] : List Int), 0, false)
        else
          if decide (r55.1 > 16) then
            some (([] : List Int), 0, false)
          else
            if (t_11 == 0) then
              (herbariumref1_Zag K (wr .i64 (r47.1 - 1))).bind fun r77 =>
              herbariumref3_TakeRuns.j2 K (herbariumref3_TakeRuns.l1 K r28 x0 x1 x2 k) r28 r55 t_11 t_15 x0 x1 x2 (wr .i64 (x2 + r77)) (wr .i64 ((wr .i64 (r55.1 - 1)) + 3))
            else
              herbariumref3_TakeRuns.j2 K (herbariumref3_TakeRuns.l1 K r28 x0 x1 x2 k) r28 r55 t_11 t_15 x0 x1 x2 (wr .i64 (t_10 + r47.1)) (wr .i64 ((wr .i64 (r55.1 - 1)) + 3))
    else
      (herbariumref3_TakeGaps K x0 t_14 x2).bind fun r93 =>
      if (!r93.2.2) then
        some (([] : List Int), 0, false)
      else
        (herbariumref3_Join K t_15 r93.1).bind fun r102 =>
        if (!r102.2) then
          some (([] : List Int), 0, false)
        else
          if decide (((r102.1.length : Nat) : Int) > 16) then
            some (([] : List Int), 0, false)
          else
            (herbariumref3_Runs_nil0 K ([] : List Int) x2 r102.1).bind fun r114 =>
            if (((r114.length : Nat) : Int) != (wr .i64 (r93.2.1 - x1))) then
              some (([] : List Int), 0, false)
            else
              (herbariumref3_same K x0 x1 r114).bind fun r125 =>
              if (!r125) then
                some (([] : List Int), 0, false)
              else
                some (r102.1, r93.2.1, true)
def herbariumref3_TakeRuns (K : Nat) (x0 : List Int) (x1 : Int) (x2 : Int) : Option ((List Int) × Int × Bool) :=
  (_herbariumref1_List__Read K x0 x1 2).bind fun r28 =>
  if decide (r28.1 < 1) then
    some (([] : List Int), 0, false)
  else
    if decide ((wr .i64 (r28.1 - 1)) > 16) then
      some (([] : List Int), 0, false)
    else
      herbariumref3_TakeRuns.l1 K r28 x0 x1 x2 K r28.2 (0 : Int) (0 : Int) ([] : List api_Run)
abbrev herbariumref6_TakeFrame.sg : Sig := ⟨[(.one, (.sl (.int .u8)))], [], [(.agg, Ty_api_Graph), (.one, .bool)], [.s, .o]⟩
def herbariumref6_TakeFrame.l1 (K : Nat) (r26 : api_Graph) (x0 : List Int) : Nat → Int → Int → Int → (List (List Int)) → Option (api_Graph × Bool)
  | 0, _, _, _, _ => none
  | k + 1, at_12, v_11, t_10, g_13 =>
    if decide (v_11 < r26.N) then
      (herbariumref3_TakeRuns K x0 at_12 v_11).bind fun r37 =>
      if (!r37.2.2) then
        some (((0, ([] : List (List Int))) : api_Graph), false)
      else
        if (0 : Int) ≤ v_11 ∧ v_11 < ((g_13.length : Nat) : Int) then
        herbariumref6_TakeFrame.l1 K r26 x0 k r37.2.1 (wr .i64 (v_11 + 1)) t_10 ((g_13).set v_11.toNat r37.1)
        else none
    else
      if (at_12 != ((x0.length : Nat) : Int)) then
        some (((0, ([] : List (List Int))) : api_Graph), false)
      else
        (herbariumref6_Graph K ((r26.N, g_13) : api_Graph)).bind fun r56 =>
        if (!r56) then
          some (((0, ([] : List (List Int))) : api_Graph), false)
        else
          some (((r26.N, g_13) : api_Graph), true)
def herbariumref6_TakeFrame (K : Nat) (x0 : List Int) : Option (api_Graph × Bool) :=
  (_herbariumref1_List__Read K x0 0 2).bind fun r13 =>
  if decide (r13.1 < 1) then
    some (((0, ([] : List (List Int))) : api_Graph), false)
  else
    if decide ((wr .i64 (r13.1 - 1)) > 16) then
      some (((0, ([] : List (List Int))) : api_Graph), false)
    else
      (herbariumref6_New K (wr .i64 (r13.1 - 1))).bind fun r26 =>
      herbariumref6_TakeFrame.l1 K r26 x0 K r13.2 (0 : Int) (0 : Int) r26.Out
abbrev herbariumlaw0_Numbers.sg : Sig := ⟨[(.one, (.sl (.int .i64)))], [.o], [], []⟩
def herbariumlaw0_Numbers.l1 (K : Nat) : Nat → Int → (List Int) → Option Unit
  | 0, _, _ => none
  | k + 1, i_10, l_11 =>
    if decide (i_10 < ((l_11.length : Nat) : Int)) then
      if (0 : Int) ≤ i_10 ∧ i_10 < ((l_11.length : Nat) : Int) then
      herbariumlaw0_Numbers.l1 K k (wr .i64 (i_10 + 1)) ((l_11).set i_10.toNat (-99))
      else none
    else
      some ()
def herbariumlaw0_Numbers (K : Nat) (x0 : List Int) : Option Unit :=
  herbariumlaw0_Numbers.l1 K K (0 : Int) x0
abbrev herbariumlaw0_Graph.sg : Sig := ⟨[(.agg, Ty_api_Graph)], [.s, .o], [], []⟩
def herbariumlaw0_Graph.l1 (K : Nat) : Nat → Int → (List (List Int)) → Option Unit
  | 0, _, _ => none
  | k + 1, i_10, g_11 =>
    if decide (i_10 < ((g_11.length : Nat) : Int)) then
      if (0 : Int) ≤ i_10 ∧ i_10 < ((g_11.length : Nat) : Int) then
      (herbariumlaw0_Numbers K (nth g_11 i_10)).bind fun r15 =>
      if (0 : Int) ≤ i_10 ∧ i_10 < ((g_11.length : Nat) : Int) then
      if i_10 = i_10 then
      herbariumlaw0_Graph.l1 K k (wr .i64 (i_10 + 1)) ((g_11).set i_10.toNat [])
      else none
      else none
      else none
    else
      some ()
def herbariumlaw0_Graph (K : Nat) (x0 : api_Graph) : Option Unit :=
  herbariumlaw0_Graph.l1 K K (0 : Int) x0.Out
abbrev frame_One_1.sg : Sig := ⟨[(.one, (.int .i64)), (.one, (.int .i64)), (.box, Ty_api_Bits)], [], [(.one, (.sl (.int .i64))), (.one, (.int .i64)), (.one, .bool)], [.o]⟩
def frame_One_1 (K : Nat) (x0 : Int) (x1 : Int) (x2 : api_Bits) : Option ((List Int) × Int × Bool × api_Bits) :=
  (runs_Read K x2 x0 x1).bind fun r11 =>
  some (r11.1, r11.2.1, r11.2.2, x2)
abbrev frame_Lists_frame_One_1.sg : Sig := ⟨[(.one, (.int .i64)), (.one, (.int .i64)), (.one, (.int .i64)), (.fn 97 1, .un), (.hid, Ty_api_Bits)], [], [(.agg, Ty_api_Graph), (.one, (.int .i64)), (.one, .bool)], [.s, .o]⟩
def frame_Lists_frame_One_1.l1 (K : Nat) (r17 : api_Graph) (x1 : Int) : Nat → Int → Int → ByteArray → Int → Int → (List (List Int)) → Option (api_Graph × Int × Bool × api_Bits)
  | 0, _, _, _, _, _, _ => none
  | k + 1, at_14, t_11, h_12, h_13, t_10, g_15 =>
    if decide (t_11 < x1) then
      (frame_One_1 K at_14 t_11 ((h_12, h_13) : api_Bits)).bind fun r26 =>
      if (!r26.2.2.1) then
        some (((0, ([] : List (List Int))) : api_Graph), 0, false, r26.2.2.2)
      else
        if (0 : Int) ≤ t_11 ∧ t_11 < ((g_15.length : Nat) : Int) then
        frame_Lists_frame_One_1.l1 K r17 x1 k r26.2.1 (wr .i64 (t_11 + 1)) r26.2.2.2.Data r26.2.2.2.N t_10 ((g_15).set t_11.toNat r26.1)
        else none
    else
      (graph_May K ((r17.N, g_15) : api_Graph)).bind fun r43 =>
      some (((r17.N, g_15) : api_Graph), at_14, r43, ((h_12, h_13) : api_Bits))
def frame_Lists_frame_One_1 (K : Nat) (x0 : Int) (x1 : Int) (x2 : Int) (x4 : api_Bits) : Option (api_Graph × Int × Bool × api_Bits) :=
  (graph_Empty K x0).bind fun r17 =>
  frame_Lists_frame_One_1.l1 K r17 x1 K x2 (0 : Int) x4.Data x4.N (0 : Int) r17.Out
abbrev frame_One.sg : Sig := ⟨[(.agg, Ty_api_Bits), (.one, (.int .i64))], [], [(.one, (.sl (.int .i64))), (.one, (.int .i64))], [.o]⟩
def frame_One (K : Nat) (x0 : api_Bits) (x1 : Int) : Option ((List Int) × Int) :=
  (bits_May K x0).bind fun r12 =>
  if (!r12) then
    some (([] : List Int), 1)
  else
    (frame_Head K x0).bind fun r16 =>
    if (!r16.2.2) then
      some (([] : List Int), 9)
    else
      if decide (x1 < 0) then
        some (([] : List Int), 3)
      else
        if decide (x1 ≥ r16.1) then
          some (([] : List Int), 3)
        else
          (frame_Lists_frame_One_1 K r16.1 (wr .i64 (x1 + 1)) r16.2.1 x0).bind fun r37 =>
          if (!r37.2.2.1) then
            some (([] : List Int), 9)
          else
            if (0 : Int) ≤ x1 ∧ x1 < ((r37.1.Out.length : Nat) : Int) then
            some (nth r37.1.Out x1, 0)
            else none
abbrev herbariumref6_One.sg : Sig := ⟨[(.one, (.sl (.int .u8))), (.one, (.int .i64))], [], [(.one, (.sl (.int .i64))), (.one, (.int .i64))], [.o]⟩
def herbariumref6_One.l1 (K : Nat) (r15 : Int × Int) (x0 : List Int) (x1 : Int) : Nat → Int → Int → Int → Option ((List Int) × Int)
  | 0, _, _, _ => none
  | k + 1, t_12, t_10, t_11 =>
    (herbariumref3_TakeRuns K x0 t_12 t_11).bind fun r36 =>
    if (!r36.2.2) then
      some (([] : List Int), 9)
    else
      if decide (((r36.1.length : Nat) : Int) > 0) then
        if (0 : Int) ≤ (wr .i64 (((r36.1.length : Nat) : Int) - 1)) ∧ (wr .i64 (((r36.1.length : Nat) : Int) - 1)) < ((r36.1.length : Nat) : Int) then
        if decide ((nth r36.1 (wr .i64 (((r36.1.length : Nat) : Int) - 1))) ≥ (wr .i64 (r15.1 - 1))) then
          some (([] : List Int), 9)
        else
          if decide ((wr .i64 (t_10 + ((r36.1.length : Nat) : Int))) > 120) then
            some (([] : List Int), 9)
          else
            if (t_11 == x1) then
              some (r36.1, 0)
            else
              herbariumref6_One.l1 K r15 x0 x1 k r36.2.1 (wr .i64 (t_10 + ((r36.1.length : Nat) : Int))) (wr .i64 (t_11 + 1))
        else none
      else
        if decide ((wr .i64 (t_10 + ((r36.1.length : Nat) : Int))) > 120) then
          some (([] : List Int), 9)
        else
          if (t_11 == x1) then
            some (r36.1, 0)
          else
            herbariumref6_One.l1 K r15 x0 x1 k r36.2.1 (wr .i64 (t_10 + ((r36.1.length : Nat) : Int))) (wr .i64 (t_11 + 1))
def herbariumref6_One (K : Nat) (x0 : List Int) (x1 : Int) : Option ((List Int) × Int) :=
  (_herbariumref1_List__Read K x0 0 2).bind fun r15 =>
  if decide (r15.1 < 1) then
    some (([] : List Int), 9)
  else
    if decide ((wr .i64 (r15.1 - 1)) > 16) then
      some (([] : List Int), 9)
    else
      (herbariumref0_Num K x1 (wr .i64 (r15.1 - 2))).bind fun r28 =>
      if (!r28) then
        some (([] : List Int), 3)
      else
        herbariumref6_One.l1 K r15 x0 x1 K r15.2 (0 : Int) (0 : Int)
abbrev herbariumlaw7_wakes.sg : Sig := ⟨[], [], [(.one, .bool)], []⟩
def herbariumlaw7_wakes (K : Nat) : Option Bool :=
  (frame_Put K ((0, ([] : List (List Int))) : api_Graph)).bind fun r7 =>
  (frame_Take K r7.1).bind fun r12 =>
  (herbariumlaw7_num K r7.2).bind fun r16 =>
  if (r16 == 0) then
    (herbariumlaw7_num K r12.2).bind fun r20 =>
    if (r20 == 0) then
      if (r7.1.N == 1) then
        some (r12.1.N == 0)
      else
        some false
    else
      some false
  else
    some false
abbrev herbariumlaw7_FramePuts.sg : Sig := ⟨[(.agg, Ty_herbariumlaw6_Script)], [], [(.one, .bool)], []⟩
def herbariumlaw7_FramePuts.l5 (K : Nat) (go_l3 : Int → Option Bool) (r138 : List api_Bits) (r157 : List Int) (t_17 : Int) : Nat → Int → Option Bool
  | 0, _ => none
  | k + 1, t_21 =>
    if decide (t_21 ≤ 16) then
      if (0 : Int) ≤ t_17 ∧ t_17 < ((r138.length : Nat) : Int) then
      (frame_One K (nth r138 t_17) t_21).bind fun r187 =>
      (herbariumref6_One K r157 t_21).bind fun r193 =>
      (herbariumlaw7_num K r187.2).bind fun r197 =>
      if (r197 != r193.2) then
        some false
      else
        (herbariumref0_EqNumbers K r187.1 r193.1).bind fun r203 =>
        if (!r203) then
          some false
        else
          herbariumlaw7_FramePuts.l5 K go_l3 r138 r157 t_17 k (wr .i64 (t_21 + 2))
      else none
    else
      go_l3 (wr .i64 (t_17 + 1))
def herbariumlaw7_FramePuts.j4 (K : Nat) (go_l3 : Int → Option Bool) (r138 : List api_Bits) (r150 : api_Graph × Int) (r157 : List Int) (t_17 : Int) (t_18 : Int) (t_19 : Int) (t_20 : List (List Int)) : Option Bool :=
  (herbariumlaw7_num K r150.2).bind fun r166 =>
  if (r166 != t_18) then
    some false
  else
    (herbariumref0_EqGraph K r150.1 ((t_19, t_20) : api_Graph)).bind fun r172 =>
    if (!r172) then
      some false
    else
      (herbariumlaw0_Graph K r150.1).bind fun r176 =>
      herbariumlaw7_FramePuts.l5 K go_l3 r138 r157 t_17 K ((-1) : Int)
def herbariumlaw7_FramePuts.l3 (K : Nat) (r138 : List api_Bits) : Nat → Int → Option Bool
  | 0, _ => none
  | k + 1, t_17 =>
    if decide (t_17 < ((r138.length : Nat) : Int)) then
      if (0 : Int) ≤ t_17 ∧ t_17 < ((r138.length : Nat) : Int) then
      (frame_Take K (nth r138 t_17)).bind fun r150 =>
      if (0 : Int) ≤ t_17 ∧ t_17 < ((r138.length : Nat) : Int) then
      (herbariumref1_Of K (nth r138 t_17)).bind fun r157 =>
      (herbariumref6_TakeFrame K r157).bind fun r160 =>
      if r160.2 then
        herbariumlaw7_FramePuts.j4 K (herbariumlaw7_FramePuts.l3 K r138 k) r138 r150 r157 t_17 (0 : Int) r160.1.N r160.1.Out
      else
        herbariumlaw7_FramePuts.j4 K (herbariumlaw7_FramePuts.l3 K r138 k) r138 r150 r157 t_17 (9 : Int) (0 : Int) ([] : List (List Int))
      else none
      else none
    else
      (frame_Take K ((ByteArray.empty, 3) : api_Bits)).bind fun r208 =>
      (frame_One K (((⟨#[1]⟩ : ByteArray), 3) : api_Bits) 0).bind fun r213 =>
      (herbariumlaw7_num K r208.2).bind fun r217 =>
      if (r217 == 1) then
        (herbariumlaw7_num K r213.2).bind fun r221 =>
        if (r221 == 1) then
          (herbariumlaw7_wakes K).bind fun r225 =>
          some r225
        else
          some false
      else
        some false
def herbariumlaw7_FramePuts.j2 (K : Nat) (go_l1 : Int → (List (List Int)) → Option Bool) (r54 : api_Graph) (r57 : api_Bits × Int) (r62 : (List Int) × Int) (r67 : Int × Int) (t_10 : Int) (x0 : herbariumlaw6_Script) (t_12 : Int) (t_13 : Int) (t_11 : List (List Int)) (t_14 : ByteArray) (t_15 : Int) (t_16 : List Int) : Option Bool :=
  (herbariumlaw7_num K r57.2).bind fun r95 =>
  if (r95 != t_12) then
    some false
  else
    (herbariumlaw7_num K r62.2).bind fun r100 =>
    if (r100 != t_12) then
      some false
    else
      (herbariumlaw7_num K r67.2).bind fun r106 =>
      if (r106 != t_12) then
        some false
      else
        if (!((r57.1.Data == t_14) && ((r57.1.N == t_15) && true))) then
          some false
        else
          (herbariumref0_EqNumbers K r62.1 t_16).bind fun r118 =>
          if (!r118) then
            some false
          else
            if (r67.1 != t_13) then
              some false
            else
              if (0 : Int) ≤ t_10 ∧ t_10 < ((x0.G.length : Nat) : Int) then
              (herbariumref0_EqGraph K r54 (nth x0.G t_10)).bind fun r133 =>
              if (!r133) then
                some false
              else
                go_l1 (wr .i64 (t_10 + 1)) t_11
              else none
def herbariumlaw7_FramePuts.l1 (K : Nat) (x0 : herbariumlaw6_Script) : Nat → Int → (List (List Int)) → Option Bool
  | 0, _, _ => none
  | k + 1, t_10, t_22 =>
    if decide (t_10 < ((x0.G.length : Nat) : Int)) then
      if decide (t_10 < 4) then
        if (0 : Int) ≤ t_10 ∧ t_10 < ((x0.G.length : Nat) : Int) then
        (herbariumref0_CopyGraph K (nth x0.G t_10)).bind fun r54 =>
        (frame_Put K r54).bind fun r57 =>
        (frame_Places K r54).bind fun r62 =>
        (frame_Size K r54).bind fun r67 =>
        if (0 : Int) ≤ t_10 ∧ t_10 < ((x0.G.length : Nat) : Int) then
        (herbariumref6_Graph K (nth x0.G t_10)).bind fun r75 =>
        if r75 then
          if (0 : Int) ≤ t_10 ∧ t_10 < ((x0.G.length : Nat) : Int) then
          (herbariumref6_Frame K (nth x0.G t_10)).bind fun r82 =>
          (_herbariumref1_List__Pack K r82.1).bind fun r88 =>
          if (t_22.length + ([r82.1] : List (List Int)).length) * 24 ≤ 140737488355328 then
          herbariumlaw7_FramePuts.j2 K (herbariumlaw7_FramePuts.l1 K x0 k) r54 r57 r62 r67 t_10 x0 (0 : Int) ((r82.1.length : Nat) : Int) (t_22 ++ ([r82.1] : List (List Int))) r88.Data r88.N r82.2
          else none
          else none
        else
          herbariumlaw7_FramePuts.j2 K (herbariumlaw7_FramePuts.l1 K x0 k) r54 r57 r62 r67 t_10 x0 (1 : Int) (0 : Int) t_22 ByteArray.empty (0 : Int) ([] : List Int)
        else none
        else none
      else
        (herbariumlaw3_Texts K ((([] : List (List Int)), ([] : List api_Bits), ([] : List Int)) : herbariumlaw3_Ask) t_22).bind fun r138 =>
        herbariumlaw7_FramePuts.l3 K r138 K (0 : Int)
    else
      (herbariumlaw3_Texts K ((([] : List (List Int)), ([] : List api_Bits), ([] : List Int)) : herbariumlaw3_Ask) t_22).bind fun r138 =>
      herbariumlaw7_FramePuts.l3 K r138 K (0 : Int)
def herbariumlaw7_FramePuts (K : Nat) (x0 : herbariumlaw6_Script) : Option Bool :=
  (herbariumlaw6_Heavy K x0).bind fun r37 =>
  if r37 then
    some true
  else
    herbariumlaw7_FramePuts.l1 K x0 K (0 : Int) ([] : List (List Int))
end Go.XM
end
