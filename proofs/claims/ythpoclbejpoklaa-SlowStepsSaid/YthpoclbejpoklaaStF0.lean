import Derived.Test.YthpoclbejpoklaaStT1
set_option linter.all false
section
namespace Go.XM
set_option maxRecDepth 100000
abbrev api_Job : Type := Int × Int × Int × Bool × (List Int) × (List Int)
abbrev Ty_api_Job : Ty := (.pr (.int .i64) (.pr (.int .i64) (.pr (.int .i64) (.pr .bool (.pr (.sl (.int .i64)) (.sl (.int .i64)))))))
abbrev api_Job.Kind (x : api_Job) : Int := x.1
abbrev api_Job.A (x : api_Job) : Int := x.2.1
abbrev api_Job.At (x : api_Job) : Int := x.2.2.1
abbrev api_Job.Move (x : api_Job) : Bool := x.2.2.2.1
abbrev api_Job.List_ (x : api_Job) : List Int := x.2.2.2.2.1
abbrev api_Job.Out (x : api_Job) : List Int := x.2.2.2.2.2
abbrev herbariumlaw0_JobWeight.sg : Sig := ⟨[(.agg, Ty_api_Job)], [], [(false, (.int .i64))], []⟩
def herbariumlaw0_JobWeight (K : Nat) (x0 : api_Job) : Option Int :=
  some (wr .i64 (((x0.List_.length : Nat) : Int) + ((x0.Out.length : Nat) : Int)))
abbrev herbariumlaw0_Lists.sg : Sig := ⟨[(.one, (.sl (.sl (.int .i64))))], [], [(false, (.int .i64))], []⟩
def herbariumlaw0_Lists.l1 (K : Nat) (x0 : List (List Int)) : Nat → Int → Int → Option Int
  | 0, _, _ => none
  | k + 1, n_10, i_11 =>
    if decide (i_11 < ((x0.length : Nat) : Int)) then
      if decide (n_10 < 1048576) then
        if (0 : Int) ≤ i_11 ∧ i_11 < ((x0.length : Nat) : Int) then
        herbariumlaw0_Lists.l1 K x0 k (wr .i64 (n_10 + (((nth x0 i_11).length : Nat) : Int))) (wr .i64 (i_11 + 1))
        else none
      else
        some n_10
    else
      some n_10
def herbariumlaw0_Lists (K : Nat) (x0 : List (List Int)) : Option Int :=
  herbariumlaw0_Lists.l1 K x0 K ((x0.length : Nat) : Int) (0 : Int)
abbrev api_Graph : Type := Int × (List (List Int))
abbrev Ty_api_Graph : Ty := (.pr (.int .i64) (.sl (.sl (.int .i64))))
abbrev api_Graph.N (x : api_Graph) : Int := x.1
abbrev api_Graph.Out (x : api_Graph) : List (List Int) := x.2
abbrev herbariumlaw0_GraphsWeight.sg : Sig := ⟨[(.one, (.sl Ty_api_Graph))], [], [(false, (.int .i64))], []⟩
def herbariumlaw0_GraphsWeight.l1 (K : Nat) (x0 : List api_Graph) : Nat → Int → Int → Option Int
  | 0, _, _ => none
  | k + 1, n_10, i_11 =>
    if decide (i_11 < ((x0.length : Nat) : Int)) then
      if decide (n_10 < 1048576) then
        if (0 : Int) ≤ i_11 ∧ i_11 < ((x0.length : Nat) : Int) then
        (herbariumlaw0_Lists K ((nth x0 i_11).Out)).bind fun r23 =>
        herbariumlaw0_GraphsWeight.l1 K x0 k (wr .i64 (n_10 + r23)) (wr .i64 (i_11 + 1))
        else none
      else
        some n_10
    else
      some n_10
def herbariumlaw0_GraphsWeight (K : Nat) (x0 : List api_Graph) : Option Int :=
  herbariumlaw0_GraphsWeight.l1 K x0 K ((x0.length : Nat) : Int) (0 : Int)
abbrev herbariumlaw6_Act : Type := Int × Int × Int
abbrev Ty_herbariumlaw6_Act : Ty := (.pr (.int .i64) (.pr (.int .i64) (.int .i64)))
abbrev herbariumlaw6_Act.Do (x : herbariumlaw6_Act) : Int := x.1
abbrev herbariumlaw6_Act.A (x : herbariumlaw6_Act) : Int := x.2.1
abbrev herbariumlaw6_Act.B (x : herbariumlaw6_Act) : Int := x.2.2
abbrev herbariumlaw6_Script : Type := (List api_Graph) × (List herbariumlaw6_Act)
abbrev Ty_herbariumlaw6_Script : Ty := (.pr (.sl Ty_api_Graph) (.sl Ty_herbariumlaw6_Act))
abbrev herbariumlaw6_Script.G (x : herbariumlaw6_Script) : List api_Graph := x.1
abbrev herbariumlaw6_Script.A (x : herbariumlaw6_Script) : List herbariumlaw6_Act := x.2
abbrev herbariumlaw6_Heavy.sg : Sig := ⟨[(.agg, Ty_herbariumlaw6_Script)], [], [(false, .bool)], []⟩
def herbariumlaw6_Heavy (K : Nat) (x0 : herbariumlaw6_Script) : Option Bool :=
  (herbariumlaw0_GraphsWeight K x0.G).bind fun r5 =>
  some (decide ((wr .i64 (r5 + ((x0.A.length : Nat) : Int))) > 1200))
abbrev herbariumlaw11_Ask : Type := herbariumlaw6_Script × (List api_Job) × (List Int)
abbrev Ty_herbariumlaw11_Ask : Ty := (.pr Ty_herbariumlaw6_Script (.pr (.sl Ty_api_Job) (.sl (.int .i64))))
abbrev herbariumlaw11_Ask.G (x : herbariumlaw11_Ask) : herbariumlaw6_Script := x.1
abbrev herbariumlaw11_Ask.J (x : herbariumlaw11_Ask) : List api_Job := x.2.1
abbrev herbariumlaw11_Ask.N (x : herbariumlaw11_Ask) : List Int := x.2.2
abbrev herbariumlaw11_Heavy.sg : Sig := ⟨[(.agg, Ty_herbariumlaw11_Ask)], [], [(false, .bool)], []⟩
def herbariumlaw11_Heavy.l1 (K : Nat) (x0 : herbariumlaw11_Ask) : Nat → Int → Int → Option Bool
  | 0, _, _ => none
  | k + 1, n_10, i_11 =>
    if decide (i_11 < ((x0.J.length : Nat) : Int)) then
      if decide (n_10 < 1048576) then
        if (0 : Int) ≤ i_11 ∧ i_11 < ((x0.J.length : Nat) : Int) then
        (herbariumlaw0_JobWeight K (nth x0.J i_11)).bind fun r29 =>
        herbariumlaw11_Heavy.l1 K x0 k (wr .i64 (n_10 + r29)) (wr .i64 (i_11 + 1))
        else none
      else
        if decide (n_10 > 600) then
          some true
        else
          (herbariumlaw6_Heavy K x0.G).bind fun r36 =>
          some r36
    else
      if decide (n_10 > 600) then
        some true
      else
        (herbariumlaw6_Heavy K x0.G).bind fun r36 =>
        some r36
def herbariumlaw11_Heavy (K : Nat) (x0 : herbariumlaw11_Ask) : Option Bool :=
  herbariumlaw11_Heavy.l1 K x0 K (wr .i64 (((x0.N.length : Nat) : Int) + ((x0.J.length : Nat) : Int))) (0 : Int)
abbrev herbariumref0_CopyNumbers.sg : Sig := ⟨[(.one, (.sl (.int .i64)))], [], [(false, (.sl (.int .i64)))], [.o]⟩
def herbariumref0_CopyNumbers.l1 (K : Nat) (x0 : List Int) : Nat → Int → (List Int) → Option (List Int)
  | 0, _, _ => none
  | k + 1, i_10, m_11 =>
    if decide (i_10 < ((x0.length : Nat) : Int)) then
      if (0 : Int) ≤ i_10 ∧ i_10 < ((x0.length : Nat) : Int) then
      if (m_11.length + ([nth x0 i_10] : List Int).length) * 8 ≤ 140737488355328 then
      herbariumref0_CopyNumbers.l1 K x0 k (wr .i64 (i_10 + 1)) (m_11 ++ ([nth x0 i_10] : List Int))
      else none
      else none
    else
      some m_11
def herbariumref0_CopyNumbers (K : Nat) (x0 : List Int) : Option (List Int) :=
  herbariumref0_CopyNumbers.l1 K x0 K (0 : Int) ([] : List Int)
abbrev herbariumref0_CopyNumberLists.sg : Sig := ⟨[(.one, (.sl (.sl (.int .i64))))], [], [(false, (.sl (.sl (.int .i64))))], [.o1]⟩
def herbariumref0_CopyNumberLists.l1 (K : Nat) (x0 : List (List Int)) : Nat → Int → (List (List Int)) → Option (List (List Int))
  | 0, _, _ => none
  | k + 1, i_10, l_11 =>
    if decide (i_10 < ((x0.length : Nat) : Int)) then
      if (0 : Int) ≤ i_10 ∧ i_10 < ((x0.length : Nat) : Int) then
      (herbariumref0_CopyNumbers K (nth x0 i_10)).bind fun r16 =>
      if (l_11.length + ([r16] : List (List Int)).length) * 24 ≤ 140737488355328 then
      herbariumref0_CopyNumberLists.l1 K x0 k (wr .i64 (i_10 + 1)) (l_11 ++ ([r16] : List (List Int)))
      else none
      else none
    else
      some l_11
def herbariumref0_CopyNumberLists (K : Nat) (x0 : List (List Int)) : Option (List (List Int)) :=
  herbariumref0_CopyNumberLists.l1 K x0 K (0 : Int) ([] : List (List Int))
abbrev herbariumref0_CopyGraph.sg : Sig := ⟨[(.agg, Ty_api_Graph)], [], [(true, Ty_api_Graph)], [.s, .o1]⟩
def herbariumref0_CopyGraph (K : Nat) (x0 : api_Graph) : Option api_Graph :=
  (herbariumref0_CopyNumberLists K x0.Out).bind fun r7 =>
  some ((x0.N, r7) : api_Graph)
abbrev herbariumref0_Num.sg : Sig := ⟨[(.one, (.int .i64)), (.one, (.int .i64))], [], [(false, .bool)], []⟩
def herbariumref0_Num (K : Nat) (x0 : Int) (x1 : Int) : Option Bool :=
  if decide (x0 ≥ 0) then
    some (decide (x0 ≤ x1))
  else
    some false
abbrev herbariumref3_Origin.sg : Sig := ⟨[(.one, (.int .i64))], [], [(false, .bool)], []⟩
def herbariumref3_Origin (K : Nat) (x0 : Int) : Option Bool :=
  (herbariumref0_Num K x0 15).bind fun r4 =>
  some r4
abbrev herbariumref3_May.sg : Sig := ⟨[(.one, (.sl (.int .i64)))], [], [(false, .bool)], []⟩
def herbariumref3_May.l1 (K : Nat) (x0 : List Int) : Nat → Int → Option Bool
  | 0, _ => none
  | k + 1, i_10 =>
    if decide (i_10 < ((x0.length : Nat) : Int)) then
      if decide (i_10 ≤ 16) then
        if (0 : Int) ≤ i_10 ∧ i_10 < ((x0.length : Nat) : Int) then
        (herbariumref3_Origin K (nth x0 i_10)).bind fun r18 =>
        if (!r18) then
          some false
        else
          if decide (i_10 > 0) then
            if (0 : Int) ≤ (wr .i64 (i_10 - 1)) ∧ (wr .i64 (i_10 - 1)) < ((x0.length : Nat) : Int) then
            if (0 : Int) ≤ i_10 ∧ i_10 < ((x0.length : Nat) : Int) then
            if decide ((nth x0 (wr .i64 (i_10 - 1))) ≥ (nth x0 i_10)) then
              some false
            else
              herbariumref3_May.l1 K x0 k (wr .i64 (i_10 + 1))
            else none
            else none
          else
            herbariumref3_May.l1 K x0 k (wr .i64 (i_10 + 1))
        else none
      else
        some (decide (((x0.length : Nat) : Int) ≤ 16))
    else
      some (decide (((x0.length : Nat) : Int) ≤ 16))
def herbariumref3_May (K : Nat) (x0 : List Int) : Option Bool :=
  herbariumref3_May.l1 K x0 K (0 : Int)
abbrev herbariumref6_Edges.sg : Sig := ⟨[(.agg, Ty_api_Graph)], [], [(false, (.int .i64))], []⟩
def herbariumref6_Edges.l1 (K : Nat) (x0 : api_Graph) : Nat → Int → Int → Option Int
  | 0, _, _ => none
  | k + 1, n_10, i_11 =>
    if decide (i_11 < ((x0.Out.length : Nat) : Int)) then
      if (0 : Int) ≤ i_11 ∧ i_11 < ((x0.Out.length : Nat) : Int) then
      herbariumref6_Edges.l1 K x0 k (wr .i64 (n_10 + (((nth x0.Out i_11).length : Nat) : Int))) (wr .i64 (i_11 + 1))
      else none
    else
      some n_10
def herbariumref6_Edges (K : Nat) (x0 : api_Graph) : Option Int :=
  herbariumref6_Edges.l1 K x0 K (0 : Int) (0 : Int)
abbrev herbariumref6_Graph.sg : Sig := ⟨[(.agg, Ty_api_Graph)], [], [(false, .bool)], []⟩
def herbariumref6_Graph.l1 (K : Nat) (x0 : api_Graph) : Nat → Int → Option Bool
  | 0, _ => none
  | k + 1, i_10 =>
    if decide (i_10 < x0.N) then
      if (0 : Int) ≤ i_10 ∧ i_10 < ((x0.Out.length : Nat) : Int) then
      (herbariumref3_May K (nth x0.Out i_10)).bind fun r27 =>
      if (!r27) then
        some false
      else
        if (0 : Int) ≤ i_10 ∧ i_10 < ((x0.Out.length : Nat) : Int) then
        if decide ((((nth x0.Out i_10).length : Nat) : Int) > 0) then
          if (0 : Int) ≤ i_10 ∧ i_10 < ((x0.Out.length : Nat) : Int) then
          if (0 : Int) ≤ i_10 ∧ i_10 < ((x0.Out.length : Nat) : Int) then
          if (0 : Int) ≤ (wr .i64 ((((nth x0.Out i_10).length : Nat) : Int) - 1)) ∧ (wr .i64 ((((nth x0.Out i_10).length : Nat) : Int) - 1)) < (((nth x0.Out i_10).length : Nat) : Int) then
          if decide ((nth (nth x0.Out i_10) (wr .i64 ((((nth x0.Out i_10).length : Nat) : Int) - 1))) ≥ x0.N) then
            some false
          else
            herbariumref6_Graph.l1 K x0 k (wr .i64 (i_10 + 1))
          else none
          else none
          else none
        else
          herbariumref6_Graph.l1 K x0 k (wr .i64 (i_10 + 1))
        else none
      else none
    else
      (herbariumref6_Edges K x0).bind fun r58 =>
      some (decide (r58 ≤ 120))
def herbariumref6_Graph (K : Nat) (x0 : api_Graph) : Option Bool :=
  (herbariumref0_Num K x0.N 16).bind fun r6 =>
  if (!r6) then
    some false
  else
    if (((x0.Out.length : Nat) : Int) != x0.N) then
      some false
    else
      herbariumref6_Graph.l1 K x0 K (0 : Int)
abbrev gaps_Is.sg : Sig := ⟨[(.one, (.int .i64))], [], [(false, .bool)], []⟩
def gaps_Is (K : Nat) (x0 : Int) : Option Bool :=
  if decide (x0 ≥ 0) then
    some (decide (x0 < 16))
  else
    some false
abbrev gaps_May.sg : Sig := ⟨[(.one, (.sl (.int .i64)))], [], [(false, .bool)], []⟩
def gaps_May.l1 (K : Nat) (x0 : List Int) : Nat → Int → Int → Option Bool
  | 0, _, _ => none
  | k + 1, t_10, t_11 =>
    if decide (t_11 < t_10) then
      if (0 : Int) ≤ t_11 ∧ t_11 < ((x0.length : Nat) : Int) then
      (gaps_Is K (nth x0 t_11)).bind fun r13 =>
      if (!r13) then
        some false
      else
        if decide (t_11 > 0) then
          if (0 : Int) ≤ (wr .i64 (t_11 - 1)) ∧ (wr .i64 (t_11 - 1)) < ((x0.length : Nat) : Int) then
          if decide ((nth x0 t_11) ≤ (nth x0 (wr .i64 (t_11 - 1)))) then
            some false
          else
            gaps_May.l1 K x0 k t_10 (wr .i64 (t_11 + 1))
          else none
        else
          gaps_May.l1 K x0 k t_10 (wr .i64 (t_11 + 1))
      else none
    else
      some true
def gaps_May (K : Nat) (x0 : List Int) : Option Bool :=
  gaps_May.l1 K x0 K ((x0.length : Nat) : Int) (0 : Int)
abbrev graph_many.sg : Sig := ⟨[(.agg, Ty_api_Graph)], [], [(false, (.int .i64))], []⟩
def graph_many.l1 (K : Nat) (x0 : api_Graph) : Nat → Int → Int → Int → Option Int
  | 0, _, _, _ => none
  | k + 1, n_10, t_11, t_12 =>
    if decide (t_12 < t_11) then
      if (0 : Int) ≤ t_12 ∧ t_12 < ((x0.Out.length : Nat) : Int) then
      graph_many.l1 K x0 k (wr .i64 (n_10 + (((nth x0.Out t_12).length : Nat) : Int))) t_11 (wr .i64 (t_12 + 1))
      else none
    else
      some n_10
def graph_many (K : Nat) (x0 : api_Graph) : Option Int :=
  graph_many.l1 K x0 K (0 : Int) ((x0.Out.length : Nat) : Int) (0 : Int)
abbrev graph_May.sg : Sig := ⟨[(.agg, Ty_api_Graph)], [], [(false, .bool)], []⟩
def graph_May.l1 (K : Nat) (x0 : api_Graph) : Nat → Int → Int → Option Bool
  | 0, _, _ => none
  | k + 1, t_10, t_11 =>
    if decide (t_11 < t_10) then
      if (0 : Int) ≤ t_11 ∧ t_11 < ((x0.Out.length : Nat) : Int) then
      (gaps_May K (nth x0.Out t_11)).bind fun r29 =>
      if (!r29) then
        some false
      else
        if decide ((((nth x0.Out t_11).length : Nat) : Int) > 0) then
          if (0 : Int) ≤ (wr .i64 ((((nth x0.Out t_11).length : Nat) : Int) - 1)) ∧ (wr .i64 ((((nth x0.Out t_11).length : Nat) : Int) - 1)) < (((nth x0.Out t_11).length : Nat) : Int) then
          if decide ((nth (nth x0.Out t_11) (wr .i64 ((((nth x0.Out t_11).length : Nat) : Int) - 1))) ≥ x0.N) then
            some false
          else
            graph_May.l1 K x0 k t_10 (wr .i64 (t_11 + 1))
          else none
        else
          graph_May.l1 K x0 k t_10 (wr .i64 (t_11 + 1))
      else none
    else
      (graph_many K x0).bind fun r49 =>
      some (decide (r49 ≤ 120))
def graph_May (K : Nat) (x0 : api_Graph) : Option Bool :=
  if decide (x0.N < 0) then
    some false
  else
    if decide (x0.N > 16) then
      some false
    else
      if (((x0.Out.length : Nat) : Int) != x0.N) then
        some false
      else
        graph_May.l1 K x0 K ((x0.Out.length : Nat) : Int) (0 : Int)
abbrev kernel_Named.sg : Sig := ⟨[(.one, (.int .i64))], [], [(false, .bool)], []⟩
def kernel_Named (K : Nat) (x0 : Int) : Option Bool :=
  if (x0 == 1) then
    some true
  else
    if (x0 == 2) then
      some true
    else
      some (x0 == 4)
abbrev graph_Is.sg : Sig := ⟨[(.agg, Ty_api_Graph), (.one, (.int .i64))], [], [(false, .bool)], []⟩
def graph_Is (K : Nat) (x0 : api_Graph) (x1 : Int) : Option Bool :=
  if decide (x1 ≥ 0) then
    some (decide (x1 < x0.N))
  else
    some false
abbrev kernel_Asked.sg : Sig := ⟨[(.agg, Ty_api_Graph), (.one, (.int .i64)), (.one, (.int .i64))], [], [(false, (.int .i64))], []⟩
def kernel_Asked.j1 (K : Nat) (x0 : api_Graph) (x1 : Int) (x2 : Int) (t_10 : Bool) : Option Int :=
  if t_10 then
    some (1 : Int)
  else
    (kernel_Named K x1).bind fun r21 =>
    if r21 then
      (graph_Is K x0 x2).bind fun r25 =>
      if (!r25) then
        some (3 : Int)
      else
        some (0 : Int)
    else
      some (0 : Int)
def kernel_Asked (K : Nat) (x0 : api_Graph) (x1 : Int) (x2 : Int) : Option Int :=
  (graph_May K x0).bind fun r9 =>
  if (!r9) then
    kernel_Asked.j1 K x0 x1 x2 true
  else
    if decide (x1 < 1) then
      kernel_Asked.j1 K x0 x1 x2 true
    else
      kernel_Asked.j1 K x0 x1 x2 (decide (x1 > 6))
abbrev math_bits_Mul32.sg : Sig := ⟨[(.one, (.int .u32)), (.one, (.int .u32))], [], [(false, (.int .u32)), (false, (.int .u32))], []⟩
def math_bits_Mul32 (K : Nat) (x0 : Int) (x1 : Int) : Option (Int × Int) :=
  if (0 : Int) ≤ 32 then
  some (wr .u32 ((wr .u64 ((wr .u64 x0) * (wr .u64 x1))).fdiv (2 ^ min ((32 : Int)).toNat 64)), wr .u32 (wr .u64 ((wr .u64 x0) * (wr .u64 x1))))
  else none
abbrev math_bits_Mul64.sg : Sig := ⟨[(.one, (.int .u64)), (.one, (.int .u64))], [], [(false, (.int .u64)), (false, (.int .u64))], []⟩
def math_bits_Mul64 (K : Nat) (x0 : Int) (x1 : Int) : Option (Int × Int) :=
  if (0 : Int) ≤ 32 then
  if (0 : Int) ≤ 32 then
  if (0 : Int) ≤ 32 then
  if (0 : Int) ≤ 32 then
  if (0 : Int) ≤ 32 then
  some (wr .u64 ((wr .u64 ((wr .u64 ((x0.fdiv (2 ^ min ((32 : Int)).toNat 64)) * (x1.fdiv (2 ^ min ((32 : Int)).toNat 64)))) + ((wr .u64 ((wr .u64 ((x0.fdiv (2 ^ min ((32 : Int)).toNat 64)) * (ib .and .u64 x1 4294967295))) + ((wr .u64 ((ib .and .u64 x0 4294967295) * (ib .and .u64 x1 4294967295))).fdiv (2 ^ min ((32 : Int)).toNat 64)))).fdiv (2 ^ min ((32 : Int)).toNat 64)))) + ((wr .u64 ((ib .and .u64 (wr .u64 ((wr .u64 ((x0.fdiv (2 ^ min ((32 : Int)).toNat 64)) * (ib .and .u64 x1 4294967295))) + ((wr .u64 ((ib .and .u64 x0 4294967295) * (ib .and .u64 x1 4294967295))).fdiv (2 ^ min ((32 : Int)).toNat 64)))) 4294967295) + (wr .u64 ((ib .and .u64 x0 4294967295) * (x1.fdiv (2 ^ min ((32 : Int)).toNat 64)))))).fdiv (2 ^ min ((32 : Int)).toNat 64))), wr .u64 (x0 * x1))
  else none
  else none
  else none
  else none
  else none
abbrev math_bits_Mul.sg : Sig := ⟨[(.one, (.int .u64)), (.one, (.int .u64))], [], [(false, (.int .u64)), (false, (.int .u64))], []⟩
def math_bits_Mul (K : Nat) (x0 : Int) (x1 : Int) : Option (Int × Int) :=
  (math_bits_Mul64 K x0 x1).bind fun r25 =>
  some (r25.1, r25.2)
abbrev slices_Repeat___int_int_.sg : Sig := ⟨[(.one, (.sl (.int .i64))), (.one, (.int .i64))], [], [(false, (.sl (.int .i64)))], [.o]⟩
def slices_Repeat___int_int_.l3 (K : Nat) : Nat → Int → (List Int) → Option (List Int)
  | 0, _, _ => none
  | k + 1, n_11, newslice_10 =>
    if decide (n_11 < ((newslice_10.length : Nat) : Int)) then
      if (0 : Int) ≤ n_11 ∧ n_11 ≤ ((newslice_10.length : Nat) : Int) ∧ ((newslice_10.length : Nat) : Int) ≤ ((newslice_10.length : Nat) : Int) then
      if (0 : Int) ≤ (0 : Int) ∧ (0 : Int) ≤ n_11 ∧ n_11 ≤ ((newslice_10.length : Nat) : Int) then
      slices_Repeat___int_int_.l3 K k (wr .i64 (n_11 + ((min (((newslice_10).drop (0 + (0 : Int).toNat)).take (n_11.toNat - (0 : Int).toNat)).length (((newslice_10.length : Nat) : Int).toNat - n_11.toNat) : Nat) : Int))) (ovp newslice_10 (0 + n_11.toNat) (List.take (((newslice_10.length : Nat) : Int).toNat - n_11.toNat) (((newslice_10).drop (0 + (0 : Int).toNat)).take (n_11.toNat - (0 : Int).toNat))))
      else none
      else none
    else
      some newslice_10
def slices_Repeat___int_int_.j2 (K : Nat) (r18 : Int × Int) (x0 : List Int) : Option (List Int) :=
  if (wr .i64 r18.2) = (wr .i64 r18.2) ∧ (0 : Int) ≤ (wr .i64 r18.2) ∧ (8 : Int) * (wr .i64 r18.2) ≤ 281474976710656 ∧ (wr .i64 r18.2) ≤ 9223372036854775807 then
  slices_Repeat___int_int_.l3 K K ((min x0.length ((List.replicate (wr .i64 r18.2).toNat (0 : Int)).length) : Nat) : Int) (ovp (List.replicate (wr .i64 r18.2).toNat (0 : Int)) 0 (List.take ((List.replicate (wr .i64 r18.2).toNat (0 : Int)).length) x0))
  else none
def slices_Repeat___int_int_.j1 (K : Nat) (x0 : List Int) (x1 : Int) : Option (List Int) :=
  (math_bits_Mul K (wr .u64 ((x0.length : Nat) : Int)) (wr .u64 x1)).bind fun r18 =>
  if decide (r18.1 > 0) then
    none
  else
    if decide (r18.2 > 9223372036854775807) then
      none
    else
      slices_Repeat___int_int_.j2 K r18 x0
def slices_Repeat___int_int_ (K : Nat) (x0 : List Int) (x1 : Int) : Option (List Int) :=
  if decide (x1 < 0) then
    none
  else
    slices_Repeat___int_int_.j1 K x0 x1
abbrev slow_start.sg : Sig := ⟨[(.agg, Ty_api_Graph), (.one, (.int .i64)), (.one, (.int .i64))], [], [(true, Ty_api_Job)], [.s, .s, .s, .s, .o, .o]⟩
def slow_start.l2 (K : Nat) (j_13 : Int) (j_14 : Int) (x0 : api_Graph) (x1 : Int) : Nat → Int → (List Int) → Option api_Job
  | 0, _, _ => none
  | k + 1, t_15, j_16 =>
    if decide (t_15 < x0.N) then
      if (j_16.length + ([t_15] : List Int).length) * 8 ≤ 140737488355328 then
      slow_start.l2 K j_13 j_14 x0 x1 k (wr .i64 (t_15 + 1)) (j_16 ++ ([t_15] : List Int))
      else none
    else
      some ((x1, j_13, j_14, false, ([] : List Int), j_16) : api_Job)
def slow_start.j1 (K : Nat) (x0 : api_Graph) (x1 : Int) (x2 : Int) (t_10 : Int) (t_11 : Int) (t_12 : Int) (j_13 : Int) (j_14 : Int) : Option api_Job :=
  if (x1 == 4) then
    (slices_Repeat___int_int_ K ([(-1)] : List Int) x0.N).bind fun r23 =>
    if (0 : Int) ≤ x2 ∧ x2 < ((r23.length : Nat) : Int) then
    some ((x1, j_13, j_14, false, ([x2] : List Int), (r23).set x2.toNat 0) : api_Job)
    else none
  else
    if (x1 == 5) then
      slow_start.l2 K j_13 j_14 x0 x1 K (0 : Int) ([] : List Int)
    else
      some ((x1, j_13, j_14, false, ([] : List Int), ([] : List Int)) : api_Job)
def slow_start (K : Nat) (x0 : api_Graph) (x1 : Int) (x2 : Int) : Option api_Job :=
  (kernel_Named K x1).bind fun r12 =>
  if r12 then
    slow_start.j1 K x0 x1 x2 (0 : Int) (0 : Int) (0 : Int) x2 (0 : Int)
  else
    slow_start.j1 K x0 x1 x2 (0 : Int) (0 : Int) (0 : Int) (0 : Int) (0 : Int)
abbrev slow_Begin.sg : Sig := ⟨[(.agg, Ty_api_Graph), (.one, (.int .i64)), (.one, (.int .i64))], [], [(true, Ty_api_Job), (false, (.int .i64))], [.s, .s, .s, .s, .o, .o]⟩
def slow_Begin (K : Nat) (x0 : api_Graph) (x1 : Int) (x2 : Int) : Option (api_Job × Int) :=
  (kernel_Asked K x0 x1 x2).bind fun r12 =>
  if (r12 != 0) then
    some (((0, 0, 0, false, ([] : List Int), ([] : List Int)) : api_Job), r12)
  else
    (slow_start K x0 x1 x2).bind fun r20 =>
    some (r20, 0)
abbrev slow_Over.sg : Sig := ⟨[(.agg, Ty_api_Graph), (.agg, Ty_api_Job)], [], [(false, .bool)], []⟩
def slow_Over (K : Nat) (x0 : api_Graph) (x1 : api_Job) : Option Bool :=
  if (x1.Kind == 1) then
    some (decide (x1.At ≥ 1))
  else
    if (x1.Kind == 4) then
      some (decide (x1.At ≥ ((x1.List_.length : Nat) : Int)))
    else
      some (decide (x1.At ≥ x0.N))
abbrev slow_part.sg : Sig := ⟨[(.agg, Ty_api_Graph), (.box, Ty_api_Job)], [.s, .s, .s, .s, .s, .s, .o, .o], [], [.s, .s, .s, .s, .o, .o]⟩
def slow_part.j3 (K : Nat) (h_18 : Bool) (h_19 : List Int) (x1 : api_Job) (t_17 : Bool) (h_16 : Int) : Option api_Job :=
  if t_17 then
    some ((x1.Kind, x1.A, 0, false, x1.List_, h_19) : api_Job)
  else
    some ((x1.Kind, x1.A, h_16, h_18, x1.List_, h_19) : api_Job)
def slow_part.j2 (K : Nat) (go_l1 : (List Int) → Int → Int → Bool → (List Int) → Option api_Job) (h_19 : List Int) (t_10 : List Int) (t_11 : Int) (t_12 : Int) (x0 : api_Graph) (x1 : api_Job) (t_14 : Int) (t_15 : Int) (h_13 : Bool) : Option api_Job :=
  if (0 : Int) ≤ x1.At ∧ x1.At < ((h_19.length : Nat) : Int) then
  if (0 : Int) ≤ t_14 ∧ t_14 < ((((h_19).set x1.At.toNat t_15).length : Nat) : Int) then
  go_l1 t_10 t_11 (wr .i64 (t_12 + 1)) h_13 (((h_19).set x1.At.toNat t_15).set t_14.toNat t_15)
  else none
  else none
def slow_part.l1 (K : Nat) (x0 : api_Graph) (x1 : api_Job) : Nat → (List Int) → Int → Int → Bool → (List Int) → Option api_Job
  | 0, _, _, _, _, _ => none
  | k + 1, t_10, t_11, t_12, h_18, h_19 =>
    if decide (t_12 < t_11) then
      if (0 : Int) ≤ t_12 ∧ t_12 < ((t_10.length : Nat) : Int) then
      if (0 : Int) ≤ x1.At ∧ x1.At < ((h_19.length : Nat) : Int) then
      if (0 : Int) ≤ (nth t_10 t_12) ∧ (nth t_10 t_12) < ((h_19.length : Nat) : Int) then
      if h_18 then
        slow_part.j2 K (slow_part.l1 K x0 x1 k) h_19 t_10 t_11 t_12 x0 x1 (nth t_10 t_12) (if (nth h_19 (nth t_10 t_12)) < (nth h_19 x1.At) then (nth h_19 (nth t_10 t_12)) else (nth h_19 x1.At)) true
      else
        if (0 : Int) ≤ x1.At ∧ x1.At < ((h_19.length : Nat) : Int) then
        if (0 : Int) ≤ (nth t_10 t_12) ∧ (nth t_10 t_12) < ((h_19.length : Nat) : Int) then
        slow_part.j2 K (slow_part.l1 K x0 x1 k) h_19 t_10 t_11 t_12 x0 x1 (nth t_10 t_12) (if (nth h_19 (nth t_10 t_12)) < (nth h_19 x1.At) then (nth h_19 (nth t_10 t_12)) else (nth h_19 x1.At)) ((nth h_19 x1.At) != (nth h_19 (nth t_10 t_12)))
        else none
        else none
      else none
      else none
      else none
    else
      if ((wr .i64 (x1.At + 1)) == x0.N) then
        slow_part.j3 K h_18 h_19 x1 h_18 (wr .i64 (x1.At + 1))
      else
        slow_part.j3 K h_18 h_19 x1 false (wr .i64 (x1.At + 1))
def slow_part (K : Nat) (x0 : api_Graph) (x1 : api_Job) : Option api_Job :=
  if (0 : Int) ≤ x1.At ∧ x1.At < ((x0.Out.length : Nat) : Int) then
  slow_part.l1 K x0 x1 K (nth x0.Out x1.At) (((nth x0.Out x1.At).length : Nat) : Int) (0 : Int) x1.Move x1.Out
  else none
abbrev slices_Clone___int_int_.sg : Sig := ⟨[(.one, (.sl (.int .i64)))], [], [(false, (.sl (.int .i64)))], [.o]⟩
def slices_Clone___int_int_ (K : Nat) (x0 : List Int) : Option (List Int) :=
  if (([] : List Int).length + x0.length) * 8 ≤ 140737488355328 then
  some (([] : List Int) ++ x0)
  else none
abbrev slices_Index___int_int_.sg : Sig := ⟨[(.one, (.sl (.int .i64))), (.one, (.int .i64))], [], [(false, (.int .i64))], []⟩
def slices_Index___int_int_.l1 (K : Nat) (x0 : List Int) (x1 : Int) : Nat → Int → Int → Option Int
  | 0, _, _ => none
  | k + 1, t_10, t_11 =>
    if decide (t_11 < t_10) then
      if (0 : Int) ≤ t_11 ∧ t_11 < ((x0.length : Nat) : Int) then
      if (x1 == (nth x0 t_11)) then
        some t_11
      else
        slices_Index___int_int_.l1 K x0 x1 k t_10 (wr .i64 (t_11 + 1))
      else none
    else
      some ((-1) : Int)
def slices_Index___int_int_ (K : Nat) (x0 : List Int) (x1 : Int) : Option Int :=
  slices_Index___int_int_.l1 K x0 x1 K ((x0.length : Nat) : Int) (0 : Int)
abbrev slices_Contains___int_int_.sg : Sig := ⟨[(.one, (.sl (.int .i64))), (.one, (.int .i64))], [], [(false, .bool)], []⟩
def slices_Contains___int_int_ (K : Nat) (x0 : List Int) (x1 : Int) : Option Bool :=
  (slices_Index___int_int_ K x0 x1).bind fun r7 =>
  some (decide (r7 ≥ 0))
abbrev slow_visit.sg : Sig := ⟨[(.agg, Ty_api_Graph), (.box, Ty_api_Job)], [.s, .s, .s, .s, .s, .s, .o, .o], [], [.s, .s, .s, .s, .o, .o]⟩
def slow_visit.l3 (K : Nat) (x1 : api_Job) : Nat → (List Int) → Int → Int → Int → (List Int) → Option api_Job
  | 0, _, _, _, _, _ => none
  | k + 1, t_17, t_18, t_19, h_16, h_23 =>
    if decide (t_19 < t_18) then
      if (0 : Int) ≤ t_19 ∧ t_19 < ((t_17.length : Nat) : Int) then
      if (h_23.length + ([x1.At, nth t_17 t_19] : List Int).length) * 8 ≤ 140737488355328 then
      slow_visit.l3 K x1 k t_17 t_18 (wr .i64 (t_19 + 1)) h_16 (h_23 ++ ([x1.At, nth t_17 t_19] : List Int))
      else none
      else none
    else
      some ((x1.Kind, x1.A, h_16, x1.Move, x1.List_, h_23) : api_Job)
def slow_visit.l2 (K : Nat) (x1 : api_Job) : Nat → Int → (List Int) → Int → Int → Int → (List Int) → (List Int) → Option api_Job
  | 0, _, _, _, _, _, _, _ => none
  | k + 1, t_12, t_13, t_14, t_15, h_11, h_21, h_22 =>
    if decide (t_15 < t_14) then
      if (0 : Int) ≤ t_15 ∧ t_15 < ((t_13.length : Nat) : Int) then
      if (0 : Int) ≤ (nth t_13 t_15) ∧ (nth t_13 t_15) < ((h_22.length : Nat) : Int) then
      if decide ((nth h_22 (nth t_13 t_15)) < 0) then
        if (0 : Int) ≤ t_12 ∧ t_12 < ((h_22.length : Nat) : Int) then
        if (h_21.length + ([nth t_13 t_15] : List Int).length) * 8 ≤ 140737488355328 then
        if (0 : Int) ≤ (nth t_13 t_15) ∧ (nth t_13 t_15) < ((h_22.length : Nat) : Int) then
        slow_visit.l2 K x1 k t_12 t_13 t_14 (wr .i64 (t_15 + 1)) h_11 (h_21 ++ ([nth t_13 t_15] : List Int)) ((h_22).set (nth t_13 t_15).toNat (wr .i64 ((nth h_22 t_12) + 1)))
        else none
        else none
        else none
      else
        slow_visit.l2 K x1 k t_12 t_13 t_14 (wr .i64 (t_15 + 1)) h_11 h_21 h_22
      else none
      else none
    else
      some ((x1.Kind, x1.A, h_11, x1.Move, h_21, h_22) : api_Job)
def slow_visit.l1 (K : Nat) (x0 : api_Graph) (x1 : api_Job) : Nat → Int → (List Int) → Option api_Job
  | 0, _, _ => none
  | k + 1, h_10, h_20 =>
    if (0 : Int) ≤ x1.At ∧ x1.At < ((x0.Out.length : Nat) : Int) then
    if decide (((h_20.length : Nat) : Int) ≤ (((nth x0.Out x1.At).length : Nat) : Int)) then
      if (h_20.length + ([0] : List Int).length) * 8 ≤ 140737488355328 then
      slow_visit.l1 K x0 x1 k h_10 (h_20 ++ ([0] : List Int))
      else none
    else
      if (0 : Int) ≤ x1.At ∧ x1.At < ((x0.Out.length : Nat) : Int) then
      if (0 : Int) ≤ (((nth x0.Out x1.At).length : Nat) : Int) ∧ (((nth x0.Out x1.At).length : Nat) : Int) < ((h_20.length : Nat) : Int) then
      if (0 : Int) ≤ (((nth x0.Out x1.At).length : Nat) : Int) ∧ (((nth x0.Out x1.At).length : Nat) : Int) < ((h_20.length : Nat) : Int) then
      some ((x1.Kind, x1.A, h_10, x1.Move, x1.List_, (h_20).set (((nth x0.Out x1.At).length : Nat) : Int).toNat (wr .i64 ((nth h_20 (((nth x0.Out x1.At).length : Nat) : Int)) + 1))) : api_Job)
      else none
      else none
      else none
    else none
def slow_visit (K : Nat) (x0 : api_Graph) (x1 : api_Job) : Option api_Job :=
  if (x1.Kind == 5) then
    (slow_part K x0 x1).bind fun r16 =>
    some r16
  else
    if (x1.Kind == 1) then
      if (0 : Int) ≤ x1.A ∧ x1.A < ((x0.Out.length : Nat) : Int) then
      (slices_Clone___int_int_ K (nth x0.Out x1.A)).bind fun r43 =>
      some ((x1.Kind, x1.A, wr .i64 (x1.At + 1), x1.Move, x1.List_, r43) : api_Job)
      else none
    else
      if (x1.Kind == 2) then
        if (0 : Int) ≤ x1.At ∧ x1.At < ((x0.Out.length : Nat) : Int) then
        (slices_Contains___int_int_ K (nth x0.Out x1.At) x1.A).bind fun r57 =>
        if r57 then
          if (x1.Out.length + ([x1.At] : List Int).length) * 8 ≤ 140737488355328 then
          some ((x1.Kind, x1.A, wr .i64 (x1.At + 1), x1.Move, x1.List_, x1.Out ++ ([x1.At] : List Int)) : api_Job)
          else none
        else
          some ((x1.Kind, x1.A, wr .i64 (x1.At + 1), x1.Move, x1.List_, x1.Out) : api_Job)
        else none
      else
        if (x1.Kind == 3) then
          slow_visit.l1 K x0 x1 K (wr .i64 (x1.At + 1)) x1.Out
        else
          if (x1.Kind == 4) then
            if (0 : Int) ≤ x1.At ∧ x1.At < ((x1.List_.length : Nat) : Int) then
            if (0 : Int) ≤ (nth x1.List_ x1.At) ∧ (nth x1.List_ x1.At) < ((x0.Out.length : Nat) : Int) then
            slow_visit.l2 K x1 K (nth x1.List_ x1.At) (nth x0.Out (nth x1.List_ x1.At)) (((nth x0.Out (nth x1.List_ x1.At)).length : Nat) : Int) (0 : Int) (wr .i64 (x1.At + 1)) x1.List_ x1.Out
            else none
            else none
          else
            if (x1.Kind == 6) then
              if (0 : Int) ≤ x1.At ∧ x1.At < ((x0.Out.length : Nat) : Int) then
              slow_visit.l3 K x1 K (nth x0.Out x1.At) (((nth x0.Out x1.At).length : Nat) : Int) (0 : Int) (wr .i64 (x1.At + 1)) x1.Out
              else none
            else
              some ((x1.Kind, x1.A, wr .i64 (x1.At + 1), x1.Move, x1.List_, x1.Out) : api_Job)
abbrev slow_Run.sg : Sig := ⟨[(.agg, Ty_api_Graph), (.one, (.int .i64)), (.one, (.int .i64))], [], [(false, (.int .i64)), (false, (.int .i64))], []⟩
def slow_Run.l1 (K : Nat) (x0 : api_Graph) : Nat → Int → Int → Int → Int → Bool → (List Int) → (List Int) → Option (Int × Int)
  | 0, _, _, _, _, _, _, _ => none
  | k + 1, n_10, j_11, j_12, j_13, j_14, j_15, j_16 =>
    (slow_Over K x0 ((j_11, j_12, j_13, j_14, j_15, j_16) : api_Job)).bind fun r23 =>
    if (!r23) then
      (slow_visit K x0 ((j_11, j_12, j_13, j_14, j_15, j_16) : api_Job)).bind fun r28 =>
      slow_Run.l1 K x0 k (wr .i64 (n_10 + 1)) r28.Kind r28.A r28.At r28.Move r28.List_ r28.Out
    else
      some (n_10, 0)
def slow_Run (K : Nat) (x0 : api_Graph) (x1 : Int) (x2 : Int) : Option (Int × Int) :=
  (slow_Begin K x0 x1 x2).bind fun r15 =>
  if (r15.2 != 0) then
    some (0, r15.2)
  else
    slow_Run.l1 K x0 K (0 : Int) r15.1.Kind r15.1.A r15.1.At r15.1.Move r15.1.List_ r15.1.Out
abbrev herbariumref0_Between.sg : Sig := ⟨[(.one, (.int .i64)), (.one, (.int .i64)), (.one, (.int .i64))], [], [(false, .bool)], []⟩
def herbariumref0_Between (K : Nat) (x0 : Int) (x1 : Int) (x2 : Int) : Option Bool :=
  if decide (x0 ≥ x1) then
    some (decide (x0 ≤ x2))
  else
    some false
abbrev herbariumref10_Named.sg : Sig := ⟨[(.one, (.int .i64))], [], [(false, .bool)], []⟩
def herbariumref10_Named (K : Nat) (x0 : Int) : Option Bool :=
  if (x0 == 1) then
    some true
  else
    if (x0 == 2) then
      some true
    else
      some (x0 == 4)
abbrev herbariumref10_May.sg : Sig := ⟨[(.agg, Ty_api_Graph), (.one, (.int .i64)), (.one, (.int .i64))], [], [(false, (.int .i64))], []⟩
def herbariumref10_May (K : Nat) (x0 : api_Graph) (x1 : Int) (x2 : Int) : Option Int :=
  (herbariumref0_Between K x1 1 6).bind fun r8 =>
  if (!r8) then
    some (1 : Int)
  else
    (herbariumref10_Named K x1).bind fun r11 =>
    if r11 then
      (herbariumref0_Num K x2 (wr .i64 (x0.N - 1))).bind fun r17 =>
      if (!r17) then
        some (3 : Int)
      else
        some (0 : Int)
    else
      some (0 : Int)
abbrev herbariumref10_Begin.sg : Sig := ⟨[(.agg, Ty_api_Graph), (.one, (.int .i64)), (.one, (.int .i64))], [], [(true, Ty_api_Job)], [.s, .s, .s, .s, .o, .o]⟩
def herbariumref10_Begin.l2 (K : Nat) (j_13 : Int) (j_14 : Int) (x0 : api_Graph) (x1 : Int) (x2 : Int) : Nat → Int → (List Int) → Option api_Job
  | 0, _, _ => none
  | k + 1, v_15, j_16 =>
    if decide (v_15 < x0.N) then
      if (x1 == 4) then
        if (j_16.length + ([(-1)] : List Int).length) * 8 ≤ 140737488355328 then
        herbariumref10_Begin.l2 K j_13 j_14 x0 x1 x2 k (wr .i64 (v_15 + 1)) (j_16 ++ ([(-1)] : List Int))
        else none
      else
        if (x1 == 5) then
          if (j_16.length + ([v_15] : List Int).length) * 8 ≤ 140737488355328 then
          herbariumref10_Begin.l2 K j_13 j_14 x0 x1 x2 k (wr .i64 (v_15 + 1)) (j_16 ++ ([v_15] : List Int))
          else none
        else
          herbariumref10_Begin.l2 K j_13 j_14 x0 x1 x2 k (wr .i64 (v_15 + 1)) j_16
    else
      if (x1 == 4) then
        if (0 : Int) ≤ x2 ∧ x2 < ((j_16.length : Nat) : Int) then
        some ((x1, j_13, j_14, false, ([x2] : List Int), (j_16).set x2.toNat 0) : api_Job)
        else none
      else
        some ((x1, j_13, j_14, false, ([] : List Int), j_16) : api_Job)
def herbariumref10_Begin.j1 (K : Nat) (x0 : api_Graph) (x1 : Int) (x2 : Int) (t_10 : Int) (t_11 : Int) (t_12 : Int) (j_13 : Int) (j_14 : Int) : Option api_Job :=
  herbariumref10_Begin.l2 K j_13 j_14 x0 x1 x2 K (0 : Int) ([] : List Int)
def herbariumref10_Begin (K : Nat) (x0 : api_Graph) (x1 : Int) (x2 : Int) : Option api_Job :=
  (herbariumref10_Named K x1).bind fun r12 =>
  if r12 then
    herbariumref10_Begin.j1 K x0 x1 x2 (0 : Int) (0 : Int) (0 : Int) x2 (0 : Int)
  else
    herbariumref10_Begin.j1 K x0 x1 x2 (0 : Int) (0 : Int) (0 : Int) (0 : Int) (0 : Int)
abbrev herbariumref10_Ended.sg : Sig := ⟨[(.agg, Ty_api_Graph), (.agg, Ty_api_Job)], [], [(false, .bool)], []⟩
def herbariumref10_Ended (K : Nat) (x0 : api_Graph) (x1 : api_Job) : Option Bool :=
  if (x1.Kind == 1) then
    some (decide (x1.At ≥ 1))
  else
    if (x1.Kind == 4) then
      some (decide (x1.At ≥ ((x1.List_.length : Nat) : Int)))
    else
      some (decide (x1.At ≥ x0.N))
abbrev herbariumref0_CopyJob.sg : Sig := ⟨[(.agg, Ty_api_Job)], [], [(true, Ty_api_Job)], [.s, .s, .s, .s, .o, .o]⟩
def herbariumref0_CopyJob (K : Nat) (x0 : api_Job) : Option api_Job :=
  (herbariumref0_CopyNumbers K x0.List_).bind fun r7 =>
  (herbariumref0_CopyNumbers K x0.Out).bind fun r11 =>
  some ((x0.Kind, x0.A, x0.At, x0.Move, r7, r11) : api_Job)
abbrev herbariumref0_In.sg : Sig := ⟨[(.one, (.sl (.int .i64))), (.one, (.int .i64))], [], [(false, (.int .i64))], []⟩
def herbariumref0_In.l1 (K : Nat) (x0 : List Int) (x1 : Int) : Nat → Int → Option Int
  | 0, _ => none
  | k + 1, i_10 =>
    if decide (i_10 < ((x0.length : Nat) : Int)) then
      if (0 : Int) ≤ i_10 ∧ i_10 < ((x0.length : Nat) : Int) then
      if ((nth x0 i_10) == x1) then
        some i_10
      else
        herbariumref0_In.l1 K x0 x1 k (wr .i64 (i_10 + 1))
      else none
    else
      some ((-1) : Int)
def herbariumref0_In (K : Nat) (x0 : List Int) (x1 : Int) : Option Int :=
  herbariumref0_In.l1 K x0 x1 K (0 : Int)
abbrev herbariumref10_Visit.sg : Sig := ⟨[(.agg, Ty_api_Graph), (.agg, Ty_api_Job)], [], [(true, Ty_api_Job)], [.s, .s, .s, .s, .o, .o]⟩
def herbariumref10_Visit.j5 (K : Nat) (go_l4 : Int → Int → Bool → (List Int) → Int → Int → Int → Option api_Job) (r13 : api_Job) (t_25 : Int) (t_26 : Int) (t_27 : Int) (t_28 : Int) (t_29 : Int) (t_37 : List Int) (x0 : api_Graph) (t_31 : Int) (t_30 : Bool) : Option api_Job :=
  if (0 : Int) ≤ r13.At ∧ r13.At < ((t_37.length : Nat) : Int) then
  if (0 : Int) ≤ t_31 ∧ t_31 < ((t_37.length : Nat) : Int) then
  if (0 : Int) ≤ r13.At ∧ r13.At < ((t_37.length : Nat) : Int) then
  if (0 : Int) ≤ t_31 ∧ t_31 < ((((t_37).set r13.At.toNat (if (nth t_37 t_31) < (nth t_37 r13.At) then (nth t_37 t_31) else (nth t_37 r13.At))).length : Nat) : Int) then
  go_l4 (wr .i64 (t_29 + 1)) t_25 t_30 (((t_37).set r13.At.toNat (if (nth t_37 t_31) < (nth t_37 r13.At) then (nth t_37 t_31) else (nth t_37 r13.At))).set t_31.toNat (if (nth t_37 t_31) < (nth t_37 r13.At) then (nth t_37 t_31) else (nth t_37 r13.At))) t_26 t_27 t_28
  else none
  else none
  else none
  else none
def herbariumref10_Visit.l4 (K : Nat) (r13 : api_Job) (x0 : api_Graph) : Nat → Int → Int → Bool → (List Int) → Int → Int → Int → Option api_Job
  | 0, _, _, _, _, _, _, _ => none
  | k + 1, t_29, t_25, t_36, t_37, t_26, t_27, t_28 =>
    if (0 : Int) ≤ r13.At ∧ r13.At < ((x0.Out.length : Nat) : Int) then
    if decide (t_29 < (((nth x0.Out r13.At).length : Nat) : Int)) then
      if (0 : Int) ≤ r13.At ∧ r13.At < ((x0.Out.length : Nat) : Int) then
      if (0 : Int) ≤ t_29 ∧ t_29 < (((nth x0.Out r13.At).length : Nat) : Int) then
      if t_36 then
        herbariumref10_Visit.j5 K (herbariumref10_Visit.l4 K r13 x0 k) r13 t_25 t_26 t_27 t_28 t_29 t_37 x0 (nth (nth x0.Out r13.At) t_29) true
      else
        if (0 : Int) ≤ r13.At ∧ r13.At < ((t_37.length : Nat) : Int) then
        if (0 : Int) ≤ (nth (nth x0.Out r13.At) t_29) ∧ (nth (nth x0.Out r13.At) t_29) < ((t_37.length : Nat) : Int) then
        herbariumref10_Visit.j5 K (herbariumref10_Visit.l4 K r13 x0 k) r13 t_25 t_26 t_27 t_28 t_29 t_37 x0 (nth (nth x0.Out r13.At) t_29) ((nth t_37 r13.At) != (nth t_37 (nth (nth x0.Out r13.At) t_29)))
        else none
        else none
      else none
      else none
    else
      if decide (t_25 ≥ x0.N) then
        if t_36 then
          some ((r13.Kind, r13.A, 0, false, r13.List_, t_37) : api_Job)
        else
          some ((r13.Kind, r13.A, t_25, t_36, r13.List_, t_37) : api_Job)
      else
        some ((r13.Kind, r13.A, t_25, t_36, r13.List_, t_37) : api_Job)
    else none
def herbariumref10_Visit.l3 (K : Nat) (r13 : api_Job) (x0 : api_Graph) : Nat → Int → Int → Int → (List Int) → (List Int) → Int → Int → Int → Option api_Job
  | 0, _, _, _, _, _, _, _, _ => none
  | k + 1, t_23, t_24, t_19, t_34, t_35, t_20, t_21, t_22 =>
    if (0 : Int) ≤ t_23 ∧ t_23 < ((x0.Out.length : Nat) : Int) then
    if decide (t_24 < (((nth x0.Out t_23).length : Nat) : Int)) then
      if (0 : Int) ≤ t_23 ∧ t_23 < ((x0.Out.length : Nat) : Int) then
      if (0 : Int) ≤ t_24 ∧ t_24 < (((nth x0.Out t_23).length : Nat) : Int) then
      if (0 : Int) ≤ (nth (nth x0.Out t_23) t_24) ∧ (nth (nth x0.Out t_23) t_24) < ((t_35.length : Nat) : Int) then
      if decide ((nth t_35 (nth (nth x0.Out t_23) t_24)) < 0) then
        if (0 : Int) ≤ t_23 ∧ t_23 < ((t_35.length : Nat) : Int) then
        if (0 : Int) ≤ (nth (nth x0.Out t_23) t_24) ∧ (nth (nth x0.Out t_23) t_24) < ((t_35.length : Nat) : Int) then
        if (t_34.length + ([nth (nth x0.Out t_23) t_24] : List Int).length) * 8 ≤ 140737488355328 then
        herbariumref10_Visit.l3 K r13 x0 k t_23 (wr .i64 (t_24 + 1)) t_19 (t_34 ++ ([nth (nth x0.Out t_23) t_24] : List Int)) ((t_35).set (nth (nth x0.Out t_23) t_24).toNat (wr .i64 ((nth t_35 t_23) + 1))) t_20 t_21 t_22
        else none
        else none
        else none
      else
        herbariumref10_Visit.l3 K r13 x0 k t_23 (wr .i64 (t_24 + 1)) t_19 t_34 t_35 t_20 t_21 t_22
      else none
      else none
      else none
    else
      some ((r13.Kind, r13.A, t_19, r13.Move, t_34, t_35) : api_Job)
    else none
def herbariumref10_Visit.l2 (K : Nat) (r13 : api_Job) (x0 : api_Graph) : Nat → Int → Int → (List Int) → Int → Int → Int → Option api_Job
  | 0, _, _, _, _, _, _ => none
  | k + 1, t_18, t_14, t_33, t_15, t_16, t_17 =>
    if (0 : Int) ≤ r13.At ∧ r13.At < ((x0.Out.length : Nat) : Int) then
    if decide (t_18 < (((nth x0.Out r13.At).length : Nat) : Int)) then
      if (0 : Int) ≤ r13.At ∧ r13.At < ((x0.Out.length : Nat) : Int) then
      if (0 : Int) ≤ t_18 ∧ t_18 < (((nth x0.Out r13.At).length : Nat) : Int) then
      if (t_33.length + ([r13.At, nth (nth x0.Out r13.At) t_18] : List Int).length) * 8 ≤ 140737488355328 then
      herbariumref10_Visit.l2 K r13 x0 k (wr .i64 (t_18 + 1)) t_14 (t_33 ++ ([r13.At, nth (nth x0.Out r13.At) t_18] : List Int)) t_15 t_16 t_17
      else none
      else none
      else none
    else
      some ((r13.Kind, r13.A, t_14, r13.Move, r13.List_, t_33) : api_Job)
    else none
def herbariumref10_Visit.l1 (K : Nat) (r13 : api_Job) (x0 : api_Graph) : Nat → Int → (List Int) → Int → Int → Int → Option api_Job
  | 0, _, _, _, _, _ => none
  | k + 1, t_10, t_32, t_11, t_12, t_13 =>
    if (0 : Int) ≤ r13.At ∧ r13.At < ((x0.Out.length : Nat) : Int) then
    if decide (((t_32.length : Nat) : Int) ≤ (((nth x0.Out r13.At).length : Nat) : Int)) then
      if (t_32.length + ([0] : List Int).length) * 8 ≤ 140737488355328 then
      herbariumref10_Visit.l1 K r13 x0 k t_10 (t_32 ++ ([0] : List Int)) t_11 t_12 t_13
      else none
    else
      if (0 : Int) ≤ r13.At ∧ r13.At < ((x0.Out.length : Nat) : Int) then
      if (0 : Int) ≤ (((nth x0.Out r13.At).length : Nat) : Int) ∧ (((nth x0.Out r13.At).length : Nat) : Int) < ((t_32.length : Nat) : Int) then
      if (0 : Int) ≤ (((nth x0.Out r13.At).length : Nat) : Int) ∧ (((nth x0.Out r13.At).length : Nat) : Int) < ((t_32.length : Nat) : Int) then
      some ((r13.Kind, r13.A, t_10, r13.Move, r13.List_, (t_32).set (((nth x0.Out r13.At).length : Nat) : Int).toNat (wr .i64 ((nth t_32 (((nth x0.Out r13.At).length : Nat) : Int)) + 1))) : api_Job)
      else none
      else none
      else none
    else none
def herbariumref10_Visit (K : Nat) (x0 : api_Graph) (x1 : api_Job) : Option api_Job :=
  (herbariumref0_CopyJob K x1).bind fun r13 =>
  if (r13.Kind == 1) then
    if (0 : Int) ≤ r13.A ∧ r13.A < ((x0.Out.length : Nat) : Int) then
    (herbariumref0_CopyNumbers K (nth x0.Out r13.A)).bind fun r96 =>
    some ((r13.Kind, r13.A, wr .i64 (r13.At + 1), r13.Move, r13.List_, r96) : api_Job)
    else none
  else
    if (r13.Kind == 2) then
      if (0 : Int) ≤ r13.At ∧ r13.At < ((x0.Out.length : Nat) : Int) then
      (herbariumref0_In K (nth x0.Out r13.At) r13.A).bind fun r107 =>
      if decide (r107 ≥ 0) then
        if (r13.Out.length + ([r13.At] : List Int).length) * 8 ≤ 140737488355328 then
        some ((r13.Kind, r13.A, wr .i64 (r13.At + 1), r13.Move, r13.List_, r13.Out ++ ([r13.At] : List Int)) : api_Job)
        else none
      else
        some ((r13.Kind, r13.A, wr .i64 (r13.At + 1), r13.Move, r13.List_, r13.Out) : api_Job)
      else none
    else
      if (r13.Kind == 3) then
        herbariumref10_Visit.l1 K r13 x0 K (wr .i64 (r13.At + 1)) r13.Out (0 : Int) (0 : Int) (0 : Int)
      else
        if (r13.Kind == 6) then
          herbariumref10_Visit.l2 K r13 x0 K (0 : Int) (wr .i64 (r13.At + 1)) r13.Out (0 : Int) (0 : Int) (0 : Int)
        else
          if (r13.Kind == 4) then
            if (0 : Int) ≤ r13.At ∧ r13.At < ((r13.List_.length : Nat) : Int) then
            herbariumref10_Visit.l3 K r13 x0 K (nth r13.List_ r13.At) (0 : Int) (wr .i64 (r13.At + 1)) r13.List_ r13.Out (0 : Int) (0 : Int) (0 : Int)
            else none
          else
            herbariumref10_Visit.l4 K r13 x0 K (0 : Int) (wr .i64 (r13.At + 1)) r13.Move r13.Out (0 : Int) (0 : Int) (0 : Int)
abbrev herbariumref10_Run.sg : Sig := ⟨[(.agg, Ty_api_Graph), (.one, (.int .i64)), (.one, (.int .i64))], [], [(false, (.int .i64))], []⟩
def herbariumref10_Run.l1 (K : Nat) (x0 : api_Graph) : Nat → Int → Int → Int → Int → Bool → (List Int) → (List Int) → Option Int
  | 0, _, _, _, _, _, _, _ => none
  | k + 1, n_10, j_11, j_12, j_13, j_14, j_15, j_16 =>
    (herbariumref10_Ended K x0 ((j_11, j_12, j_13, j_14, j_15, j_16) : api_Job)).bind fun r15 =>
    if (!r15) then
      (herbariumref10_Visit K x0 ((j_11, j_12, j_13, j_14, j_15, j_16) : api_Job)).bind fun r21 =>
      herbariumref10_Run.l1 K x0 k (wr .i64 (n_10 + 1)) r21.Kind r21.A r21.At r21.Move r21.List_ r21.Out
    else
      some n_10
def herbariumref10_Run (K : Nat) (x0 : api_Graph) (x1 : Int) (x2 : Int) : Option Int :=
  (herbariumref10_Begin K x0 x1 x2).bind fun r12 =>
  herbariumref10_Run.l1 K x0 K (0 : Int) r12.Kind r12.A r12.At r12.Move r12.List_ r12.Out
abbrev herbariumlaw11_num.sg : Sig := ⟨[(.one, (.int .i64))], [], [(false, (.int .i64))], []⟩
def herbariumlaw11_num (K : Nat) (x0 : Int) : Option Int :=
  some x0
abbrev herbariumref0_EqNumbers.sg : Sig := ⟨[(.one, (.sl (.int .i64))), (.one, (.sl (.int .i64)))], [], [(false, .bool)], []⟩
def herbariumref0_EqNumbers.l1 (K : Nat) (x0 : List Int) (x1 : List Int) : Nat → Int → Option Bool
  | 0, _ => none
  | k + 1, i_10 =>
    if decide (i_10 < ((x0.length : Nat) : Int)) then
      if (0 : Int) ≤ i_10 ∧ i_10 < ((x0.length : Nat) : Int) then
      if (0 : Int) ≤ i_10 ∧ i_10 < ((x1.length : Nat) : Int) then
      if ((nth x0 i_10) != (nth x1 i_10)) then
        some false
      else
        herbariumref0_EqNumbers.l1 K x0 x1 k (wr .i64 (i_10 + 1))
      else none
      else none
    else
      some true
def herbariumref0_EqNumbers (K : Nat) (x0 : List Int) (x1 : List Int) : Option Bool :=
  if (((x0.length : Nat) : Int) != ((x1.length : Nat) : Int)) then
    some false
  else
    herbariumref0_EqNumbers.l1 K x0 x1 K (0 : Int)
abbrev herbariumref0_EqJob.sg : Sig := ⟨[(.agg, Ty_api_Job), (.agg, Ty_api_Job)], [], [(false, .bool)], []⟩
def herbariumref0_EqJob (K : Nat) (x0 : api_Job) (x1 : api_Job) : Option Bool :=
  if (x0.Kind == x1.Kind) then
    if (x0.A == x1.A) then
      if (x0.At == x1.At) then
        if (x0.Move == x1.Move) then
          (herbariumref0_EqNumbers K x0.List_ x1.List_).bind fun r36 =>
          if r36 then
            (herbariumref0_EqNumbers K x0.Out x1.Out).bind fun r43 =>
            some r43
          else
            some false
        else
          some false
      else
        some false
    else
      some false
  else
    some false
abbrev slices_Equal___int_int_.sg : Sig := ⟨[(.one, (.sl (.int .i64))), (.one, (.sl (.int .i64)))], [], [(false, .bool)], []⟩
def slices_Equal___int_int_.l1 (K : Nat) (x0 : List Int) (x1 : List Int) : Nat → Int → Int → Option Bool
  | 0, _, _ => none
  | k + 1, t_10, t_11 =>
    if decide (t_11 < t_10) then
      if (0 : Int) ≤ t_11 ∧ t_11 < ((x0.length : Nat) : Int) then
      if (0 : Int) ≤ t_11 ∧ t_11 < ((x1.length : Nat) : Int) then
      if ((nth x0 t_11) != (nth x1 t_11)) then
        some false
      else
        slices_Equal___int_int_.l1 K x0 x1 k t_10 (wr .i64 (t_11 + 1))
      else none
      else none
    else
      some true
def slices_Equal___int_int_ (K : Nat) (x0 : List Int) (x1 : List Int) : Option Bool :=
  if (((x0.length : Nat) : Int) != ((x1.length : Nat) : Int)) then
    some false
  else
    slices_Equal___int_int_.l1 K x0 x1 K ((x0.length : Nat) : Int) (0 : Int)
abbrev slow_same.sg : Sig := ⟨[(.agg, Ty_api_Job), (.agg, Ty_api_Job)], [], [(false, .bool)], []⟩
def slow_same (K : Nat) (x0 : api_Job) (x1 : api_Job) : Option Bool :=
  if (x0.Kind == x1.Kind) then
    if (x0.A == x1.A) then
      if (x0.At == x1.At) then
        if (x0.Move == x1.Move) then
          (slices_Equal___int_int_ K x0.List_ x1.List_).bind fun r36 =>
          if r36 then
            (slices_Equal___int_int_ K x0.Out x1.Out).bind fun r43 =>
            some r43
          else
            some false
        else
          some false
      else
        some false
    else
      some false
  else
    some false
abbrev slow_May.sg : Sig := ⟨[(.agg, Ty_api_Graph), (.agg, Ty_api_Job)], [], [(false, .bool)], []⟩
def slow_May.l1 (K : Nat) (x0 : api_Graph) (x1 : api_Job) : Nat → Int → Int → Int → Bool → (List Int) → (List Int) → Option Bool
  | 0, _, _, _, _, _, _ => none
  | k + 1, x_10, x_11, x_12, x_13, x_14, x_15 =>
    (slow_same K ((x_10, x_11, x_12, x_13, x_14, x_15) : api_Job) x1).bind fun r21 =>
    if r21 then
      some true
    else
      (slow_Over K x0 ((x_10, x_11, x_12, x_13, x_14, x_15) : api_Job)).bind fun r25 =>
      if r25 then
        some false
      else
        (slow_visit K x0 ((x_10, x_11, x_12, x_13, x_14, x_15) : api_Job)).bind fun r27 =>
        slow_May.l1 K x0 x1 k r27.Kind r27.A r27.At r27.Move r27.List_ r27.Out
def slow_May (K : Nat) (x0 : api_Graph) (x1 : api_Job) : Option Bool :=
  (slow_Begin K x0 x1.Kind x1.A).bind fun r13 =>
  if (r13.2 != 0) then
    some false
  else
    slow_May.l1 K x0 x1 K r13.1.Kind r13.1.A r13.1.At r13.1.Move r13.1.List_ r13.1.Out
abbrev slow_Own.sg : Sig := ⟨[(.agg, Ty_api_Job)], [], [(true, Ty_api_Job)], [.s, .s, .s, .s, .o, .o]⟩
def slow_Own (K : Nat) (x0 : api_Job) : Option api_Job :=
  (slices_Clone___int_int_ K x0.List_).bind fun r5 =>
  (slices_Clone___int_int_ K x0.Out).bind fun r8 =>
  some ((x0.Kind, x0.A, x0.At, x0.Move, r5, r8) : api_Job)
abbrev slow_Go.sg : Sig := ⟨[(.agg, Ty_api_Graph), (.agg, Ty_api_Job), (.one, (.int .i64))], [], [(true, Ty_api_Job)], [.s, .s, .s, .s, .o, .o]⟩
def slow_Go.l1 (K : Nat) (x0 : api_Graph) : Nat → Int → Int → Int → Int → Bool → (List Int) → (List Int) → Int → Int → Int → Option api_Job
  | 0, _, _, _, _, _, _, _, _, _, _ => none
  | k + 1, n_13, j_14, j_15, j_16, j_17, j_18, j_19, t_10, t_11, t_12 =>
    if decide (n_13 > 0) then
      (slow_Over K x0 ((j_14, j_15, j_16, j_17, j_18, j_19) : api_Job)).bind fun r14 =>
      if (!r14) then
        (slow_visit K x0 ((j_14, j_15, j_16, j_17, j_18, j_19) : api_Job)).bind fun r20 =>
        slow_Go.l1 K x0 k (wr .i64 (n_13 - 1)) r20.Kind r20.A r20.At r20.Move r20.List_ r20.Out t_10 t_11 t_12
      else
        some ((j_14, j_15, j_16, j_17, j_18, j_19) : api_Job)
    else
      some ((j_14, j_15, j_16, j_17, j_18, j_19) : api_Job)
def slow_Go (K : Nat) (x0 : api_Graph) (x1 : api_Job) (x2 : Int) : Option api_Job :=
  (slow_Own K x1).bind fun r8 =>
  slow_Go.l1 K x0 K x2 r8.Kind r8.A r8.At r8.Move r8.List_ r8.Out (0 : Int) (0 : Int) (0 : Int)
abbrev slow_Step.sg : Sig := ⟨[(.agg, Ty_api_Graph), (.agg, Ty_api_Job), (.one, (.int .i64))], [], [(true, Ty_api_Job), (false, (.int .i64))], [.s, .s, .s, .s, .o, .o]⟩
def slow_Step (K : Nat) (x0 : api_Graph) (x1 : api_Job) (x2 : Int) : Option (api_Job × Int) :=
  (slow_May K x0 x1).bind fun r10 =>
  if (!r10) then
    some (((0, 0, 0, false, ([] : List Int), ([] : List Int)) : api_Job), 1)
  else
    if decide (x2 < 0) then
      some (((0, 0, 0, false, ([] : List Int), ([] : List Int)) : api_Job), 1)
    else
      if decide (x2 > 1000) then
        some (((0, 0, 0, false, ([] : List Int), ([] : List Int)) : api_Job), 1)
      else
        (slow_Go K x0 x1 x2).bind fun r24 =>
        some (r24, 0)
abbrev herbariumref10_Step.sg : Sig := ⟨[(.agg, Ty_api_Graph), (.agg, Ty_api_Job), (.one, (.int .i64))], [], [(true, Ty_api_Job)], []⟩
def herbariumref10_Step.l1 (K : Nat) (x0 : api_Graph) (x2 : Int) : Nat → Int → Int → Int → Int → Bool → (List Int) → (List Int) → Int → Int → Int → Option api_Job
  | 0, _, _, _, _, _, _, _, _, _, _ => none
  | k + 1, i_13, j_14, j_15, j_16, j_17, j_18, j_19, t_10, t_11, t_12 =>
    if decide (i_13 < x2) then
      (herbariumref10_Ended K x0 ((j_14, j_15, j_16, j_17, j_18, j_19) : api_Job)).bind fun r14 =>
      if (!r14) then
        (herbariumref10_Visit K x0 ((j_14, j_15, j_16, j_17, j_18, j_19) : api_Job)).bind fun r21 =>
        herbariumref10_Step.l1 K x0 x2 k (wr .i64 (i_13 + 1)) r21.Kind r21.A r21.At r21.Move r21.List_ r21.Out t_10 t_11 t_12
      else
        some ((j_14, j_15, j_16, j_17, j_18, j_19) : api_Job)
    else
      some ((j_14, j_15, j_16, j_17, j_18, j_19) : api_Job)
def herbariumref10_Step (K : Nat) (x0 : api_Graph) (x1 : api_Job) (x2 : Int) : Option api_Job :=
  herbariumref10_Step.l1 K x0 x2 K (0 : Int) x1.Kind x1.A x1.At x1.Move x1.List_ x1.Out (0 : Int) (0 : Int) (0 : Int)
abbrev slow_Ended.sg : Sig := ⟨[(.agg, Ty_api_Graph), (.agg, Ty_api_Job)], [], [(false, .bool), (false, (.int .i64))], []⟩
def slow_Ended (K : Nat) (x0 : api_Graph) (x1 : api_Job) : Option (Bool × Int) :=
  (graph_May K x0).bind fun r7 =>
  if (!r7) then
    some (false, 1)
  else
    if decide (x1.Kind < 1) then
      some (false, 1)
    else
      if decide (x1.Kind > 6) then
        some (false, 1)
      else
        (slow_Over K x0 x1).bind fun r21 =>
        some (r21, 0)
abbrev herbariumlaw0_Numbers.sg : Sig := ⟨[(.one, (.sl (.int .i64)))], [.o], [], []⟩
def herbariumlaw0_Numbers.l1 (K : Nat) : Nat → Int → (List Int) → Option Unit
  | 0, _, _ => none
  | k + 1, i_10, l_11 =>
    if decide (i_10 < ((l_11.length : Nat) : Int)) then
      if (0 : Int) ≤ i_10 ∧ i_10 < ((l_11.length : Nat) : Int) then
      herbariumlaw0_Numbers.l1 K k (wr .i64 (i_10 + 1)) ((l_11).set i_10.toNat (-99))
      else none
    else
      some ()
def herbariumlaw0_Numbers (K : Nat) (x0 : List Int) : Option Unit :=
  herbariumlaw0_Numbers.l1 K K (0 : Int) x0
abbrev herbariumlaw0_Job.sg : Sig := ⟨[(.agg, Ty_api_Job)], [.s, .s, .s, .s, .o, .o], [], []⟩
def herbariumlaw0_Job (K : Nat) (x0 : api_Job) : Option Unit :=
  (herbariumlaw0_Numbers K x0.List_).bind fun r4 =>
  (herbariumlaw0_Numbers K x0.Out).bind fun r7 =>
  some ()
abbrev herbariumref10_Job.sg : Sig := ⟨[(.agg, Ty_api_Graph), (.agg, Ty_api_Job)], [], [(false, .bool)], []⟩
def herbariumref10_Job.l1 (K : Nat) (x0 : api_Graph) (x1 : api_Job) : Nat → Int → Int → Int → Bool → (List Int) → (List Int) → Option Bool
  | 0, _, _, _, _, _, _ => none
  | k + 1, x_10, x_11, x_12, x_13, x_14, x_15 =>
    (herbariumref0_EqJob K ((x_10, x_11, x_12, x_13, x_14, x_15) : api_Job) x1).bind fun r32 =>
    if (!r32) then
      (herbariumref10_Ended K x0 ((x_10, x_11, x_12, x_13, x_14, x_15) : api_Job)).bind fun r36 =>
      if r36 then
        some false
      else
        (herbariumref10_Visit K x0 ((x_10, x_11, x_12, x_13, x_14, x_15) : api_Job)).bind fun r39 =>
        herbariumref10_Job.l1 K x0 x1 k r39.Kind r39.A r39.At r39.Move r39.List_ r39.Out
    else
      some true
def herbariumref10_Job (K : Nat) (x0 : api_Graph) (x1 : api_Job) : Option Bool :=
  (herbariumref10_May K x0 x1.Kind x1.A).bind fun r11 =>
  if (r11 != 0) then
    some false
  else
    (herbariumref10_Named K x1.Kind).bind fun r16 =>
    if (!r16) then
      if (x1.A != 0) then
        some false
      else
        (herbariumref10_Begin K x0 x1.Kind x1.A).bind fun r29 =>
        herbariumref10_Job.l1 K x0 x1 K r29.Kind r29.A r29.At r29.Move r29.List_ r29.Out
    else
      (herbariumref10_Begin K x0 x1.Kind x1.A).bind fun r29 =>
      herbariumref10_Job.l1 K x0 x1 K r29.Kind r29.A r29.At r29.Move r29.List_ r29.Out
abbrev herbariumref0_EqNumberLists.sg : Sig := ⟨[(.one, (.sl (.sl (.int .i64)))), (.one, (.sl (.sl (.int .i64))))], [], [(false, .bool)], []⟩
def herbariumref0_EqNumberLists.l1 (K : Nat) (x0 : List (List Int)) (x1 : List (List Int)) : Nat → Int → Option Bool
  | 0, _ => none
  | k + 1, i_10 =>
    if decide (i_10 < ((x0.length : Nat) : Int)) then
      if (0 : Int) ≤ i_10 ∧ i_10 < ((x0.length : Nat) : Int) then
      if (0 : Int) ≤ i_10 ∧ i_10 < ((x1.length : Nat) : Int) then
      (herbariumref0_EqNumbers K (nth x0 i_10) (nth x1 i_10)).bind fun r25 =>
      if (!r25) then
        some false
      else
        herbariumref0_EqNumberLists.l1 K x0 x1 k (wr .i64 (i_10 + 1))
      else none
      else none
    else
      some true
def herbariumref0_EqNumberLists (K : Nat) (x0 : List (List Int)) (x1 : List (List Int)) : Option Bool :=
  if (((x0.length : Nat) : Int) != ((x1.length : Nat) : Int)) then
    some false
  else
    herbariumref0_EqNumberLists.l1 K x0 x1 K (0 : Int)
abbrev herbariumref0_EqGraph.sg : Sig := ⟨[(.agg, Ty_api_Graph), (.agg, Ty_api_Graph)], [], [(false, .bool)], []⟩
def herbariumref0_EqGraph (K : Nat) (x0 : api_Graph) (x1 : api_Graph) : Option Bool :=
  if (x0.N == x1.N) then
    (herbariumref0_EqNumberLists K x0.Out x1.Out).bind fun r15 =>
    some r15
  else
    some false
abbrev herbariumlaw11_wakes.sg : Sig := ⟨[], [], [(false, .bool)], []⟩
def herbariumlaw11_wakes (K : Nat) : Option Bool :=
  (slow_Run K ((1, ([([] : List Int)] : List (List Int))) : api_Graph) 1 0).bind fun r6 =>
  (herbariumlaw11_num K r6.2).bind fun r10 =>
  if (r10 == 0) then
    some (r6.1 == 1)
  else
    some false
abbrev herbariumlaw11_SlowSteps.sg : Sig := ⟨[(.agg, Ty_herbariumlaw11_Ask)], [], [(false, .bool)], []⟩
def herbariumlaw11_SlowSteps.j11 (K : Nat) (go_l2 : Int → Option Bool) (go_l8 : Int → (List (List Int)) → Option Bool) (r222 : api_Job) (r226 : api_Job × Int) (r232 : Bool × Int) (r64 : api_Graph) (r66 : Bool) (t_10 : List Int) (t_11 : Int) (t_33 : Int) (t_40 : List (List Int)) (t_41 : Int) (t_42 : Int) (t_43 : Int) (t_44 : Int) (t_45 : Bool) (t_46 : List Int) (t_47 : List Int) (x0 : herbariumlaw11_Ask) (t_49 : Int) (t_50 : Bool) : Option Bool :=
  (herbariumlaw11_num K r226.2).bind fun r270 =>
  if (r270 != t_41) then
    some false
  else
    (herbariumref0_EqJob K r226.1 ((t_42, t_43, t_44, t_45, t_46, t_47) : api_Job)).bind fun r276 =>
    if (!r276) then
      some false
    else
      (herbariumlaw11_num K r232.2).bind fun r281 =>
      if (r281 != t_49) then
        some false
      else
        if (!(r232.1 == t_50)) then
          some false
        else
          if (0 : Int) ≤ t_33 ∧ t_33 < ((x0.J.length : Nat) : Int) then
          (herbariumref0_EqJob K r222 (nth x0.J t_33)).bind fun r297 =>
          if (!r297) then
            some false
          else
            go_l8 (wr .i64 (t_33 + 1)) t_40
          else none
def herbariumlaw11_SlowSteps.j12 (K : Nat) (go_l2 : Int → Option Bool) (go_l8 : Int → (List (List Int)) → Option Bool) (r222 : api_Job) (r226 : api_Job × Int) (r232 : Bool × Int) (r64 : api_Graph) (r66 : Bool) (t_10 : List Int) (t_11 : Int) (t_33 : Int) (t_35 : Int) (t_40 : List (List Int)) (t_41 : Int) (t_42 : Int) (t_43 : Int) (t_44 : Int) (t_45 : Bool) (t_46 : List Int) (t_47 : List Int) (x0 : herbariumlaw11_Ask) (t_48 : Bool) : Option Bool :=
  if t_48 then
    if (0 : Int) ≤ t_33 ∧ t_33 < ((x0.J.length : Nat) : Int) then
    (herbariumref10_Ended K ((r64.N, t_40) : api_Graph) (nth x0.J t_33)).bind fun r268 =>
    herbariumlaw11_SlowSteps.j11 K go_l2 go_l8 r222 r226 r232 r64 r66 t_10 t_11 t_33 t_40 t_41 t_42 t_43 t_44 t_45 t_46 t_47 x0 (0 : Int) r268
    else none
  else
    herbariumlaw11_SlowSteps.j11 K go_l2 go_l8 r222 r226 r232 r64 r66 t_10 t_11 t_33 t_40 t_41 t_42 t_43 t_44 t_45 t_46 t_47 x0 t_35 false
def herbariumlaw11_SlowSteps.j9 (K : Nat) (go_l2 : Int → Option Bool) (go_l8 : Int → (List (List Int)) → Option Bool) (r222 : api_Job) (r226 : api_Job × Int) (r232 : Bool × Int) (r64 : api_Graph) (r66 : Bool) (t_10 : List Int) (t_11 : Int) (t_33 : Int) (t_35 : Int) (x0 : herbariumlaw11_Ask) (t_41 : Int) (t_40 : List (List Int)) (t_42 : Int) (t_43 : Int) (t_44 : Int) (t_45 : Bool) (t_46 : List Int) (t_47 : List Int) : Option Bool :=
  if r66 then
    if (0 : Int) ≤ t_33 ∧ t_33 < ((x0.J.length : Nat) : Int) then
    (herbariumref0_Between K ((nth x0.J t_33).Kind) 1 6).bind fun r260 =>
    herbariumlaw11_SlowSteps.j12 K go_l2 go_l8 r222 r226 r232 r64 r66 t_10 t_11 t_33 t_35 t_40 t_41 t_42 t_43 t_44 t_45 t_46 t_47 x0 r260
    else none
  else
    herbariumlaw11_SlowSteps.j12 K go_l2 go_l8 r222 r226 r232 r64 r66 t_10 t_11 t_33 t_35 t_40 t_41 t_42 t_43 t_44 t_45 t_46 t_47 x0 false
def herbariumlaw11_SlowSteps.j10 (K : Nat) (go_l2 : Int → Option Bool) (go_l8 : Int → (List (List Int)) → Option Bool) (r222 : api_Job) (r226 : api_Job × Int) (r232 : Bool × Int) (r64 : api_Graph) (r66 : Bool) (t_10 : List Int) (t_11 : Int) (t_33 : Int) (t_58 : List (List Int)) (x0 : herbariumlaw11_Ask) (t_34 : Int) (t_35 : Int) (t_39 : Bool) (t_36 : Int) (t_37 : Int) (t_38 : Int) : Option Bool :=
  if t_39 then
    if (0 : Int) ≤ t_33 ∧ t_33 < ((x0.J.length : Nat) : Int) then
    (herbariumref10_Step K ((r64.N, t_58) : api_Graph) (nth x0.J t_33) 2).bind fun r251 =>
    herbariumlaw11_SlowSteps.j9 K go_l2 go_l8 r222 r226 r232 r64 r66 t_10 t_11 t_33 t_35 x0 (0 : Int) t_58 r251.Kind r251.A r251.At r251.Move r251.List_ r251.Out
    else none
  else
    herbariumlaw11_SlowSteps.j9 K go_l2 go_l8 r222 r226 r232 r64 r66 t_10 t_11 t_33 t_35 x0 t_34 t_58 t_36 t_37 t_38 false ([] : List Int) ([] : List Int)
def herbariumlaw11_SlowSteps.l8 (K : Nat) (go_l2 : Int → Option Bool) (r64 : api_Graph) (r66 : Bool) (t_10 : List Int) (t_11 : Int) (x0 : herbariumlaw11_Ask) : Nat → Int → (List (List Int)) → Option Bool
  | 0, _, _ => none
  | k + 1, t_33, t_58 =>
    if decide (t_33 < ((x0.J.length : Nat) : Int)) then
      if decide (t_33 < 6) then
        if (0 : Int) ≤ t_33 ∧ t_33 < ((x0.J.length : Nat) : Int) then
        (herbariumref0_CopyJob K (nth x0.J t_33)).bind fun r222 =>
        (slow_Step K ((r64.N, t_58) : api_Graph) r222 2).bind fun r226 =>
        (slow_Ended K ((r64.N, t_58) : api_Graph) r222).bind fun r232 =>
        if r66 then
          if (0 : Int) ≤ t_33 ∧ t_33 < ((x0.J.length : Nat) : Int) then
          (herbariumref10_Job K ((r64.N, t_58) : api_Graph) (nth x0.J t_33)).bind fun r243 =>
          herbariumlaw11_SlowSteps.j10 K go_l2 (herbariumlaw11_SlowSteps.l8 K go_l2 r64 r66 t_10 t_11 x0 k) r222 r226 r232 r64 r66 t_10 t_11 t_33 t_58 x0 (1 : Int) (1 : Int) r243 (0 : Int) (0 : Int) (0 : Int)
          else none
        else
          herbariumlaw11_SlowSteps.j10 K go_l2 (herbariumlaw11_SlowSteps.l8 K go_l2 r64 r66 t_10 t_11 x0 k) r222 r226 r232 r64 r66 t_10 t_11 t_33 t_58 x0 (1 : Int) (1 : Int) false (0 : Int) (0 : Int) (0 : Int)
        else none
      else
        if (0 : Int) ≤ t_11 ∧ t_11 < ((x0.G.G.length : Nat) : Int) then
        (herbariumref0_EqGraph K ((r64.N, t_58) : api_Graph) (nth x0.G.G t_11)).bind fun r307 =>
        if (!r307) then
          some false
        else
          go_l2 (wr .i64 (t_11 + 1))
        else none
    else
      if (0 : Int) ≤ t_11 ∧ t_11 < ((x0.G.G.length : Nat) : Int) then
      (herbariumref0_EqGraph K ((r64.N, t_58) : api_Graph) (nth x0.G.G t_11)).bind fun r307 =>
      if (!r307) then
        some false
      else
        go_l2 (wr .i64 (t_11 + 1))
      else none
def herbariumlaw11_SlowSteps.j7 (K : Nat) (go_l2 : Int → Option Bool) (go_l3 : Int → (List (List Int)) → Option Bool) (go_l4 : Int → (List (List Int)) → Option Bool) (go_l6 : Int → (List (List Int)) → Int → Int → Int → Bool → (List Int) → (List Int) → Option Bool) (r140 : api_Job) (r148 : api_Job × Int) (r64 : api_Graph) (r66 : Bool) (t_10 : List Int) (t_11 : Int) (t_12 : Int) (t_13 : Int) (t_14 : Int) (t_22 : Int) (t_52 : Int) (t_53 : Int) (t_54 : Int) (t_55 : Bool) (x0 : herbariumlaw11_Ask) (t_26 : Int) (t_23 : List (List Int)) (t_24 : List Int) (t_25 : List Int) (t_27 : Int) (t_28 : Int) (t_29 : Int) (t_30 : Bool) (t_31 : List Int) (t_32 : List Int) : Option Bool :=
  (slow_Ended K ((r64.N, t_23) : api_Graph) ((t_27, t_28, t_29, t_30, t_31, t_32) : api_Job)).bind fun r166 =>
  (herbariumlaw11_num K r148.2).bind fun r170 =>
  if (r170 != t_26) then
    some false
  else
    (herbariumref0_EqJob K r148.1 ((t_27, t_28, t_29, t_30, t_31, t_32) : api_Job)).bind fun r176 =>
    if (!r176) then
      some false
    else
      (herbariumref0_EqJob K r140 ((t_52, t_53, t_54, t_55, t_24, t_25) : api_Job)).bind fun r182 =>
      if (!r182) then
        some false
      else
        if (t_26 == 0) then
          (herbariumlaw11_num K r166.2).bind fun r190 =>
          if (r190 != 0) then
            some false
          else
            (herbariumref10_Ended K ((r64.N, t_23) : api_Graph) ((t_27, t_28, t_29, t_30, t_31, t_32) : api_Job)).bind fun r196 =>
            if (!(r166.1 == r196)) then
              some false
            else
              (herbariumlaw0_Job K r148.1).bind fun r202 =>
              if (t_26 == 0) then
                go_l6 (wr .i64 (t_22 + 1)) t_23 t_27 t_28 t_29 t_30 t_31 t_32
              else
                go_l6 (wr .i64 (t_22 + 1)) t_23 t_52 t_53 t_54 t_55 t_24 t_25
        else
          (herbariumlaw0_Job K r148.1).bind fun r202 =>
          if (t_26 == 0) then
            go_l6 (wr .i64 (t_22 + 1)) t_23 t_27 t_28 t_29 t_30 t_31 t_32
          else
            go_l6 (wr .i64 (t_22 + 1)) t_23 t_52 t_53 t_54 t_55 t_24 t_25
def herbariumlaw11_SlowSteps.l6 (K : Nat) (go_l2 : Int → Option Bool) (go_l3 : Int → (List (List Int)) → Option Bool) (go_l4 : Int → (List (List Int)) → Option Bool) (r64 : api_Graph) (r66 : Bool) (t_10 : List Int) (t_11 : Int) (t_12 : Int) (t_13 : Int) (t_14 : Int) (x0 : herbariumlaw11_Ask) : Nat → Int → (List (List Int)) → Int → Int → Int → Bool → (List Int) → (List Int) → Option Bool
  | 0, _, _, _, _, _, _, _, _ => none
  | k + 1, t_22, t_51, t_52, t_53, t_54, t_55, t_56, t_57 =>
    if decide (t_22 < ((t_10.length : Nat) : Int)) then
      if (t_14 == 0) then
        (herbariumref0_CopyJob K ((t_52, t_53, t_54, t_55, t_56, t_57) : api_Job)).bind fun r140 =>
        if (0 : Int) ≤ t_22 ∧ t_22 < ((t_10.length : Nat) : Int) then
        (slow_Step K ((r64.N, t_51) : api_Graph) r140 (nth t_10 t_22)).bind fun r148 =>
        if (0 : Int) ≤ t_22 ∧ t_22 < ((t_10.length : Nat) : Int) then
        (herbariumref0_Num K (nth t_10 t_22) 1000).bind fun r155 =>
        if r155 then
          if (0 : Int) ≤ t_22 ∧ t_22 < ((t_10.length : Nat) : Int) then
          (herbariumref10_Step K ((r64.N, t_51) : api_Graph) ((t_52, t_53, t_54, t_55, t_56, t_57) : api_Job) (nth t_10 t_22)).bind fun r162 =>
          herbariumlaw11_SlowSteps.j7 K go_l2 go_l3 go_l4 (herbariumlaw11_SlowSteps.l6 K go_l2 go_l3 go_l4 r64 r66 t_10 t_11 t_12 t_13 t_14 x0 k) r140 r148 r64 r66 t_10 t_11 t_12 t_13 t_14 t_22 t_52 t_53 t_54 t_55 x0 (0 : Int) t_51 t_56 t_57 r162.Kind r162.A r162.At r162.Move r162.List_ r162.Out
          else none
        else
          herbariumlaw11_SlowSteps.j7 K go_l2 go_l3 go_l4 (herbariumlaw11_SlowSteps.l6 K go_l2 go_l3 go_l4 r64 r66 t_10 t_11 t_12 t_13 t_14 x0 k) r140 r148 r64 r66 t_10 t_11 t_12 t_13 t_14 t_22 t_52 t_53 t_54 t_55 x0 (1 : Int) t_51 t_56 t_57 (0 : Int) (0 : Int) (0 : Int) false ([] : List Int) ([] : List Int)
        else none
        else none
      else
        go_l4 (wr .i64 (t_13 + 1)) t_51
    else
      go_l4 (wr .i64 (t_13 + 1)) t_51
def herbariumlaw11_SlowSteps.j5 (K : Nat) (go_l2 : Int → Option Bool) (go_l3 : Int → (List (List Int)) → Option Bool) (go_l4 : Int → (List (List Int)) → Option Bool) (r64 : api_Graph) (r66 : Bool) (r83 : api_Job × Int) (r90 : Int × Int) (t_10 : List Int) (t_11 : Int) (t_12 : Int) (t_13 : Int) (t_59 : List (List Int)) (x0 : herbariumlaw11_Ask) (t_14 : Int) (t_15 : Int) (t_16 : Int) (t_17 : Int) (t_18 : Int) (t_19 : Bool) (t_20 : List Int) (t_21 : List Int) : Option Bool :=
  (herbariumlaw11_num K r83.2).bind fun r109 =>
  if (r109 != t_14) then
    some false
  else
    (herbariumref0_EqJob K r83.1 ((t_16, t_17, t_18, t_19, t_20, t_21) : api_Job)).bind fun r115 =>
    if (!r115) then
      some false
    else
      (herbariumlaw11_num K r90.2).bind fun r120 =>
      if (r120 != t_14) then
        some false
      else
        if (r90.1 != t_15) then
          some false
        else
          herbariumlaw11_SlowSteps.l6 K go_l2 go_l3 go_l4 r64 r66 t_10 t_11 t_12 t_13 t_14 x0 K (0 : Int) t_59 t_16 t_17 t_18 t_19 t_20 t_21
def herbariumlaw11_SlowSteps.l4 (K : Nat) (go_l2 : Int → Option Bool) (go_l3 : Int → (List (List Int)) → Option Bool) (r64 : api_Graph) (r66 : Bool) (t_10 : List Int) (t_11 : Int) (t_12 : Int) (x0 : herbariumlaw11_Ask) : Nat → Int → (List (List Int)) → Option Bool
  | 0, _, _ => none
  | k + 1, t_13, t_59 =>
    if decide (t_13 < 3) then
      if (0 : Int) ≤ t_13 ∧ t_13 < ((([0, 3, (-1)] : List Int).length : Nat) : Int) then
      (slow_Begin K ((r64.N, t_59) : api_Graph) t_12 (nth ([0, 3, (-1)] : List Int) t_13)).bind fun r83 =>
      (slow_Run K ((r64.N, t_59) : api_Graph) t_12 (nth ([0, 3, (-1)] : List Int) t_13)).bind fun r90 =>
      if r66 then
        (herbariumref10_May K ((r64.N, t_59) : api_Graph) t_12 (nth ([0, 3, (-1)] : List Int) t_13)).bind fun r97 =>
        if (r97 == 0) then
          (herbariumref10_Begin K ((r64.N, t_59) : api_Graph) t_12 (nth ([0, 3, (-1)] : List Int) t_13)).bind fun r103 =>
          (herbariumref10_Run K ((r64.N, t_59) : api_Graph) t_12 (nth ([0, 3, (-1)] : List Int) t_13)).bind fun r107 =>
          herbariumlaw11_SlowSteps.j5 K go_l2 go_l3 (herbariumlaw11_SlowSteps.l4 K go_l2 go_l3 r64 r66 t_10 t_11 t_12 x0 k) r64 r66 r83 r90 t_10 t_11 t_12 t_13 t_59 x0 r97 r107 r103.Kind r103.A r103.At r103.Move r103.List_ r103.Out
        else
          herbariumlaw11_SlowSteps.j5 K go_l2 go_l3 (herbariumlaw11_SlowSteps.l4 K go_l2 go_l3 r64 r66 t_10 t_11 t_12 x0 k) r64 r66 r83 r90 t_10 t_11 t_12 t_13 t_59 x0 r97 (0 : Int) (0 : Int) (0 : Int) (0 : Int) false ([] : List Int) ([] : List Int)
      else
        herbariumlaw11_SlowSteps.j5 K go_l2 go_l3 (herbariumlaw11_SlowSteps.l4 K go_l2 go_l3 r64 r66 t_10 t_11 t_12 x0 k) r64 r66 r83 r90 t_10 t_11 t_12 t_13 t_59 x0 (1 : Int) (0 : Int) (0 : Int) (0 : Int) (0 : Int) false ([] : List Int) ([] : List Int)
      else none
    else
      go_l3 (wr .i64 (t_12 + 1)) t_59
def herbariumlaw11_SlowSteps.l3 (K : Nat) (go_l2 : Int → Option Bool) (r64 : api_Graph) (r66 : Bool) (t_10 : List Int) (t_11 : Int) (x0 : herbariumlaw11_Ask) : Nat → Int → (List (List Int)) → Option Bool
  | 0, _, _ => none
  | k + 1, t_12, t_60 =>
    if decide (t_12 ≤ 7) then
      herbariumlaw11_SlowSteps.l4 K go_l2 (herbariumlaw11_SlowSteps.l3 K go_l2 r64 r66 t_10 t_11 x0 k) r64 r66 t_10 t_11 t_12 x0 K (0 : Int) t_60
    else
      herbariumlaw11_SlowSteps.l8 K go_l2 r64 r66 t_10 t_11 x0 K (0 : Int) t_60
def herbariumlaw11_SlowSteps.l2 (K : Nat) (t_10 : List Int) (x0 : herbariumlaw11_Ask) : Nat → Int → Option Bool
  | 0, _ => none
  | k + 1, t_11 =>
    if decide (t_11 < ((x0.G.G.length : Nat) : Int)) then
      if decide (t_11 < 4) then
        if (0 : Int) ≤ t_11 ∧ t_11 < ((x0.G.G.length : Nat) : Int) then
        (herbariumref0_CopyGraph K (nth x0.G.G t_11)).bind fun r64 =>
        (herbariumref6_Graph K r64).bind fun r66 =>
        herbariumlaw11_SlowSteps.l3 K (herbariumlaw11_SlowSteps.l2 K t_10 x0 k) r64 r66 t_10 t_11 x0 K ((-1) : Int) r64.Out
        else none
      else
        (herbariumlaw11_wakes K).bind fun r309 =>
        some r309
    else
      (herbariumlaw11_wakes K).bind fun r309 =>
      some r309
def herbariumlaw11_SlowSteps.j1 (K : Nat) (x0 : herbariumlaw11_Ask) (t_10 : List Int) : Option Bool :=
  herbariumlaw11_SlowSteps.l2 K t_10 x0 K (0 : Int)
def herbariumlaw11_SlowSteps (K : Nat) (x0 : herbariumlaw11_Ask) : Option Bool :=
  (herbariumlaw11_Heavy K x0).bind fun r36 =>
  if r36 then
    some true
  else
    if (([1, 0, 3] : List Int).length + x0.N.length) * 8 ≤ 140737488355328 then
    if decide ((((([1, 0, 3] : List Int) ++ x0.N).length : Nat) : Int) > 7) then
      if (0 : Int) ≤ (7 : Int) ∧ (7 : Int) ≤ (((([1, 0, 3] : List Int) ++ x0.N).length : Nat) : Int) then
      herbariumlaw11_SlowSteps.j1 K x0 ((([1, 0, 3] : List Int) ++ x0.N).take (7 : Int).toNat)
      else none
    else
      herbariumlaw11_SlowSteps.j1 K x0 (([1, 0, 3] : List Int) ++ x0.N)
    else none
abbrev herbariumlaw7_Made.sg : Sig := ⟨[(.one, (.int .i64)), (.one, (.int .i64))], [], [(true, Ty_api_Graph)], [.s, .o]⟩
def herbariumlaw7_Made.l2 (K : Nat) (go_l1 : Int → Int → (List (List Int)) → Option api_Graph) (t_10 : Int) (t_12 : Int) (x0 : Int) (x1 : Int) : Nat → Int → (List (List Int)) → Option api_Graph
  | 0, _, _ => none
  | k + 1, t_13, t_14 =>
    if decide (t_13 < (if (10 : Int) < x0 then (10 : Int) else x0)) then
      if decide (t_12 < 10) then
        if (0 : Int) ≤ t_12 ∧ t_12 < ((t_14.length : Nat) : Int) then
        if ((nth t_14 t_12).length + ([t_13] : List Int).length) * 8 ≤ 140737488355328 then
        if (0 : Int) ≤ t_12 ∧ t_12 < ((t_14.length : Nat) : Int) then
        if t_12 = t_12 then
        herbariumlaw7_Made.l2 K go_l1 t_10 t_12 x0 x1 k (wr .i64 (t_13 + 1)) ((t_14).set t_12.toNat ((nth t_14 t_12) ++ ([t_13] : List Int)))
        else none
        else none
        else none
        else none
      else
        go_l1 (wr .i64 (t_12 + 1)) t_10 t_14
    else
      go_l1 (wr .i64 (t_12 + 1)) t_10 t_14
def herbariumlaw7_Made.l1 (K : Nat) (x0 : Int) (x1 : Int) : Nat → Int → Int → (List (List Int)) → Option api_Graph
  | 0, _, _, _ => none
  | k + 1, t_12, t_10, t_11 =>
    if decide (t_12 < x0) then
      if (x1 == 0) then
        if x0 ≠ 0 then
        if (0 : Int) ≤ t_12 ∧ t_12 < ((t_11.length : Nat) : Int) then
        herbariumlaw7_Made.l1 K x0 x1 k (wr .i64 (t_12 + 1)) t_10 ((t_11).set t_12.toNat ([(wr .i64 (t_12 + 1)).tmod x0] : List Int))
        else none
        else none
      else
        if (x1 == 1) then
          if decide ((wr .i64 (t_12 + 1)) < x0) then
            if (0 : Int) ≤ t_12 ∧ t_12 < ((t_11.length : Nat) : Int) then
            herbariumlaw7_Made.l1 K x0 x1 k (wr .i64 (t_12 + 1)) t_10 ((t_11).set t_12.toNat ([wr .i64 (t_12 + 1)] : List Int))
            else none
          else
            herbariumlaw7_Made.l1 K x0 x1 k (wr .i64 (t_12 + 1)) t_10 t_11
        else
          if (x1 == 2) then
            if decide (t_12 > 0) then
              if (0 : Int) ≤ (0 : Int) ∧ (0 : Int) < ((t_11.length : Nat) : Int) then
              if ((nth t_11 0).length + ([t_12] : List Int).length) * 8 ≤ 140737488355328 then
              if (0 : Int) ≤ (0 : Int) ∧ (0 : Int) < ((t_11.length : Nat) : Int) then
              if (0 : Int) = (0 : Int) then
              herbariumlaw7_Made.l1 K x0 x1 k (wr .i64 (t_12 + 1)) t_10 ((t_11).set (0 : Int).toNat ((nth t_11 0) ++ ([t_12] : List Int)))
              else none
              else none
              else none
              else none
            else
              herbariumlaw7_Made.l1 K x0 x1 k (wr .i64 (t_12 + 1)) t_10 t_11
          else
            herbariumlaw7_Made.l2 K (herbariumlaw7_Made.l1 K x0 x1 k) t_10 t_12 x0 x1 K (0 : Int) t_11
    else
      some ((x0, t_11) : api_Graph)
def herbariumlaw7_Made (K : Nat) (x0 : Int) (x1 : Int) : Option api_Graph :=
  if x0 = x0 ∧ (0 : Int) ≤ x0 ∧ (24 : Int) * x0 ≤ 281474976710656 ∧ x0 ≤ 9223372036854775807 then
  herbariumlaw7_Made.l1 K x0 x1 K (0 : Int) (0 : Int) (List.replicate x0.toNat ([] : List Int))
  else none
abbrev herbariumref6_New.sg : Sig := ⟨[(.one, (.int .i64))], [], [(true, Ty_api_Graph)], [.s, .o]⟩
def herbariumref6_New (K : Nat) (x0 : Int) : Option api_Graph :=
  if x0 = x0 ∧ (0 : Int) ≤ x0 ∧ (24 : Int) * x0 ≤ 281474976710656 ∧ x0 ≤ 9223372036854775807 then
  some ((x0, List.replicate x0.toNat ([] : List Int)) : api_Graph)
  else none
abbrev api_Pair : Type := Int × Int
abbrev Ty_api_Pair : Ty := (.pr (.int .i64) (.int .i64))
abbrev api_Pair.A (x : api_Pair) : Int := x.1
abbrev api_Pair.B (x : api_Pair) : Int := x.2
abbrev herbariumref6_Pairs.sg : Sig := ⟨[(.agg, Ty_api_Graph)], [], [(false, (.sl Ty_api_Pair))], [.o]⟩
def herbariumref6_Pairs.l2 (K : Nat) (go_l1 : Int → (List api_Pair) → Option (List api_Pair)) (i_10 : Int) (x0 : api_Graph) : Nat → Int → (List api_Pair) → Option (List api_Pair)
  | 0, _, _ => none
  | k + 1, k_11, l_12 =>
    if (0 : Int) ≤ i_10 ∧ i_10 < ((x0.Out.length : Nat) : Int) then
    if decide (k_11 < (((nth x0.Out i_10).length : Nat) : Int)) then
      if (0 : Int) ≤ i_10 ∧ i_10 < ((x0.Out.length : Nat) : Int) then
      if (0 : Int) ≤ k_11 ∧ k_11 < (((nth x0.Out i_10).length : Nat) : Int) then
      if (l_12.length + ([((i_10, nth (nth x0.Out i_10) k_11) : api_Pair)] : List api_Pair).length) * 16 ≤ 140737488355328 then
      herbariumref6_Pairs.l2 K go_l1 i_10 x0 k (wr .i64 (k_11 + 1)) (l_12 ++ ([((i_10, nth (nth x0.Out i_10) k_11) : api_Pair)] : List api_Pair))
      else none
      else none
      else none
    else
      go_l1 (wr .i64 (i_10 + 1)) l_12
    else none
def herbariumref6_Pairs.l1 (K : Nat) (x0 : api_Graph) : Nat → Int → (List api_Pair) → Option (List api_Pair)
  | 0, _, _ => none
  | k + 1, i_10, l_13 =>
    if decide (i_10 < x0.N) then
      herbariumref6_Pairs.l2 K (herbariumref6_Pairs.l1 K x0 k) i_10 x0 K (0 : Int) l_13
    else
      some l_13
def herbariumref6_Pairs (K : Nat) (x0 : api_Graph) : Option (List api_Pair) :=
  herbariumref6_Pairs.l1 K x0 K (0 : Int) ([] : List api_Pair)
abbrev herbariumref6_Turn.sg : Sig := ⟨[(.agg, Ty_api_Graph)], [], [(true, Ty_api_Graph)], [.s, .o]⟩
def herbariumref6_Turn.l1 (K : Nat) (r10 : List api_Pair) (r8 : api_Graph) : Nat → Int → Int → (List (List Int)) → Option api_Graph
  | 0, _, _, _ => none
  | k + 1, i_11, t_10, x_12 =>
    if decide (i_11 < ((r10.length : Nat) : Int)) then
      if (0 : Int) ≤ i_11 ∧ i_11 < ((r10.length : Nat) : Int) then
      if (0 : Int) ≤ i_11 ∧ i_11 < ((r10.length : Nat) : Int) then
      if (0 : Int) ≤ ((nth r10 i_11).B) ∧ ((nth r10 i_11).B) < ((x_12.length : Nat) : Int) then
      if (0 : Int) ≤ i_11 ∧ i_11 < ((r10.length : Nat) : Int) then
      if ((nth x_12 ((nth r10 i_11).B)).length + ([(nth r10 i_11).A] : List Int).length) * 8 ≤ 140737488355328 then
      if (0 : Int) ≤ ((nth r10 i_11).B) ∧ ((nth r10 i_11).B) < ((x_12.length : Nat) : Int) then
      if ((nth r10 i_11).B) = ((nth r10 i_11).B) then
      herbariumref6_Turn.l1 K r10 r8 k (wr .i64 (i_11 + 1)) t_10 ((x_12).set ((nth r10 i_11).B).toNat ((nth x_12 ((nth r10 i_11).B)) ++ ([(nth r10 i_11).A] : List Int)))
      else none
      else none
      else none
      else none
      else none
      else none
      else none
    else
      some ((r8.N, x_12) : api_Graph)
def herbariumref6_Turn (K : Nat) (x0 : api_Graph) : Option api_Graph :=
  (herbariumref6_New K x0.N).bind fun r8 =>
  (herbariumref6_Pairs K x0).bind fun r10 =>
  herbariumref6_Turn.l1 K r10 r8 K (0 : Int) (0 : Int) r8.Out
abbrev herbariumref10_Count.sg : Sig := ⟨[(.agg, Ty_api_Graph)], [], [(false, (.sl (.int .i64)))], [.o]⟩
def herbariumref10_Count.l2 (K : Nat) (go_l1 : Int → (List Int) → Option (List Int)) (v_10 : Int) (x0 : api_Graph) : Nat → (List Int) → Option (List Int)
  | 0, _ => none
  | k + 1, l_11 =>
    if (0 : Int) ≤ v_10 ∧ v_10 < ((x0.Out.length : Nat) : Int) then
    if decide (((l_11.length : Nat) : Int) ≤ (((nth x0.Out v_10).length : Nat) : Int)) then
      if (l_11.length + ([0] : List Int).length) * 8 ≤ 140737488355328 then
      herbariumref10_Count.l2 K go_l1 v_10 x0 k (l_11 ++ ([0] : List Int))
      else none
    else
      if (0 : Int) ≤ v_10 ∧ v_10 < ((x0.Out.length : Nat) : Int) then
      if (0 : Int) ≤ (((nth x0.Out v_10).length : Nat) : Int) ∧ (((nth x0.Out v_10).length : Nat) : Int) < ((l_11.length : Nat) : Int) then
      if (0 : Int) ≤ (((nth x0.Out v_10).length : Nat) : Int) ∧ (((nth x0.Out v_10).length : Nat) : Int) < ((l_11.length : Nat) : Int) then
      go_l1 (wr .i64 (v_10 + 1)) ((l_11).set (((nth x0.Out v_10).length : Nat) : Int).toNat (wr .i64 ((nth l_11 (((nth x0.Out v_10).length : Nat) : Int)) + 1)))
      else none
      else none
      else none
    else none
def herbariumref10_Count.l1 (K : Nat) (x0 : api_Graph) : Nat → Int → (List Int) → Option (List Int)
  | 0, _, _ => none
  | k + 1, v_10, l_12 =>
    if decide (v_10 < x0.N) then
      herbariumref10_Count.l2 K (herbariumref10_Count.l1 K x0 k) v_10 x0 K l_12
    else
      some l_12
def herbariumref10_Count (K : Nat) (x0 : api_Graph) : Option (List Int) :=
  herbariumref10_Count.l1 K x0 K (0 : Int) ([] : List Int)
abbrev herbariumref10_Far.sg : Sig := ⟨[(.agg, Ty_api_Graph), (.one, (.int .i64))], [], [(false, (.sl (.int .i64)))], [.o]⟩
def herbariumref10_Far.l4 (K : Nat) (go_l2 : Int → (List Int) → Option (List Int)) (go_l3 : Int → (List Int) → Option (List Int)) (t_13 : Int) (t_14 : Int) (x0 : api_Graph) : Nat → Int → (List Int) → Option (List Int)
  | 0, _, _ => none
  | k + 1, t_15, t_16 =>
    if (0 : Int) ≤ t_14 ∧ t_14 < ((x0.Out.length : Nat) : Int) then
    if decide (t_15 < (((nth x0.Out t_14).length : Nat) : Int)) then
      if (0 : Int) ≤ t_14 ∧ t_14 < ((t_16.length : Nat) : Int) then
      if ((nth t_16 t_14) == t_13) then
        if (0 : Int) ≤ t_14 ∧ t_14 < ((x0.Out.length : Nat) : Int) then
        if (0 : Int) ≤ t_15 ∧ t_15 < (((nth x0.Out t_14).length : Nat) : Int) then
        if (0 : Int) ≤ (nth (nth x0.Out t_14) t_15) ∧ (nth (nth x0.Out t_14) t_15) < ((t_16.length : Nat) : Int) then
        if decide ((nth t_16 (nth (nth x0.Out t_14) t_15)) < 0) then
          if (0 : Int) ≤ t_14 ∧ t_14 < ((x0.Out.length : Nat) : Int) then
          if (0 : Int) ≤ t_15 ∧ t_15 < (((nth x0.Out t_14).length : Nat) : Int) then
          if (0 : Int) ≤ (nth (nth x0.Out t_14) t_15) ∧ (nth (nth x0.Out t_14) t_15) < ((t_16.length : Nat) : Int) then
          herbariumref10_Far.l4 K go_l2 go_l3 t_13 t_14 x0 k (wr .i64 (t_15 + 1)) ((t_16).set (nth (nth x0.Out t_14) t_15).toNat (wr .i64 (t_13 + 1)))
          else none
          else none
          else none
        else
          herbariumref10_Far.l4 K go_l2 go_l3 t_13 t_14 x0 k (wr .i64 (t_15 + 1)) t_16
        else none
        else none
        else none
      else
        go_l3 (wr .i64 (t_14 + 1)) t_16
      else none
    else
      go_l3 (wr .i64 (t_14 + 1)) t_16
    else none
def herbariumref10_Far.l3 (K : Nat) (go_l2 : Int → (List Int) → Option (List Int)) (t_13 : Int) (x0 : api_Graph) : Nat → Int → (List Int) → Option (List Int)
  | 0, _, _ => none
  | k + 1, t_14, t_17 =>
    if decide (t_14 < x0.N) then
      herbariumref10_Far.l4 K go_l2 (herbariumref10_Far.l3 K go_l2 t_13 x0 k) t_13 t_14 x0 K (0 : Int) t_17
    else
      go_l2 (wr .i64 (t_13 + 1)) t_17
def herbariumref10_Far.l2 (K : Nat) (x0 : api_Graph) : Nat → Int → (List Int) → Option (List Int)
  | 0, _, _ => none
  | k + 1, t_13, t_12 =>
    if decide (t_13 < x0.N) then
      herbariumref10_Far.l3 K (herbariumref10_Far.l2 K x0 k) t_13 x0 K (0 : Int) t_12
    else
      some t_12
def herbariumref10_Far.l1 (K : Nat) (x0 : api_Graph) (x1 : Int) : Nat → Int → (List Int) → Option (List Int)
  | 0, _, _ => none
  | k + 1, t_11, t_10 =>
    if decide (t_11 < x0.N) then
      if (0 : Int) ≤ t_11 ∧ t_11 < ((t_10.length : Nat) : Int) then
      herbariumref10_Far.l1 K x0 x1 k (wr .i64 (t_11 + 1)) ((t_10).set t_11.toNat (-1))
      else none
    else
      if (0 : Int) ≤ x1 ∧ x1 < ((t_10.length : Nat) : Int) then
      herbariumref10_Far.l2 K x0 K (0 : Int) ((t_10).set x1.toNat 0)
      else none
def herbariumref10_Far (K : Nat) (x0 : api_Graph) (x1 : Int) : Option (List Int) :=
  if x0.N = x0.N ∧ (0 : Int) ≤ x0.N ∧ (8 : Int) * x0.N ≤ 281474976710656 ∧ x0.N ≤ 9223372036854775807 then
  herbariumref10_Far.l1 K x0 x1 K (0 : Int) (List.replicate x0.N.toNat (0 : Int))
  else none
abbrev herbariumref10_Part.sg : Sig := ⟨[(.agg, Ty_api_Graph)], [], [(false, (.sl (.int .i64)))], [.o]⟩
def herbariumref10_Part.l4 (K : Nat) (go_l2 : Int → (List Int) → Option (List Int)) (go_l3 : Int → (List Int) → Option (List Int)) (t_12 : Int) (t_13 : Int) (x0 : api_Graph) : Nat → Int → (List Int) → Option (List Int)
  | 0, _, _ => none
  | k + 1, t_14, t_15 =>
    if (0 : Int) ≤ t_13 ∧ t_13 < ((x0.Out.length : Nat) : Int) then
    if decide (t_14 < (((nth x0.Out t_13).length : Nat) : Int)) then
      if (0 : Int) ≤ t_13 ∧ t_13 < ((x0.Out.length : Nat) : Int) then
      if (0 : Int) ≤ t_14 ∧ t_14 < (((nth x0.Out t_13).length : Nat) : Int) then
      if (0 : Int) ≤ t_13 ∧ t_13 < ((t_15.length : Nat) : Int) then
      if (0 : Int) ≤ (nth (nth x0.Out t_13) t_14) ∧ (nth (nth x0.Out t_13) t_14) < ((t_15.length : Nat) : Int) then
      if (0 : Int) ≤ t_13 ∧ t_13 < ((t_15.length : Nat) : Int) then
      if (0 : Int) ≤ (nth (nth x0.Out t_13) t_14) ∧ (nth (nth x0.Out t_13) t_14) < ((((t_15).set t_13.toNat (if (nth t_15 (nth (nth x0.Out t_13) t_14)) < (nth t_15 t_13) then (nth t_15 (nth (nth x0.Out t_13) t_14)) else (nth t_15 t_13))).length : Nat) : Int) then
      herbariumref10_Part.l4 K go_l2 go_l3 t_12 t_13 x0 k (wr .i64 (t_14 + 1)) (((t_15).set t_13.toNat (if (nth t_15 (nth (nth x0.Out t_13) t_14)) < (nth t_15 t_13) then (nth t_15 (nth (nth x0.Out t_13) t_14)) else (nth t_15 t_13))).set (nth (nth x0.Out t_13) t_14).toNat (if (nth t_15 (nth (nth x0.Out t_13) t_14)) < (nth t_15 t_13) then (nth t_15 (nth (nth x0.Out t_13) t_14)) else (nth t_15 t_13)))
      else none
      else none
      else none
      else none
      else none
      else none
    else
      go_l3 (wr .i64 (t_13 + 1)) t_15
    else none
def herbariumref10_Part.l3 (K : Nat) (go_l2 : Int → (List Int) → Option (List Int)) (t_12 : Int) (x0 : api_Graph) : Nat → Int → (List Int) → Option (List Int)
  | 0, _, _ => none
  | k + 1, t_13, t_16 =>
    if decide (t_13 < x0.N) then
      herbariumref10_Part.l4 K go_l2 (herbariumref10_Part.l3 K go_l2 t_12 x0 k) t_12 t_13 x0 K (0 : Int) t_16
    else
      go_l2 (wr .i64 (t_12 + 1)) t_16
def herbariumref10_Part.l2 (K : Nat) (x0 : api_Graph) : Nat → Int → (List Int) → Option (List Int)
  | 0, _, _ => none
  | k + 1, t_12, t_17 =>
    if decide (t_12 < x0.N) then
      herbariumref10_Part.l3 K (herbariumref10_Part.l2 K x0 k) t_12 x0 K (0 : Int) t_17
    else
      some t_17
def herbariumref10_Part.l1 (K : Nat) (x0 : api_Graph) : Nat → Int → (List Int) → Option (List Int)
  | 0, _, _ => none
  | k + 1, t_11, t_10 =>
    if decide (t_11 < x0.N) then
      if (0 : Int) ≤ t_11 ∧ t_11 < ((t_10.length : Nat) : Int) then
      herbariumref10_Part.l1 K x0 k (wr .i64 (t_11 + 1)) ((t_10).set t_11.toNat t_11)
      else none
    else
      herbariumref10_Part.l2 K x0 K (0 : Int) t_10
def herbariumref10_Part (K : Nat) (x0 : api_Graph) : Option (List Int) :=
  if x0.N = x0.N ∧ (0 : Int) ≤ x0.N ∧ (8 : Int) * x0.N ≤ 281474976710656 ∧ x0.N ≤ 9223372036854775807 then
  herbariumref10_Part.l1 K x0 K (0 : Int) (List.replicate x0.N.toNat (0 : Int))
  else none
abbrev herbariumref10_Ask.sg : Sig := ⟨[(.agg, Ty_api_Graph), (.one, (.int .i64)), (.one, (.int .i64))], [], [(false, (.sl (.int .i64)))], [.o]⟩
def herbariumref10_Ask.l1 (K : Nat) (r42 : List api_Pair) : Nat → Int → (List Int) → Option (List Int)
  | 0, _, _ => none
  | k + 1, i_10, l_11 =>
    if decide (i_10 < ((r42.length : Nat) : Int)) then
      if (0 : Int) ≤ i_10 ∧ i_10 < ((r42.length : Nat) : Int) then
      if (0 : Int) ≤ i_10 ∧ i_10 < ((r42.length : Nat) : Int) then
      if (l_11.length + ([(nth r42 i_10).A, (nth r42 i_10).B] : List Int).length) * 8 ≤ 140737488355328 then
      herbariumref10_Ask.l1 K r42 k (wr .i64 (i_10 + 1)) (l_11 ++ ([(nth r42 i_10).A, (nth r42 i_10).B] : List Int))
      else none
      else none
      else none
    else
      some l_11
def herbariumref10_Ask (K : Nat) (x0 : api_Graph) (x1 : Int) (x2 : Int) : Option (List Int) :=
  if (x1 == 1) then
    if (0 : Int) ≤ x2 ∧ x2 < ((x0.Out.length : Nat) : Int) then
    (herbariumref0_CopyNumbers K (nth x0.Out x2)).bind fun r18 =>
    some r18
    else none
  else
    if (x1 == 2) then
      (herbariumref6_Turn K x0).bind fun r22 =>
      if (0 : Int) ≤ x2 ∧ x2 < ((r22.Out.length : Nat) : Int) then
      (herbariumref0_CopyNumbers K (nth r22.Out x2)).bind fun r27 =>
      some r27
      else none
    else
      if (x1 == 3) then
        (herbariumref10_Count K x0).bind fun r31 =>
        some r31
      else
        if (x1 == 4) then
          (herbariumref10_Far K x0 x2).bind fun r36 =>
          some r36
        else
          if (x1 == 5) then
            (herbariumref10_Part K x0).bind fun r40 =>
            some r40
          else
            (herbariumref6_Pairs K x0).bind fun r42 =>
            herbariumref10_Ask.l1 K r42 K (0 : Int) ([] : List Int)
abbrev herbariumlaw11_one.sg : Sig := ⟨[(.agg, Ty_herbariumlaw11_Ask), (.one, (.int .i64))], [], [(false, .bool)], []⟩
def herbariumlaw11_one.l5 (K : Nat) (go_l3 : Int → (List api_Graph) → Option Bool) (t_12 : Int) (t_13 : Int) (x0 : herbariumlaw11_Ask) (x1 : Int) : Nat → Int → (List api_Graph) → Int → Int → Int → Bool → (List Int) → (List Int) → Int → Int → Int → Bool → (List Int) → (List Int) → Option Bool
  | 0, _, _, _, _, _, _, _, _, _, _, _, _, _, _ => none
  | k + 1, t_15, t_30, t_17, t_18, t_19, t_20, t_21, t_22, t_23, t_24, t_25, t_26, t_27, t_28 =>
    if decide (t_15 < 40) then
      if (0 : Int) ≤ t_12 ∧ t_12 < ((t_30.length : Nat) : Int) then
      (slow_Step K (nth t_30 t_12) ((t_17, t_18, t_19, t_20, t_21, t_22) : api_Job) 1).bind fun r103 =>
      if (0 : Int) ≤ t_12 ∧ t_12 < ((t_30.length : Nat) : Int) then
      (slow_Step K (nth t_30 t_12) ((t_17, t_18, t_19, t_20, t_21, t_22) : api_Job) 1000).bind fun r112 =>
      if (0 : Int) ≤ t_12 ∧ t_12 < ((t_30.length : Nat) : Int) then
      (herbariumref10_Step K (nth t_30 t_12) ((t_23, t_24, t_25, t_26, t_27, t_28) : api_Job) 1).bind fun r120 =>
      (herbariumlaw11_num K r103.2).bind fun r122 =>
      if (r122 != 0) then
        some false
      else
        (herbariumlaw11_num K r112.2).bind fun r126 =>
        if (r126 != 0) then
          some false
        else
          (herbariumref0_EqJob K r103.1 r120).bind fun r132 =>
          if (!r132) then
            some false
          else
            if (0 : Int) ≤ t_12 ∧ t_12 < ((t_30.length : Nat) : Int) then
            (herbariumref10_Ask K (nth t_30 t_12) x1 t_13).bind fun r144 =>
            (herbariumref0_EqNumbers K r112.1.Out r144).bind fun r145 =>
            if (!r145) then
              some false
            else
              herbariumlaw11_one.l5 K go_l3 t_12 t_13 x0 x1 k (wr .i64 (t_15 + 1)) t_30 r103.1.Kind r103.1.A r103.1.At r103.1.Move r103.1.List_ r103.1.Out r120.Kind r120.A r120.At r120.Move r120.List_ r120.Out
            else none
      else none
      else none
      else none
    else
      go_l3 (wr .i64 (t_12 + 1)) t_30
def herbariumlaw11_one.j4 (K : Nat) (go_l3 : Int → (List api_Graph) → Option Bool) (r65 : api_Job × Int) (t_12 : Int) (t_29 : List api_Graph) (x0 : herbariumlaw11_Ask) (x1 : Int) (t_13 : Int) (t_14 : Int) : Option Bool :=
  (herbariumlaw11_num K r65.2).bind fun r81 =>
  if (r81 != t_14) then
    some false
  else
    if (t_14 != 0) then
      go_l3 (wr .i64 (t_12 + 1)) t_29
    else
      if (0 : Int) ≤ t_12 ∧ t_12 < ((t_29.length : Nat) : Int) then
      (herbariumref10_Begin K (nth t_29 t_12) x1 t_13).bind fun r92 =>
      herbariumlaw11_one.l5 K go_l3 t_12 t_13 x0 x1 K (0 : Int) t_29 r65.1.Kind r65.1.A r65.1.At r65.1.Move r65.1.List_ r65.1.Out r92.Kind r92.A r92.At r92.Move r92.List_ r92.Out
      else none
def herbariumlaw11_one.l3 (K : Nat) (x0 : herbariumlaw11_Ask) (x1 : Int) : Nat → Int → (List api_Graph) → Option Bool
  | 0, _, _ => none
  | k + 1, t_12, t_29 =>
    if decide (t_12 < ((t_29.length : Nat) : Int)) then
      if (4 : Int) ≠ 0 then
      if (0 : Int) ≤ t_12 ∧ t_12 < ((t_29.length : Nat) : Int) then
      (slow_Begin K (nth t_29 t_12) x1 ((wr .i64 (t_12 + ((x0.J.length : Nat) : Int))).tmod 4)).bind fun r65 =>
      if (0 : Int) ≤ t_12 ∧ t_12 < ((t_29.length : Nat) : Int) then
      (herbariumref6_Graph K (nth t_29 t_12)).bind fun r72 =>
      if r72 then
        if (0 : Int) ≤ t_12 ∧ t_12 < ((t_29.length : Nat) : Int) then
        (herbariumref10_May K (nth t_29 t_12) x1 ((wr .i64 (t_12 + ((x0.J.length : Nat) : Int))).tmod 4)).bind fun r79 =>
        herbariumlaw11_one.j4 K (herbariumlaw11_one.l3 K x0 x1 k) r65 t_12 t_29 x0 x1 ((wr .i64 (t_12 + ((x0.J.length : Nat) : Int))).tmod 4) r79
        else none
      else
        herbariumlaw11_one.j4 K (herbariumlaw11_one.l3 K x0 x1 k) r65 t_12 t_29 x0 x1 ((wr .i64 (t_12 + ((x0.J.length : Nat) : Int))).tmod 4) (1 : Int)
      else none
      else none
      else none
    else
      (herbariumlaw11_wakes K).bind fun r149 =>
      some r149
def herbariumlaw11_one.l2 (K : Nat) (x0 : herbariumlaw11_Ask) (x1 : Int) : Nat → Int → (List api_Graph) → Option Bool
  | 0, _, _ => none
  | k + 1, t_11, t_16 =>
    if decide (t_11 < 4) then
      if (17 : Int) ≠ 0 then
      (herbariumlaw7_Made K ((wr .i64 (((x0.N.length : Nat) : Int) + (wr .i64 (5 * t_11)))).tmod 17) t_11).bind fun r43 =>
      if (t_16.length + ([r43] : List api_Graph).length) * 32 ≤ 140737488355328 then
      herbariumlaw11_one.l2 K x0 x1 k (wr .i64 (t_11 + 1)) (t_16 ++ ([r43] : List api_Graph))
      else none
      else none
    else
      herbariumlaw11_one.l3 K x0 x1 K (0 : Int) t_16
def herbariumlaw11_one.j1 (K : Nat) (x0 : herbariumlaw11_Ask) (x1 : Int) (t_10 : List api_Graph) : Option Bool :=
  herbariumlaw11_one.l2 K x0 x1 K (0 : Int) t_10
def herbariumlaw11_one (K : Nat) (x0 : herbariumlaw11_Ask) (x1 : Int) : Option Bool :=
  (herbariumlaw11_Heavy K x0).bind fun r19 =>
  if r19 then
    some true
  else
    if (([] : List api_Graph).length + x0.G.G.length) * 32 ≤ 140737488355328 then
    if decide ((((([] : List api_Graph) ++ x0.G.G).length : Nat) : Int) > 4) then
      if (0 : Int) ≤ (4 : Int) ∧ (4 : Int) ≤ (((([] : List api_Graph) ++ x0.G.G).length : Nat) : Int) then
      herbariumlaw11_one.j1 K x0 x1 ((([] : List api_Graph) ++ x0.G.G).take (4 : Int).toNat)
      else none
    else
      herbariumlaw11_one.j1 K x0 x1 (([] : List api_Graph) ++ x0.G.G)
    else none
abbrev herbariumlaw11_SlowOut.sg : Sig := ⟨[(.agg, Ty_herbariumlaw11_Ask)], [], [(false, .bool)], []⟩
def herbariumlaw11_SlowOut (K : Nat) (x0 : herbariumlaw11_Ask) : Option Bool :=
  (herbariumlaw11_one K x0 1).bind fun r4 =>
  some r4
end Go.XM
end
