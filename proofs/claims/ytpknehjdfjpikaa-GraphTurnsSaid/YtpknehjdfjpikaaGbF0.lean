import Derived.Test.YtpknehjdfjpikaaGbH0
set_option linter.all false
section
namespace Go.XM
set_option maxRecDepth 100000
abbrev herbariumlaw0_Lists.sg : Sig := ⟨[(.one, (.sl (.sl (.int .i64))))], [], [(.one, (.int .i64))], []⟩
def herbariumlaw0_Lists.l1 (K : Nat) (x0 : List (List Int)) : Nat → Int → Int → Option Int
  | 0, _, _ => none
  | k + 1, n_10, i_11 =>
    if decide (i_11 < ((x0.length : Nat) : Int)) then
      if decide (n_10 < 1048576) then
        if (0 : Int) ≤ i_11 ∧ i_11 < ((x0.length : Nat) : Int) then
        herbariumlaw0_Lists.l1 K x0 k (wr .i64 (n_10 + (((nth x0 i_11).length : Nat) : Int))) (wr .i64 (i_11 + 1))
        else none
      else
        some n_10
    else
      some n_10
def herbariumlaw0_Lists (K : Nat) (x0 : List (List Int)) : Option Int :=
  herbariumlaw0_Lists.l1 K x0 K ((x0.length : Nat) : Int) (0 : Int)
abbrev api_Graph : Type := Int × (List (List Int))
abbrev Ty_api_Graph : Ty := (.pr (.int .i64) (.sl (.sl (.int .i64))))
abbrev api_Graph.N (x : api_Graph) : Int := x.1
abbrev api_Graph.Out (x : api_Graph) : List (List Int) := x.2
abbrev herbariumlaw0_GraphsWeight.sg : Sig := ⟨[(.one, (.sl Ty_api_Graph))], [], [(.one, (.int .i64))], []⟩
def herbariumlaw0_GraphsWeight.l1 (K : Nat) (x0 : List api_Graph) : Nat → Int → Int → Option Int
  | 0, _, _ => none
  | k + 1, n_10, i_11 =>
    if decide (i_11 < ((x0.length : Nat) : Int)) then
      if decide (n_10 < 1048576) then
        if (0 : Int) ≤ i_11 ∧ i_11 < ((x0.length : Nat) : Int) then
        (herbariumlaw0_Lists K ((nth x0 i_11).Out)).bind fun r23 =>
        herbariumlaw0_GraphsWeight.l1 K x0 k (wr .i64 (n_10 + r23)) (wr .i64 (i_11 + 1))
        else none
      else
        some n_10
    else
      some n_10
def herbariumlaw0_GraphsWeight (K : Nat) (x0 : List api_Graph) : Option Int :=
  herbariumlaw0_GraphsWeight.l1 K x0 K ((x0.length : Nat) : Int) (0 : Int)
abbrev herbariumlaw6_Act : Type := Int × Int × Int
abbrev Ty_herbariumlaw6_Act : Ty := (.pr (.int .i64) (.pr (.int .i64) (.int .i64)))
abbrev herbariumlaw6_Act.Do (x : herbariumlaw6_Act) : Int := x.1
abbrev herbariumlaw6_Act.A (x : herbariumlaw6_Act) : Int := x.2.1
abbrev herbariumlaw6_Act.B (x : herbariumlaw6_Act) : Int := x.2.2
abbrev herbariumlaw6_Script : Type := (List api_Graph) × (List herbariumlaw6_Act)
abbrev Ty_herbariumlaw6_Script : Ty := (.pr (.sl Ty_api_Graph) (.sl Ty_herbariumlaw6_Act))
abbrev herbariumlaw6_Script.G (x : herbariumlaw6_Script) : List api_Graph := x.1
abbrev herbariumlaw6_Script.A (x : herbariumlaw6_Script) : List herbariumlaw6_Act := x.2
abbrev herbariumlaw6_Heavy.sg : Sig := ⟨[(.agg, Ty_herbariumlaw6_Script)], [], [(.one, .bool)], []⟩
def herbariumlaw6_Heavy (K : Nat) (x0 : herbariumlaw6_Script) : Option Bool :=
  (herbariumlaw0_GraphsWeight K x0.G).bind fun r5 =>
  some (decide ((wr .i64 (r5 + ((x0.A.length : Nat) : Int))) > 1200))
abbrev herbariumref0_CopyNumbers.sg : Sig := ⟨[(.one, (.sl (.int .i64)))], [], [(.one, (.sl (.int .i64)))], [.o]⟩
def herbariumref0_CopyNumbers.l1 (K : Nat) (x0 : List Int) : Nat → Int → (List Int) → Option (List Int)
  | 0, _, _ => none
  | k + 1, i_10, m_11 =>
    if decide (i_10 < ((x0.length : Nat) : Int)) then
      if (0 : Int) ≤ i_10 ∧ i_10 < ((x0.length : Nat) : Int) then
      if (m_11.length + ([nth x0 i_10] : List Int).length) * 8 ≤ 140737488355328 then
      herbariumref0_CopyNumbers.l1 K x0 k (wr .i64 (i_10 + 1)) (m_11 ++ ([nth x0 i_10] : List Int))
      else none
      else none
    else
      some m_11
def herbariumref0_CopyNumbers (K : Nat) (x0 : List Int) : Option (List Int) :=
  herbariumref0_CopyNumbers.l1 K x0 K (0 : Int) ([] : List Int)
abbrev herbariumref0_CopyNumberLists.sg : Sig := ⟨[(.one, (.sl (.sl (.int .i64))))], [], [(.one, (.sl (.sl (.int .i64))))], [.o1]⟩
def herbariumref0_CopyNumberLists.l1 (K : Nat) (x0 : List (List Int)) : Nat → Int → (List (List Int)) → Option (List (List Int))
  | 0, _, _ => none
  | k + 1, i_10, l_11 =>
    if decide (i_10 < ((x0.length : Nat) : Int)) then
      if (0 : Int) ≤ i_10 ∧ i_10 < ((x0.length : Nat) : Int) then
      (herbariumref0_CopyNumbers K (nth x0 i_10)).bind fun r16 =>
      if (l_11.length + ([r16] : List (List Int)).length) * 24 ≤ 140737488355328 then
      herbariumref0_CopyNumberLists.l1 K x0 k (wr .i64 (i_10 + 1)) (l_11 ++ ([r16] : List (List Int)))
      else none
      else none
    else
      some l_11
def herbariumref0_CopyNumberLists (K : Nat) (x0 : List (List Int)) : Option (List (List Int)) :=
  herbariumref0_CopyNumberLists.l1 K x0 K (0 : Int) ([] : List (List Int))
abbrev herbariumref0_CopyGraph.sg : Sig := ⟨[(.agg, Ty_api_Graph)], [], [(.agg, Ty_api_Graph)], [.s, .o1]⟩
def herbariumref0_CopyGraph (K : Nat) (x0 : api_Graph) : Option api_Graph :=
  (herbariumref0_CopyNumberLists K x0.Out).bind fun r7 =>
  some ((x0.N, r7) : api_Graph)
abbrev herbariumref0_Num.sg : Sig := ⟨[(.one, (.int .i64)), (.one, (.int .i64))], [], [(.one, .bool)], []⟩
def herbariumref0_Num (K : Nat) (x0 : Int) (x1 : Int) : Option Bool :=
  if decide (x0 ≥ 0) then
    some (decide (x0 ≤ x1))
  else
    some false
abbrev herbariumref3_Origin.sg : Sig := ⟨[(.one, (.int .i64))], [], [(.one, .bool)], []⟩
def herbariumref3_Origin (K : Nat) (x0 : Int) : Option Bool :=
  (herbariumref0_Num K x0 15).bind fun r4 =>
  some r4
abbrev herbariumref3_May.sg : Sig := ⟨[(.one, (.sl (.int .i64)))], [], [(.one, .bool)], []⟩
def herbariumref3_May.l1 (K : Nat) (x0 : List Int) : Nat → Int → Option Bool
  | 0, _ => none
  | k + 1, i_10 =>
    if decide (i_10 < ((x0.length : Nat) : Int)) then
      if decide (i_10 ≤ 16) then
        if (0 : Int) ≤ i_10 ∧ i_10 < ((x0.length : Nat) : Int) then
        (herbariumref3_Origin K (nth x0 i_10)).bind fun r18 =>
        if (!r18) then
          some false
        else
          if decide (i_10 > 0) then
            if (0 : Int) ≤ (wr .i64 (i_10 - 1)) ∧ (wr .i64 (i_10 - 1)) < ((x0.length : Nat) : Int) then
            if (0 : Int) ≤ i_10 ∧ i_10 < ((x0.length : Nat) : Int) then
            if decide ((nth x0 (wr .i64 (i_10 - 1))) ≥ (nth x0 i_10)) then
              some false
            else
              herbariumref3_May.l1 K x0 k (wr .i64 (i_10 + 1))
            else none
            else none
          else
            herbariumref3_May.l1 K x0 k (wr .i64 (i_10 + 1))
        else none
      else
        some (decide (((x0.length : Nat) : Int) ≤ 16))
    else
      some (decide (((x0.length : Nat) : Int) ≤ 16))
def herbariumref3_May (K : Nat) (x0 : List Int) : Option Bool :=
  herbariumref3_May.l1 K x0 K (0 : Int)
abbrev herbariumref6_Edges.sg : Sig := ⟨[(.agg, Ty_api_Graph)], [], [(.one, (.int .i64))], []⟩
def herbariumref6_Edges.l1 (K : Nat) (x0 : api_Graph) : Nat → Int → Int → Option Int
  | 0, _, _ => none
  | k + 1, n_10, i_11 =>
    if decide (i_11 < ((x0.Out.length : Nat) : Int)) then
      if (0 : Int) ≤ i_11 ∧ i_11 < ((x0.Out.length : Nat) : Int) then
      herbariumref6_Edges.l1 K x0 k (wr .i64 (n_10 + (((nth x0.Out i_11).length : Nat) : Int))) (wr .i64 (i_11 + 1))
      else none
    else
      some n_10
def herbariumref6_Edges (K : Nat) (x0 : api_Graph) : Option Int :=
  herbariumref6_Edges.l1 K x0 K (0 : Int) (0 : Int)
abbrev herbariumref6_Graph.sg : Sig := ⟨[(.agg, Ty_api_Graph)], [], [(.one, .bool)], []⟩
def herbariumref6_Graph.l1 (K : Nat) (x0 : api_Graph) : Nat → Int → Option Bool
  | 0, _ => none
  | k + 1, i_10 =>
    if decide (i_10 < x0.N) then
      if (0 : Int) ≤ i_10 ∧ i_10 < ((x0.Out.length : Nat) : Int) then
      (herbariumref3_May K (nth x0.Out i_10)).bind fun r27 =>
      if (!r27) then
        some false
      else
        if (0 : Int) ≤ i_10 ∧ i_10 < ((x0.Out.length : Nat) : Int) then
        if decide ((((nth x0.Out i_10).length : Nat) : Int) > 0) then
          if (0 : Int) ≤ i_10 ∧ i_10 < ((x0.Out.length : Nat) : Int) then
          if (0 : Int) ≤ i_10 ∧ i_10 < ((x0.Out.length : Nat) : Int) then
          if (0 : Int) ≤ (wr .i64 ((((nth x0.Out i_10).length : Nat) : Int) - 1)) ∧ (wr .i64 ((((nth x0.Out i_10).length : Nat) : Int) - 1)) < (((nth x0.Out i_10).length : Nat) : Int) then
          if decide ((nth (nth x0.Out i_10) (wr .i64 ((((nth x0.Out i_10).length : Nat) : Int) - 1))) ≥ x0.N) then
            some false
          else
            herbariumref6_Graph.l1 K x0 k (wr .i64 (i_10 + 1))
          else none
          else none
          else none
        else
          herbariumref6_Graph.l1 K x0 k (wr .i64 (i_10 + 1))
        else none
      else none
    else
      (herbariumref6_Edges K x0).bind fun r58 =>
      some (decide (r58 ≤ 120))
def herbariumref6_Graph (K : Nat) (x0 : api_Graph) : Option Bool :=
  (herbariumref0_Num K x0.N 16).bind fun r6 =>
  if (!r6) then
    some false
  else
    if (((x0.Out.length : Nat) : Int) != x0.N) then
      some false
    else
      herbariumref6_Graph.l1 K x0 K (0 : Int)
abbrev gaps_Is.sg : Sig := ⟨[(.one, (.int .i64))], [], [(.one, .bool)], []⟩
def gaps_Is (K : Nat) (x0 : Int) : Option Bool :=
  if decide (x0 ≥ 0) then
    some (decide (x0 < 16))
  else
    some false
abbrev gaps_May.sg : Sig := ⟨[(.one, (.sl (.int .i64)))], [], [(.one, .bool)], []⟩
def gaps_May.l1 (K : Nat) (x0 : List Int) : Nat → Int → Int → Option Bool
  | 0, _, _ => none
  | k + 1, t_10, t_11 =>
    if decide (t_11 < t_10) then
      if (0 : Int) ≤ t_11 ∧ t_11 < ((x0.length : Nat) : Int) then
      (gaps_Is K (nth x0 t_11)).bind fun r13 =>
      if (!r13) then
        some false
      else
        if decide (t_11 > 0) then
          if (0 : Int) ≤ (wr .i64 (t_11 - 1)) ∧ (wr .i64 (t_11 - 1)) < ((x0.length : Nat) : Int) then
          if decide ((nth x0 t_11) ≤ (nth x0 (wr .i64 (t_11 - 1)))) then
            some false
          else
            gaps_May.l1 K x0 k t_10 (wr .i64 (t_11 + 1))
          else none
        else
          gaps_May.l1 K x0 k t_10 (wr .i64 (t_11 + 1))
      else none
    else
      some true
def gaps_May (K : Nat) (x0 : List Int) : Option Bool :=
  gaps_May.l1 K x0 K ((x0.length : Nat) : Int) (0 : Int)
abbrev graph_many.sg : Sig := ⟨[(.agg, Ty_api_Graph)], [], [(.one, (.int .i64))], []⟩
def graph_many.l1 (K : Nat) (x0 : api_Graph) : Nat → Int → Int → Int → Option Int
  | 0, _, _, _ => none
  | k + 1, n_10, t_11, t_12 =>
    if decide (t_12 < t_11) then
      if (0 : Int) ≤ t_12 ∧ t_12 < ((x0.Out.length : Nat) : Int) then
      graph_many.l1 K x0 k (wr .i64 (n_10 + (((nth x0.Out t_12).length : Nat) : Int))) t_11 (wr .i64 (t_12 + 1))
      else none
    else
      some n_10
def graph_many (K : Nat) (x0 : api_Graph) : Option Int :=
  graph_many.l1 K x0 K (0 : Int) ((x0.Out.length : Nat) : Int) (0 : Int)
abbrev graph_May.sg : Sig := ⟨[(.agg, Ty_api_Graph)], [], [(.one, .bool)], []⟩
def graph_May.l1 (K : Nat) (x0 : api_Graph) : Nat → Int → Int → Option Bool
  | 0, _, _ => none
  | k + 1, t_10, t_11 =>
    if decide (t_11 < t_10) then
      if (0 : Int) ≤ t_11 ∧ t_11 < ((x0.Out.length : Nat) : Int) then
      (gaps_May K (nth x0.Out t_11)).bind fun r29 =>
      if (!r29) then
        some false
      else
        if decide ((((nth x0.Out t_11).length : Nat) : Int) > 0) then
          if (0 : Int) ≤ (wr .i64 ((((nth x0.Out t_11).length : Nat) : Int) - 1)) ∧ (wr .i64 ((((nth x0.Out t_11).length : Nat) : Int) - 1)) < (((nth x0.Out t_11).length : Nat) : Int) then
          if decide ((nth (nth x0.Out t_11) (wr .i64 ((((nth x0.Out t_11).length : Nat) : Int) - 1))) ≥ x0.N) then
            some false
          else
            graph_May.l1 K x0 k t_10 (wr .i64 (t_11 + 1))
          else none
        else
          graph_May.l1 K x0 k t_10 (wr .i64 (t_11 + 1))
      else none
    else
      (graph_many K x0).bind fun r49 =>
      some (decide (r49 ≤ 120))
def graph_May (K : Nat) (x0 : api_Graph) : Option Bool :=
  if decide (x0.N < 0) then
    some false
  else
    if decide (x0.N > 16) then
      some false
    else
      if (((x0.Out.length : Nat) : Int) != x0.N) then
        some false
      else
        graph_May.l1 K x0 K ((x0.Out.length : Nat) : Int) (0 : Int)
abbrev graph_Edges.sg : Sig := ⟨[(.agg, Ty_api_Graph)], [], [(.one, (.int .i64)), (.one, (.int .i64))], []⟩
def graph_Edges (K : Nat) (x0 : api_Graph) : Option (Int × Int) :=
  (graph_May K x0).bind fun r5 =>
  if (!r5) then
    some (0, 1)
  else
    (graph_many K x0).bind fun r8 =>
    some (r8, 0)
abbrev api_Pair : Type := Int × Int
abbrev Ty_api_Pair : Ty := (.pr (.int .i64) (.int .i64))
abbrev api_Pair.A (x : api_Pair) : Int := x.1
abbrev api_Pair.B (x : api_Pair) : Int := x.2
abbrev graph_List.sg : Sig := ⟨[(.agg, Ty_api_Graph)], [], [(.one, (.sl Ty_api_Pair))], [.o]⟩
def graph_List.l2 (K : Nat) (go_l1 : Int → Int → (List api_Pair) → Option (List api_Pair)) (t_10 : Int) (t_11 : Int) (x0 : api_Graph) : Nat → (List Int) → Int → Int → (List api_Pair) → Option (List api_Pair)
  | 0, _, _, _, _ => none
  | k + 1, t_12, t_13, t_14, l_15 =>
    if decide (t_14 < t_13) then
      if (0 : Int) ≤ t_14 ∧ t_14 < ((t_12.length : Nat) : Int) then
      if (l_15.length + ([((t_11, nth t_12 t_14) : api_Pair)] : List api_Pair).length) * 16 ≤ 140737488355328 then
      graph_List.l2 K go_l1 t_10 t_11 x0 k t_12 t_13 (wr .i64 (t_14 + 1)) (l_15 ++ ([((t_11, nth t_12 t_14) : api_Pair)] : List api_Pair))
      else none
      else none
    else
      go_l1 t_10 (wr .i64 (t_11 + 1)) l_15
def graph_List.l1 (K : Nat) (x0 : api_Graph) : Nat → Int → Int → (List api_Pair) → Option (List api_Pair)
  | 0, _, _, _ => none
  | k + 1, t_10, t_11, l_16 =>
    if decide (t_11 < t_10) then
      if (0 : Int) ≤ t_11 ∧ t_11 < ((x0.Out.length : Nat) : Int) then
      graph_List.l2 K (graph_List.l1 K x0 k) t_10 t_11 x0 K (nth x0.Out t_11) (((nth x0.Out t_11).length : Nat) : Int) (0 : Int) l_16
      else none
    else
      some l_16
def graph_List (K : Nat) (x0 : api_Graph) : Option (List api_Pair) :=
  graph_List.l1 K x0 K ((x0.Out.length : Nat) : Int) (0 : Int) ([] : List api_Pair)
abbrev graph_Pairs.sg : Sig := ⟨[(.agg, Ty_api_Graph)], [], [(.one, (.sl Ty_api_Pair)), (.one, (.int .i64))], [.o]⟩
def graph_Pairs (K : Nat) (x0 : api_Graph) : Option ((List api_Pair) × Int) :=
  (graph_May K x0).bind fun r5 =>
  if (!r5) then
    some (([] : List api_Pair), 1)
  else
    (graph_List K x0).bind fun r8 =>
    some (r8, 0)
abbrev graph_Empty.sg : Sig := ⟨[(.one, (.int .i64))], [], [(.agg, Ty_api_Graph)], [.s, .o]⟩
def graph_Empty (K : Nat) (x0 : Int) : Option api_Graph :=
  if x0 = x0 ∧ (0 : Int) ≤ x0 ∧ (24 : Int) * x0 ≤ 281474976710656 ∧ x0 ≤ 9223372036854775807 then
  some ((x0, List.replicate x0.toNat ([] : List Int)) : api_Graph)
  else none
abbrev graph_Turned.sg : Sig := ⟨[(.agg, Ty_api_Graph)], [], [(.agg, Ty_api_Graph)], [.s, .o]⟩
def graph_Turned.l1 (K : Nat) (r10 : List api_Pair) (r8 : api_Graph) : Nat → Int → Int → Int → (List (List Int)) → Option api_Graph
  | 0, _, _, _, _ => none
  | k + 1, t_11, t_12, t_10, x_13 =>
    if decide (t_12 < t_11) then
      if (0 : Int) ≤ t_12 ∧ t_12 < ((r10.length : Nat) : Int) then
      if (0 : Int) ≤ ((nth r10 t_12).B) ∧ ((nth r10 t_12).B) < ((x_13.length : Nat) : Int) then
      if ((nth x_13 ((nth r10 t_12).B)).length + ([(nth r10 t_12).A] : List Int).length) * 8 ≤ 140737488355328 then
      if (0 : Int) ≤ ((nth r10 t_12).B) ∧ ((nth r10 t_12).B) < ((x_13.length : Nat) : Int) then
      if ((nth r10 t_12).B) = ((nth r10 t_12).B) then
      graph_Turned.l1 K r10 r8 k t_11 (wr .i64 (t_12 + 1)) t_10 ((x_13).set ((nth r10 t_12).B).toNat ((nth x_13 ((nth r10 t_12).B)) ++ ([(nth r10 t_12).A] : List Int)))
      else none
      else none
      else none
      else none
      else none
    else
      some ((r8.N, x_13) : api_Graph)
def graph_Turned (K : Nat) (x0 : api_Graph) : Option api_Graph :=
  (graph_Empty K x0.N).bind fun r8 =>
  (graph_List K x0).bind fun r10 =>
  graph_Turned.l1 K r10 r8 K ((r10.length : Nat) : Int) (0 : Int) (0 : Int) r8.Out
abbrev graph_Turn.sg : Sig := ⟨[(.agg, Ty_api_Graph)], [], [(.agg, Ty_api_Graph), (.one, (.int .i64))], [.s, .o]⟩
def graph_Turn (K : Nat) (x0 : api_Graph) : Option (api_Graph × Int) :=
  (graph_May K x0).bind fun r5 =>
  if (!r5) then
    some (((0, ([] : List (List Int))) : api_Graph), 1)
  else
    (graph_Turned K x0).bind fun r9 =>
    some (r9, 0)
abbrev herbariumref6_Pairs.sg : Sig := ⟨[(.agg, Ty_api_Graph)], [], [(.one, (.sl Ty_api_Pair))], [.o]⟩
def herbariumref6_Pairs.l2 (K : Nat) (go_l1 : Int → (List api_Pair) → Option (List api_Pair)) (i_10 : Int) (x0 : api_Graph) : Nat → Int → (List api_Pair) → Option (List api_Pair)
  | 0, _, _ => none
  | k + 1, k_11, l_12 =>
    if (0 : Int) ≤ i_10 ∧ i_10 < ((x0.Out.length : Nat) : Int) then
    if decide (k_11 < (((nth x0.Out i_10).length : Nat) : Int)) then
      if (0 : Int) ≤ i_10 ∧ i_10 < ((x0.Out.length : Nat) : Int) then
      if (0 : Int) ≤ k_11 ∧ k_11 < (((nth x0.Out i_10).length : Nat) : Int) then
      if (l_12.length + ([((i_10, nth (nth x0.Out i_10) k_11) : api_Pair)] : List api_Pair).length) * 16 ≤ 140737488355328 then
      herbariumref6_Pairs.l2 K go_l1 i_10 x0 k (wr .i64 (k_11 + 1)) (l_12 ++ ([((i_10, nth (nth x0.Out i_10) k_11) : api_Pair)] : List api_Pair))
      else none
      else none
      else none
    else
      go_l1 (wr .i64 (i_10 + 1)) l_12
    else none
def herbariumref6_Pairs.l1 (K : Nat) (x0 : api_Graph) : Nat → Int → (List api_Pair) → Option (List api_Pair)
  | 0, _, _ => none
  | k + 1, i_10, l_13 =>
    if decide (i_10 < x0.N) then
      herbariumref6_Pairs.l2 K (herbariumref6_Pairs.l1 K x0 k) i_10 x0 K (0 : Int) l_13
    else
      some l_13
def herbariumref6_Pairs (K : Nat) (x0 : api_Graph) : Option (List api_Pair) :=
  herbariumref6_Pairs.l1 K x0 K (0 : Int) ([] : List api_Pair)
abbrev herbariumref6_New.sg : Sig := ⟨[(.one, (.int .i64))], [], [(.agg, Ty_api_Graph)], [.s, .o]⟩
def herbariumref6_New (K : Nat) (x0 : Int) : Option api_Graph :=
  if x0 = x0 ∧ (0 : Int) ≤ x0 ∧ (24 : Int) * x0 ≤ 281474976710656 ∧ x0 ≤ 9223372036854775807 then
  some ((x0, List.replicate x0.toNat ([] : List Int)) : api_Graph)
  else none
abbrev herbariumref6_Turn.sg : Sig := ⟨[(.agg, Ty_api_Graph)], [], [(.agg, Ty_api_Graph)], [.s, .o]⟩
def herbariumref6_Turn.l1 (K : Nat) (r10 : List api_Pair) (r8 : api_Graph) : Nat → Int → Int → (List (List Int)) → Option api_Graph
  | 0, _, _, _ => none
  | k + 1, i_11, t_10, x_12 =>
    if decide (i_11 < ((r10.length : Nat) : Int)) then
      if (0 : Int) ≤ i_11 ∧ i_11 < ((r10.length : Nat) : Int) then
      if (0 : Int) ≤ i_11 ∧ i_11 < ((r10.length : Nat) : Int) then
      if (0 : Int) ≤ ((nth r10 i_11).B) ∧ ((nth r10 i_11).B) < ((x_12.length : Nat) : Int) then
      if (0 : Int) ≤ i_11 ∧ i_11 < ((r10.length : Nat) : Int) then
      if ((nth x_12 ((nth r10 i_11).B)).length + ([(nth r10 i_11).A] : List Int).length) * 8 ≤ 140737488355328 then
      if (0 : Int) ≤ ((nth r10 i_11).B) ∧ ((nth r10 i_11).B) < ((x_12.length : Nat) : Int) then
      if ((nth r10 i_11).B) = ((nth r10 i_11).B) then
      herbariumref6_Turn.l1 K r10 r8 k (wr .i64 (i_11 + 1)) t_10 ((x_12).set ((nth r10 i_11).B).toNat ((nth x_12 ((nth r10 i_11).B)) ++ ([(nth r10 i_11).A] : List Int)))
      else none
      else none
      else none
      else none
      else none
      else none
      else none
    else
      some ((r8.N, x_12) : api_Graph)
def herbariumref6_Turn (K : Nat) (x0 : api_Graph) : Option api_Graph :=
  (herbariumref6_New K x0.N).bind fun r8 =>
  (herbariumref6_Pairs K x0).bind fun r10 =>
  herbariumref6_Turn.l1 K r10 r8 K (0 : Int) (0 : Int) r8.Out
abbrev herbariumlaw6_num.sg : Sig := ⟨[(.one, (.int .i64))], [], [(.one, (.int .i64))], []⟩
def herbariumlaw6_num (K : Nat) (x0 : Int) : Option Int :=
  some x0
abbrev herbariumref0_EqPairs.sg : Sig := ⟨[(.one, (.sl Ty_api_Pair)), (.one, (.sl Ty_api_Pair))], [], [(.one, .bool)], []⟩
def herbariumref0_EqPairs.l1 (K : Nat) (x0 : List api_Pair) (x1 : List api_Pair) : Nat → Int → Option Bool
  | 0, _ => none
  | k + 1, i_10 =>
    if decide (i_10 < ((x0.length : Nat) : Int)) then
      if (0 : Int) ≤ i_10 ∧ i_10 < ((x0.length : Nat) : Int) then
      if (0 : Int) ≤ i_10 ∧ i_10 < ((x1.length : Nat) : Int) then
      if (!((((nth x0 i_10).A) == ((nth x1 i_10).A)) && ((((nth x0 i_10).B) == ((nth x1 i_10).B)) && true))) then
        some false
      else
        herbariumref0_EqPairs.l1 K x0 x1 k (wr .i64 (i_10 + 1))
      else none
      else none
    else
      some true
def herbariumref0_EqPairs (K : Nat) (x0 : List api_Pair) (x1 : List api_Pair) : Option Bool :=
  if (((x0.length : Nat) : Int) != ((x1.length : Nat) : Int)) then
    some false
  else
    herbariumref0_EqPairs.l1 K x0 x1 K (0 : Int)
abbrev herbariumref0_EqNumbers.sg : Sig := ⟨[(.one, (.sl (.int .i64))), (.one, (.sl (.int .i64)))], [], [(.one, .bool)], []⟩
def herbariumref0_EqNumbers.l1 (K : Nat) (x0 : List Int) (x1 : List Int) : Nat → Int → Option Bool
  | 0, _ => none
  | k + 1, i_10 =>
    if decide (i_10 < ((x0.length : Nat) : Int)) then
      if (0 : Int) ≤ i_10 ∧ i_10 < ((x0.length : Nat) : Int) then
      if (0 : Int) ≤ i_10 ∧ i_10 < ((x1.length : Nat) : Int) then
      if ((nth x0 i_10) != (nth x1 i_10)) then
        some false
      else
        herbariumref0_EqNumbers.l1 K x0 x1 k (wr .i64 (i_10 + 1))
      else none
      else none
    else
      some true
def herbariumref0_EqNumbers (K : Nat) (x0 : List Int) (x1 : List Int) : Option Bool :=
  if (((x0.length : Nat) : Int) != ((x1.length : Nat) : Int)) then
    some false
  else
    herbariumref0_EqNumbers.l1 K x0 x1 K (0 : Int)
abbrev herbariumref0_EqNumberLists.sg : Sig := ⟨[(.one, (.sl (.sl (.int .i64)))), (.one, (.sl (.sl (.int .i64))))], [], [(.one, .bool)], []⟩
def herbariumref0_EqNumberLists.l1 (K : Nat) (x0 : List (List Int)) (x1 : List (List Int)) : Nat → Int → Option Bool
  | 0, _ => none
  | k + 1, i_10 =>
    if decide (i_10 < ((x0.length : Nat) : Int)) then
      if (0 : Int) ≤ i_10 ∧ i_10 < ((x0.length : Nat) : Int) then
      if (0 : Int) ≤ i_10 ∧ i_10 < ((x1.length : Nat) : Int) then
      (herbariumref0_EqNumbers K (nth x0 i_10) (nth x1 i_10)).bind fun r25 =>
      if (!r25) then
        some false
      else
        herbariumref0_EqNumberLists.l1 K x0 x1 k (wr .i64 (i_10 + 1))
      else none
      else none
    else
      some true
def herbariumref0_EqNumberLists (K : Nat) (x0 : List (List Int)) (x1 : List (List Int)) : Option Bool :=
  if (((x0.length : Nat) : Int) != ((x1.length : Nat) : Int)) then
    some false
  else
    herbariumref0_EqNumberLists.l1 K x0 x1 K (0 : Int)
abbrev herbariumref0_EqGraph.sg : Sig := ⟨[(.agg, Ty_api_Graph), (.agg, Ty_api_Graph)], [], [(.one, .bool)], []⟩
def herbariumref0_EqGraph (K : Nat) (x0 : api_Graph) (x1 : api_Graph) : Option Bool :=
  if (x0.N == x1.N) then
    (herbariumref0_EqNumberLists K x0.Out x1.Out).bind fun r15 =>
    some r15
  else
    some false
abbrev herbariumlaw0_Pairs.sg : Sig := ⟨[(.one, (.sl Ty_api_Pair))], [.o], [], []⟩
def herbariumlaw0_Pairs.l1 (K : Nat) : Nat → Int → (List api_Pair) → Option Unit
  | 0, _, _ => none
  | k + 1, i_10, l_11 =>
    if decide (i_10 < ((l_11.length : Nat) : Int)) then
      if (0 : Int) ≤ i_10 ∧ i_10 < ((l_11.length : Nat) : Int) then
      herbariumlaw0_Pairs.l1 K k (wr .i64 (i_10 + 1)) ((l_11).set i_10.toNat (((-9), 0) : api_Pair))
      else none
    else
      some ()
def herbariumlaw0_Pairs (K : Nat) (x0 : List api_Pair) : Option Unit :=
  herbariumlaw0_Pairs.l1 K K (0 : Int) x0
abbrev herbariumlaw0_Numbers.sg : Sig := ⟨[(.one, (.sl (.int .i64)))], [.o], [], []⟩
def herbariumlaw0_Numbers.l1 (K : Nat) : Nat → Int → (List Int) → Option Unit
  | 0, _, _ => none
  | k + 1, i_10, l_11 =>
    if decide (i_10 < ((l_11.length : Nat) : Int)) then
      if (0 : Int) ≤ i_10 ∧ i_10 < ((l_11.length : Nat) : Int) then
      herbariumlaw0_Numbers.l1 K k (wr .i64 (i_10 + 1)) ((l_11).set i_10.toNat (-99))
      else none
    else
      some ()
def herbariumlaw0_Numbers (K : Nat) (x0 : List Int) : Option Unit :=
  herbariumlaw0_Numbers.l1 K K (0 : Int) x0
abbrev herbariumlaw0_Graph.sg : Sig := ⟨[(.agg, Ty_api_Graph)], [.s, .o], [], []⟩
def herbariumlaw0_Graph.l1 (K : Nat) : Nat → Int → (List (List Int)) → Option Unit
  | 0, _, _ => none
  | k + 1, i_10, g_11 =>
    if decide (i_10 < ((g_11.length : Nat) : Int)) then
      if (0 : Int) ≤ i_10 ∧ i_10 < ((g_11.length : Nat) : Int) then
      (herbariumlaw0_Numbers K (nth g_11 i_10)).bind fun r15 =>
      if (0 : Int) ≤ i_10 ∧ i_10 < ((g_11.length : Nat) : Int) then
      if i_10 = i_10 then
      herbariumlaw0_Graph.l1 K k (wr .i64 (i_10 + 1)) ((g_11).set i_10.toNat [])
      else none
      else none
      else none
    else
      some ()
def herbariumlaw0_Graph (K : Nat) (x0 : api_Graph) : Option Unit :=
  herbariumlaw0_Graph.l1 K K (0 : Int) x0.Out
abbrev graph_Is.sg : Sig := ⟨[(.agg, Ty_api_Graph), (.one, (.int .i64))], [], [(.one, .bool)], []⟩
def graph_Is (K : Nat) (x0 : api_Graph) (x1 : Int) : Option Bool :=
  if decide (x1 ≥ 0) then
    some (decide (x1 < x0.N))
  else
    some false
abbrev slices_Index___int_int_.sg : Sig := ⟨[(.one, (.sl (.int .i64))), (.one, (.int .i64))], [], [(.one, (.int .i64))], []⟩
def slices_Index___int_int_.l1 (K : Nat) (x0 : List Int) (x1 : Int) : Nat → Int → Int → Option Int
  | 0, _, _ => none
  | k + 1, t_10, t_11 =>
    if decide (t_11 < t_10) then
      if (0 : Int) ≤ t_11 ∧ t_11 < ((x0.length : Nat) : Int) then
      if (x1 == (nth x0 t_11)) then
        some t_11
      else
        slices_Index___int_int_.l1 K x0 x1 k t_10 (wr .i64 (t_11 + 1))
      else none
    else
      some ((-1) : Int)
def slices_Index___int_int_ (K : Nat) (x0 : List Int) (x1 : Int) : Option Int :=
  slices_Index___int_int_.l1 K x0 x1 K ((x0.length : Nat) : Int) (0 : Int)
abbrev slices_Contains___int_int_.sg : Sig := ⟨[(.one, (.sl (.int .i64))), (.one, (.int .i64))], [], [(.one, .bool)], []⟩
def slices_Contains___int_int_ (K : Nat) (x0 : List Int) (x1 : Int) : Option Bool :=
  (slices_Index___int_int_ K x0 x1).bind fun r7 =>
  some (decide (r7 ≥ 0))
abbrev graph_holds.sg : Sig := ⟨[(.agg, Ty_api_Graph), (.agg, Ty_api_Pair)], [], [(.one, .bool)], []⟩
def graph_holds (K : Nat) (x0 : api_Graph) (x1 : api_Pair) : Option Bool :=
  (graph_Is K x0 x1.A).bind fun r8 =>
  if r8 then
    if (0 : Int) ≤ x1.A ∧ x1.A < ((x0.Out.length : Nat) : Int) then
    (slices_Contains___int_int_ K (nth x0.Out x1.A) x1.B).bind fun r18 =>
    some r18
    else none
  else
    some false
abbrev graph_More_1.sg : Sig := ⟨[(.agg, Ty_api_Pair), (.ro, Ty_api_Graph)], [], [(.one, .bool)], []⟩
def graph_More_1 (K : Nat) (x0 : api_Pair) (x1 : api_Graph) : Option Bool :=
  (graph_holds K x1 x0).bind fun r6 =>
  some r6
abbrev slices_IndexFunc___api_Pair_api_Pair__graph_More_1.sg : Sig := ⟨[(.one, (.sl Ty_api_Pair)), (.fr 118, Ty_api_Graph)], [], [(.one, (.int .i64))], []⟩
def slices_IndexFunc___api_Pair_api_Pair__graph_More_1.l1 (K : Nat) (x0 : List api_Pair) : Nat → api_Graph → Int → Int → Option Int
  | 0, _, _, _ => none
  | k + 1, f_10, t_11, t_12 =>
    if decide (t_12 < t_11) then
      if (0 : Int) ≤ t_12 ∧ t_12 < ((x0.length : Nat) : Int) then
      (graph_More_1 K (nth x0 t_12) f_10).bind fun r16 =>
      if r16 then
        some t_12
      else
        slices_IndexFunc___api_Pair_api_Pair__graph_More_1.l1 K x0 k f_10 t_11 (wr .i64 (t_12 + 1))
      else none
    else
      some ((-1) : Int)
def slices_IndexFunc___api_Pair_api_Pair__graph_More_1 (K : Nat) (x0 : List api_Pair) (x1 : api_Graph) : Option Int :=
  slices_IndexFunc___api_Pair_api_Pair__graph_More_1.l1 K x0 K x1 ((x0.length : Nat) : Int) (0 : Int)
abbrev slices_DeleteFunc___api_Pair_api_Pair__graph_More_1.sg : Sig := ⟨[(.one, (.sl Ty_api_Pair)), (.fr 118, Ty_api_Graph)], [.o], [(.one, (.sl Ty_api_Pair))], [.o]⟩
def slices_DeleteFunc___api_Pair_api_Pair__graph_More_1.l1 (K : Nat) : Nat → api_Graph → Int → Int → (List api_Pair) → Option (List api_Pair)
  | 0, _, _, _, _ => none
  | k + 1, del_10, i_13, j_11, s_12 =>
    if decide (j_11 < ((s_12.length : Nat) : Int)) then
      if (0 : Int) ≤ j_11 ∧ j_11 < ((s_12.length : Nat) : Int) then
      (graph_More_1 K (nth s_12 j_11) del_10).bind fun r28 =>
      if (!r28) then
        if (0 : Int) ≤ i_13 ∧ i_13 < ((s_12.length : Nat) : Int) then
        slices_DeleteFunc___api_Pair_api_Pair__graph_More_1.l1 K k del_10 (wr .i64 (i_13 + 1)) (wr .i64 (j_11 + 1)) ((s_12).set i_13.toNat (nth s_12 j_11))
        else none
      else
        slices_DeleteFunc___api_Pair_api_Pair__graph_More_1.l1 K k del_10 i_13 (wr .i64 (j_11 + 1)) s_12
      else none
    else
      if (0 : Int) ≤ i_13 ∧ i_13 ≤ ((s_12.length : Nat) : Int) ∧ ((s_12.length : Nat) : Int) ≤ ((s_12.length : Nat) : Int) then
      if (0 : Int) ≤ i_13 ∧ i_13 ≤ (((ovp s_12 (0 + i_13.toNat) (List.replicate (((s_12.length : Nat) : Int).toNat - i_13.toNat) ((0, 0) : api_Pair))).length : Nat) : Int) then
      some ((ovp s_12 (0 + i_13.toNat) (List.replicate (((s_12.length : Nat) : Int).toNat - i_13.toNat) ((0, 0) : api_Pair))).take i_13.toNat)
      else none
      else none
def slices_DeleteFunc___api_Pair_api_Pair__graph_More_1 (K : Nat) (x0 : List api_Pair) (x1 : api_Graph) : Option (List api_Pair) :=
  (slices_IndexFunc___api_Pair_api_Pair__graph_More_1 K x0 x1).bind fun r10 =>
  if (r10 == (-1)) then
    some x0
  else
    slices_DeleteFunc___api_Pair_api_Pair__graph_More_1.l1 K K x1 r10 (wr .i64 (r10 + 1)) x0
abbrev graph_More.sg : Sig := ⟨[(.agg, Ty_api_Graph), (.agg, Ty_api_Graph)], [], [(.one, (.sl Ty_api_Pair))], [.o]⟩
def graph_More (K : Nat) (x0 : api_Graph) (x1 : api_Graph) : Option (List api_Pair) :=
  (graph_List K x1).bind fun r6 =>
  (slices_DeleteFunc___api_Pair_api_Pair__graph_More_1 K r6 x0).bind fun r8 =>
  some r8
abbrev graph_Diff.sg : Sig := ⟨[(.agg, Ty_api_Graph), (.agg, Ty_api_Graph)], [], [(.one, (.sl Ty_api_Pair)), (.one, (.sl Ty_api_Pair)), (.one, (.int .i64))], [.o, .o]⟩
def graph_Diff (K : Nat) (x0 : api_Graph) (x1 : api_Graph) : Option ((List api_Pair) × (List api_Pair) × Int) :=
  (graph_May K x0).bind fun r8 =>
  if (!r8) then
    some (([] : List api_Pair), ([] : List api_Pair), 1)
  else
    (graph_May K x1).bind fun r12 =>
    if (!r12) then
      some (([] : List api_Pair), ([] : List api_Pair), 1)
    else
      (graph_More K x0 x1).bind fun r17 =>
      (graph_More K x1 x0).bind fun r20 =>
      some (r17, r20, 0)
abbrev herbariumref0_In.sg : Sig := ⟨[(.one, (.sl (.int .i64))), (.one, (.int .i64))], [], [(.one, (.int .i64))], []⟩
def herbariumref0_In.l1 (K : Nat) (x0 : List Int) (x1 : Int) : Nat → Int → Option Int
  | 0, _ => none
  | k + 1, i_10 =>
    if decide (i_10 < ((x0.length : Nat) : Int)) then
      if (0 : Int) ≤ i_10 ∧ i_10 < ((x0.length : Nat) : Int) then
      if ((nth x0 i_10) == x1) then
        some i_10
      else
        herbariumref0_In.l1 K x0 x1 k (wr .i64 (i_10 + 1))
      else none
    else
      some ((-1) : Int)
def herbariumref0_In (K : Nat) (x0 : List Int) (x1 : Int) : Option Int :=
  herbariumref0_In.l1 K x0 x1 K (0 : Int)
abbrev herbariumref6_Has.sg : Sig := ⟨[(.agg, Ty_api_Graph), (.one, (.int .i64)), (.one, (.int .i64))], [], [(.one, .bool)], []⟩
def herbariumref6_Has (K : Nat) (x0 : api_Graph) (x1 : Int) (x2 : Int) : Option Bool :=
  (herbariumref0_Num K x1 (wr .i64 (x0.N - 1))).bind fun r11 =>
  if r11 then
    if (0 : Int) ≤ x1 ∧ x1 < ((x0.Out.length : Nat) : Int) then
    (herbariumref0_In K (nth x0.Out x1) x2).bind fun r19 =>
    some (decide (r19 ≥ 0))
    else none
  else
    some false
abbrev herbariumref6_Less.sg : Sig := ⟨[(.agg, Ty_api_Graph), (.agg, Ty_api_Graph)], [], [(.one, (.sl Ty_api_Pair))], [.o]⟩
def herbariumref6_Less.l1 (K : Nat) (r9 : List api_Pair) (x1 : api_Graph) : Nat → Int → (List api_Pair) → Option (List api_Pair)
  | 0, _, _ => none
  | k + 1, i_10, l_11 =>
    if decide (i_10 < ((r9.length : Nat) : Int)) then
      if (0 : Int) ≤ i_10 ∧ i_10 < ((r9.length : Nat) : Int) then
      if (0 : Int) ≤ i_10 ∧ i_10 < ((r9.length : Nat) : Int) then
      (herbariumref6_Has K x1 ((nth r9 i_10).A) ((nth r9 i_10).B)).bind fun r27 =>
      if (!r27) then
        if (0 : Int) ≤ i_10 ∧ i_10 < ((r9.length : Nat) : Int) then
        if (l_11.length + ([(nth r9 i_10)] : List api_Pair).length) * 16 ≤ 140737488355328 then
        herbariumref6_Less.l1 K r9 x1 k (wr .i64 (i_10 + 1)) (l_11 ++ ([(nth r9 i_10)] : List api_Pair))
        else none
        else none
      else
        herbariumref6_Less.l1 K r9 x1 k (wr .i64 (i_10 + 1)) l_11
      else none
      else none
    else
      some l_11
def herbariumref6_Less (K : Nat) (x0 : api_Graph) (x1 : api_Graph) : Option (List api_Pair) :=
  (herbariumref6_Pairs K x0).bind fun r9 =>
  herbariumref6_Less.l1 K r9 x1 K (0 : Int) ([] : List api_Pair)
abbrev graph_New.sg : Sig := ⟨[(.one, (.int .i64))], [], [(.agg, Ty_api_Graph), (.one, (.int .i64))], [.s, .o]⟩
def graph_New (K : Nat) (x0 : Int) : Option (api_Graph × Int) :=
  if decide (x0 < 0) then
    some (((0, ([] : List (List Int))) : api_Graph), 1)
  else
    if decide (x0 > 16) then
      some (((0, ([] : List (List Int))) : api_Graph), 1)
    else
      (graph_Empty K x0).bind fun r12 =>
      some (r12, 0)
abbrev graph_asked.sg : Sig := ⟨[(.agg, Ty_api_Graph), (.one, (.int .i64)), (.one, (.int .i64))], [], [(.one, (.int .i64))], []⟩
def graph_asked (K : Nat) (x0 : api_Graph) (x1 : Int) (x2 : Int) : Option Int :=
  (graph_May K x0).bind fun r9 =>
  if (!r9) then
    some (1 : Int)
  else
    (graph_Is K x0 x1).bind fun r14 =>
    if (!r14) then
      some (3 : Int)
    else
      (graph_Is K x0 x2).bind fun r19 =>
      if (!r19) then
        some (3 : Int)
      else
        some (0 : Int)
abbrev cmp_isNaN_int_.sg : Sig := ⟨[(.one, (.int .i64))], [], [(.one, .bool)], []⟩
def cmp_isNaN_int_ (K : Nat) (x0 : Int) : Option Bool :=
  some (x0 != x0)
abbrev cmp_Less_int_.sg : Sig := ⟨[(.one, (.int .i64)), (.one, (.int .i64))], [], [(.one, .bool)], []⟩
def cmp_Less_int_ (K : Nat) (x0 : Int) (x1 : Int) : Option Bool :=
  (cmp_isNaN_int_ K x0).bind fun r6 =>
  if r6 then
    (cmp_isNaN_int_ K x1).bind fun r9 =>
    if (!r9) then
      some true
    else
      some (decide (x0 < x1))
  else
    some (decide (x0 < x1))
abbrev slices_isNaN_int_.sg : Sig := ⟨[(.one, (.int .i64))], [], [(.one, .bool)], []⟩
def slices_isNaN_int_ (K : Nat) (x0 : Int) : Option Bool :=
  some (x0 != x0)
abbrev slices_BinarySearch___int_int_.sg : Sig := ⟨[(.one, (.sl (.int .i64))), (.one, (.int .i64))], [], [(.one, (.int .i64)), (.one, .bool)], []⟩
def slices_BinarySearch___int_int_.l1 (K : Nat) (x0 : List Int) (x1 : Int) : Nat → Int → Int → Int → Option (Int × Bool)
  | 0, _, _, _ => none
  | k + 1, n_10, i_11, j_12 =>
    if decide (i_11 < j_12) then
      if (0 : Int) ≤ 1 then
      if (0 : Int) ≤ (wr .i64 ((wr .u64 (wr .i64 (i_11 + j_12))).fdiv (2 ^ min ((1 : Int)).toNat 64))) ∧ (wr .i64 ((wr .u64 (wr .i64 (i_11 + j_12))).fdiv (2 ^ min ((1 : Int)).toNat 64))) < ((x0.length : Nat) : Int) then
      (cmp_Less_int_ K (nth x0 (wr .i64 ((wr .u64 (wr .i64 (i_11 + j_12))).fdiv (2 ^ min ((1 : Int)).toNat 64)))) x1).bind fun r27 =>
      if r27 then
        slices_BinarySearch___int_int_.l1 K x0 x1 k n_10 (wr .i64 ((wr .i64 ((wr .u64 (wr .i64 (i_11 + j_12))).fdiv (2 ^ min ((1 : Int)).toNat 64))) + 1)) j_12
      else
        slices_BinarySearch___int_int_.l1 K x0 x1 k n_10 i_11 (wr .i64 ((wr .u64 (wr .i64 (i_11 + j_12))).fdiv (2 ^ min ((1 : Int)).toNat 64)))
      else none
      else none
    else
      if decide (i_11 < n_10) then
        if (0 : Int) ≤ i_11 ∧ i_11 < ((x0.length : Nat) : Int) then
        if ((nth x0 i_11) == x1) then
          some (i_11, true)
        else
          if (0 : Int) ≤ i_11 ∧ i_11 < ((x0.length : Nat) : Int) then
          (slices_isNaN_int_ K (nth x0 i_11)).bind fun r47 =>
          if r47 then
            (slices_isNaN_int_ K x1).bind fun r50 =>
            some (i_11, r50)
          else
            some (i_11, false)
          else none
        else none
      else
        some (i_11, false)
def slices_BinarySearch___int_int_ (K : Nat) (x0 : List Int) (x1 : Int) : Option (Int × Bool) :=
  slices_BinarySearch___int_int_.l1 K x0 x1 K ((x0.length : Nat) : Int) (0 : Int) ((x0.length : Nat) : Int)
abbrev slices_Clone_____int___int_.sg : Sig := ⟨[(.one, (.sl (.sl (.int .i64))))], [], [(.one, (.sl (.sl (.int .i64))))], [.o1]⟩
def slices_Clone_____int___int_ (K : Nat) (x0 : List (List Int)) : Option (List (List Int)) :=
  if (([] : List (List Int)).length + x0.length) * 24 ≤ 140737488355328 then
  some (([] : List (List Int)) ++ x0)
  else none
abbrev slices_Clone___int_int_.sg : Sig := ⟨[(.one, (.sl (.int .i64)))], [], [(.one, (.sl (.int .i64)))], [.o]⟩
def slices_Clone___int_int_ (K : Nat) (x0 : List Int) : Option (List Int) :=
  if (([] : List Int).length + x0.length) * 8 ≤ 140737488355328 then
  some (([] : List Int) ++ x0)
  else none
abbrev graph_Own.sg : Sig := ⟨[(.agg, Ty_api_Graph)], [], [(.agg, Ty_api_Graph)], [.s, .o]⟩
def graph_Own (K : Nat) (x0 : api_Graph) : Option api_Graph :=
  if x0.2.length * 24 ≤ 140737488355328 ∧ ∀ l ∈ x0.2, l.length * 8 ≤ 140737488355328 then some x0 else none
abbrev slices_Insert___int_int_.sg : Sig := sgIns
def slices_Insert___int_int_ (K : Nat) (x0 : List Int) (x1 : Int) (x2 : List Int) : Option (List Int) := insF x0 x1 x2
abbrev graph_Add.sg : Sig := ⟨[(.agg, Ty_api_Graph), (.one, (.int .i64)), (.one, (.int .i64))], [], [(.agg, Ty_api_Graph), (.one, (.int .i64))], [.s, .o]⟩
def graph_Add (K : Nat) (x0 : api_Graph) (x1 : Int) (x2 : Int) : Option (api_Graph × Int) :=
  (graph_asked K x0 x1 x2).bind fun r14 =>
  if (r14 != 0) then
    some (((0, ([] : List (List Int))) : api_Graph), r14)
  else
    if (0 : Int) ≤ x1 ∧ x1 < ((x0.Out.length : Nat) : Int) then
    (slices_BinarySearch___int_int_ K (nth x0.Out x1) x2).bind fun r26 =>
    if r26.2 then
      some (((0, ([] : List (List Int))) : api_Graph), 4)
    else
      (graph_many K x0).bind fun r34 =>
      if decide (r34 ≥ 120) then
        some (((0, ([] : List (List Int))) : api_Graph), 2)
      else
        (graph_Own K x0).bind fun r38 =>
        if (0 : Int) ≤ x1 ∧ x1 < ((r38.Out.length : Nat) : Int) then
        (slices_Insert___int_int_ K (nth r38.Out x1) r26.1 [x2]).bind fun r50 =>
        if (0 : Int) ≤ x1 ∧ x1 < ((r38.Out.length : Nat) : Int) then
        if x1 = x1 then
        some (((r38.N, (r38.Out).set x1.toNat r50) : api_Graph), 0)
        else none
        else none
        else none
    else none
abbrev herbariumlaw6_wakes.sg : Sig := ⟨[], [], [(.one, .bool)], []⟩
def herbariumlaw6_wakes (K : Nat) : Option Bool :=
  (graph_New K 2).bind fun r7 =>
  (graph_Add K r7.1 0 1).bind fun r12 =>
  (graph_Add K r12.1 0 1).bind fun r17 =>
  (herbariumlaw6_num K r7.2).bind fun r21 =>
  if (r21 == 0) then
    (herbariumlaw6_num K r12.2).bind fun r25 =>
    if (r25 == 0) then
      (herbariumlaw6_num K r17.2).bind fun r30 =>
      if (r30 == 4) then
        if (((r12.1.Out.length : Nat) : Int) == 2) then
          if (0 : Int) ≤ (0 : Int) ∧ (0 : Int) < ((r12.1.Out.length : Nat) : Int) then
          some ((((nth r12.1.Out 0).length : Nat) : Int) == 1)
          else none
        else
          some false
      else
        some false
    else
      some false
  else
    some false
abbrev herbariumlaw6_GraphDiffs.sg : Sig := ⟨[(.agg, Ty_herbariumlaw6_Script)], [], [(.one, .bool)], []⟩
def herbariumlaw6_GraphDiffs.j4 (K : Nat) (go_l1 : Int → Option Bool) (go_l3 : Int → Option Bool) (r125 : (List api_Pair) × (List api_Pair) × Int) (r41 : api_Graph) (r47 : Bool) (t_10 : Int) (t_16 : Int) (x0 : herbariumlaw6_Script) (t_19 : Int) (t_20 : List api_Pair) (t_21 : List api_Pair) : Option Bool :=
  (herbariumlaw6_num K r125.2.2).bind fun r153 =>
  if (r153 != t_19) then
    some false
  else
    (herbariumref0_EqPairs K r125.1 t_20).bind fun r159 =>
    if (!r159) then
      some false
    else
      (herbariumref0_EqPairs K r125.2.1 t_21).bind fun r165 =>
      if (!r165) then
        some false
      else
        if (0 : Int) ≤ t_10 ∧ t_10 < ((x0.G.length : Nat) : Int) then
        (herbariumref0_EqGraph K r41 (nth x0.G t_10)).bind fun r175 =>
        if (!r175) then
          some false
        else
          go_l3 (wr .i64 (t_16 + 1))
        else none
def herbariumlaw6_GraphDiffs.j5 (K : Nat) (go_l1 : Int → Option Bool) (go_l3 : Int → Option Bool) (r125 : (List api_Pair) × (List api_Pair) × Int) (r41 : api_Graph) (r47 : Bool) (t_10 : Int) (t_16 : Int) (x0 : herbariumlaw6_Script) (t_17 : Int) (t_18 : Bool) : Option Bool :=
  if t_18 then
    if (0 : Int) ≤ t_16 ∧ t_16 < ((x0.G.length : Nat) : Int) then
    (herbariumref6_Less K (nth x0.G t_16) r41).bind fun r144 =>
    if (0 : Int) ≤ t_16 ∧ t_16 < ((x0.G.length : Nat) : Int) then
    (herbariumref6_Less K r41 (nth x0.G t_16)).bind fun r151 =>
    herbariumlaw6_GraphDiffs.j4 K go_l1 go_l3 r125 r41 r47 t_10 t_16 x0 (0 : Int) r144 r151
    else none
    else none
  else
    herbariumlaw6_GraphDiffs.j4 K go_l1 go_l3 r125 r41 r47 t_10 t_16 x0 t_17 ([] : List api_Pair) ([] : List api_Pair)
def herbariumlaw6_GraphDiffs.l3 (K : Nat) (go_l1 : Int → Option Bool) (r41 : api_Graph) (r47 : Bool) (t_10 : Int) (x0 : herbariumlaw6_Script) : Nat → Int → Option Bool
  | 0, _ => none
  | k + 1, t_16 =>
    if decide (t_16 < ((x0.G.length : Nat) : Int)) then
      if decide (t_16 < 5) then
        if (0 : Int) ≤ t_16 ∧ t_16 < ((x0.G.length : Nat) : Int) then
        (graph_Diff K r41 (nth x0.G t_16)).bind fun r125 =>
        if r47 then
          if (0 : Int) ≤ t_16 ∧ t_16 < ((x0.G.length : Nat) : Int) then
          (herbariumref6_Graph K (nth x0.G t_16)).bind fun r136 =>
          herbariumlaw6_GraphDiffs.j5 K go_l1 (herbariumlaw6_GraphDiffs.l3 K go_l1 r41 r47 t_10 x0 k) r125 r41 r47 t_10 t_16 x0 (1 : Int) r136
          else none
        else
          herbariumlaw6_GraphDiffs.j5 K go_l1 (herbariumlaw6_GraphDiffs.l3 K go_l1 r41 r47 t_10 x0 k) r125 r41 r47 t_10 t_16 x0 (1 : Int) false
        else none
      else
        go_l1 (wr .i64 (t_10 + 1))
    else
      go_l1 (wr .i64 (t_10 + 1))
def herbariumlaw6_GraphDiffs.j2 (K : Nat) (go_l1 : Int → Option Bool) (r41 : api_Graph) (r47 : Bool) (r50 : Int × Int) (r55 : (List api_Pair) × Int) (r60 : api_Graph × Int) (t_10 : Int) (x0 : herbariumlaw6_Script) (t_11 : Int) (t_12 : Int) (t_13 : List api_Pair) (t_14 : Int) (t_15 : List (List Int)) : Option Bool :=
  (herbariumlaw6_num K r50.2).bind fun r71 =>
  if (r71 != t_11) then
    some false
  else
    (herbariumlaw6_num K r55.2).bind fun r76 =>
    if (r76 != t_11) then
      some false
    else
      (herbariumlaw6_num K r60.2).bind fun r82 =>
      if (r82 != t_11) then
        some false
      else
        if (r50.1 != t_12) then
          some false
        else
          (herbariumref0_EqPairs K r55.1 t_13).bind fun r94 =>
          if (!r94) then
            some false
          else
            (herbariumref0_EqGraph K r60.1 ((t_14, t_15) : api_Graph)).bind fun r100 =>
            if (!r100) then
              some false
            else
              (herbariumlaw0_Pairs K r55.1).bind fun r104 =>
              (herbariumlaw0_Graph K r60.1).bind fun r106 =>
              herbariumlaw6_GraphDiffs.l3 K go_l1 r41 r47 t_10 x0 K (0 : Int)
def herbariumlaw6_GraphDiffs.l1 (K : Nat) (x0 : herbariumlaw6_Script) : Nat → Int → Option Bool
  | 0, _ => none
  | k + 1, t_10 =>
    if decide (t_10 < ((x0.G.length : Nat) : Int)) then
      if decide (t_10 < 5) then
        if (0 : Int) ≤ t_10 ∧ t_10 < ((x0.G.length : Nat) : Int) then
        (herbariumref0_CopyGraph K (nth x0.G t_10)).bind fun r41 =>
        if (0 : Int) ≤ t_10 ∧ t_10 < ((x0.G.length : Nat) : Int) then
        (herbariumref6_Graph K (nth x0.G t_10)).bind fun r47 =>
        (graph_Edges K r41).bind fun r50 =>
        (graph_Pairs K r41).bind fun r55 =>
        (graph_Turn K r41).bind fun r60 =>
        if r47 then
          (herbariumref6_Edges K r41).bind fun r65 =>
          (herbariumref6_Pairs K r41).bind fun r67 =>
          (herbariumref6_Turn K r41).bind fun r69 =>
          herbariumlaw6_GraphDiffs.j2 K (herbariumlaw6_GraphDiffs.l1 K x0 k) r41 r47 r50 r55 r60 t_10 x0 (0 : Int) r65 r67 r69.N r69.Out
        else
          herbariumlaw6_GraphDiffs.j2 K (herbariumlaw6_GraphDiffs.l1 K x0 k) r41 r47 r50 r55 r60 t_10 x0 (1 : Int) (0 : Int) ([] : List api_Pair) (0 : Int) ([] : List (List Int))
        else none
        else none
      else
        (herbariumlaw6_wakes K).bind fun r178 =>
        some r178
    else
      (herbariumlaw6_wakes K).bind fun r178 =>
      some r178
def herbariumlaw6_GraphDiffs (K : Nat) (x0 : herbariumlaw6_Script) : Option Bool :=
  (herbariumlaw6_Heavy K x0).bind fun r24 =>
  if r24 then
    some true
  else
    herbariumlaw6_GraphDiffs.l1 K x0 K (0 : Int)
abbrev slices_Delete___int_int_.sg : Sig := sgDel
def slices_Delete___int_int_ (K : Nat) (x0 : List Int) (x1 : Int) (x2 : Int) : Option (List Int) := delF x0 x1 x2
abbrev graph_Cut.sg : Sig := ⟨[(.agg, Ty_api_Graph), (.one, (.int .i64)), (.one, (.int .i64))], [], [(.agg, Ty_api_Graph), (.one, (.int .i64))], [.s, .o]⟩
def graph_Cut (K : Nat) (x0 : api_Graph) (x1 : Int) (x2 : Int) : Option (api_Graph × Int) :=
  (graph_asked K x0 x1 x2).bind fun r14 =>
  if (r14 != 0) then
    some (((0, ([] : List (List Int))) : api_Graph), r14)
  else
    if (0 : Int) ≤ x1 ∧ x1 < ((x0.Out.length : Nat) : Int) then
    (slices_BinarySearch___int_int_ K (nth x0.Out x1) x2).bind fun r26 =>
    if (!r26.2) then
      some (((0, ([] : List (List Int))) : api_Graph), 3)
    else
      (graph_Own K x0).bind fun r33 =>
      if (0 : Int) ≤ x1 ∧ x1 < ((r33.Out.length : Nat) : Int) then
      (slices_Delete___int_int_ K (nth r33.Out x1) r26.1 (wr .i64 (r26.1 + 1))).bind fun r45 =>
      if (0 : Int) ≤ x1 ∧ x1 < ((r33.Out.length : Nat) : Int) then
      if x1 = x1 then
      some (((r33.N, (r33.Out).set x1.toNat r45) : api_Graph), 0)
      else none
      else none
      else none
    else none
abbrev herbariumlaw6_GraphTurns.sg : Sig := ⟨[(.agg, Ty_herbariumlaw6_Script)], [], [(.one, .bool)], []⟩
def herbariumlaw6_GraphTurns.l4 (K : Nat) (go_l1 : Int → Option Bool) (go_l2 : Int → Option Bool) (r84 : (List api_Pair) × (List api_Pair) × Int) (t_10 : Int) (t_11 : Int) (x0 : herbariumlaw6_Script) : Nat → Int → Int → (List (List Int)) → Option Bool
  | 0, _, _, _ => none
  | k + 1, t_15, t_16, t_17 =>
    if decide (t_15 < ((r84.1.length : Nat) : Int)) then
      if (0 : Int) ≤ t_15 ∧ t_15 < ((r84.1.length : Nat) : Int) then
      if (0 : Int) ≤ t_15 ∧ t_15 < ((r84.1.length : Nat) : Int) then
      (graph_Add K ((t_16, t_17) : api_Graph) ((nth r84.1 t_15).A) ((nth r84.1 t_15).B)).bind fun r154 =>
      (herbariumlaw6_num K r154.2).bind fun r158 =>
      if (r158 != 0) then
        some false
      else
        herbariumlaw6_GraphTurns.l4 K go_l1 go_l2 r84 t_10 t_11 x0 k (wr .i64 (t_15 + 1)) r154.1.N r154.1.Out
      else none
      else none
    else
      if (0 : Int) ≤ t_11 ∧ t_11 < ((x0.G.length : Nat) : Int) then
      (herbariumref0_EqGraph K ((t_16, t_17) : api_Graph) (nth x0.G t_11)).bind fun r167 =>
      if (!r167) then
        some false
      else
        go_l2 (wr .i64 (t_11 + 1))
      else none
def herbariumlaw6_GraphTurns.l3 (K : Nat) (go_l1 : Int → Option Bool) (go_l2 : Int → Option Bool) (r84 : (List api_Pair) × (List api_Pair) × Int) (t_10 : Int) (t_11 : Int) (x0 : herbariumlaw6_Script) : Nat → Int → Int → (List (List Int)) → Option Bool
  | 0, _, _, _ => none
  | k + 1, t_14, t_12, t_13 =>
    if decide (t_14 < ((r84.2.1.length : Nat) : Int)) then
      if (0 : Int) ≤ t_14 ∧ t_14 < ((r84.2.1.length : Nat) : Int) then
      if (0 : Int) ≤ t_14 ∧ t_14 < ((r84.2.1.length : Nat) : Int) then
      (graph_Cut K ((t_12, t_13) : api_Graph) ((nth r84.2.1 t_14).A) ((nth r84.2.1 t_14).B)).bind fun r129 =>
      (herbariumlaw6_num K r129.2).bind fun r133 =>
      if (r133 != 0) then
        some false
      else
        herbariumlaw6_GraphTurns.l3 K go_l1 go_l2 r84 t_10 t_11 x0 k (wr .i64 (t_14 + 1)) r129.1.N r129.1.Out
      else none
      else none
    else
      herbariumlaw6_GraphTurns.l4 K go_l1 go_l2 r84 t_10 t_11 x0 K (0 : Int) t_12 t_13
def herbariumlaw6_GraphTurns.l2 (K : Nat) (go_l1 : Int → Option Bool) (t_10 : Int) (x0 : herbariumlaw6_Script) : Nat → Int → Option Bool
  | 0, _ => none
  | k + 1, t_11 =>
    if decide (t_11 < ((x0.G.length : Nat) : Int)) then
      if decide (t_11 < 5) then
        if (0 : Int) ≤ t_10 ∧ t_10 < ((x0.G.length : Nat) : Int) then
        if (0 : Int) ≤ t_11 ∧ t_11 < ((x0.G.length : Nat) : Int) then
        (graph_Diff K (nth x0.G t_10) (nth x0.G t_11)).bind fun r84 =>
        (herbariumlaw6_num K r84.2.2).bind fun r89 =>
        if (r89 != 0) then
          herbariumlaw6_GraphTurns.l2 K go_l1 t_10 x0 k (wr .i64 (t_11 + 1))
        else
          if (0 : Int) ≤ t_11 ∧ t_11 < ((x0.G.length : Nat) : Int) then
          if (0 : Int) ≤ t_10 ∧ t_10 < ((x0.G.length : Nat) : Int) then
          if (((nth x0.G t_11).N) != ((nth x0.G t_10).N)) then
            herbariumlaw6_GraphTurns.l2 K go_l1 t_10 x0 k (wr .i64 (t_11 + 1))
          else
            if (0 : Int) ≤ t_10 ∧ t_10 < ((x0.G.length : Nat) : Int) then
            herbariumlaw6_GraphTurns.l3 K go_l1 (herbariumlaw6_GraphTurns.l2 K go_l1 t_10 x0 k) r84 t_10 t_11 x0 K (0 : Int) ((nth x0.G t_10).N) ((nth x0.G t_10).Out)
            else none
          else none
          else none
        else none
        else none
      else
        go_l1 (wr .i64 (t_10 + 1))
    else
      go_l1 (wr .i64 (t_10 + 1))
def herbariumlaw6_GraphTurns.l1 (K : Nat) (x0 : herbariumlaw6_Script) : Nat → Int → Option Bool
  | 0, _ => none
  | k + 1, t_10 =>
    if decide (t_10 < ((x0.G.length : Nat) : Int)) then
      if decide (t_10 < 5) then
        if (0 : Int) ≤ t_10 ∧ t_10 < ((x0.G.length : Nat) : Int) then
        (graph_Turn K (nth x0.G t_10)).bind fun r38 =>
        (herbariumlaw6_num K r38.2).bind fun r42 =>
        if (r42 != 0) then
          herbariumlaw6_GraphTurns.l1 K x0 k (wr .i64 (t_10 + 1))
        else
          (graph_Turn K r38.1).bind fun r46 =>
          (herbariumlaw6_num K r46.2).bind fun r50 =>
          if (r50 != 0) then
            some false
          else
            if (0 : Int) ≤ t_10 ∧ t_10 < ((x0.G.length : Nat) : Int) then
            (herbariumref0_EqGraph K r46.1 (nth x0.G t_10)).bind fun r59 =>
            if (!r59) then
              some false
            else
              herbariumlaw6_GraphTurns.l2 K (herbariumlaw6_GraphTurns.l1 K x0 k) t_10 x0 K (0 : Int)
            else none
        else none
      else
        (herbariumlaw6_wakes K).bind fun r169 =>
        some r169
    else
      (herbariumlaw6_wakes K).bind fun r169 =>
      some r169
def herbariumlaw6_GraphTurns (K : Nat) (x0 : herbariumlaw6_Script) : Option Bool :=
  (herbariumlaw6_Heavy K x0).bind fun r20 =>
  if r20 then
    some true
  else
    herbariumlaw6_GraphTurns.l1 K x0 K (0 : Int)
abbrev herbariumlaw6_GraphFull.sg : Sig := ⟨[(.agg, Ty_herbariumlaw6_Script)], [], [(.one, .bool)], []⟩
def herbariumlaw6_GraphFull.l3 (K : Nat) (r79 : (List api_Pair) × Int) (x0 : herbariumlaw6_Script) : Nat → Int → Int → (List (List Int)) → Option Bool
  | 0, _, _, _ => none
  | k + 1, t_13, t_17, t_18 =>
    if decide (t_13 < ((r79.1.length : Nat) : Int)) then
      if (0 : Int) ≤ t_13 ∧ t_13 < ((r79.1.length : Nat) : Int) then
      if (0 : Int) ≤ t_13 ∧ t_13 < ((r79.1.length : Nat) : Int) then
      (graph_Cut K ((t_17, t_18) : api_Graph) ((nth r79.1 t_13).A) ((nth r79.1 t_13).B)).bind fun r108 =>
      (herbariumlaw6_num K r108.2).bind fun r112 =>
      if (r112 != 0) then
        some false
      else
        herbariumlaw6_GraphFull.l3 K r79 x0 k (wr .i64 (t_13 + 1)) r108.1.N r108.1.Out
      else none
      else none
    else
      (graph_Edges K ((t_17, t_18) : api_Graph)).bind fun r117 =>
      (herbariumlaw6_num K r117.2).bind fun r121 =>
      if (r121 == 0) then
        if (r117.1 == 0) then
          if (16 : Int) = (16 : Int) ∧ (0 : Int) ≤ (16 : Int) ∧ (24 : Int) * (16 : Int) ≤ 281474976710656 ∧ (16 : Int) ≤ 9223372036854775807 then
          (herbariumref0_EqGraph K ((t_17, t_18) : api_Graph) ((16, List.replicate (16 : Int).toNat ([] : List Int)) : api_Graph)).bind fun r131 =>
          if r131 then
            if decide (((x0.A.length : Nat) : Int) ≥ 0) then
              (herbariumlaw6_wakes K).bind fun r140 =>
              some r140
            else
              some false
          else
            some false
          else none
        else
          some false
      else
        some false
def herbariumlaw6_GraphFull.l2 (K : Nat) (go_l1 : Int → Int → Int → (List (List Int)) → Option Bool) (t_11 : Int) (x0 : herbariumlaw6_Script) : Nat → Int → Int → Int → (List (List Int)) → Option Bool
  | 0, _, _, _, _ => none
  | k + 1, t_16, t_12, t_14, t_15 =>
    if decide (t_12 ≥ 0) then
      if decide (t_16 < 120) then
        if (16 : Int) ≠ 0 then
        (graph_Add K ((t_14, t_15) : api_Graph) ((wr .i64 (t_11 * 5)).tmod 16) t_12).bind fun r50 =>
        (herbariumlaw6_num K r50.2).bind fun r54 =>
        if (r54 != 0) then
          some false
        else
          herbariumlaw6_GraphFull.l2 K go_l1 t_11 x0 k (wr .i64 (t_16 + 1)) (wr .i64 (t_12 - 1)) r50.1.N r50.1.Out
        else none
      else
        go_l1 t_16 (wr .i64 (t_11 + 1)) t_14 t_15
    else
      go_l1 t_16 (wr .i64 (t_11 + 1)) t_14 t_15
def herbariumlaw6_GraphFull.l1 (K : Nat) (x0 : herbariumlaw6_Script) : Nat → Int → Int → Int → (List (List Int)) → Option Bool
  | 0, _, _, _, _ => none
  | k + 1, t_10, t_11, t_19, t_20 =>
    if decide (t_11 < 16) then
      if decide (t_10 < 120) then
        herbariumlaw6_GraphFull.l2 K (herbariumlaw6_GraphFull.l1 K x0 k) t_11 x0 K t_10 (15 : Int) t_19 t_20
      else
        (graph_Add K ((t_19, t_20) : api_Graph) 15 15).bind fun r61 =>
        (graph_Add K ((t_19, t_20) : api_Graph) 11 3).bind fun r66 =>
        (herbariumlaw6_num K r61.2).bind fun r70 =>
        if (r70 != 2) then
          (herbariumlaw6_num K r66.2).bind fun r74 =>
          if (r74 != 2) then
            some false
          else
            (graph_Pairs K ((t_19, t_20) : api_Graph)).bind fun r79 =>
            (herbariumlaw6_num K r79.2).bind fun r83 =>
            if (r83 != 0) then
              some false
            else
              if (((r79.1.length : Nat) : Int) != 120) then
                some false
              else
                herbariumlaw6_GraphFull.l3 K r79 x0 K (0 : Int) t_19 t_20
        else
          (graph_Pairs K ((t_19, t_20) : api_Graph)).bind fun r79 =>
          (herbariumlaw6_num K r79.2).bind fun r83 =>
          if (r83 != 0) then
            some false
          else
            if (((r79.1.length : Nat) : Int) != 120) then
              some false
            else
              herbariumlaw6_GraphFull.l3 K r79 x0 K (0 : Int) t_19 t_20
    else
      (graph_Add K ((t_19, t_20) : api_Graph) 15 15).bind fun r61 =>
      (graph_Add K ((t_19, t_20) : api_Graph) 11 3).bind fun r66 =>
      (herbariumlaw6_num K r61.2).bind fun r70 =>
      if (r70 != 2) then
        (herbariumlaw6_num K r66.2).bind fun r74 =>
        if (r74 != 2) then
          some false
        else
          (graph_Pairs K ((t_19, t_20) : api_Graph)).bind fun r79 =>
          (herbariumlaw6_num K r79.2).bind fun r83 =>
          if (r83 != 0) then
            some false
          else
            if (((r79.1.length : Nat) : Int) != 120) then
              some false
            else
              herbariumlaw6_GraphFull.l3 K r79 x0 K (0 : Int) t_19 t_20
      else
        (graph_Pairs K ((t_19, t_20) : api_Graph)).bind fun r79 =>
        (herbariumlaw6_num K r79.2).bind fun r83 =>
        if (r83 != 0) then
          some false
        else
          if (((r79.1.length : Nat) : Int) != 120) then
            some false
          else
            herbariumlaw6_GraphFull.l3 K r79 x0 K (0 : Int) t_19 t_20
def herbariumlaw6_GraphFull (K : Nat) (x0 : herbariumlaw6_Script) : Option Bool :=
  (graph_New K 16).bind fun r22 =>
  (herbariumlaw6_num K r22.2).bind fun r26 =>
  if (r26 != 0) then
    some false
  else
    herbariumlaw6_GraphFull.l1 K x0 K (0 : Int) (0 : Int) r22.1.N r22.1.Out
end Go.XM
end
