import Derived.Test.YtpknehjdfjpikaaGaH0
set_option linter.all false
section
namespace Go.XM
set_option maxRecDepth 100000
abbrev herbariumlaw0_Lists.sg : Sig := ⟨[(.one, (.sl (.sl (.int .i64))))], [], [(.one, (.int .i64))], []⟩
def herbariumlaw0_Lists.l1 (K : Nat) (x0 : List (List Int)) : Nat → Int → Int → Option Int
  | 0, _, _ => none
  | k + 1, n_10, i_11 =>
    if decide (i_11 < ((x0.length : Nat) : Int)) then
      if decide (n_10 < 1048576) then
        if (0 : Int) ≤ i_11 ∧ i_11 < ((x0.length : Nat) : Int) then
        herbariumlaw0_Lists.l1 K x0 k (wr .i64 (n_10 + (((nth x0 i_11).length : Nat) : Int))) (wr .i64 (i_11 + 1))
        else none
      else
        some n_10
    else
      some n_10
def herbariumlaw0_Lists (K : Nat) (x0 : List (List Int)) : Option Int :=
  herbariumlaw0_Lists.l1 K x0 K ((x0.length : Nat) : Int) (0 : Int)
abbrev api_Graph : Type := Int × (List (List Int))
abbrev Ty_api_Graph : Ty := (.pr (.int .i64) (.sl (.sl (.int .i64))))
abbrev api_Graph.N (x : api_Graph) : Int := x.1
abbrev api_Graph.Out (x : api_Graph) : List (List Int) := x.2
abbrev herbariumlaw0_GraphsWeight.sg : Sig := ⟨[(.one, (.sl Ty_api_Graph))], [], [(.one, (.int .i64))], []⟩
def herbariumlaw0_GraphsWeight.l1 (K : Nat) (x0 : List api_Graph) : Nat → Int → Int → Option Int
  | 0, _, _ => none
  | k + 1, n_10, i_11 =>
    if decide (i_11 < ((x0.length : Nat) : Int)) then
      if decide (n_10 < 1048576) then
        if (0 : Int) ≤ i_11 ∧ i_11 < ((x0.length : Nat) : Int) then
        (herbariumlaw0_Lists K ((nth x0 i_11).Out)).bind fun r23 =>
        herbariumlaw0_GraphsWeight.l1 K x0 k (wr .i64 (n_10 + r23)) (wr .i64 (i_11 + 1))
        else none
      else
        some n_10
    else
      some n_10
def herbariumlaw0_GraphsWeight (K : Nat) (x0 : List api_Graph) : Option Int :=
  herbariumlaw0_GraphsWeight.l1 K x0 K ((x0.length : Nat) : Int) (0 : Int)
abbrev herbariumlaw6_Act : Type := Int × Int × Int
abbrev Ty_herbariumlaw6_Act : Ty := (.pr (.int .i64) (.pr (.int .i64) (.int .i64)))
abbrev herbariumlaw6_Act.Do (x : herbariumlaw6_Act) : Int := x.1
abbrev herbariumlaw6_Act.A (x : herbariumlaw6_Act) : Int := x.2.1
abbrev herbariumlaw6_Act.B (x : herbariumlaw6_Act) : Int := x.2.2
abbrev herbariumlaw6_Script : Type := (List api_Graph) × (List herbariumlaw6_Act)
abbrev Ty_herbariumlaw6_Script : Ty := (.pr (.sl Ty_api_Graph) (.sl Ty_herbariumlaw6_Act))
abbrev herbariumlaw6_Script.G (x : herbariumlaw6_Script) : List api_Graph := x.1
abbrev herbariumlaw6_Script.A (x : herbariumlaw6_Script) : List herbariumlaw6_Act := x.2
abbrev herbariumlaw6_Heavy.sg : Sig := ⟨[(.agg, Ty_herbariumlaw6_Script)], [], [(.one, .bool)], []⟩
def herbariumlaw6_Heavy (K : Nat) (x0 : herbariumlaw6_Script) : Option Bool :=
  (herbariumlaw0_GraphsWeight K x0.G).bind fun r5 =>
  some (decide ((wr .i64 (r5 + ((x0.A.length : Nat) : Int))) > 1200))
abbrev herbariumref0_CopyNumbers.sg : Sig := ⟨[(.one, (.sl (.int .i64)))], [], [(.one, (.sl (.int .i64)))], [.o]⟩
def herbariumref0_CopyNumbers.l1 (K : Nat) (x0 : List Int) : Nat → Int → (List Int) → Option (List Int)
  | 0, _, _ => none
  | k + 1, i_10, m_11 =>
    if decide (i_10 < ((x0.length : Nat) : Int)) then
      if (0 : Int) ≤ i_10 ∧ i_10 < ((x0.length : Nat) : Int) then
      if (m_11.length + ([nth x0 i_10] : List Int).length) * 8 ≤ 140737488355328 then
      herbariumref0_CopyNumbers.l1 K x0 k (wr .i64 (i_10 + 1)) (m_11 ++ ([nth x0 i_10] : List Int))
      else none
      else none
    else
      some m_11
def herbariumref0_CopyNumbers (K : Nat) (x0 : List Int) : Option (List Int) :=
  herbariumref0_CopyNumbers.l1 K x0 K (0 : Int) ([] : List Int)
abbrev herbariumref0_CopyNumberLists.sg : Sig := ⟨[(.one, (.sl (.sl (.int .i64))))], [], [(.one, (.sl (.sl (.int .i64))))], [.o1]⟩
def herbariumref0_CopyNumberLists.l1 (K : Nat) (x0 : List (List Int)) : Nat → Int → (List (List Int)) → Option (List (List Int))
  | 0, _, _ => none
  | k + 1, i_10, l_11 =>
    if decide (i_10 < ((x0.length : Nat) : Int)) then
      if (0 : Int) ≤ i_10 ∧ i_10 < ((x0.length : Nat) : Int) then
      (herbariumref0_CopyNumbers K (nth x0 i_10)).bind fun r16 =>
      if (l_11.length + ([r16] : List (List Int)).length) * 24 ≤ 140737488355328 then
      herbariumref0_CopyNumberLists.l1 K x0 k (wr .i64 (i_10 + 1)) (l_11 ++ ([r16] : List (List Int)))
      else none
      else none
    else
      some l_11
def herbariumref0_CopyNumberLists (K : Nat) (x0 : List (List Int)) : Option (List (List Int)) :=
  herbariumref0_CopyNumberLists.l1 K x0 K (0 : Int) ([] : List (List Int))
abbrev herbariumref0_CopyGraph.sg : Sig := ⟨[(.agg, Ty_api_Graph)], [], [(.agg, Ty_api_Graph)], [.s, .o1]⟩
def herbariumref0_CopyGraph (K : Nat) (x0 : api_Graph) : Option api_Graph :=
  (herbariumref0_CopyNumberLists K x0.Out).bind fun r7 =>
  some ((x0.N, r7) : api_Graph)
abbrev herbariumref0_Num.sg : Sig := ⟨[(.one, (.int .i64)), (.one, (.int .i64))], [], [(.one, .bool)], []⟩
def herbariumref0_Num (K : Nat) (x0 : Int) (x1 : Int) : Option Bool :=
  if decide (x0 ≥ 0) then
    some (decide (x0 ≤ x1))
  else
    some false
abbrev herbariumref3_Origin.sg : Sig := ⟨[(.one, (.int .i64))], [], [(.one, .bool)], []⟩
def herbariumref3_Origin (K : Nat) (x0 : Int) : Option Bool :=
  (herbariumref0_Num K x0 15).bind fun r4 =>
  some r4
abbrev herbariumref3_May.sg : Sig := ⟨[(.one, (.sl (.int .i64)))], [], [(.one, .bool)], []⟩
def herbariumref3_May.l1 (K : Nat) (x0 : List Int) : Nat → Int → Option Bool
  | 0, _ => none
  | k + 1, i_10 =>
    if decide (i_10 < ((x0.length : Nat) : Int)) then
      if decide (i_10 ≤ 16) then
        if (0 : Int) ≤ i_10 ∧ i_10 < ((x0.length : Nat) : Int) then
        (herbariumref3_Origin K (nth x0 i_10)).bind fun r18 =>
        if (!r18) then
          some false
        else
          if decide (i_10 > 0) then
            if (0 : Int) ≤ (wr .i64 (i_10 - 1)) ∧ (wr .i64 (i_10 - 1)) < ((x0.length : Nat) : Int) then
            if (0 : Int) ≤ i_10 ∧ i_10 < ((x0.length : Nat) : Int) then
            if decide ((nth x0 (wr .i64 (i_10 - 1))) ≥ (nth x0 i_10)) then
              some false
            else
              herbariumref3_May.l1 K x0 k (wr .i64 (i_10 + 1))
            else none
            else none
          else
            herbariumref3_May.l1 K x0 k (wr .i64 (i_10 + 1))
        else none
      else
        some (decide (((x0.length : Nat) : Int) ≤ 16))
    else
      some (decide (((x0.length : Nat) : Int) ≤ 16))
def herbariumref3_May (K : Nat) (x0 : List Int) : Option Bool :=
  herbariumref3_May.l1 K x0 K (0 : Int)
abbrev herbariumref6_Edges.sg : Sig := ⟨[(.agg, Ty_api_Graph)], [], [(.one, (.int .i64))], []⟩
def herbariumref6_Edges.l1 (K : Nat) (x0 : api_Graph) : Nat → Int → Int → Option Int
  | 0, _, _ => none
  | k + 1, n_10, i_11 =>
    if decide (i_11 < ((x0.Out.length : Nat) : Int)) then
      if (0 : Int) ≤ i_11 ∧ i_11 < ((x0.Out.length : Nat) : Int) then
      herbariumref6_Edges.l1 K x0 k (wr .i64 (n_10 + (((nth x0.Out i_11).length : Nat) : Int))) (wr .i64 (i_11 + 1))
      else none
    else
      some n_10
def herbariumref6_Edges (K : Nat) (x0 : api_Graph) : Option Int :=
  herbariumref6_Edges.l1 K x0 K (0 : Int) (0 : Int)
abbrev herbariumref6_Graph.sg : Sig := ⟨[(.agg, Ty_api_Graph)], [], [(.one, .bool)], []⟩
def herbariumref6_Graph.l1 (K : Nat) (x0 : api_Graph) : Nat → Int → Option Bool
  | 0, _ => none
  | k + 1, i_10 =>
    if decide (i_10 < x0.N) then
      if (0 : Int) ≤ i_10 ∧ i_10 < ((x0.Out.length : Nat) : Int) then
      (herbariumref3_May K (nth x0.Out i_10)).bind fun r27 =>
      if (!r27) then
        some false
      else
        if (0 : Int) ≤ i_10 ∧ i_10 < ((x0.Out.length : Nat) : Int) then
        if decide ((((nth x0.Out i_10).length : Nat) : Int) > 0) then
          if (0 : Int) ≤ i_10 ∧ i_10 < ((x0.Out.length : Nat) : Int) then
          if (0 : Int) ≤ i_10 ∧ i_10 < ((x0.Out.length : Nat) : Int) then
          if (0 : Int) ≤ (wr .i64 ((((nth x0.Out i_10).length : Nat) : Int) - 1)) ∧ (wr .i64 ((((nth x0.Out i_10).length : Nat) : Int) - 1)) < (((nth x0.Out i_10).length : Nat) : Int) then
          if decide ((nth (nth x0.Out i_10) (wr .i64 ((((nth x0.Out i_10).length : Nat) : Int) - 1))) ≥ x0.N) then
            some false
          else
            herbariumref6_Graph.l1 K x0 k (wr .i64 (i_10 + 1))
          else none
          else none
          else none
        else
          herbariumref6_Graph.l1 K x0 k (wr .i64 (i_10 + 1))
        else none
      else none
    else
      (herbariumref6_Edges K x0).bind fun r58 =>
      some (decide (r58 ≤ 120))
def herbariumref6_Graph (K : Nat) (x0 : api_Graph) : Option Bool :=
  (herbariumref0_Num K x0.N 16).bind fun r6 =>
  if (!r6) then
    some false
  else
    if (((x0.Out.length : Nat) : Int) != x0.N) then
      some false
    else
      herbariumref6_Graph.l1 K x0 K (0 : Int)
abbrev herbariumlaw0_Within.sg : Sig := ⟨[(.one, (.int .i64)), (.one, (.int .i64))], [], [(.one, (.int .i64))], []⟩
def herbariumlaw0_Within (K : Nat) (x0 : Int) (x1 : Int) : Option Int :=
  if (wr .u64 x1) ≠ 0 then
  some (wr .i64 ((wr .u64 x0).tmod (wr .u64 x1)))
  else none
abbrev gaps_Is.sg : Sig := ⟨[(.one, (.int .i64))], [], [(.one, .bool)], []⟩
def gaps_Is (K : Nat) (x0 : Int) : Option Bool :=
  if decide (x0 ≥ 0) then
    some (decide (x0 < 16))
  else
    some false
abbrev gaps_May.sg : Sig := ⟨[(.one, (.sl (.int .i64)))], [], [(.one, .bool)], []⟩
def gaps_May.l1 (K : Nat) (x0 : List Int) : Nat → Int → Int → Option Bool
  | 0, _, _ => none
  | k + 1, t_10, t_11 =>
    if decide (t_11 < t_10) then
      if (0 : Int) ≤ t_11 ∧ t_11 < ((x0.length : Nat) : Int) then
      (gaps_Is K (nth x0 t_11)).bind fun r13 =>
      if (!r13) then
        some false
      else
        if decide (t_11 > 0) then
          if (0 : Int) ≤ (wr .i64 (t_11 - 1)) ∧ (wr .i64 (t_11 - 1)) < ((x0.length : Nat) : Int) then
          if decide ((nth x0 t_11) ≤ (nth x0 (wr .i64 (t_11 - 1)))) then
            some false
          else
            gaps_May.l1 K x0 k t_10 (wr .i64 (t_11 + 1))
          else none
        else
          gaps_May.l1 K x0 k t_10 (wr .i64 (t_11 + 1))
      else none
    else
      some true
def gaps_May (K : Nat) (x0 : List Int) : Option Bool :=
  gaps_May.l1 K x0 K ((x0.length : Nat) : Int) (0 : Int)
abbrev graph_many.sg : Sig := ⟨[(.agg, Ty_api_Graph)], [], [(.one, (.int .i64))], []⟩
def graph_many.l1 (K : Nat) (x0 : api_Graph) : Nat → Int → Int → Int → Option Int
  | 0, _, _, _ => none
  | k + 1, n_10, t_11, t_12 =>
    if decide (t_12 < t_11) then
      if (0 : Int) ≤ t_12 ∧ t_12 < ((x0.Out.length : Nat) : Int) then
      graph_many.l1 K x0 k (wr .i64 (n_10 + (((nth x0.Out t_12).length : Nat) : Int))) t_11 (wr .i64 (t_12 + 1))
      else none
    else
      some n_10
def graph_many (K : Nat) (x0 : api_Graph) : Option Int :=
  graph_many.l1 K x0 K (0 : Int) ((x0.Out.length : Nat) : Int) (0 : Int)
abbrev graph_May.sg : Sig := ⟨[(.agg, Ty_api_Graph)], [], [(.one, .bool)], []⟩
def graph_May.l1 (K : Nat) (x0 : api_Graph) : Nat → Int → Int → Option Bool
  | 0, _, _ => none
  | k + 1, t_10, t_11 =>
    if decide (t_11 < t_10) then
      if (0 : Int) ≤ t_11 ∧ t_11 < ((x0.Out.length : Nat) : Int) then
      (gaps_May K (nth x0.Out t_11)).bind fun r29 =>
      if (!r29) then
        some false
      else
        if decide ((((nth x0.Out t_11).length : Nat) : Int) > 0) then
          if (0 : Int) ≤ (wr .i64 ((((nth x0.Out t_11).length : Nat) : Int) - 1)) ∧ (wr .i64 ((((nth x0.Out t_11).length : Nat) : Int) - 1)) < (((nth x0.Out t_11).length : Nat) : Int) then
          if decide ((nth (nth x0.Out t_11) (wr .i64 ((((nth x0.Out t_11).length : Nat) : Int) - 1))) ≥ x0.N) then
            some false
          else
            graph_May.l1 K x0 k t_10 (wr .i64 (t_11 + 1))
          else none
        else
          graph_May.l1 K x0 k t_10 (wr .i64 (t_11 + 1))
      else none
    else
      (graph_many K x0).bind fun r49 =>
      some (decide (r49 ≤ 120))
def graph_May (K : Nat) (x0 : api_Graph) : Option Bool :=
  if decide (x0.N < 0) then
    some false
  else
    if decide (x0.N > 16) then
      some false
    else
      if (((x0.Out.length : Nat) : Int) != x0.N) then
        some false
      else
        graph_May.l1 K x0 K ((x0.Out.length : Nat) : Int) (0 : Int)
abbrev graph_Is.sg : Sig := ⟨[(.agg, Ty_api_Graph), (.one, (.int .i64))], [], [(.one, .bool)], []⟩
def graph_Is (K : Nat) (x0 : api_Graph) (x1 : Int) : Option Bool :=
  if decide (x1 ≥ 0) then
    some (decide (x1 < x0.N))
  else
    some false
abbrev graph_asked.sg : Sig := ⟨[(.agg, Ty_api_Graph), (.one, (.int .i64)), (.one, (.int .i64))], [], [(.one, (.int .i64))], []⟩
def graph_asked (K : Nat) (x0 : api_Graph) (x1 : Int) (x2 : Int) : Option Int :=
  (graph_May K x0).bind fun r9 =>
  if (!r9) then
    some (1 : Int)
  else
    (graph_Is K x0 x1).bind fun r14 =>
    if (!r14) then
      some (3 : Int)
    else
      (graph_Is K x0 x2).bind fun r19 =>
      if (!r19) then
        some (3 : Int)
      else
        some (0 : Int)
abbrev cmp_isNaN_int_.sg : Sig := ⟨[(.one, (.int .i64))], [], [(.one, .bool)], []⟩
def cmp_isNaN_int_ (K : Nat) (x0 : Int) : Option Bool :=
  some (x0 != x0)
abbrev cmp_Less_int_.sg : Sig := ⟨[(.one, (.int .i64)), (.one, (.int .i64))], [], [(.one, .bool)], []⟩
def cmp_Less_int_ (K : Nat) (x0 : Int) (x1 : Int) : Option Bool :=
  (cmp_isNaN_int_ K x0).bind fun r6 =>
  if r6 then
    (cmp_isNaN_int_ K x1).bind fun r9 =>
    if (!r9) then
      some true
    else
      some (decide (x0 < x1))
  else
    some (decide (x0 < x1))
abbrev slices_isNaN_int_.sg : Sig := ⟨[(.one, (.int .i64))], [], [(.one, .bool)], []⟩
def slices_isNaN_int_ (K : Nat) (x0 : Int) : Option Bool :=
  some (x0 != x0)
abbrev slices_BinarySearch___int_int_.sg : Sig := ⟨[(.one, (.sl (.int .i64))), (.one, (.int .i64))], [], [(.one, (.int .i64)), (.one, .bool)], []⟩
def slices_BinarySearch___int_int_.l1 (K : Nat) (x0 : List Int) (x1 : Int) : Nat → Int → Int → Int → Option (Int × Bool)
  | 0, _, _, _ => none
  | k + 1, n_10, i_11, j_12 =>
    if decide (i_11 < j_12) then
      if (0 : Int) ≤ 1 then
      if (0 : Int) ≤ (wr .i64 ((wr .u64 (wr .i64 (i_11 + j_12))).fdiv (2 ^ min ((1 : Int)).toNat 64))) ∧ (wr .i64 ((wr .u64 (wr .i64 (i_11 + j_12))).fdiv (2 ^ min ((1 : Int)).toNat 64))) < ((x0.length : Nat) : Int) then
      (cmp_Less_int_ K (nth x0 (wr .i64 ((wr .u64 (wr .i64 (i_11 + j_12))).fdiv (2 ^ min ((1 : Int)).toNat 64)))) x1).bind fun r27 =>
      if r27 then
        slices_BinarySearch___int_int_.l1 K x0 x1 k n_10 (wr .i64 ((wr .i64 ((wr .u64 (wr .i64 (i_11 + j_12))).fdiv (2 ^ min ((1 : Int)).toNat 64))) + 1)) j_12
      else
        slices_BinarySearch___int_int_.l1 K x0 x1 k n_10 i_11 (wr .i64 ((wr .u64 (wr .i64 (i_11 + j_12))).fdiv (2 ^ min ((1 : Int)).toNat 64)))
      else none
      else none
    else
      if decide (i_11 < n_10) then
        if (0 : Int) ≤ i_11 ∧ i_11 < ((x0.length : Nat) : Int) then
        if ((nth x0 i_11) == x1) then
          some (i_11, true)
        else
          if (0 : Int) ≤ i_11 ∧ i_11 < ((x0.length : Nat) : Int) then
          (slices_isNaN_int_ K (nth x0 i_11)).bind fun r47 =>
          if r47 then
            (slices_isNaN_int_ K x1).bind fun r50 =>
            some (i_11, r50)
          else
            some (i_11, false)
          else none
        else none
      else
        some (i_11, false)
def slices_BinarySearch___int_int_ (K : Nat) (x0 : List Int) (x1 : Int) : Option (Int × Bool) :=
  slices_BinarySearch___int_int_.l1 K x0 x1 K ((x0.length : Nat) : Int) (0 : Int) ((x0.length : Nat) : Int)
abbrev slices_Clone_____int___int_.sg : Sig := ⟨[(.one, (.sl (.sl (.int .i64))))], [], [(.one, (.sl (.sl (.int .i64))))], [.o1]⟩
def slices_Clone_____int___int_ (K : Nat) (x0 : List (List Int)) : Option (List (List Int)) :=
  if (([] : List (List Int)).length + x0.length) * 24 ≤ 140737488355328 then
  some (([] : List (List Int)) ++ x0)
  else none
abbrev slices_Clone___int_int_.sg : Sig := ⟨[(.one, (.sl (.int .i64)))], [], [(.one, (.sl (.int .i64)))], [.o]⟩
def slices_Clone___int_int_ (K : Nat) (x0 : List Int) : Option (List Int) :=
  if (([] : List Int).length + x0.length) * 8 ≤ 140737488355328 then
  some (([] : List Int) ++ x0)
  else none
abbrev graph_Own.sg : Sig := ⟨[(.agg, Ty_api_Graph)], [], [(.agg, Ty_api_Graph)], [.s, .o]⟩
def graph_Own (K : Nat) (x0 : api_Graph) : Option api_Graph :=
  if x0.2.length * 24 ≤ 140737488355328 ∧ ∀ l ∈ x0.2, l.length * 8 ≤ 140737488355328 then some x0 else none
abbrev slices_Delete___int_int_.sg : Sig := sgDel
def slices_Delete___int_int_ (K : Nat) (x0 : List Int) (x1 : Int) (x2 : Int) : Option (List Int) := delF x0 x1 x2
abbrev graph_Cut.sg : Sig := ⟨[(.agg, Ty_api_Graph), (.one, (.int .i64)), (.one, (.int .i64))], [], [(.agg, Ty_api_Graph), (.one, (.int .i64))], [.s, .o]⟩
def graph_Cut (K : Nat) (x0 : api_Graph) (x1 : Int) (x2 : Int) : Option (api_Graph × Int) :=
  (graph_asked K x0 x1 x2).bind fun r14 =>
  if (r14 != 0) then
    some (((0, ([] : List (List Int))) : api_Graph), r14)
  else
    if (0 : Int) ≤ x1 ∧ x1 < ((x0.Out.length : Nat) : Int) then
    (slices_BinarySearch___int_int_ K (nth x0.Out x1) x2).bind fun r26 =>
    if (!r26.2) then
      some (((0, ([] : List (List Int))) : api_Graph), 3)
    else
      (graph_Own K x0).bind fun r33 =>
      if (0 : Int) ≤ x1 ∧ x1 < ((r33.Out.length : Nat) : Int) then
      (slices_Delete___int_int_ K (nth r33.Out x1) r26.1 (wr .i64 (r26.1 + 1))).bind fun r45 =>
      if (0 : Int) ≤ x1 ∧ x1 < ((r33.Out.length : Nat) : Int) then
      if x1 = x1 then
      some (((r33.N, (r33.Out).set x1.toNat r45) : api_Graph), 0)
      else none
      else none
      else none
    else none
abbrev herbariumref0_In.sg : Sig := ⟨[(.one, (.sl (.int .i64))), (.one, (.int .i64))], [], [(.one, (.int .i64))], []⟩
def herbariumref0_In.l1 (K : Nat) (x0 : List Int) (x1 : Int) : Nat → Int → Option Int
  | 0, _ => none
  | k + 1, i_10 =>
    if decide (i_10 < ((x0.length : Nat) : Int)) then
      if (0 : Int) ≤ i_10 ∧ i_10 < ((x0.length : Nat) : Int) then
      if ((nth x0 i_10) == x1) then
        some i_10
      else
        herbariumref0_In.l1 K x0 x1 k (wr .i64 (i_10 + 1))
      else none
    else
      some ((-1) : Int)
def herbariumref0_In (K : Nat) (x0 : List Int) (x1 : Int) : Option Int :=
  herbariumref0_In.l1 K x0 x1 K (0 : Int)
abbrev herbariumref6_Has.sg : Sig := ⟨[(.agg, Ty_api_Graph), (.one, (.int .i64)), (.one, (.int .i64))], [], [(.one, .bool)], []⟩
def herbariumref6_Has (K : Nat) (x0 : api_Graph) (x1 : Int) (x2 : Int) : Option Bool :=
  (herbariumref0_Num K x1 (wr .i64 (x0.N - 1))).bind fun r11 =>
  if r11 then
    if (0 : Int) ≤ x1 ∧ x1 < ((x0.Out.length : Nat) : Int) then
    (herbariumref0_In K (nth x0.Out x1) x2).bind fun r19 =>
    some (decide (r19 ≥ 0))
    else none
  else
    some false
abbrev herbariumref6_Cut.sg : Sig := ⟨[(.agg, Ty_api_Graph), (.one, (.int .i64)), (.one, (.int .i64))], [], [(.agg, Ty_api_Graph), (.one, (.int .i64))], [.s, .o1]⟩
def herbariumref6_Cut (K : Nat) (x0 : api_Graph) (x1 : Int) (x2 : Int) : Option (api_Graph × Int) :=
  (herbariumref6_Has K x0 x1 x2).bind fun r12 =>
  if (!r12) then
    some (((0, ([] : List (List Int))) : api_Graph), 3)
  else
    (herbariumref0_CopyGraph K x0).bind fun r16 =>
    if (0 : Int) ≤ x1 ∧ x1 < ((r16.Out.length : Nat) : Int) then
    (herbariumref0_In K (nth r16.Out x1) x2).bind fun r23 =>
    if (0 : Int) ≤ x1 ∧ x1 < ((r16.Out.length : Nat) : Int) then
    if (0 : Int) ≤ (0 : Int) ∧ (0 : Int) ≤ r23 ∧ r23 ≤ (((nth r16.Out x1).length : Nat) : Int) then
    (herbariumref0_CopyNumbers K (((nth r16.Out x1).drop (0 : Int).toNat).take (r23.toNat - (0 : Int).toNat))).bind fun r34 =>
    if (0 : Int) ≤ x1 ∧ x1 < ((r16.Out.length : Nat) : Int) then
    if (0 : Int) ≤ (wr .i64 (r23 + 1)) ∧ (wr .i64 (r23 + 1)) ≤ (((nth r16.Out x1).length : Nat) : Int) ∧ (((nth r16.Out x1).length : Nat) : Int) ≤ (((nth r16.Out x1).length : Nat) : Int) then
    if (r34.length + (((nth r16.Out x1).drop (wr .i64 (r23 + 1)).toNat).take ((((nth r16.Out x1).length : Nat) : Int).toNat - (wr .i64 (r23 + 1)).toNat)).length) * 8 ≤ 140737488355328 then
    if (0 : Int) ≤ x1 ∧ x1 < ((r16.Out.length : Nat) : Int) then
    some (((r16.N, (r16.Out).set x1.toNat (r34 ++ (((nth r16.Out x1).drop (wr .i64 (r23 + 1)).toNat).take ((((nth r16.Out x1).length : Nat) : Int).toNat - (wr .i64 (r23 + 1)).toNat)))) : api_Graph), 0)
    else none
    else none
    else none
    else none
    else none
    else none
    else none
abbrev graph_Grow.sg : Sig := ⟨[(.agg, Ty_api_Graph), (.one, (.int .i64))], [], [(.agg, Ty_api_Graph), (.one, (.int .i64))], [.s, .o]⟩
def graph_Grow.j1 (K : Nat) (x0 : api_Graph) (x1 : Int) (t_11 : Bool) (t_10 : Int) : Option (api_Graph × Int) :=
  if t_11 then
    some (((0, ([] : List (List Int))) : api_Graph), 1)
  else
    if decide (x1 > (wr .i64 (16 - x0.N))) then
      some (((0, ([] : List (List Int))) : api_Graph), 2)
    else
      (graph_Own K x0).bind fun r23 =>
      if ((0 : Int) ≤ x1 ∧ x1 ≤ 9223372036854775807 ∧ x1 * ((24 : Nat) : Int) ≤ 281474976710656) ∧ (r23.Out.length + (List.replicate x1.toNat ([] : List Int)).length) * 24 ≤ 140737488355328 then
      some (((wr .i64 (r23.N + x1), r23.Out ++ (List.replicate x1.toNat ([] : List Int))) : api_Graph), 0)
      else none
def graph_Grow (K : Nat) (x0 : api_Graph) (x1 : Int) : Option (api_Graph × Int) :=
  (graph_May K x0).bind fun r8 =>
  if (!r8) then
    graph_Grow.j1 K x0 x1 true (0 : Int)
  else
    graph_Grow.j1 K x0 x1 (decide (x1 < 0)) (0 : Int)
abbrev herbariumref6_Grow.sg : Sig := ⟨[(.agg, Ty_api_Graph), (.one, (.int .i64))], [], [(.agg, Ty_api_Graph), (.one, (.int .i64))], [.s, .o1]⟩
def herbariumref6_Grow.l1 (K : Nat) (x1 : Int) : Nat → Int → Int → (List (List Int)) → Int → Option (api_Graph × Int)
  | 0, _, _, _, _ => none
  | k + 1, i_12, g_10, g_13, t_11 =>
    if decide (i_12 < x1) then
      if (g_13.length + ([([] : List Int)] : List (List Int)).length) * 24 ≤ 140737488355328 then
      herbariumref6_Grow.l1 K x1 k (wr .i64 (i_12 + 1)) g_10 (g_13 ++ ([([] : List Int)] : List (List Int))) t_11
      else none
    else
      some (((g_10, g_13) : api_Graph), 0)
def herbariumref6_Grow (K : Nat) (x0 : api_Graph) (x1 : Int) : Option (api_Graph × Int) :=
  if decide (x1 > (wr .i64 (16 - x0.N))) then
    some (((0, ([] : List (List Int))) : api_Graph), 2)
  else
    (herbariumref0_CopyGraph K x0).bind fun r14 =>
    herbariumref6_Grow.l1 K x1 K (0 : Int) (wr .i64 (r14.N + x1)) r14.Out (0 : Int)
abbrev slices_Index___int_int_.sg : Sig := ⟨[(.one, (.sl (.int .i64))), (.one, (.int .i64))], [], [(.one, (.int .i64))], []⟩
def slices_Index___int_int_.l1 (K : Nat) (x0 : List Int) (x1 : Int) : Nat → Int → Int → Option Int
  | 0, _, _ => none
  | k + 1, t_10, t_11 =>
    if decide (t_11 < t_10) then
      if (0 : Int) ≤ t_11 ∧ t_11 < ((x0.length : Nat) : Int) then
      if (x1 == (nth x0 t_11)) then
        some t_11
      else
        slices_Index___int_int_.l1 K x0 x1 k t_10 (wr .i64 (t_11 + 1))
      else none
    else
      some ((-1) : Int)
def slices_Index___int_int_ (K : Nat) (x0 : List Int) (x1 : Int) : Option Int :=
  slices_Index___int_int_.l1 K x0 x1 K ((x0.length : Nat) : Int) (0 : Int)
abbrev slices_Contains___int_int_.sg : Sig := ⟨[(.one, (.sl (.int .i64))), (.one, (.int .i64))], [], [(.one, .bool)], []⟩
def slices_Contains___int_int_ (K : Nat) (x0 : List Int) (x1 : Int) : Option Bool :=
  (slices_Index___int_int_ K x0 x1).bind fun r7 =>
  some (decide (r7 ≥ 0))
abbrev api_Pair : Type := Int × Int
abbrev Ty_api_Pair : Ty := (.pr (.int .i64) (.int .i64))
abbrev api_Pair.A (x : api_Pair) : Int := x.1
abbrev api_Pair.B (x : api_Pair) : Int := x.2
abbrev graph_holds.sg : Sig := ⟨[(.agg, Ty_api_Graph), (.agg, Ty_api_Pair)], [], [(.one, .bool)], []⟩
def graph_holds (K : Nat) (x0 : api_Graph) (x1 : api_Pair) : Option Bool :=
  (graph_Is K x0 x1.A).bind fun r8 =>
  if r8 then
    if (0 : Int) ≤ x1.A ∧ x1.A < ((x0.Out.length : Nat) : Int) then
    (slices_Contains___int_int_ K (nth x0.Out x1.A) x1.B).bind fun r18 =>
    some r18
    else none
  else
    some false
abbrev graph_Has.sg : Sig := ⟨[(.agg, Ty_api_Graph), (.one, (.int .i64)), (.one, (.int .i64))], [], [(.one, .bool), (.one, (.int .i64))], []⟩
def graph_Has (K : Nat) (x0 : api_Graph) (x1 : Int) (x2 : Int) : Option (Bool × Int) :=
  (graph_May K x0).bind fun r9 =>
  if (!r9) then
    some (false, 1)
  else
    (graph_holds K x0 ((x1, x2) : api_Pair)).bind fun r15 =>
    some (r15, 0)
abbrev herbariumlaw6_num.sg : Sig := ⟨[(.one, (.int .i64))], [], [(.one, (.int .i64))], []⟩
def herbariumlaw6_num (K : Nat) (x0 : Int) : Option Int :=
  some x0
abbrev herbariumref0_EqNumbers.sg : Sig := ⟨[(.one, (.sl (.int .i64))), (.one, (.sl (.int .i64)))], [], [(.one, .bool)], []⟩
def herbariumref0_EqNumbers.l1 (K : Nat) (x0 : List Int) (x1 : List Int) : Nat → Int → Option Bool
  | 0, _ => none
  | k + 1, i_10 =>
    if decide (i_10 < ((x0.length : Nat) : Int)) then
      if (0 : Int) ≤ i_10 ∧ i_10 < ((x0.length : Nat) : Int) then
      if (0 : Int) ≤ i_10 ∧ i_10 < ((x1.length : Nat) : Int) then
      if ((nth x0 i_10) != (nth x1 i_10)) then
        some false
      else
        herbariumref0_EqNumbers.l1 K x0 x1 k (wr .i64 (i_10 + 1))
      else none
      else none
    else
      some true
def herbariumref0_EqNumbers (K : Nat) (x0 : List Int) (x1 : List Int) : Option Bool :=
  if (((x0.length : Nat) : Int) != ((x1.length : Nat) : Int)) then
    some false
  else
    herbariumref0_EqNumbers.l1 K x0 x1 K (0 : Int)
abbrev herbariumref0_EqNumberLists.sg : Sig := ⟨[(.one, (.sl (.sl (.int .i64)))), (.one, (.sl (.sl (.int .i64))))], [], [(.one, .bool)], []⟩
def herbariumref0_EqNumberLists.l1 (K : Nat) (x0 : List (List Int)) (x1 : List (List Int)) : Nat → Int → Option Bool
  | 0, _ => none
  | k + 1, i_10 =>
    if decide (i_10 < ((x0.length : Nat) : Int)) then
      if (0 : Int) ≤ i_10 ∧ i_10 < ((x0.length : Nat) : Int) then
      if (0 : Int) ≤ i_10 ∧ i_10 < ((x1.length : Nat) : Int) then
      (herbariumref0_EqNumbers K (nth x0 i_10) (nth x1 i_10)).bind fun r25 =>
      if (!r25) then
        some false
      else
        herbariumref0_EqNumberLists.l1 K x0 x1 k (wr .i64 (i_10 + 1))
      else none
      else none
    else
      some true
def herbariumref0_EqNumberLists (K : Nat) (x0 : List (List Int)) (x1 : List (List Int)) : Option Bool :=
  if (((x0.length : Nat) : Int) != ((x1.length : Nat) : Int)) then
    some false
  else
    herbariumref0_EqNumberLists.l1 K x0 x1 K (0 : Int)
abbrev herbariumref0_EqGraph.sg : Sig := ⟨[(.agg, Ty_api_Graph), (.agg, Ty_api_Graph)], [], [(.one, .bool)], []⟩
def herbariumref0_EqGraph (K : Nat) (x0 : api_Graph) (x1 : api_Graph) : Option Bool :=
  if (x0.N == x1.N) then
    (herbariumref0_EqNumberLists K x0.Out x1.Out).bind fun r15 =>
    some r15
  else
    some false
abbrev slices_Insert___int_int_.sg : Sig := sgIns
def slices_Insert___int_int_ (K : Nat) (x0 : List Int) (x1 : Int) (x2 : List Int) : Option (List Int) := insF x0 x1 x2
abbrev graph_Add.sg : Sig := ⟨[(.agg, Ty_api_Graph), (.one, (.int .i64)), (.one, (.int .i64))], [], [(.agg, Ty_api_Graph), (.one, (.int .i64))], [.s, .o]⟩
def graph_Add (K : Nat) (x0 : api_Graph) (x1 : Int) (x2 : Int) : Option (api_Graph × Int) :=
  (graph_asked K x0 x1 x2).bind fun r14 =>
  if (r14 != 0) then
    some (((0, ([] : List (List Int))) : api_Graph), r14)
  else
    if (0 : Int) ≤ x1 ∧ x1 < ((x0.Out.length : Nat) : Int) then
    (slices_BinarySearch___int_int_ K (nth x0.Out x1) x2).bind fun r26 =>
    if r26.2 then
      some (((0, ([] : List (List Int))) : api_Graph), 4)
    else
      (graph_many K x0).bind fun r34 =>
      if decide (r34 ≥ 120) then
        some (((0, ([] : List (List Int))) : api_Graph), 2)
      else
        (graph_Own K x0).bind fun r38 =>
        if (0 : Int) ≤ x1 ∧ x1 < ((r38.Out.length : Nat) : Int) then
        (slices_Insert___int_int_ K (nth r38.Out x1) r26.1 [x2]).bind fun r50 =>
        if (0 : Int) ≤ x1 ∧ x1 < ((r38.Out.length : Nat) : Int) then
        if x1 = x1 then
        some (((r38.N, (r38.Out).set x1.toNat r50) : api_Graph), 0)
        else none
        else none
        else none
    else none
abbrev herbariumref6_Add.sg : Sig := ⟨[(.agg, Ty_api_Graph), (.one, (.int .i64)), (.one, (.int .i64))], [], [(.agg, Ty_api_Graph), (.one, (.int .i64))], [.s, .o1]⟩
def herbariumref6_Add.l1 (K : Nat) (r34 : api_Graph) (x1 : Int) (x2 : Int) : Nat → Int → Int → Option (api_Graph × Int)
  | 0, _, _ => none
  | k + 1, t_11, t_10 =>
    if (0 : Int) ≤ x1 ∧ x1 < ((r34.Out.length : Nat) : Int) then
    if decide (t_11 < (((nth r34.Out x1).length : Nat) : Int)) then
      if (0 : Int) ≤ x1 ∧ x1 < ((r34.Out.length : Nat) : Int) then
      if (0 : Int) ≤ t_11 ∧ t_11 < (((nth r34.Out x1).length : Nat) : Int) then
      if decide ((nth (nth r34.Out x1) t_11) < x2) then
        herbariumref6_Add.l1 K r34 x1 x2 k (wr .i64 (t_11 + 1)) t_10
      else
        if (0 : Int) ≤ x1 ∧ x1 < ((r34.Out.length : Nat) : Int) then
        if (0 : Int) ≤ (0 : Int) ∧ (0 : Int) ≤ t_11 ∧ t_11 ≤ (((nth r34.Out x1).length : Nat) : Int) then
        (herbariumref0_CopyNumbers K (((nth r34.Out x1).drop (0 : Int).toNat).take (t_11.toNat - (0 : Int).toNat))).bind fun r67 =>
        if (r67.length + ([x2] : List Int).length) * 8 ≤ 140737488355328 then
        if (0 : Int) ≤ x1 ∧ x1 < ((r34.Out.length : Nat) : Int) then
        if (0 : Int) ≤ t_11 ∧ t_11 ≤ (((nth r34.Out x1).length : Nat) : Int) ∧ (((nth r34.Out x1).length : Nat) : Int) ≤ (((nth r34.Out x1).length : Nat) : Int) then
        if ((r67 ++ ([x2] : List Int)).length + (((nth r34.Out x1).drop t_11.toNat).take ((((nth r34.Out x1).length : Nat) : Int).toNat - t_11.toNat)).length) * 8 ≤ 140737488355328 then
        if (0 : Int) ≤ x1 ∧ x1 < ((r34.Out.length : Nat) : Int) then
        some (((r34.N, (r34.Out).set x1.toNat ((r67 ++ ([x2] : List Int)) ++ (((nth r34.Out x1).drop t_11.toNat).take ((((nth r34.Out x1).length : Nat) : Int).toNat - t_11.toNat)))) : api_Graph), 0)
        else none
        else none
        else none
        else none
        else none
        else none
        else none
      else none
      else none
    else
      if (0 : Int) ≤ x1 ∧ x1 < ((r34.Out.length : Nat) : Int) then
      if (0 : Int) ≤ (0 : Int) ∧ (0 : Int) ≤ t_11 ∧ t_11 ≤ (((nth r34.Out x1).length : Nat) : Int) then
      (herbariumref0_CopyNumbers K (((nth r34.Out x1).drop (0 : Int).toNat).take (t_11.toNat - (0 : Int).toNat))).bind fun r67 =>
      if (r67.length + ([x2] : List Int).length) * 8 ≤ 140737488355328 then
      if (0 : Int) ≤ x1 ∧ x1 < ((r34.Out.length : Nat) : Int) then
      if (0 : Int) ≤ t_11 ∧ t_11 ≤ (((nth r34.Out x1).length : Nat) : Int) ∧ (((nth r34.Out x1).length : Nat) : Int) ≤ (((nth r34.Out x1).length : Nat) : Int) then
      if ((r67 ++ ([x2] : List Int)).length + (((nth r34.Out x1).drop t_11.toNat).take ((((nth r34.Out x1).length : Nat) : Int).toNat - t_11.toNat)).length) * 8 ≤ 140737488355328 then
      if (0 : Int) ≤ x1 ∧ x1 < ((r34.Out.length : Nat) : Int) then
      some (((r34.N, (r34.Out).set x1.toNat ((r67 ++ ([x2] : List Int)) ++ (((nth r34.Out x1).drop t_11.toNat).take ((((nth r34.Out x1).length : Nat) : Int).toNat - t_11.toNat)))) : api_Graph), 0)
      else none
      else none
      else none
      else none
      else none
      else none
      else none
    else none
def herbariumref6_Add (K : Nat) (x0 : api_Graph) (x1 : Int) (x2 : Int) : Option (api_Graph × Int) :=
  (herbariumref0_Num K x1 (wr .i64 (x0.N - 1))).bind fun r13 =>
  if (!r13) then
    some (((0, ([] : List (List Int))) : api_Graph), 3)
  else
    (herbariumref0_Num K x2 (wr .i64 (x0.N - 1))).bind fun r20 =>
    if (!r20) then
      some (((0, ([] : List (List Int))) : api_Graph), 3)
    else
      (herbariumref6_Has K x0 x1 x2).bind fun r27 =>
      if r27 then
        some (((0, ([] : List (List Int))) : api_Graph), 4)
      else
        (herbariumref6_Edges K x0).bind fun r30 =>
        if decide (r30 ≥ 120) then
          some (((0, ([] : List (List Int))) : api_Graph), 2)
        else
          (herbariumref0_CopyGraph K x0).bind fun r34 =>
          herbariumref6_Add.l1 K r34 x1 x2 K (0 : Int) (0 : Int)
abbrev graph_Check.sg : Sig := ⟨[(.agg, Ty_api_Graph)], [], [(.one, (.int .i64))], []⟩
def graph_Check (K : Nat) (x0 : api_Graph) : Option Int :=
  (graph_May K x0).bind fun r4 =>
  if (!r4) then
    some (1 : Int)
  else
    some (0 : Int)
abbrev herbariumlaw0_Numbers.sg : Sig := ⟨[(.one, (.sl (.int .i64)))], [.o], [], []⟩
def herbariumlaw0_Numbers.l1 (K : Nat) : Nat → Int → (List Int) → Option Unit
  | 0, _, _ => none
  | k + 1, i_10, l_11 =>
    if decide (i_10 < ((l_11.length : Nat) : Int)) then
      if (0 : Int) ≤ i_10 ∧ i_10 < ((l_11.length : Nat) : Int) then
      herbariumlaw0_Numbers.l1 K k (wr .i64 (i_10 + 1)) ((l_11).set i_10.toNat (-99))
      else none
    else
      some ()
def herbariumlaw0_Numbers (K : Nat) (x0 : List Int) : Option Unit :=
  herbariumlaw0_Numbers.l1 K K (0 : Int) x0
abbrev herbariumlaw0_Graph.sg : Sig := ⟨[(.agg, Ty_api_Graph)], [.s, .o], [], []⟩
def herbariumlaw0_Graph.l1 (K : Nat) : Nat → Int → (List (List Int)) → Option Unit
  | 0, _, _ => none
  | k + 1, i_10, g_11 =>
    if decide (i_10 < ((g_11.length : Nat) : Int)) then
      if (0 : Int) ≤ i_10 ∧ i_10 < ((g_11.length : Nat) : Int) then
      (herbariumlaw0_Numbers K (nth g_11 i_10)).bind fun r15 =>
      if (0 : Int) ≤ i_10 ∧ i_10 < ((g_11.length : Nat) : Int) then
      if i_10 = i_10 then
      herbariumlaw0_Graph.l1 K k (wr .i64 (i_10 + 1)) ((g_11).set i_10.toNat [])
      else none
      else none
      else none
    else
      some ()
def herbariumlaw0_Graph (K : Nat) (x0 : api_Graph) : Option Unit :=
  herbariumlaw0_Graph.l1 K K (0 : Int) x0.Out
abbrev herbariumlaw6_step.sg : Sig := ⟨[(.agg, Ty_api_Graph), (.agg, Ty_herbariumlaw6_Act)], [], [(.agg, Ty_api_Graph), (.one, .bool)], []⟩
def herbariumlaw6_step.j3 (K : Nat) (r16 : api_Graph) (r92 : Bool × Int) (x0 : api_Graph) (t_15 : Int) (t_16 : Bool) (t_14 : Int) : Option (api_Graph × Bool) :=
  (herbariumlaw6_num K r92.2).bind fun r104 =>
  if (r104 == t_15) then
    if (r92.1 == t_16) then
      (herbariumref0_EqGraph K r16 x0).bind fun r115 =>
      some (x0, r115)
    else
      some (x0, false)
  else
    some (x0, false)
def herbariumlaw6_step.j1 (K : Nat) (r16 : api_Graph) (r18 : Bool) (x0 : api_Graph) (t_18 : Int) (t_23 : Int) (t_17 : Int) (t_19 : Int) (t_20 : List (List Int)) (t_21 : Int) (t_22 : List (List Int)) : Option (api_Graph × Bool) :=
  (herbariumlaw6_num K t_23).bind fun r118 =>
  if (r118 != t_18) then
    some (x0, false)
  else
    (herbariumref0_EqGraph K ((t_19, t_20) : api_Graph) ((t_21, t_22) : api_Graph)).bind fun r124 =>
    if (!r124) then
      some (x0, false)
    else
      (herbariumref0_EqGraph K r16 x0).bind fun r130 =>
      if (!r130) then
        some (x0, false)
      else
        (graph_Check K r16).bind fun r135 =>
        (herbariumlaw6_num K r135).bind fun r136 =>
        if (!((r136 == 0) == r18)) then
          some (x0, false)
        else
          (herbariumlaw0_Graph K ((t_19, t_20) : api_Graph)).bind fun r143 =>
          (herbariumref0_EqGraph K r16 x0).bind fun r146 =>
          if (!r146) then
            some (x0, false)
          else
            if (t_18 != 0) then
              some (x0, true)
            else
              (herbariumref0_CopyGraph K ((t_21, t_22) : api_Graph)).bind fun r153 =>
              some (r153, true)
def herbariumlaw6_step.j2 (K : Nat) (r16 : api_Graph) (r18 : Bool) (r68 : api_Graph × Int) (x0 : api_Graph) (x1 : herbariumlaw6_Act) (t_11 : Int) (t_13 : Bool) (t_10 : Int) (t_12 : Int) : Option (api_Graph × Bool) :=
  if t_13 then
    (herbariumref6_Grow K x0 x1.A).bind fun r81 =>
    herbariumlaw6_step.j1 K r16 r18 x0 r81.2 r68.2 t_10 r68.1.N r68.1.Out r81.1.N r81.1.Out
  else
    herbariumlaw6_step.j1 K r16 r18 x0 t_11 r68.2 t_10 r68.1.N r68.1.Out t_12 ([] : List (List Int))
def herbariumlaw6_step (K : Nat) (x0 : api_Graph) (x1 : herbariumlaw6_Act) : Option (api_Graph × Bool) :=
  (herbariumref0_CopyGraph K x0).bind fun r16 =>
  (herbariumref6_Graph K x0).bind fun r18 =>
  (herbariumlaw0_Within K x1.Do 7).bind fun r21 =>
  if (r21 == 4) then
    (graph_Cut K r16 x1.A x1.B).bind fun r49 =>
    if r18 then
      (herbariumref6_Cut K x0 x1.A x1.B).bind fun r59 =>
      herbariumlaw6_step.j1 K r16 r18 x0 r59.2 r49.2 (0 : Int) r49.1.N r49.1.Out r59.1.N r59.1.Out
    else
      herbariumlaw6_step.j1 K r16 r18 x0 (1 : Int) r49.2 (0 : Int) r49.1.N r49.1.Out (0 : Int) ([] : List (List Int))
  else
    if (r21 == 5) then
      (graph_Grow K r16 x1.A).bind fun r68 =>
      if r18 then
        herbariumlaw6_step.j2 K r16 r18 r68 x0 x1 (1 : Int) (decide (x1.A ≥ 0)) (0 : Int) (0 : Int)
      else
        herbariumlaw6_step.j2 K r16 r18 r68 x0 x1 (1 : Int) false (0 : Int) (0 : Int)
    else
      if (r21 == 6) then
        (graph_Has K r16 x1.A x1.B).bind fun r92 =>
        if r18 then
          (herbariumref6_Has K x0 x1.A x1.B).bind fun r101 =>
          herbariumlaw6_step.j3 K r16 r92 x0 (0 : Int) r101 (0 : Int)
        else
          herbariumlaw6_step.j3 K r16 r92 x0 (1 : Int) false (0 : Int)
      else
        (graph_Add K r16 x1.A x1.B).bind fun r28 =>
        if r18 then
          (herbariumref6_Add K x0 x1.A x1.B).bind fun r38 =>
          herbariumlaw6_step.j1 K r16 r18 x0 r38.2 r28.2 (0 : Int) r28.1.N r28.1.Out r38.1.N r38.1.Out
        else
          herbariumlaw6_step.j1 K r16 r18 x0 (1 : Int) r28.2 (0 : Int) r28.1.N r28.1.Out (0 : Int) ([] : List (List Int))
abbrev graph_Empty.sg : Sig := ⟨[(.one, (.int .i64))], [], [(.agg, Ty_api_Graph)], [.s, .o]⟩
def graph_Empty (K : Nat) (x0 : Int) : Option api_Graph :=
  if x0 = x0 ∧ (0 : Int) ≤ x0 ∧ (24 : Int) * x0 ≤ 281474976710656 ∧ x0 ≤ 9223372036854775807 then
  some ((x0, List.replicate x0.toNat ([] : List Int)) : api_Graph)
  else none
abbrev graph_New.sg : Sig := ⟨[(.one, (.int .i64))], [], [(.agg, Ty_api_Graph), (.one, (.int .i64))], [.s, .o]⟩
def graph_New (K : Nat) (x0 : Int) : Option (api_Graph × Int) :=
  if decide (x0 < 0) then
    some (((0, ([] : List (List Int))) : api_Graph), 1)
  else
    if decide (x0 > 16) then
      some (((0, ([] : List (List Int))) : api_Graph), 1)
    else
      (graph_Empty K x0).bind fun r12 =>
      some (r12, 0)
abbrev herbariumref6_New.sg : Sig := ⟨[(.one, (.int .i64))], [], [(.agg, Ty_api_Graph)], [.s, .o]⟩
def herbariumref6_New (K : Nat) (x0 : Int) : Option api_Graph :=
  if x0 = x0 ∧ (0 : Int) ≤ x0 ∧ (24 : Int) * x0 ≤ 281474976710656 ∧ x0 ≤ 9223372036854775807 then
  some ((x0, List.replicate x0.toNat ([] : List Int)) : api_Graph)
  else none
abbrev herbariumlaw6_wakes.sg : Sig := ⟨[], [], [(.one, .bool)], []⟩
def herbariumlaw6_wakes (K : Nat) : Option Bool :=
  (graph_New K 2).bind fun r7 =>
  (graph_Add K r7.1 0 1).bind fun r12 =>
  (graph_Add K r12.1 0 1).bind fun r17 =>
  (herbariumlaw6_num K r7.2).bind fun r21 =>
  if (r21 == 0) then
    (herbariumlaw6_num K r12.2).bind fun r25 =>
    if (r25 == 0) then
      (herbariumlaw6_num K r17.2).bind fun r30 =>
      if (r30 == 4) then
        if (((r12.1.Out.length : Nat) : Int) == 2) then
          if (0 : Int) ≤ (0 : Int) ∧ (0 : Int) < ((r12.1.Out.length : Nat) : Int) then
          some ((((nth r12.1.Out 0).length : Nat) : Int) == 1)
          else none
        else
          some false
      else
        some false
    else
      some false
  else
    some false
abbrev herbariumlaw6_GraphExact.sg : Sig := ⟨[(.agg, Ty_herbariumlaw6_Script)], [], [(.one, .bool)], []⟩
def herbariumlaw6_GraphExact.j4 (K : Nat) (go_l3 : Int → Option Bool) (r66 : api_Graph × Int) (t_13 : Int) (t_14 : Int) (t_15 : Int) (t_16 : List (List Int)) : Option Bool :=
  (herbariumlaw6_num K r66.2).bind fun r74 =>
  if (r74 != t_14) then
    some false
  else
    (herbariumref0_EqGraph K r66.1 ((t_15, t_16) : api_Graph)).bind fun r80 =>
    if (!r80) then
      some false
    else
      go_l3 (wr .i64 (t_13 + 1))
def herbariumlaw6_GraphExact.l3 (K : Nat) : Nat → Int → Option Bool
  | 0, _ => none
  | k + 1, t_13 =>
    if decide (t_13 ≤ 17) then
      (graph_New K t_13).bind fun r66 =>
      (herbariumref0_Num K t_13 16).bind fun r70 =>
      if r70 then
        (herbariumref6_New K t_13).bind fun r72 =>
        herbariumlaw6_GraphExact.j4 K (herbariumlaw6_GraphExact.l3 K k) r66 t_13 (0 : Int) r72.N r72.Out
      else
        herbariumlaw6_GraphExact.j4 K (herbariumlaw6_GraphExact.l3 K k) r66 t_13 (1 : Int) (0 : Int) ([] : List (List Int))
    else
      (herbariumlaw6_wakes K).bind fun r83 =>
      some r83
def herbariumlaw6_GraphExact.l2 (K : Nat) (go_l1 : Int → (List api_Graph) → Option Bool) (t_10 : List api_Graph) (t_11 : Int) (x0 : herbariumlaw6_Script) : Nat → Int → Int → (List (List Int)) → Option Bool
  | 0, _, _, _ => none
  | k + 1, t_12, t_17, t_18 =>
    if decide (t_12 < ((x0.A.length : Nat) : Int)) then
      if decide (t_12 < 16) then
        if (0 : Int) ≤ t_12 ∧ t_12 < ((x0.A.length : Nat) : Int) then
        (herbariumlaw6_step K ((t_17, t_18) : api_Graph) (nth x0.A t_12)).bind fun r54 =>
        if (!r54.2) then
          some false
        else
          herbariumlaw6_GraphExact.l2 K go_l1 t_10 t_11 x0 k (wr .i64 (t_12 + 1)) r54.1.N r54.1.Out
        else none
      else
        go_l1 (wr .i64 (t_11 + 1)) t_10
    else
      go_l1 (wr .i64 (t_11 + 1)) t_10
def herbariumlaw6_GraphExact.l1 (K : Nat) (x0 : herbariumlaw6_Script) : Nat → Int → (List api_Graph) → Option Bool
  | 0, _, _ => none
  | k + 1, t_11, t_10 =>
    if decide (t_11 < ((t_10.length : Nat) : Int)) then
      if decide (t_11 < 4) then
        if (0 : Int) ≤ t_11 ∧ t_11 < ((t_10.length : Nat) : Int) then
        (herbariumref0_CopyGraph K (nth t_10 t_11)).bind fun r35 =>
        herbariumlaw6_GraphExact.l2 K (herbariumlaw6_GraphExact.l1 K x0 k) t_10 t_11 x0 K (0 : Int) r35.N r35.Out
        else none
      else
        herbariumlaw6_GraphExact.l3 K K ((-1) : Int)
    else
      herbariumlaw6_GraphExact.l3 K K ((-1) : Int)
def herbariumlaw6_GraphExact (K : Nat) (x0 : herbariumlaw6_Script) : Option Bool :=
  (herbariumlaw6_Heavy K x0).bind fun r15 =>
  if r15 then
    some true
  else
    if (([((0, ([] : List (List Int))) : api_Graph)] : List api_Graph).length + x0.G.length) * 32 ≤ 140737488355328 then
    herbariumlaw6_GraphExact.l1 K x0 K (0 : Int) (([((0, ([] : List (List Int))) : api_Graph)] : List api_Graph) ++ x0.G)
    else none
abbrev herbariumlaw6_only.sg : Sig := ⟨[(.agg, Ty_herbariumlaw6_Script), (.one, (.sl (.int .i64)))], [], [(.one, .bool)], []⟩
def herbariumlaw6_only.l1 (K : Nat) (x0 : herbariumlaw6_Script) (x1 : List Int) : Nat → Int → (List herbariumlaw6_Act) → Option Bool
  | 0, _, _ => none
  | k + 1, i_10, q_11 =>
    if decide (i_10 < ((x0.A.length : Nat) : Int)) then
      if (0 : Int) ≤ i_10 ∧ i_10 < ((x0.A.length : Nat) : Int) then
      if ((x1.length : Nat) : Int) ≠ 0 then
      if (0 : Int) ≤ (i_10.tmod ((x1.length : Nat) : Int)) ∧ (i_10.tmod ((x1.length : Nat) : Int)) < ((x1.length : Nat) : Int) then
      if (q_11.length + ([((nth x1 (i_10.tmod ((x1.length : Nat) : Int)), (nth x0.A i_10).A, (nth x0.A i_10).B) : herbariumlaw6_Act)] : List herbariumlaw6_Act).length) * 24 ≤ 140737488355328 then
      herbariumlaw6_only.l1 K x0 x1 k (wr .i64 (i_10 + 1)) (q_11 ++ ([((nth x1 (i_10.tmod ((x1.length : Nat) : Int)), (nth x0.A i_10).A, (nth x0.A i_10).B) : herbariumlaw6_Act)] : List herbariumlaw6_Act))
      else none
      else none
      else none
      else none
    else
      (herbariumlaw6_GraphExact K ((x0.G, q_11) : herbariumlaw6_Script)).bind fun r37 =>
      some r37
def herbariumlaw6_only (K : Nat) (x0 : herbariumlaw6_Script) (x1 : List Int) : Option Bool :=
  herbariumlaw6_only.l1 K x0 x1 K (0 : Int) ([] : List herbariumlaw6_Act)
abbrev herbariumlaw6_GraphAdds.sg : Sig := ⟨[(.agg, Ty_herbariumlaw6_Script)], [], [(.one, .bool)], []⟩
def herbariumlaw6_GraphAdds (K : Nat) (x0 : herbariumlaw6_Script) : Option Bool :=
  (herbariumlaw6_only K x0 ([0, 6, 1] : List Int)).bind fun r5 =>
  some r5
abbrev herbariumlaw6_GraphCuts.sg : Sig := ⟨[(.agg, Ty_herbariumlaw6_Script)], [], [(.one, .bool)], []⟩
def herbariumlaw6_GraphCuts (K : Nat) (x0 : herbariumlaw6_Script) : Option Bool :=
  (herbariumlaw6_only K x0 ([0, 4, 4, 6] : List Int)).bind fun r5 =>
  some r5
abbrev herbariumlaw6_GraphGrows.sg : Sig := ⟨[(.agg, Ty_herbariumlaw6_Script)], [], [(.one, .bool)], []⟩
def herbariumlaw6_GraphGrows (K : Nat) (x0 : herbariumlaw6_Script) : Option Bool :=
  (herbariumlaw6_only K x0 ([5, 0, 0, 6] : List Int)).bind fun r5 =>
  some r5
end Go.XM
end
