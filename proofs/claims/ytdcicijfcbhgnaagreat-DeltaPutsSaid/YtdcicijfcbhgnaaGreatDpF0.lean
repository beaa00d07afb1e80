import Derived.Test.YtdcicijfcbhgnaaGreatDpH0
set_option linter.all false
section
namespace Go.XM
set_option maxRecDepth 100000
abbrev Bl.sg : Sig := ⟨[(.one, (.sl (.sl (.int .i64))))], [], [(.one, (.int .i64))], []⟩
def Bl.l1 (K : Nat) (x0 : List (List Int)) : Nat → Int → Int → Option Int
  | 0, _, _ => none
  | k + 1, n_10, i_11 =>
    if decide (i_11 < ((x0.length : Nat) : Int)) then
      if decide (n_10 < 1048576) then
        if (0 : Int) ≤ i_11 ∧ i_11 < ((x0.length : Nat) : Int) then
        Bl.l1 K x0 k (wr .i64 (n_10 + (((nth x0 i_11).length : Nat) : Int))) (wr .i64 (i_11 + 1))
        else none
      else
        some n_10
    else
      some n_10
def Bl (K : Nat) (x0 : List (List Int)) : Option Int :=
  Bl.l1 K x0 K ((x0.length : Nat) : Int) (0 : Int)
abbrev Ab : Type := Int × (List (List Int))
abbrev Bc : Ty := (.pr (.int .i64) (.sl (.sl (.int .i64))))
abbrev Ab.N (x : Ab) : Int := x.1
abbrev Ab.Out (x : Ab) : List (List Int) := x.2
abbrev Ay.sg : Sig := ⟨[(.one, (.sl Bc))], [], [(.one, (.int .i64))], []⟩
def Ay.l1 (K : Nat) (x0 : List Ab) : Nat → Int → Int → Option Int
  | 0, _, _ => none
  | k + 1, n_10, i_11 =>
    if decide (i_11 < ((x0.length : Nat) : Int)) then
      if decide (n_10 < 1048576) then
        if (0 : Int) ≤ i_11 ∧ i_11 < ((x0.length : Nat) : Int) then
        (Bl K ((nth x0 i_11).Out)).bind fun r23 =>
        Ay.l1 K x0 k (wr .i64 (n_10 + r23)) (wr .i64 (i_11 + 1))
        else none
      else
        some n_10
    else
      some n_10
def Ay (K : Nat) (x0 : List Ab) : Option Int :=
  Ay.l1 K x0 K ((x0.length : Nat) : Int) (0 : Int)
abbrev Dn : Type := Int × Int × Int
abbrev Dg : Ty := (.pr (.int .i64) (.pr (.int .i64) (.int .i64)))
abbrev Dn.Do (x : Dn) : Int := x.1
abbrev Dn.A (x : Dn) : Int := x.2.1
abbrev Dn.B (x : Dn) : Int := x.2.2
abbrev Bk : Type := (List Ab) × (List Dn)
abbrev D2 : Ty := (.pr (.sl Bc) (.sl Dg))
abbrev Bk.G (x : Bk) : List Ab := x.1
abbrev Bk.A (x : Bk) : List Dn := x.2
abbrev C5.sg : Sig := ⟨[(.agg, D2)], [], [(.one, .bool)], []⟩
def C5 (K : Nat) (x0 : Bk) : Option Bool :=
  (Ay K x0.G).bind fun r5 =>
  some (decide ((wr .i64 (r5 + ((x0.A.length : Nat) : Int))) > 1200))
abbrev A7.sg : Sig := ⟨[(.one, (.sl (.int .i64)))], [], [(.one, (.sl (.int .i64)))], [.o]⟩
def A7.l1 (K : Nat) (x0 : List Int) : Nat → Int → (List Int) → Option (List Int)
  | 0, _, _ => none
  | k + 1, i_10, m_11 =>
    if decide (i_10 < ((x0.length : Nat) : Int)) then
      if (0 : Int) ≤ i_10 ∧ i_10 < ((x0.length : Nat) : Int) then
      if (m_11.length + ([nth x0 i_10] : List Int).length) * 8 ≤ 140737488355328 then
      A7.l1 K x0 k (wr .i64 (i_10 + 1)) (m_11 ++ ([nth x0 i_10] : List Int))
      else none
      else none
    else
      some m_11
def A7 (K : Nat) (x0 : List Int) : Option (List Int) :=
  A7.l1 K x0 K (0 : Int) ([] : List Int)
abbrev Av.sg : Sig := ⟨[(.one, (.sl (.sl (.int .i64))))], [], [(.one, (.sl (.sl (.int .i64))))], [.o1]⟩
def Av.l1 (K : Nat) (x0 : List (List Int)) : Nat → Int → (List (List Int)) → Option (List (List Int))
  | 0, _, _ => none
  | k + 1, i_10, l_11 =>
    if decide (i_10 < ((x0.length : Nat) : Int)) then
      if (0 : Int) ≤ i_10 ∧ i_10 < ((x0.length : Nat) : Int) then
      (A7 K (nth x0 i_10)).bind fun r16 =>
      if (l_11.length + ([r16] : List (List Int)).length) * 24 ≤ 140737488355328 then
      Av.l1 K x0 k (wr .i64 (i_10 + 1)) (l_11 ++ ([r16] : List (List Int)))
      else none
      else none
    else
      some l_11
def Av (K : Nat) (x0 : List (List Int)) : Option (List (List Int)) :=
  Av.l1 K x0 K (0 : Int) ([] : List (List Int))
abbrev B0.sg : Sig := ⟨[(.agg, Bc)], [], [(.agg, Bc)], [.s, .o1]⟩
def B0 (K : Nat) (x0 : Ab) : Option Ab :=
  (Av K x0.Out).bind fun r7 =>
  some ((x0.N, r7) : Ab)
abbrev Ds.sg : Sig := ⟨[(.one, (.int .i64))], [], [(.one, .bool)], []⟩
def Ds (K : Nat) (x0 : Int) : Option Bool :=
  if decide (x0 ≥ 0) then
    some (decide (x0 < 16))
  else
    some false
abbrev C2.sg : Sig := ⟨[(.one, (.sl (.int .i64)))], [], [(.one, .bool)], []⟩
def C2.l1 (K : Nat) (x0 : List Int) : Nat → Int → Int → Option Bool
  | 0, _, _ => none
  | k + 1, t_10, t_11 =>
    if decide (t_11 < t_10) then
      if (0 : Int) ≤ t_11 ∧ t_11 < ((x0.length : Nat) : Int) then
      (Ds K (nth x0 t_11)).bind fun r13 =>
      if (!r13) then
        some false
      else
        if decide (t_11 > 0) then
          if (0 : Int) ≤ (wr .i64 (t_11 - 1)) ∧ (wr .i64 (t_11 - 1)) < ((x0.length : Nat) : Int) then
          if decide ((nth x0 t_11) ≤ (nth x0 (wr .i64 (t_11 - 1)))) then
            some false
          else
            C2.l1 K x0 k t_10 (wr .i64 (t_11 + 1))
          else none
        else
          C2.l1 K x0 k t_10 (wr .i64 (t_11 + 1))
      else none
    else
      some true
def C2 (K : Nat) (x0 : List Int) : Option Bool :=
  C2.l1 K x0 K ((x0.length : Nat) : Int) (0 : Int)
abbrev C1.sg : Sig := ⟨[(.agg, Bc)], [], [(.one, (.int .i64))], []⟩
def C1.l1 (K : Nat) (x0 : Ab) : Nat → Int → Int → Int → Option Int
  | 0, _, _, _ => none
  | k + 1, n_10, t_11, t_12 =>
    if decide (t_12 < t_11) then
      if (0 : Int) ≤ t_12 ∧ t_12 < ((x0.Out.length : Nat) : Int) then
      C1.l1 K x0 k (wr .i64 (n_10 + (((nth x0.Out t_12).length : Nat) : Int))) t_11 (wr .i64 (t_12 + 1))
      else none
    else
      some n_10
def C1 (K : Nat) (x0 : Ab) : Option Int :=
  C1.l1 K x0 K (0 : Int) ((x0.Out.length : Nat) : Int) (0 : Int)
abbrev Cf.sg : Sig := ⟨[(.agg, Bc)], [], [(.one, .bool)], []⟩
def Cf.l1 (K : Nat) (x0 : Ab) : Nat → Int → Int → Option Bool
  | 0, _, _ => none
  | k + 1, t_10, t_11 =>
    if decide (t_11 < t_10) then
      if (0 : Int) ≤ t_11 ∧ t_11 < ((x0.Out.length : Nat) : Int) then
      (C2 K (nth x0.Out t_11)).bind fun r29 =>
      if (!r29) then
        some false
      else
        if decide ((((nth x0.Out t_11).length : Nat) : Int) > 0) then
          if (0 : Int) ≤ (wr .i64 ((((nth x0.Out t_11).length : Nat) : Int) - 1)) ∧ (wr .i64 ((((nth x0.Out t_11).length : Nat) : Int) - 1)) < (((nth x0.Out t_11).length : Nat) : Int) then
          if decide ((nth (nth x0.Out t_11) (wr .i64 ((((nth x0.Out t_11).length : Nat) : Int) - 1))) ≥ x0.N) then
            some false
          else
            Cf.l1 K x0 k t_10 (wr .i64 (t_11 + 1))
          else none
        else
          Cf.l1 K x0 k t_10 (wr .i64 (t_11 + 1))
      else none
    else
      (C1 K x0).bind fun r49 =>
      some (decide (r49 ≤ 120))
def Cf (K : Nat) (x0 : Ab) : Option Bool :=
  if decide (x0.N < 0) then
    some false
  else
    if decide (x0.N > 16) then
      some false
    else
      if (((x0.Out.length : Nat) : Int) != x0.N) then
        some false
      else
        Cf.l1 K x0 K ((x0.Out.length : Nat) : Int) (0 : Int)
abbrev B4 : Type := (List Int) × Int
abbrev D1 : Ty := (.pr (.sl (.int .u8)) (.int .i64))
abbrev B4.data (x : B4) : List Int := x.1
abbrev B4.n (x : B4) : Int := x.2
abbrev A4.sg : Sig := ⟨[(.box, D1), (.one, (.int .i64)), (.one, (.int .i64))], [.o], [], [.o]⟩
def A4.j2 (K : Nat) (go_l1 : Int → Int → (List Int) → Option B4) (h_13 : Int) (i_10 : Int) (x1 : Int) (h_11 : List Int) : Option B4 :=
  if (8 : Int) ≠ 0 then
  if (0 : Int) ≤ (wr .i64 (h_13.tdiv 8)) ∧ (wr .i64 (h_13.tdiv 8)) < ((h_11.length : Nat) : Int) then
  if (0 : Int) ≤ i_10 then
  if (8 : Int) ≠ 0 then
  if (0 : Int) ≤ (wr .i64 (7 - (h_13.tmod 8))) then
  if (0 : Int) ≤ (wr .i64 (h_13.tdiv 8)) ∧ (wr .i64 (h_13.tdiv 8)) < ((h_11.length : Nat) : Int) then
  go_l1 (wr .i64 (i_10 - 1)) (wr .i64 (h_13 + 1)) ((h_11).set (wr .i64 (h_13.tdiv 8)).toNat (ib .or .u8 (nth h_11 (wr .i64 (h_13.tdiv 8))) (wr .u8 ((wr .u8 (ib .and .i64 (x1.fdiv (2 ^ min (i_10).toNat 64)) 1)) * 2 ^ min ((wr .i64 (7 - (h_13.tmod 8)))).toNat 8))))
  else none
  else none
  else none
  else none
  else none
  else none
def A4.l1 (K : Nat) (x1 : Int) : Nat → Int → Int → (List Int) → Option B4
  | 0, _, _, _ => none
  | k + 1, i_10, h_13, h_12 =>
    if decide (i_10 ≥ 0) then
      if (8 : Int) ≠ 0 then
      if ((h_13.tmod 8) == 0) then
        if (h_12.length + ([0] : List Int).length) * 1 ≤ 140737488355328 then
        A4.j2 K (A4.l1 K x1 k) h_13 i_10 x1 (h_12 ++ ([0] : List Int))
        else none
      else
        A4.j2 K (A4.l1 K x1 k) h_13 i_10 x1 h_12
      else none
    else
      some ((h_12, h_13) : B4)
def A4 (K : Nat) (x0 : B4) (x1 : Int) (x2 : Int) : Option B4 :=
  A4.l1 K x1 K (wr .i64 (x2 - 1)) x0.n x0.data
abbrev Cb.sg : Sig := ⟨[(.one, (.int .u32))], [], [(.one, (.int .i64))], []⟩
def Cb.j2 (K : Nat) (x_12 : Int) (n_13 : Int) : Option Int :=
  if (0 : Int) ≤ (wr .u8 x_12) ∧ (wr .u8 x_12) < (((⟨#[0, 1, 2, 2, 3, 3, 3, 3, 4, 4, 4, 4, 4, 4, 4, 4, 5, 5, 5, 5, 5, 5, 5, 5, 5, 5, 5, 5, 5, 5, 5, 5, 6, 6, 6, 6, 6, 6, 6, 6, 6, 6, 6, 6, 6, 6, 6, 6, 6, 6, 6, 6, 6, 6, 6, 6, 6, 6, 6, 6, 6, 6, 6, 6, 7, 7, 7, 7, 7, 7, 7, 7, 7, 7, 7, 7, 7, 7, 7, 7, 7, 7, 7, 7, 7, 7, 7, 7, 7, 7, 7, 7, 7, 7, 7, 7, 7, 7, 7, 7, 7, 7, 7, 7, 7, 7, 7, 7, 7, 7, 7, 7, 7, 7, 7, 7, 7, 7, 7, 7, 7, 7, 7, 7, 7, 7, 7, 7, 8, 8, 8, 8, 8, 8, 8, 8, 8, 8, 8, 8, 8, 8, 8, 8, 8, 8, 8, 8, 8, 8, 8, 8, 8, 8, 8, 8, 8, 8, 8, 8, 8, 8, 8, 8, 8, 8, 8, 8, 8, 8, 8, 8, 8, 8, 8, 8, 8, 8, 8, 8, 8, 8, 8, 8, 8, 8, 8, 8, 8, 8, 8, 8, 8, 8, 8, 8, 8, 8, 8, 8, 8, 8, 8, 8, 8, 8, 8, 8, 8, 8, 8, 8, 8, 8, 8, 8, 8, 8, 8, 8, 8, 8, 8, 8, 8, 8, 8, 8, 8, 8, 8, 8, 8, 8, 8, 8, 8, 8, 8, 8, 8, 8, 8, 8, 8, 8, 8, 8, 8, 8, 8, 8, 8, 8, 8, 8]⟩ : ByteArray).size : Nat) : Int) then
  some (wr .i64 (n_13 + (wr .i64 (bt (⟨#[0, 1, 2, 2, 3, 3, 3, 3, 4, 4, 4, 4, 4, 4, 4, 4, 5, 5, 5, 5, 5, 5, 5, 5, 5, 5, 5, 5, 5, 5, 5, 5, 6, 6, 6, 6, 6, 6, 6, 6, 6, 6, 6, 6, 6, 6, 6, 6, 6, 6, 6, 6, 6, 6, 6, 6, 6, 6, 6, 6, 6, 6, 6, 6, 7, 7, 7, 7, 7, 7, 7, 7, 7, 7, 7, 7, 7, 7, 7, 7, 7, 7, 7, 7, 7, 7, 7, 7, 7, 7, 7, 7, 7, 7, 7, 7, 7, 7, 7, 7, 7, 7, 7, 7, 7, 7, 7, 7, 7, 7, 7, 7, 7, 7, 7, 7, 7, 7, 7, 7, 7, 7, 7, 7, 7, 7, 7, 7, 8, 8, 8, 8, 8, 8, 8, 8, 8, 8, 8, 8, 8, 8, 8, 8, 8, 8, 8, 8, 8, 8, 8, 8, 8, 8, 8, 8, 8, 8, 8, 8, 8, 8, 8, 8, 8, 8, 8, 8, 8, 8, 8, 8, 8, 8, 8, 8, 8, 8, 8, 8, 8, 8, 8, 8, 8, 8, 8, 8, 8, 8, 8, 8, 8, 8, 8, 8, 8, 8, 8, 8, 8, 8, 8, 8, 8, 8, 8, 8, 8, 8, 8, 8, 8, 8, 8, 8, 8, 8, 8, 8, 8, 8, 8, 8, 8, 8, 8, 8, 8, 8, 8, 8, 8, 8, 8, 8, 8, 8, 8, 8, 8, 8, 8, 8, 8, 8, 8, 8, 8, 8, 8, 8, 8, 8, 8, 8]⟩ : ByteArray) (wr .u8 x_12)))))
  else none
def Cb.j1 (K : Nat) (x_10 : Int) (n_11 : Int) : Option Int :=
  if decide (x_10 ≥ 256) then
    if (0 : Int) ≤ 8 then
    Cb.j2 K (x_10.fdiv (2 ^ min ((8 : Int)).toNat 32)) (wr .i64 (n_11 + 8))
    else none
  else
    Cb.j2 K x_10 n_11
def Cb (K : Nat) (x0 : Int) : Option Int :=
  if decide (x0 ≥ 65536) then
    if (0 : Int) ≤ 16 then
    Cb.j1 K (x0.fdiv (2 ^ min ((16 : Int)).toNat 32)) (16 : Int)
    else none
  else
    Cb.j1 K x0 (0 : Int)
abbrev Bo.sg : Sig := ⟨[(.one, (.int .u64))], [], [(.one, (.int .i64))], []⟩
def Bo.j3 (K : Nat) (x_14 : Int) (n_15 : Int) : Option Int :=
  if (0 : Int) ≤ (wr .u8 x_14) ∧ (wr .u8 x_14) < (((⟨#[0, 1, 2, 2, 3, 3, 3, 3, 4, 4, 4, 4, 4, 4, 4, 4, 5, 5, 5, 5, 5, 5, 5, 5, 5, 5, 5, 5, 5, 5, 5, 5, 6, 6, 6, 6, 6, 6, 6, 6, 6, 6, 6, 6, 6, 6, 6, 6, 6, 6, 6, 6, 6, 6, 6, 6, 6, 6, 6, 6, 6, 6, 6, 6, 7, 7, 7, 7, 7, 7, 7, 7, 7, 7, 7, 7, 7, 7, 7, 7, 7, 7, 7, 7, 7, 7, 7, 7, 7, 7, 7, 7, 7, 7, 7, 7, 7, 7, 7, 7, 7, 7, 7, 7, 7, 7, 7, 7, 7, 7, 7, 7, 7, 7, 7, 7, 7, 7, 7, 7, 7, 7, 7, 7, 7, 7, 7, 7, 8, 8, 8, 8, 8, 8, 8, 8, 8, 8, 8, 8, 8, 8, 8, 8, 8, 8, 8, 8, 8, 8, 8, 8, 8, 8, 8, 8, 8, 8, 8, 8, 8, 8, 8, 8, 8, 8, 8, 8, 8, 8, 8, 8, 8, 8, 8, 8, 8, 8, 8, 8, 8, 8, 8, 8, 8, 8, 8, 8, 8, 8, 8, 8, 8, 8, 8, 8, 8, 8, 8, 8, 8, 8, 8, 8, 8, 8, 8, 8, 8, 8, 8, 8, 8, 8, 8, 8, 8, 8, 8, 8, 8, 8, 8, 8, 8, 8, 8, 8, 8, 8, 8, 8, 8, 8, 8, 8, 8, 8, 8, 8, 8, 8, 8, 8, 8, 8, 8, 8, 8, 8, 8, 8, 8, 8, 8, 8]⟩ : ByteArray).size : Nat) : Int) then
  some (wr .i64 (n_15 + (wr .i64 (bt (⟨#[0, 1, 2, 2, 3, 3, 3, 3, 4, 4, 4, 4, 4, 4, 4, 4, 5, 5, 5, 5, 5, 5, 5, 5, 5, 5, 5, 5, 5, 5, 5, 5, 6, 6, 6, 6, 6, 6, 6, 6, 6, 6, 6, 6, 6, 6, 6, 6, 6, 6, 6, 6, 6, 6, 6, 6, 6, 6, 6, 6, 6, 6, 6, 6, 7, 7, 7, 7, 7, 7, 7, 7, 7, 7, 7, 7, 7, 7, 7, 7, 7, 7, 7, 7, 7, 7, 7, 7, 7, 7, 7, 7, 7, 7, 7, 7, 7, 7, 7, 7, 7, 7, 7, 7, 7, 7, 7, 7, 7, 7, 7, 7, 7, 7, 7, 7, 7, 7, 7, 7, 7, 7, 7, 7, 7, 7, 7, 7, 8, 8, 8, 8, 8, 8, 8, 8, 8, 8, 8, 8, 8, 8, 8, 8, 8, 8, 8, 8, 8, 8, 8, 8, 8, 8, 8, 8, 8, 8, 8, 8, 8, 8, 8, 8, 8, 8, 8, 8, 8, 8, 8, 8, 8, 8, 8, 8, 8, 8, 8, 8, 8, 8, 8, 8, 8, 8, 8, 8, 8, 8, 8, 8, 8, 8, 8, 8, 8, 8, 8, 8, 8, 8, 8, 8, 8, 8, 8, 8, 8, 8, 8, 8, 8, 8, 8, 8, 8, 8, 8, 8, 8, 8, 8, 8, 8, 8, 8, 8, 8, 8, 8, 8, 8, 8, 8, 8, 8, 8, 8, 8, 8, 8, 8, 8, 8, 8, 8, 8, 8, 8, 8, 8, 8, 8, 8, 8]⟩ : ByteArray) (wr .u8 x_14)))))
  else none
def Bo.j2 (K : Nat) (x_12 : Int) (n_13 : Int) : Option Int :=
  if decide (x_12 ≥ 256) then
    if (0 : Int) ≤ 8 then
    Bo.j3 K (x_12.fdiv (2 ^ min ((8 : Int)).toNat 64)) (wr .i64 (n_13 + 8))
    else none
  else
    Bo.j3 K x_12 n_13
def Bo.j1 (K : Nat) (x_10 : Int) (n_11 : Int) : Option Int :=
  if decide (x_10 ≥ 65536) then
    if (0 : Int) ≤ 16 then
    Bo.j2 K (x_10.fdiv (2 ^ min ((16 : Int)).toNat 64)) (wr .i64 (n_11 + 16))
    else none
  else
    Bo.j2 K x_10 n_11
def Bo (K : Nat) (x0 : Int) : Option Int :=
  if decide (x0 ≥ 4294967296) then
    if (0 : Int) ≤ 32 then
    Bo.j1 K (x0.fdiv (2 ^ min ((32 : Int)).toNat 64)) (32 : Int)
    else none
  else
    Bo.j1 K x0 (0 : Int)
abbrev Df.sg : Sig := ⟨[(.one, (.int .u64))], [], [(.one, (.int .i64))], []⟩
def Df (K : Nat) (x0 : Int) : Option Int :=
  (Bo K x0).bind fun r7 =>
  some r7
abbrev Dj.sg : Sig := ⟨[(.one, (.int .i64))], [], [(.one, (.int .i64))], []⟩
def Dj (K : Nat) (x0 : Int) : Option Int :=
  (Df K (wr .u64 x0)).bind fun r5 =>
  some (wr .i64 (r5 - 1))
abbrev Dq.sg : Sig := ⟨[(.one, (.int .i64))], [], [(.one, (.int .i64))], []⟩
def Dq (K : Nat) (x0 : Int) : Option Int :=
  some (wr .i64 ((wr .i64 (x0 - 4)) + 2))
abbrev Dy.sg : Sig := ⟨[(.one, (.int .i64)), (.one, (.int .i64))], [], [(.one, (.int .i64)), (.one, (.int .i64)), (.one, (.int .i64)), (.one, (.int .i64))], []⟩
def Dy (K : Nat) (x0 : Int) (x1 : Int) : Option (Int × Int × Int × Int) :=
  if (0 : Int) ≤ (wr .i64 (x1 * x0)) then
  if (0 : Int) ≤ x0 then
  (Df K (wr .u64 (wr .i64 ((wr .i64 ((wr .i64 ((wr .i64 ((1 : Int) * 2 ^ min ((wr .i64 (x1 * x0))).toNat 64)) * 2 ^ min (x0).toNat 64)) - (wr .i64 ((1 : Int) * 2 ^ min ((wr .i64 (x1 * x0))).toNat 64)))) - 1)))).bind fun r20 =>
  if (0 : Int) ≤ r20 then
  some (wr .i64 ((1 : Int) * 2 ^ min ((wr .i64 (x1 * x0))).toNat 64), wr .i64 ((wr .i64 ((wr .i64 ((1 : Int) * 2 ^ min ((wr .i64 (x1 * x0))).toNat 64)) * 2 ^ min (x0).toNat 64)) - (wr .i64 ((1 : Int) * 2 ^ min ((wr .i64 (x1 * x0))).toNat 64))), r20, wr .i64 ((wr .i64 ((1 : Int) * 2 ^ min (r20).toNat 64)) - (wr .i64 ((wr .i64 ((wr .i64 ((1 : Int) * 2 ^ min ((wr .i64 (x1 * x0))).toNat 64)) * 2 ^ min (x0).toNat 64)) - (wr .i64 ((1 : Int) * 2 ^ min ((wr .i64 (x1 * x0))).toNat 64))))))
  else none
  else none
  else none
abbrev Cg.sg : Sig := ⟨[(.box, D1), (.one, (.int .i64)), (.one, (.int .i64))], [.o], [], [.o]⟩
def Cg : Nat → B4 → Int → Int → Option B4
  | 0, _, _, _ => none
  | K + 1, x0, x1, x2 =>
    if (x1 == 1) then
      (A4 K x0 0 (wr .i64 (x2 - 1))).bind fun r53 =>
      (A4 K r53 1 1).bind fun r55 =>
      some r55
    else
      if (x1 == 2) then
        (Dj K x2).bind fun r60 =>
        (A4 K x0 0 r60).bind fun r61 =>
        (Dj K x2).bind fun r65 =>
        (A4 K r61 x2 (wr .i64 (r65 + 1))).bind fun r67 =>
        some r67
      else
        if (x1 == 3) then
          (Dj K x2).bind fun r72 =>
          ((Cg K) x0 2 (wr .i64 (r72 + 1))).bind fun r74 =>
          (Dj K x2).bind fun r78 =>
          (A4 K r74 x2 r78).bind fun r79 =>
          some r79
        else
          (Dj K x2).bind fun r14 =>
          (Dq K x1).bind fun r16 =>
          if r16 ≠ 0 then
          (Dq K x1).bind fun r20 =>
          (Dy K r20 (wr .i64 (r14.tdiv r16))).bind fun r22 =>
          ((Cg K) x0 1 (wr .i64 ((wr .i64 (r14.tdiv r16)) + 1))).bind fun r30 =>
          if decide ((wr .i64 (x2 - r22.1)) < r22.2.2.2) then
            (A4 K r30 (wr .i64 (x2 - r22.1)) (wr .i64 (r22.2.2.1 - 1))).bind fun r41 =>
            some r41
          else
            (A4 K r30 (wr .i64 ((wr .i64 (x2 - r22.1)) + r22.2.2.2)) r22.2.2.1).bind fun r47 =>
            some r47
          else none
abbrev Dz.sg : Sig := ⟨[(.agg, Bc), (.one, (.int .i64))], [], [(.one, .bool)], []⟩
def Dz (K : Nat) (x0 : Ab) (x1 : Int) : Option Bool :=
  if decide (x1 ≥ 0) then
    some (decide (x1 < x0.N))
  else
    some false
abbrev Dm.sg : Sig := ⟨[(.agg, Bc), (.one, (.int .i64))], [], [(.one, (.sl (.int .i64)))], []⟩
def Dm (K : Nat) (x0 : Ab) (x1 : Int) : Option (List Int) :=
  (Dz K x0 x1).bind fun r7 =>
  if (!r7) then
    some ([] : List Int)
  else
    if (0 : Int) ≤ x1 ∧ x1 < ((x0.Out.length : Nat) : Int) then
    some (nth x0.Out x1)
    else none
abbrev A9.sg : Sig := ⟨[(.one, (.sl (.int .i64))), (.one, (.int .i64))], [], [(.one, (.int .i64))], []⟩
def A9.l1 (K : Nat) (x0 : List Int) (x1 : Int) : Nat → Int → Int → Option Int
  | 0, _, _ => none
  | k + 1, t_10, t_11 =>
    if decide (t_11 < t_10) then
      if (0 : Int) ≤ t_11 ∧ t_11 < ((x0.length : Nat) : Int) then
      if (x1 == (nth x0 t_11)) then
        some t_11
      else
        A9.l1 K x0 x1 k t_10 (wr .i64 (t_11 + 1))
      else none
    else
      some ((-1) : Int)
def A9 (K : Nat) (x0 : List Int) (x1 : Int) : Option Int :=
  A9.l1 K x0 x1 K ((x0.length : Nat) : Int) (0 : Int)
abbrev B6.sg : Sig := ⟨[(.one, (.sl (.int .i64))), (.one, (.int .i64))], [], [(.one, .bool)], []⟩
def B6 (K : Nat) (x0 : List Int) (x1 : Int) : Option Bool :=
  (A9 K x0 x1).bind fun r7 =>
  some (decide (r7 ≥ 0))
abbrev Br.sg : Sig := ⟨[(.one, (.sl (.int .i64))), (.one, (.sl (.int .i64)))], [], [(.one, (.sl (.int .i64))), (.one, (.sl (.int .i64)))], [.o, .o]⟩
def Br.l2 (K : Nat) (x0 : List Int) (x1 : List Int) : Nat → Int → Int → (List Int) → (List Int) → Option ((List Int) × (List Int))
  | 0, _, _, _, _ => none
  | k + 1, t_13, t_14, blocks_18, rest_17 =>
    if decide (t_14 < t_13) then
      if (0 : Int) ≤ t_14 ∧ t_14 < ((x1.length : Nat) : Int) then
      (B6 K x0 (nth x1 t_14)).bind fun r40 =>
      if (!r40) then
        if (rest_17.length + ([nth x1 t_14] : List Int).length) * 8 ≤ 140737488355328 then
        Br.l2 K x0 x1 k t_13 (wr .i64 (t_14 + 1)) blocks_18 (rest_17 ++ ([nth x1 t_14] : List Int))
        else none
      else
        Br.l2 K x0 x1 k t_13 (wr .i64 (t_14 + 1)) blocks_18 rest_17
      else none
    else
      some (blocks_18, rest_17)
def Br.l1 (K : Nat) (x0 : List Int) (x1 : List Int) : Nat → Bool → Int → Int → Int → (List Int) → Option ((List Int) × (List Int))
  | 0, _, _, _, _, _ => none
  | k + 1, in_16, many_10, t_11, t_12, blocks_15 =>
    if decide (t_12 < t_11) then
      if (0 : Int) ≤ t_12 ∧ t_12 < ((x0.length : Nat) : Int) then
      (B6 K x1 (nth x0 t_12)).bind fun r20 =>
      if (!(r20 == in_16)) then
        if (blocks_15.length + ([many_10] : List Int).length) * 8 ≤ 140737488355328 then
        Br.l1 K x0 x1 k (!in_16) (wr .i64 ((0 : Int) + 1)) t_11 (wr .i64 (t_12 + 1)) (blocks_15 ++ ([many_10] : List Int))
        else none
      else
        Br.l1 K x0 x1 k in_16 (wr .i64 (many_10 + 1)) t_11 (wr .i64 (t_12 + 1)) blocks_15
      else none
    else
      Br.l2 K x0 x1 K ((x1.length : Nat) : Int) (0 : Int) blocks_15 ([] : List Int)
def Br (K : Nat) (x0 : List Int) (x1 : List Int) : Option ((List Int) × (List Int)) :=
  Br.l1 K x0 x1 K true (0 : Int) ((x0.length : Nat) : Int) (0 : Int) ([] : List Int)
abbrev Ag : Type := Int × Int
abbrev Cl : Ty := (.pr (.int .i64) (.int .i64))
abbrev Ag.At (x : Ag) : Int := x.1
abbrev Ag.Len (x : Ag) : Int := x.2
abbrev By.sg : Sig := ⟨[(.one, (.sl (.int .i64)))], [], [(.one, (.sl Cl)), (.one, (.sl (.int .i64)))], [.o, .o]⟩
def By.l2 (K : Nat) (go_l1 : Int → (List Ag) → (List Int) → Option ((List Ag) × (List Int))) (i_10 : Int) (x0 : List Int) : Nat → Int → (List Ag) → (List Int) → Option ((List Ag) × (List Int))
  | 0, _, _, _ => none
  | k + 1, k_11, r_14, rest_15 =>
    if decide (k_11 < ((x0.length : Nat) : Int)) then
      if (0 : Int) ≤ k_11 ∧ k_11 < ((x0.length : Nat) : Int) then
      if (0 : Int) ≤ (wr .i64 (k_11 - 1)) ∧ (wr .i64 (k_11 - 1)) < ((x0.length : Nat) : Int) then
      if ((nth x0 k_11) == (wr .i64 ((nth x0 (wr .i64 (k_11 - 1))) + 1))) then
        By.l2 K go_l1 i_10 x0 k (wr .i64 (k_11 + 1)) r_14 rest_15
      else
        if decide ((wr .i64 (k_11 - i_10)) ≥ 3) then
          if (0 : Int) ≤ i_10 ∧ i_10 < ((x0.length : Nat) : Int) then
          if (r_14.length + ([((nth x0 i_10, wr .i64 (k_11 - i_10)) : Ag)] : List Ag).length) * 16 ≤ 140737488355328 then
          go_l1 k_11 (r_14 ++ ([((nth x0 i_10, wr .i64 (k_11 - i_10)) : Ag)] : List Ag)) rest_15
          else none
          else none
        else
          if (0 : Int) ≤ i_10 ∧ i_10 ≤ k_11 ∧ k_11 ≤ ((x0.length : Nat) : Int) then
          if (rest_15.length + (((x0).drop i_10.toNat).take (k_11.toNat - i_10.toNat)).length) * 8 ≤ 140737488355328 then
          go_l1 k_11 r_14 (rest_15 ++ (((x0).drop i_10.toNat).take (k_11.toNat - i_10.toNat)))
          else none
          else none
      else none
      else none
    else
      if decide ((wr .i64 (k_11 - i_10)) ≥ 3) then
        if (0 : Int) ≤ i_10 ∧ i_10 < ((x0.length : Nat) : Int) then
        if (r_14.length + ([((nth x0 i_10, wr .i64 (k_11 - i_10)) : Ag)] : List Ag).length) * 16 ≤ 140737488355328 then
        go_l1 k_11 (r_14 ++ ([((nth x0 i_10, wr .i64 (k_11 - i_10)) : Ag)] : List Ag)) rest_15
        else none
        else none
      else
        if (0 : Int) ≤ i_10 ∧ i_10 ≤ k_11 ∧ k_11 ≤ ((x0.length : Nat) : Int) then
        if (rest_15.length + (((x0).drop i_10.toNat).take (k_11.toNat - i_10.toNat)).length) * 8 ≤ 140737488355328 then
        go_l1 k_11 r_14 (rest_15 ++ (((x0).drop i_10.toNat).take (k_11.toNat - i_10.toNat)))
        else none
        else none
def By.l1 (K : Nat) (x0 : List Int) : Nat → Int → (List Ag) → (List Int) → Option ((List Ag) × (List Int))
  | 0, _, _, _ => none
  | k + 1, i_10, r_12, rest_13 =>
    if decide (i_10 < ((x0.length : Nat) : Int)) then
      By.l2 K (By.l1 K x0 k) i_10 x0 K (wr .i64 (i_10 + 1)) r_12 rest_13
    else
      some (r_12, rest_13)
def By (K : Nat) (x0 : List Int) : Option ((List Ag) × (List Int)) :=
  By.l1 K x0 K (0 : Int) ([] : List Ag) ([] : List Int)
abbrev Dt.sg : Sig := ⟨[(.one, (.int .i64))], [], [(.one, (.int .i64))], []⟩
def Dt (K : Nat) (x0 : Int) : Option Int :=
  if decide (x0 < 0) then
    some (wr .i64 ((wr .i64 ((-2) * x0)) - 1))
  else
    some (wr .i64 (2 * x0))
abbrev C9.sg : Sig := ⟨[(.box, D1), (.one, (.int .i64)), (.one, (.sl (.int .i64)))], [.o], [], [.o]⟩
def C9.l1 (K : Nat) (x1 : Int) (x2 : List Int) : Nat → Int → Int → Int → (List Int) → Option B4
  | 0, _, _, _, _ => none
  | k + 1, t_10, t_11, h_13, h_12 =>
    if decide (t_11 < t_10) then
      if (0 : Int) ≤ t_11 ∧ t_11 < ((x2.length : Nat) : Int) then
      if (t_11 == 0) then
        (Dt K (wr .i64 ((nth x2 t_11) - x1))).bind fun r26 =>
        (Cg K ((h_12, h_13) : B4) 2 (wr .i64 (r26 + 1))).bind fun r28 =>
        C9.l1 K x1 x2 k t_10 (wr .i64 (t_11 + 1)) r28.n r28.data
      else
        if (0 : Int) ≤ (wr .i64 (t_11 - 1)) ∧ (wr .i64 (t_11 - 1)) < ((x2.length : Nat) : Int) then
        (Cg K ((h_12, h_13) : B4) 2 (wr .i64 ((nth x2 t_11) - (nth x2 (wr .i64 (t_11 - 1)))))).bind fun r37 =>
        C9.l1 K x1 x2 k t_10 (wr .i64 (t_11 + 1)) r37.n r37.data
        else none
      else none
    else
      some ((h_12, h_13) : B4)
def C9 (K : Nat) (x0 : B4) (x1 : Int) (x2 : List Int) : Option B4 :=
  (Cg K x0 2 (wr .i64 (((x2.length : Nat) : Int) + 1))).bind fun r12 =>
  C9.l1 K x1 x2 K ((x2.length : Nat) : Int) (0 : Int) r12.n r12.data
abbrev Ch.sg : Sig := ⟨[(.box, D1), (.one, (.int .i64)), (.one, (.sl (.int .i64)))], [.o], [], [.o]⟩
def Ch.j2 (K : Nat) (go_l1 : Int → Int → Int → Int → (List Int) → Option B4) (r13 : (List Ag) × (List Int)) (t_11 : Int) (t_12 : Int) (x1 : Int) (h_14 : Int) (h_13 : List Int) (x_15 : Int) (x_16 : Int) : Option B4 :=
  (Cg K ((h_13, h_14) : B4) 2 (wr .i64 ((wr .i64 (x_16 - 3)) + 1))).bind fun r49 =>
  go_l1 (wr .i64 (x_15 + x_16)) t_11 (wr .i64 (t_12 + 1)) r49.n r49.data
def Ch.l1 (K : Nat) (r13 : (List Ag) × (List Int)) (x1 : Int) : Nat → Int → Int → Int → Int → (List Int) → Option B4
  | 0, _, _, _, _, _ => none
  | k + 1, end_10, t_11, t_12, h_18, h_17 =>
    if decide (t_12 < t_11) then
      if (0 : Int) ≤ t_12 ∧ t_12 < ((r13.1.length : Nat) : Int) then
      if (t_12 == 0) then
        (Dt K (wr .i64 (((nth r13.1 t_12).At) - x1))).bind fun r35 =>
        (Cg K ((h_17, h_18) : B4) 2 (wr .i64 (r35 + 1))).bind fun r37 =>
        Ch.j2 K (Ch.l1 K r13 x1 k) r13 t_11 t_12 x1 r37.n r37.data ((nth r13.1 t_12).At) ((nth r13.1 t_12).Len)
      else
        (Cg K ((h_17, h_18) : B4) 2 (wr .i64 (((nth r13.1 t_12).At) - end_10))).bind fun r43 =>
        Ch.j2 K (Ch.l1 K r13 x1 k) r13 t_11 t_12 x1 r43.n r43.data ((nth r13.1 t_12).At) ((nth r13.1 t_12).Len)
      else none
    else
      (C9 K ((h_17, h_18) : B4) x1 r13.2).bind fun r59 =>
      some r59
def Ch (K : Nat) (x0 : B4) (x1 : Int) (x2 : List Int) : Option B4 :=
  (By K x2).bind fun r13 =>
  (Cg K x0 2 (wr .i64 (((r13.1.length : Nat) : Int) + 1))).bind fun r20 =>
  Ch.l1 K r13 x1 K (0 : Int) ((r13.1.length : Nat) : Int) (0 : Int) r20.n r20.data
abbrev Cz.sg : Sig := ⟨[(.box, D1), (.one, (.int .i64)), (.one, (.sl (.int .i64))), (.one, (.sl (.int .i64)))], [.o], [], [.o]⟩
def Cz.l1 (K : Nat) (r15 : (List Int) × (List Int)) (x1 : Int) : Nat → Int → Int → Int → (List Int) → Option B4
  | 0, _, _, _, _ => none
  | k + 1, t_10, t_11, h_13, h_12 =>
    if decide (t_11 < t_10) then
      if (0 : Int) ≤ t_11 ∧ t_11 < ((r15.1.length : Nat) : Int) then
      if (t_11 == 0) then
        (Cg K ((h_12, h_13) : B4) 2 (wr .i64 ((nth r15.1 t_11) + 1))).bind fun r36 =>
        Cz.l1 K r15 x1 k t_10 (wr .i64 (t_11 + 1)) r36.n r36.data
      else
        (Cg K ((h_12, h_13) : B4) 2 (nth r15.1 t_11)).bind fun r36 =>
        Cz.l1 K r15 x1 k t_10 (wr .i64 (t_11 + 1)) r36.n r36.data
      else none
    else
      (Ch K ((h_12, h_13) : B4) x1 r15.2).bind fun r41 =>
      some r41
def Cz (K : Nat) (x0 : B4) (x1 : Int) (x2 : List Int) (x3 : List Int) : Option B4 :=
  (Br K x2 x3).bind fun r15 =>
  (Cg K x0 2 (wr .i64 (((r15.1.length : Nat) : Int) + 1))).bind fun r22 =>
  Cz.l1 K r15 x1 K ((r15.1.length : Nat) : Int) (0 : Int) r22.n r22.data
abbrev Aj : Type := ByteArray × Int
abbrev Cd : Ty := (.pr .str (.int .i64))
abbrev Aj.Data (x : Aj) : ByteArray := x.1
abbrev Aj.N (x : Aj) : Int := x.2
abbrev Cx.sg : Sig := ⟨[(.box, D1)], [.o], [(.agg, Cd), (.one, (.int .i64))], [.s, .s, .s, .o]⟩
def Cx (K : Nat) (x0 : B4) : Option (Aj × Int × B4) :=
  if decide (x0.n > 6000) then
    some (((ByteArray.empty, 0) : Aj), 2, x0)
  else
    some (((bytesOf x0.data, x0.n) : Aj), 0, x0)
abbrev Cp.sg : Sig := ⟨[(.agg, Bc), (.agg, Bc)], [], [(.agg, Cd)], []⟩
def Cp.l1 (K : Nat) (x0 : Ab) (x1 : Ab) : Nat → Int → Int → ByteArray → Int → Int → (List Int) → Option Aj
  | 0, _, _, _, _, _, _ => none
  | k + 1, t_12, t_13, t_10, t_11, r_15, r_14 =>
    if decide (t_13 < t_12) then
      if (0 : Int) ≤ t_13 ∧ t_13 < ((x1.Out.length : Nat) : Int) then
      (Dm K x0 t_13).bind fun r29 =>
      (Cz K ((r_14, r_15) : B4) t_13 r29 (nth x1.Out t_13)).bind fun r31 =>
      Cp.l1 K x0 x1 k t_12 (wr .i64 (t_13 + 1)) t_10 t_11 r31.n r31.data
      else none
    else
      (Cx K ((r_14, r_15) : B4)).bind fun r35 =>
      some r35.1
def Cp (K : Nat) (x0 : Ab) (x1 : Ab) : Option Aj :=
  (Cg K ((([] : List Int), 0) : B4) 2 (wr .i64 (x1.N + 1))).bind fun r16 =>
  Cp.l1 K x0 x1 K ((x1.Out.length : Nat) : Int) (0 : Int) ByteArray.empty (0 : Int) r16.n r16.data
abbrev Dh.sg : Sig := ⟨[(.agg, Bc), (.agg, Bc)], [], [(.agg, Cd), (.one, (.int .i64))], []⟩
def Dh (K : Nat) (x0 : Ab) (x1 : Ab) : Option (Aj × Int) :=
  (Cf K x0).bind fun r7 =>
  if (!r7) then
    some (((ByteArray.empty, 0) : Aj), 1)
  else
    (Cf K x1).bind fun r11 =>
    if (!r11) then
      some (((ByteArray.empty, 0) : Aj), 1)
    else
      (Cp K x0 x1).bind fun r17 =>
      some (r17, 0)
abbrev Di.sg : Sig := ⟨[(.agg, Bc), (.agg, Bc)], [], [(.one, (.int .i64)), (.one, (.int .i64))], []⟩
def Di (K : Nat) (x0 : Ab) (x1 : Ab) : Option (Int × Int) :=
  (Dh K x0 x1).bind fun r11 =>
  some (r11.1.N, r11.2)
abbrev Dd.sg : Sig := ⟨[(.box, D1)], [.o], [(.one, (.int .i64))], [.s, .o]⟩
def Dd (K : Nat) (x0 : B4) : Option (Int × B4) :=
  some (x0.n, x0)
abbrev Cm.sg : Sig := ⟨[(.agg, Bc)], [], [(.ptr, D1), (.one, (.sl (.int .i64)))], [.o, .s, .o]⟩
def Cm.l1 (K : Nat) (x0 : Ab) : Nat → Int → Int → Int → (List Int) → (List Int) → Option (B4 × (List Int))
  | 0, _, _, _, _, _ => none
  | k + 1, t_10, t_11, r_13, r_12, at_14 =>
    if decide (t_11 < t_10) then
      if (0 : Int) ≤ t_11 ∧ t_11 < ((x0.Out.length : Nat) : Int) then
      (Dd K ((r_12, r_13) : B4)).bind fun r25 =>
      if (at_14.length + ([r25.1] : List Int).length) * 8 ≤ 140737488355328 then
      (Ch K r25.2 t_11 (nth x0.Out t_11)).bind fun r31 =>
      Cm.l1 K x0 k t_10 (wr .i64 (t_11 + 1)) r31.n r31.data (at_14 ++ ([r25.1] : List Int))
      else none
      else none
    else
      some (((r_12, r_13) : B4), at_14)
def Cm (K : Nat) (x0 : Ab) : Option (B4 × (List Int)) :=
  (Cg K ((([] : List Int), 0) : B4) 2 (wr .i64 (x0.N + 1))).bind fun r14 =>
  Cm.l1 K x0 K ((x0.Out.length : Nat) : Int) (0 : Int) r14.n r14.data ([] : List Int)
abbrev Dx.sg : Sig := ⟨[(.agg, Bc)], [], [(.agg, Cd)], []⟩
def Dx (K : Nat) (x0 : Ab) : Option Aj :=
  (Cm K x0).bind fun r9 =>
  (Cx K r9.1).bind fun r14 =>
  some r14.1
abbrev Dc.sg : Sig := ⟨[(.agg, Bc), (.agg, Bc)], [], [(.one, .bool), (.one, (.int .i64))], []⟩
def Dc (K : Nat) (x0 : Ab) (x1 : Ab) : Option (Bool × Int) :=
  (Cf K x0).bind fun r7 =>
  if (!r7) then
    some (false, 1)
  else
    (Cf K x1).bind fun r11 =>
    if (!r11) then
      some (false, 1)
    else
      (Cp K x0 x1).bind fun r16 =>
      (Dx K x1).bind fun r19 =>
      some (decide (r16.N < r19.N), 0)
abbrev Cy.sg : Sig := ⟨[(.one, (.int .i64)), (.one, (.int .i64))], [], [(.one, .bool)], []⟩
def Cy (K : Nat) (x0 : Int) (x1 : Int) : Option Bool :=
  if decide (x0 ≥ 0) then
    some (decide (x0 ≤ x1))
  else
    some false
abbrev Ci.sg : Sig := ⟨[(.one, (.int .i64))], [], [(.one, .bool)], []⟩
def Ci (K : Nat) (x0 : Int) : Option Bool :=
  (Cy K x0 15).bind fun r4 =>
  some r4
abbrev Bf.sg : Sig := ⟨[(.one, (.sl (.int .i64)))], [], [(.one, .bool)], []⟩
def Bf.l1 (K : Nat) (x0 : List Int) : Nat → Int → Option Bool
  | 0, _ => none
  | k + 1, i_10 =>
    if decide (i_10 < ((x0.length : Nat) : Int)) then
      if decide (i_10 ≤ 16) then
        if (0 : Int) ≤ i_10 ∧ i_10 < ((x0.length : Nat) : Int) then
        (Ci K (nth x0 i_10)).bind fun r18 =>
        if (!r18) then
          some false
        else
          if decide (i_10 > 0) then
            if (0 : Int) ≤ (wr .i64 (i_10 - 1)) ∧ (wr .i64 (i_10 - 1)) < ((x0.length : Nat) : Int) then
            if (0 : Int) ≤ i_10 ∧ i_10 < ((x0.length : Nat) : Int) then
            if decide ((nth x0 (wr .i64 (i_10 - 1))) ≥ (nth x0 i_10)) then
              some false
            else
              Bf.l1 K x0 k (wr .i64 (i_10 + 1))
            else none
            else none
          else
            Bf.l1 K x0 k (wr .i64 (i_10 + 1))
        else none
      else
        some (decide (((x0.length : Nat) : Int) ≤ 16))
    else
      some (decide (((x0.length : Nat) : Int) ≤ 16))
def Bf (K : Nat) (x0 : List Int) : Option Bool :=
  Bf.l1 K x0 K (0 : Int)
abbrev Bp.sg : Sig := ⟨[(.agg, Bc)], [], [(.one, (.int .i64))], []⟩
def Bp.l1 (K : Nat) (x0 : Ab) : Nat → Int → Int → Option Int
  | 0, _, _ => none
  | k + 1, n_10, i_11 =>
    if decide (i_11 < ((x0.Out.length : Nat) : Int)) then
      if (0 : Int) ≤ i_11 ∧ i_11 < ((x0.Out.length : Nat) : Int) then
      Bp.l1 K x0 k (wr .i64 (n_10 + (((nth x0.Out i_11).length : Nat) : Int))) (wr .i64 (i_11 + 1))
      else none
    else
      some n_10
def Bp (K : Nat) (x0 : Ab) : Option Int :=
  Bp.l1 K x0 K (0 : Int) (0 : Int)
abbrev Be.sg : Sig := ⟨[(.agg, Bc)], [], [(.one, .bool)], []⟩
def Be.l1 (K : Nat) (x0 : Ab) : Nat → Int → Option Bool
  | 0, _ => none
  | k + 1, i_10 =>
    if decide (i_10 < x0.N) then
      if (0 : Int) ≤ i_10 ∧ i_10 < ((x0.Out.length : Nat) : Int) then
      (Bf K (nth x0.Out i_10)).bind fun r27 =>
      if (!r27) then
        some false
      else
        if (0 : Int) ≤ i_10 ∧ i_10 < ((x0.Out.length : Nat) : Int) then
        if decide ((((nth x0.Out i_10).length : Nat) : Int) > 0) then
          if (0 : Int) ≤ i_10 ∧ i_10 < ((x0.Out.length : Nat) : Int) then
          if (0 : Int) ≤ i_10 ∧ i_10 < ((x0.Out.length : Nat) : Int) then
          if (0 : Int) ≤ (wr .i64 ((((nth x0.Out i_10).length : Nat) : Int) - 1)) ∧ (wr .i64 ((((nth x0.Out i_10).length : Nat) : Int) - 1)) < (((nth x0.Out i_10).length : Nat) : Int) then
          if decide ((nth (nth x0.Out i_10) (wr .i64 ((((nth x0.Out i_10).length : Nat) : Int) - 1))) ≥ x0.N) then
            some false
          else
            Be.l1 K x0 k (wr .i64 (i_10 + 1))
          else none
          else none
          else none
        else
          Be.l1 K x0 k (wr .i64 (i_10 + 1))
        else none
      else none
    else
      (Bp K x0).bind fun r58 =>
      some (decide (r58 ≤ 120))
def Be (K : Nat) (x0 : Ab) : Option Bool :=
  (Cy K x0.N 16).bind fun r6 =>
  if (!r6) then
    some false
  else
    if (((x0.Out.length : Nat) : Int) != x0.N) then
      some false
    else
      Be.l1 K x0 K (0 : Int)
abbrev Au.sg : Sig := ⟨[(.one, (.int .i64))], [], [(.one, (.int .i64))], []⟩
def Au.l1 (K : Nat) : Nat → Int → Int → Option Int
  | 0, _, _ => none
  | k + 1, n_11, k_10 =>
    if decide (n_11 > 1) then
      if (0 : Int) ≤ 1 then
      Au.l1 K k (n_11.fdiv (2 ^ min ((1 : Int)).toNat 64)) (wr .i64 (k_10 + 1))
      else none
    else
      some k_10
def Au (K : Nat) (x0 : Int) : Option Int :=
  Au.l1 K K x0 (0 : Int)
abbrev Ah.sg : Sig := ⟨[(.one, (.sl (.int .u8))), (.one, (.int .i64)), (.one, (.int .i64))], [.o], [(.one, (.sl (.int .u8)))], [.o]⟩
def Ah.l1 (K : Nat) (x1 : Int) : Nat → Int → (List Int) → Option (List Int)
  | 0, _, _ => none
  | k + 1, i_10, l_11 =>
    if decide (i_10 ≥ 0) then
      if (0 : Int) ≤ i_10 then
      if (l_11.length + ([wr .u8 (ib .and .i64 (x1.fdiv (2 ^ min (i_10).toNat 64)) 1)] : List Int).length) * 1 ≤ 140737488355328 then
      Ah.l1 K x1 k (wr .i64 (i_10 - 1)) (l_11 ++ ([wr .u8 (ib .and .i64 (x1.fdiv (2 ^ min (i_10).toNat 64)) 1)] : List Int))
      else none
      else none
    else
      some l_11
def Ah (K : Nat) (x0 : List Int) (x1 : Int) (x2 : Int) : Option (List Int) :=
  Ah.l1 K x1 K (wr .i64 (x2 - 1)) x0
abbrev Ae.sg : Sig := ⟨[(.one, (.sl (.int .u8))), (.one, (.int .i64)), (.one, (.int .i64))], [.o], [(.one, (.sl (.int .u8)))], [.o]⟩
def Ae.j2 (K : Nat) (rec_ : (List Int) → Int → Int → Option (List Int)) (x0 : List Int) (x2 : Int) (t_11 : Int) : Option (List Int) :=
  (Au K x2).bind fun r56 =>
  if t_11 ≠ 0 then
  (Ah K x0 0 (wr .i64 (r56.tdiv t_11))).bind fun r61 =>
  (Ah K r61 1 1).bind fun r62 =>
  if (0 : Int) ≤ (wr .i64 ((wr .i64 (r56.tdiv t_11)) * t_11)) then
  if (0 : Int) ≤ (wr .i64 ((wr .i64 ((wr .i64 (r56.tdiv t_11)) + 1)) * t_11)) then
  if (0 : Int) ≤ (wr .i64 ((wr .i64 (r56.tdiv t_11)) * t_11)) then
  (Au K (wr .i64 ((wr .i64 ((wr .i64 ((1 : Int) * 2 ^ min ((wr .i64 ((wr .i64 ((wr .i64 (r56.tdiv t_11)) + 1)) * t_11))).toNat 64)) - (wr .i64 ((1 : Int) * 2 ^ min ((wr .i64 ((wr .i64 (r56.tdiv t_11)) * t_11))).toNat 64)))) - 1))).bind fun r81 =>
  if (0 : Int) ≤ (wr .i64 (r81 + 1)) then
  if decide ((wr .i64 (x2 - (wr .i64 ((1 : Int) * 2 ^ min ((wr .i64 ((wr .i64 (r56.tdiv t_11)) * t_11))).toNat 64)))) < (wr .i64 ((wr .i64 ((1 : Int) * 2 ^ min ((wr .i64 (r81 + 1))).toNat 64)) - (wr .i64 ((wr .i64 ((1 : Int) * 2 ^ min ((wr .i64 ((wr .i64 ((wr .i64 (r56.tdiv t_11)) + 1)) * t_11))).toNat 64)) - (wr .i64 ((1 : Int) * 2 ^ min ((wr .i64 ((wr .i64 (r56.tdiv t_11)) * t_11))).toNat 64))))))) then
    (Ah K r62 (wr .i64 (x2 - (wr .i64 ((1 : Int) * 2 ^ min ((wr .i64 ((wr .i64 (r56.tdiv t_11)) * t_11))).toNat 64)))) (wr .i64 ((wr .i64 (r81 + 1)) - 1))).bind fun r93 =>
    some r93
  else
    if (0 : Int) ≤ (wr .i64 (r81 + 1)) then
    (Ah K r62 (wr .i64 ((wr .i64 ((wr .i64 (x2 - (wr .i64 ((1 : Int) * 2 ^ min ((wr .i64 ((wr .i64 (r56.tdiv t_11)) * t_11))).toNat 64)))) + (wr .i64 ((1 : Int) * 2 ^ min ((wr .i64 (r81 + 1))).toNat 64)))) - (wr .i64 ((wr .i64 ((1 : Int) * 2 ^ min ((wr .i64 ((wr .i64 ((wr .i64 (r56.tdiv t_11)) + 1)) * t_11))).toNat 64)) - (wr .i64 ((1 : Int) * 2 ^ min ((wr .i64 ((wr .i64 (r56.tdiv t_11)) * t_11))).toNat 64)))))) (wr .i64 (r81 + 1))).bind fun r102 =>
    some r102
    else none
  else none
  else none
  else none
  else none
  else none
def Ae.l1 (K : Nat) (rec_ : (List Int) → Int → Int → Option (List Int)) (x2 : Int) : Nat → Int → (List Int) → Option (List Int)
  | 0, _, _ => none
  | k + 1, t_10, t_12 =>
    if decide (t_10 < x2) then
      if (t_12.length + ([0] : List Int).length) * 1 ≤ 140737488355328 then
      Ae.l1 K rec_ x2 k (wr .i64 (t_10 + 1)) (t_12 ++ ([0] : List Int))
      else none
    else
      if (t_12.length + ([1] : List Int).length) * 1 ≤ 140737488355328 then
      some (t_12 ++ ([1] : List Int))
      else none
def Ae : Nat → (List Int) → Int → Int → Option (List Int)
  | 0, _, _, _ => none
  | K + 1, x0, x1, x2 =>
    if (x1 == 1) then
      Ae.l1 K (Ae K) x2 K (1 : Int) x0
    else
      if (x1 == 2) then
        (Au K x2).bind fun r31 =>
        (Ah K x0 0 r31).bind fun r32 =>
        (Au K x2).bind fun r35 =>
        (Ah K r32 x2 (wr .i64 (r35 + 1))).bind fun r37 =>
        some r37
      else
        if (x1 == 3) then
          (Au K x2).bind fun r42 =>
          ((Ae K) x0 2 (wr .i64 (r42 + 1))).bind fun r44 =>
          (Au K x2).bind fun r47 =>
          if (0 : Int) ≤ r47 then
          (Au K x2).bind fun r51 =>
          (Ah K r44 (wr .i64 (x2 - (wr .i64 ((1 : Int) * 2 ^ min (r47).toNat 64)))) r51).bind fun r52 =>
          some r52
          else none
        else
          if (x1 == 5) then
            Ae.j2 K (Ae K) x0 x2 (3 : Int)
          else
            Ae.j2 K (Ae K) x0 x2 (2 : Int)
abbrev Cs.sg : Sig := ⟨[(.agg, Bc), (.one, (.int .i64))], [], [(.one, (.sl (.int .i64)))], []⟩
def Cs (K : Nat) (x0 : Ab) (x1 : Int) : Option (List Int) :=
  if decide (x1 < x0.N) then
    if (0 : Int) ≤ x1 ∧ x1 < ((x0.Out.length : Nat) : Int) then
    some (nth x0.Out x1)
    else none
  else
    some ([] : List Int)
abbrev Bx.sg : Sig := ⟨[(.one, (.sl (.int .i64))), (.one, (.int .i64))], [], [(.one, (.int .i64))], []⟩
def Bx.l1 (K : Nat) (x0 : List Int) (x1 : Int) : Nat → Int → Option Int
  | 0, _ => none
  | k + 1, i_10 =>
    if decide (i_10 < ((x0.length : Nat) : Int)) then
      if (0 : Int) ≤ i_10 ∧ i_10 < ((x0.length : Nat) : Int) then
      if ((nth x0 i_10) == x1) then
        some i_10
      else
        Bx.l1 K x0 x1 k (wr .i64 (i_10 + 1))
      else none
    else
      some ((-1) : Int)
def Bx (K : Nat) (x0 : List Int) (x1 : Int) : Option Int :=
  Bx.l1 K x0 x1 K (0 : Int)
abbrev Am.sg : Sig := ⟨[(.one, (.sl (.int .i64))), (.one, (.sl (.int .i64)))], [], [(.one, (.sl (.int .i64))), (.one, (.sl (.int .i64)))], [.o, .o]⟩
def Am.l2 (K : Nat) (x0 : List Int) (x1 : List Int) : Nat → Int → (List Int) → (List Int) → Option ((List Int) × (List Int))
  | 0, _, _, _ => none
  | k + 1, i_12, blocks_16, rest_15 =>
    if decide (i_12 < ((x1.length : Nat) : Int)) then
      if (0 : Int) ≤ i_12 ∧ i_12 < ((x1.length : Nat) : Int) then
      (Bx K x0 (nth x1 i_12)).bind fun r47 =>
      if decide (r47 < 0) then
        if (0 : Int) ≤ i_12 ∧ i_12 < ((x1.length : Nat) : Int) then
        if (rest_15.length + ([nth x1 i_12] : List Int).length) * 8 ≤ 140737488355328 then
        Am.l2 K x0 x1 k (wr .i64 (i_12 + 1)) blocks_16 (rest_15 ++ ([nth x1 i_12] : List Int))
        else none
        else none
      else
        Am.l2 K x0 x1 k (wr .i64 (i_12 + 1)) blocks_16 rest_15
      else none
    else
      some (blocks_16, rest_15)
def Am.l1 (K : Nat) (x0 : List Int) (x1 : List Int) : Nat → Bool → Int → Int → (List Int) → Option ((List Int) × (List Int))
  | 0, _, _, _, _ => none
  | k + 1, in_14, n_10, i_11, blocks_13 =>
    if decide (i_11 < ((x0.length : Nat) : Int)) then
      if (0 : Int) ≤ i_11 ∧ i_11 < ((x0.length : Nat) : Int) then
      (Bx K x1 (nth x0 i_11)).bind fun r24 =>
      if (!((decide (r24 ≥ 0)) == in_14)) then
        if (blocks_13.length + ([n_10] : List Int).length) * 8 ≤ 140737488355328 then
        Am.l1 K x0 x1 k (decide (r24 ≥ 0)) (wr .i64 ((0 : Int) + 1)) (wr .i64 (i_11 + 1)) (blocks_13 ++ ([n_10] : List Int))
        else none
      else
        Am.l1 K x0 x1 k in_14 (wr .i64 (n_10 + 1)) (wr .i64 (i_11 + 1)) blocks_13
      else none
    else
      Am.l2 K x0 x1 K (0 : Int) blocks_13 ([] : List Int)
def Am (K : Nat) (x0 : List Int) (x1 : List Int) : Option ((List Int) × (List Int)) :=
  Am.l1 K x0 x1 K true (0 : Int) (0 : Int) ([] : List Int)
abbrev Ap.sg : Sig := ⟨[(.one, (.sl (.int .i64)))], [], [(.one, (.sl Cl)), (.one, (.sl (.int .i64)))], [.o, .o]⟩
def Ap.l2 (K : Nat) (go_l1 : Int → (List Ag) → (List Int) → Option ((List Ag) × (List Int))) (i_10 : Int) (x0 : List Int) : Nat → Int → (List Ag) → (List Int) → Option ((List Ag) × (List Int))
  | 0, _, _, _ => none
  | k + 1, k_11, r_14, rest_15 =>
    if decide (k_11 < ((x0.length : Nat) : Int)) then
      if (0 : Int) ≤ k_11 ∧ k_11 < ((x0.length : Nat) : Int) then
      if (0 : Int) ≤ (wr .i64 (k_11 - 1)) ∧ (wr .i64 (k_11 - 1)) < ((x0.length : Nat) : Int) then
      if ((nth x0 k_11) == (wr .i64 ((nth x0 (wr .i64 (k_11 - 1))) + 1))) then
        Ap.l2 K go_l1 i_10 x0 k (wr .i64 (k_11 + 1)) r_14 rest_15
      else
        if decide ((wr .i64 (k_11 - i_10)) ≥ 3) then
          if (0 : Int) ≤ i_10 ∧ i_10 < ((x0.length : Nat) : Int) then
          if (r_14.length + ([((nth x0 i_10, wr .i64 (k_11 - i_10)) : Ag)] : List Ag).length) * 16 ≤ 140737488355328 then
          go_l1 k_11 (r_14 ++ ([((nth x0 i_10, wr .i64 (k_11 - i_10)) : Ag)] : List Ag)) rest_15
          else none
          else none
        else
          if (0 : Int) ≤ i_10 ∧ i_10 ≤ k_11 ∧ k_11 ≤ ((x0.length : Nat) : Int) then
          if (rest_15.length + (((x0).drop i_10.toNat).take (k_11.toNat - i_10.toNat)).length) * 8 ≤ 140737488355328 then
          go_l1 k_11 r_14 (rest_15 ++ (((x0).drop i_10.toNat).take (k_11.toNat - i_10.toNat)))
          else none
          else none
      else none
      else none
    else
      if decide ((wr .i64 (k_11 - i_10)) ≥ 3) then
        if (0 : Int) ≤ i_10 ∧ i_10 < ((x0.length : Nat) : Int) then
        if (r_14.length + ([((nth x0 i_10, wr .i64 (k_11 - i_10)) : Ag)] : List Ag).length) * 16 ≤ 140737488355328 then
        go_l1 k_11 (r_14 ++ ([((nth x0 i_10, wr .i64 (k_11 - i_10)) : Ag)] : List Ag)) rest_15
        else none
        else none
      else
        if (0 : Int) ≤ i_10 ∧ i_10 ≤ k_11 ∧ k_11 ≤ ((x0.length : Nat) : Int) then
        if (rest_15.length + (((x0).drop i_10.toNat).take (k_11.toNat - i_10.toNat)).length) * 8 ≤ 140737488355328 then
        go_l1 k_11 r_14 (rest_15 ++ (((x0).drop i_10.toNat).take (k_11.toNat - i_10.toNat)))
        else none
        else none
def Ap.l1 (K : Nat) (x0 : List Int) : Nat → Int → (List Ag) → (List Int) → Option ((List Ag) × (List Int))
  | 0, _, _, _ => none
  | k + 1, i_10, r_12, rest_13 =>
    if decide (i_10 < ((x0.length : Nat) : Int)) then
      Ap.l2 K (Ap.l1 K x0 k) i_10 x0 K (wr .i64 (i_10 + 1)) r_12 rest_13
    else
      some (r_12, rest_13)
def Ap (K : Nat) (x0 : List Int) : Option ((List Ag) × (List Int)) :=
  Ap.l1 K x0 K (0 : Int) ([] : List Ag) ([] : List Int)
abbrev Cn.sg : Sig := ⟨[(.one, (.int .i64))], [], [(.one, (.int .i64))], []⟩
def Cn (K : Nat) (x0 : Int) : Option Int :=
  if decide (x0 ≥ 0) then
    some (wr .i64 (2 * x0))
  else
    some (wr .i64 ((wr .i64 ((-2) * x0)) - 1))
abbrev Bh.sg : Sig := ⟨[(.one, (.sl (.int .u8))), (.one, (.int .i64)), (.one, (.sl (.int .i64)))], [.o], [(.one, (.sl (.int .u8)))], [.o]⟩
def Bh.l1 (K : Nat) (x1 : Int) (x2 : List Int) : Nat → Int → (List Int) → Option (List Int)
  | 0, _, _ => none
  | k + 1, i_10, b_11 =>
    if decide (i_10 < ((x2.length : Nat) : Int)) then
      if (i_10 == 0) then
        if (0 : Int) ≤ (0 : Int) ∧ (0 : Int) < ((x2.length : Nat) : Int) then
        (Cn K (wr .i64 ((nth x2 0) - x1))).bind fun r27 =>
        (Ae K b_11 2 (wr .i64 (r27 + 1))).bind fun r29 =>
        Bh.l1 K x1 x2 k (wr .i64 (i_10 + 1)) r29
        else none
      else
        if (0 : Int) ≤ i_10 ∧ i_10 < ((x2.length : Nat) : Int) then
        if (0 : Int) ≤ (wr .i64 (i_10 - 1)) ∧ (wr .i64 (i_10 - 1)) < ((x2.length : Nat) : Int) then
        (Ae K b_11 2 (wr .i64 ((nth x2 i_10) - (nth x2 (wr .i64 (i_10 - 1)))))).bind fun r41 =>
        Bh.l1 K x1 x2 k (wr .i64 (i_10 + 1)) r41
        else none
        else none
    else
      some b_11
def Bh (K : Nat) (x0 : List Int) (x1 : Int) (x2 : List Int) : Option (List Int) :=
  (Ae K x0 2 (wr .i64 (((x2.length : Nat) : Int) + 1))).bind fun r12 =>
  Bh.l1 K x1 x2 K (0 : Int) r12
abbrev Aq.sg : Sig := ⟨[(.one, (.sl (.int .u8))), (.one, (.int .i64)), (.one, (.sl (.int .i64)))], [.o], [(.one, (.sl (.int .u8)))], [.o]⟩
def Aq.j2 (K : Nat) (go_l1 : Int → (List Int) → Option (List Int)) (r12 : (List Ag) × (List Int)) (t_10 : Int) (x1 : Int) (t_11 : List Int) : Option (List Int) :=
  if (0 : Int) ≤ t_10 ∧ t_10 < ((r12.1.length : Nat) : Int) then
  (Ae K t_11 2 (wr .i64 ((wr .i64 (((nth r12.1 t_10).Len) - 3)) + 1))).bind fun r67 =>
  go_l1 (wr .i64 (t_10 + 1)) r67
  else none
def Aq.l1 (K : Nat) (r12 : (List Ag) × (List Int)) (x1 : Int) : Nat → Int → (List Int) → Option (List Int)
  | 0, _, _ => none
  | k + 1, t_10, t_12 =>
    if decide (t_10 < ((r12.1.length : Nat) : Int)) then
      if (t_10 == 0) then
        if (0 : Int) ≤ (0 : Int) ∧ (0 : Int) < ((r12.1.length : Nat) : Int) then
        (Cn K (wr .i64 (((nth r12.1 0).At) - x1))).bind fun r35 =>
        (Ae K t_12 2 (wr .i64 (r35 + 1))).bind fun r37 =>
        Aq.j2 K (Aq.l1 K r12 x1 k) r12 t_10 x1 r37
        else none
      else
        if (0 : Int) ≤ t_10 ∧ t_10 < ((r12.1.length : Nat) : Int) then
        if (0 : Int) ≤ (wr .i64 (t_10 - 1)) ∧ (wr .i64 (t_10 - 1)) < ((r12.1.length : Nat) : Int) then
        if (0 : Int) ≤ (wr .i64 (t_10 - 1)) ∧ (wr .i64 (t_10 - 1)) < ((r12.1.length : Nat) : Int) then
        (Ae K t_12 2 (wr .i64 ((wr .i64 (((nth r12.1 t_10).At) - ((nth r12.1 (wr .i64 (t_10 - 1))).At))) - ((nth r12.1 (wr .i64 (t_10 - 1))).Len)))).bind fun r58 =>
        Aq.j2 K (Aq.l1 K r12 x1 k) r12 t_10 x1 r58
        else none
        else none
        else none
    else
      (Bh K t_12 x1 r12.2).bind fun r71 =>
      some r71
def Aq (K : Nat) (x0 : List Int) (x1 : Int) (x2 : List Int) : Option (List Int) :=
  (Ap K x2).bind fun r12 =>
  (Ae K x0 2 (wr .i64 (((r12.1.length : Nat) : Int) + 1))).bind fun r19 =>
  Aq.l1 K r12 x1 K (0 : Int) r19
abbrev Bm.sg : Sig := ⟨[(.one, (.sl (.int .u8))), (.one, (.int .i64)), (.one, (.sl (.int .i64))), (.one, (.sl (.int .i64)))], [.o], [(.one, (.sl (.int .u8)))], [.o]⟩
def Bm.l1 (K : Nat) (r16 : (List Int) × (List Int)) (x1 : Int) : Nat → Int → (List Int) → Option (List Int)
  | 0, _, _ => none
  | k + 1, i_10, b_11 =>
    if decide (i_10 < ((r16.1.length : Nat) : Int)) then
      if (0 : Int) ≤ i_10 ∧ i_10 < ((r16.1.length : Nat) : Int) then
      if (i_10 == 0) then
        (Ae K b_11 2 (wr .i64 ((nth r16.1 i_10) + 1))).bind fun r40 =>
        Bm.l1 K r16 x1 k (wr .i64 (i_10 + 1)) r40
      else
        (Ae K b_11 2 (nth r16.1 i_10)).bind fun r40 =>
        Bm.l1 K r16 x1 k (wr .i64 (i_10 + 1)) r40
      else none
    else
      (Aq K b_11 x1 r16.2).bind fun r44 =>
      some r44
def Bm (K : Nat) (x0 : List Int) (x1 : Int) (x2 : List Int) (x3 : List Int) : Option (List Int) :=
  (Am K x2 x3).bind fun r16 =>
  (Ae K x0 2 (wr .i64 (((r16.1.length : Nat) : Int) + 1))).bind fun r23 =>
  Bm.l1 K r16 x1 K (0 : Int) r23
abbrev Ai.sg : Sig := ⟨[(.one, (.sl (.int .u8))), (.one, (.int .i64)), (.one, (.int .i64))], [.n], [(.one, (.sl (.int .u8)))], [.o]⟩
def Ai.j2 (K : Nat) (x2 : Int) (t_11 : Int) : Option (List Int) :=
  (Au K x2).bind fun r56 =>
  if t_11 ≠ 0 then
  (Ah K ([] : List Int) 0 (wr .i64 (r56.tdiv t_11))).bind fun r61 =>
  (Ah K r61 1 1).bind fun r62 =>
  if (0 : Int) ≤ (wr .i64 ((wr .i64 (r56.tdiv t_11)) * t_11)) then
  if (0 : Int) ≤ (wr .i64 ((wr .i64 ((wr .i64 (r56.tdiv t_11)) + 1)) * t_11)) then
  if (0 : Int) ≤ (wr .i64 ((wr .i64 (r56.tdiv t_11)) * t_11)) then
  (Au K (wr .i64 ((wr .i64 ((wr .i64 ((1 : Int) * 2 ^ min ((wr .i64 ((wr .i64 ((wr .i64 (r56.tdiv t_11)) + 1)) * t_11))).toNat 64)) - (wr .i64 ((1 : Int) * 2 ^ min ((wr .i64 ((wr .i64 (r56.tdiv t_11)) * t_11))).toNat 64)))) - 1))).bind fun r81 =>
  if (0 : Int) ≤ (wr .i64 (r81 + 1)) then
  if decide ((wr .i64 (x2 - (wr .i64 ((1 : Int) * 2 ^ min ((wr .i64 ((wr .i64 (r56.tdiv t_11)) * t_11))).toNat 64)))) < (wr .i64 ((wr .i64 ((1 : Int) * 2 ^ min ((wr .i64 (r81 + 1))).toNat 64)) - (wr .i64 ((wr .i64 ((1 : Int) * 2 ^ min ((wr .i64 ((wr .i64 ((wr .i64 (r56.tdiv t_11)) + 1)) * t_11))).toNat 64)) - (wr .i64 ((1 : Int) * 2 ^ min ((wr .i64 ((wr .i64 (r56.tdiv t_11)) * t_11))).toNat 64))))))) then
    (Ah K r62 (wr .i64 (x2 - (wr .i64 ((1 : Int) * 2 ^ min ((wr .i64 ((wr .i64 (r56.tdiv t_11)) * t_11))).toNat 64)))) (wr .i64 ((wr .i64 (r81 + 1)) - 1))).bind fun r93 =>
    some r93
  else
    if (0 : Int) ≤ (wr .i64 (r81 + 1)) then
    (Ah K r62 (wr .i64 ((wr .i64 ((wr .i64 (x2 - (wr .i64 ((1 : Int) * 2 ^ min ((wr .i64 ((wr .i64 (r56.tdiv t_11)) * t_11))).toNat 64)))) + (wr .i64 ((1 : Int) * 2 ^ min ((wr .i64 (r81 + 1))).toNat 64)))) - (wr .i64 ((wr .i64 ((1 : Int) * 2 ^ min ((wr .i64 ((wr .i64 ((wr .i64 (r56.tdiv t_11)) + 1)) * t_11))).toNat 64)) - (wr .i64 ((1 : Int) * 2 ^ min ((wr .i64 ((wr .i64 (r56.tdiv t_11)) * t_11))).toNat 64)))))) (wr .i64 (r81 + 1))).bind fun r102 =>
    some r102
    else none
  else none
  else none
  else none
  else none
  else none
def Ai.l1 (K : Nat) (x2 : Int) : Nat → Int → (List Int) → Option (List Int)
  | 0, _, _ => none
  | k + 1, t_10, t_12 =>
    if decide (t_10 < x2) then
      if (t_12.length + ([0] : List Int).length) * 1 ≤ 140737488355328 then
      Ai.l1 K x2 k (wr .i64 (t_10 + 1)) (t_12 ++ ([0] : List Int))
      else none
    else
      if (t_12.length + ([1] : List Int).length) * 1 ≤ 140737488355328 then
      some (t_12 ++ ([1] : List Int))
      else none
def Ai (K : Nat) (x0 : List Int) (x1 : Int) (x2 : Int) : Option (List Int) :=
  if (x1 == 1) then
    Ai.l1 K x2 K (1 : Int) ([] : List Int)
  else
    if (x1 == 2) then
      (Au K x2).bind fun r31 =>
      (Ah K ([] : List Int) 0 r31).bind fun r32 =>
      (Au K x2).bind fun r35 =>
      (Ah K r32 x2 (wr .i64 (r35 + 1))).bind fun r37 =>
      some r37
    else
      if (x1 == 3) then
        (Au K x2).bind fun r42 =>
        (Ae K ([] : List Int) 2 (wr .i64 (r42 + 1))).bind fun r44 =>
        (Au K x2).bind fun r47 =>
        if (0 : Int) ≤ r47 then
        (Au K x2).bind fun r51 =>
        (Ah K r44 (wr .i64 (x2 - (wr .i64 ((1 : Int) * 2 ^ min (r47).toNat 64)))) r51).bind fun r52 =>
        some r52
        else none
      else
        if (x1 == 5) then
          Ai.j2 K x2 (3 : Int)
        else
          Ai.j2 K x2 (2 : Int)
abbrev Bg.sg : Sig := ⟨[(.agg, Bc), (.agg, Bc)], [], [(.one, (.sl (.int .u8)))], [.o]⟩
def Bg.l1 (K : Nat) (x0 : Ab) (x1 : Ab) : Nat → Int → (List Int) → Option (List Int)
  | 0, _, _ => none
  | k + 1, v_10, b_11 =>
    if decide (v_10 < x1.N) then
      (Cs K x0 v_10).bind fun r21 =>
      if (0 : Int) ≤ v_10 ∧ v_10 < ((x1.Out.length : Nat) : Int) then
      (Bm K b_11 v_10 r21 (nth x1.Out v_10)).bind fun r27 =>
      Bg.l1 K x0 x1 k (wr .i64 (v_10 + 1)) r27
      else none
    else
      some b_11
def Bg (K : Nat) (x0 : Ab) (x1 : Ab) : Option (List Int) :=
  (Ai K ([] : List Int) 2 (wr .i64 (x1.N + 1))).bind fun r10 =>
  Bg.l1 K x0 x1 K (0 : Int) r10
abbrev Ar.sg : Sig := ⟨[(.one, (.sl (.int .u8)))], [], [(.agg, Cd)], []⟩
def Ar.l1 (K : Nat) (x0 : List Int) : Nat → Int → ByteArray → Int → (List Int) → Option Aj
  | 0, _, _, _, _ => none
  | k + 1, i_13, t_10, t_11, x_12 =>
    if decide (i_13 < ((x0.length : Nat) : Int)) then
      if (8 : Int) ≠ 0 then
      if (8 : Int) ≠ 0 then
      if (0 : Int) ≤ (wr .i64 (i_13.tdiv 8)) ∧ (wr .i64 (i_13.tdiv 8)) < ((x_12.length : Nat) : Int) then
      if (0 : Int) ≤ i_13 ∧ i_13 < ((x0.length : Nat) : Int) then
      if (8 : Int) ≠ 0 then
      if (0 : Int) ≤ (wr .i64 (7 - (i_13.tmod 8))) then
      if (0 : Int) ≤ (wr .i64 (i_13.tdiv 8)) ∧ (wr .i64 (i_13.tdiv 8)) < ((x_12.length : Nat) : Int) then
      Ar.l1 K x0 k (wr .i64 (i_13 + 1)) t_10 t_11 ((x_12).set (wr .i64 (i_13.tdiv 8)).toNat (ib .or .u8 (nth x_12 (wr .i64 (i_13.tdiv 8))) (wr .u8 ((nth x0 i_13) * 2 ^ min ((wr .i64 (7 - (i_13.tmod 8)))).toNat 8))))
      else none
      else none
      else none
      else none
      else none
      else none
      else none
    else
      some ((bytesOf x_12, ((x0.length : Nat) : Int)) : Aj)
def Ar (K : Nat) (x0 : List Int) : Option Aj :=
  if (8 : Int) ≠ 0 then
  if (wr .i64 ((wr .i64 (((x0.length : Nat) : Int) + 7)).tdiv 8)) = (wr .i64 ((wr .i64 (((x0.length : Nat) : Int) + 7)).tdiv 8)) ∧ (0 : Int) ≤ (wr .i64 ((wr .i64 (((x0.length : Nat) : Int) + 7)).tdiv 8)) ∧ (1 : Int) * (wr .i64 ((wr .i64 (((x0.length : Nat) : Int) + 7)).tdiv 8)) ≤ 281474976710656 ∧ (wr .i64 ((wr .i64 (((x0.length : Nat) : Int) + 7)).tdiv 8)) ≤ 9223372036854775807 then
  Ar.l1 K x0 K (0 : Int) ByteArray.empty (0 : Int) (List.replicate (wr .i64 ((wr .i64 (((x0.length : Nat) : Int) + 7)).tdiv 8)).toNat (0 : Int))
  else none
  else none
abbrev Bi.sg : Sig := ⟨[(.agg, Bc)], [], [(.one, (.sl (.int .u8))), (.one, (.sl (.int .i64)))], [.o, .o]⟩
def Bi.l1 (K : Nat) (x0 : Ab) : Nat → Int → (List Int) → (List Int) → Option ((List Int) × (List Int))
  | 0, _, _, _ => none
  | k + 1, v_10, b_11, at_12 =>
    if decide (v_10 < x0.N) then
      if (at_12.length + ([((b_11.length : Nat) : Int)] : List Int).length) * 8 ≤ 140737488355328 then
      if (0 : Int) ≤ v_10 ∧ v_10 < ((x0.Out.length : Nat) : Int) then
      (Aq K b_11 v_10 (nth x0.Out v_10)).bind fun r29 =>
      Bi.l1 K x0 k (wr .i64 (v_10 + 1)) r29 (at_12 ++ ([((b_11.length : Nat) : Int)] : List Int))
      else none
      else none
    else
      some (b_11, at_12)
def Bi (K : Nat) (x0 : Ab) : Option ((List Int) × (List Int)) :=
  (Ai K ([] : List Int) 2 (wr .i64 (x0.N + 1))).bind fun r10 =>
  Bi.l1 K x0 K (0 : Int) r10 ([] : List Int)
abbrev Cw.sg : Sig := ⟨[(.agg, Bc), (.agg, Bc)], [], [(.one, .bool)], []⟩
def Cw (K : Nat) (x0 : Ab) (x1 : Ab) : Option Bool :=
  (Bi K x1).bind fun r9 =>
  (Bg K x0 x1).bind fun r14 =>
  some (decide (((r14.length : Nat) : Int) < ((r9.1.length : Nat) : Int)))
abbrev Ce.sg : Sig := ⟨[(.one, (.int .i64))], [], [(.one, (.int .i64))], []⟩
def Ce (K : Nat) (x0 : Int) : Option Int :=
  some x0
abbrev A5.sg : Sig := ⟨[(.one, (.sl (.int .i64))), (.one, (.sl (.int .i64)))], [], [(.one, .bool)], []⟩
def A5.l1 (K : Nat) (x0 : List Int) (x1 : List Int) : Nat → Int → Option Bool
  | 0, _ => none
  | k + 1, i_10 =>
    if decide (i_10 < ((x0.length : Nat) : Int)) then
      if (0 : Int) ≤ i_10 ∧ i_10 < ((x0.length : Nat) : Int) then
      if (0 : Int) ≤ i_10 ∧ i_10 < ((x1.length : Nat) : Int) then
      if ((nth x0 i_10) != (nth x1 i_10)) then
        some false
      else
        A5.l1 K x0 x1 k (wr .i64 (i_10 + 1))
      else none
      else none
    else
      some true
def A5 (K : Nat) (x0 : List Int) (x1 : List Int) : Option Bool :=
  if (((x0.length : Nat) : Int) != ((x1.length : Nat) : Int)) then
    some false
  else
    A5.l1 K x0 x1 K (0 : Int)
abbrev Az.sg : Sig := ⟨[(.one, (.sl (.sl (.int .i64)))), (.one, (.sl (.sl (.int .i64))))], [], [(.one, .bool)], []⟩
def Az.l1 (K : Nat) (x0 : List (List Int)) (x1 : List (List Int)) : Nat → Int → Option Bool
  | 0, _ => none
  | k + 1, i_10 =>
    if decide (i_10 < ((x0.length : Nat) : Int)) then
      if (0 : Int) ≤ i_10 ∧ i_10 < ((x0.length : Nat) : Int) then
      if (0 : Int) ≤ i_10 ∧ i_10 < ((x1.length : Nat) : Int) then
      (A5 K (nth x0 i_10) (nth x1 i_10)).bind fun r25 =>
      if (!r25) then
        some false
      else
        Az.l1 K x0 x1 k (wr .i64 (i_10 + 1))
      else none
      else none
    else
      some true
def Az (K : Nat) (x0 : List (List Int)) (x1 : List (List Int)) : Option Bool :=
  if (((x0.length : Nat) : Int) != ((x1.length : Nat) : Int)) then
    some false
  else
    Az.l1 K x0 x1 K (0 : Int)
abbrev Ca.sg : Sig := ⟨[(.agg, Bc), (.agg, Bc)], [], [(.one, .bool)], []⟩
def Ca (K : Nat) (x0 : Ab) (x1 : Ab) : Option Bool :=
  if (x0.N == x1.N) then
    (Az K x0.Out x1.Out).bind fun r15 =>
    some r15
  else
    some false
abbrev Cq.sg : Sig := ⟨[(.one, (.int .i64)), (.one, (.int .i64))], [], [(.one, (.int .i64))], []⟩
def Cq (K : Nat) (x0 : Int) (x1 : Int) : Option Int :=
  if (wr .u64 x1) ≠ 0 then
  some (wr .i64 ((wr .u64 x0).tmod (wr .u64 x1)))
  else none
abbrev Bu : Type := (List (List Int)) × (List Aj) × (List Int)
abbrev D3 : Ty := (.pr (.sl (.sl (.int .i64))) (.pr (.sl Cd) (.sl (.int .i64))))
abbrev Bu.L (x : Bu) : List (List Int) := x.1
abbrev Bu.B (x : Bu) : List Aj := x.2.1
abbrev Bu.N (x : Bu) : List Int := x.2.2
abbrev As.sg : Sig := ⟨[(.agg, D3), (.one, (.sl (.sl (.int .u8))))], [], [(.one, (.sl Cd))], [.o]⟩
def As.l2 (K : Nat) (x0 : Bu) (x1 : List (List Int)) : Nat → Int → (List Aj) → Option (List Aj)
  | 0, _, _ => none
  | k + 1, t_11, t_12 =>
    if decide (t_11 < ((x1.length : Nat) : Int)) then
      if decide (t_11 < 10) then
        if (0 : Int) ≤ t_11 ∧ t_11 < ((x1.length : Nat) : Int) then
        (Ar K (nth x1 t_11)).bind fun r36 =>
        if (t_12.length + ([r36] : List Aj).length) * 24 ≤ 140737488355328 then
        if ((((nth x1 t_11).length : Nat) : Int) == 0) then
          As.l2 K x0 x1 k (wr .i64 (t_11 + 1)) (t_12 ++ ([r36] : List Aj))
        else
          if (([] : List Int).length + (nth x1 t_11).length) * 1 ≤ 140737488355328 then
          (Cq K (wr .i64 ((wr .i64 (t_11 * 7)) + (wr .i64 (((x0.N.length : Nat) : Int) * 3)))) (((([] : List Int) ++ (nth x1 t_11)).length : Nat) : Int)).bind fun r54 =>
          if (0 : Int) ≤ r54 ∧ r54 < (((([] : List Int) ++ (nth x1 t_11)).length : Nat) : Int) then
          if (0 : Int) ≤ r54 ∧ r54 < (((([] : List Int) ++ (nth x1 t_11)).length : Nat) : Int) then
          (Ar K ((([] : List Int) ++ (nth x1 t_11)).set r54.toNat (wr .u8 (1 - (nth (([] : List Int) ++ (nth x1 t_11)) r54))))).bind fun r65 =>
          if (0 : Int) ≤ (0 : Int) ∧ (0 : Int) ≤ r54 ∧ r54 ≤ (((nth x1 t_11).length : Nat) : Int) then
          (Ar K (((nth x1 t_11).drop (0 : Int).toNat).take (r54.toNat - (0 : Int).toNat))).bind fun r69 =>
          if (([] : List Int).length + (nth x1 t_11).length) * 1 ≤ 140737488355328 then
          if ((([] : List Int) ++ (nth x1 t_11)).length + ([1, 0, 1] : List Int).length) * 1 ≤ 140737488355328 then
          (Ar K ((([] : List Int) ++ (nth x1 t_11)) ++ ([1, 0, 1] : List Int))).bind fun r75 =>
          if ((t_12 ++ ([r36] : List Aj)).length + ([r65, r69, r75] : List Aj).length) * 24 ≤ 140737488355328 then
          As.l2 K x0 x1 k (wr .i64 (t_11 + 1)) ((t_12 ++ ([r36] : List Aj)) ++ ([r65, r69, r75] : List Aj))
          else none
          else none
          else none
          else none
          else none
          else none
          else none
        else none
        else none
      else
        some t_12
    else
      some t_12
def As.j1 (K : Nat) (x0 : Bu) (x1 : List (List Int)) (t_10 : List Aj) : Option (List Aj) :=
  As.l2 K x0 x1 K (0 : Int) t_10
def As (K : Nat) (x0 : Bu) (x1 : List (List Int)) : Option (List Aj) :=
  if (([((ByteArray.empty, 0) : Aj)] : List Aj).length + x0.B.length) * 24 ≤ 140737488355328 then
  if decide ((((([((ByteArray.empty, 0) : Aj)] : List Aj) ++ x0.B).length : Nat) : Int) > 6) then
    if (0 : Int) ≤ (6 : Int) ∧ (6 : Int) ≤ (((([((ByteArray.empty, 0) : Aj)] : List Aj) ++ x0.B).length : Nat) : Int) then
    As.j1 K x0 x1 ((([((ByteArray.empty, 0) : Aj)] : List Aj) ++ x0.B).take (6 : Int).toNat)
    else none
  else
    As.j1 K x0 x1 (([((ByteArray.empty, 0) : Aj)] : List Aj) ++ x0.B)
  else none
abbrev Dp.sg : Sig := ⟨[(.agg, Cd)], [], [(.one, .bool)], []⟩
def Dp (K : Nat) (x0 : Aj) : Option Bool :=
  if decide (x0.N < 0) then
    some false
  else
    if decide (x0.N > 6000) then
      some false
    else
      if (8 : Int) ≠ 0 then
      if (((x0.Data.size : Nat) : Int) != (wr .i64 ((wr .i64 ((wr .i64 (x0.N + 8)) - 1)).tdiv 8))) then
        some false
      else
        if (8 : Int) ≠ 0 then
        if ((x0.N.tmod 8) == 0) then
          some true
        else
          if (0 : Int) ≤ (wr .i64 (((x0.Data.size : Nat) : Int) - 1)) ∧ (wr .i64 (((x0.Data.size : Nat) : Int) - 1)) < ((x0.Data.size : Nat) : Int) then
          if (0 : Int) ≤ (x0.N.tmod 8) then
          some ((ib .and .u8 (bt x0.Data (wr .i64 (((x0.Data.size : Nat) : Int) - 1))) ((255 : Int).fdiv (2 ^ min ((x0.N.tmod 8)).toNat 8))) == 0)
          else none
          else none
        else none
      else none
abbrev Du.sg : Sig := ⟨[(.agg, Cd), (.one, (.int .i64))], [], [(.one, (.int .i64))], []⟩
def Du (K : Nat) (x0 : Aj) (x1 : Int) : Option Int :=
  if (8 : Int) ≠ 0 then
  if (0 : Int) ≤ (wr .i64 (x1.tdiv 8)) ∧ (wr .i64 (x1.tdiv 8)) < ((x0.Data.size : Nat) : Int) then
  if (8 : Int) ≠ 0 then
  if (0 : Int) ≤ (wr .i64 (7 - (x1.tmod 8))) then
  some (ib .and .i64 (wr .i64 ((bt x0.Data (wr .i64 (x1.tdiv 8))).fdiv (2 ^ min ((wr .i64 (7 - (x1.tmod 8)))).toNat 8))) 1)
  else none
  else none
  else none
  else none
abbrev Cu.sg : Sig := ⟨[(.agg, Cd), (.one, (.int .i64))], [], [(.one, (.int .i64))], []⟩
def Cu.l1 (K : Nat) (x0 : Aj) (x1 : Int) : Nat → Int → Option Int
  | 0, _ => none
  | k + 1, i_10 =>
    if decide (i_10 < x0.N) then
      (Du K x0 i_10).bind fun r15 =>
      if (r15 == 1) then
        some (wr .i64 (i_10 - x1))
      else
        Cu.l1 K x0 x1 k (wr .i64 (i_10 + 1))
    else
      some ((-1) : Int)
def Cu (K : Nat) (x0 : Aj) (x1 : Int) : Option Int :=
  Cu.l1 K x0 x1 K x1
abbrev Bn : Type := Aj × Int × Bool
abbrev D0 : Ty := (.pr Cd (.pr (.int .i64) .bool))
abbrev Bn.b (x : Bn) : Aj := x.1
abbrev Bn.at_ (x : Bn) : Int := x.2.1
abbrev Bn.bad (x : Bn) : Bool := x.2.2
abbrev Cr.sg : Sig := ⟨[(.box, D0), (.one, (.int .i64))], [], [(.one, (.int .i64))], []⟩
def Cr (K : Nat) (x0 : Bn) (x1 : Int) : Option (Int × Bn) :=
  (Cu K x0.b x0.at_).bind fun r14 =>
  if x0.bad then
    some (0, ((x0.b, x0.at_, true) : Bn))
  else
    if decide (r14 < 0) then
      some (0, ((x0.b, x0.at_, true) : Bn))
    else
      if decide (r14 > x1) then
        some (0, ((x0.b, x0.at_, true) : Bn))
      else
        some (r14, ((x0.b, wr .i64 (x0.at_ + r14), x0.bad) : Bn))
abbrev C0.sg : Sig := ⟨[(.agg, Cd), (.one, (.int .i64)), (.one, (.int .i64))], [], [(.one, (.int .i64)), (.one, .bool)], []⟩
def C0.l1 (K : Nat) (x0 : Aj) (x1 : Int) (x2 : Int) : Nat → Int → Int → Option (Int × Bool)
  | 0, _, _ => none
  | k + 1, v_10, t_11 =>
    if decide (t_11 < x2) then
      if (0 : Int) ≤ 1 then
      (Du K x0 (wr .i64 (x1 + t_11))).bind fun r32 =>
      C0.l1 K x0 x1 x2 k (ib .or .i64 (wr .i64 (v_10 * 2 ^ min ((1 : Int)).toNat 64)) r32) (wr .i64 (t_11 + 1))
      else none
    else
      some (v_10, true)
def C0 (K : Nat) (x0 : Aj) (x1 : Int) (x2 : Int) : Option (Int × Bool) :=
  if decide (x1 > x0.N) then
    some (0, false)
  else
    if decide (x2 > (wr .i64 (x0.N - x1))) then
      some (0, false)
    else
      C0.l1 K x0 x1 x2 K (0 : Int) (0 : Int)
abbrev B5.sg : Sig := ⟨[(.box, D0), (.one, (.int .i64))], [], [(.one, (.int .i64))], []⟩
def B5 (K : Nat) (x0 : Bn) (x1 : Int) : Option (Int × Bn) :=
  (C0 K x0.b x0.at_ x1).bind fun r17 =>
  if x0.bad then
    some (0, ((x0.b, x0.at_, true) : Bn))
  else
    if (!r17.2) then
      some (0, ((x0.b, x0.at_, true) : Bn))
    else
      some (r17.1, ((x0.b, wr .i64 (x0.at_ + x1), x0.bad) : Bn))
abbrev Cv.sg : Sig := ⟨[(.box, D0), (.one, (.int .i64))], [], [(.one, (.int .i64))], []⟩
def Cv (K : Nat) (x0 : Bn) (x1 : Int) : Option (Int × Bn) :=
  (Cr K x0 (wr .i64 (x1 - 1))).bind fun r9 =>
  (B5 K r9.2 1).bind fun r11 =>
  some (wr .i64 (r9.1 + 1), r11.2)
abbrev Cj.sg : Sig := ⟨[(.box, D0)], [], [(.one, (.int .i64))], []⟩
def Cj (K : Nat) (x0 : Bn) : Option (Int × Bn) :=
  (Cr K x0 30).bind fun r5 =>
  (B5 K r5.2 (wr .i64 (r5.1 + 1))).bind fun r9 =>
  some (r9.1, r9.2)
abbrev C7.sg : Sig := ⟨[(.box, D0)], [], [(.one, (.int .i64))], []⟩
def C7 (K : Nat) (x0 : Bn) : Option (Int × Bn) :=
  (Cj K x0).bind fun r5 =>
  if r5.2.bad then
    some (0, ((r5.2.b, r5.2.at_, true) : Bn))
  else
    if decide ((wr .i64 (r5.1 - 1)) > 30) then
      some (0, ((r5.2.b, r5.2.at_, true) : Bn))
    else
      if (0 : Int) ≤ (wr .i64 (r5.1 - 1)) then
      (B5 K r5.2 (wr .i64 (r5.1 - 1))).bind fun r22 =>
      some (ib .or .i64 (wr .i64 ((1 : Int) * 2 ^ min ((wr .i64 (r5.1 - 1))).toNat 64)) r22.1, r22.2)
      else none
abbrev Da.sg : Sig := ⟨[(.box, D0), (.one, (.int .i64))], [], [(.one, (.int .i64))], []⟩
def Da (K : Nat) (x0 : Bn) (x1 : Int) : Option (Int × Bn) :=
  if x1 ≠ 0 then
  (Cv K x0 (wr .i64 ((wr .i64 ((30 : Int).tdiv x1)) + 1))).bind fun r15 =>
  if r15.2.bad then
    some (0, r15.2)
  else
    (Dy K x1 (wr .i64 (r15.1 - 1))).bind fun r24 =>
    (B5 K r15.2 (wr .i64 (r24.2.2.1 - 1))).bind fun r32 =>
    if decide (r32.1 ≥ r24.2.2.2) then
      if (0 : Int) ≤ 1 then
      (B5 K r32.2 1).bind fun r39 =>
      some (wr .i64 (r24.1 + (wr .i64 ((wr .i64 ((wr .i64 (r32.1 * 2 ^ min ((1 : Int)).toNat 64)) + r39.1)) - r24.2.2.2))), r39.2)
      else none
    else
      some (wr .i64 (r24.1 + r32.1), r32.2)
  else none
abbrev B8.sg : Sig := ⟨[(.agg, Cd), (.one, (.int .i64)), (.one, (.int .i64))], [], [(.one, (.int .i64)), (.one, (.int .i64)), (.one, .bool)], []⟩
def B8.j1 (K : Nat) (n_14 : Int) (r_10 : ByteArray) (r_11 : Int) (r_12 : Int) (r_13 : Bool) : Option (Int × Int × Bool) :=
  if r_13 then
    some (0, 0, false)
  else
    if decide (n_14 > 1073741824) then
      some (0, 0, false)
    else
      some (n_14, r_12, true)
def B8 (K : Nat) (x0 : Aj) (x1 : Int) (x2 : Int) : Option (Int × Int × Bool) :=
  if (x2 == 1) then
    (Cv K ((x0, x1, false) : Bn) 1000).bind fun r23 =>
    B8.j1 K r23.1 r23.2.b.Data r23.2.b.N r23.2.at_ r23.2.bad
  else
    if (x2 == 2) then
      (Cj K ((x0, x1, false) : Bn)).bind fun r27 =>
      B8.j1 K r27.1 r27.2.b.Data r27.2.b.N r27.2.at_ r27.2.bad
    else
      if (x2 == 3) then
        (C7 K ((x0, x1, false) : Bn)).bind fun r31 =>
        B8.j1 K r31.1 r31.2.b.Data r31.2.b.N r31.2.at_ r31.2.bad
      else
        (Dq K x2).bind fun r18 =>
        (Da K ((x0, x1, false) : Bn) r18).bind fun r19 =>
        B8.j1 K r19.1 r19.2.b.Data r19.2.b.N r19.2.at_ r19.2.bad
abbrev Dr.sg : Sig := ⟨[(.agg, Cd)], [], [(.one, (.int .i64)), (.one, (.int .i64)), (.one, .bool)], []⟩
def Dr (K : Nat) (x0 : Aj) : Option (Int × Int × Bool) :=
  (B8 K x0 0 2).bind fun r7 =>
  if (!r7.2.2) then
    some (0, 0, false)
  else
    if decide (r7.1 > 17) then
      some (0, 0, false)
    else
      some (wr .i64 (r7.1 - 1), r7.2.1, true)
abbrev Db.sg : Sig := ⟨[(.one, (.int .i64))], [], [(.one, (.int .i64))], []⟩
def Db (K : Nat) (x0 : Int) : Option Int :=
  if (2 : Int) ≠ 0 then
  if ((x0.tmod 2) == 1) then
    if (2 : Int) ≠ 0 then
    some (wr .i64 ((wr .i64 (0 - (wr .i64 (x0 + 1)))).tdiv 2))
    else none
  else
    if (2 : Int) ≠ 0 then
    some (wr .i64 (x0.tdiv 2))
    else none
  else none
abbrev Bw.sg : Sig := ⟨[(.agg, Cd), (.one, (.int .i64)), (.one, (.int .i64))], [], [(.one, (.sl Cl)), (.one, (.int .i64)), (.one, .bool)], [.o]⟩
def Bw.j2 (K : Nat) (go_l1 : Int → Int → Int → Int → (List Ag) → Option ((List Ag) × Int × Bool)) (r48 : Int × Int × Bool) (t_10 : Int) (t_11 : Int) (t_13 : List Ag) (t_15 : Int) (x0 : Aj) (t_12 : Int) : Option ((List Ag) × Int × Bool) :=
  if (t_13.length + ([((wr .i64 (t_15 + t_12), wr .i64 ((wr .i64 (r48.1 - 1)) + 3)) : Ag)] : List Ag).length) * 16 ≤ 140737488355328 then
  go_l1 r48.2.1 (wr .i64 ((wr .i64 (t_15 + t_12)) + (wr .i64 ((wr .i64 (r48.1 - 1)) + 3)))) t_10 (wr .i64 (t_11 + 1)) (t_13 ++ ([((wr .i64 (t_15 + t_12), wr .i64 ((wr .i64 (r48.1 - 1)) + 3)) : Ag)] : List Ag))
  else none
def Bw.l1 (K : Nat) (x0 : Aj) : Nat → Int → Int → Int → Int → (List Ag) → Option ((List Ag) × Int × Bool)
  | 0, _, _, _, _, _ => none
  | k + 1, t_14, t_15, t_10, t_11, t_13 =>
    if decide (t_11 < t_10) then
      (B8 K x0 t_14 2).bind fun r39 =>
      if (!r39.2.2) then
        some (([] : List Ag), 0, false)
      else
        (B8 K x0 r39.2.1 2).bind fun r48 =>
        if (!r48.2.2) then
          some (([] : List Ag), 0, false)
        else
          if (t_11 == 0) then
            (Db K (wr .i64 (r39.1 - 1))).bind fun r58 =>
            Bw.j2 K (Bw.l1 K x0 k) r48 t_10 t_11 t_13 t_15 x0 r58
          else
            Bw.j2 K (Bw.l1 K x0 k) r48 t_10 t_11 t_13 t_15 x0 r39.1
    else
      some (t_13, t_14, true)
def Bw (K : Nat) (x0 : Aj) (x1 : Int) (x2 : Int) : Option ((List Ag) × Int × Bool) :=
  (B8 K x0 x1 2).bind fun r20 =>
  if (!r20.2.2) then
    some (([] : List Ag), 0, false)
  else
    if decide (r20.1 > 16) then
      some (([] : List Ag), 0, false)
    else
      Bw.l1 K x0 K r20.2.1 x2 (wr .i64 (r20.1 - 1)) (0 : Int) ([] : List Ag)
abbrev Bv.sg : Sig := ⟨[(.agg, Cd), (.one, (.int .i64)), (.one, (.int .i64))], [], [(.one, (.sl (.int .i64))), (.one, (.int .i64)), (.one, .bool)], [.o]⟩
def Bv.j2 (K : Nat) (go_l1 : Int → Int → Int → Int → (List Int) → Option ((List Int) × Int × Bool)) (l_13 : List Int) (last_15 : Int) (r35 : Int × Int × Bool) (t_10 : Int) (t_11 : Int) (x0 : Aj) (n_12 : Int) : Option ((List Int) × Int × Bool) :=
  (Ds K (wr .i64 (last_15 + n_12))).bind fun r50 =>
  if (!r50) then
    some (([] : List Int), 0, false)
  else
    if (l_13.length + ([wr .i64 (last_15 + n_12)] : List Int).length) * 8 ≤ 140737488355328 then
    go_l1 r35.2.1 (wr .i64 (last_15 + n_12)) t_10 (wr .i64 (t_11 + 1)) (l_13 ++ ([wr .i64 (last_15 + n_12)] : List Int))
    else none
def Bv.l1 (K : Nat) (x0 : Aj) : Nat → Int → Int → Int → Int → (List Int) → Option ((List Int) × Int × Bool)
  | 0, _, _, _, _, _ => none
  | k + 1, next_14, last_15, t_10, t_11, l_13 =>
    if decide (t_11 < t_10) then
      (B8 K x0 next_14 2).bind fun r35 =>
      if (!r35.2.2) then
        some (([] : List Int), 0, false)
      else
        if (t_11 == 0) then
          (Db K (wr .i64 (r35.1 - 1))).bind fun r45 =>
          Bv.j2 K (Bv.l1 K x0 k) l_13 last_15 r35 t_10 t_11 x0 r45
        else
          Bv.j2 K (Bv.l1 K x0 k) l_13 last_15 r35 t_10 t_11 x0 r35.1
    else
      some (l_13, next_14, true)
def Bv (K : Nat) (x0 : Aj) (x1 : Int) (x2 : Int) : Option ((List Int) × Int × Bool) :=
  (B8 K x0 x1 2).bind fun r16 =>
  if (!r16.2.2) then
    some (([] : List Int), 0, false)
  else
    if decide (r16.1 > 17) then
      some (([] : List Int), 0, false)
    else
      Bv.l1 K x0 K r16.2.1 x2 (wr .i64 (r16.1 - 1)) (0 : Int) ([] : List Int)
abbrev Cc.sg : Sig := ⟨[(.one, (.sl (.int .i64)))], [], [(.one, (.sl (.int .i64)))], [.o]⟩
def Cc (K : Nat) (x0 : List Int) : Option (List Int) :=
  if (([] : List Int).length + x0.length) * 8 ≤ 140737488355328 then
  some (([] : List Int) ++ x0)
  else none
abbrev B7.sg : Sig := ⟨[(.one, (.sl Cl)), (.one, (.sl (.int .i64)))], [], [(.one, (.sl (.int .i64))), (.one, .bool)], [.o]⟩
def B7.l2 (K : Nat) (go_l1 : Int → Int → Int → (List Int) → Option ((List Int) × Bool)) (t_11 : Int) (t_12 : Int) (x0 : List Ag) (x1 : List Int) : Nat → Int → Int → (List Int) → Option ((List Int) × Bool)
  | 0, _, _, _ => none
  | k + 1, t_13, t_14, t_15 =>
    if decide (t_14 < t_13) then
      if (t_15.length + ([t_14] : List Int).length) * 8 ≤ 140737488355328 then
      B7.l2 K go_l1 t_11 t_12 x0 x1 k t_13 (wr .i64 (t_14 + 1)) (t_15 ++ ([t_14] : List Int))
      else none
    else
      go_l1 t_13 t_11 (wr .i64 (t_12 + 1)) t_15
def B7.l1 (K : Nat) (x0 : List Ag) (x1 : List Int) : Nat → Int → Int → Int → (List Int) → Option ((List Int) × Bool)
  | 0, _, _, _, _ => none
  | k + 1, t_10, t_11, t_12, t_16 =>
    if decide (t_12 < t_11) then
      if (0 : Int) ≤ t_12 ∧ t_12 < ((x0.length : Nat) : Int) then
      if decide (((nth x0 t_12).Len) < 3) then
        some (([] : List Int), false)
      else
        if decide (((nth x0 t_12).Len) > 16) then
          some (([] : List Int), false)
        else
          if decide (((nth x0 t_12).At) ≤ t_10) then
            some (([] : List Int), false)
          else
            (Ds K ((nth x0 t_12).At)).bind fun r36 =>
            if (!r36) then
              some (([] : List Int), false)
            else
              (Ds K (wr .i64 ((wr .i64 (((nth x0 t_12).At) + ((nth x0 t_12).Len))) - 1))).bind fun r46 =>
              if (!r46) then
                some (([] : List Int), false)
              else
                B7.l2 K (B7.l1 K x0 x1 k) t_11 t_12 x0 x1 K (wr .i64 (((nth x0 t_12).At) + ((nth x0 t_12).Len))) ((nth x0 t_12).At) t_16
      else none
    else
      if t_16.length < 4611686018427387904 then
      (C2 K x1).bind fun r70 =>
      if r70 then
        (C2 K (sortF t_16)).bind fun r73 =>
        some (sortF t_16, r73)
      else
        some (sortF t_16, false)
      else none
def B7 (K : Nat) (x0 : List Ag) (x1 : List Int) : Option ((List Int) × Bool) :=
  (Cc K x1).bind fun r12 =>
  B7.l1 K x0 x1 K ((-1) : Int) ((x0.length : Nat) : Int) (0 : Int) r12
abbrev Ao.sg : Sig := ⟨[(.one, (.sl Cl)), (.one, (.sl Cl))], [], [(.one, .bool)], []⟩
def Ao.l1 (K : Nat) (x0 : List Ag) (x1 : List Ag) : Nat → Int → Int → Option Bool
  | 0, _, _ => none
  | k + 1, t_10, t_11 =>
    if decide (t_11 < t_10) then
      if (0 : Int) ≤ t_11 ∧ t_11 < ((x0.length : Nat) : Int) then
      if (0 : Int) ≤ t_11 ∧ t_11 < ((x1.length : Nat) : Int) then
      if (!((((nth x0 t_11).At) == ((nth x1 t_11).At)) && ((((nth x0 t_11).Len) == ((nth x1 t_11).Len)) && true))) then
        some false
      else
        Ao.l1 K x0 x1 k t_10 (wr .i64 (t_11 + 1))
      else none
      else none
    else
      some true
def Ao (K : Nat) (x0 : List Ag) (x1 : List Ag) : Option Bool :=
  if (((x0.length : Nat) : Int) != ((x1.length : Nat) : Int)) then
    some false
  else
    Ao.l1 K x0 x1 K ((x0.length : Nat) : Int) (0 : Int)
abbrev A6.sg : Sig := ⟨[(.one, (.sl (.int .i64))), (.one, (.sl (.int .i64)))], [], [(.one, .bool)], []⟩
def A6.l1 (K : Nat) (x0 : List Int) (x1 : List Int) : Nat → Int → Int → Option Bool
  | 0, _, _ => none
  | k + 1, t_10, t_11 =>
    if decide (t_11 < t_10) then
      if (0 : Int) ≤ t_11 ∧ t_11 < ((x0.length : Nat) : Int) then
      if (0 : Int) ≤ t_11 ∧ t_11 < ((x1.length : Nat) : Int) then
      if ((nth x0 t_11) != (nth x1 t_11)) then
        some false
      else
        A6.l1 K x0 x1 k t_10 (wr .i64 (t_11 + 1))
      else none
      else none
    else
      some true
def A6 (K : Nat) (x0 : List Int) (x1 : List Int) : Option Bool :=
  if (((x0.length : Nat) : Int) != ((x1.length : Nat) : Int)) then
    some false
  else
    A6.l1 K x0 x1 K ((x0.length : Nat) : Int) (0 : Int)
abbrev Dv.sg : Sig := ⟨[(.agg, Cd), (.one, (.int .i64)), (.one, (.int .i64))], [], [(.one, (.sl (.int .i64))), (.one, (.int .i64)), (.one, .bool)], [.o]⟩
def Dv (K : Nat) (x0 : Aj) (x1 : Int) (x2 : Int) : Option ((List Int) × Int × Bool) :=
  (Bw K x0 x1 x2).bind fun r17 =>
  if (!r17.2.2) then
    some (([] : List Int), 0, false)
  else
    (Bv K x0 r17.2.1 x2).bind fun r27 =>
    if (!r27.2.2) then
      some (([] : List Int), 0, false)
    else
      (B7 K r17.1 r27.1).bind fun r36 =>
      if (!r36.2) then
        some (([] : List Int), 0, false)
      else
        (By K r36.1).bind fun r43 =>
        (Ao K r43.1 r17.1).bind fun r50 =>
        if r50 then
          (A6 K r43.2 r27.1).bind fun r54 =>
          some (r36.1, r27.2.1, r54)
        else
          some (r36.1, r27.2.1, false)
abbrev Bb.sg : Sig := ⟨[(.one, (.sl (.int .i64))), (.one, (.sl (.int .i64))), (.one, (.sl (.int .i64)))], [], [(.one, (.sl (.int .i64))), (.one, .bool)], [.o]⟩
def Bb.j3 (K : Nat) (x0 : List Int) (x1 : List Int) (x2 : List Int) (t_14 : List Int) : Option ((List Int) × Bool) :=
  if t_14.length < 4611686018427387904 then
  (C2 K (sortF t_14)).bind fun r51 =>
  if (!r51) then
    some (([] : List Int), false)
  else
    (Br K x0 (sortF t_14)).bind fun r56 =>
    (A6 K r56.1 x1).bind fun r62 =>
    if r62 then
      (A6 K r56.2 x2).bind fun r66 =>
      some (sortF t_14, r66)
    else
      some (sortF t_14, false)
  else none
def Bb.j2 (K : Nat) (go_l1 : (List Int) → Bool → Int → Int → (List Int) → Option ((List Int) × Bool)) (t_10 : Int) (t_11 : Int) (t_16 : List Int) (t_17 : Bool) (x0 : List Int) (x1 : List Int) (x2 : List Int) (t_13 : Int) (t_12 : List Int) : Option ((List Int) × Bool) :=
  if (0 : Int) ≤ t_13 ∧ t_13 ≤ ((t_16.length : Nat) : Int) ∧ ((t_16.length : Nat) : Int) ≤ ((t_16.length : Nat) : Int) then
  go_l1 (((t_16).drop t_13.toNat).take (((t_16.length : Nat) : Int).toNat - t_13.toNat)) (!t_17) t_10 (wr .i64 (t_11 + 1)) t_12
  else none
def Bb.l1 (K : Nat) (x0 : List Int) (x1 : List Int) (x2 : List Int) : Nat → (List Int) → Bool → Int → Int → (List Int) → Option ((List Int) × Bool)
  | 0, _, _, _, _, _ => none
  | k + 1, t_16, t_17, t_10, t_11, t_15 =>
    if decide (t_11 < t_10) then
      if (0 : Int) ≤ t_11 ∧ t_11 < ((x1.length : Nat) : Int) then
      if decide ((nth x1 t_11) < 0) then
        some (([] : List Int), false)
      else
        if decide ((nth x1 t_11) > ((t_16.length : Nat) : Int)) then
          some (([] : List Int), false)
        else
          if t_17 then
            if (0 : Int) ≤ (0 : Int) ∧ (0 : Int) ≤ (nth x1 t_11) ∧ (nth x1 t_11) ≤ ((t_16.length : Nat) : Int) then
            if (t_15.length + (((t_16).drop (0 : Int).toNat).take ((nth x1 t_11).toNat - (0 : Int).toNat)).length) * 8 ≤ 140737488355328 then
            Bb.j2 K (Bb.l1 K x0 x1 x2 k) t_10 t_11 t_16 t_17 x0 x1 x2 (nth x1 t_11) (t_15 ++ (((t_16).drop (0 : Int).toNat).take ((nth x1 t_11).toNat - (0 : Int).toNat)))
            else none
            else none
          else
            Bb.j2 K (Bb.l1 K x0 x1 x2 k) t_10 t_11 t_16 t_17 x0 x1 x2 (nth x1 t_11) t_15
      else none
    else
      if t_17 then
        if (t_15.length + t_16.length) * 8 ≤ 140737488355328 then
        Bb.j3 K x0 x1 x2 (t_15 ++ t_16)
        else none
      else
        Bb.j3 K x0 x1 x2 t_15
def Bb (K : Nat) (x0 : List Int) (x1 : List Int) (x2 : List Int) : Option ((List Int) × Bool) :=
  (Cc K x2).bind fun r16 =>
  Bb.l1 K x0 x1 x2 K x0 true ((x1.length : Nat) : Int) (0 : Int) r16
abbrev B9.sg : Sig := ⟨[(.agg, Cd), (.one, (.int .i64)), (.one, (.int .i64)), (.one, (.sl (.int .i64)))], [], [(.one, (.sl (.int .i64))), (.one, (.int .i64)), (.one, .bool)], [.o]⟩
def B9.l1 (K : Nat) (x0 : Aj) (x2 : Int) (x3 : List Int) : Nat → Int → Int → Int → (List Int) → Option ((List Int) × Int × Bool)
  | 0, _, _, _, _ => none
  | k + 1, t_12, t_10, t_11, t_13 =>
    if decide (t_11 < t_10) then
      (B8 K x0 t_12 2).bind fun r37 =>
      if (!r37.2.2) then
        some (([] : List Int), 0, false)
      else
        if (t_11 == 0) then
          if (t_13.length + ([wr .i64 (r37.1 - 1)] : List Int).length) * 8 ≤ 140737488355328 then
          B9.l1 K x0 x2 x3 k r37.2.1 t_10 (wr .i64 (t_11 + 1)) (t_13 ++ ([wr .i64 (r37.1 - 1)] : List Int))
          else none
        else
          if (t_13.length + ([r37.1] : List Int).length) * 8 ≤ 140737488355328 then
          B9.l1 K x0 x2 x3 k r37.2.1 t_10 (wr .i64 (t_11 + 1)) (t_13 ++ ([r37.1] : List Int))
          else none
    else
      (Dv K x0 t_12 x2).bind fun r56 =>
      if (!r56.2.2) then
        some (([] : List Int), 0, false)
      else
        (Bb K x3 t_13 r56.1).bind fun r66 =>
        some (r66.1, r56.2.1, r66.2)
def B9 (K : Nat) (x0 : Aj) (x1 : Int) (x2 : Int) (x3 : List Int) : Option ((List Int) × Int × Bool) :=
  (B8 K x0 x1 2).bind fun r19 =>
  if (!r19.2.2) then
    some (([] : List Int), 0, false)
  else
    if decide (r19.1 > 17) then
      some (([] : List Int), 0, false)
    else
      B9.l1 K x0 x2 x3 K r19.2.1 (wr .i64 (r19.1 - 1)) (0 : Int) ([] : List Int)
abbrev Dk.sg : Sig := ⟨[(.one, (.int .i64)), (.one, (.int .i64)), (.box, Cd), (.box, Bc)], [], [(.one, (.sl (.int .i64))), (.one, (.int .i64)), (.one, .bool)], [.o]⟩
def Dk (K : Nat) (x0 : Int) (x1 : Int) (x2 : Aj) (x3 : Ab) : Option ((List Int) × Int × Bool × Aj × Ab) :=
  (Dm K x3 x1).bind fun r14 =>
  (B9 K x2 x0 x1 r14).bind fun r15 =>
  some (r15.1, r15.2.1, r15.2.2, x2, x3)
abbrev Dl.sg : Sig := ⟨[(.one, (.int .i64))], [], [(.agg, Bc)], [.s, .o]⟩
def Dl (K : Nat) (x0 : Int) : Option Ab :=
  if x0 = x0 ∧ (0 : Int) ≤ x0 ∧ (24 : Int) * x0 ≤ 281474976710656 ∧ x0 ≤ 9223372036854775807 then
  some ((x0, List.replicate x0.toNat ([] : List Int)) : Ab)
  else none
abbrev Ax.sg : Sig := ⟨[(.one, (.int .i64)), (.one, (.int .i64)), (.one, (.int .i64)), (.fn 159 2, .un), (.hid, Cd), (.hid, Bc)], [], [(.agg, Bc), (.one, (.int .i64)), (.one, .bool)], [.s, .o]⟩
def Ax.l1 (K : Nat) (r17 : Ab) (x1 : Int) : Nat → Int → Int → ByteArray → Int → Int → (List (List Int)) → Int → (List (List Int)) → Option (Ab × Int × Bool × Aj × Ab)
  | 0, _, _, _, _, _, _, _, _ => none
  | k + 1, at_16, t_11, h_12, h_13, h_14, h_15, t_10, g_17 =>
    if decide (t_11 < x1) then
      (Dk K at_16 t_11 ((h_12, h_13) : Aj) ((h_14, h_15) : Ab)).bind fun r26 =>
      if (!r26.2.2.1) then
        some (((0, ([] : List (List Int))) : Ab), 0, false, r26.2.2.2.1, r26.2.2.2.2)
      else
        if (0 : Int) ≤ t_11 ∧ t_11 < ((g_17.length : Nat) : Int) then
        Ax.l1 K r17 x1 k r26.2.1 (wr .i64 (t_11 + 1)) r26.2.2.2.1.Data r26.2.2.2.1.N r26.2.2.2.2.N r26.2.2.2.2.Out t_10 ((g_17).set t_11.toNat r26.1)
        else none
    else
      (Cf K ((r17.N, g_17) : Ab)).bind fun r43 =>
      some (((r17.N, g_17) : Ab), at_16, r43, ((h_12, h_13) : Aj), ((h_14, h_15) : Ab))
def Ax (K : Nat) (x0 : Int) (x1 : Int) (x2 : Int) (x4 : Aj) (x5 : Ab) : Option (Ab × Int × Bool × Aj × Ab) :=
  (Dl K x0).bind fun r17 =>
  Ax.l1 K r17 x1 K x2 (0 : Int) x4.Data x4.N x5.N x5.Out (0 : Int) r17.Out
abbrev Dw.sg : Sig := ⟨[(.agg, Bc), (.agg, Cd)], [], [(.agg, Bc), (.one, .bool)], [.s, .o]⟩
def Dw (K : Nat) (x0 : Ab) (x1 : Aj) : Option (Ab × Bool) :=
  (Dr K x1).bind fun r13 =>
  if (!r13.2.2) then
    some (((0, ([] : List (List Int))) : Ab), false)
  else
    (Ax K r13.1 r13.1 r13.2.1 x1 x0).bind fun r25 =>
    if r25.2.2.1 then
      some (r25.1, (r25.2.1 == r25.2.2.2.1.N))
    else
      some (r25.1, false)
abbrev De.sg : Sig := ⟨[(.agg, Bc), (.agg, Cd)], [], [(.agg, Bc), (.one, (.int .i64))], [.s, .o]⟩
def De (K : Nat) (x0 : Ab) (x1 : Aj) : Option (Ab × Int) :=
  (Cf K x0).bind fun r9 =>
  if (!r9) then
    some (((0, ([] : List (List Int))) : Ab), 1)
  else
    (Dp K x1).bind fun r13 =>
    if (!r13) then
      some (((0, ([] : List (List Int))) : Ab), 1)
    else
      (Dw K x0 x1).bind fun r20 =>
      if (!r20.2) then
        some (((0, ([] : List (List Int))) : Ab), 9)
      else
        some (r20.1, 0)
abbrev C8.sg : Sig := ⟨[(.agg, Cd), (.one, (.int .i64))], [], [(.one, (.int .i64))], []⟩
def C8 (K : Nat) (x0 : Aj) (x1 : Int) : Option Int :=
  if (8 : Int) ≠ 0 then
  if (0 : Int) ≤ (wr .i64 (x1.tdiv 8)) ∧ (wr .i64 (x1.tdiv 8)) < ((x0.Data.size : Nat) : Int) then
  if (8 : Int) ≠ 0 then
  if (0 : Int) ≤ (wr .i64 (7 - (x1.tmod 8))) then
  some (ib .and .i64 ((wr .i64 (bt x0.Data (wr .i64 (x1.tdiv 8)))).fdiv (2 ^ min ((wr .i64 (7 - (x1.tmod 8)))).toNat 64)) 1)
  else none
  else none
  else none
  else none
abbrev Bz.sg : Sig := ⟨[(.agg, Cd)], [], [(.one, (.sl (.int .u8)))], [.o]⟩
def Bz.l1 (K : Nat) (x0 : Aj) : Nat → Int → (List Int) → Option (List Int)
  | 0, _, _ => none
  | k + 1, i_10, l_11 =>
    if decide (i_10 < x0.N) then
      (C8 K x0 i_10).bind fun r14 =>
      if (l_11.length + ([wr .u8 r14] : List Int).length) * 1 ≤ 140737488355328 then
      Bz.l1 K x0 k (wr .i64 (i_10 + 1)) (l_11 ++ ([wr .u8 r14] : List Int))
      else none
    else
      some l_11
def Bz (K : Nat) (x0 : Aj) : Option (List Int) :=
  Bz.l1 K x0 K (0 : Int) ([] : List Int)
abbrev Aw.sg : Sig := ⟨[(.one, (.sl (.int .u8))), (.one, (.int .i64))], [], [(.one, (.int .i64))], []⟩
def Aw.l1 (K : Nat) (x0 : List Int) (x1 : Int) : Nat → Int → Option Int
  | 0, _ => none
  | k + 1, i_10 =>
    if decide (i_10 < ((x0.length : Nat) : Int)) then
      if (0 : Int) ≤ i_10 ∧ i_10 < ((x0.length : Nat) : Int) then
      if ((nth x0 i_10) == 1) then
        some (wr .i64 (i_10 - x1))
      else
        Aw.l1 K x0 x1 k (wr .i64 (i_10 + 1))
      else none
    else
      some ((-1) : Int)
def Aw (K : Nat) (x0 : List Int) (x1 : Int) : Option Int :=
  Aw.l1 K x0 x1 K x1
abbrev A0.sg : Sig := ⟨[(.one, (.sl (.int .u8))), (.one, (.int .i64)), (.one, (.int .i64))], [], [(.one, (.int .i64))], []⟩
def A0.l1 (K : Nat) (x0 : List Int) (x1 : Int) (x2 : Int) : Nat → Int → Int → Option Int
  | 0, _, _ => none
  | k + 1, v_10, i_11 =>
    if decide (i_11 < (wr .i64 (x1 + x2))) then
      if (0 : Int) ≤ i_11 ∧ i_11 < ((x0.length : Nat) : Int) then
      A0.l1 K x0 x1 x2 k (wr .i64 ((wr .i64 (2 * v_10)) + (wr .i64 (nth x0 i_11)))) (wr .i64 (i_11 + 1))
      else none
    else
      some v_10
def A0 (K : Nat) (x0 : List Int) (x1 : Int) (x2 : Int) : Option Int :=
  A0.l1 K x0 x1 x2 K (0 : Int) x1
abbrev Ck.sg : Sig := ⟨[(.one, (.int .i64)), (.one, (.int .i64)), (.one, (.int .i64))], [], [(.one, .bool)], []⟩
def Ck (K : Nat) (x0 : Int) (x1 : Int) (x2 : Int) : Option Bool :=
  if decide (x0 ≥ x1) then
    some (decide (x0 ≤ x2))
  else
    some false
abbrev C4.sg : Sig := ⟨[(.one, (.int .i64)), (.one, (.int .i64))], [], [(.one, .bool)], []⟩
def C4 (K : Nat) (x0 : Int) (x1 : Int) : Option Bool :=
  if (x0 == 1) then
    (Ck K x1 1 1000).bind fun r8 =>
    some r8
  else
    (Ck K x0 2 5).bind fun r10 =>
    if r10 then
      (Ck K x1 1 1073741824).bind fun r13 =>
      some r13
    else
      some false
abbrev Ad.sg : Sig := ⟨[(.one, (.sl (.int .u8))), (.one, (.int .i64)), (.one, (.int .i64))], [], [(.one, (.int .i64)), (.one, (.int .i64))], []⟩
def Ad.j1 (K : Nat) (rec_ : (List Int) → Int → Int → Option (Int × Int)) (x2 : Int) (t_14 : Int) (t_15 : Int) : Option (Int × Int) :=
  (C4 K x2 t_14).bind fun r161 =>
  if (!r161) then
    some ((-1), 0)
  else
    some (t_14, t_15)
def Ad.j3 (K : Nat) (rec_ : (List Int) → Int → Int → Option (Int × Int)) (r19 : Int) (t_11 : Int) (x2 : Int) (t_12 : Int) (t_13 : Int) : Option (Int × Int) :=
  if (0 : Int) ≤ (wr .i64 (r19 * t_11)) then
  Ad.j1 K rec_ x2 (wr .i64 ((wr .i64 ((1 : Int) * 2 ^ min ((wr .i64 (r19 * t_11))).toNat 64)) + t_13)) t_12
  else none
def Ad.j2 (K : Nat) (rec_ : (List Int) → Int → Int → Option (Int × Int)) (r19 : Int) (x0 : List Int) (x2 : Int) (t_10 : Int) (t_11 : Int) : Option (Int × Int) :=
  if decide (r19 > 15) then
    some ((-1), 0)
  else
    if (0 : Int) ≤ (wr .i64 ((wr .i64 (r19 + 1)) * t_11)) then
    if (0 : Int) ≤ (wr .i64 (r19 * t_11)) then
    (Au K (wr .i64 ((wr .i64 ((wr .i64 ((1 : Int) * 2 ^ min ((wr .i64 ((wr .i64 (r19 + 1)) * t_11))).toNat 64)) - (wr .i64 ((1 : Int) * 2 ^ min ((wr .i64 (r19 * t_11))).toNat 64)))) - 1))).bind fun r43 =>
    if decide ((wr .i64 ((wr .i64 (t_10 + (wr .i64 (r43 + 1)))) - 1)) > ((x0.length : Nat) : Int)) then
      some ((-1), 0)
    else
      (A0 K x0 t_10 (wr .i64 ((wr .i64 (r43 + 1)) - 1))).bind fun r56 =>
      if (0 : Int) ≤ (wr .i64 (r43 + 1)) then
      if decide (r56 ≥ (wr .i64 ((wr .i64 ((1 : Int) * 2 ^ min ((wr .i64 (r43 + 1))).toNat 64)) - (wr .i64 ((wr .i64 ((1 : Int) * 2 ^ min ((wr .i64 ((wr .i64 (r19 + 1)) * t_11))).toNat 64)) - (wr .i64 ((1 : Int) * 2 ^ min ((wr .i64 (r19 * t_11))).toNat 64))))))) then
        if decide ((wr .i64 ((wr .i64 ((wr .i64 (t_10 + (wr .i64 (r43 + 1)))) - 1)) + 1)) > ((x0.length : Nat) : Int)) then
          some ((-1), 0)
        else
          if (0 : Int) ≤ (wr .i64 ((wr .i64 (t_10 + (wr .i64 (r43 + 1)))) - 1)) ∧ (wr .i64 ((wr .i64 (t_10 + (wr .i64 (r43 + 1)))) - 1)) < ((x0.length : Nat) : Int) then
          if (0 : Int) ≤ (wr .i64 (r43 + 1)) then
          Ad.j3 K rec_ r19 t_11 x2 (wr .i64 ((wr .i64 ((wr .i64 (t_10 + (wr .i64 (r43 + 1)))) - 1)) + 1)) (wr .i64 ((wr .i64 ((wr .i64 (2 * r56)) + (wr .i64 (nth x0 (wr .i64 ((wr .i64 (t_10 + (wr .i64 (r43 + 1)))) - 1)))))) - (wr .i64 ((wr .i64 ((1 : Int) * 2 ^ min ((wr .i64 (r43 + 1))).toNat 64)) - (wr .i64 ((wr .i64 ((1 : Int) * 2 ^ min ((wr .i64 ((wr .i64 (r19 + 1)) * t_11))).toNat 64)) - (wr .i64 ((1 : Int) * 2 ^ min ((wr .i64 (r19 * t_11))).toNat 64))))))))
          else none
          else none
      else
        Ad.j3 K rec_ r19 t_11 x2 (wr .i64 ((wr .i64 (t_10 + (wr .i64 (r43 + 1)))) - 1)) r56
      else none
    else none
    else none
def Ad : Nat → (List Int) → Int → Int → Option (Int × Int)
  | 0, _, _, _ => none
  | K + 1, x0, x1, x2 =>
    (Aw K x0 x1).bind fun r19 =>
    if decide (r19 < 0) then
      some ((-1), 0)
    else
      if (x2 == 1) then
        Ad.j1 K (Ad K) x2 (wr .i64 (r19 + 1)) (wr .i64 ((wr .i64 (x1 + r19)) + 1))
      else
        if (x2 == 2) then
          if decide (r19 > 30) then
            some ((-1), 0)
          else
            if decide ((wr .i64 ((wr .i64 (x1 + (wr .i64 (2 * r19)))) + 1)) > ((x0.length : Nat) : Int)) then
              some ((-1), 0)
            else
              (A0 K x0 (wr .i64 (x1 + r19)) (wr .i64 (r19 + 1))).bind fun r117 =>
              Ad.j1 K (Ad K) x2 r117 (wr .i64 ((wr .i64 (x1 + (wr .i64 (2 * r19)))) + 1))
        else
          if (x2 == 3) then
            ((Ad K) x0 x1 2).bind fun r128 =>
            if decide (r128.1 < 1) then
              some ((-1), 0)
            else
              if decide (r128.1 > 31) then
                some ((-1), 0)
              else
                if decide ((wr .i64 ((wr .i64 (r128.2 + r128.1)) - 1)) > ((x0.length : Nat) : Int)) then
                  some ((-1), 0)
                else
                  if (0 : Int) ≤ (wr .i64 (r128.1 - 1)) then
                  (A0 K x0 r128.2 (wr .i64 (r128.1 - 1))).bind fun r153 =>
                  Ad.j1 K (Ad K) x2 (wr .i64 ((wr .i64 ((1 : Int) * 2 ^ min ((wr .i64 (r128.1 - 1))).toNat 64)) + r153)) (wr .i64 ((wr .i64 (r128.2 + r128.1)) - 1))
                  else none
          else
            if (x2 == 5) then
              Ad.j2 K (Ad K) r19 x0 x2 (wr .i64 ((wr .i64 (x1 + r19)) + 1)) (3 : Int)
            else
              Ad.j2 K (Ad K) r19 x0 x2 (wr .i64 ((wr .i64 (x1 + r19)) + 1)) (2 : Int)
abbrev C3.sg : Sig := ⟨[(.one, (.int .i64))], [], [(.agg, Bc)], [.s, .o]⟩
def C3 (K : Nat) (x0 : Int) : Option Ab :=
  if x0 = x0 ∧ (0 : Int) ≤ x0 ∧ (24 : Int) * x0 ≤ 281474976710656 ∧ x0 ≤ 9223372036854775807 then
  some ((x0, List.replicate x0.toNat ([] : List Int)) : Ab)
  else none
abbrev Co.sg : Sig := ⟨[(.one, (.int .i64))], [], [(.one, (.int .i64))], []⟩
def Co (K : Nat) (x0 : Int) : Option Int :=
  if (2 : Int) ≠ 0 then
  if ((x0.tmod 2) == 0) then
    if (2 : Int) ≠ 0 then
    some (wr .i64 (x0.tdiv 2))
    else none
  else
    if (2 : Int) ≠ 0 then
    some (wr .i64 ((wr .i64 (0 - (wr .i64 (x0 + 1)))).tdiv 2))
    else none
  else none
abbrev A8.sg : Sig := ⟨[(.one, (.sl (.int .u8))), (.one, (.int .i64)), (.one, (.int .i64))], [], [(.one, (.sl (.int .i64))), (.one, (.int .i64)), (.one, .bool)], [.o]⟩
def A8.l1 (K : Nat) (r18 : Int × Int) (x0 : List Int) (x2 : Int) : Nat → Int → Int → Int → (List Int) → Option ((List Int) × Int × Bool)
  | 0, _, _, _, _ => none
  | k + 1, at_12, last_10, i_11, l_13 =>
    if decide (i_11 < (wr .i64 (r18.1 - 1))) then
      (Ad K x0 at_12 2).bind fun r37 =>
      if decide (r37.1 < 1) then
        some (([] : List Int), 0, false)
      else
        if (i_11 == 0) then
          (Co K (wr .i64 (r37.1 - 1))).bind fun r48 =>
          if (l_13.length + ([wr .i64 (x2 + r48)] : List Int).length) * 8 ≤ 140737488355328 then
          A8.l1 K r18 x0 x2 k r37.2 (wr .i64 (x2 + r48)) (wr .i64 (i_11 + 1)) (l_13 ++ ([wr .i64 (x2 + r48)] : List Int))
          else none
        else
          if (l_13.length + ([wr .i64 (last_10 + r37.1)] : List Int).length) * 8 ≤ 140737488355328 then
          A8.l1 K r18 x0 x2 k r37.2 (wr .i64 (last_10 + r37.1)) (wr .i64 (i_11 + 1)) (l_13 ++ ([wr .i64 (last_10 + r37.1)] : List Int))
          else none
    else
      (Bf K l_13).bind fun r58 =>
      if (!r58) then
        some (([] : List Int), 0, false)
      else
        some (l_13, at_12, true)
def A8 (K : Nat) (x0 : List Int) (x1 : Int) (x2 : Int) : Option ((List Int) × Int × Bool) :=
  (Ad K x0 x1 2).bind fun r18 =>
  if decide (r18.1 < 1) then
    some (([] : List Int), 0, false)
  else
    if decide ((wr .i64 (r18.1 - 1)) > 16) then
      some (([] : List Int), 0, false)
    else
      A8.l1 K r18 x0 x2 K r18.2 (0 : Int) (0 : Int) ([] : List Int)
abbrev Af.sg : Sig := ⟨[(.one, (.sl Cl)), (.one, (.sl (.int .i64)))], [], [(.one, (.sl (.int .i64))), (.one, .bool)], [.o]⟩
def Af.l4 (K : Nat) : Nat → Int → (List Bool) → (List Int) → Option ((List Int) × Bool)
  | 0, _, _, _ => none
  | k + 1, t_16, t_20, t_19 =>
    if decide (t_16 < 16) then
      if ((0 : Int) ≤ t_16 ∧ t_16 < ((t_20.length : Nat) : Int)) ∧ t_20.length = 16 then
      if nth t_20 t_16 then
        if (t_19.length + ([t_16] : List Int).length) * 8 ≤ 140737488355328 then
        Af.l4 K k (wr .i64 (t_16 + 1)) t_20 (t_19 ++ ([t_16] : List Int))
        else none
      else
        Af.l4 K k (wr .i64 (t_16 + 1)) t_20 t_19
      else none
    else
      some (t_19, true)
def Af.l3 (K : Nat) (x1 : List Int) : Nat → Int → (List Bool) → Option ((List Int) × Bool)
  | 0, _, _ => none
  | k + 1, t_15, t_18 =>
    if decide (t_15 < ((x1.length : Nat) : Int)) then
      if (0 : Int) ≤ t_15 ∧ t_15 < ((x1.length : Nat) : Int) then
      if ((0 : Int) ≤ (nth x1 t_15) ∧ (nth x1 t_15) < ((t_18.length : Nat) : Int)) ∧ t_18.length = 16 then
      if nth t_18 (nth x1 t_15) then
        some (([] : List Int), false)
      else
        if (0 : Int) ≤ t_15 ∧ t_15 < ((x1.length : Nat) : Int) then
        if ((0 : Int) ≤ (nth x1 t_15) ∧ (nth x1 t_15) < ((t_18.length : Nat) : Int)) ∧ t_18.length = 16 then
        Af.l3 K x1 k (wr .i64 (t_15 + 1)) ((t_18).set (nth x1 t_15).toNat true)
        else none
        else none
      else none
      else none
    else
      Af.l4 K K (0 : Int) t_18 ([] : List Int)
def Af.l2 (K : Nat) (go_l1 : Int → (List Bool) → Option ((List Int) × Bool)) (t_11 : Int) (x0 : List Ag) (x1 : List Int) : Nat → Int → (List Bool) → Int → Int → Option ((List Int) × Bool)
  | 0, _, _, _, _ => none
  | k + 1, t_14, t_17, t_12, t_13 =>
    if decide (t_14 < t_13) then
      if ((0 : Int) ≤ (wr .i64 (t_12 + t_14)) ∧ (wr .i64 (t_12 + t_14)) < ((t_17.length : Nat) : Int)) ∧ t_17.length = 16 then
      Af.l2 K go_l1 t_11 x0 x1 k (wr .i64 (t_14 + 1)) ((t_17).set (wr .i64 (t_12 + t_14)).toNat true) t_12 t_13
      else none
    else
      go_l1 (wr .i64 (t_11 + 1)) t_17
def Af.l1 (K : Nat) (x0 : List Ag) (x1 : List Int) : Nat → Int → (List Bool) → Option ((List Int) × Bool)
  | 0, _, _ => none
  | k + 1, t_11, t_10 =>
    if decide (t_11 < ((x0.length : Nat) : Int)) then
      if (0 : Int) ≤ t_11 ∧ t_11 < ((x0.length : Nat) : Int) then
      (Ci K ((nth x0 t_11).At)).bind fun r28 =>
      if (!r28) then
        some (([] : List Int), false)
      else
        if decide (((nth x0 t_11).Len) < 3) then
          some (([] : List Int), false)
        else
          if decide (((nth x0 t_11).Len) > (wr .i64 (16 - ((nth x0 t_11).At)))) then
            some (([] : List Int), false)
          else
            if decide (t_11 > 0) then
              if (0 : Int) ≤ (wr .i64 (t_11 - 1)) ∧ (wr .i64 (t_11 - 1)) < ((x0.length : Nat) : Int) then
              if (0 : Int) ≤ (wr .i64 (t_11 - 1)) ∧ (wr .i64 (t_11 - 1)) < ((x0.length : Nat) : Int) then
              if decide (((nth x0 t_11).At) ≤ (wr .i64 (((nth x0 (wr .i64 (t_11 - 1))).At) + ((nth x0 (wr .i64 (t_11 - 1))).Len)))) then
                some (([] : List Int), false)
              else
                Af.l2 K (Af.l1 K x0 x1 k) t_11 x0 x1 K (0 : Int) t_10 ((nth x0 t_11).At) ((nth x0 t_11).Len)
              else none
              else none
            else
              Af.l2 K (Af.l1 K x0 x1 k) t_11 x0 x1 K (0 : Int) t_10 ((nth x0 t_11).At) ((nth x0 t_11).Len)
      else none
    else
      Af.l3 K x1 K (0 : Int) t_10
def Af (K : Nat) (x0 : List Ag) (x1 : List Int) : Option ((List Int) × Bool) :=
  (Bf K x1).bind fun r14 =>
  if (!r14) then
    some (([] : List Int), false)
  else
    Af.l1 K x0 x1 K (0 : Int) (List.replicate 16 false)
abbrev Bs.sg : Sig := ⟨[(.one, (.sl (.int .u8))), (.one, (.int .i64)), (.one, (.sl (.int .u8)))], [], [(.one, .bool)], []⟩
def Bs.l1 (K : Nat) (x0 : List Int) (x1 : Int) (x2 : List Int) : Nat → Int → Option Bool
  | 0, _ => none
  | k + 1, i_10 =>
    if decide (i_10 < ((x2.length : Nat) : Int)) then
      if decide ((wr .i64 (x1 + i_10)) ≥ ((x0.length : Nat) : Int)) then
        some false
      else
        if (0 : Int) ≤ (wr .i64 (x1 + i_10)) ∧ (wr .i64 (x1 + i_10)) < ((x0.length : Nat) : Int) then
        if (0 : Int) ≤ i_10 ∧ i_10 < ((x2.length : Nat) : Int) then
        if ((nth x0 (wr .i64 (x1 + i_10))) != (nth x2 i_10)) then
          some false
        else
          Bs.l1 K x0 x1 x2 k (wr .i64 (i_10 + 1))
        else none
        else none
    else
      some true
def Bs (K : Nat) (x0 : List Int) (x1 : Int) (x2 : List Int) : Option Bool :=
  Bs.l1 K x0 x1 x2 K (0 : Int)
abbrev Al.sg : Sig := ⟨[(.one, (.sl (.int .u8))), (.one, (.int .i64)), (.one, (.sl (.int .i64)))], [.n], [(.one, (.sl (.int .u8)))], [.o]⟩
def Al.j2 (K : Nat) (go_l1 : Int → (List Int) → Option (List Int)) (r12 : (List Ag) × (List Int)) (t_10 : Int) (x1 : Int) (t_11 : List Int) : Option (List Int) :=
  if (0 : Int) ≤ t_10 ∧ t_10 < ((r12.1.length : Nat) : Int) then
  (Ae K t_11 2 (wr .i64 ((wr .i64 (((nth r12.1 t_10).Len) - 3)) + 1))).bind fun r67 =>
  go_l1 (wr .i64 (t_10 + 1)) r67
  else none
def Al.l1 (K : Nat) (r12 : (List Ag) × (List Int)) (x1 : Int) : Nat → Int → (List Int) → Option (List Int)
  | 0, _, _ => none
  | k + 1, t_10, t_12 =>
    if decide (t_10 < ((r12.1.length : Nat) : Int)) then
      if (t_10 == 0) then
        if (0 : Int) ≤ (0 : Int) ∧ (0 : Int) < ((r12.1.length : Nat) : Int) then
        (Cn K (wr .i64 (((nth r12.1 0).At) - x1))).bind fun r35 =>
        (Ae K t_12 2 (wr .i64 (r35 + 1))).bind fun r37 =>
        Al.j2 K (Al.l1 K r12 x1 k) r12 t_10 x1 r37
        else none
      else
        if (0 : Int) ≤ t_10 ∧ t_10 < ((r12.1.length : Nat) : Int) then
        if (0 : Int) ≤ (wr .i64 (t_10 - 1)) ∧ (wr .i64 (t_10 - 1)) < ((r12.1.length : Nat) : Int) then
        if (0 : Int) ≤ (wr .i64 (t_10 - 1)) ∧ (wr .i64 (t_10 - 1)) < ((r12.1.length : Nat) : Int) then
        (Ae K t_12 2 (wr .i64 ((wr .i64 (((nth r12.1 t_10).At) - ((nth r12.1 (wr .i64 (t_10 - 1))).At))) - ((nth r12.1 (wr .i64 (t_10 - 1))).Len)))).bind fun r58 =>
        Al.j2 K (Al.l1 K r12 x1 k) r12 t_10 x1 r58
        else none
        else none
        else none
    else
      (Bh K t_12 x1 r12.2).bind fun r71 =>
      some r71
def Al (K : Nat) (x0 : List Int) (x1 : Int) (x2 : List Int) : Option (List Int) :=
  (Ap K x2).bind fun r12 =>
  (Ae K ([] : List Int) 2 (wr .i64 (((r12.1.length : Nat) : Int) + 1))).bind fun r19 =>
  Al.l1 K r12 x1 K (0 : Int) r19
abbrev Ak.sg : Sig := ⟨[(.one, (.sl (.int .u8))), (.one, (.int .i64)), (.one, (.int .i64))], [], [(.one, (.sl (.int .i64))), (.one, (.int .i64)), (.one, .bool)], [.o]⟩
def Ak.j2 (K : Nat) (go_l1 : Int → Int → Int → (List Ag) → Option ((List Int) × Int × Bool)) (r28 : Int × Int) (r55 : Int × Int) (t_11 : Int) (t_15 : List Ag) (x0 : List Int) (x1 : Int) (x2 : Int) (t_12 : Int) (t_13 : Int) : Option ((List Int) × Int × Bool) :=
  if (t_15.length + ([((t_12, t_13) : Ag)] : List Ag).length) * 16 ≤ 140737488355328 then
  go_l1 r55.2 (wr .i64 (t_12 + t_13)) (wr .i64 (t_11 + 1)) (t_15 ++ ([((t_12, t_13) : Ag)] : List Ag))
  else none
def Ak.l1 (K : Nat) (r28 : Int × Int) (x0 : List Int) (x1 : Int) (x2 : Int) : Nat → Int → Int → Int → (List Ag) → Option ((List Int) × Int × Bool)
  | 0, _, _, _, _ => none
  | k + 1, t_14, t_10, t_11, t_15 =>
    if decide (t_11 < (wr .i64 (r28.1 - 1))) then
      (Ad K x0 t_14 2).bind fun r47 =>
      if decide (r47.1 < 1) then
        some (([] : List Int), 0, false)
      else
        (Ad K x0 r47.2 2).bind fun r55 =>
        if decide (r55.1 < 1) then
          some (([] : List Int), 0, false)
        else
          if decide (r55.1 > 16) then
            some (([] : List Int), 0, false)
          else
            if (t_11 == 0) then
              (Co K (wr .i64 (r47.1 - 1))).bind fun r77 =>
              Ak.j2 K (Ak.l1 K r28 x0 x1 x2 k) r28 r55 t_11 t_15 x0 x1 x2 (wr .i64 (x2 + r77)) (wr .i64 ((wr .i64 (r55.1 - 1)) + 3))
            else
              Ak.j2 K (Ak.l1 K r28 x0 x1 x2 k) r28 r55 t_11 t_15 x0 x1 x2 (wr .i64 (t_10 + r47.1)) (wr .i64 ((wr .i64 (r55.1 - 1)) + 3))
    else
      (A8 K x0 t_14 x2).bind fun r93 =>
      if (!r93.2.2) then
        some (([] : List Int), 0, false)
      else
        (Af K t_15 r93.1).bind fun r102 =>
        if (!r102.2) then
          some (([] : List Int), 0, false)
        else
          if decide (((r102.1.length : Nat) : Int) > 16) then
            some (([] : List Int), 0, false)
          else
            (Al K ([] : List Int) x2 r102.1).bind fun r114 =>
            if (((r114.length : Nat) : Int) != (wr .i64 (r93.2.1 - x1))) then
              some (([] : List Int), 0, false)
            else
              (Bs K x0 x1 r114).bind fun r125 =>
              if (!r125) then
                some (([] : List Int), 0, false)
              else
                some (r102.1, r93.2.1, true)
def Ak (K : Nat) (x0 : List Int) (x1 : Int) (x2 : Int) : Option ((List Int) × Int × Bool) :=
  (Ad K x0 x1 2).bind fun r28 =>
  if decide (r28.1 < 1) then
    some (([] : List Int), 0, false)
  else
    if decide ((wr .i64 (r28.1 - 1)) > 16) then
      some (([] : List Int), 0, false)
    else
      Ak.l1 K r28 x0 x1 x2 K r28.2 (0 : Int) (0 : Int) ([] : List Ag)
abbrev Ac.sg : Sig := ⟨[(.one, (.sl (.int .i64))), (.one, (.sl (.int .i64))), (.one, (.sl (.int .i64)))], [], [(.one, (.sl (.int .i64))), (.one, .bool)], [.o]⟩
def Ac.l5 (K : Nat) (x0 : List Int) (x1 : List Int) (x2 : List Int) : Nat → Int → (List Bool) → (List Int) → Option ((List Int) × Bool)
  | 0, _, _, _ => none
  | k + 1, t_16, t_20, t_19 =>
    if decide (t_16 < 16) then
      if ((0 : Int) ≤ t_16 ∧ t_16 < ((t_20.length : Nat) : Int)) ∧ t_20.length = 16 then
      if nth t_20 t_16 then
        if (t_19.length + ([t_16] : List Int).length) * 8 ≤ 140737488355328 then
        Ac.l5 K x0 x1 x2 k (wr .i64 (t_16 + 1)) t_20 (t_19 ++ ([t_16] : List Int))
        else none
      else
        Ac.l5 K x0 x1 x2 k (wr .i64 (t_16 + 1)) t_20 t_19
      else none
    else
      (Am K x0 t_19).bind fun r104 =>
      (A5 K r104.1 x1).bind fun r110 =>
      if r110 then
        (A5 K r104.2 x2).bind fun r114 =>
        some (t_19, r114)
      else
        some (t_19, false)
def Ac.l4 (K : Nat) (x0 : List Int) (x1 : List Int) (x2 : List Int) : Nat → Int → (List Bool) → Option ((List Int) × Bool)
  | 0, _, _ => none
  | k + 1, t_15, t_18 =>
    if decide (t_15 < ((x2.length : Nat) : Int)) then
      if (0 : Int) ≤ t_15 ∧ t_15 < ((x2.length : Nat) : Int) then
      if ((0 : Int) ≤ (nth x2 t_15) ∧ (nth x2 t_15) < ((t_18.length : Nat) : Int)) ∧ t_18.length = 16 then
      Ac.l4 K x0 x1 x2 k (wr .i64 (t_15 + 1)) ((t_18).set (nth x2 t_15).toNat true)
      else none
      else none
    else
      Ac.l5 K x0 x1 x2 K (0 : Int) t_18 ([] : List Int)
def Ac.l3 (K : Nat) (go_l1 : Int → Int → (List Bool) → Option ((List Int) × Bool)) (t_11 : Int) (t_12 : Int) (t_13 : Int) (x0 : List Int) (x1 : List Int) (x2 : List Int) : Nat → Int → (List Bool) → Option ((List Int) × Bool)
  | 0, _, _ => none
  | k + 1, t_14, t_17 =>
    if decide (t_14 < t_13) then
      if (2 : Int) ≠ 0 then
      if ((t_12.tmod 2) == 0) then
        if (0 : Int) ≤ (wr .i64 (t_11 + t_14)) ∧ (wr .i64 (t_11 + t_14)) < ((x0.length : Nat) : Int) then
        if ((0 : Int) ≤ (nth x0 (wr .i64 (t_11 + t_14))) ∧ (nth x0 (wr .i64 (t_11 + t_14))) < ((t_17.length : Nat) : Int)) ∧ t_17.length = 16 then
        Ac.l3 K go_l1 t_11 t_12 t_13 x0 x1 x2 k (wr .i64 (t_14 + 1)) ((t_17).set (nth x0 (wr .i64 (t_11 + t_14))).toNat true)
        else none
        else none
      else
        go_l1 (wr .i64 (t_11 + t_13)) (wr .i64 (t_12 + 1)) t_17
      else none
    else
      go_l1 (wr .i64 (t_11 + t_13)) (wr .i64 (t_12 + 1)) t_17
def Ac.j2 (K : Nat) (go_l1 : Int → Int → (List Bool) → Option ((List Int) × Bool)) (t_10 : List Bool) (t_11 : Int) (t_12 : Int) (x0 : List Int) (x1 : List Int) (x2 : List Int) (t_13 : Int) : Option ((List Int) × Bool) :=
  if decide (t_13 < 0) then
    some (([] : List Int), false)
  else
    if decide (t_13 > (wr .i64 (((x0.length : Nat) : Int) - t_11))) then
      some (([] : List Int), false)
    else
      Ac.l3 K go_l1 t_11 t_12 t_13 x0 x1 x2 K (0 : Int) t_10
def Ac.l1 (K : Nat) (x0 : List Int) (x1 : List Int) (x2 : List Int) : Nat → Int → Int → (List Bool) → Option ((List Int) × Bool)
  | 0, _, _, _ => none
  | k + 1, t_11, t_12, t_10 =>
    if decide (t_12 ≤ ((x1.length : Nat) : Int)) then
      if decide (t_12 < ((x1.length : Nat) : Int)) then
        if (0 : Int) ≤ t_12 ∧ t_12 < ((x1.length : Nat) : Int) then
        Ac.j2 K (Ac.l1 K x0 x1 x2 k) t_10 t_11 t_12 x0 x1 x2 (nth x1 t_12)
        else none
      else
        Ac.j2 K (Ac.l1 K x0 x1 x2 k) t_10 t_11 t_12 x0 x1 x2 (wr .i64 (((x0.length : Nat) : Int) - t_11))
    else
      Ac.l4 K x0 x1 x2 K (0 : Int) t_10
def Ac (K : Nat) (x0 : List Int) (x1 : List Int) (x2 : List Int) : Option ((List Int) × Bool) :=
  (Bf K x0).bind fun r19 =>
  if (!r19) then
    some (([] : List Int), false)
  else
    (Bf K x2).bind fun r23 =>
    if (!r23) then
      some (([] : List Int), false)
    else
      if decide (((x1.length : Nat) : Int) > 16) then
        some (([] : List Int), false)
      else
        Ac.l1 K x0 x1 x2 K (0 : Int) (0 : Int) (List.replicate 16 false)
abbrev Ba.sg : Sig := ⟨[(.one, (.sl (.int .u8))), (.one, (.int .i64)), (.one, (.int .i64)), (.one, (.sl (.int .i64)))], [], [(.one, (.sl (.int .i64))), (.one, (.int .i64)), (.one, .bool)], [.o]⟩
def Ba.l1 (K : Nat) (r23 : Int × Int) (x0 : List Int) (x2 : Int) (x3 : List Int) : Nat → Int → Int → (List Int) → Option ((List Int) × Int × Bool)
  | 0, _, _, _ => none
  | k + 1, t_11, t_10, t_12 =>
    if decide (t_10 < (wr .i64 (r23.1 - 1))) then
      (Ad K x0 t_11 2).bind fun r42 =>
      if decide (r42.1 < 1) then
        some (([] : List Int), 0, false)
      else
        if decide (r42.1 > 17) then
          some (([] : List Int), 0, false)
        else
          if (t_10 == 0) then
            if (t_12.length + ([wr .i64 (r42.1 - 1)] : List Int).length) * 8 ≤ 140737488355328 then
            Ba.l1 K r23 x0 x2 x3 k r42.2 (wr .i64 (t_10 + 1)) (t_12 ++ ([wr .i64 (r42.1 - 1)] : List Int))
            else none
          else
            if (t_12.length + ([r42.1] : List Int).length) * 8 ≤ 140737488355328 then
            Ba.l1 K r23 x0 x2 x3 k r42.2 (wr .i64 (t_10 + 1)) (t_12 ++ ([r42.1] : List Int))
            else none
    else
      (Ak K x0 t_11 x2).bind fun r64 =>
      if (!r64.2.2) then
        some (([] : List Int), 0, false)
      else
        (Ac K x3 t_12 r64.1).bind fun r74 =>
        if (!r74.2) then
          some (([] : List Int), 0, false)
        else
          some (r74.1, r64.2.1, true)
def Ba (K : Nat) (x0 : List Int) (x1 : Int) (x2 : Int) (x3 : List Int) : Option ((List Int) × Int × Bool) :=
  (Ad K x0 x1 2).bind fun r23 =>
  if decide (r23.1 < 1) then
    some (([] : List Int), 0, false)
  else
    if decide ((wr .i64 (r23.1 - 1)) > 16) then
      some (([] : List Int), 0, false)
    else
      Ba.l1 K r23 x0 x2 x3 K r23.2 (0 : Int) ([] : List Int)
abbrev Bd.sg : Sig := ⟨[(.agg, Bc), (.one, (.sl (.int .u8)))], [], [(.agg, Bc), (.one, .bool)], [.s, .o]⟩
def Bd.l1 (K : Nat) (r28 : Ab) (x0 : Ab) (x1 : List Int) : Nat → Int → Int → Int → (List (List Int)) → Option (Ab × Bool)
  | 0, _, _, _, _ => none
  | k + 1, t_12, t_11, t_10, t_13 =>
    if decide (t_11 < r28.N) then
      (Cs K x0 t_11).bind fun r41 =>
      (Ba K x1 t_12 t_11 r41).bind fun r42 =>
      if (!r42.2.2) then
        some (((0, ([] : List (List Int))) : Ab), false)
      else
        if (0 : Int) ≤ t_11 ∧ t_11 < ((t_13.length : Nat) : Int) then
        Bd.l1 K r28 x0 x1 k r42.2.1 (wr .i64 (t_11 + 1)) t_10 ((t_13).set t_11.toNat r42.1)
        else none
    else
      if (t_12 != ((x1.length : Nat) : Int)) then
        some (((0, ([] : List (List Int))) : Ab), false)
      else
        (Be K ((r28.N, t_13) : Ab)).bind fun r61 =>
        if (!r61) then
          some (((0, ([] : List (List Int))) : Ab), false)
        else
          some (((r28.N, t_13) : Ab), true)
def Bd (K : Nat) (x0 : Ab) (x1 : List Int) : Option (Ab × Bool) :=
  (Ad K x1 0 2).bind fun r15 =>
  if decide (r15.1 < 1) then
    some (((0, ([] : List (List Int))) : Ab), false)
  else
    if decide ((wr .i64 (r15.1 - 1)) > 16) then
      some (((0, ([] : List (List Int))) : Ab), false)
    else
      (C3 K (wr .i64 (r15.1 - 1))).bind fun r28 =>
      Bd.l1 K r28 x0 x1 K r15.2 (0 : Int) (0 : Int) r28.Out
abbrev Bj.sg : Sig := ⟨[(.one, (.sl (.int .i64)))], [.o], [], []⟩
def Bj.l1 (K : Nat) : Nat → Int → (List Int) → Option Unit
  | 0, _, _ => none
  | k + 1, i_10, l_11 =>
    if decide (i_10 < ((l_11.length : Nat) : Int)) then
      if (0 : Int) ≤ i_10 ∧ i_10 < ((l_11.length : Nat) : Int) then
      Bj.l1 K k (wr .i64 (i_10 + 1)) ((l_11).set i_10.toNat (-99))
      else none
    else
      some ()
def Bj (K : Nat) (x0 : List Int) : Option Unit :=
  Bj.l1 K K (0 : Int) x0
abbrev Bq.sg : Sig := ⟨[(.agg, Bc)], [.s, .o], [], []⟩
def Bq.l1 (K : Nat) : Nat → Int → (List (List Int)) → Option Unit
  | 0, _, _ => none
  | k + 1, i_10, g_11 =>
    if decide (i_10 < ((g_11.length : Nat) : Int)) then
      if (0 : Int) ≤ i_10 ∧ i_10 < ((g_11.length : Nat) : Int) then
      (Bj K (nth g_11 i_10)).bind fun r15 =>
      if (0 : Int) ≤ i_10 ∧ i_10 < ((g_11.length : Nat) : Int) then
      if i_10 = i_10 then
      Bq.l1 K k (wr .i64 (i_10 + 1)) ((g_11).set i_10.toNat [])
      else none
      else none
      else none
    else
      some ()
def Bq (K : Nat) (x0 : Ab) : Option Unit :=
  Bq.l1 K K (0 : Int) x0.Out
abbrev C6.sg : Sig := ⟨[], [], [(.one, .bool)], []⟩
def C6 (K : Nat) : Option Bool :=
  (Dh K ((2, ([([1] : List Int), ([] : List Int)] : List (List Int))) : Ab) ((2, ([([1] : List Int), ([] : List Int)] : List (List Int))) : Ab)).bind fun r12 =>
  (De K ((2, ([([1] : List Int), ([] : List Int)] : List (List Int))) : Ab) r12.1).bind fun r18 =>
  (Ce K r12.2).bind fun r22 =>
  if (r22 == 0) then
    (Ce K r18.2).bind fun r26 =>
    if (r26 == 0) then
      (Ca K r18.1 ((2, ([([1] : List Int), ([] : List Int)] : List (List Int))) : Ab)).bind fun r32 =>
      if r32 then
        some (decide (r12.1.N > 0))
      else
        some false
    else
      some false
  else
    some false
abbrev Aa.sg : Sig := ⟨[(.agg, D2)], [], [(.one, .bool)], []⟩
def Aa.j7 (K : Nat) (go_l5 : Int → Option Bool) (go_l6 : Int → Option Bool) (r181 : List Aj) (r209 : Ab × Int) (t_23 : Int) (t_24 : Int) (x0 : Bk) (t_25 : Int) (t_26 : Int) (t_27 : List (List Int)) : Option Bool :=
  (Ce K r209.2).bind fun r235 =>
  if (r235 != t_25) then
    some false
  else
    (Ca K r209.1 ((t_26, t_27) : Ab)).bind fun r241 =>
    if (!r241) then
      some false
    else
      (Bq K r209.1).bind fun r245 =>
      go_l6 (wr .i64 (t_24 + 1))
def Aa.l6 (K : Nat) (go_l5 : Int → Option Bool) (r181 : List Aj) (t_23 : Int) (x0 : Bk) : Nat → Int → Option Bool
  | 0, _ => none
  | k + 1, t_24 =>
    if decide (t_24 < ((x0.G.length : Nat) : Int)) then
      if decide (t_24 < 4) then
        if (0 : Int) ≤ t_24 ∧ t_24 < ((x0.G.length : Nat) : Int) then
        if (0 : Int) ≤ t_23 ∧ t_23 < ((r181.length : Nat) : Int) then
        (De K (nth x0.G t_24) (nth r181 t_23)).bind fun r209 =>
        if (0 : Int) ≤ t_24 ∧ t_24 < ((x0.G.length : Nat) : Int) then
        (Be K (nth x0.G t_24)).bind fun r217 =>
        if r217 then
          if (0 : Int) ≤ t_24 ∧ t_24 < ((x0.G.length : Nat) : Int) then
          if (0 : Int) ≤ t_23 ∧ t_23 < ((r181.length : Nat) : Int) then
          (Bz K (nth r181 t_23)).bind fun r228 =>
          (Bd K (nth x0.G t_24) r228).bind fun r229 =>
          if r229.2 then
            Aa.j7 K go_l5 (Aa.l6 K go_l5 r181 t_23 x0 k) r181 r209 t_23 t_24 x0 (0 : Int) r229.1.N r229.1.Out
          else
            Aa.j7 K go_l5 (Aa.l6 K go_l5 r181 t_23 x0 k) r181 r209 t_23 t_24 x0 (9 : Int) (0 : Int) ([] : List (List Int))
          else none
          else none
        else
          Aa.j7 K go_l5 (Aa.l6 K go_l5 r181 t_23 x0 k) r181 r209 t_23 t_24 x0 (1 : Int) (0 : Int) ([] : List (List Int))
        else none
        else none
        else none
      else
        go_l5 (wr .i64 (t_23 + 1))
    else
      go_l5 (wr .i64 (t_23 + 1))
def Aa.l5 (K : Nat) (r181 : List Aj) (x0 : Bk) : Nat → Int → Option Bool
  | 0, _ => none
  | k + 1, t_23 =>
    if decide (t_23 < ((r181.length : Nat) : Int)) then
      Aa.l6 K (Aa.l5 K r181 x0 k) r181 t_23 x0 K (0 : Int)
    else
      (De K ((0, ([] : List (List Int))) : Ab) ((ByteArray.empty, 1) : Aj)).bind fun r249 =>
      (Ce K r249.2).bind fun r253 =>
      if (r253 == 1) then
        (C6 K).bind fun r256 =>
        some r256
      else
        some false
def Aa.j3 (K : Nat) (go_l1 : Int → (List (List Int)) → Option Bool) (go_l2 : Int → (List (List Int)) → Option Bool) (r59 : Ab) (r65 : Ab) (r69 : Aj × Int) (r75 : Int × Int) (r81 : Bool × Int) (t_10 : Int) (t_11 : Int) (x0 : Bk) (t_18 : Int) (t_19 : Int) (t_20 : Bool) (t_17 : List (List Int)) (t_21 : ByteArray) (t_22 : Int) : Option Bool :=
  (Ce K r69.2).bind fun r129 =>
  if (r129 != t_18) then
    some false
  else
    (Ce K r75.2).bind fun r134 =>
    if (r134 != t_18) then
      some false
    else
      (Ce K r81.2).bind fun r140 =>
      if (r140 != t_18) then
        some false
      else
        if (!((r69.1.Data == t_21) && ((r69.1.N == t_22) && true))) then
          some false
        else
          if (r75.1 != t_19) then
            some false
          else
            if (!(r81.1 == t_20)) then
              some false
            else
              if (0 : Int) ≤ t_10 ∧ t_10 < ((x0.G.length : Nat) : Int) then
              (Ca K r59 (nth x0.G t_10)).bind fun r166 =>
              if (!r166) then
                some false
              else
                if (0 : Int) ≤ t_11 ∧ t_11 < ((x0.G.length : Nat) : Int) then
                (Ca K r65 (nth x0.G t_11)).bind fun r176 =>
                if (!r176) then
                  some false
                else
                  go_l2 (wr .i64 (t_11 + 1)) t_17
                else none
              else none
def Aa.j4 (K : Nat) (go_l1 : Int → (List (List Int)) → Option Bool) (go_l2 : Int → (List (List Int)) → Option Bool) (r59 : Ab) (r65 : Ab) (r69 : Aj × Int) (r75 : Int × Int) (r81 : Bool × Int) (t_10 : Int) (t_11 : Int) (t_28 : List (List Int)) (x0 : Bk) (t_12 : Int) (t_13 : Int) (t_16 : Bool) (t_14 : ByteArray) (t_15 : Int) : Option Bool :=
  if t_16 then
    if (0 : Int) ≤ t_10 ∧ t_10 < ((x0.G.length : Nat) : Int) then
    if (0 : Int) ≤ t_11 ∧ t_11 < ((x0.G.length : Nat) : Int) then
    (Bg K (nth x0.G t_10) (nth x0.G t_11)).bind fun r108 =>
    (Ar K r108).bind fun r112 =>
    if (0 : Int) ≤ t_10 ∧ t_10 < ((x0.G.length : Nat) : Int) then
    if (0 : Int) ≤ t_11 ∧ t_11 < ((x0.G.length : Nat) : Int) then
    (Cw K (nth x0.G t_10) (nth x0.G t_11)).bind fun r123 =>
    if (t_28.length + ([r108] : List (List Int)).length) * 24 ≤ 140737488355328 then
    Aa.j3 K go_l1 go_l2 r59 r65 r69 r75 r81 t_10 t_11 x0 (0 : Int) ((r108.length : Nat) : Int) r123 (t_28 ++ ([r108] : List (List Int))) r112.Data r112.N
    else none
    else none
    else none
    else none
    else none
  else
    Aa.j3 K go_l1 go_l2 r59 r65 r69 r75 r81 t_10 t_11 x0 t_12 t_13 false t_28 t_14 t_15
def Aa.l2 (K : Nat) (go_l1 : Int → (List (List Int)) → Option Bool) (t_10 : Int) (x0 : Bk) : Nat → Int → (List (List Int)) → Option Bool
  | 0, _, _ => none
  | k + 1, t_11, t_28 =>
    if decide (t_11 < ((x0.G.length : Nat) : Int)) then
      if decide (t_11 < 4) then
        if (0 : Int) ≤ t_10 ∧ t_10 < ((x0.G.length : Nat) : Int) then
        (B0 K (nth x0.G t_10)).bind fun r59 =>
        if (0 : Int) ≤ t_11 ∧ t_11 < ((x0.G.length : Nat) : Int) then
        (B0 K (nth x0.G t_11)).bind fun r65 =>
        (Dh K r59 r65).bind fun r69 =>
        (Di K r59 r65).bind fun r75 =>
        (Dc K r59 r65).bind fun r81 =>
        if (0 : Int) ≤ t_10 ∧ t_10 < ((x0.G.length : Nat) : Int) then
        (Be K (nth x0.G t_10)).bind fun r89 =>
        if r89 then
          if (0 : Int) ≤ t_11 ∧ t_11 < ((x0.G.length : Nat) : Int) then
          (Be K (nth x0.G t_11)).bind fun r96 =>
          Aa.j4 K go_l1 (Aa.l2 K go_l1 t_10 x0 k) r59 r65 r69 r75 r81 t_10 t_11 t_28 x0 (1 : Int) (0 : Int) r96 ByteArray.empty (0 : Int)
          else none
        else
          Aa.j4 K go_l1 (Aa.l2 K go_l1 t_10 x0 k) r59 r65 r69 r75 r81 t_10 t_11 t_28 x0 (1 : Int) (0 : Int) false ByteArray.empty (0 : Int)
        else none
        else none
        else none
      else
        go_l1 (wr .i64 (t_10 + 1)) t_28
    else
      go_l1 (wr .i64 (t_10 + 1)) t_28
def Aa.l1 (K : Nat) (x0 : Bk) : Nat → Int → (List (List Int)) → Option Bool
  | 0, _, _ => none
  | k + 1, t_10, t_29 =>
    if decide (t_10 < ((x0.G.length : Nat) : Int)) then
      if decide (t_10 < 4) then
        Aa.l2 K (Aa.l1 K x0 k) t_10 x0 K (0 : Int) t_29
      else
        (As K ((([] : List (List Int)), ([] : List Aj), ([] : List Int)) : Bu) t_29).bind fun r181 =>
        Aa.l5 K r181 x0 K (0 : Int)
    else
      (As K ((([] : List (List Int)), ([] : List Aj), ([] : List Int)) : Bu) t_29).bind fun r181 =>
      Aa.l5 K r181 x0 K (0 : Int)
def Aa (K : Nat) (x0 : Bk) : Option Bool :=
  (C5 K x0).bind fun r31 =>
  if r31 then
    some true
  else
    Aa.l1 K x0 K (0 : Int) ([] : List (List Int))
end Go.XM
end
