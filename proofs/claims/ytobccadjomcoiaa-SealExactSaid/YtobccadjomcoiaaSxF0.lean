import Derived.Test.YtobccadjomcoiaaSxH0
set_option linter.all false
section
namespace Go.XM
set_option maxRecDepth 100000
abbrev herbariumlaw0_Texts.sg : Sig := ⟨[(.one, (.sl .str))], [], [(.one, (.int .i64))], []⟩
def herbariumlaw0_Texts.l1 (K : Nat) (x0 : List ByteArray) : Nat → Int → Int → Option Int
  | 0, _, _ => none
  | k + 1, n_10, i_11 =>
    if decide (i_11 < ((x0.length : Nat) : Int)) then
      if decide (n_10 < 1048576) then
        if (0 : Int) ≤ i_11 ∧ i_11 < ((x0.length : Nat) : Int) then
        herbariumlaw0_Texts.l1 K x0 k (wr .i64 (n_10 + (((nth x0 i_11).size : Nat) : Int))) (wr .i64 (i_11 + 1))
        else none
      else
        some n_10
    else
      some n_10
def herbariumlaw0_Texts (K : Nat) (x0 : List ByteArray) : Option Int :=
  herbariumlaw0_Texts.l1 K x0 K ((x0.length : Nat) : Int) (0 : Int)
abbrev herbariumlaw17_Ask : Type := (List ByteArray)
abbrev Ty_herbariumlaw17_Ask : Ty := (.sl .str)
abbrev herbariumlaw17_Ask.S (x : herbariumlaw17_Ask) : List ByteArray := x
abbrev herbariumlaw17_Heavy.sg : Sig := ⟨[(.agg, Ty_herbariumlaw17_Ask)], [], [(.one, .bool)], []⟩
def herbariumlaw17_Heavy (K : Nat) (x0 : herbariumlaw17_Ask) : Option Bool :=
  (herbariumlaw0_Texts K x0.S).bind fun r5 =>
  some (decide (r5 > 6000))
abbrev strings_Repeat.sg : Sig := sgRep
def strings_Repeat (K : Nat) (x0 : ByteArray) (x1 : Int) : Option ByteArray := repF x0 x1
abbrev seal_Of.sg : Sig := ⟨[(.one, .str)], [], [(.one, (.int .u32))], []⟩
def seal_Of.l1 (K : Nat) (x0 : ByteArray) : Nat → Int → Int → Int → Int → Option Int
  | 0, _, _, _, _ => none
  | k + 1, a_10, b_11, t_12, t_13 =>
    if decide (t_13 < t_12) then
      if (0 : Int) ≤ t_13 ∧ t_13 < ((x0.size : Nat) : Int) then
      if (65521 : Int) ≠ 0 then
      if (65521 : Int) ≠ 0 then
      seal_Of.l1 K x0 k ((wr .u32 (a_10 + (wr .u32 (bt x0 t_13)))).tmod 65521) ((wr .u32 (b_11 + ((wr .u32 (a_10 + (wr .u32 (bt x0 t_13)))).tmod 65521))).tmod 65521) t_12 (wr .i64 (t_13 + 1))
      else none
      else none
      else none
    else
      if (0 : Int) ≤ 16 then
      some (ib .or .u32 (wr .u32 (b_11 * 2 ^ min ((16 : Int)).toNat 32)) a_10)
      else none
def seal_Of (K : Nat) (x0 : ByteArray) : Option Int :=
  seal_Of.l1 K x0 K (1 : Int) (0 : Int) ((x0.size : Nat) : Int) (0 : Int)
abbrev seal_check.sg : Sig := ⟨[(.one, .str)], [], [(.one, .str)], []⟩
def seal_check (K : Nat) (x0 : ByteArray) : Option ByteArray :=
  (seal_Of K x0).bind fun r5 =>
  if (0 : Int) ≤ 24 then
  if (0 : Int) ≤ 16 then
  if (0 : Int) ≤ 8 then
  some (bytesOf ([wr .u8 (r5.fdiv (2 ^ min ((24 : Int)).toNat 32)), wr .u8 (r5.fdiv (2 ^ min ((16 : Int)).toNat 32)), wr .u8 (r5.fdiv (2 ^ min ((8 : Int)).toNat 32)), wr .u8 r5] : List Int))
  else none
  else none
  else none
abbrev seal_Add.sg : Sig := ⟨[(.one, .str)], [], [(.one, .str)], []⟩
def seal_Add (K : Nat) (x0 : ByteArray) : Option ByteArray :=
  if (0 : Int) ≤ (0 : Int) ∧ (0 : Int) ≤ (if (60 : Int) < ((x0.size : Nat) : Int) then (60 : Int) else ((x0.size : Nat) : Int)) ∧ (if (60 : Int) < ((x0.size : Nat) : Int) then (60 : Int) else ((x0.size : Nat) : Int)) ≤ ((x0.size : Nat) : Int) then
  (strings_Repeat K (⟨#[0]⟩ : ByteArray) (wr .i64 (60 - (((x0.extract (0 : Int).toNat (if (60 : Int) < ((x0.size : Nat) : Int) then (60 : Int) else ((x0.size : Nat) : Int)).toNat).size : Nat) : Int)))).bind fun r12 =>
  if (((x0.extract (0 : Int).toNat (if (60 : Int) < ((x0.size : Nat) : Int) then (60 : Int) else ((x0.size : Nat) : Int)).toNat).size + r12.size : Nat) : Int) ≤ 9223372036854775807 then
  (seal_check K ((x0.extract (0 : Int).toNat (if (60 : Int) < ((x0.size : Nat) : Int) then (60 : Int) else ((x0.size : Nat) : Int)).toNat) ++ r12)).bind fun r16 =>
  if ((((x0.extract (0 : Int).toNat (if (60 : Int) < ((x0.size : Nat) : Int) then (60 : Int) else ((x0.size : Nat) : Int)).toNat) ++ r12).size + r16.size : Nat) : Int) ≤ 9223372036854775807 then
  some (((x0.extract (0 : Int).toNat (if (60 : Int) < ((x0.size : Nat) : Int) then (60 : Int) else ((x0.size : Nat) : Int)).toNat) ++ r12) ++ r16)
  else none
  else none
  else none
abbrev herbariumref17_Of.sg : Sig := ⟨[(.one, .str)], [], [(.one, (.int .u32))], []⟩
def herbariumref17_Of.l1 (K : Nat) (x0 : ByteArray) : Nat → Int → Int → Int → Option Int
  | 0, _, _, _ => none
  | k + 1, a_10, b_11, i_12 =>
    if decide (i_12 < ((x0.size : Nat) : Int)) then
      if (0 : Int) ≤ i_12 ∧ i_12 < ((x0.size : Nat) : Int) then
      if (65521 : Int) ≠ 0 then
      if (65521 : Int) ≠ 0 then
      herbariumref17_Of.l1 K x0 k ((wr .i64 (a_10 + (wr .i64 (bt x0 i_12)))).tmod 65521) ((wr .i64 (b_11 + ((wr .i64 (a_10 + (wr .i64 (bt x0 i_12)))).tmod 65521))).tmod 65521) (wr .i64 (i_12 + 1))
      else none
      else none
      else none
    else
      some (wr .u32 (wr .i64 ((wr .i64 (b_11 * 65536)) + a_10)))
def herbariumref17_Of (K : Nat) (x0 : ByteArray) : Option Int :=
  herbariumref17_Of.l1 K x0 K (1 : Int) (0 : Int) (0 : Int)
abbrev herbariumref0_Zeros.sg : Sig := ⟨[(.one, (.int .i64))], [], [(.one, .str)], []⟩
def herbariumref0_Zeros (K : Nat) (x0 : Int) : Option ByteArray :=
  if x0 = x0 ∧ (0 : Int) ≤ x0 ∧ (1 : Int) * x0 ≤ 281474976710656 ∧ x0 ≤ 9223372036854775807 then
  some (bytesOf (List.replicate x0.toNat (0 : Int)))
  else none
abbrev herbariumref17_number.sg : Sig := ⟨[(.one, (.int .i64))], [], [(.one, .str)], []⟩
def herbariumref17_number (K : Nat) (x0 : Int) : Option ByteArray :=
  if (0 : Int) ≤ 24 then
  if (0 : Int) ≤ 16 then
  if (0 : Int) ≤ 8 then
  some (bytesOf ([wr .u8 (x0.fdiv (2 ^ min ((24 : Int)).toNat 64)), wr .u8 (x0.fdiv (2 ^ min ((16 : Int)).toNat 64)), wr .u8 (x0.fdiv (2 ^ min ((8 : Int)).toNat 64)), wr .u8 x0] : List Int))
  else none
  else none
  else none
abbrev herbariumref17_Add.sg : Sig := ⟨[(.one, .str)], [], [(.one, .str)], []⟩
def herbariumref17_Add.j1 (K : Nat) (s_10 : ByteArray) : Option ByteArray :=
  (herbariumref0_Zeros K (wr .i64 (60 - ((s_10.size : Nat) : Int)))).bind fun r12 =>
  if ((s_10.size + r12.size : Nat) : Int) ≤ 9223372036854775807 then
  (herbariumref17_Of K (s_10 ++ r12)).bind fun r16 =>
  (herbariumref17_number K (wr .i64 r16)).bind fun r18 =>
  if (((s_10 ++ r12).size + r18.size : Nat) : Int) ≤ 9223372036854775807 then
  some ((s_10 ++ r12) ++ r18)
  else none
  else none
def herbariumref17_Add (K : Nat) (x0 : ByteArray) : Option ByteArray :=
  if decide (((x0.size : Nat) : Int) > 60) then
    if (0 : Int) ≤ (0 : Int) ∧ (0 : Int) ≤ (60 : Int) ∧ (60 : Int) ≤ ((x0.size : Nat) : Int) then
    herbariumref17_Add.j1 K (x0.extract (0 : Int).toNat (60 : Int).toNat)
    else none
  else
    herbariumref17_Add.j1 K x0
abbrev seal_Take.sg : Sig := ⟨[(.one, .str)], [], [(.one, .str), (.one, .bool)], []⟩
def seal_Take (K : Nat) (x0 : ByteArray) : Option (ByteArray × Bool) :=
  if (((x0.size : Nat) : Int) != 64) then
    some (ByteArray.empty, false)
  else
    if (0 : Int) ≤ (0 : Int) ∧ (0 : Int) ≤ (60 : Int) ∧ (60 : Int) ≤ ((x0.size : Nat) : Int) then
    (seal_check K (x0.extract (0 : Int).toNat (60 : Int).toNat)).bind fun r10 =>
    if (0 : Int) ≤ (60 : Int) ∧ (60 : Int) ≤ ((x0.size : Nat) : Int) ∧ ((x0.size : Nat) : Int) ≤ ((x0.size : Nat) : Int) then
    if (!(r10.toList == (x0.extract (60 : Int).toNat ((x0.size : Nat) : Int).toNat).toList)) then
      some (ByteArray.empty, false)
    else
      if (0 : Int) ≤ (0 : Int) ∧ (0 : Int) ≤ (60 : Int) ∧ (60 : Int) ≤ ((x0.size : Nat) : Int) then
      some (x0.extract (0 : Int).toNat (60 : Int).toNat, true)
      else none
    else none
    else none
abbrev herbariumref17_Take.sg : Sig := ⟨[(.one, .str)], [], [(.one, .str), (.one, .bool)], []⟩
def herbariumref17_Take (K : Nat) (x0 : ByteArray) : Option (ByteArray × Bool) :=
  if (((x0.size : Nat) : Int) != 64) then
    some (ByteArray.empty, false)
  else
    if (0 : Int) ≤ (0 : Int) ∧ (0 : Int) ≤ (60 : Int) ∧ (60 : Int) ≤ ((x0.size : Nat) : Int) then
    (herbariumref17_Add K (x0.extract (0 : Int).toNat (60 : Int).toNat)).bind fun r10 =>
    if (!(r10.toList == x0.toList)) then
      some (ByteArray.empty, false)
    else
      if (0 : Int) ≤ (0 : Int) ∧ (0 : Int) ≤ (60 : Int) ∧ (60 : Int) ≤ ((x0.size : Nat) : Int) then
      some (x0.extract (0 : Int).toNat (60 : Int).toNat, true)
      else none
    else none
abbrev herbariumlaw17_wakes.sg : Sig := ⟨[], [], [(.one, .bool)], []⟩
def herbariumlaw17_wakes (K : Nat) : Option Bool :=
  (seal_Add K (⟨#[97, 98]⟩ : ByteArray)).bind fun r4 =>
  (seal_Take K r4).bind fun r5 =>
  (seal_Of K ByteArray.empty).bind fun r8 =>
  if (r8 == 1) then
    (seal_Of K (⟨#[97]⟩ : ByteArray)).bind fun r11 =>
    if (r11 != 1) then
      if r5.2 then
        if (((r5.1.size : Nat) : Int) == 60) then
          if (0 : Int) ≤ (0 : Int) ∧ (0 : Int) ≤ (2 : Int) ∧ (2 : Int) ≤ ((r5.1.size : Nat) : Int) then
          some ((r5.1.extract (0 : Int).toNat (2 : Int).toNat).toList == (⟨#[97, 98]⟩ : ByteArray).toList)
          else none
        else
          some false
      else
        some false
    else
      some false
  else
    some false
abbrev herbariumlaw17_SealExact.sg : Sig := ⟨[(.agg, Ty_herbariumlaw17_Ask)], [], [(.one, .bool)], []⟩
def herbariumlaw17_SealExact.l3 (K : Nat) (go_l1 : Int → Option Bool) (t_10 : Int) (t_11 : List ByteArray) (x0 : herbariumlaw17_Ask) : Nat → Int → Option Bool
  | 0, _ => none
  | k + 1, t_13 =>
    if decide (t_13 < ((t_11.length : Nat) : Int)) then
      if (0 : Int) ≤ t_13 ∧ t_13 < ((t_11.length : Nat) : Int) then
      (seal_Take K (nth t_11 t_13)).bind fun r113 =>
      if (0 : Int) ≤ t_13 ∧ t_13 < ((t_11.length : Nat) : Int) then
      (herbariumref17_Take K (nth t_11 t_13)).bind fun r121 =>
      if (!(r113.2 == r121.2)) then
        some false
      else
        if (!(r113.1.toList == r121.1.toList)) then
          some false
        else
          herbariumlaw17_SealExact.l3 K go_l1 t_10 t_11 x0 k (wr .i64 (t_13 + 1))
      else none
      else none
    else
      go_l1 (wr .i64 (t_10 + 1))
def herbariumlaw17_SealExact.l2 (K : Nat) (go_l1 : Int → Option Bool) (r31 : ByteArray) (t_10 : Int) (x0 : herbariumlaw17_Ask) : Nat → Int → (List ByteArray) → Option Bool
  | 0, _, _ => none
  | k + 1, t_12, t_11 =>
    if decide (t_12 < 6) then
      if (((bytesL r31).length : Nat) : Int) ≠ 0 then
      if (((bytesL r31).length : Nat) : Int) ≠ 0 then
      if (0 : Int) ≤ ((wr .i64 ((wr .i64 (t_12 * 13)) + t_10)).tmod (((bytesL r31).length : Nat) : Int)) ∧ ((wr .i64 ((wr .i64 (t_12 * 13)) + t_10)).tmod (((bytesL r31).length : Nat) : Int)) < (((bytesL r31).length : Nat) : Int) then
      if (0 : Int) ≤ t_12 then
      if (0 : Int) ≤ ((wr .i64 ((wr .i64 (t_12 * 13)) + t_10)).tmod (((bytesL r31).length : Nat) : Int)) ∧ ((wr .i64 ((wr .i64 (t_12 * 13)) + t_10)).tmod (((bytesL r31).length : Nat) : Int)) < (((bytesL r31).length : Nat) : Int) then
      if (t_11.length + ([bytesOf ((bytesL r31).set ((wr .i64 ((wr .i64 (t_12 * 13)) + t_10)).tmod (((bytesL r31).length : Nat) : Int)).toNat (ib .xor .u8 (nth (bytesL r31) ((wr .i64 ((wr .i64 (t_12 * 13)) + t_10)).tmod (((bytesL r31).length : Nat) : Int))) (wr .u8 ((1 : Int) * 2 ^ min (t_12).toNat 8))))] : List ByteArray).length) * 16 ≤ 140737488355328 then
      herbariumlaw17_SealExact.l2 K go_l1 r31 t_10 x0 k (wr .i64 (t_12 + 1)) (t_11 ++ ([bytesOf ((bytesL r31).set ((wr .i64 ((wr .i64 (t_12 * 13)) + t_10)).tmod (((bytesL r31).length : Nat) : Int)).toNat (ib .xor .u8 (nth (bytesL r31) ((wr .i64 ((wr .i64 (t_12 * 13)) + t_10)).tmod (((bytesL r31).length : Nat) : Int))) (wr .u8 ((1 : Int) * 2 ^ min (t_12).toNat 8))))] : List ByteArray))
      else none
      else none
      else none
      else none
      else none
      else none
    else
      herbariumlaw17_SealExact.l3 K go_l1 t_10 t_11 x0 K (0 : Int)
def herbariumlaw17_SealExact.l1 (K : Nat) (x0 : herbariumlaw17_Ask) : Nat → Int → Option Bool
  | 0, _ => none
  | k + 1, t_10 =>
    if decide (t_10 < ((x0.S.length : Nat) : Int)) then
      if decide (t_10 < 8) then
        if (0 : Int) ≤ t_10 ∧ t_10 < ((x0.S.length : Nat) : Int) then
        (seal_Add K (nth x0.S t_10)).bind fun r31 =>
        if (0 : Int) ≤ t_10 ∧ t_10 < ((x0.S.length : Nat) : Int) then
        (seal_Of K (nth x0.S t_10)).bind fun r37 =>
        if (0 : Int) ≤ t_10 ∧ t_10 < ((x0.S.length : Nat) : Int) then
        (herbariumref17_Of K (nth x0.S t_10)).bind fun r43 =>
        if (r37 != r43) then
          some false
        else
          if (0 : Int) ≤ t_10 ∧ t_10 < ((x0.S.length : Nat) : Int) then
          (herbariumref17_Add K (nth x0.S t_10)).bind fun r52 =>
          if (!(r31.toList == r52.toList)) then
            some false
          else
            if (0 : Int) ≤ t_10 ∧ t_10 < ((x0.S.length : Nat) : Int) then
            if ((r31.size + (⟨#[120]⟩ : ByteArray).size : Nat) : Int) ≤ 9223372036854775807 then
            if (0 : Int) ≤ (0 : Int) ∧ (0 : Int) ≤ (wr .i64 (((r31.size : Nat) : Int) - 1)) ∧ (wr .i64 (((r31.size : Nat) : Int) - 1)) ≤ ((r31.size : Nat) : Int) then
            herbariumlaw17_SealExact.l2 K (herbariumlaw17_SealExact.l1 K x0 k) r31 t_10 x0 K (0 : Int) ([nth x0.S t_10, r31, r31 ++ (⟨#[120]⟩ : ByteArray), r31.extract (0 : Int).toNat (wr .i64 (((r31.size : Nat) : Int) - 1)).toNat, ByteArray.empty] : List ByteArray)
            else none
            else none
            else none
          else none
        else none
        else none
        else none
      else
        (herbariumlaw17_wakes K).bind fun r132 =>
        some r132
    else
      (herbariumlaw17_wakes K).bind fun r132 =>
      some r132
def herbariumlaw17_SealExact (K : Nat) (x0 : herbariumlaw17_Ask) : Option Bool :=
  (herbariumlaw17_Heavy K x0).bind fun r14 =>
  if r14 then
    some true
  else
    herbariumlaw17_SealExact.l1 K x0 K (0 : Int)
abbrev herbariumlaw0_Within.sg : Sig := ⟨[(.one, (.int .i64)), (.one, (.int .i64))], [], [(.one, (.int .i64))], []⟩
def herbariumlaw0_Within (K : Nat) (x0 : Int) (x1 : Int) : Option Int :=
  if (wr .u64 x1) ≠ 0 then
  some (wr .i64 ((wr .u64 x0).tmod (wr .u64 x1)))
  else none
abbrev herbariumlaw17_SealTurned.sg : Sig := ⟨[(.agg, Ty_herbariumlaw17_Ask)], [], [(.one, .bool)], []⟩
def herbariumlaw17_SealTurned.l2 (K : Nat) (go_l1 : Int → Option Bool) (i_10 : Int) (r27 : ByteArray) (x0 : herbariumlaw17_Ask) : Nat → Int → Option Bool
  | 0, _ => none
  | k + 1, k_11 =>
    if decide (k_11 < ((r27.size : Nat) : Int)) then
      if (0 : Int) ≤ k_11 ∧ k_11 < (((bytesL r27).length : Nat) : Int) then
      (herbariumlaw0_Within K (wr .i64 ((wr .i64 (k_11 * 29)) + (wr .i64 (i_10 * 7)))) 255).bind fun r50 =>
      if (0 : Int) ≤ k_11 ∧ k_11 < (((bytesL r27).length : Nat) : Int) then
      (seal_Take K (bytesOf ((bytesL r27).set k_11.toNat (wr .u8 ((nth (bytesL r27) k_11) + (wr .u8 (wr .i64 (1 + r50)))))))).bind fun r58 =>
      if r58.2 then
        some false
      else
        herbariumlaw17_SealTurned.l2 K go_l1 i_10 r27 x0 k (wr .i64 (k_11 + 1))
      else none
      else none
    else
      go_l1 (wr .i64 (i_10 + 1))
def herbariumlaw17_SealTurned.l1 (K : Nat) (x0 : herbariumlaw17_Ask) : Nat → Int → Option Bool
  | 0, _ => none
  | k + 1, i_10 =>
    if decide (i_10 < ((x0.S.length : Nat) : Int)) then
      if decide (i_10 < 8) then
        if (0 : Int) ≤ i_10 ∧ i_10 < ((x0.S.length : Nat) : Int) then
        (seal_Add K (nth x0.S i_10)).bind fun r27 =>
        if (((r27.size : Nat) : Int) != 64) then
          some false
        else
          herbariumlaw17_SealTurned.l2 K (herbariumlaw17_SealTurned.l1 K x0 k) i_10 r27 x0 K (0 : Int)
        else none
      else
        (herbariumlaw17_wakes K).bind fun r62 =>
        some r62
    else
      (herbariumlaw17_wakes K).bind fun r62 =>
      some r62
def herbariumlaw17_SealTurned (K : Nat) (x0 : herbariumlaw17_Ask) : Option Bool :=
  (herbariumlaw17_Heavy K x0).bind fun r10 =>
  if r10 then
    some true
  else
    herbariumlaw17_SealTurned.l1 K x0 K (0 : Int)
end Go.XM
end
