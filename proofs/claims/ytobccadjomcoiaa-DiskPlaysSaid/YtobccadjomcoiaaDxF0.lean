import Derived.Test.YtobccadjomcoiaaDxH0
set_option linter.all false
section
namespace Go.XM
set_option maxRecDepth 100000
abbrev api_Put : Type := Int × ByteArray
abbrev Ty_api_Put : Ty := (.pr (.int .i64) .str)
abbrev api_Put.At (x : api_Put) : Int := x.1
abbrev api_Put.Text (x : api_Put) : ByteArray := x.2
abbrev api_Disk : Type := (List ByteArray) × (List api_Put)
abbrev Ty_api_Disk : Ty := (.pr (.sl .str) (.sl Ty_api_Put))
abbrev api_Disk.Blocks (x : api_Disk) : List ByteArray := x.1
abbrev api_Disk.Waits (x : api_Disk) : List api_Put := x.2
abbrev herbariumlaw0_DiskWeight.sg : Sig := ⟨[(.agg, Ty_api_Disk)], [], [(.one, (.int .i64))], []⟩
def herbariumlaw0_DiskWeight.l2 (K : Nat) (x0 : api_Disk) : Nat → Int → Int → Option Int
  | 0, _, _ => none
  | k + 1, n_13, i_12 =>
    if decide (i_12 < ((x0.Waits.length : Nat) : Int)) then
      if decide (n_13 < 1048576) then
        if (0 : Int) ≤ i_12 ∧ i_12 < ((x0.Waits.length : Nat) : Int) then
        if (128 : Int) ≠ 0 then
        herbariumlaw0_DiskWeight.l2 K x0 k (wr .i64 (n_13 + (wr .i64 (((((nth x0.Waits i_12).Text).size : Nat) : Int).tdiv 128)))) (wr .i64 (i_12 + 1))
        else none
        else none
      else
        some n_13
    else
      some n_13
def herbariumlaw0_DiskWeight.l1 (K : Nat) (x0 : api_Disk) : Nat → Int → Int → Option Int
  | 0, _, _ => none
  | k + 1, n_10, i_11 =>
    if decide (i_11 < ((x0.Blocks.length : Nat) : Int)) then
      if decide (n_10 < 1048576) then
        if (0 : Int) ≤ i_11 ∧ i_11 < ((x0.Blocks.length : Nat) : Int) then
        if (128 : Int) ≠ 0 then
        herbariumlaw0_DiskWeight.l1 K x0 k (wr .i64 (n_10 + (wr .i64 ((((nth x0.Blocks i_11).size : Nat) : Int).tdiv 128)))) (wr .i64 (i_11 + 1))
        else none
        else none
      else
        herbariumlaw0_DiskWeight.l2 K x0 K n_10 (0 : Int)
    else
      herbariumlaw0_DiskWeight.l2 K x0 K n_10 (0 : Int)
def herbariumlaw0_DiskWeight (K : Nat) (x0 : api_Disk) : Option Int :=
  herbariumlaw0_DiskWeight.l1 K x0 K (wr .i64 (((x0.Blocks.length : Nat) : Int) + ((x0.Waits.length : Nat) : Int))) (0 : Int)
abbrev api_Do : Type := Bool × api_Put
abbrev Ty_api_Do : Ty := (.pr .bool Ty_api_Put)
abbrev api_Do.Sync (x : api_Do) : Bool := x.1
abbrev api_Do.Put (x : api_Do) : api_Put := x.2
abbrev herbariumlaw19_Act : Type := Int × Int × (List api_Do) × (List Int)
abbrev Ty_herbariumlaw19_Act : Ty := (.pr (.int .i64) (.pr (.int .i64) (.pr (.sl Ty_api_Do) (.sl (.int .i64)))))
abbrev herbariumlaw19_Act.Do (x : herbariumlaw19_Act) : Int := x.1
abbrev herbariumlaw19_Act.N (x : herbariumlaw19_Act) : Int := x.2.1
abbrev herbariumlaw19_Act.L (x : herbariumlaw19_Act) : List api_Do := x.2.2.1
abbrev herbariumlaw19_Act.K (x : herbariumlaw19_Act) : List Int := x.2.2.2
abbrev herbariumlaw19_Script : Type := api_Disk × Int × (List herbariumlaw19_Act)
abbrev Ty_herbariumlaw19_Script : Ty := (.pr Ty_api_Disk (.pr (.int .i64) (.sl Ty_herbariumlaw19_Act)))
abbrev herbariumlaw19_Script.D (x : herbariumlaw19_Script) : api_Disk := x.1
abbrev herbariumlaw19_Script.N (x : herbariumlaw19_Script) : Int := x.2.1
abbrev herbariumlaw19_Script.A (x : herbariumlaw19_Script) : List herbariumlaw19_Act := x.2.2
abbrev herbariumlaw19_Heavy.sg : Sig := ⟨[(.agg, Ty_herbariumlaw19_Script)], [], [(.one, .bool)], []⟩
def herbariumlaw19_Heavy.l2 (K : Nat) (go_l1 : Int → Int → Option Bool) (t_11 : Int) (x0 : herbariumlaw19_Script) : Nat → Int → Int → Option Bool
  | 0, _, _ => none
  | k + 1, t_12, t_13 =>
    if (0 : Int) ≤ t_11 ∧ t_11 < ((x0.A.length : Nat) : Int) then
    if decide (t_13 < ((((nth x0.A t_11).L).length : Nat) : Int)) then
      if decide (t_12 < 1048576) then
        if (0 : Int) ≤ t_11 ∧ t_11 < ((x0.A.length : Nat) : Int) then
        if (0 : Int) ≤ t_13 ∧ t_13 < ((((nth x0.A t_11).L).length : Nat) : Int) then
        if (64 : Int) ≠ 0 then
        herbariumlaw19_Heavy.l2 K go_l1 t_11 x0 k (wr .i64 (t_12 + (wr .i64 ((((((nth ((nth x0.A t_11).L) t_13).Put).Text).size : Nat) : Int).tdiv 64)))) (wr .i64 (t_13 + 1))
        else none
        else none
        else none
      else
        go_l1 t_12 (wr .i64 (t_11 + 1))
    else
      go_l1 t_12 (wr .i64 (t_11 + 1))
    else none
def herbariumlaw19_Heavy.l1 (K : Nat) (x0 : herbariumlaw19_Script) : Nat → Int → Int → Option Bool
  | 0, _, _ => none
  | k + 1, t_10, t_11 =>
    if decide (t_11 < ((x0.A.length : Nat) : Int)) then
      if decide (t_10 < 1048576) then
        if (0 : Int) ≤ t_11 ∧ t_11 < ((x0.A.length : Nat) : Int) then
        if (0 : Int) ≤ t_11 ∧ t_11 < ((x0.A.length : Nat) : Int) then
        herbariumlaw19_Heavy.l2 K (herbariumlaw19_Heavy.l1 K x0 k) t_11 x0 K (wr .i64 ((wr .i64 (t_10 + ((((nth x0.A t_11).K).length : Nat) : Int))) + ((((nth x0.A t_11).L).length : Nat) : Int))) (0 : Int)
        else none
        else none
      else
        some (decide (t_10 > 1500))
    else
      some (decide (t_10 > 1500))
def herbariumlaw19_Heavy (K : Nat) (x0 : herbariumlaw19_Script) : Option Bool :=
  (herbariumlaw0_DiskWeight K x0.D).bind fun r8 =>
  herbariumlaw19_Heavy.l1 K x0 K (wr .i64 (r8 + ((x0.A.length : Nat) : Int))) (0 : Int)
abbrev strings_Repeat.sg : Sig := sgRep
def strings_Repeat (K : Nat) (x0 : ByteArray) (x1 : Int) : Option ByteArray := repF x0 x1
abbrev math_bits_Mul32.sg : Sig := ⟨[(.one, (.int .u32)), (.one, (.int .u32))], [], [(.one, (.int .u32)), (.one, (.int .u32))], []⟩
def math_bits_Mul32 (K : Nat) (x0 : Int) (x1 : Int) : Option (Int × Int) :=
  if (0 : Int) ≤ 32 then
  some (wr .u32 ((wr .u64 ((wr .u64 x0) * (wr .u64 x1))).fdiv (2 ^ min ((32 : Int)).toNat 64)), wr .u32 (wr .u64 ((wr .u64 x0) * (wr .u64 x1))))
  else none
abbrev math_bits_Mul64.sg : Sig := ⟨[(.one, (.int .u64)), (.one, (.int .u64))], [], [(.one, (.int .u64)), (.one, (.int .u64))], []⟩
def math_bits_Mul64 (K : Nat) (x0 : Int) (x1 : Int) : Option (Int × Int) :=
  if (0 : Int) ≤ 32 then
  if (0 : Int) ≤ 32 then
  if (0 : Int) ≤ 32 then
  if (0 : Int) ≤ 32 then
  if (0 : Int) ≤ 32 then
  some (wr .u64 ((wr .u64 ((wr .u64 ((x0.fdiv (2 ^ min ((32 : Int)).toNat 64)) * (x1.fdiv (2 ^ min ((32 : Int)).toNat 64)))) + ((wr .u64 ((wr .u64 ((x0.fdiv (2 ^ min ((32 : Int)).toNat 64)) * (ib .and .u64 x1 4294967295))) + ((wr .u64 ((ib .and .u64 x0 4294967295) * (ib .and .u64 x1 4294967295))).fdiv (2 ^ min ((32 : Int)).toNat 64)))).fdiv (2 ^ min ((32 : Int)).toNat 64)))) + ((wr .u64 ((ib .and .u64 (wr .u64 ((wr .u64 ((x0.fdiv (2 ^ min ((32 : Int)).toNat 64)) * (ib .and .u64 x1 4294967295))) + ((wr .u64 ((ib .and .u64 x0 4294967295) * (ib .and .u64 x1 4294967295))).fdiv (2 ^ min ((32 : Int)).toNat 64)))) 4294967295) + (wr .u64 ((ib .and .u64 x0 4294967295) * (x1.fdiv (2 ^ min ((32 : Int)).toNat 64)))))).fdiv (2 ^ min ((32 : Int)).toNat 64))), wr .u64 (x0 * x1))
  else none
  else none
  else none
  else none
  else none
abbrev math_bits_Mul.sg : Sig := ⟨[(.one, (.int .u64)), (.one, (.int .u64))], [], [(.one, (.int .u64)), (.one, (.int .u64))], []⟩
def math_bits_Mul (K : Nat) (x0 : Int) (x1 : Int) : Option (Int × Int) :=
  (math_bits_Mul64 K x0 x1).bind fun r25 =>
  some (r25.1, r25.2)
abbrev slices_Repeat___string_string_.sg : Sig := ⟨[(.one, (.sl .str)), (.one, (.int .i64))], [], [(.one, (.sl .str))], [.o]⟩
def slices_Repeat___string_string_.l3 (K : Nat) : Nat → Int → (List ByteArray) → Option (List ByteArray)
  | 0, _, _ => none
  | k + 1, n_11, newslice_10 =>
    if decide (n_11 < ((newslice_10.length : Nat) : Int)) then
      if (0 : Int) ≤ n_11 ∧ n_11 ≤ ((newslice_10.length : Nat) : Int) ∧ ((newslice_10.length : Nat) : Int) ≤ ((newslice_10.length : Nat) : Int) then
      if (0 : Int) ≤ (0 : Int) ∧ (0 : Int) ≤ n_11 ∧ n_11 ≤ ((newslice_10.length : Nat) : Int) then
      slices_Repeat___string_string_.l3 K k (wr .i64 (n_11 + ((min (((newslice_10).drop (0 + (0 : Int).toNat)).take (n_11.toNat - (0 : Int).toNat)).length (((newslice_10.length : Nat) : Int).toNat - n_11.toNat) : Nat) : Int))) (ovp newslice_10 (0 + n_11.toNat) (List.take (((newslice_10.length : Nat) : Int).toNat - n_11.toNat) (((newslice_10).drop (0 + (0 : Int).toNat)).take (n_11.toNat - (0 : Int).toNat))))
      else none
      else none
    else
      some newslice_10
def slices_Repeat___string_string_.j2 (K : Nat) (r18 : Int × Int) (x0 : List ByteArray) : Option (List ByteArray) :=
  if (wr .i64 r18.2) = (wr .i64 r18.2) ∧ (0 : Int) ≤ (wr .i64 r18.2) ∧ (16 : Int) * (wr .i64 r18.2) ≤ 281474976710656 ∧ (wr .i64 r18.2) ≤ 9223372036854775807 then
  slices_Repeat___string_string_.l3 K K ((min x0.length ((List.replicate (wr .i64 r18.2).toNat ByteArray.empty).length) : Nat) : Int) (ovp (List.replicate (wr .i64 r18.2).toNat ByteArray.empty) 0 (List.take ((List.replicate (wr .i64 r18.2).toNat ByteArray.empty).length) x0))
  else none
def slices_Repeat___string_string_.j1 (K : Nat) (x0 : List ByteArray) (x1 : Int) : Option (List ByteArray) :=
  (math_bits_Mul K (wr .u64 ((x0.length : Nat) : Int)) (wr .u64 x1)).bind fun r18 =>
  if decide (r18.1 > 0) then
    none
  else
    if decide (r18.2 > 9223372036854775807) then
      none
    else
      slices_Repeat___string_string_.j2 K r18 x0
def slices_Repeat___string_string_ (K : Nat) (x0 : List ByteArray) (x1 : Int) : Option (List ByteArray) :=
  if decide (x1 < 0) then
    none
  else
    slices_Repeat___string_string_.j1 K x0 x1
abbrev disk_New.sg : Sig := ⟨[(.one, (.int .i64))], [], [(.agg, Ty_api_Disk), (.one, (.int .i64))], [.o, .o]⟩
def disk_New (K : Nat) (x0 : Int) : Option (api_Disk × Int) :=
  if decide (x0 < 1) then
    some (((([] : List ByteArray), ([] : List api_Put)) : api_Disk), 1)
  else
    if decide (x0 > 117) then
      some (((([] : List ByteArray), ([] : List api_Put)) : api_Disk), 1)
    else
      (strings_Repeat K (⟨#[0]⟩ : ByteArray) 64).bind fun r11 =>
      (slices_Repeat___string_string_ K ([r11] : List ByteArray) x0).bind fun r14 =>
      some (((r14, ([] : List api_Put)) : api_Disk), 0)
abbrev herbariumref0_Between.sg : Sig := ⟨[(.one, (.int .i64)), (.one, (.int .i64)), (.one, (.int .i64))], [], [(.one, .bool)], []⟩
def herbariumref0_Between (K : Nat) (x0 : Int) (x1 : Int) (x2 : Int) : Option Bool :=
  if decide (x0 ≥ x1) then
    some (decide (x0 ≤ x2))
  else
    some false
abbrev herbariumref0_Zeros.sg : Sig := ⟨[(.one, (.int .i64))], [], [(.one, .str)], []⟩
def herbariumref0_Zeros (K : Nat) (x0 : Int) : Option ByteArray :=
  if x0 = x0 ∧ (0 : Int) ≤ x0 ∧ (1 : Int) * x0 ≤ 281474976710656 ∧ x0 ≤ 9223372036854775807 then
  some (bytesOf (List.replicate x0.toNat (0 : Int)))
  else none
abbrev herbariumref17_NewDisk.sg : Sig := ⟨[(.one, (.int .i64))], [], [(.agg, Ty_api_Disk)], [.o, .o]⟩
def herbariumref17_NewDisk.l1 (K : Nat) (x0 : Int) : Nat → Int → (List ByteArray) → Option api_Disk
  | 0, _, _ => none
  | k + 1, i_10, d_11 =>
    if decide (i_10 < x0) then
      (herbariumref0_Zeros K 64).bind fun r12 =>
      if (d_11.length + ([r12] : List ByteArray).length) * 16 ≤ 140737488355328 then
      herbariumref17_NewDisk.l1 K x0 k (wr .i64 (i_10 + 1)) (d_11 ++ ([r12] : List ByteArray))
      else none
    else
      some ((d_11, ([] : List api_Put)) : api_Disk)
def herbariumref17_NewDisk (K : Nat) (x0 : Int) : Option api_Disk :=
  herbariumref17_NewDisk.l1 K x0 K (0 : Int) ([] : List ByteArray)
abbrev herbariumlaw19_num.sg : Sig := ⟨[(.one, (.int .i64))], [], [(.one, (.int .i64))], []⟩
def herbariumlaw19_num (K : Nat) (x0 : Int) : Option Int :=
  some x0
abbrev herbariumref0_EqStrings.sg : Sig := ⟨[(.one, (.sl .str)), (.one, (.sl .str))], [], [(.one, .bool)], []⟩
def herbariumref0_EqStrings.l1 (K : Nat) (x0 : List ByteArray) (x1 : List ByteArray) : Nat → Int → Option Bool
  | 0, _ => none
  | k + 1, i_10 =>
    if decide (i_10 < ((x0.length : Nat) : Int)) then
      if (0 : Int) ≤ i_10 ∧ i_10 < ((x0.length : Nat) : Int) then
      if (0 : Int) ≤ i_10 ∧ i_10 < ((x1.length : Nat) : Int) then
      if (!((nth x0 i_10).toList == (nth x1 i_10).toList)) then
        some false
      else
        herbariumref0_EqStrings.l1 K x0 x1 k (wr .i64 (i_10 + 1))
      else none
      else none
    else
      some true
def herbariumref0_EqStrings (K : Nat) (x0 : List ByteArray) (x1 : List ByteArray) : Option Bool :=
  if (((x0.length : Nat) : Int) != ((x1.length : Nat) : Int)) then
    some false
  else
    herbariumref0_EqStrings.l1 K x0 x1 K (0 : Int)
abbrev herbariumref0_EqPuts.sg : Sig := ⟨[(.one, (.sl Ty_api_Put)), (.one, (.sl Ty_api_Put))], [], [(.one, .bool)], []⟩
def herbariumref0_EqPuts.l1 (K : Nat) (x0 : List api_Put) (x1 : List api_Put) : Nat → Int → Option Bool
  | 0, _ => none
  | k + 1, i_10 =>
    if decide (i_10 < ((x0.length : Nat) : Int)) then
      if (0 : Int) ≤ i_10 ∧ i_10 < ((x0.length : Nat) : Int) then
      if (0 : Int) ≤ i_10 ∧ i_10 < ((x1.length : Nat) : Int) then
      if (!((((nth x0 i_10).At) == ((nth x1 i_10).At)) && ((((nth x0 i_10).Text) == ((nth x1 i_10).Text)) && true))) then
        some false
      else
        herbariumref0_EqPuts.l1 K x0 x1 k (wr .i64 (i_10 + 1))
      else none
      else none
    else
      some true
def herbariumref0_EqPuts (K : Nat) (x0 : List api_Put) (x1 : List api_Put) : Option Bool :=
  if (((x0.length : Nat) : Int) != ((x1.length : Nat) : Int)) then
    some false
  else
    herbariumref0_EqPuts.l1 K x0 x1 K (0 : Int)
abbrev herbariumref0_EqDisk.sg : Sig := ⟨[(.agg, Ty_api_Disk), (.agg, Ty_api_Disk)], [], [(.one, .bool)], []⟩
def herbariumref0_EqDisk (K : Nat) (x0 : api_Disk) (x1 : api_Disk) : Option Bool :=
  (herbariumref0_EqStrings K x0.Blocks x1.Blocks).bind fun r9 =>
  if r9 then
    (herbariumref0_EqPuts K x0.Waits x1.Waits).bind fun r15 =>
    some r15
  else
    some false
abbrev herbariumlaw0_Within.sg : Sig := ⟨[(.one, (.int .i64)), (.one, (.int .i64))], [], [(.one, (.int .i64))], []⟩
def herbariumlaw0_Within (K : Nat) (x0 : Int) (x1 : Int) : Option Int :=
  if (wr .u64 x1) ≠ 0 then
  some (wr .i64 ((wr .u64 x0).tmod (wr .u64 x1)))
  else none
abbrev herbariumref0_CopyStrings.sg : Sig := ⟨[(.one, (.sl .str))], [], [(.one, (.sl .str))], [.o]⟩
def herbariumref0_CopyStrings.l1 (K : Nat) (x0 : List ByteArray) : Nat → Int → (List ByteArray) → Option (List ByteArray)
  | 0, _, _ => none
  | k + 1, i_10, m_11 =>
    if decide (i_10 < ((x0.length : Nat) : Int)) then
      if (0 : Int) ≤ i_10 ∧ i_10 < ((x0.length : Nat) : Int) then
      if (m_11.length + ([nth x0 i_10] : List ByteArray).length) * 16 ≤ 140737488355328 then
      herbariumref0_CopyStrings.l1 K x0 k (wr .i64 (i_10 + 1)) (m_11 ++ ([nth x0 i_10] : List ByteArray))
      else none
      else none
    else
      some m_11
def herbariumref0_CopyStrings (K : Nat) (x0 : List ByteArray) : Option (List ByteArray) :=
  herbariumref0_CopyStrings.l1 K x0 K (0 : Int) ([] : List ByteArray)
abbrev herbariumref0_CopyPuts.sg : Sig := ⟨[(.one, (.sl Ty_api_Put))], [], [(.one, (.sl Ty_api_Put))], [.o]⟩
def herbariumref0_CopyPuts.l1 (K : Nat) (x0 : List api_Put) : Nat → Int → (List api_Put) → Option (List api_Put)
  | 0, _, _ => none
  | k + 1, i_10, m_11 =>
    if decide (i_10 < ((x0.length : Nat) : Int)) then
      if (0 : Int) ≤ i_10 ∧ i_10 < ((x0.length : Nat) : Int) then
      if (m_11.length + ([(nth x0 i_10)] : List api_Put).length) * 24 ≤ 140737488355328 then
      herbariumref0_CopyPuts.l1 K x0 k (wr .i64 (i_10 + 1)) (m_11 ++ ([(nth x0 i_10)] : List api_Put))
      else none
      else none
    else
      some m_11
def herbariumref0_CopyPuts (K : Nat) (x0 : List api_Put) : Option (List api_Put) :=
  herbariumref0_CopyPuts.l1 K x0 K (0 : Int) ([] : List api_Put)
abbrev herbariumref0_CopyDisk.sg : Sig := ⟨[(.agg, Ty_api_Disk)], [], [(.agg, Ty_api_Disk)], [.o, .o]⟩
def herbariumref0_CopyDisk (K : Nat) (x0 : api_Disk) : Option api_Disk :=
  (herbariumref0_CopyStrings K x0.Blocks).bind fun r7 =>
  (herbariumref0_CopyPuts K x0.Waits).bind fun r11 =>
  some ((r7, r11) : api_Disk)
abbrev herbariumref0_Num.sg : Sig := ⟨[(.one, (.int .i64)), (.one, (.int .i64))], [], [(.one, .bool)], []⟩
def herbariumref0_Num (K : Nat) (x0 : Int) (x1 : Int) : Option Bool :=
  if decide (x0 ≥ 0) then
    some (decide (x0 ≤ x1))
  else
    some false
abbrev herbariumref17_Disk.sg : Sig := ⟨[(.agg, Ty_api_Disk)], [], [(.one, .bool)], []⟩
def herbariumref17_Disk.l2 (K : Nat) (x0 : api_Disk) : Nat → Int → Option Bool
  | 0, _ => none
  | k + 1, i_11 =>
    if decide (i_11 < ((x0.Waits.length : Nat) : Int)) then
      if (0 : Int) ≤ i_11 ∧ i_11 < ((x0.Waits.length : Nat) : Int) then
      (herbariumref0_Num K ((nth x0.Waits i_11).At) (wr .i64 (((x0.Blocks.length : Nat) : Int) - 1))).bind fun r47 =>
      if (!r47) then
        some false
      else
        if (0 : Int) ≤ i_11 ∧ i_11 < ((x0.Waits.length : Nat) : Int) then
        if (((((nth x0.Waits i_11).Text).size : Nat) : Int) != 64) then
          some false
        else
          herbariumref17_Disk.l2 K x0 k (wr .i64 (i_11 + 1))
        else none
      else none
    else
      some true
def herbariumref17_Disk.l1 (K : Nat) (x0 : api_Disk) : Nat → Int → Option Bool
  | 0, _ => none
  | k + 1, i_10 =>
    if decide (i_10 < ((x0.Blocks.length : Nat) : Int)) then
      if (0 : Int) ≤ i_10 ∧ i_10 < ((x0.Blocks.length : Nat) : Int) then
      if ((((nth x0.Blocks i_10).size : Nat) : Int) != 64) then
        some false
      else
        herbariumref17_Disk.l1 K x0 k (wr .i64 (i_10 + 1))
      else none
    else
      herbariumref17_Disk.l2 K x0 K (0 : Int)
def herbariumref17_Disk (K : Nat) (x0 : api_Disk) : Option Bool :=
  (herbariumref0_Between K ((x0.Blocks.length : Nat) : Int) 1 117).bind fun r8 =>
  if (!r8) then
    some false
  else
    if decide (((x0.Waits.length : Nat) : Int) > 468) then
      some false
    else
      herbariumref17_Disk.l1 K x0 K (0 : Int)
abbrev herbariumref0_CopyNumbers.sg : Sig := ⟨[(.one, (.sl (.int .i64)))], [], [(.one, (.sl (.int .i64)))], [.o]⟩
def herbariumref0_CopyNumbers.l1 (K : Nat) (x0 : List Int) : Nat → Int → (List Int) → Option (List Int)
  | 0, _, _ => none
  | k + 1, i_10, m_11 =>
    if decide (i_10 < ((x0.length : Nat) : Int)) then
      if (0 : Int) ≤ i_10 ∧ i_10 < ((x0.length : Nat) : Int) then
      if (m_11.length + ([nth x0 i_10] : List Int).length) * 8 ≤ 140737488355328 then
      herbariumref0_CopyNumbers.l1 K x0 k (wr .i64 (i_10 + 1)) (m_11 ++ ([nth x0 i_10] : List Int))
      else none
      else none
    else
      some m_11
def herbariumref0_CopyNumbers (K : Nat) (x0 : List Int) : Option (List Int) :=
  herbariumref0_CopyNumbers.l1 K x0 K (0 : Int) ([] : List Int)
abbrev disk_block.sg : Sig := ⟨[(.one, .str)], [], [(.one, .bool)], []⟩
def disk_block (K : Nat) (x0 : ByteArray) : Option Bool :=
  some (((x0.size : Nat) : Int) == 64)
abbrev disk_May_1.sg : Sig := ⟨[(.one, .str)], [], [(.one, .bool)], []⟩
def disk_May_1 (K : Nat) (x0 : ByteArray) : Option Bool :=
  (disk_block K x0).bind fun r4 =>
  some (!r4)
abbrev disk_there.sg : Sig := ⟨[(.agg, Ty_api_Disk), (.one, (.int .i64))], [], [(.one, .bool)], []⟩
def disk_there (K : Nat) (x0 : api_Disk) (x1 : Int) : Option Bool :=
  if decide (x1 ≥ 0) then
    some (decide (x1 < ((x0.Blocks.length : Nat) : Int)))
  else
    some false
abbrev disk_May_2.sg : Sig := ⟨[(.agg, Ty_api_Put), (.box, Ty_api_Disk)], [], [(.one, .bool)], []⟩
def disk_May_2 (K : Nat) (x0 : api_Put) (x1 : api_Disk) : Option (Bool × api_Disk) :=
  (disk_there K x1 x0.At).bind fun r7 =>
  if (!r7) then
    some (true, x1)
  else
    (disk_block K x0.Text).bind fun r12 =>
    some ((!r12), x1)
abbrev slices_IndexFunc___string_string__disk_May_1.sg : Sig := ⟨[(.one, (.sl .str)), (.fn 69 0, .un)], [], [(.one, (.int .i64))], []⟩
def slices_IndexFunc___string_string__disk_May_1.l1 (K : Nat) (x0 : List ByteArray) : Nat → Int → Int → Option Int
  | 0, _, _ => none
  | k + 1, t_10, t_11 =>
    if decide (t_11 < t_10) then
      if (0 : Int) ≤ t_11 ∧ t_11 < ((x0.length : Nat) : Int) then
      (disk_May_1 K (nth x0 t_11)).bind fun r16 =>
      if r16 then
        some t_11
      else
        slices_IndexFunc___string_string__disk_May_1.l1 K x0 k t_10 (wr .i64 (t_11 + 1))
      else none
    else
      some ((-1) : Int)
def slices_IndexFunc___string_string__disk_May_1 (K : Nat) (x0 : List ByteArray) : Option Int :=
  slices_IndexFunc___string_string__disk_May_1.l1 K x0 K ((x0.length : Nat) : Int) (0 : Int)
abbrev slices_ContainsFunc___string_string__disk_May_1.sg : Sig := ⟨[(.one, (.sl .str)), (.fn 69 0, .un)], [], [(.one, .bool)], []⟩
def slices_ContainsFunc___string_string__disk_May_1 (K : Nat) (x0 : List ByteArray) : Option Bool :=
  (slices_IndexFunc___string_string__disk_May_1 K x0).bind fun r7 =>
  some (decide (r7 ≥ 0))
abbrev slices_IndexFunc___api_Put_api_Put__disk_May_2.sg : Sig := ⟨[(.one, (.sl Ty_api_Put)), (.fn 72 1, .un), (.hid, Ty_api_Disk)], [], [(.one, (.int .i64))], []⟩
def slices_IndexFunc___api_Put_api_Put__disk_May_2.l1 (K : Nat) (x0 : List api_Put) : Nat → Int → Int → (List ByteArray) → (List api_Put) → Option (Int × api_Disk)
  | 0, _, _, _, _ => none
  | k + 1, t_10, t_11, h_12, h_13 =>
    if decide (t_11 < t_10) then
      if (0 : Int) ≤ t_11 ∧ t_11 < ((x0.length : Nat) : Int) then
      (disk_May_2 K (nth x0 t_11) ((h_12, h_13) : api_Disk)).bind fun r16 =>
      if r16.1 then
        some (t_11, r16.2)
      else
        slices_IndexFunc___api_Put_api_Put__disk_May_2.l1 K x0 k t_10 (wr .i64 (t_11 + 1)) r16.2.Blocks r16.2.Waits
      else none
    else
      some ((-1), ((h_12, h_13) : api_Disk))
def slices_IndexFunc___api_Put_api_Put__disk_May_2 (K : Nat) (x0 : List api_Put) (x2 : api_Disk) : Option (Int × api_Disk) :=
  slices_IndexFunc___api_Put_api_Put__disk_May_2.l1 K x0 K ((x0.length : Nat) : Int) (0 : Int) x2.Blocks x2.Waits
abbrev slices_ContainsFunc___api_Put_api_Put__disk_May_2.sg : Sig := ⟨[(.one, (.sl Ty_api_Put)), (.fn 72 1, .un), (.hid, Ty_api_Disk)], [], [(.one, .bool)], []⟩
def slices_ContainsFunc___api_Put_api_Put__disk_May_2 (K : Nat) (x0 : List api_Put) (x2 : api_Disk) : Option (Bool × api_Disk) :=
  (slices_IndexFunc___api_Put_api_Put__disk_May_2 K x0 x2).bind fun r7 =>
  some (decide (r7.1 ≥ 0), r7.2)
abbrev disk_May.sg : Sig := ⟨[(.agg, Ty_api_Disk)], [], [(.one, .bool)], []⟩
def disk_May (K : Nat) (x0 : api_Disk) : Option Bool :=
  if decide (((x0.Blocks.length : Nat) : Int) < 1) then
    some false
  else
    if decide (((x0.Blocks.length : Nat) : Int) > 117) then
      some false
    else
      if decide (((x0.Waits.length : Nat) : Int) > 468) then
        some false
      else
        (slices_ContainsFunc___string_string__disk_May_1 K x0.Blocks).bind fun r21 =>
        if (!r21) then
          (slices_ContainsFunc___api_Put_api_Put__disk_May_2 K x0.Waits x0).bind fun r27 =>
          some (!r27.1)
        else
          some false
abbrev slices_Clone___string_string_.sg : Sig := ⟨[(.one, (.sl .str))], [], [(.one, (.sl .str))], [.o]⟩
def slices_Clone___string_string_ (K : Nat) (x0 : List ByteArray) : Option (List ByteArray) :=
  if (([] : List ByteArray).length + x0.length) * 16 ≤ 140737488355328 then
  some (([] : List ByteArray) ++ x0)
  else none
abbrev slices_Clone___api_Put_api_Put_.sg : Sig := ⟨[(.one, (.sl Ty_api_Put))], [], [(.one, (.sl Ty_api_Put))], [.o]⟩
def slices_Clone___api_Put_api_Put_ (K : Nat) (x0 : List api_Put) : Option (List api_Put) :=
  if (([] : List api_Put).length + x0.length) * 24 ≤ 140737488355328 then
  some (([] : List api_Put) ++ x0)
  else none
abbrev disk_Own.sg : Sig := ⟨[(.agg, Ty_api_Disk)], [], [(.agg, Ty_api_Disk)], [.o, .o]⟩
def disk_Own (K : Nat) (x0 : api_Disk) : Option api_Disk :=
  (slices_Clone___string_string_ K x0.Blocks).bind fun r5 =>
  (slices_Clone___api_Put_api_Put_ K x0.Waits).bind fun r8 =>
  some ((r5, r8) : api_Disk)
abbrev disk_Crash.sg : Sig := ⟨[(.agg, Ty_api_Disk), (.one, (.sl (.int .i64)))], [], [(.agg, Ty_api_Disk), (.one, (.int .i64))], [.o, .o]⟩
def disk_Crash.j2 (K : Nat) (go_l1 : Int → Int → (List ByteArray) → Option (api_Disk × Int)) (d_15 : List ByteArray) (r13 : api_Disk) (t_10 : Int) (t_11 : Int) (x1 : List Int) (t_14 : Bool) (p_12 : Int) (p_13 : ByteArray) : Option (api_Disk × Int) :=
  if t_14 then
    if (0 : Int) ≤ p_12 ∧ p_12 < ((d_15.length : Nat) : Int) then
    go_l1 t_10 (wr .i64 (t_11 + 1)) ((d_15).set p_12.toNat p_13)
    else none
  else
    go_l1 t_10 (wr .i64 (t_11 + 1)) d_15
def disk_Crash.l1 (K : Nat) (r13 : api_Disk) (x1 : List Int) : Nat → Int → Int → (List ByteArray) → Option (api_Disk × Int)
  | 0, _, _, _ => none
  | k + 1, t_10, t_11, d_15 =>
    if decide (t_11 < t_10) then
      if (0 : Int) ≤ t_11 ∧ t_11 < ((r13.Waits.length : Nat) : Int) then
      if decide (((x1.length : Nat) : Int) > 0) then
        if ((x1.length : Nat) : Int) ≠ 0 then
        if (0 : Int) ≤ (t_11.tmod ((x1.length : Nat) : Int)) ∧ (t_11.tmod ((x1.length : Nat) : Int)) < ((x1.length : Nat) : Int) then
        disk_Crash.j2 K (disk_Crash.l1 K r13 x1 k) d_15 r13 t_10 t_11 x1 ((ib .and .i64 (nth x1 (t_11.tmod ((x1.length : Nat) : Int))) 1) == 1) ((nth r13.Waits t_11).At) ((nth r13.Waits t_11).Text)
        else none
        else none
      else
        disk_Crash.j2 K (disk_Crash.l1 K r13 x1 k) d_15 r13 t_10 t_11 x1 false ((nth r13.Waits t_11).At) ((nth r13.Waits t_11).Text)
      else none
    else
      some (((d_15, ([] : List api_Put)) : api_Disk), 0)
def disk_Crash (K : Nat) (x0 : api_Disk) (x1 : List Int) : Option (api_Disk × Int) :=
  (disk_May K x0).bind fun r9 =>
  if (!r9) then
    some (((([] : List ByteArray), ([] : List api_Put)) : api_Disk), 1)
  else
    (disk_Own K x0).bind fun r13 =>
    disk_Crash.l1 K r13 x1 K ((r13.Waits.length : Nat) : Int) (0 : Int) r13.Blocks
abbrev herbariumref17_Crash.sg : Sig := ⟨[(.agg, Ty_api_Disk), (.one, (.sl (.int .i64)))], [], [(.agg, Ty_api_Disk)], [.o, .o]⟩
def herbariumref17_Crash.j2 (K : Nat) (go_l1 : Int → (List ByteArray) → Option api_Disk) (d_12 : List ByteArray) (i_10 : Int) (r7 : api_Disk) (x1 : List Int) (t_11 : Bool) : Option api_Disk :=
  if t_11 then
    if (0 : Int) ≤ i_10 ∧ i_10 < ((r7.Waits.length : Nat) : Int) then
    if (0 : Int) ≤ i_10 ∧ i_10 < ((r7.Waits.length : Nat) : Int) then
    if (0 : Int) ≤ ((nth r7.Waits i_10).At) ∧ ((nth r7.Waits i_10).At) < ((d_12.length : Nat) : Int) then
    go_l1 (wr .i64 (i_10 + 1)) ((d_12).set ((nth r7.Waits i_10).At).toNat ((nth r7.Waits i_10).Text))
    else none
    else none
    else none
  else
    go_l1 (wr .i64 (i_10 + 1)) d_12
def herbariumref17_Crash.l1 (K : Nat) (r7 : api_Disk) (x1 : List Int) : Nat → Int → (List ByteArray) → Option api_Disk
  | 0, _, _ => none
  | k + 1, i_10, d_12 =>
    if decide (i_10 < ((r7.Waits.length : Nat) : Int)) then
      if decide (((x1.length : Nat) : Int) > 0) then
        if ((x1.length : Nat) : Int) ≠ 0 then
        if (0 : Int) ≤ (i_10.tmod ((x1.length : Nat) : Int)) ∧ (i_10.tmod ((x1.length : Nat) : Int)) < ((x1.length : Nat) : Int) then
        herbariumref17_Crash.j2 K (herbariumref17_Crash.l1 K r7 x1 k) d_12 i_10 r7 x1 ((ib .and .i64 (nth x1 (i_10.tmod ((x1.length : Nat) : Int))) 1) == 1)
        else none
        else none
      else
        herbariumref17_Crash.j2 K (herbariumref17_Crash.l1 K r7 x1 k) d_12 i_10 r7 x1 false
    else
      some ((d_12, ([] : List api_Put)) : api_Disk)
def herbariumref17_Crash (K : Nat) (x0 : api_Disk) (x1 : List Int) : Option api_Disk :=
  (herbariumref0_CopyDisk K x0).bind fun r7 =>
  herbariumref17_Crash.l1 K r7 x1 K (0 : Int) r7.Blocks
abbrev herbariumref0_EqNumbers.sg : Sig := ⟨[(.one, (.sl (.int .i64))), (.one, (.sl (.int .i64)))], [], [(.one, .bool)], []⟩
def herbariumref0_EqNumbers.l1 (K : Nat) (x0 : List Int) (x1 : List Int) : Nat → Int → Option Bool
  | 0, _ => none
  | k + 1, i_10 =>
    if decide (i_10 < ((x0.length : Nat) : Int)) then
      if (0 : Int) ≤ i_10 ∧ i_10 < ((x0.length : Nat) : Int) then
      if (0 : Int) ≤ i_10 ∧ i_10 < ((x1.length : Nat) : Int) then
      if ((nth x0 i_10) != (nth x1 i_10)) then
        some false
      else
        herbariumref0_EqNumbers.l1 K x0 x1 k (wr .i64 (i_10 + 1))
      else none
      else none
    else
      some true
def herbariumref0_EqNumbers (K : Nat) (x0 : List Int) (x1 : List Int) : Option Bool :=
  if (((x0.length : Nat) : Int) != ((x1.length : Nat) : Int)) then
    some false
  else
    herbariumref0_EqNumbers.l1 K x0 x1 K (0 : Int)
abbrev disk_Read.sg : Sig := ⟨[(.agg, Ty_api_Disk), (.one, (.int .i64))], [], [(.one, .str), (.one, (.int .i64))], []⟩
def disk_Read.l1 (K : Nat) : List api_Put → (List ByteArray) → (List api_Put) → Int → ByteArray → Int → Option (ByteArray × Int)
  | [], d_10, d_11, i_12, t_13, t_14 =>
    if (0 : Int) ≤ i_12 ∧ i_12 < ((d_10.length : Nat) : Int) then
    some (nth d_10 i_12, 0)
    else none
  | el_24 :: k, d_10, d_11, i_12, t_13, t_14 =>
    if (el_24.At == i_12) then
      some (el_24.Text, 0)
    else
      disk_Read.l1 K k d_10 d_11 i_12 t_13 t_14
def disk_Read (K : Nat) (x0 : api_Disk) (x1 : Int) : Option (ByteArray × Int) :=
  (disk_May K x0).bind fun r10 =>
  if (!r10) then
    some (ByteArray.empty, 1)
  else
    (disk_there K x0 x1).bind fun r15 =>
    if (!r15) then
      some (ByteArray.empty, 3)
    else
      if x0.Waits.length < 4611686018427387904 then
      disk_Read.l1 K (List.reverse x0.Waits) x0.Blocks x0.Waits x1 ByteArray.empty (0 : Int)
      else none
abbrev herbariumref17_See.sg : Sig := ⟨[(.agg, Ty_api_Disk), (.one, (.int .i64))], [], [(.one, .str)], []⟩
def herbariumref17_See.l1 (K : Nat) (x0 : api_Disk) (x1 : Int) : Nat → ByteArray → Int → Option ByteArray
  | 0, _, _ => none
  | k + 1, s_10, k_11 =>
    if decide (k_11 < ((x0.Waits.length : Nat) : Int)) then
      if (0 : Int) ≤ k_11 ∧ k_11 < ((x0.Waits.length : Nat) : Int) then
      if (((nth x0.Waits k_11).At) == x1) then
        if (0 : Int) ≤ k_11 ∧ k_11 < ((x0.Waits.length : Nat) : Int) then
        herbariumref17_See.l1 K x0 x1 k ((nth x0.Waits k_11).Text) (wr .i64 (k_11 + 1))
        else none
      else
        herbariumref17_See.l1 K x0 x1 k s_10 (wr .i64 (k_11 + 1))
      else none
    else
      some s_10
def herbariumref17_See (K : Nat) (x0 : api_Disk) (x1 : Int) : Option ByteArray :=
  if (0 : Int) ≤ x1 ∧ x1 < ((x0.Blocks.length : Nat) : Int) then
  herbariumref17_See.l1 K x0 x1 K (nth x0.Blocks x1) (0 : Int)
  else none
abbrev disk_Spoil.sg : Sig := ⟨[(.agg, Ty_api_Disk), (.one, (.int .i64)), (.one, (.int .i64))], [], [(.agg, Ty_api_Disk), (.one, (.int .i64))], [.o, .o]⟩
def disk_Spoil.j1 (K : Nat) (x0 : api_Disk) (x1 : Int) (x2 : Int) (t_10 : Bool) : Option (api_Disk × Int) :=
  if t_10 then
    some (((([] : List ByteArray), ([] : List api_Put)) : api_Disk), 3)
  else
    if decide (((x0.Waits.length : Nat) : Int) > 0) then
      some (((([] : List ByteArray), ([] : List api_Put)) : api_Disk), 6)
    else
      (disk_Own K x0).bind fun r35 =>
      if (0 : Int) ≤ x1 ∧ x1 < ((r35.Blocks.length : Nat) : Int) then
      if (0 : Int) ≤ x2 ∧ x2 < (((bytesL (nth r35.Blocks x1)).length : Nat) : Int) then
      if (0 : Int) ≤ x2 ∧ x2 < (((bytesL (nth r35.Blocks x1)).length : Nat) : Int) then
      if (0 : Int) ≤ x1 ∧ x1 < ((r35.Blocks.length : Nat) : Int) then
      some ((((r35.Blocks).set x1.toNat (bytesOf ((bytesL (nth r35.Blocks x1)).set x2.toNat (ib .xor .u8 255 (nth (bytesL (nth r35.Blocks x1)) x2)))), r35.Waits) : api_Disk), 0)
      else none
      else none
      else none
      else none
def disk_Spoil (K : Nat) (x0 : api_Disk) (x1 : Int) (x2 : Int) : Option (api_Disk × Int) :=
  (disk_May K x0).bind fun r11 =>
  if (!r11) then
    some (((([] : List ByteArray), ([] : List api_Put)) : api_Disk), 1)
  else
    (disk_there K x0 x1).bind fun r17 =>
    if (!r17) then
      disk_Spoil.j1 K x0 x1 x2 true
    else
      if decide (x2 < 0) then
        disk_Spoil.j1 K x0 x1 x2 true
      else
        disk_Spoil.j1 K x0 x1 x2 (decide (x2 ≥ 64))
abbrev herbariumref17_Spoil.sg : Sig := ⟨[(.agg, Ty_api_Disk), (.one, (.int .i64)), (.one, (.int .i64))], [], [(.agg, Ty_api_Disk), (.one, (.int .i64))], [.o, .o]⟩
def herbariumref17_Spoil (K : Nat) (x0 : api_Disk) (x1 : Int) (x2 : Int) : Option (api_Disk × Int) :=
  (herbariumref0_Num K x1 (wr .i64 (((x0.Blocks.length : Nat) : Int) - 1))).bind fun r14 =>
  if (!r14) then
    some (((([] : List ByteArray), ([] : List api_Put)) : api_Disk), 3)
  else
    (herbariumref0_Num K x2 63).bind fun r18 =>
    if (!r18) then
      some (((([] : List ByteArray), ([] : List api_Put)) : api_Disk), 3)
    else
      if decide (((x0.Waits.length : Nat) : Int) > 0) then
        some (((([] : List ByteArray), ([] : List api_Put)) : api_Disk), 6)
      else
        (herbariumref0_CopyDisk K x0).bind fun r28 =>
        if (0 : Int) ≤ x1 ∧ x1 < ((r28.Blocks.length : Nat) : Int) then
        if (0 : Int) ≤ x2 ∧ x2 < (((bytesL (nth r28.Blocks x1)).length : Nat) : Int) then
        if (0 : Int) ≤ x2 ∧ x2 < (((bytesL (nth r28.Blocks x1)).length : Nat) : Int) then
        if (0 : Int) ≤ x1 ∧ x1 < ((r28.Blocks.length : Nat) : Int) then
        some ((((r28.Blocks).set x1.toNat (bytesOf ((bytesL (nth r28.Blocks x1)).set x2.toNat (ib .xor .u8 255 (nth (bytesL (nth r28.Blocks x1)) x2)))), r28.Waits) : api_Disk), 0)
        else none
        else none
        else none
        else none
abbrev herbariumref0_CopyDos.sg : Sig := ⟨[(.one, (.sl Ty_api_Do))], [], [(.one, (.sl Ty_api_Do))], [.o]⟩
def herbariumref0_CopyDos.l1 (K : Nat) (x0 : List api_Do) : Nat → Int → (List api_Do) → Option (List api_Do)
  | 0, _, _ => none
  | k + 1, i_10, m_11 =>
    if decide (i_10 < ((x0.length : Nat) : Int)) then
      if (0 : Int) ≤ i_10 ∧ i_10 < ((x0.length : Nat) : Int) then
      if (m_11.length + ([(nth x0 i_10)] : List api_Do).length) * 32 ≤ 140737488355328 then
      herbariumref0_CopyDos.l1 K x0 k (wr .i64 (i_10 + 1)) (m_11 ++ ([(nth x0 i_10)] : List api_Do))
      else none
      else none
    else
      some m_11
def herbariumref0_CopyDos (K : Nat) (x0 : List api_Do) : Option (List api_Do) :=
  herbariumref0_CopyDos.l1 K x0 K (0 : Int) ([] : List api_Do)
abbrev disk_Step.sg : Sig := ⟨[(.box, Ty_api_Disk), (.agg, Ty_api_Do)], [.o, .o], [(.one, (.int .i64))], [.s, .o, .o]⟩
def disk_Step.l1 (K : Nat) (x0 : api_Disk) : Nat → Int → Int → (List ByteArray) → Option (Int × api_Disk)
  | 0, _, _, _ => none
  | k + 1, t_10, t_11, h_12 =>
    if decide (t_11 < t_10) then
      if (0 : Int) ≤ t_11 ∧ t_11 < ((x0.Waits.length : Nat) : Int) then
      if (0 : Int) ≤ ((nth x0.Waits t_11).At) ∧ ((nth x0.Waits t_11).At) < ((h_12.length : Nat) : Int) then
      disk_Step.l1 K x0 k t_10 (wr .i64 (t_11 + 1)) ((h_12).set ((nth x0.Waits t_11).At).toNat ((nth x0.Waits t_11).Text))
      else none
      else none
    else
      some (0, ((h_12, ([] : List api_Put)) : api_Disk))
def disk_Step (K : Nat) (x0 : api_Disk) (x1 : api_Do) : Option (Int × api_Disk) :=
  if x1.Sync then
    disk_Step.l1 K x0 K ((x0.Waits.length : Nat) : Int) (0 : Int) x0.Blocks
  else
    (disk_there K x0 x1.Put.At).bind fun r50 =>
    if (!r50) then
      some (3, x0)
    else
      (disk_block K x1.Put.Text).bind fun r56 =>
      if (!r56) then
        some (1, x0)
      else
        if decide (((x0.Waits.length : Nat) : Int) ≥ 468) then
          some (2, x0)
        else
          if (x0.Waits.length + ([x1.Put] : List api_Put).length) * 24 ≤ 140737488355328 then
          some (0, ((x0.Blocks, x0.Waits ++ ([x1.Put] : List api_Put)) : api_Disk))
          else none
abbrev disk_Play.sg : Sig := ⟨[(.agg, Ty_api_Disk), (.one, (.int .i64)), (.one, (.sl Ty_api_Do))], [], [(.agg, Ty_api_Disk), (.one, (.int .i64))], [.o, .o]⟩
def disk_Play.l1 (K : Nat) (x1 : Int) (x2 : List api_Do) : Nat → Int → Int → (List ByteArray) → (List api_Put) → Option (api_Disk × Int)
  | 0, _, _, _, _ => none
  | k + 1, t_10, t_11, d_12, d_13 =>
    if decide (t_11 < t_10) then
      if (0 : Int) ≤ t_11 ∧ t_11 < ((x2.length : Nat) : Int) then
      if (t_11 == x1) then
        some (((d_12, d_13) : api_Disk), 0)
      else
        (disk_Step K ((d_12, d_13) : api_Disk) (nth x2 t_11)).bind fun r32 =>
        if (r32.1 != 0) then
          some (((([] : List ByteArray), ([] : List api_Put)) : api_Disk), r32.1)
        else
          disk_Play.l1 K x1 x2 k t_10 (wr .i64 (t_11 + 1)) r32.2.Blocks r32.2.Waits
      else none
    else
      some (((d_12, d_13) : api_Disk), 0)
def disk_Play (K : Nat) (x0 : api_Disk) (x1 : Int) (x2 : List api_Do) : Option (api_Disk × Int) :=
  (disk_May K x0).bind fun r12 =>
  if (!r12) then
    some (((([] : List ByteArray), ([] : List api_Put)) : api_Disk), 1)
  else
    if decide (x1 < (-1)) then
      some (((([] : List ByteArray), ([] : List api_Put)) : api_Disk), 1)
    else
      (disk_Own K x0).bind fun r20 =>
      disk_Play.l1 K x1 x2 K ((x2.length : Nat) : Int) (0 : Int) r20.Blocks r20.Waits
abbrev herbariumref17_Play.sg : Sig := ⟨[(.agg, Ty_api_Disk), (.one, (.int .i64)), (.one, (.sl Ty_api_Do))], [], [(.agg, Ty_api_Disk), (.one, (.int .i64))], [.o, .o]⟩
def herbariumref17_Play.l1 (K : Nat) (x1 : Int) (x2 : List api_Do) : Nat → Int → (List ByteArray) → (List api_Put) → Option (api_Disk × Int)
  | 0, _, _, _ => none
  | k + 1, t_10, t_11, t_12 =>
    if decide (t_10 < ((x2.length : Nat) : Int)) then
      if decide (x1 < 0) then
        if (0 : Int) ≤ t_10 ∧ t_10 < ((x2.length : Nat) : Int) then
        if (nth x2 t_10).Sync then
          (herbariumref17_Crash K ((t_11, t_12) : api_Disk) ([1] : List Int)).bind fun r34 =>
          herbariumref17_Play.l1 K x1 x2 k (wr .i64 (t_10 + 1)) r34.Blocks r34.Waits
        else
          if (0 : Int) ≤ t_10 ∧ t_10 < ((x2.length : Nat) : Int) then
          (herbariumref0_Num K (((nth x2 t_10).Put).At) (wr .i64 (((t_11.length : Nat) : Int) - 1))).bind fun r46 =>
          if (!r46) then
            some (((([] : List ByteArray), ([] : List api_Put)) : api_Disk), 3)
          else
            if ((((((nth x2 t_10).Put).Text).size : Nat) : Int) != 64) then
              some (((([] : List ByteArray), ([] : List api_Put)) : api_Disk), 1)
            else
              if decide (((t_12.length : Nat) : Int) ≥ 468) then
                some (((([] : List ByteArray), ([] : List api_Put)) : api_Disk), 2)
              else
                if (t_12.length + ([((nth x2 t_10).Put)] : List api_Put).length) * 24 ≤ 140737488355328 then
                herbariumref17_Play.l1 K x1 x2 k (wr .i64 (t_10 + 1)) t_11 (t_12 ++ ([((nth x2 t_10).Put)] : List api_Put))
                else none
          else none
        else none
      else
        if decide (t_10 < x1) then
          if (0 : Int) ≤ t_10 ∧ t_10 < ((x2.length : Nat) : Int) then
          if (nth x2 t_10).Sync then
            (herbariumref17_Crash K ((t_11, t_12) : api_Disk) ([1] : List Int)).bind fun r34 =>
            herbariumref17_Play.l1 K x1 x2 k (wr .i64 (t_10 + 1)) r34.Blocks r34.Waits
          else
            if (0 : Int) ≤ t_10 ∧ t_10 < ((x2.length : Nat) : Int) then
            (herbariumref0_Num K (((nth x2 t_10).Put).At) (wr .i64 (((t_11.length : Nat) : Int) - 1))).bind fun r46 =>
            if (!r46) then
              some (((([] : List ByteArray), ([] : List api_Put)) : api_Disk), 3)
            else
              if ((((((nth x2 t_10).Put).Text).size : Nat) : Int) != 64) then
                some (((([] : List ByteArray), ([] : List api_Put)) : api_Disk), 1)
              else
                if decide (((t_12.length : Nat) : Int) ≥ 468) then
                  some (((([] : List ByteArray), ([] : List api_Put)) : api_Disk), 2)
                else
                  if (t_12.length + ([((nth x2 t_10).Put)] : List api_Put).length) * 24 ≤ 140737488355328 then
                  herbariumref17_Play.l1 K x1 x2 k (wr .i64 (t_10 + 1)) t_11 (t_12 ++ ([((nth x2 t_10).Put)] : List api_Put))
                  else none
            else none
          else none
        else
          some (((t_11, t_12) : api_Disk), 0)
    else
      some (((t_11, t_12) : api_Disk), 0)
def herbariumref17_Play (K : Nat) (x0 : api_Disk) (x1 : Int) (x2 : List api_Do) : Option (api_Disk × Int) :=
  (herbariumref0_CopyDisk K x0).bind fun r11 =>
  herbariumref17_Play.l1 K x1 x2 K (0 : Int) r11.Blocks r11.Waits
abbrev herbariumref0_EqDos.sg : Sig := ⟨[(.one, (.sl Ty_api_Do)), (.one, (.sl Ty_api_Do))], [], [(.one, .bool)], []⟩
def herbariumref0_EqDos.l1 (K : Nat) (x0 : List api_Do) (x1 : List api_Do) : Nat → Int → Option Bool
  | 0, _ => none
  | k + 1, i_10 =>
    if decide (i_10 < ((x0.length : Nat) : Int)) then
      if (0 : Int) ≤ i_10 ∧ i_10 < ((x0.length : Nat) : Int) then
      if (0 : Int) ≤ i_10 ∧ i_10 < ((x1.length : Nat) : Int) then
      if (!((((nth x0 i_10).Sync) == ((nth x1 i_10).Sync)) && ((((((nth x0 i_10).Put).At) == (((nth x1 i_10).Put).At)) && (((((nth x0 i_10).Put).Text) == (((nth x1 i_10).Put).Text)) && true)) && true))) then
        some false
      else
        herbariumref0_EqDos.l1 K x0 x1 k (wr .i64 (i_10 + 1))
      else none
      else none
    else
      some true
def herbariumref0_EqDos (K : Nat) (x0 : List api_Do) (x1 : List api_Do) : Option Bool :=
  if (((x0.length : Nat) : Int) != ((x1.length : Nat) : Int)) then
    some false
  else
    herbariumref0_EqDos.l1 K x0 x1 K (0 : Int)
abbrev disk_Check.sg : Sig := ⟨[(.agg, Ty_api_Disk)], [], [(.one, (.int .i64))], []⟩
def disk_Check (K : Nat) (x0 : api_Disk) : Option Int :=
  (disk_May K x0).bind fun r4 =>
  if (!r4) then
    some (1 : Int)
  else
    some (0 : Int)
abbrev herbariumlaw0_Disk.sg : Sig := ⟨[(.agg, Ty_api_Disk)], [.o, .o], [], []⟩
def herbariumlaw0_Disk.l2 (K : Nat) : Nat → Int → (List ByteArray) → (List api_Put) → Option Unit
  | 0, _, _, _ => none
  | k + 1, i_11, d_14, d_13 =>
    if decide (i_11 < ((d_13.length : Nat) : Int)) then
      if (0 : Int) ≤ i_11 ∧ i_11 < ((d_13.length : Nat) : Int) then
      herbariumlaw0_Disk.l2 K k (wr .i64 (i_11 + 1)) d_14 ((d_13).set i_11.toNat (((-9), ByteArray.empty) : api_Put))
      else none
    else
      some ()
def herbariumlaw0_Disk.l1 (K : Nat) (x0 : api_Disk) : Nat → Int → (List ByteArray) → Option Unit
  | 0, _, _ => none
  | k + 1, i_10, d_12 =>
    if decide (i_10 < ((d_12.length : Nat) : Int)) then
      if (0 : Int) ≤ i_10 ∧ i_10 < ((d_12.length : Nat) : Int) then
      herbariumlaw0_Disk.l1 K x0 k (wr .i64 (i_10 + 1)) ((d_12).set i_10.toNat (⟨#[115, 112, 111, 105, 108, 116]⟩ : ByteArray))
      else none
    else
      herbariumlaw0_Disk.l2 K K (0 : Int) d_12 x0.Waits
def herbariumlaw0_Disk (K : Nat) (x0 : api_Disk) : Option Unit :=
  herbariumlaw0_Disk.l1 K x0 K (0 : Int) x0.Blocks
abbrev herbariumlaw19_step.sg : Sig := ⟨[(.agg, Ty_api_Disk), (.agg, Ty_herbariumlaw19_Act)], [], [(.agg, Ty_api_Disk), (.one, .bool)], []⟩
def herbariumlaw19_step.j1 (K : Nat) (r19 : api_Disk) (r21 : Bool) (x0 : api_Disk) (t_21 : Int) (t_26 : Int) (t_22 : List ByteArray) (t_23 : List api_Put) (t_24 : List ByteArray) (t_25 : List api_Put) : Option (api_Disk × Bool) :=
  (herbariumlaw19_num K t_26).bind fun r141 =>
  if (r141 != t_21) then
    some (x0, false)
  else
    (herbariumref0_EqDisk K ((t_22, t_23) : api_Disk) ((t_24, t_25) : api_Disk)).bind fun r147 =>
    if (!r147) then
      some (x0, false)
    else
      (herbariumref0_EqDisk K r19 x0).bind fun r153 =>
      if (!r153) then
        some (x0, false)
      else
        (disk_Check K r19).bind fun r158 =>
        (herbariumlaw19_num K r158).bind fun r159 =>
        if (!((r159 == 0) == r21)) then
          some (x0, false)
        else
          (herbariumlaw0_Disk K ((t_22, t_23) : api_Disk)).bind fun r166 =>
          (herbariumref0_EqDisk K r19 x0).bind fun r169 =>
          if (!r169) then
            some (x0, false)
          else
            if (t_21 != 0) then
              some (x0, true)
            else
              (herbariumref0_CopyDisk K ((t_24, t_25) : api_Disk)).bind fun r176 =>
              some (r176, true)
def herbariumlaw19_step.j5 (K : Nat) (r19 : api_Disk) (r21 : Bool) (r27 : List api_Do) (r33 : api_Disk × Int) (x0 : api_Disk) (x1 : herbariumlaw19_Act) (t_18 : Int) (t_19 : List ByteArray) (t_20 : List api_Put) : Option (api_Disk × Bool) :=
  (herbariumref0_EqDos K r27 x1.L).bind fun r54 =>
  if (!r54) then
    some (x0, false)
  else
    herbariumlaw19_step.j1 K r19 r21 x0 t_18 r33.2 r33.1.Blocks r33.1.Waits t_19 t_20
def herbariumlaw19_step.j6 (K : Nat) (r19 : api_Disk) (r21 : Bool) (r27 : List api_Do) (r33 : api_Disk × Int) (t_10 : Int) (x0 : api_Disk) (x1 : herbariumlaw19_Act) (t_17 : Bool) : Option (api_Disk × Bool) :=
  if t_17 then
    (herbariumref17_Play K x0 x1.N x1.L).bind fun r48 =>
    herbariumlaw19_step.j5 K r19 r21 r27 r33 x0 x1 r48.2 r48.1.Blocks r48.1.Waits
  else
    herbariumlaw19_step.j5 K r19 r21 r27 r33 x0 x1 t_10 ([] : List ByteArray) ([] : List api_Put)
def herbariumlaw19_step.j4 (K : Nat) (r19 : api_Disk) (r86 : ByteArray × Int) (x0 : api_Disk) (t_15 : Int) (t_16 : ByteArray) : Option (api_Disk × Bool) :=
  (herbariumlaw19_num K r86.2).bind fun r103 =>
  if (r103 == t_15) then
    if (r86.1.toList == t_16.toList) then
      (herbariumref0_EqDisk K r19 x0).bind fun r114 =>
      some (x0, r114)
    else
      some (x0, false)
  else
    some (x0, false)
def herbariumlaw19_step.j3 (K : Nat) (r19 : api_Disk) (r21 : Bool) (r62 : List Int) (r66 : api_Disk × Int) (x0 : api_Disk) (x1 : herbariumlaw19_Act) (t_12 : Int) (t_13 : List ByteArray) (t_14 : List api_Put) : Option (api_Disk × Bool) :=
  (herbariumref0_EqNumbers K r62 x1.K).bind fun r77 =>
  if (!r77) then
    some (x0, false)
  else
    herbariumlaw19_step.j1 K r19 r21 x0 t_12 r66.2 r66.1.Blocks r66.1.Waits t_13 t_14
def herbariumlaw19_step.j2 (K : Nat) (r19 : api_Disk) (r21 : Bool) (r24 : Int) (x0 : api_Disk) (x1 : herbariumlaw19_Act) (t_10 : Int) (t_11 : Bool) : Option (api_Disk × Bool) :=
  if t_11 then
    (herbariumref0_CopyNumbers K x1.K).bind fun r62 =>
    (disk_Crash K r19 r62).bind fun r66 =>
    if r21 then
      (herbariumref17_Crash K x0 x1.K).bind fun r73 =>
      herbariumlaw19_step.j3 K r19 r21 r62 r66 x0 x1 (0 : Int) r73.Blocks r73.Waits
    else
      herbariumlaw19_step.j3 K r19 r21 r62 r66 x0 x1 t_10 ([] : List ByteArray) ([] : List api_Put)
  else
    if (r24 == 6) then
      (disk_Read K r19 x1.N).bind fun r86 =>
      if r21 then
        (herbariumref0_Num K x1.N (wr .i64 (((x0.Blocks.length : Nat) : Int) - 1))).bind fun r96 =>
        if r96 then
          (herbariumref17_See K x0 x1.N).bind fun r100 =>
          herbariumlaw19_step.j4 K r19 r86 x0 (0 : Int) r100
        else
          herbariumlaw19_step.j4 K r19 r86 x0 (3 : Int) ByteArray.empty
      else
        herbariumlaw19_step.j4 K r19 r86 x0 t_10 ByteArray.empty
    else
      if (r24 == 7) then
        (disk_Spoil K r19 x1.N (wr .i64 ((wr .i64 (((x1.K.length : Nat) : Int) * 17)) - 1))).bind fun r128 =>
        if r21 then
          (herbariumref17_Spoil K x0 x1.N (wr .i64 ((wr .i64 (((x1.K.length : Nat) : Int) * 17)) - 1))).bind fun r137 =>
          herbariumlaw19_step.j1 K r19 r21 x0 r137.2 r128.2 r128.1.Blocks r128.1.Waits r137.1.Blocks r137.1.Waits
        else
          herbariumlaw19_step.j1 K r19 r21 x0 t_10 r128.2 r128.1.Blocks r128.1.Waits ([] : List ByteArray) ([] : List api_Put)
      else
        (herbariumref0_CopyDos K x1.L).bind fun r27 =>
        (disk_Play K r19 x1.N r27).bind fun r33 =>
        if r21 then
          herbariumlaw19_step.j6 K r19 r21 r27 r33 t_10 x0 x1 (decide (x1.N ≥ (-1)))
        else
          herbariumlaw19_step.j6 K r19 r21 r27 r33 t_10 x0 x1 false
def herbariumlaw19_step (K : Nat) (x0 : api_Disk) (x1 : herbariumlaw19_Act) : Option (api_Disk × Bool) :=
  (herbariumref0_CopyDisk K x0).bind fun r19 =>
  (herbariumref17_Disk K x0).bind fun r21 =>
  (herbariumlaw0_Within K x1.Do 8).bind fun r24 =>
  if (r24 == 4) then
    herbariumlaw19_step.j2 K r19 r21 r24 x0 x1 (1 : Int) (r24 == 4)
  else
    herbariumlaw19_step.j2 K r19 r21 r24 x0 x1 (1 : Int) (r24 == 5)
abbrev herbariumlaw19_wakes.sg : Sig := ⟨[], [], [(.one, .bool)], []⟩
def herbariumlaw19_wakes (K : Nat) : Option Bool :=
  (disk_New K 3).bind fun r11 =>
  (herbariumref0_Zeros K 63).bind fun r14 =>
  if (((⟨#[120]⟩ : ByteArray).size + r14.size : Nat) : Int) ≤ 9223372036854775807 then
  (disk_Play K r11.1 (-1) ([((false, ((1, (⟨#[120]⟩ : ByteArray) ++ r14) : api_Put)) : api_Do)] : List api_Do)).bind fun r22 =>
  (disk_Read K r22.1 1).bind fun r27 =>
  (disk_Crash K r22.1 ([] : List Int)).bind fun r32 =>
  (disk_Read K r32.1 1).bind fun r37 =>
  (herbariumlaw19_num K r11.2).bind fun r41 =>
  (herbariumlaw19_num K r22.2).bind fun r43 =>
  (herbariumlaw19_num K r27.2).bind fun r46 =>
  (herbariumlaw19_num K r32.2).bind fun r49 =>
  (herbariumlaw19_num K r37.2).bind fun r52 =>
  if ((wr .i64 ((wr .i64 ((wr .i64 ((wr .i64 (r41 + r43)) + r46)) + r49)) + r52)) == 0) then
    if (r27.1.toList == ((⟨#[120]⟩ : ByteArray) ++ r14).toList) then
      (herbariumref0_Zeros K 64).bind fun r62 =>
      some (r37.1.toList == r62.toList)
    else
      some false
  else
    some false
  else none
abbrev herbariumlaw19_DiskExact.sg : Sig := ⟨[(.agg, Ty_herbariumlaw19_Script)], [], [(.one, .bool)], []⟩
def herbariumlaw19_DiskExact.l3 (K : Nat) (go_l2 : Int → (List api_Disk) → Option Bool) (t_13 : List api_Disk) (t_14 : Int) (x0 : herbariumlaw19_Script) : Nat → Int → (List ByteArray) → (List api_Put) → Option Bool
  | 0, _, _, _ => none
  | k + 1, t_15, t_16, t_17 =>
    if decide (t_15 < ((x0.A.length : Nat) : Int)) then
      if decide (t_15 < 12) then
        if (0 : Int) ≤ t_15 ∧ t_15 < ((x0.A.length : Nat) : Int) then
        (herbariumlaw19_step K ((t_16, t_17) : api_Disk) (nth x0.A t_15)).bind fun r72 =>
        if (!r72.2) then
          some false
        else
          herbariumlaw19_DiskExact.l3 K go_l2 t_13 t_14 x0 k (wr .i64 (t_15 + 1)) r72.1.Blocks r72.1.Waits
        else none
      else
        go_l2 (wr .i64 (t_14 + 1)) t_13
    else
      go_l2 (wr .i64 (t_14 + 1)) t_13
def herbariumlaw19_DiskExact.l2 (K : Nat) (x0 : herbariumlaw19_Script) : Nat → Int → (List api_Disk) → Option Bool
  | 0, _, _ => none
  | k + 1, t_14, t_13 =>
    if decide (t_14 < 2) then
      if (0 : Int) ≤ t_14 ∧ t_14 < ((t_13.length : Nat) : Int) then
      (herbariumref0_CopyDisk K (nth t_13 t_14)).bind fun r53 =>
      herbariumlaw19_DiskExact.l3 K (herbariumlaw19_DiskExact.l2 K x0 k) t_13 t_14 x0 K (0 : Int) r53.Blocks r53.Waits
      else none
    else
      (herbariumlaw19_wakes K).bind fun r78 =>
      some r78
def herbariumlaw19_DiskExact.j1 (K : Nat) (r18 : api_Disk × Int) (x0 : herbariumlaw19_Script) (t_10 : Int) (t_11 : List ByteArray) (t_12 : List api_Put) : Option Bool :=
  (herbariumlaw19_num K r18.2).bind fun r28 =>
  if (r28 != t_10) then
    some false
  else
    (herbariumref0_EqDisk K r18.1 ((t_11, t_12) : api_Disk)).bind fun r34 =>
    if (!r34) then
      some false
    else
      (herbariumlaw0_Within K x0.N 9).bind fun r41 =>
      (herbariumref17_NewDisk K (wr .i64 (1 + r41))).bind fun r43 =>
      herbariumlaw19_DiskExact.l2 K x0 K (0 : Int) ([x0.D, r43] : List api_Disk)
def herbariumlaw19_DiskExact (K : Nat) (x0 : herbariumlaw19_Script) : Option Bool :=
  (herbariumlaw19_Heavy K x0).bind fun r14 =>
  if r14 then
    some true
  else
    (disk_New K x0.N).bind fun r18 =>
    (herbariumref0_Between K x0.N 1 117).bind fun r23 =>
    if r23 then
      (herbariumref17_NewDisk K x0.N).bind fun r26 =>
      herbariumlaw19_DiskExact.j1 K r18 x0 (0 : Int) r26.Blocks r26.Waits
    else
      herbariumlaw19_DiskExact.j1 K r18 x0 (1 : Int) ([] : List ByteArray) ([] : List api_Put)
abbrev herbariumlaw19_only.sg : Sig := ⟨[(.agg, Ty_herbariumlaw19_Script), (.one, (.sl (.int .i64)))], [], [(.one, .bool)], []⟩
def herbariumlaw19_only.l1 (K : Nat) (x0 : herbariumlaw19_Script) (x1 : List Int) : Nat → Int → (List herbariumlaw19_Act) → Option Bool
  | 0, _, _ => none
  | k + 1, i_10, q_11 =>
    if decide (i_10 < ((x0.A.length : Nat) : Int)) then
      if (0 : Int) ≤ i_10 ∧ i_10 < ((x0.A.length : Nat) : Int) then
      if ((x1.length : Nat) : Int) ≠ 0 then
      if (0 : Int) ≤ (i_10.tmod ((x1.length : Nat) : Int)) ∧ (i_10.tmod ((x1.length : Nat) : Int)) < ((x1.length : Nat) : Int) then
      if (q_11.length + ([((nth x1 (i_10.tmod ((x1.length : Nat) : Int)), (nth x0.A i_10).N, (nth x0.A i_10).L, (nth x0.A i_10).K) : herbariumlaw19_Act)] : List herbariumlaw19_Act).length) * 64 ≤ 140737488355328 then
      herbariumlaw19_only.l1 K x0 x1 k (wr .i64 (i_10 + 1)) (q_11 ++ ([((nth x1 (i_10.tmod ((x1.length : Nat) : Int)), (nth x0.A i_10).N, (nth x0.A i_10).L, (nth x0.A i_10).K) : herbariumlaw19_Act)] : List herbariumlaw19_Act))
      else none
      else none
      else none
      else none
    else
      (herbariumlaw19_DiskExact K ((x0.D, x0.N, q_11) : herbariumlaw19_Script)).bind fun r37 =>
      some r37
def herbariumlaw19_only (K : Nat) (x0 : herbariumlaw19_Script) (x1 : List Int) : Option Bool :=
  herbariumlaw19_only.l1 K x0 x1 K (0 : Int) ([] : List herbariumlaw19_Act)
abbrev herbariumlaw19_DiskPlays.sg : Sig := ⟨[(.agg, Ty_herbariumlaw19_Script)], [], [(.one, .bool)], []⟩
def herbariumlaw19_DiskPlays (K : Nat) (x0 : herbariumlaw19_Script) : Option Bool :=
  (herbariumlaw19_only K x0 ([0, 6, 1] : List Int)).bind fun r5 =>
  some r5
abbrev herbariumlaw19_DiskCrashes.sg : Sig := ⟨[(.agg, Ty_herbariumlaw19_Script)], [], [(.one, .bool)], []⟩
def herbariumlaw19_DiskCrashes (K : Nat) (x0 : herbariumlaw19_Script) : Option Bool :=
  (herbariumlaw19_only K x0 ([0, 4, 6, 0, 5] : List Int)).bind fun r5 =>
  some r5
abbrev herbariumlaw19_DiskSpoils.sg : Sig := ⟨[(.agg, Ty_herbariumlaw19_Script)], [], [(.one, .bool)], []⟩
def herbariumlaw19_DiskSpoils (K : Nat) (x0 : herbariumlaw19_Script) : Option Bool :=
  (herbariumlaw19_only K x0 ([0, 4, 7, 6, 7] : List Int)).bind fun r5 =>
  some r5
end Go.XM
end
