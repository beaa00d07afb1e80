import Derived.Test.YtobccadjomcoiaaDyH0
set_option linter.all false
section
namespace Go.XM
set_option maxRecDepth 100000
abbrev api_Put : Type := Int × ByteArray
abbrev Ty_api_Put : Ty := (.pr (.int .i64) .str)
abbrev api_Put.At (x : api_Put) : Int := x.1
abbrev api_Put.Text (x : api_Put) : ByteArray := x.2
abbrev api_Disk : Type := (List ByteArray) × (List api_Put)
abbrev Ty_api_Disk : Ty := (.pr (.sl .str) (.sl Ty_api_Put))
abbrev api_Disk.Blocks (x : api_Disk) : List ByteArray := x.1
abbrev api_Disk.Waits (x : api_Disk) : List api_Put := x.2
abbrev herbariumlaw0_DiskWeight.sg : Sig := ⟨[(.agg, Ty_api_Disk)], [], [(.one, (.int .i64))], []⟩
def herbariumlaw0_DiskWeight.l2 (K : Nat) (x0 : api_Disk) : Nat → Int → Int → Option Int
  | 0, _, _ => none
  | k + 1, n_13, i_12 =>
    if decide (i_12 < ((x0.Waits.length : Nat) : Int)) then
      if decide (n_13 < 1048576) then
        if (0 : Int) ≤ i_12 ∧ i_12 < ((x0.Waits.length : Nat) : Int) then
        if (128 : Int) ≠ 0 then
        herbariumlaw0_DiskWeight.l2 K x0 k (wr .i64 (n_13 + (wr .i64 (((((nth x0.Waits i_12).Text).size : Nat) : Int).tdiv 128)))) (wr .i64 (i_12 + 1))
        else none
        else none
      else
        some n_13
    else
      some n_13
def herbariumlaw0_DiskWeight.l1 (K : Nat) (x0 : api_Disk) : Nat → Int → Int → Option Int
  | 0, _, _ => none
  | k + 1, n_10, i_11 =>
    if decide (i_11 < ((x0.Blocks.length : Nat) : Int)) then
      if decide (n_10 < 1048576) then
        if (0 : Int) ≤ i_11 ∧ i_11 < ((x0.Blocks.length : Nat) : Int) then
        if (128 : Int) ≠ 0 then
        herbariumlaw0_DiskWeight.l1 K x0 k (wr .i64 (n_10 + (wr .i64 ((((nth x0.Blocks i_11).size : Nat) : Int).tdiv 128)))) (wr .i64 (i_11 + 1))
        else none
        else none
      else
        herbariumlaw0_DiskWeight.l2 K x0 K n_10 (0 : Int)
    else
      herbariumlaw0_DiskWeight.l2 K x0 K n_10 (0 : Int)
def herbariumlaw0_DiskWeight (K : Nat) (x0 : api_Disk) : Option Int :=
  herbariumlaw0_DiskWeight.l1 K x0 K (wr .i64 (((x0.Blocks.length : Nat) : Int) + ((x0.Waits.length : Nat) : Int))) (0 : Int)
abbrev api_Do : Type := Bool × api_Put
abbrev Ty_api_Do : Ty := (.pr .bool Ty_api_Put)
abbrev api_Do.Sync (x : api_Do) : Bool := x.1
abbrev api_Do.Put (x : api_Do) : api_Put := x.2
abbrev herbariumlaw19_Act : Type := Int × Int × (List api_Do) × (List Int)
abbrev Ty_herbariumlaw19_Act : Ty := (.pr (.int .i64) (.pr (.int .i64) (.pr (.sl Ty_api_Do) (.sl (.int .i64)))))
abbrev herbariumlaw19_Act.Do (x : herbariumlaw19_Act) : Int := x.1
abbrev herbariumlaw19_Act.N (x : herbariumlaw19_Act) : Int := x.2.1
abbrev herbariumlaw19_Act.L (x : herbariumlaw19_Act) : List api_Do := x.2.2.1
abbrev herbariumlaw19_Act.K (x : herbariumlaw19_Act) : List Int := x.2.2.2
abbrev herbariumlaw19_Script : Type := api_Disk × Int × (List herbariumlaw19_Act)
abbrev Ty_herbariumlaw19_Script : Ty := (.pr Ty_api_Disk (.pr (.int .i64) (.sl Ty_herbariumlaw19_Act)))
abbrev herbariumlaw19_Script.D (x : herbariumlaw19_Script) : api_Disk := x.1
abbrev herbariumlaw19_Script.N (x : herbariumlaw19_Script) : Int := x.2.1
abbrev herbariumlaw19_Script.A (x : herbariumlaw19_Script) : List herbariumlaw19_Act := x.2.2
abbrev herbariumlaw19_Heavy.sg : Sig := ⟨[(.agg, Ty_herbariumlaw19_Script)], [], [(.one, .bool)], []⟩
def herbariumlaw19_Heavy.l2 (K : Nat) (go_l1 : Int → Int → Option Bool) (t_11 : Int) (x0 : herbariumlaw19_Script) : Nat → Int → Int → Option Bool
  | 0, _, _ => none
  | k + 1, t_12, t_13 =>
    if (0 : Int) ≤ t_11 ∧ t_11 < ((x0.A.length : Nat) : Int) then
    if decide (t_13 < ((((nth x0.A t_11).L).length : Nat) : Int)) then
      if decide (t_12 < 1048576) then
        if (0 : Int) ≤ t_11 ∧ t_11 < ((x0.A.length : Nat) : Int) then
        if (0 : Int) ≤ t_13 ∧ t_13 < ((((nth x0.A t_11).L).length : Nat) : Int) then
        if (64 : Int) ≠ 0 then
        herbariumlaw19_Heavy.l2 K go_l1 t_11 x0 k (wr .i64 (t_12 + (wr .i64 ((((((nth ((nth x0.A t_11).L) t_13).Put).Text).size : Nat) : Int).tdiv 64)))) (wr .i64 (t_13 + 1))
        else none
        else none
        else none
      else
        go_l1 t_12 (wr .i64 (t_11 + 1))
    else
      go_l1 t_12 (wr .i64 (t_11 + 1))
    else none
def herbariumlaw19_Heavy.l1 (K : Nat) (x0 : herbariumlaw19_Script) : Nat → Int → Int → Option Bool
  | 0, _, _ => none
  | k + 1, t_10, t_11 =>
    if decide (t_11 < ((x0.A.length : Nat) : Int)) then
      if decide (t_10 < 1048576) then
        if (0 : Int) ≤ t_11 ∧ t_11 < ((x0.A.length : Nat) : Int) then
        if (0 : Int) ≤ t_11 ∧ t_11 < ((x0.A.length : Nat) : Int) then
        herbariumlaw19_Heavy.l2 K (herbariumlaw19_Heavy.l1 K x0 k) t_11 x0 K (wr .i64 ((wr .i64 (t_10 + ((((nth x0.A t_11).K).length : Nat) : Int))) + ((((nth x0.A t_11).L).length : Nat) : Int))) (0 : Int)
        else none
        else none
      else
        some (decide (t_10 > 1500))
    else
      some (decide (t_10 > 1500))
def herbariumlaw19_Heavy (K : Nat) (x0 : herbariumlaw19_Script) : Option Bool :=
  (herbariumlaw0_DiskWeight K x0.D).bind fun r8 =>
  herbariumlaw19_Heavy.l1 K x0 K (wr .i64 (r8 + ((x0.A.length : Nat) : Int))) (0 : Int)
abbrev herbariumlaw0_Within.sg : Sig := ⟨[(.one, (.int .i64)), (.one, (.int .i64))], [], [(.one, (.int .i64))], []⟩
def herbariumlaw0_Within (K : Nat) (x0 : Int) (x1 : Int) : Option Int :=
  if (wr .u64 x1) ≠ 0 then
  some (wr .i64 ((wr .u64 x0).tmod (wr .u64 x1)))
  else none
abbrev herbariumref0_Zeros.sg : Sig := ⟨[(.one, (.int .i64))], [], [(.one, .str)], []⟩
def herbariumref0_Zeros (K : Nat) (x0 : Int) : Option ByteArray :=
  if x0 = x0 ∧ (0 : Int) ≤ x0 ∧ (1 : Int) * x0 ≤ 281474976710656 ∧ x0 ≤ 9223372036854775807 then
  some (bytesOf (List.replicate x0.toNat (0 : Int)))
  else none
abbrev herbariumref17_NewDisk.sg : Sig := ⟨[(.one, (.int .i64))], [], [(.agg, Ty_api_Disk)], [.o, .o]⟩
def herbariumref17_NewDisk.l1 (K : Nat) (x0 : Int) : Nat → Int → (List ByteArray) → Option api_Disk
  | 0, _, _ => none
  | k + 1, i_10, d_11 =>
    if decide (i_10 < x0) then
      (herbariumref0_Zeros K 64).bind fun r12 =>
      if (d_11.length + ([r12] : List ByteArray).length) * 16 ≤ 140737488355328 then
      herbariumref17_NewDisk.l1 K x0 k (wr .i64 (i_10 + 1)) (d_11 ++ ([r12] : List ByteArray))
      else none
    else
      some ((d_11, ([] : List api_Put)) : api_Disk)
def herbariumref17_NewDisk (K : Nat) (x0 : Int) : Option api_Disk :=
  herbariumref17_NewDisk.l1 K x0 K (0 : Int) ([] : List ByteArray)
abbrev disk_block.sg : Sig := ⟨[(.one, .str)], [], [(.one, .bool)], []⟩
def disk_block (K : Nat) (x0 : ByteArray) : Option Bool :=
  some (((x0.size : Nat) : Int) == 64)
abbrev disk_May_1.sg : Sig := ⟨[(.one, .str)], [], [(.one, .bool)], []⟩
def disk_May_1 (K : Nat) (x0 : ByteArray) : Option Bool :=
  (disk_block K x0).bind fun r4 =>
  some (!r4)
abbrev disk_there.sg : Sig := ⟨[(.agg, Ty_api_Disk), (.one, (.int .i64))], [], [(.one, .bool)], []⟩
def disk_there (K : Nat) (x0 : api_Disk) (x1 : Int) : Option Bool :=
  if decide (x1 ≥ 0) then
    some (decide (x1 < ((x0.Blocks.length : Nat) : Int)))
  else
    some false
abbrev disk_May_2.sg : Sig := ⟨[(.agg, Ty_api_Put), (.box, Ty_api_Disk)], [], [(.one, .bool)], []⟩
def disk_May_2 (K : Nat) (x0 : api_Put) (x1 : api_Disk) : Option (Bool × api_Disk) :=
  (disk_there K x1 x0.At).bind fun r7 =>
  if (!r7) then
    some (true, x1)
  else
    (disk_block K x0.Text).bind fun r12 =>
    some ((!r12), x1)
abbrev slices_IndexFunc___string_string__disk_May_1.sg : Sig := ⟨[(.one, (.sl .str)), (.fn 69 0, .un)], [], [(.one, (.int .i64))], []⟩
def slices_IndexFunc___string_string__disk_May_1.l1 (K : Nat) (x0 : List ByteArray) : Nat → Int → Int → Option Int
  | 0, _, _ => none
  | k + 1, t_10, t_11 =>
    if decide (t_11 < t_10) then
      if (0 : Int) ≤ t_11 ∧ t_11 < ((x0.length : Nat) : Int) then
      (disk_May_1 K (nth x0 t_11)).bind fun r16 =>
      if r16 then
        some t_11
      else
        slices_IndexFunc___string_string__disk_May_1.l1 K x0 k t_10 (wr .i64 (t_11 + 1))
      else none
    else
      some ((-1) : Int)
def slices_IndexFunc___string_string__disk_May_1 (K : Nat) (x0 : List ByteArray) : Option Int :=
  slices_IndexFunc___string_string__disk_May_1.l1 K x0 K ((x0.length : Nat) : Int) (0 : Int)
abbrev slices_ContainsFunc___string_string__disk_May_1.sg : Sig := ⟨[(.one, (.sl .str)), (.fn 69 0, .un)], [], [(.one, .bool)], []⟩
def slices_ContainsFunc___string_string__disk_May_1 (K : Nat) (x0 : List ByteArray) : Option Bool :=
  (slices_IndexFunc___string_string__disk_May_1 K x0).bind fun r7 =>
  some (decide (r7 ≥ 0))
abbrev slices_IndexFunc___api_Put_api_Put__disk_May_2.sg : Sig := ⟨[(.one, (.sl Ty_api_Put)), (.fn 72 1, .un), (.hid, Ty_api_Disk)], [], [(.one, (.int .i64))], []⟩
def slices_IndexFunc___api_Put_api_Put__disk_May_2.l1 (K : Nat) (x0 : List api_Put) : Nat → Int → Int → (List ByteArray) → (List api_Put) → Option (Int × api_Disk)
  | 0, _, _, _, _ => none
  | k + 1, t_10, t_11, h_12, h_13 =>
    if decide (t_11 < t_10) then
      if (0 : Int) ≤ t_11 ∧ t_11 < ((x0.length : Nat) : Int) then
      (disk_May_2 K (nth x0 t_11) ((h_12, h_13) : api_Disk)).bind fun r16 =>
      if r16.1 then
        some (t_11, r16.2)
      else
        slices_IndexFunc___api_Put_api_Put__disk_May_2.l1 K x0 k t_10 (wr .i64 (t_11 + 1)) r16.2.Blocks r16.2.Waits
      else none
    else
      some ((-1), ((h_12, h_13) : api_Disk))
def slices_IndexFunc___api_Put_api_Put__disk_May_2 (K : Nat) (x0 : List api_Put) (x2 : api_Disk) : Option (Int × api_Disk) :=
  slices_IndexFunc___api_Put_api_Put__disk_May_2.l1 K x0 K ((x0.length : Nat) : Int) (0 : Int) x2.Blocks x2.Waits
abbrev slices_ContainsFunc___api_Put_api_Put__disk_May_2.sg : Sig := ⟨[(.one, (.sl Ty_api_Put)), (.fn 72 1, .un), (.hid, Ty_api_Disk)], [], [(.one, .bool)], []⟩
def slices_ContainsFunc___api_Put_api_Put__disk_May_2 (K : Nat) (x0 : List api_Put) (x2 : api_Disk) : Option (Bool × api_Disk) :=
  (slices_IndexFunc___api_Put_api_Put__disk_May_2 K x0 x2).bind fun r7 =>
  some (decide (r7.1 ≥ 0), r7.2)
abbrev disk_May.sg : Sig := ⟨[(.agg, Ty_api_Disk)], [], [(.one, .bool)], []⟩
def disk_May (K : Nat) (x0 : api_Disk) : Option Bool :=
  if decide (((x0.Blocks.length : Nat) : Int) < 1) then
    some false
  else
    if decide (((x0.Blocks.length : Nat) : Int) > 117) then
      some false
    else
      if decide (((x0.Waits.length : Nat) : Int) > 468) then
        some false
      else
        (slices_ContainsFunc___string_string__disk_May_1 K x0.Blocks).bind fun r21 =>
        if (!r21) then
          (slices_ContainsFunc___api_Put_api_Put__disk_May_2 K x0.Waits x0).bind fun r27 =>
          some (!r27.1)
        else
          some false
abbrev slices_Clone___string_string_.sg : Sig := ⟨[(.one, (.sl .str))], [], [(.one, (.sl .str))], [.o]⟩
def slices_Clone___string_string_ (K : Nat) (x0 : List ByteArray) : Option (List ByteArray) :=
  if (([] : List ByteArray).length + x0.length) * 16 ≤ 140737488355328 then
  some (([] : List ByteArray) ++ x0)
  else none
abbrev slices_Clone___api_Put_api_Put_.sg : Sig := ⟨[(.one, (.sl Ty_api_Put))], [], [(.one, (.sl Ty_api_Put))], [.o]⟩
def slices_Clone___api_Put_api_Put_ (K : Nat) (x0 : List api_Put) : Option (List api_Put) :=
  if (([] : List api_Put).length + x0.length) * 24 ≤ 140737488355328 then
  some (([] : List api_Put) ++ x0)
  else none
abbrev disk_Own.sg : Sig := ⟨[(.agg, Ty_api_Disk)], [], [(.agg, Ty_api_Disk)], [.o, .o]⟩
def disk_Own (K : Nat) (x0 : api_Disk) : Option api_Disk :=
  (slices_Clone___string_string_ K x0.Blocks).bind fun r5 =>
  (slices_Clone___api_Put_api_Put_ K x0.Waits).bind fun r8 =>
  some ((r5, r8) : api_Disk)
abbrev disk_Step.sg : Sig := ⟨[(.box, Ty_api_Disk), (.agg, Ty_api_Do)], [.o, .o], [(.one, (.int .i64))], [.s, .o, .o]⟩
def disk_Step.l1 (K : Nat) (x0 : api_Disk) : Nat → Int → Int → (List ByteArray) → Option (Int × api_Disk)
  | 0, _, _, _ => none
  | k + 1, t_10, t_11, h_12 =>
    if decide (t_11 < t_10) then
      if (0 : Int) ≤ t_11 ∧ t_11 < ((x0.Waits.length : Nat) : Int) then
      if (0 : Int) ≤ ((nth x0.Waits t_11).At) ∧ ((nth x0.Waits t_11).At) < ((h_12.length : Nat) : Int) then
      disk_Step.l1 K x0 k t_10 (wr .i64 (t_11 + 1)) ((h_12).set ((nth x0.Waits t_11).At).toNat ((nth x0.Waits t_11).Text))
      else none
      else none
    else
      some (0, ((h_12, ([] : List api_Put)) : api_Disk))
def disk_Step (K : Nat) (x0 : api_Disk) (x1 : api_Do) : Option (Int × api_Disk) :=
  if x1.Sync then
    disk_Step.l1 K x0 K ((x0.Waits.length : Nat) : Int) (0 : Int) x0.Blocks
  else
    (disk_there K x0 x1.Put.At).bind fun r50 =>
    if (!r50) then
      some (3, x0)
    else
      (disk_block K x1.Put.Text).bind fun r56 =>
      if (!r56) then
        some (1, x0)
      else
        if decide (((x0.Waits.length : Nat) : Int) ≥ 468) then
          some (2, x0)
        else
          if (x0.Waits.length + ([x1.Put] : List api_Put).length) * 24 ≤ 140737488355328 then
          some (0, ((x0.Blocks, x0.Waits ++ ([x1.Put] : List api_Put)) : api_Disk))
          else none
abbrev disk_Play.sg : Sig := ⟨[(.agg, Ty_api_Disk), (.one, (.int .i64)), (.one, (.sl Ty_api_Do))], [], [(.agg, Ty_api_Disk), (.one, (.int .i64))], [.o, .o]⟩
def disk_Play.l1 (K : Nat) (x1 : Int) (x2 : List api_Do) : Nat → Int → Int → (List ByteArray) → (List api_Put) → Option (api_Disk × Int)
  | 0, _, _, _, _ => none
  | k + 1, t_10, t_11, d_12, d_13 =>
    if decide (t_11 < t_10) then
      if (0 : Int) ≤ t_11 ∧ t_11 < ((x2.length : Nat) : Int) then
      if (t_11 == x1) then
        some (((d_12, d_13) : api_Disk), 0)
      else
        (disk_Step K ((d_12, d_13) : api_Disk) (nth x2 t_11)).bind fun r32 =>
        if (r32.1 != 0) then
          some (((([] : List ByteArray), ([] : List api_Put)) : api_Disk), r32.1)
        else
          disk_Play.l1 K x1 x2 k t_10 (wr .i64 (t_11 + 1)) r32.2.Blocks r32.2.Waits
      else none
    else
      some (((d_12, d_13) : api_Disk), 0)
def disk_Play (K : Nat) (x0 : api_Disk) (x1 : Int) (x2 : List api_Do) : Option (api_Disk × Int) :=
  (disk_May K x0).bind fun r12 =>
  if (!r12) then
    some (((([] : List ByteArray), ([] : List api_Put)) : api_Disk), 1)
  else
    if decide (x1 < (-1)) then
      some (((([] : List ByteArray), ([] : List api_Put)) : api_Disk), 1)
    else
      (disk_Own K x0).bind fun r20 =>
      disk_Play.l1 K x1 x2 K ((x2.length : Nat) : Int) (0 : Int) r20.Blocks r20.Waits
abbrev herbariumlaw19_num.sg : Sig := ⟨[(.one, (.int .i64))], [], [(.one, (.int .i64))], []⟩
def herbariumlaw19_num (K : Nat) (x0 : Int) : Option Int :=
  some x0
abbrev herbariumref0_Between.sg : Sig := ⟨[(.one, (.int .i64)), (.one, (.int .i64)), (.one, (.int .i64))], [], [(.one, .bool)], []⟩
def herbariumref0_Between (K : Nat) (x0 : Int) (x1 : Int) (x2 : Int) : Option Bool :=
  if decide (x0 ≥ x1) then
    some (decide (x0 ≤ x2))
  else
    some false
abbrev herbariumref0_Num.sg : Sig := ⟨[(.one, (.int .i64)), (.one, (.int .i64))], [], [(.one, .bool)], []⟩
def herbariumref0_Num (K : Nat) (x0 : Int) (x1 : Int) : Option Bool :=
  if decide (x0 ≥ 0) then
    some (decide (x0 ≤ x1))
  else
    some false
abbrev herbariumref17_Disk.sg : Sig := ⟨[(.agg, Ty_api_Disk)], [], [(.one, .bool)], []⟩
def herbariumref17_Disk.l2 (K : Nat) (x0 : api_Disk) : Nat → Int → Option Bool
  | 0, _ => none
  | k + 1, i_11 =>
    if decide (i_11 < ((x0.Waits.length : Nat) : Int)) then
      if (0 : Int) ≤ i_11 ∧ i_11 < ((x0.Waits.length : Nat) : Int) then
      (herbariumref0_Num K ((nth x0.Waits i_11).At) (wr .i64 (((x0.Blocks.length : Nat) : Int) - 1))).bind fun r47 =>
      if (!r47) then
        some false
      else
        if (0 : Int) ≤ i_11 ∧ i_11 < ((x0.Waits.length : Nat) : Int) then
        if (((((nth x0.Waits i_11).Text).size : Nat) : Int) != 64) then
          some false
        else
          herbariumref17_Disk.l2 K x0 k (wr .i64 (i_11 + 1))
        else none
      else none
    else
      some true
def herbariumref17_Disk.l1 (K : Nat) (x0 : api_Disk) : Nat → Int → Option Bool
  | 0, _ => none
  | k + 1, i_10 =>
    if decide (i_10 < ((x0.Blocks.length : Nat) : Int)) then
      if (0 : Int) ≤ i_10 ∧ i_10 < ((x0.Blocks.length : Nat) : Int) then
      if ((((nth x0.Blocks i_10).size : Nat) : Int) != 64) then
        some false
      else
        herbariumref17_Disk.l1 K x0 k (wr .i64 (i_10 + 1))
      else none
    else
      herbariumref17_Disk.l2 K x0 K (0 : Int)
def herbariumref17_Disk (K : Nat) (x0 : api_Disk) : Option Bool :=
  (herbariumref0_Between K ((x0.Blocks.length : Nat) : Int) 1 117).bind fun r8 =>
  if (!r8) then
    some false
  else
    if decide (((x0.Waits.length : Nat) : Int) > 468) then
      some false
    else
      herbariumref17_Disk.l1 K x0 K (0 : Int)
abbrev disk_Crash.sg : Sig := ⟨[(.agg, Ty_api_Disk), (.one, (.sl (.int .i64)))], [], [(.agg, Ty_api_Disk), (.one, (.int .i64))], [.o, .o]⟩
def disk_Crash.j2 (K : Nat) (go_l1 : Int → Int → (List ByteArray) → Option (api_Disk × Int)) (d_15 : List ByteArray) (r13 : api_Disk) (t_10 : Int) (t_11 : Int) (x1 : List Int) (t_14 : Bool) (p_12 : Int) (p_13 : ByteArray) : Option (api_Disk × Int) :=
  if t_14 then
    if (0 : Int) ≤ p_12 ∧ p_12 < ((d_15.length : Nat) : Int) then
    go_l1 t_10 (wr .i64 (t_11 + 1)) ((d_15).set p_12.toNat p_13)
    else none
  else
    go_l1 t_10 (wr .i64 (t_11 + 1)) d_15
def disk_Crash.l1 (K : Nat) (r13 : api_Disk) (x1 : List Int) : Nat → Int → Int → (List ByteArray) → Option (api_Disk × Int)
  | 0, _, _, _ => none
  | k + 1, t_10, t_11, d_15 =>
    if decide (t_11 < t_10) then
      if (0 : Int) ≤ t_11 ∧ t_11 < ((r13.Waits.length : Nat) : Int) then
      if decide (((x1.length : Nat) : Int) > 0) then
        if ((x1.length : Nat) : Int) ≠ 0 then
        if (0 : Int) ≤ (t_11.tmod ((x1.length : Nat) : Int)) ∧ (t_11.tmod ((x1.length : Nat) : Int)) < ((x1.length : Nat) : Int) then
        disk_Crash.j2 K (disk_Crash.l1 K r13 x1 k) d_15 r13 t_10 t_11 x1 ((ib .and .i64 (nth x1 (t_11.tmod ((x1.length : Nat) : Int))) 1) == 1) ((nth r13.Waits t_11).At) ((nth r13.Waits t_11).Text)
        else none
        else none
      else
        disk_Crash.j2 K (disk_Crash.l1 K r13 x1 k) d_15 r13 t_10 t_11 x1 false ((nth r13.Waits t_11).At) ((nth r13.Waits t_11).Text)
      else none
    else
      some (((d_15, ([] : List api_Put)) : api_Disk), 0)
def disk_Crash (K : Nat) (x0 : api_Disk) (x1 : List Int) : Option (api_Disk × Int) :=
  (disk_May K x0).bind fun r9 =>
  if (!r9) then
    some (((([] : List ByteArray), ([] : List api_Put)) : api_Disk), 1)
  else
    (disk_Own K x0).bind fun r13 =>
    disk_Crash.l1 K r13 x1 K ((r13.Waits.length : Nat) : Int) (0 : Int) r13.Blocks
abbrev disk_Spoil.sg : Sig := ⟨[(.agg, Ty_api_Disk), (.one, (.int .i64)), (.one, (.int .i64))], [], [(.agg, Ty_api_Disk), (.one, (.int .i64))], [.o, .o]⟩
def disk_Spoil.j1 (K : Nat) (x0 : api_Disk) (x1 : Int) (x2 : Int) (t_10 : Bool) : Option (api_Disk × Int) :=
  if t_10 then
    some (((([] : List ByteArray), ([] : List api_Put)) : api_Disk), 3)
  else
    if decide (((x0.Waits.length : Nat) : Int) > 0) then
      some (((([] : List ByteArray), ([] : List api_Put)) : api_Disk), 6)
    else
      (disk_Own K x0).bind fun r35 =>
      if (0 : Int) ≤ x1 ∧ x1 < ((r35.Blocks.length : Nat) : Int) then
      if (0 : Int) ≤ x2 ∧ x2 < (((bytesL (nth r35.Blocks x1)).length : Nat) : Int) then
      if (0 : Int) ≤ x2 ∧ x2 < (((bytesL (nth r35.Blocks x1)).length : Nat) : Int) then
      if (0 : Int) ≤ x1 ∧ x1 < ((r35.Blocks.length : Nat) : Int) then
      some ((((r35.Blocks).set x1.toNat (bytesOf ((bytesL (nth r35.Blocks x1)).set x2.toNat (ib .xor .u8 255 (nth (bytesL (nth r35.Blocks x1)) x2)))), r35.Waits) : api_Disk), 0)
      else none
      else none
      else none
      else none
def disk_Spoil (K : Nat) (x0 : api_Disk) (x1 : Int) (x2 : Int) : Option (api_Disk × Int) :=
  (disk_May K x0).bind fun r11 =>
  if (!r11) then
    some (((([] : List ByteArray), ([] : List api_Put)) : api_Disk), 1)
  else
    (disk_there K x0 x1).bind fun r17 =>
    if (!r17) then
      disk_Spoil.j1 K x0 x1 x2 true
    else
      if decide (x2 < 0) then
        disk_Spoil.j1 K x0 x1 x2 true
      else
        disk_Spoil.j1 K x0 x1 x2 (decide (x2 ≥ 64))
abbrev herbariumref0_EqStrings.sg : Sig := ⟨[(.one, (.sl .str)), (.one, (.sl .str))], [], [(.one, .bool)], []⟩
def herbariumref0_EqStrings.l1 (K : Nat) (x0 : List ByteArray) (x1 : List ByteArray) : Nat → Int → Option Bool
  | 0, _ => none
  | k + 1, i_10 =>
    if decide (i_10 < ((x0.length : Nat) : Int)) then
      if (0 : Int) ≤ i_10 ∧ i_10 < ((x0.length : Nat) : Int) then
      if (0 : Int) ≤ i_10 ∧ i_10 < ((x1.length : Nat) : Int) then
      if (!((nth x0 i_10).toList == (nth x1 i_10).toList)) then
        some false
      else
        herbariumref0_EqStrings.l1 K x0 x1 k (wr .i64 (i_10 + 1))
      else none
      else none
    else
      some true
def herbariumref0_EqStrings (K : Nat) (x0 : List ByteArray) (x1 : List ByteArray) : Option Bool :=
  if (((x0.length : Nat) : Int) != ((x1.length : Nat) : Int)) then
    some false
  else
    herbariumref0_EqStrings.l1 K x0 x1 K (0 : Int)
abbrev herbariumref0_EqPuts.sg : Sig := ⟨[(.one, (.sl Ty_api_Put)), (.one, (.sl Ty_api_Put))], [], [(.one, .bool)], []⟩
def herbariumref0_EqPuts.l1 (K : Nat) (x0 : List api_Put) (x1 : List api_Put) : Nat → Int → Option Bool
  | 0, _ => none
  | k + 1, i_10 =>
    if decide (i_10 < ((x0.length : Nat) : Int)) then
      if (0 : Int) ≤ i_10 ∧ i_10 < ((x0.length : Nat) : Int) then
      if (0 : Int) ≤ i_10 ∧ i_10 < ((x1.length : Nat) : Int) then
      if (!((((nth x0 i_10).At) == ((nth x1 i_10).At)) && ((((nth x0 i_10).Text) == ((nth x1 i_10).Text)) && true))) then
        some false
      else
        herbariumref0_EqPuts.l1 K x0 x1 k (wr .i64 (i_10 + 1))
      else none
      else none
    else
      some true
def herbariumref0_EqPuts (K : Nat) (x0 : List api_Put) (x1 : List api_Put) : Option Bool :=
  if (((x0.length : Nat) : Int) != ((x1.length : Nat) : Int)) then
    some false
  else
    herbariumref0_EqPuts.l1 K x0 x1 K (0 : Int)
abbrev herbariumref0_EqDisk.sg : Sig := ⟨[(.agg, Ty_api_Disk), (.agg, Ty_api_Disk)], [], [(.one, .bool)], []⟩
def herbariumref0_EqDisk (K : Nat) (x0 : api_Disk) (x1 : api_Disk) : Option Bool :=
  (herbariumref0_EqStrings K x0.Blocks x1.Blocks).bind fun r9 =>
  if r9 then
    (herbariumref0_EqPuts K x0.Waits x1.Waits).bind fun r15 =>
    some r15
  else
    some false
abbrev strings_Repeat.sg : Sig := sgRep
def strings_Repeat (K : Nat) (x0 : ByteArray) (x1 : Int) : Option ByteArray := repF x0 x1
abbrev math_bits_Mul32.sg : Sig := ⟨[(.one, (.int .u32)), (.one, (.int .u32))], [], [(.one, (.int .u32)), (.one, (.int .u32))], []⟩
def math_bits_Mul32 (K : Nat) (x0 : Int) (x1 : Int) : Option (Int × Int) :=
  if (0 : Int) ≤ 32 then
  some (wr .u32 ((wr .u64 ((wr .u64 x0) * (wr .u64 x1))).fdiv (2 ^ min ((32 : Int)).toNat 64)), wr .u32 (wr .u64 ((wr .u64 x0) * (wr .u64 x1))))
  else none
abbrev math_bits_Mul64.sg : Sig := ⟨[(.one, (.int .u64)), (.one, (.int .u64))], [], [(.one, (.int .u64)), (.one, (.int .u64))], []⟩
def math_bits_Mul64 (K : Nat) (x0 : Int) (x1 : Int) : Option (Int × Int) :=
  if (0 : Int) ≤ 32 then
  if (0 : Int) ≤ 32 then
  if (0 : Int) ≤ 32 then
  if (0 : Int) ≤ 32 then
  if (0 : Int) ≤ 32 then
  some (wr .u64 ((wr .u64 ((wr .u64 ((x0.fdiv (2 ^ min ((32 : Int)).toNat 64)) * (x1.fdiv (2 ^ min ((32 : Int)).toNat 64)))) + ((wr .u64 ((wr .u64 ((x0.fdiv (2 ^ min ((32 : Int)).toNat 64)) * (ib .and .u64 x1 4294967295))) + ((wr .u64 ((ib .and .u64 x0 4294967295) * (ib .and .u64 x1 4294967295))).fdiv (2 ^ min ((32 : Int)).toNat 64)))).fdiv (2 ^ min ((32 : Int)).toNat 64)))) + ((wr .u64 ((ib .and .u64 (wr .u64 ((wr .u64 ((x0.fdiv (2 ^ min ((32 : Int)).toNat 64)) * (ib .and .u64 x1 4294967295))) + ((wr .u64 ((ib .and .u64 x0 4294967295) * (ib .and .u64 x1 4294967295))).fdiv (2 ^ min ((32 : Int)).toNat 64)))) 4294967295) + (wr .u64 ((ib .and .u64 x0 4294967295) * (x1.fdiv (2 ^ min ((32 : Int)).toNat 64)))))).fdiv (2 ^ min ((32 : Int)).toNat 64))), wr .u64 (x0 * x1))
  else none
  else none
  else none
  else none
  else none
abbrev math_bits_Mul.sg : Sig := ⟨[(.one, (.int .u64)), (.one, (.int .u64))], [], [(.one, (.int .u64)), (.one, (.int .u64))], []⟩
def math_bits_Mul (K : Nat) (x0 : Int) (x1 : Int) : Option (Int × Int) :=
  (math_bits_Mul64 K x0 x1).bind fun r25 =>
  some (r25.1, r25.2)
abbrev slices_Repeat___string_string_.sg : Sig := ⟨[(.one, (.sl .str)), (.one, (.int .i64))], [], [(.one, (.sl .str))], [.o]⟩
def slices_Repeat___string_string_.l3 (K : Nat) : Nat → Int → (List ByteArray) → Option (List ByteArray)
  | 0, _, _ => none
  | k + 1, n_11, newslice_10 =>
    if decide (n_11 < ((newslice_10.length : Nat) : Int)) then
      if (0 : Int) ≤ n_11 ∧ n_11 ≤ ((newslice_10.length : Nat) : Int) ∧ ((newslice_10.length : Nat) : Int) ≤ ((newslice_10.length : Nat) : Int) then
      if (0 : Int) ≤ (0 : Int) ∧ (0 : Int) ≤ n_11 ∧ n_11 ≤ ((newslice_10.length : Nat) : Int) then
      slices_Repeat___string_string_.l3 K k (wr .i64 (n_11 + ((min (((newslice_10).drop (0 + (0 : Int).toNat)).take (n_11.toNat - (0 : Int).toNat)).length (((newslice_10.length : Nat) : Int).toNat - n_11.toNat) : Nat) : Int))) (ovp newslice_10 (0 + n_11.toNat) (List.take (((newslice_10.length : Nat) : Int).toNat - n_11.toNat) (((newslice_10).drop (0 + (0 : Int).toNat)).take (n_11.toNat - (0 : Int).toNat))))
      else none
      else none
    else
      some newslice_10
def slices_Repeat___string_string_.j2 (K : Nat) (r18 : Int × Int) (x0 : List ByteArray) : Option (List ByteArray) :=
  if (wr .i64 r18.2) = (wr .i64 r18.2) ∧ (0 : Int) ≤ (wr .i64 r18.2) ∧ (16 : Int) * (wr .i64 r18.2) ≤ 281474976710656 ∧ (wr .i64 r18.2) ≤ 9223372036854775807 then
  slices_Repeat___string_string_.l3 K K ((min x0.length ((List.replicate (wr .i64 r18.2).toNat ByteArray.empty).length) : Nat) : Int) (ovp (List.replicate (wr .i64 r18.2).toNat ByteArray.empty) 0 (List.take ((List.replicate (wr .i64 r18.2).toNat ByteArray.empty).length) x0))
  else none
def slices_Repeat___string_string_.j1 (K : Nat) (x0 : List ByteArray) (x1 : Int) : Option (List ByteArray) :=
  (math_bits_Mul K (wr .u64 ((x0.length : Nat) : Int)) (wr .u64 x1)).bind fun r18 =>
  if decide (r18.1 > 0) then
    none
  else
    if decide (r18.2 > 9223372036854775807) then
      none
    else
      slices_Repeat___string_string_.j2 K r18 x0
def slices_Repeat___string_string_ (K : Nat) (x0 : List ByteArray) (x1 : Int) : Option (List ByteArray) :=
  if decide (x1 < 0) then
    none
  else
    slices_Repeat___string_string_.j1 K x0 x1
abbrev disk_New.sg : Sig := ⟨[(.one, (.int .i64))], [], [(.agg, Ty_api_Disk), (.one, (.int .i64))], [.o, .o]⟩
def disk_New (K : Nat) (x0 : Int) : Option (api_Disk × Int) :=
  if decide (x0 < 1) then
    some (((([] : List ByteArray), ([] : List api_Put)) : api_Disk), 1)
  else
    if decide (x0 > 117) then
      some (((([] : List ByteArray), ([] : List api_Put)) : api_Disk), 1)
    else
      (strings_Repeat K (⟨#[0]⟩ : ByteArray) 64).bind fun r11 =>
      (slices_Repeat___string_string_ K ([r11] : List ByteArray) x0).bind fun r14 =>
      some (((r14, ([] : List api_Put)) : api_Disk), 0)
abbrev disk_Read.sg : Sig := ⟨[(.agg, Ty_api_Disk), (.one, (.int .i64))], [], [(.one, .str), (.one, (.int .i64))], []⟩
def disk_Read.l1 (K : Nat) : List api_Put → (List ByteArray) → (List api_Put) → Int → ByteArray → Int → Option (ByteArray × Int)
  | [], d_10, d_11, i_12, t_13, t_14 =>
    if (0 : Int) ≤ i_12 ∧ i_12 < ((d_10.length : Nat) : Int) then
    some (nth d_10 i_12, 0)
    else none
  | el_24 :: k, d_10, d_11, i_12, t_13, t_14 =>
    if (el_24.At == i_12) then
      some (el_24.Text, 0)
    else
      disk_Read.l1 K k d_10 d_11 i_12 t_13 t_14
def disk_Read (K : Nat) (x0 : api_Disk) (x1 : Int) : Option (ByteArray × Int) :=
  (disk_May K x0).bind fun r10 =>
  if (!r10) then
    some (ByteArray.empty, 1)
  else
    (disk_there K x0 x1).bind fun r15 =>
    if (!r15) then
      some (ByteArray.empty, 3)
    else
      if x0.Waits.length < 4611686018427387904 then
      disk_Read.l1 K (List.reverse x0.Waits) x0.Blocks x0.Waits x1 ByteArray.empty (0 : Int)
      else none
abbrev herbariumlaw19_wakes.sg : Sig := ⟨[], [], [(.one, .bool)], []⟩
def herbariumlaw19_wakes (K : Nat) : Option Bool :=
  (disk_New K 3).bind fun r11 =>
  (herbariumref0_Zeros K 63).bind fun r14 =>
  if (((⟨#[120]⟩ : ByteArray).size + r14.size : Nat) : Int) ≤ 9223372036854775807 then
  (disk_Play K r11.1 (-1) ([((false, ((1, (⟨#[120]⟩ : ByteArray) ++ r14) : api_Put)) : api_Do)] : List api_Do)).bind fun r22 =>
  (disk_Read K r22.1 1).bind fun r27 =>
  (disk_Crash K r22.1 ([] : List Int)).bind fun r32 =>
  (disk_Read K r32.1 1).bind fun r37 =>
  (herbariumlaw19_num K r11.2).bind fun r41 =>
  (herbariumlaw19_num K r22.2).bind fun r43 =>
  (herbariumlaw19_num K r27.2).bind fun r46 =>
  (herbariumlaw19_num K r32.2).bind fun r49 =>
  (herbariumlaw19_num K r37.2).bind fun r52 =>
  if ((wr .i64 ((wr .i64 ((wr .i64 ((wr .i64 (r41 + r43)) + r46)) + r49)) + r52)) == 0) then
    if (r27.1.toList == ((⟨#[120]⟩ : ByteArray) ++ r14).toList) then
      (herbariumref0_Zeros K 64).bind fun r62 =>
      some (r37.1.toList == r62.toList)
    else
      some false
  else
    some false
  else none
abbrev herbariumlaw19_DiskStays.sg : Sig := ⟨[(.agg, Ty_herbariumlaw19_Script)], [], [(.one, .bool)], []⟩
def herbariumlaw19_DiskStays.l2 (K : Nat) (go_l1 : Int → Int → Option Bool) (t_10 : Int) (t_11 : Int) (x0 : herbariumlaw19_Script) : Nat → Int → (List ByteArray) → (List api_Put) → Option Bool
  | 0, _, _, _ => none
  | k + 1, t_12, t_13, t_14 =>
    if (0 : Int) ≤ t_11 ∧ t_11 < ((x0.A.length : Nat) : Int) then
    if decide (t_12 < ((((nth x0.A t_11).L).length : Nat) : Int)) then
      if decide (t_12 < 20) then
        if (0 : Int) ≤ t_11 ∧ t_11 < ((x0.A.length : Nat) : Int) then
        if (0 : Int) ≤ t_12 ∧ t_12 < ((((nth x0.A t_11).L).length : Nat) : Int) then
        (disk_Play K ((t_13, t_14) : api_Disk) (-1) ([(nth ((nth x0.A t_11).L) t_12)] : List api_Do)).bind fun r67 =>
        (herbariumlaw19_num K r67.2).bind fun r71 =>
        if (r71 == 0) then
          (herbariumref17_Disk K r67.1).bind fun r75 =>
          if r75 then
            if (((r67.1.Blocks.length : Nat) : Int) == t_10) then
              herbariumlaw19_DiskStays.l2 K go_l1 t_10 t_11 x0 k (wr .i64 (t_12 + 1)) r67.1.Blocks r67.1.Waits
            else
              herbariumlaw19_DiskStays.l2 K go_l1 t_10 t_11 x0 k (wr .i64 (t_12 + 1)) t_13 t_14
          else
            herbariumlaw19_DiskStays.l2 K go_l1 t_10 t_11 x0 k (wr .i64 (t_12 + 1)) t_13 t_14
        else
          herbariumlaw19_DiskStays.l2 K go_l1 t_10 t_11 x0 k (wr .i64 (t_12 + 1)) t_13 t_14
        else none
        else none
      else
        (disk_Play K ((t_13, t_14) : api_Disk) (-1) ([((true, ((0, ByteArray.empty) : api_Put)) : api_Do)] : List api_Do)).bind fun r89 =>
        (herbariumlaw19_num K r89.2).bind fun r93 =>
        if (r93 != 0) then
          some false
        else
          (herbariumref17_Disk K r89.1).bind fun r97 =>
          if (!r97) then
            some false
          else
            if (((r89.1.Blocks.length : Nat) : Int) != t_10) then
              some false
            else
              if (((r89.1.Waits.length : Nat) : Int) != 0) then
                some false
              else
                (disk_Crash K ((t_13, t_14) : api_Disk) ([] : List Int)).bind fun r115 =>
                (disk_Crash K ((t_13, t_14) : api_Disk) ([1] : List Int)).bind fun r121 =>
                if (0 : Int) ≤ t_11 ∧ t_11 < ((x0.A.length : Nat) : Int) then
                (disk_Crash K r89.1 ((nth x0.A t_11).K)).bind fun r132 =>
                (disk_Spoil K r89.1 0 t_11).bind fun r138 =>
                (disk_Spoil K r138.1 0 t_11).bind fun r144 =>
                (herbariumlaw19_num K r115.2).bind fun r148 =>
                (herbariumlaw19_num K r121.2).bind fun r150 =>
                (herbariumlaw19_num K r132.2).bind fun r153 =>
                (herbariumlaw19_num K r138.2).bind fun r156 =>
                (herbariumlaw19_num K r144.2).bind fun r159 =>
                if ((wr .i64 ((wr .i64 ((wr .i64 ((wr .i64 (r148 + r150)) + r153)) + r156)) + r159)) != 0) then
                  some false
                else
                  (herbariumref0_EqStrings K r115.1.Blocks t_13).bind fun r167 =>
                  if (!r167) then
                    some false
                  else
                    (herbariumref0_EqDisk K r121.1 r89.1).bind fun r173 =>
                    if (!r173) then
                      some false
                    else
                      (herbariumref0_EqDisk K r132.1 r89.1).bind fun r179 =>
                      if (!r179) then
                        some false
                      else
                        (herbariumref0_EqDisk K r138.1 r89.1).bind fun r185 =>
                        if r185 then
                          some false
                        else
                          (herbariumref0_EqDisk K r144.1 r89.1).bind fun r190 =>
                          if (!r190) then
                            some false
                          else
                            go_l1 t_10 (wr .i64 (t_11 + 1))
                else none
    else
      (disk_Play K ((t_13, t_14) : api_Disk) (-1) ([((true, ((0, ByteArray.empty) : api_Put)) : api_Do)] : List api_Do)).bind fun r89 =>
      (herbariumlaw19_num K r89.2).bind fun r93 =>
      if (r93 != 0) then
        some false
      else
        (herbariumref17_Disk K r89.1).bind fun r97 =>
        if (!r97) then
          some false
        else
          if (((r89.1.Blocks.length : Nat) : Int) != t_10) then
            some false
          else
            if (((r89.1.Waits.length : Nat) : Int) != 0) then
              some false
            else
              (disk_Crash K ((t_13, t_14) : api_Disk) ([] : List Int)).bind fun r115 =>
              (disk_Crash K ((t_13, t_14) : api_Disk) ([1] : List Int)).bind fun r121 =>
              if (0 : Int) ≤ t_11 ∧ t_11 < ((x0.A.length : Nat) : Int) then
              (disk_Crash K r89.1 ((nth x0.A t_11).K)).bind fun r132 =>
              (disk_Spoil K r89.1 0 t_11).bind fun r138 =>
              (disk_Spoil K r138.1 0 t_11).bind fun r144 =>
              (herbariumlaw19_num K r115.2).bind fun r148 =>
              (herbariumlaw19_num K r121.2).bind fun r150 =>
              (herbariumlaw19_num K r132.2).bind fun r153 =>
              (herbariumlaw19_num K r138.2).bind fun r156 =>
              (herbariumlaw19_num K r144.2).bind fun r159 =>
              if ((wr .i64 ((wr .i64 ((wr .i64 ((wr .i64 (r148 + r150)) + r153)) + r156)) + r159)) != 0) then
                some false
              else
                (herbariumref0_EqStrings K r115.1.Blocks t_13).bind fun r167 =>
                if (!r167) then
                  some false
                else
                  (herbariumref0_EqDisk K r121.1 r89.1).bind fun r173 =>
                  if (!r173) then
                    some false
                  else
                    (herbariumref0_EqDisk K r132.1 r89.1).bind fun r179 =>
                    if (!r179) then
                      some false
                    else
                      (herbariumref0_EqDisk K r138.1 r89.1).bind fun r185 =>
                      if r185 then
                        some false
                      else
                        (herbariumref0_EqDisk K r144.1 r89.1).bind fun r190 =>
                        if (!r190) then
                          some false
                        else
                          go_l1 t_10 (wr .i64 (t_11 + 1))
              else none
    else none
def herbariumlaw19_DiskStays.l1 (K : Nat) (x0 : herbariumlaw19_Script) : Nat → Int → Int → Option Bool
  | 0, _, _ => none
  | k + 1, t_10, t_11 =>
    if decide (t_11 < ((x0.A.length : Nat) : Int)) then
      if decide (t_11 < 8) then
        (herbariumref17_NewDisk K t_10).bind fun r39 =>
        herbariumlaw19_DiskStays.l2 K (herbariumlaw19_DiskStays.l1 K x0 k) t_10 t_11 x0 K (0 : Int) r39.Blocks r39.Waits
      else
        (herbariumlaw19_wakes K).bind fun r193 =>
        some r193
    else
      (herbariumlaw19_wakes K).bind fun r193 =>
      some r193
def herbariumlaw19_DiskStays (K : Nat) (x0 : herbariumlaw19_Script) : Option Bool :=
  (herbariumlaw19_Heavy K x0).bind fun r22 =>
  if r22 then
    some true
  else
    (herbariumlaw0_Within K x0.N 9).bind fun r25 =>
    herbariumlaw19_DiskStays.l1 K x0 K (wr .i64 (1 + r25)) (0 : Int)
abbrev herbariumlaw19_DiskLast.sg : Sig := ⟨[(.agg, Ty_herbariumlaw19_Script)], [], [(.one, .bool)], []⟩
def herbariumlaw19_DiskLast.l3 (K : Nat) (go_l2 : Int → (List ByteArray) → (List api_Put) → Option Bool) (t_10 : Int) (t_12 : Int) : Nat → ByteArray → Int → (List ByteArray) → (List api_Put) → (List Int) → Option Bool
  | 0, _, _, _, _, _ => none
  | k + 1, t_17, t_13, t_20, t_21, t_16 =>
    if decide (t_13 < t_10) then
      if (0 : Int) ≤ t_13 then
      if (t_16.length + ([ib .and .i64 (t_12.fdiv (2 ^ min (t_13).toNat 64)) 1] : List Int).length) * 8 ≤ 140737488355328 then
      if (0 : Int) ≤ t_13 then
      if ((ib .and .i64 (t_12.fdiv (2 ^ min (t_13).toNat 64)) 1) == 1) then
        (herbariumref0_Zeros K 63).bind fun r94 =>
        if (((bytesOf ([wr .u8 (wr .i64 (97 + t_13))] : List Int)).size + r94.size : Nat) : Int) ≤ 9223372036854775807 then
        herbariumlaw19_DiskLast.l3 K go_l2 t_10 t_12 k ((bytesOf ([wr .u8 (wr .i64 (97 + t_13))] : List Int)) ++ r94) (wr .i64 (t_13 + 1)) t_20 t_21 (t_16 ++ ([ib .and .i64 (t_12.fdiv (2 ^ min (t_13).toNat 64)) 1] : List Int))
        else none
      else
        herbariumlaw19_DiskLast.l3 K go_l2 t_10 t_12 k t_17 (wr .i64 (t_13 + 1)) t_20 t_21 (t_16 ++ ([ib .and .i64 (t_12.fdiv (2 ^ min (t_13).toNat 64)) 1] : List Int))
      else none
      else none
      else none
    else
      (disk_Crash K ((t_20, t_21) : api_Disk) t_16).bind fun r99 =>
      (disk_Read K r99.1 1).bind fun r104 =>
      (herbariumlaw19_num K r99.2).bind fun r108 =>
      if (r108 != 0) then
        some false
      else
        (herbariumlaw19_num K r104.2).bind fun r112 =>
        if (r112 != 0) then
          some false
        else
          if (!(r104.1.toList == t_17.toList)) then
            some false
          else
            go_l2 (wr .i64 (t_12 + 1)) t_20 t_21
def herbariumlaw19_DiskLast.l2 (K : Nat) (t_10 : Int) : Nat → Int → (List ByteArray) → (List api_Put) → Option Bool
  | 0, _, _, _ => none
  | k + 1, t_12, t_18, t_19 =>
    if (0 : Int) ≤ t_10 then
    if decide (t_12 < (wr .i64 ((1 : Int) * 2 ^ min (t_10).toNat 64))) then
      (herbariumref0_Zeros K 64).bind fun r71 =>
      herbariumlaw19_DiskLast.l3 K (herbariumlaw19_DiskLast.l2 K t_10 k) t_10 t_12 K r71 (0 : Int) t_18 t_19 ([] : List Int)
    else
      (herbariumlaw19_wakes K).bind fun r120 =>
      some r120
    else none
def herbariumlaw19_DiskLast.l1 (K : Nat) : Nat → Int → Int → (List ByteArray) → (List api_Put) → Option Bool
  | 0, _, _, _, _ => none
  | k + 1, t_10, t_11, t_14, t_15 =>
    if decide (t_11 < t_10) then
      (herbariumref0_Zeros K 63).bind fun r35 =>
      if (((bytesOf ([wr .u8 (wr .i64 (97 + t_11))] : List Int)).size + r35.size : Nat) : Int) ≤ 9223372036854775807 then
      (disk_Play K ((t_14, t_15) : api_Disk) (-1) ([((false, ((1, (bytesOf ([wr .u8 (wr .i64 (97 + t_11))] : List Int)) ++ r35) : api_Put)) : api_Do)] : List api_Do)).bind fun r43 =>
      (disk_Read K r43.1 1).bind fun r48 =>
      (herbariumlaw19_num K r43.2).bind fun r52 =>
      if (r52 != 0) then
        some false
      else
        (herbariumlaw19_num K r48.2).bind fun r56 =>
        if (r56 != 0) then
          some false
        else
          if (!(r48.1.toList == ((bytesOf ([wr .u8 (wr .i64 (97 + t_11))] : List Int)) ++ r35).toList)) then
            some false
          else
            herbariumlaw19_DiskLast.l1 K k t_10 (wr .i64 (t_11 + 1)) r43.1.Blocks r43.1.Waits
      else none
    else
      herbariumlaw19_DiskLast.l2 K t_10 K (0 : Int) t_14 t_15
def herbariumlaw19_DiskLast (K : Nat) (x0 : herbariumlaw19_Script) : Option Bool :=
  if (6 : Int) ≠ 0 then
  (herbariumref17_NewDisk K 2).bind fun r24 =>
  herbariumlaw19_DiskLast.l1 K K (wr .i64 (1 + (((x0.A.length : Nat) : Int).tmod 6))) (0 : Int) r24.Blocks r24.Waits
  else none
end Go.XM
end
