import Derived.Test.YtocbppcndoeicaaGreatDoorIoH0
set_option linter.all false
section
namespace Go.XM
set_option maxRecDepth 100000
abbrev herbariumref0_Zeros.sg : Sig := ⟨[(.one, (.int .i64))], [], [(.one, .str)], []⟩
def herbariumref0_Zeros (K : Nat) (x0 : Int) : Option ByteArray :=
  if x0 = x0 ∧ (0 : Int) ≤ x0 ∧ (1 : Int) * x0 ≤ 281474976710656 ∧ x0 ≤ 9223372036854775807 then
  some (bytesOf (List.replicate x0.toNat (0 : Int)))
  else none
abbrev api_Bits : Type := ByteArray × Int
abbrev Ty_api_Bits : Ty := (.pr .str (.int .i64))
abbrev api_Bits.Data (x : api_Bits) : ByteArray := x.1
abbrev api_Bits.N (x : api_Bits) : Int := x.2
abbrev bits_May.sg : Sig := ⟨[(.agg, Ty_api_Bits)], [], [(.one, .bool)], []⟩
def bits_May (K : Nat) (x0 : api_Bits) : Option Bool :=
  if decide (x0.N < 0) then
    some false
  else
    if decide (x0.N > 6000) then
      some false
    else
      if (8 : Int) ≠ 0 then
      if (((x0.Data.size : Nat) : Int) != (wr .i64 ((wr .i64 ((wr .i64 (x0.N + 8)) - 1)).tdiv 8))) then
        some false
      else
        if (8 : Int) ≠ 0 then
        if ((x0.N.tmod 8) == 0) then
          some true
        else
          if (0 : Int) ≤ (wr .i64 (((x0.Data.size : Nat) : Int) - 1)) ∧ (wr .i64 (((x0.Data.size : Nat) : Int) - 1)) < ((x0.Data.size : Nat) : Int) then
          if (0 : Int) ≤ (x0.N.tmod 8) then
          some ((ib .and .u8 (bt x0.Data (wr .i64 (((x0.Data.size : Nat) : Int) - 1))) ((255 : Int).fdiv (2 ^ min ((x0.N.tmod 8)).toNat 8))) == 0)
          else none
          else none
        else none
      else none
abbrev image_Numbers.sg : Sig := ⟨[(.one, .str), (.one, (.sl (.int .i64)))], [], [(.one, .str)], []⟩
def image_Numbers.l1 (K : Nat) (x1 : List Int) : Nat → Int → Int → (List Int) → Option ByteArray
  | 0, _, _, _ => none
  | k + 1, t_11, t_12, b_10 =>
    if decide (t_12 < t_11) then
      if (0 : Int) ≤ t_12 ∧ t_12 < ((x1.length : Nat) : Int) then
      if (0 : Int) ≤ 24 then
      if (0 : Int) ≤ 16 then
      if (0 : Int) ≤ 8 then
      if (b_10.length + ([wr .u8 ((nth x1 t_12).fdiv (2 ^ min ((24 : Int)).toNat 64)), wr .u8 ((nth x1 t_12).fdiv (2 ^ min ((16 : Int)).toNat 64)), wr .u8 ((nth x1 t_12).fdiv (2 ^ min ((8 : Int)).toNat 64)), wr .u8 (nth x1 t_12)] : List Int).length) * 1 ≤ 140737488355328 then
      image_Numbers.l1 K x1 k t_11 (wr .i64 (t_12 + 1)) (b_10 ++ ([wr .u8 ((nth x1 t_12).fdiv (2 ^ min ((24 : Int)).toNat 64)), wr .u8 ((nth x1 t_12).fdiv (2 ^ min ((16 : Int)).toNat 64)), wr .u8 ((nth x1 t_12).fdiv (2 ^ min ((8 : Int)).toNat 64)), wr .u8 (nth x1 t_12)] : List Int))
      else none
      else none
      else none
      else none
      else none
    else
      some (bytesOf b_10)
def image_Numbers (K : Nat) (x0 : ByteArray) (x1 : List Int) : Option ByteArray :=
  image_Numbers.l1 K x1 K ((x1.length : Nat) : Int) (0 : Int) (bytesL x0)
abbrev image_Data.sg : Sig := ⟨[(.agg, Ty_api_Bits)], [], [(.one, .str)], []⟩
def image_Data (K : Nat) (x0 : api_Bits) : Option ByteArray :=
  (image_Numbers K ByteArray.empty ([x0.N] : List Int)).bind fun r6 =>
  if ((r6.size + x0.Data.size : Nat) : Int) ≤ 9223372036854775807 then
  some (r6 ++ x0.Data)
  else none
abbrev image_Object.sg : Sig := ⟨[(.agg, Ty_api_Bits)], [], [(.one, .str), (.one, (.int .i64))], []⟩
def image_Object (K : Nat) (x0 : api_Bits) : Option (ByteArray × Int) :=
  (bits_May K x0).bind fun r5 =>
  if (!r5) then
    some (ByteArray.empty, 1)
  else
    (image_Data K x0).bind fun r8 =>
    some (r8, 0)
abbrev strings_Repeat.sg : Sig := sgRep
def strings_Repeat (K : Nat) (x0 : ByteArray) (x1 : Int) : Option ByteArray := repF x0 x1
abbrev seal_Of.sg : Sig := ⟨[(.one, .str)], [], [(.one, (.int .u32))], []⟩
def seal_Of.l1 (K : Nat) (x0 : ByteArray) : Nat → Int → Int → Int → Int → Option Int
  | 0, _, _, _, _ => none
  | k + 1, a_10, b_11, t_12, t_13 =>
    if decide (t_13 < t_12) then
      if (0 : Int) ≤ t_13 ∧ t_13 < ((x0.size : Nat) : Int) then
      if (65521 : Int) ≠ 0 then
      if (65521 : Int) ≠ 0 then
      seal_Of.l1 K x0 k ((wr .u32 (a_10 + (wr .u32 (bt x0 t_13)))).tmod 65521) ((wr .u32 (b_11 + ((wr .u32 (a_10 + (wr .u32 (bt x0 t_13)))).tmod 65521))).tmod 65521) t_12 (wr .i64 (t_13 + 1))
      else none
      else none
      else none
    else
      if (0 : Int) ≤ 16 then
      some (ib .or .u32 (wr .u32 (b_11 * 2 ^ min ((16 : Int)).toNat 32)) a_10)
      else none
def seal_Of (K : Nat) (x0 : ByteArray) : Option Int :=
  seal_Of.l1 K x0 K (1 : Int) (0 : Int) ((x0.size : Nat) : Int) (0 : Int)
abbrev seal_check.sg : Sig := ⟨[(.one, .str)], [], [(.one, .str)], []⟩
def seal_check (K : Nat) (x0 : ByteArray) : Option ByteArray :=
  (seal_Of K x0).bind fun r5 =>
  if (0 : Int) ≤ 24 then
  if (0 : Int) ≤ 16 then
  if (0 : Int) ≤ 8 then
  some (bytesOf ([wr .u8 (r5.fdiv (2 ^ min ((24 : Int)).toNat 32)), wr .u8 (r5.fdiv (2 ^ min ((16 : Int)).toNat 32)), wr .u8 (r5.fdiv (2 ^ min ((8 : Int)).toNat 32)), wr .u8 r5] : List Int))
  else none
  else none
  else none
abbrev seal_Add.sg : Sig := ⟨[(.one, .str)], [], [(.one, .str)], []⟩
def seal_Add (K : Nat) (x0 : ByteArray) : Option ByteArray :=
  if (0 : Int) ≤ (0 : Int) ∧ (0 : Int) ≤ (if (60 : Int) < ((x0.size : Nat) : Int) then (60 : Int) else ((x0.size : Nat) : Int)) ∧ (if (60 : Int) < ((x0.size : Nat) : Int) then (60 : Int) else ((x0.size : Nat) : Int)) ≤ ((x0.size : Nat) : Int) then
  (strings_Repeat K (⟨#[0]⟩ : ByteArray) (wr .i64 (60 - (((x0.extract (0 : Int).toNat (if (60 : Int) < ((x0.size : Nat) : Int) then (60 : Int) else ((x0.size : Nat) : Int)).toNat).size : Nat) : Int)))).bind fun r12 =>
  if (((x0.extract (0 : Int).toNat (if (60 : Int) < ((x0.size : Nat) : Int) then (60 : Int) else ((x0.size : Nat) : Int)).toNat).size + r12.size : Nat) : Int) ≤ 9223372036854775807 then
  (seal_check K ((x0.extract (0 : Int).toNat (if (60 : Int) < ((x0.size : Nat) : Int) then (60 : Int) else ((x0.size : Nat) : Int)).toNat) ++ r12)).bind fun r16 =>
  if ((((x0.extract (0 : Int).toNat (if (60 : Int) < ((x0.size : Nat) : Int) then (60 : Int) else ((x0.size : Nat) : Int)).toNat) ++ r12).size + r16.size : Nat) : Int) ≤ 9223372036854775807 then
  some (((x0.extract (0 : Int).toNat (if (60 : Int) < ((x0.size : Nat) : Int) then (60 : Int) else ((x0.size : Nat) : Int)).toNat) ++ r12) ++ r16)
  else none
  else none
  else none
abbrev image_Parts.sg : Sig := ⟨[(.one, .str)], [], [(.one, (.sl .str))], [.o]⟩
def image_Parts.l1 (K : Nat) : Nat → ByteArray → (List ByteArray) → Option (List ByteArray)
  | 0, _, _ => none
  | k + 1, s_10, l_11 =>
    if (!(s_10.toList == ByteArray.empty.toList)) then
      if (0 : Int) ≤ (0 : Int) ∧ (0 : Int) ≤ (if (60 : Int) < ((s_10.size : Nat) : Int) then (60 : Int) else ((s_10.size : Nat) : Int)) ∧ (if (60 : Int) < ((s_10.size : Nat) : Int) then (60 : Int) else ((s_10.size : Nat) : Int)) ≤ ((s_10.size : Nat) : Int) then
      (seal_Add K (s_10.extract (0 : Int).toNat (if (60 : Int) < ((s_10.size : Nat) : Int) then (60 : Int) else ((s_10.size : Nat) : Int)).toNat)).bind fun r13 =>
      if (l_11.length + ([r13] : List ByteArray).length) * 16 ≤ 140737488355328 then
      if (0 : Int) ≤ (if (60 : Int) < ((s_10.size : Nat) : Int) then (60 : Int) else ((s_10.size : Nat) : Int)) ∧ (if (60 : Int) < ((s_10.size : Nat) : Int) then (60 : Int) else ((s_10.size : Nat) : Int)) ≤ ((s_10.size : Nat) : Int) ∧ ((s_10.size : Nat) : Int) ≤ ((s_10.size : Nat) : Int) then
      image_Parts.l1 K k (s_10.extract (if (60 : Int) < ((s_10.size : Nat) : Int) then (60 : Int) else ((s_10.size : Nat) : Int)).toNat ((s_10.size : Nat) : Int).toNat) (l_11 ++ ([r13] : List ByteArray))
      else none
      else none
      else none
    else
      some l_11
def image_Parts (K : Nat) (x0 : ByteArray) : Option (List ByteArray) :=
  image_Parts.l1 K K x0 ([] : List ByteArray)
abbrev seal_Take.sg : Sig := ⟨[(.one, .str)], [], [(.one, .str), (.one, .bool)], []⟩
def seal_Take (K : Nat) (x0 : ByteArray) : Option (ByteArray × Bool) :=
  if (((x0.size : Nat) : Int) != 64) then
    some (ByteArray.empty, false)
  else
    if (0 : Int) ≤ (0 : Int) ∧ (0 : Int) ≤ (60 : Int) ∧ (60 : Int) ≤ ((x0.size : Nat) : Int) then
    (seal_check K (x0.extract (0 : Int).toNat (60 : Int).toNat)).bind fun r10 =>
    if (0 : Int) ≤ (60 : Int) ∧ (60 : Int) ≤ ((x0.size : Nat) : Int) ∧ ((x0.size : Nat) : Int) ≤ ((x0.size : Nat) : Int) then
    if (!(r10.toList == (x0.extract (60 : Int).toNat ((x0.size : Nat) : Int).toNat).toList)) then
      some (ByteArray.empty, false)
    else
      if (0 : Int) ≤ (0 : Int) ∧ (0 : Int) ≤ (60 : Int) ∧ (60 : Int) ≤ ((x0.size : Nat) : Int) then
      some (x0.extract (0 : Int).toNat (60 : Int).toNat, true)
      else none
    else none
    else none
abbrev image_Whole.sg : Sig := ⟨[(.one, (.sl .str))], [], [(.one, .str), (.one, (.int .i64))], []⟩
def image_Whole.l1 (K : Nat) (x0 : List ByteArray) : Nat → ByteArray → Int → Int → Option (ByteArray × Int)
  | 0, _, _, _ => none
  | k + 1, s_10, t_11, t_12 =>
    if decide (t_12 < t_11) then
      if (0 : Int) ≤ t_12 ∧ t_12 < ((x0.length : Nat) : Int) then
      (seal_Take K (nth x0 t_12)).bind fun r17 =>
      if (!r17.2) then
        some (ByteArray.empty, 9)
      else
        if ((s_10.size + r17.1.size : Nat) : Int) ≤ 9223372036854775807 then
        image_Whole.l1 K x0 k (s_10 ++ r17.1) t_11 (wr .i64 (t_12 + 1))
        else none
      else none
    else
      some (s_10, 0)
def image_Whole (K : Nat) (x0 : List ByteArray) : Option (ByteArray × Int) :=
  image_Whole.l1 K x0 K ByteArray.empty ((x0.length : Nat) : Int) (0 : Int)
abbrev image_Reader : Type := ByteArray × Bool
abbrev Ty_image_Reader : Ty := (.pr .str .bool)
abbrev image_Reader.S (x : image_Reader) : ByteArray := x.1
abbrev image_Reader.Bad (x : image_Reader) : Bool := x.2
abbrev __image_Reader__Number.sg : Sig := ⟨[(.box, Ty_image_Reader)], [], [(.one, (.int .i64))], []⟩
def __image_Reader__Number.l1 (K : Nat) (x0 : image_Reader) : Nat → Int → Int → Int → (List Int) → Option (Int × image_Reader)
  | 0, _, _, _, _ => none
  | k + 1, n_10, t_12, t_13, t_11 =>
    if decide (t_13 < t_12) then
      if (0 : Int) ≤ t_13 ∧ t_13 < ((t_11.length : Nat) : Int) then
      if (0 : Int) ≤ 8 then
      __image_Reader__Number.l1 K x0 k (ib .or .i64 (wr .i64 (n_10 * 2 ^ min ((8 : Int)).toNat 64)) (wr .i64 (nth t_11 t_13))) t_12 (wr .i64 (t_13 + 1)) t_11
      else none
      else none
    else
      if (0 : Int) ≤ (4 : Int) ∧ (4 : Int) ≤ ((x0.S.size : Nat) : Int) ∧ ((x0.S.size : Nat) : Int) ≤ ((x0.S.size : Nat) : Int) then
      some (n_10, ((x0.S.extract (4 : Int).toNat ((x0.S.size : Nat) : Int).toNat, x0.Bad) : image_Reader))
      else none
def __image_Reader__Number (K : Nat) (x0 : image_Reader) : Option (Int × image_Reader) :=
  if x0.Bad then
    some (0, ((x0.S, true) : image_Reader))
  else
    if decide (((x0.S.size : Nat) : Int) < 4) then
      some (0, ((x0.S, true) : image_Reader))
    else
      if (0 : Int) ≤ (0 : Int) ∧ (0 : Int) ≤ (4 : Int) ∧ (4 : Int) ≤ ((x0.S.size : Nat) : Int) then
      __image_Reader__Number.l1 K x0 K (0 : Int) (((bytesL (x0.S.extract (0 : Int).toNat (4 : Int).toNat)).length : Nat) : Int) (0 : Int) (bytesL (x0.S.extract (0 : Int).toNat (4 : Int).toNat))
      else none
abbrev bits_Blank.sg : Sig := ⟨[(.one, (.int .i64))], [], [(.agg, Ty_api_Bits)], []⟩
def bits_Blank (K : Nat) (x0 : Int) : Option api_Bits :=
  if (8 : Int) ≠ 0 then
  (strings_Repeat K (⟨#[0]⟩ : ByteArray) (wr .i64 ((wr .i64 ((wr .i64 (x0 + 8)) - 1)).tdiv 8))).bind fun r7 =>
  some ((r7, x0) : api_Bits)
  else none
abbrev strings_Trim.sg : Sig := sgTrim
def strings_Trim (K : Nat) (x0 : ByteArray) (x1 : ByteArray) : Option ByteArray := trimF x0 x1
abbrev image_TakeObject.sg : Sig := ⟨[(.one, .str), (.one, (.int .i64))], [], [(.agg, Ty_api_Bits), (.one, (.int .i64))], []⟩
def image_TakeObject (K : Nat) (x0 : ByteArray) (x1 : Int) : Option (api_Bits × Int) :=
  (__image_Reader__Number K ((x0, false) : image_Reader)).bind fun r14 =>
  if r14.2.Bad then
    some (((ByteArray.empty, 0) : api_Bits), 9)
  else
    if (r14.1 != x1) then
      some (((ByteArray.empty, 0) : api_Bits), 9)
    else
      if decide (x1 > 6000) then
        some (((ByteArray.empty, 0) : api_Bits), 9)
      else
        (bits_Blank K x1).bind fun r30 =>
        if decide (((r14.2.S.size : Nat) : Int) < ((r30.Data.size : Nat) : Int)) then
          some (((ByteArray.empty, 0) : api_Bits), 9)
        else
          if (0 : Int) ≤ (0 : Int) ∧ (0 : Int) ≤ ((r30.Data.size : Nat) : Int) ∧ ((r30.Data.size : Nat) : Int) ≤ ((r14.2.S.size : Nat) : Int) then
          (bits_May K ((r14.2.S.extract (0 : Int).toNat ((r30.Data.size : Nat) : Int).toNat, x1) : api_Bits)).bind fun r50 =>
          if (!r50) then
            some (((ByteArray.empty, 0) : api_Bits), 9)
          else
            if (0 : Int) ≤ ((r30.Data.size : Nat) : Int) ∧ ((r30.Data.size : Nat) : Int) ≤ ((r14.2.S.size : Nat) : Int) ∧ ((r14.2.S.size : Nat) : Int) ≤ ((r14.2.S.size : Nat) : Int) then
            (strings_Trim K (r14.2.S.extract ((r30.Data.size : Nat) : Int).toNat ((r14.2.S.size : Nat) : Int).toNat) (⟨#[0]⟩ : ByteArray)).bind fun r59 =>
            if (!(r59.toList == ByteArray.empty.toList)) then
              some (((ByteArray.empty, 0) : api_Bits), 9)
            else
              some (((r14.2.S.extract (0 : Int).toNat ((r30.Data.size : Nat) : Int).toNat, x1) : api_Bits), 0)
            else none
          else none
abbrev herbariumlaw18_num.sg : Sig := ⟨[(.one, (.int .i64))], [], [(.one, (.int .i64))], []⟩
def herbariumlaw18_num (K : Nat) (x0 : Int) : Option Int :=
  some x0
abbrev api_Version : Type := Int × Int × Int × api_Bits × Int × Bool × Bool
abbrev Ty_api_Version : Ty := (.pr (.int .i64) (.pr (.int .i64) (.pr (.int .i64) (.pr Ty_api_Bits (.pr (.int .i64) (.pr .bool .bool))))))
abbrev api_Version.ID (x : api_Version) : Int := x.1
abbrev api_Version.Parent (x : api_Version) : Int := x.2.1
abbrev api_Version.Base (x : api_Version) : Int := x.2.2.1
abbrev api_Version.Data (x : api_Version) : api_Bits := x.2.2.2.1
abbrev api_Version.At (x : api_Version) : Int := x.2.2.2.2.1
abbrev api_Version.Tag (x : api_Version) : Bool := x.2.2.2.2.2.1
abbrev api_Version.Gone (x : api_Version) : Bool := x.2.2.2.2.2.2
abbrev api_Graph : Type := Int × (List (List Int))
abbrev Ty_api_Graph : Ty := (.pr (.int .i64) (.sl (.sl (.int .i64))))
abbrev api_Graph.N (x : api_Graph) : Int := x.1
abbrev api_Graph.Out (x : api_Graph) : List (List Int) := x.2
abbrev api_Job : Type := Int × Int × Int × Bool × (List Int) × (List Int)
abbrev Ty_api_Job : Ty := (.pr (.int .i64) (.pr (.int .i64) (.pr (.int .i64) (.pr .bool (.pr (.sl (.int .i64)) (.sl (.int .i64)))))))
abbrev api_Job.Kind (x : api_Job) : Int := x.1
abbrev api_Job.A (x : api_Job) : Int := x.2.1
abbrev api_Job.At (x : api_Job) : Int := x.2.2.1
abbrev api_Job.Move (x : api_Job) : Bool := x.2.2.2.1
abbrev api_Job.List_ (x : api_Job) : List Int := x.2.2.2.2.1
abbrev api_Job.Out (x : api_Job) : List Int := x.2.2.2.2.2
abbrev api_Session : Type := Bool × Int × Bool × Int × api_Graph × api_Job
abbrev Ty_api_Session : Ty := (.pr .bool (.pr (.int .i64) (.pr .bool (.pr (.int .i64) (.pr Ty_api_Graph Ty_api_Job)))))
abbrev api_Session.Open (x : api_Session) : Bool := x.1
abbrev api_Session.Pin (x : api_Session) : Int := x.2.1
abbrev api_Session.On (x : api_Session) : Bool := x.2.2.1
abbrev api_Session.From (x : api_Session) : Int := x.2.2.2.1
abbrev api_Session.Stage (x : api_Session) : api_Graph := x.2.2.2.2.1
abbrev api_Session.Job (x : api_Session) : api_Job := x.2.2.2.2.2
abbrev api_State : Type := Int × Int × (List api_Version) × (List api_Session)
abbrev Ty_api_State : Ty := (.pr (.int .i64) (.pr (.int .i64) (.pr (.sl Ty_api_Version) (.sl Ty_api_Session))))
abbrev api_State.Keep (x : api_State) : Int := x.1
abbrev api_State.Blocks (x : api_State) : Int := x.2.1
abbrev api_State.Versions (x : api_State) : List api_Version := x.2.2.1
abbrev api_State.Sessions (x : api_State) : List api_Session := x.2.2.2
abbrev herbariumref13_New.sg : Sig := ⟨[(.one, (.int .i64)), (.one, (.int .i64))], [], [(.agg, Ty_api_State)], [.s, .s, .o, .o]⟩
def herbariumref13_New (K : Nat) (x0 : Int) (x1 : Int) : Option api_State :=
  if (3 : Int) = (3 : Int) ∧ (0 : Int) ≤ (3 : Int) ∧ (144 : Int) * (3 : Int) ≤ 281474976710656 ∧ (3 : Int) ≤ 9223372036854775807 then
  some ((x1, x0, ([] : List api_Version), List.replicate (3 : Int).toNat ((false, 0, false, 0, ((0, []) : api_Graph), ((0, 0, 0, false, [], []) : api_Job)) : api_Session)) : api_State)
  else none
abbrev api_Object : Type := Int × Int × api_Bits
abbrev Ty_api_Object : Ty := (.pr (.int .i64) (.pr (.int .i64) Ty_api_Bits))
abbrev api_Object.ID (x : api_Object) : Int := x.1
abbrev api_Object.Base (x : api_Object) : Int := x.2.1
abbrev api_Object.Data (x : api_Object) : api_Bits := x.2.2
abbrev cat_List.sg : Sig := ⟨[(.agg, Ty_api_State)], [], [(.one, (.sl Ty_api_Object))], [.o]⟩
def cat_List.l1 (K : Nat) (x0 : api_State) : Nat → Int → Int → (List api_Object) → Option (List api_Object)
  | 0, _, _, _ => none
  | k + 1, t_10, t_11, l_12 =>
    if decide (t_11 < t_10) then
      if (0 : Int) ≤ t_11 ∧ t_11 < ((x0.Versions.length : Nat) : Int) then
      if (l_12.length + ([(((nth x0.Versions t_11).ID, (nth x0.Versions t_11).Base, ((nth x0.Versions t_11).Data)) : api_Object)] : List api_Object).length) * 40 ≤ 140737488355328 then
      cat_List.l1 K x0 k t_10 (wr .i64 (t_11 + 1)) (l_12 ++ ([(((nth x0.Versions t_11).ID, (nth x0.Versions t_11).Base, ((nth x0.Versions t_11).Data)) : api_Object)] : List api_Object))
      else none
      else none
    else
      some l_12
def cat_List (K : Nat) (x0 : api_State) : Option (List api_Object) :=
  cat_List.l1 K x0 K ((x0.Versions.length : Nat) : Int) (0 : Int) ([] : List api_Object)
abbrev chain_find_1.sg : Sig := ⟨[(.agg, Ty_api_Object), (.box, (.int .i64))], [], [(.one, .bool)], []⟩
def chain_find_1 (K : Nat) (x0 : api_Object) (x1 : Int) : Option (Bool × Int) :=
  some ((x0.ID == x1), x1)
abbrev slices_IndexFunc___api_Object_api_Object__chain_find_1.sg : Sig := ⟨[(.one, (.sl Ty_api_Object)), (.fn 283 1, .un), (.hid, (.int .i64))], [], [(.one, (.int .i64))], []⟩
def slices_IndexFunc___api_Object_api_Object__chain_find_1.l1 (K : Nat) (x0 : List api_Object) : Nat → Int → Int → Int → Option (Int × Int)
  | 0, _, _, _ => none
  | k + 1, t_10, t_11, h_12 =>
    if decide (t_11 < t_10) then
      if (0 : Int) ≤ t_11 ∧ t_11 < ((x0.length : Nat) : Int) then
      (chain_find_1 K (nth x0 t_11) h_12).bind fun r16 =>
      if r16.1 then
        some (t_11, r16.2)
      else
        slices_IndexFunc___api_Object_api_Object__chain_find_1.l1 K x0 k t_10 (wr .i64 (t_11 + 1)) r16.2
      else none
    else
      some ((-1), h_12)
def slices_IndexFunc___api_Object_api_Object__chain_find_1 (K : Nat) (x0 : List api_Object) (x2 : Int) : Option (Int × Int) :=
  slices_IndexFunc___api_Object_api_Object__chain_find_1.l1 K x0 K ((x0.length : Nat) : Int) (0 : Int) x2
abbrev chain_find.sg : Sig := ⟨[(.one, (.sl Ty_api_Object)), (.one, (.int .i64))], [], [(.one, (.int .i64))], []⟩
def chain_find (K : Nat) (x0 : List api_Object) (x1 : Int) : Option Int :=
  (slices_IndexFunc___api_Object_api_Object__chain_find_1 K x0 x1).bind fun r7 =>
  some r7.1
abbrev chain_May.sg : Sig := ⟨[(.one, (.sl Ty_api_Object))], [], [(.one, .bool)], []⟩
def chain_May.l1 (K : Nat) (x0 : List api_Object) : Nat → Int → Int → Option Bool
  | 0, _, _ => none
  | k + 1, t_10, t_11 =>
    if decide (t_11 < t_10) then
      if (0 : Int) ≤ t_11 ∧ t_11 < ((x0.length : Nat) : Int) then
      if decide (((nth x0 t_11).ID) < 1) then
        some false
      else
        if decide (((nth x0 t_11).ID) > 1048576) then
          some false
        else
          if decide (t_11 > 0) then
            if (0 : Int) ≤ (wr .i64 (t_11 - 1)) ∧ (wr .i64 (t_11 - 1)) < ((x0.length : Nat) : Int) then
            if decide (((nth x0 t_11).ID) ≤ ((nth x0 (wr .i64 (t_11 - 1))).ID)) then
              some false
            else
              (bits_May K ((nth x0 t_11).Data)).bind fun r41 =>
              if (!r41) then
                some false
              else
                if (((nth x0 t_11).Base) == ((nth x0 t_11).ID)) then
                  some false
                else
                  if (((nth x0 t_11).Base) != 0) then
                    (chain_find K x0 ((nth x0 t_11).Base)).bind fun r57 =>
                    if decide (r57 < 0) then
                      some false
                    else
                      chain_May.l1 K x0 k t_10 (wr .i64 (t_11 + 1))
                  else
                    chain_May.l1 K x0 k t_10 (wr .i64 (t_11 + 1))
            else none
          else
            (bits_May K ((nth x0 t_11).Data)).bind fun r41 =>
            if (!r41) then
              some false
            else
              if (((nth x0 t_11).Base) == ((nth x0 t_11).ID)) then
                some false
              else
                if (((nth x0 t_11).Base) != 0) then
                  (chain_find K x0 ((nth x0 t_11).Base)).bind fun r57 =>
                  if decide (r57 < 0) then
                    some false
                  else
                    chain_May.l1 K x0 k t_10 (wr .i64 (t_11 + 1))
                else
                  chain_May.l1 K x0 k t_10 (wr .i64 (t_11 + 1))
      else none
    else
      some true
def chain_May (K : Nat) (x0 : List api_Object) : Option Bool :=
  if decide (((x0.length : Nat) : Int) > 12) then
    some false
  else
    chain_May.l1 K x0 K ((x0.length : Nat) : Int) (0 : Int)
abbrev cat_Words.sg : Sig := ⟨[(.agg, Ty_api_State)], [], [(.one, .bool)], []⟩
def cat_Words.l1 (K : Nat) (x0 : api_State) : Nat → Int → Int → Option Bool
  | 0, _, _ => none
  | k + 1, t_10, t_11 =>
    if decide (t_11 < t_10) then
      if (0 : Int) ≤ t_11 ∧ t_11 < ((x0.Versions.length : Nat) : Int) then
      if decide (((nth x0.Versions t_11).Parent) < 0) then
        some false
      else
        if decide (((nth x0.Versions t_11).Parent) ≥ ((nth x0.Versions t_11).ID)) then
          some false
        else
          if (nth x0.Versions t_11).Tag then
            if (nth x0.Versions t_11).Gone then
              some false
            else
              if (nth x0.Versions t_11).Gone then
                if (t_11 == (wr .i64 (((x0.Versions.length : Nat) : Int) - 1))) then
                  some false
                else
                  cat_Words.l1 K x0 k t_10 (wr .i64 (t_11 + 1))
              else
                cat_Words.l1 K x0 k t_10 (wr .i64 (t_11 + 1))
          else
            if (nth x0.Versions t_11).Gone then
              if (t_11 == (wr .i64 (((x0.Versions.length : Nat) : Int) - 1))) then
                some false
              else
                cat_Words.l1 K x0 k t_10 (wr .i64 (t_11 + 1))
            else
              cat_Words.l1 K x0 k t_10 (wr .i64 (t_11 + 1))
      else none
    else
      (cat_List K x0).bind fun r63 =>
      (chain_May K r63).bind fun r64 =>
      some r64
def cat_Words (K : Nat) (x0 : api_State) : Option Bool :=
  if decide (x0.Keep < 1) then
    some false
  else
    if decide (x0.Keep > 8) then
      some false
    else
      if decide (x0.Blocks < 1) then
        some false
      else
        if decide (x0.Blocks > 100) then
          some false
        else
          cat_Words.l1 K x0 K ((x0.Versions.length : Nat) : Int) (0 : Int)
abbrev cat_none.sg : Sig := ⟨[(.agg, Ty_api_Graph)], [], [(.one, .bool)], []⟩
def cat_none (K : Nat) (x0 : api_Graph) : Option Bool :=
  if (x0.N == 0) then
    some (((x0.Out.length : Nat) : Int) == 0)
  else
    some false
abbrev cat_idle.sg : Sig := ⟨[(.agg, Ty_api_Job)], [], [(.one, .bool)], []⟩
def cat_idle (K : Nat) (x0 : api_Job) : Option Bool :=
  if (x0.Kind == 0) then
    if (x0.A == 0) then
      if (x0.At == 0) then
        if (!x0.Move) then
          some ((wr .i64 (((x0.List_.length : Nat) : Int) + ((x0.Out.length : Nat) : Int))) == 0)
        else
          some false
      else
        some false
    else
      some false
  else
    some false
abbrev cat_Place_1.sg : Sig := ⟨[(.agg, Ty_api_Version), (.box, (.int .i64))], [], [(.one, .bool)], []⟩
def cat_Place_1 (K : Nat) (x0 : api_Version) (x1 : Int) : Option (Bool × Int) :=
  some ((x0.ID == x1), x1)
abbrev slices_IndexFunc___api_Version_api_Version__cat_Place_1.sg : Sig := ⟨[(.one, (.sl Ty_api_Version)), (.fn 275 1, .un), (.hid, (.int .i64))], [], [(.one, (.int .i64))], []⟩
def slices_IndexFunc___api_Version_api_Version__cat_Place_1.l1 (K : Nat) (x0 : List api_Version) : Nat → Int → Int → Int → Option (Int × Int)
  | 0, _, _, _ => none
  | k + 1, t_10, t_11, h_12 =>
    if decide (t_11 < t_10) then
      if (0 : Int) ≤ t_11 ∧ t_11 < ((x0.length : Nat) : Int) then
      (cat_Place_1 K (nth x0 t_11) h_12).bind fun r16 =>
      if r16.1 then
        some (t_11, r16.2)
      else
        slices_IndexFunc___api_Version_api_Version__cat_Place_1.l1 K x0 k t_10 (wr .i64 (t_11 + 1)) r16.2
      else none
    else
      some ((-1), h_12)
def slices_IndexFunc___api_Version_api_Version__cat_Place_1 (K : Nat) (x0 : List api_Version) (x2 : Int) : Option (Int × Int) :=
  slices_IndexFunc___api_Version_api_Version__cat_Place_1.l1 K x0 K ((x0.length : Nat) : Int) (0 : Int) x2
abbrev cat_Place.sg : Sig := ⟨[(.agg, Ty_api_State), (.one, (.int .i64))], [], [(.one, (.int .i64))], []⟩
def cat_Place (K : Nat) (x0 : api_State) (x1 : Int) : Option Int :=
  (slices_IndexFunc___api_Version_api_Version__cat_Place_1 K x0.Versions x1).bind fun r8 =>
  some r8.1
abbrev cat_Last.sg : Sig := ⟨[(.agg, Ty_api_State)], [], [(.one, (.int .i64))], []⟩
def cat_Last (K : Nat) (x0 : api_State) : Option Int :=
  if (((x0.Versions.length : Nat) : Int) == 0) then
    some (0 : Int)
  else
    if (0 : Int) ≤ (wr .i64 (((x0.Versions.length : Nat) : Int) - 1)) ∧ (wr .i64 (((x0.Versions.length : Nat) : Int) - 1)) < ((x0.Versions.length : Nat) : Int) then
    some ((nth x0.Versions (wr .i64 (((x0.Versions.length : Nat) : Int) - 1))).ID)
    else none
abbrev gaps_Is.sg : Sig := ⟨[(.one, (.int .i64))], [], [(.one, .bool)], []⟩
def gaps_Is (K : Nat) (x0 : Int) : Option Bool :=
  if decide (x0 ≥ 0) then
    some (decide (x0 < 16))
  else
    some false
abbrev gaps_May.sg : Sig := ⟨[(.one, (.sl (.int .i64)))], [], [(.one, .bool)], []⟩
def gaps_May.l1 (K : Nat) (x0 : List Int) : Nat → Int → Int → Option Bool
  | 0, _, _ => none
  | k + 1, t_10, t_11 =>
    if decide (t_11 < t_10) then
      if (0 : Int) ≤ t_11 ∧ t_11 < ((x0.length : Nat) : Int) then
      (gaps_Is K (nth x0 t_11)).bind fun r13 =>
      if (!r13) then
        some false
      else
        if decide (t_11 > 0) then
          if (0 : Int) ≤ (wr .i64 (t_11 - 1)) ∧ (wr .i64 (t_11 - 1)) < ((x0.length : Nat) : Int) then
          if decide ((nth x0 t_11) ≤ (nth x0 (wr .i64 (t_11 - 1)))) then
            some false
          else
            gaps_May.l1 K x0 k t_10 (wr .i64 (t_11 + 1))
          else none
        else
          gaps_May.l1 K x0 k t_10 (wr .i64 (t_11 + 1))
      else none
    else
      some true
def gaps_May (K : Nat) (x0 : List Int) : Option Bool :=
  gaps_May.l1 K x0 K ((x0.length : Nat) : Int) (0 : Int)
abbrev graph_many.sg : Sig := ⟨[(.agg, Ty_api_Graph)], [], [(.one, (.int .i64))], []⟩
def graph_many.l1 (K : Nat) (x0 : api_Graph) : Nat → Int → Int → Int → Option Int
  | 0, _, _, _ => none
  | k + 1, n_10, t_11, t_12 =>
    if decide (t_12 < t_11) then
      if (0 : Int) ≤ t_12 ∧ t_12 < ((x0.Out.length : Nat) : Int) then
      graph_many.l1 K x0 k (wr .i64 (n_10 + (((nth x0.Out t_12).length : Nat) : Int))) t_11 (wr .i64 (t_12 + 1))
      else none
    else
      some n_10
def graph_many (K : Nat) (x0 : api_Graph) : Option Int :=
  graph_many.l1 K x0 K (0 : Int) ((x0.Out.length : Nat) : Int) (0 : Int)
abbrev graph_May.sg : Sig := ⟨[(.agg, Ty_api_Graph)], [], [(.one, .bool)], []⟩
def graph_May.l1 (K : Nat) (x0 : api_Graph) : Nat → Int → Int → Option Bool
  | 0, _, _ => none
  | k + 1, t_10, t_11 =>
    if decide (t_11 < t_10) then
      if (0 : Int) ≤ t_11 ∧ t_11 < ((x0.Out.length : Nat) : Int) then
      (gaps_May K (nth x0.Out t_11)).bind fun r29 =>
      if (!r29) then
        some false
      else
        if decide ((((nth x0.Out t_11).length : Nat) : Int) > 0) then
          if (0 : Int) ≤ (wr .i64 ((((nth x0.Out t_11).length : Nat) : Int) - 1)) ∧ (wr .i64 ((((nth x0.Out t_11).length : Nat) : Int) - 1)) < (((nth x0.Out t_11).length : Nat) : Int) then
          if decide ((nth (nth x0.Out t_11) (wr .i64 ((((nth x0.Out t_11).length : Nat) : Int) - 1))) ≥ x0.N) then
            some false
          else
            graph_May.l1 K x0 k t_10 (wr .i64 (t_11 + 1))
          else none
        else
          graph_May.l1 K x0 k t_10 (wr .i64 (t_11 + 1))
      else none
    else
      (graph_many K x0).bind fun r49 =>
      some (decide (r49 ≤ 120))
def graph_May (K : Nat) (x0 : api_Graph) : Option Bool :=
  if decide (x0.N < 0) then
    some false
  else
    if decide (x0.N > 16) then
      some false
    else
      if (((x0.Out.length : Nat) : Int) != x0.N) then
        some false
      else
        graph_May.l1 K x0 K ((x0.Out.length : Nat) : Int) (0 : Int)
abbrev graph_Empty.sg : Sig := ⟨[(.one, (.int .i64))], [], [(.agg, Ty_api_Graph)], [.s, .o]⟩
def graph_Empty (K : Nat) (x0 : Int) : Option api_Graph :=
  if x0 = x0 ∧ (0 : Int) ≤ x0 ∧ (24 : Int) * x0 ≤ 281474976710656 ∧ x0 ≤ 9223372036854775807 then
  some ((x0, List.replicate x0.toNat ([] : List Int)) : api_Graph)
  else none
abbrev cat_Of.sg : Sig := ⟨[(.agg, Ty_api_State), (.one, (.int .i64))], [], [(.agg, Ty_api_Graph)], [.s, .o]⟩
def cat_Of (K : Nat) (x0 : api_State) (x1 : Int) : Option api_Graph :=
  if (x1 == 0) then
    (graph_Empty K 0).bind fun r9 =>
    some r9
  else
    (cat_List K x0).bind fun r12 =>
    none
abbrev cat_session.sg : Sig := ⟨[(.agg, Ty_api_State), (.agg, Ty_api_Session)], [], [(.one, .bool)], []⟩
def cat_session.j3 (K : Nat) (x0 : api_State) (x1 : api_Session) (t_12 : Bool) : Option Bool :=
  if t_12 then
    some false
  else
    (cat_idle K x1.Job).bind fun r83 =>
    if r83 then
      some true
    else
      if (x1.Pin == 0) then
        some false
      else
        (cat_Of K x0 x1.Pin).bind fun r91 =>
        none
def cat_session.j2 (K : Nat) (x0 : api_State) (x1 : api_Session) (t_11 : Bool) : Option Bool :=
  if t_11 then
    some false
  else
    if (!x1.On) then
      if (x1.From != 0) then
        cat_session.j3 K x0 x1 true
      else
        (cat_none K x1.Stage).bind fun r76 =>
        cat_session.j3 K x0 x1 (!r76)
    else
      cat_session.j3 K x0 x1 false
def cat_session.j1 (K : Nat) (x0 : api_State) (x1 : api_Session) (t_10 : Bool) : Option Bool :=
  if t_10 then
    some false
  else
    if x1.On then
      if decide (x1.From < 0) then
        cat_session.j2 K x0 x1 true
      else
        (cat_Last K x0).bind fun r55 =>
        if decide (x1.From > r55) then
          cat_session.j2 K x0 x1 true
        else
          (graph_May K x1.Stage).bind fun r61 =>
          cat_session.j2 K x0 x1 (!r61)
    else
      cat_session.j2 K x0 x1 false
def cat_session (K : Nat) (x0 : api_State) (x1 : api_Session) : Option Bool :=
  if (!x1.Open) then
    if (x1.Pin == 0) then
      if (!x1.On) then
        if (x1.From == 0) then
          (cat_none K x1.Stage).bind fun r26 =>
          if r26 then
            (cat_idle K x1.Job).bind fun r31 =>
            some r31
          else
            some false
        else
          some false
      else
        some false
    else
      some false
  else
    if (x1.Pin != 0) then
      (cat_Place K x0 x1.Pin).bind fun r41 =>
      cat_session.j1 K x0 x1 (decide (r41 < 0))
    else
      cat_session.j1 K x0 x1 false
abbrev cat_most_1.sg : Sig := ⟨[(.agg, Ty_api_Session), (.box, Ty_api_State)], [], [(.one, .bool)], []⟩
def cat_most_1 (K : Nat) (x0 : api_Session) (x1 : api_State) : Option (Bool × api_State) :=
  (cat_session K x1 x0).bind fun r6 =>
  some ((!r6), x1)
abbrev slices_IndexFunc___api_Session_api_Session__cat_most_1.sg : Sig := ⟨[(.one, (.sl Ty_api_Session)), (.fn 183 1, .un), (.hid, Ty_api_State)], [], [(.one, (.int .i64))], []⟩
def slices_IndexFunc___api_Session_api_Session__cat_most_1.l1 (K : Nat) (x0 : List api_Session) : Nat → Int → Int → Int → Int → (List api_Version) → (List api_Session) → Option (Int × api_State)
  | 0, _, _, _, _, _, _ => none
  | k + 1, t_10, t_11, h_12, h_13, h_14, h_15 =>
    if decide (t_11 < t_10) then
      if (0 : Int) ≤ t_11 ∧ t_11 < ((x0.length : Nat) : Int) then
      (cat_most_1 K (nth x0 t_11) ((h_12, h_13, h_14, h_15) : api_State)).bind fun r16 =>
      if r16.1 then
        some (t_11, r16.2)
      else
        slices_IndexFunc___api_Session_api_Session__cat_most_1.l1 K x0 k t_10 (wr .i64 (t_11 + 1)) r16.2.Keep r16.2.Blocks r16.2.Versions r16.2.Sessions
      else none
    else
      some ((-1), ((h_12, h_13, h_14, h_15) : api_State))
def slices_IndexFunc___api_Session_api_Session__cat_most_1 (K : Nat) (x0 : List api_Session) (x2 : api_State) : Option (Int × api_State) :=
  slices_IndexFunc___api_Session_api_Session__cat_most_1.l1 K x0 K ((x0.length : Nat) : Int) (0 : Int) x2.Keep x2.Blocks x2.Versions x2.Sessions
abbrev slices_ContainsFunc___api_Session_api_Session__cat_most_1.sg : Sig := ⟨[(.one, (.sl Ty_api_Session)), (.fn 183 1, .un), (.hid, Ty_api_State)], [], [(.one, .bool)], []⟩
def slices_ContainsFunc___api_Session_api_Session__cat_most_1 (K : Nat) (x0 : List api_Session) (x2 : api_State) : Option (Bool × api_State) :=
  (slices_IndexFunc___api_Session_api_Session__cat_most_1 K x0 x2).bind fun r7 =>
  some (decide (r7.1 ≥ 0), r7.2)
abbrev cat_most.sg : Sig := ⟨[(.agg, Ty_api_State)], [], [(.one, .bool)], []⟩
def cat_most.l1 (K : Nat) (r18 : List api_Object) (x0 : api_State) : Nat → Int → Int → Option Bool
  | 0, _, _ => none
  | k + 1, t_10, t_11 =>
    if decide (t_11 < t_10) then
      if (0 : Int) ≤ t_11 ∧ t_11 < ((r18.length : Nat) : Int) then
      none
      else none
    else
      (slices_ContainsFunc___api_Session_api_Session__cat_most_1 K x0.Sessions x0).bind fun r38 =>
      some (!r38.1)
def cat_most (K : Nat) (x0 : api_State) : Option Bool :=
  (cat_Words K x0).bind fun r9 =>
  if (!r9) then
    some false
  else
    if (((x0.Sessions.length : Nat) : Int) != 3) then
      some false
    else
      (cat_List K x0).bind fun r18 =>
      cat_most.l1 K r18 x0 K ((r18.length : Nat) : Int) (0 : Int)
abbrev space_Blocks.sg : Sig := ⟨[(.agg, Ty_api_Bits)], [], [(.one, (.int .i64))], []⟩
def space_Blocks (K : Nat) (x0 : api_Bits) : Option Int :=
  if (60 : Int) ≠ 0 then
  some (wr .i64 ((wr .i64 ((wr .i64 ((wr .i64 (4 + ((x0.Data.size : Nat) : Int))) + 60)) - 1)).tdiv 60))
  else none
abbrev api_Run : Type := Int × Int
abbrev Ty_api_Run : Ty := (.pr (.int .i64) (.int .i64))
abbrev api_Run.At (x : api_Run) : Int := x.1
abbrev api_Run.Len (x : api_Run) : Int := x.2
abbrev cat_Places.sg : Sig := ⟨[(.agg, Ty_api_State)], [], [(.one, (.sl Ty_api_Run))], [.o]⟩
def cat_Places.l1 (K : Nat) (x0 : api_State) : Nat → Int → Int → (List api_Run) → Option (List api_Run)
  | 0, _, _, _ => none
  | k + 1, t_10, t_11, l_12 =>
    if decide (t_11 < t_10) then
      if (0 : Int) ≤ t_11 ∧ t_11 < ((x0.Versions.length : Nat) : Int) then
      (space_Blocks K ((nth x0.Versions t_11).Data)).bind fun r17 =>
      if (l_12.length + ([(((nth x0.Versions t_11).At, r17) : api_Run)] : List api_Run).length) * 16 ≤ 140737488355328 then
      cat_Places.l1 K x0 k t_10 (wr .i64 (t_11 + 1)) (l_12 ++ ([(((nth x0.Versions t_11).At, r17) : api_Run)] : List api_Run))
      else none
      else none
    else
      some l_12
def cat_Places (K : Nat) (x0 : api_State) : Option (List api_Run) :=
  cat_Places.l1 K x0 K ((x0.Versions.length : Nat) : Int) (0 : Int) ([] : List api_Run)
abbrev space_within.sg : Sig := ⟨[(.one, (.int .i64))], [], [(.one, .bool)], []⟩
def space_within (K : Nat) (x0 : Int) : Option Bool :=
  if decide (x0 ≥ 1) then
    some (decide (x0 ≤ 100))
  else
    some false
abbrev space_taken.sg : Sig := ⟨[(.one, (.sl Ty_api_Run)), (.one, (.int .i64))], [], [(.one, (.sl .bool)), (.one, .bool)], [.o]⟩
def space_taken.l2 (K : Nat) (go_l1 : Int → Int → (List Bool) → Option ((List Bool) × Bool)) (t_11 : Int) (t_12 : Int) (x0 : List api_Run) (x1 : Int) : Nat → Int → (List Bool) → Int → Int → Option ((List Bool) × Bool)
  | 0, _, _, _, _ => none
  | k + 1, t_15, t_16, t_13, t_14 =>
    if decide (t_15 < (wr .i64 (t_13 + t_14))) then
      if (0 : Int) ≤ t_15 ∧ t_15 < ((t_16.length : Nat) : Int) then
      if nth t_16 t_15 then
        some (([] : List Bool), false)
      else
        if (0 : Int) ≤ t_15 ∧ t_15 < ((t_16.length : Nat) : Int) then
        space_taken.l2 K go_l1 t_11 t_12 x0 x1 k (wr .i64 (t_15 + 1)) ((t_16).set t_15.toNat true) t_13 t_14
        else none
      else none
    else
      go_l1 t_11 (wr .i64 (t_12 + 1)) t_16
def space_taken.l1 (K : Nat) (x0 : List api_Run) (x1 : Int) : Nat → Int → Int → (List Bool) → Option ((List Bool) × Bool)
  | 0, _, _, _ => none
  | k + 1, t_11, t_12, t_10 =>
    if decide (t_12 < t_11) then
      if (0 : Int) ≤ t_12 ∧ t_12 < ((x0.length : Nat) : Int) then
      if decide (((nth x0 t_12).Len) < 1) then
        some (([] : List Bool), false)
      else
        if decide (((nth x0 t_12).At) < 0) then
          some (([] : List Bool), false)
        else
          if decide (((nth x0 t_12).At) ≥ x1) then
            some (([] : List Bool), false)
          else
            if decide (((nth x0 t_12).Len) > (wr .i64 (x1 - ((nth x0 t_12).At)))) then
              some (([] : List Bool), false)
            else
              space_taken.l2 K (space_taken.l1 K x0 x1 k) t_11 t_12 x0 x1 K ((nth x0 t_12).At) t_10 ((nth x0 t_12).At) ((nth x0 t_12).Len)
      else none
    else
      some (t_10, true)
def space_taken (K : Nat) (x0 : List api_Run) (x1 : Int) : Option ((List Bool) × Bool) :=
  (space_within K x1).bind fun r11 =>
  if (!r11) then
    some (([] : List Bool), false)
  else
    if decide (((x0.length : Nat) : Int) > 13) then
      some (([] : List Bool), false)
    else
      if x1 = x1 ∧ (0 : Int) ≤ x1 ∧ (1 : Int) * x1 ≤ 281474976710656 ∧ x1 ≤ 9223372036854775807 then
      space_taken.l1 K x0 x1 K ((x0.length : Nat) : Int) (0 : Int) (List.replicate x1.toNat false)
      else none
abbrev space_May.sg : Sig := ⟨[(.one, (.sl Ty_api_Run)), (.one, (.int .i64))], [], [(.one, .bool)], []⟩
def space_May (K : Nat) (x0 : List api_Run) (x1 : Int) : Option Bool :=
  (space_taken K x0 x1).bind fun r10 =>
  some r10.2
abbrev cat_May.sg : Sig := ⟨[(.agg, Ty_api_State)], [], [(.one, .bool)], []⟩
def cat_May (K : Nat) (x0 : api_State) : Option Bool :=
  (cat_most K x0).bind fun r4 =>
  if r4 then
    (cat_Places K x0).bind fun r7 =>
    (space_May K r7 x0.Blocks).bind fun r10 =>
    some r10
  else
    some false
abbrev image_flag.sg : Sig := ⟨[(.agg, Ty_api_Version)], [], [(.one, (.int .i64))], []⟩
def image_flag (K : Nat) (x0 : api_Version) : Option Int :=
  if x0.Tag then
    some (1 : Int)
  else
    if x0.Gone then
      some (2 : Int)
    else
      some (0 : Int)
abbrev image_Spelt.sg : Sig := ⟨[(.agg, Ty_api_State)], [], [(.one, .str)], []⟩
def image_Spelt.l1 (K : Nat) (x0 : api_State) : Nat → ByteArray → Int → Int → Option ByteArray
  | 0, _, _, _ => none
  | k + 1, b_12, t_10, t_11 =>
    if decide (t_11 < t_10) then
      if (0 : Int) ≤ t_11 ∧ t_11 < ((x0.Versions.length : Nat) : Int) then
      (image_flag K (nth x0.Versions t_11)).bind fun r35 =>
      (image_Numbers K b_12 ([(nth x0.Versions t_11).ID, (nth x0.Versions t_11).Parent, (nth x0.Versions t_11).Base, ((nth x0.Versions t_11).Data).N, (nth x0.Versions t_11).At, r35] : List Int)).bind fun r37 =>
      image_Spelt.l1 K x0 k r37 t_10 (wr .i64 (t_11 + 1))
      else none
    else
      some b_12
def image_Spelt (K : Nat) (x0 : api_State) : Option ByteArray :=
  (image_Numbers K (⟨#[72, 69, 82, 66]⟩ : ByteArray) ([x0.Keep, x0.Blocks, ((x0.Versions.length : Nat) : Int)] : List Int)).bind fun r14 =>
  image_Spelt.l1 K x0 K r14 ((x0.Versions.length : Nat) : Int) (0 : Int)
abbrev image_Bytes.sg : Sig := ⟨[(.agg, Ty_api_State)], [], [(.one, .str), (.one, (.int .i64))], []⟩
def image_Bytes (K : Nat) (x0 : api_State) : Option (ByteArray × Int) :=
  (cat_May K x0).bind fun r5 =>
  if (!r5) then
    some (ByteArray.empty, 1)
  else
    (image_Spelt K x0).bind fun r8 =>
    some (r8, 0)
abbrev internal_stringslite_HasPrefix.sg : Sig := ⟨[(.one, .str), (.one, .str)], [], [(.one, .bool)], []⟩
def internal_stringslite_HasPrefix (K : Nat) (x0 : ByteArray) (x1 : ByteArray) : Option Bool :=
  if decide (((x0.size : Nat) : Int) ≥ ((x1.size : Nat) : Int)) then
    if (0 : Int) ≤ (0 : Int) ∧ (0 : Int) ≤ ((x1.size : Nat) : Int) ∧ ((x1.size : Nat) : Int) ≤ ((x0.size : Nat) : Int) then
    some ((x0.extract (0 : Int).toNat ((x1.size : Nat) : Int).toNat).toList == x1.toList)
    else none
  else
    some false
abbrev strings_HasPrefix.sg : Sig := ⟨[(.one, .str), (.one, .str)], [], [(.one, .bool)], []⟩
def strings_HasPrefix (K : Nat) (x0 : ByteArray) (x1 : ByteArray) : Option Bool :=
  (internal_stringslite_HasPrefix K x0 x1).bind fun r7 =>
  some r7
abbrev __image_Reader__version.sg : Sig := ⟨[(.box, Ty_image_Reader)], [], [(.agg, Ty_api_Version)], []⟩
def __image_Reader__version (K : Nat) (x0 : image_Reader) : Option (api_Version × image_Reader) :=
  (__image_Reader__Number K x0).bind fun r7 =>
  (__image_Reader__Number K r7.2).bind fun r9 =>
  (__image_Reader__Number K r9.2).bind fun r11 =>
  (__image_Reader__Number K r11.2).bind fun r14 =>
  if r14.2.Bad then
    some (((r7.1, r9.1, r11.1, ((ByteArray.empty, 0) : api_Bits), 0, false, false) : api_Version), ((r14.2.S, true) : image_Reader))
  else
    if decide (r14.1 > 6000) then
      some (((r7.1, r9.1, r11.1, ((ByteArray.empty, 0) : api_Bits), 0, false, false) : api_Version), ((r14.2.S, true) : image_Reader))
    else
      (bits_Blank K r14.1).bind fun r28 =>
      (__image_Reader__Number K r14.2).bind fun r30 =>
      (__image_Reader__Number K r30.2).bind fun r34 =>
      if r34.2.Bad then
        some (((r7.1, r9.1, r11.1, r28, r30.1, (r34.1 == 1), (r34.1 == 2)) : api_Version), ((r34.2.S, true) : image_Reader))
      else
        some (((r7.1, r9.1, r11.1, r28, r30.1, (r34.1 == 1), (r34.1 == 2)) : api_Version), ((r34.2.S, decide (r34.1 > 2)) : image_Reader))
abbrev image_Read.sg : Sig := ⟨[(.one, .str)], [], [(.agg, Ty_api_State), (.one, .bool)], [.s, .s, .o, .o]⟩
def image_Read.l1 (K : Nat) (r16 : Int × image_Reader) (r18 : Int × image_Reader) (r22 : Int × image_Reader) : Nat → Int → Int → Int → ByteArray → Bool → (List api_Version) → (List api_Session) → Option (api_State × Bool)
  | 0, _, _, _, _, _, _, _ => none
  | k + 1, t_13, t_10, t_11, t_14, t_15, t_16, t_12 =>
    if decide (t_13 < r22.1) then
      (__image_Reader__version K ((t_14, t_15) : image_Reader)).bind fun r38 =>
      if (t_16.length + ([r38.1] : List api_Version).length) * 64 ≤ 140737488355328 then
      image_Read.l1 K r16 r18 r22 k (wr .i64 (t_13 + 1)) t_10 t_11 r38.2.S r38.2.Bad (t_16 ++ ([r38.1] : List api_Version)) t_12
      else none
    else
      if t_15 then
        some (((0, 0, ([] : List api_Version), ([] : List api_Session)) : api_State), false)
      else
        if (!(t_14.toList == ByteArray.empty.toList)) then
          some (((0, 0, ([] : List api_Version), ([] : List api_Session)) : api_State), false)
        else
          (cat_Words K ((r16.1, r18.1, t_16, t_12) : api_State)).bind fun r56 =>
          if (!r56) then
            some (((0, 0, ([] : List api_Version), ([] : List api_Session)) : api_State), false)
          else
            (cat_Places K ((r16.1, r18.1, t_16, t_12) : api_State)).bind fun r61 =>
            (space_May K r61 r18.1).bind fun r64 =>
            if (!r64) then
              some (((0, 0, ([] : List api_Version), ([] : List api_Session)) : api_State), false)
            else
              some (((r16.1, r18.1, t_16, t_12) : api_State), true)
def image_Read (K : Nat) (x0 : ByteArray) : Option (api_State × Bool) :=
  (strings_HasPrefix K x0 (⟨#[72, 69, 82, 66]⟩ : ByteArray)).bind fun r8 =>
  if (!r8) then
    some (((0, 0, ([] : List api_Version), ([] : List api_Session)) : api_State), false)
  else
    if (0 : Int) ≤ (4 : Int) ∧ (4 : Int) ≤ ((x0.size : Nat) : Int) ∧ ((x0.size : Nat) : Int) ≤ ((x0.size : Nat) : Int) then
    (__image_Reader__Number K ((x0.extract (4 : Int).toNat ((x0.size : Nat) : Int).toNat, false) : image_Reader)).bind fun r16 =>
    (__image_Reader__Number K r16.2).bind fun r18 =>
    if (3 : Int) = (3 : Int) ∧ (0 : Int) ≤ (3 : Int) ∧ (144 : Int) * (3 : Int) ≤ 281474976710656 ∧ (3 : Int) ≤ 9223372036854775807 then
    (__image_Reader__Number K r18.2).bind fun r22 =>
    if r22.2.Bad then
      some (((0, 0, ([] : List api_Version), ([] : List api_Session)) : api_State), false)
    else
      if decide (r22.1 > 12) then
        some (((0, 0, ([] : List api_Version), ([] : List api_Session)) : api_State), false)
      else
        image_Read.l1 K r16 r18 r22 K (0 : Int) (0 : Int) (0 : Int) r22.2.S r22.2.Bad ([] : List api_Version) (List.replicate (3 : Int).toNat ((false, 0, false, 0, ((0, []) : api_Graph), ((0, 0, 0, false, [], []) : api_Job)) : api_Session))
    else none
    else none
abbrev image_Take.sg : Sig := ⟨[(.one, .str)], [], [(.agg, Ty_api_State), (.one, (.int .i64))], [.s, .s, .o, .o]⟩
def image_Take (K : Nat) (x0 : ByteArray) : Option (api_State × Int) :=
  (image_Read K x0).bind fun r8 =>
  if (!r8.2) then
    some (((0, 0, ([] : List api_Version), ([] : List api_Session)) : api_State), 9)
  else
    some (r8.1, 0)
abbrev herbariumlaw18_wakes.sg : Sig := ⟨[], [], [(.one, .bool)], []⟩
def herbariumlaw18_wakes (K : Nat) : Option Bool :=
  (herbariumref13_New K 9 2).bind fun r6 =>
  (image_Bytes K r6).bind fun r7 =>
  (image_Take K r7.1).bind fun r12 =>
  (herbariumlaw18_num K r7.2).bind fun r16 =>
  if (r16 == 0) then
    (herbariumlaw18_num K r12.2).bind fun r20 =>
    if (r20 == 0) then
      if (((r7.1.size : Nat) : Int) == 16) then
        if (r12.1.Keep == 2) then
          some (r12.1.Blocks == 9)
        else
          some false
      else
        some false
    else
      some false
  else
    some false
abbrev herbariumlaw17_Ask : Type := (List ByteArray)
abbrev Ty_herbariumlaw17_Ask : Ty := (.sl .str)
abbrev herbariumlaw17_Ask.S (x : herbariumlaw17_Ask) : List ByteArray := x
abbrev herbariumlaw18_ImageObjects.sg : Sig := ⟨[(.agg, Ty_herbariumlaw17_Ask)], [], [(.one, .bool)], []⟩
def herbariumlaw18_ImageObjects.l2 (K : Nat) (go_l1 : Int → Option Bool) (t_10 : Int) (x0 : herbariumlaw17_Ask) : Nat → Int → (List Int) → Option Bool
  | 0, _, _ => none
  | k + 1, t_12, t_11 =>
    if decide (t_12 < t_10) then
      if (8 : Int) ≠ 0 then
      if (8 : Int) ≠ 0 then
      if (0 : Int) ≤ (wr .i64 (t_12.tdiv 8)) ∧ (wr .i64 (t_12.tdiv 8)) < ((t_11.length : Nat) : Int) then
      if (8 : Int) ≠ 0 then
      if (0 : Int) ≤ (t_12.tmod 8) then
      if (0 : Int) ≤ (wr .i64 (t_12.tdiv 8)) ∧ (wr .i64 (t_12.tdiv 8)) < ((t_11.length : Nat) : Int) then
      if (4 : Int) ≠ 0 then
      herbariumlaw18_ImageObjects.l2 K go_l1 t_10 x0 k (wr .i64 ((wr .i64 (t_12 + 3)) + (((x0.S.length : Nat) : Int).tmod 4))) ((t_11).set (wr .i64 (t_12.tdiv 8)).toNat (ib .or .u8 (nth t_11 (wr .i64 (t_12.tdiv 8))) ((128 : Int).fdiv (2 ^ min ((t_12.tmod 8)).toNat 8))))
      else none
      else none
      else none
      else none
      else none
      else none
      else none
    else
      (image_Object K ((bytesOf t_11, t_10) : api_Bits)).bind fun r53 =>
      (image_Parts K r53.1).bind fun r58 =>
      (image_Whole K r58).bind fun r59 =>
      (image_TakeObject K r59.1 t_10).bind fun r65 =>
      (image_TakeObject K r59.1 (wr .i64 (t_10 + 1))).bind fun r72 =>
      (herbariumlaw18_num K r53.2).bind fun r76 =>
      (herbariumlaw18_num K r59.2).bind fun r78 =>
      (herbariumlaw18_num K r65.2).bind fun r81 =>
      if ((wr .i64 ((wr .i64 (r76 + r78)) + r81)) != 0) then
        some false
      else
        if (!((r65.1.Data == (bytesOf t_11)) && ((r65.1.N == t_10) && true))) then
          some false
        else
          (herbariumlaw18_num K r72.2).bind fun r91 =>
          if (r91 != 9) then
            some false
          else
            if (60 : Int) ≠ 0 then
            if ((((r59.1.size : Nat) : Int).tmod 60) != 0) then
              some false
            else
              go_l1 (wr .i64 (t_10 + 13))
            else none
def herbariumlaw18_ImageObjects.l1 (K : Nat) (x0 : herbariumlaw17_Ask) : Nat → Int → Option Bool
  | 0, _ => none
  | k + 1, t_10 =>
    if decide (t_10 < 1200) then
      if (8 : Int) ≠ 0 then
      (herbariumref0_Zeros K (wr .i64 ((wr .i64 (t_10 + 7)).tdiv 8))).bind fun r22 =>
      herbariumlaw18_ImageObjects.l2 K (herbariumlaw18_ImageObjects.l1 K x0 k) t_10 x0 K (0 : Int) (bytesL r22)
      else none
    else
      (herbariumlaw18_wakes K).bind fun r100 =>
      some r100
def herbariumlaw18_ImageObjects (K : Nat) (x0 : herbariumlaw17_Ask) : Option Bool :=
  herbariumlaw18_ImageObjects.l1 K x0 K (0 : Int)
abbrev herbariumlaw0_Texts.sg : Sig := ⟨[(.one, (.sl .str))], [], [(.one, (.int .i64))], []⟩
def herbariumlaw0_Texts.l1 (K : Nat) (x0 : List ByteArray) : Nat → Int → Int → Option Int
  | 0, _, _ => none
  | k + 1, n_10, i_11 =>
    if decide (i_11 < ((x0.length : Nat) : Int)) then
      if decide (n_10 < 1048576) then
        if (0 : Int) ≤ i_11 ∧ i_11 < ((x0.length : Nat) : Int) then
        herbariumlaw0_Texts.l1 K x0 k (wr .i64 (n_10 + (((nth x0 i_11).size : Nat) : Int))) (wr .i64 (i_11 + 1))
        else none
      else
        some n_10
    else
      some n_10
def herbariumlaw0_Texts (K : Nat) (x0 : List ByteArray) : Option Int :=
  herbariumlaw0_Texts.l1 K x0 K ((x0.length : Nat) : Int) (0 : Int)
abbrev herbariumlaw17_Heavy.sg : Sig := ⟨[(.agg, Ty_herbariumlaw17_Ask)], [], [(.one, .bool)], []⟩
def herbariumlaw17_Heavy (K : Nat) (x0 : herbariumlaw17_Ask) : Option Bool :=
  (herbariumlaw0_Texts K x0.S).bind fun r5 =>
  some (decide (r5 > 6000))
abbrev herbariumref17_Of.sg : Sig := ⟨[(.one, .str)], [], [(.one, (.int .u32))], []⟩
def herbariumref17_Of.l1 (K : Nat) (x0 : ByteArray) : Nat → Int → Int → Int → Option Int
  | 0, _, _, _ => none
  | k + 1, a_10, b_11, i_12 =>
    if decide (i_12 < ((x0.size : Nat) : Int)) then
      if (0 : Int) ≤ i_12 ∧ i_12 < ((x0.size : Nat) : Int) then
      if (65521 : Int) ≠ 0 then
      if (65521 : Int) ≠ 0 then
      herbariumref17_Of.l1 K x0 k ((wr .i64 (a_10 + (wr .i64 (bt x0 i_12)))).tmod 65521) ((wr .i64 (b_11 + ((wr .i64 (a_10 + (wr .i64 (bt x0 i_12)))).tmod 65521))).tmod 65521) (wr .i64 (i_12 + 1))
      else none
      else none
      else none
    else
      some (wr .u32 (wr .i64 ((wr .i64 (b_11 * 65536)) + a_10)))
def herbariumref17_Of (K : Nat) (x0 : ByteArray) : Option Int :=
  herbariumref17_Of.l1 K x0 K (1 : Int) (0 : Int) (0 : Int)
abbrev herbariumref17_number.sg : Sig := ⟨[(.one, (.int .i64))], [], [(.one, .str)], []⟩
def herbariumref17_number (K : Nat) (x0 : Int) : Option ByteArray :=
  if (0 : Int) ≤ 24 then
  if (0 : Int) ≤ 16 then
  if (0 : Int) ≤ 8 then
  some (bytesOf ([wr .u8 (x0.fdiv (2 ^ min ((24 : Int)).toNat 64)), wr .u8 (x0.fdiv (2 ^ min ((16 : Int)).toNat 64)), wr .u8 (x0.fdiv (2 ^ min ((8 : Int)).toNat 64)), wr .u8 x0] : List Int))
  else none
  else none
  else none
abbrev herbariumref17_Add.sg : Sig := ⟨[(.one, .str)], [], [(.one, .str)], []⟩
def herbariumref17_Add.j1 (K : Nat) (s_10 : ByteArray) : Option ByteArray :=
  (herbariumref0_Zeros K (wr .i64 (60 - ((s_10.size : Nat) : Int)))).bind fun r12 =>
  if ((s_10.size + r12.size : Nat) : Int) ≤ 9223372036854775807 then
  (herbariumref17_Of K (s_10 ++ r12)).bind fun r16 =>
  (herbariumref17_number K (wr .i64 r16)).bind fun r18 =>
  if (((s_10 ++ r12).size + r18.size : Nat) : Int) ≤ 9223372036854775807 then
  some ((s_10 ++ r12) ++ r18)
  else none
  else none
def herbariumref17_Add (K : Nat) (x0 : ByteArray) : Option ByteArray :=
  if decide (((x0.size : Nat) : Int) > 60) then
    if (0 : Int) ≤ (0 : Int) ∧ (0 : Int) ≤ (60 : Int) ∧ (60 : Int) ≤ ((x0.size : Nat) : Int) then
    herbariumref17_Add.j1 K (x0.extract (0 : Int).toNat (60 : Int).toNat)
    else none
  else
    herbariumref17_Add.j1 K x0
abbrev herbariumref17_Parts.sg : Sig := ⟨[(.one, .str)], [], [(.one, (.sl .str))], [.o]⟩
def herbariumref17_Parts.l1 (K : Nat) : Nat → ByteArray → (List ByteArray) → Option (List ByteArray)
  | 0, _, _ => none
  | k + 1, s_10, l_11 =>
    if decide (((s_10.size : Nat) : Int) > 0) then
      if (0 : Int) ≤ (0 : Int) ∧ (0 : Int) ≤ (if (60 : Int) < ((s_10.size : Nat) : Int) then (60 : Int) else ((s_10.size : Nat) : Int)) ∧ (if (60 : Int) < ((s_10.size : Nat) : Int) then (60 : Int) else ((s_10.size : Nat) : Int)) ≤ ((s_10.size : Nat) : Int) then
      (herbariumref17_Add K (s_10.extract (0 : Int).toNat (if (60 : Int) < ((s_10.size : Nat) : Int) then (60 : Int) else ((s_10.size : Nat) : Int)).toNat)).bind fun r15 =>
      if (l_11.length + ([r15] : List ByteArray).length) * 16 ≤ 140737488355328 then
      if (0 : Int) ≤ (if (60 : Int) < ((s_10.size : Nat) : Int) then (60 : Int) else ((s_10.size : Nat) : Int)) ∧ (if (60 : Int) < ((s_10.size : Nat) : Int) then (60 : Int) else ((s_10.size : Nat) : Int)) ≤ ((s_10.size : Nat) : Int) ∧ ((s_10.size : Nat) : Int) ≤ ((s_10.size : Nat) : Int) then
      herbariumref17_Parts.l1 K k (s_10.extract (if (60 : Int) < ((s_10.size : Nat) : Int) then (60 : Int) else ((s_10.size : Nat) : Int)).toNat ((s_10.size : Nat) : Int).toNat) (l_11 ++ ([r15] : List ByteArray))
      else none
      else none
      else none
    else
      some l_11
def herbariumref17_Parts (K : Nat) (x0 : ByteArray) : Option (List ByteArray) :=
  herbariumref17_Parts.l1 K K x0 ([] : List ByteArray)
abbrev herbariumref0_EqStrings.sg : Sig := ⟨[(.one, (.sl .str)), (.one, (.sl .str))], [], [(.one, .bool)], []⟩
def herbariumref0_EqStrings.l1 (K : Nat) (x0 : List ByteArray) (x1 : List ByteArray) : Nat → Int → Option Bool
  | 0, _ => none
  | k + 1, i_10 =>
    if decide (i_10 < ((x0.length : Nat) : Int)) then
      if (0 : Int) ≤ i_10 ∧ i_10 < ((x0.length : Nat) : Int) then
      if (0 : Int) ≤ i_10 ∧ i_10 < ((x1.length : Nat) : Int) then
      if (!((nth x0 i_10).toList == (nth x1 i_10).toList)) then
        some false
      else
        herbariumref0_EqStrings.l1 K x0 x1 k (wr .i64 (i_10 + 1))
      else none
      else none
    else
      some true
def herbariumref0_EqStrings (K : Nat) (x0 : List ByteArray) (x1 : List ByteArray) : Option Bool :=
  if (((x0.length : Nat) : Int) != ((x1.length : Nat) : Int)) then
    some false
  else
    herbariumref0_EqStrings.l1 K x0 x1 K (0 : Int)
abbrev herbariumref0_CopyStrings.sg : Sig := ⟨[(.one, (.sl .str))], [], [(.one, (.sl .str))], [.o]⟩
def herbariumref0_CopyStrings.l1 (K : Nat) (x0 : List ByteArray) : Nat → Int → (List ByteArray) → Option (List ByteArray)
  | 0, _, _ => none
  | k + 1, i_10, m_11 =>
    if decide (i_10 < ((x0.length : Nat) : Int)) then
      if (0 : Int) ≤ i_10 ∧ i_10 < ((x0.length : Nat) : Int) then
      if (m_11.length + ([nth x0 i_10] : List ByteArray).length) * 16 ≤ 140737488355328 then
      herbariumref0_CopyStrings.l1 K x0 k (wr .i64 (i_10 + 1)) (m_11 ++ ([nth x0 i_10] : List ByteArray))
      else none
      else none
    else
      some m_11
def herbariumref0_CopyStrings (K : Nat) (x0 : List ByteArray) : Option (List ByteArray) :=
  herbariumref0_CopyStrings.l1 K x0 K (0 : Int) ([] : List ByteArray)
abbrev herbariumref17_Take.sg : Sig := ⟨[(.one, .str)], [], [(.one, .str), (.one, .bool)], []⟩
def herbariumref17_Take (K : Nat) (x0 : ByteArray) : Option (ByteArray × Bool) :=
  if (((x0.size : Nat) : Int) != 64) then
    some (ByteArray.empty, false)
  else
    if (0 : Int) ≤ (0 : Int) ∧ (0 : Int) ≤ (60 : Int) ∧ (60 : Int) ≤ ((x0.size : Nat) : Int) then
    (herbariumref17_Add K (x0.extract (0 : Int).toNat (60 : Int).toNat)).bind fun r10 =>
    if (!(r10.toList == x0.toList)) then
      some (ByteArray.empty, false)
    else
      if (0 : Int) ≤ (0 : Int) ∧ (0 : Int) ≤ (60 : Int) ∧ (60 : Int) ≤ ((x0.size : Nat) : Int) then
      some (x0.extract (0 : Int).toNat (60 : Int).toNat, true)
      else none
    else none
abbrev herbariumref17_Whole.sg : Sig := ⟨[(.one, (.sl .str))], [], [(.one, .str), (.one, .bool)], []⟩
def herbariumref17_Whole.l1 (K : Nat) (x0 : List ByteArray) : Nat → ByteArray → Int → Option (ByteArray × Bool)
  | 0, _, _ => none
  | k + 1, s_10, i_11 =>
    if decide (i_11 < ((x0.length : Nat) : Int)) then
      if (0 : Int) ≤ i_11 ∧ i_11 < ((x0.length : Nat) : Int) then
      (herbariumref17_Take K (nth x0 i_11)).bind fun r19 =>
      if (!r19.2) then
        some (ByteArray.empty, false)
      else
        if ((s_10.size + r19.1.size : Nat) : Int) ≤ 9223372036854775807 then
        herbariumref17_Whole.l1 K x0 k (s_10 ++ r19.1) (wr .i64 (i_11 + 1))
        else none
      else none
    else
      some (s_10, true)
def herbariumref17_Whole (K : Nat) (x0 : List ByteArray) : Option (ByteArray × Bool) :=
  herbariumref17_Whole.l1 K x0 K ByteArray.empty (0 : Int)
abbrev herbariumref0_Num.sg : Sig := ⟨[(.one, (.int .i64)), (.one, (.int .i64))], [], [(.one, .bool)], []⟩
def herbariumref0_Num (K : Nat) (x0 : Int) (x1 : Int) : Option Bool :=
  if decide (x0 ≥ 0) then
    some (decide (x0 ≤ x1))
  else
    some false
abbrev herbariumref1_bit.sg : Sig := ⟨[(.agg, Ty_api_Bits), (.one, (.int .i64))], [], [(.one, (.int .i64))], []⟩
def herbariumref1_bit (K : Nat) (x0 : api_Bits) (x1 : Int) : Option Int :=
  if (8 : Int) ≠ 0 then
  if (0 : Int) ≤ (wr .i64 (x1.tdiv 8)) ∧ (wr .i64 (x1.tdiv 8)) < ((x0.Data.size : Nat) : Int) then
  if (8 : Int) ≠ 0 then
  if (0 : Int) ≤ (wr .i64 (7 - (x1.tmod 8))) then
  some (ib .and .i64 ((wr .i64 (bt x0.Data (wr .i64 (x1.tdiv 8)))).fdiv (2 ^ min ((wr .i64 (7 - (x1.tmod 8)))).toNat 64)) 1)
  else none
  else none
  else none
  else none
abbrev herbariumref1_Bits.sg : Sig := ⟨[(.agg, Ty_api_Bits)], [], [(.one, .bool)], []⟩
def herbariumref1_Bits.l1 (K : Nat) (x0 : api_Bits) : Nat → Int → Option Bool
  | 0, _ => none
  | k + 1, i_10 =>
    if decide (i_10 < (wr .i64 (8 * ((x0.Data.size : Nat) : Int)))) then
      (herbariumref1_bit K x0 i_10).bind fun r30 =>
      if (r30 != 0) then
        some false
      else
        herbariumref1_Bits.l1 K x0 k (wr .i64 (i_10 + 1))
    else
      some true
def herbariumref1_Bits (K : Nat) (x0 : api_Bits) : Option Bool :=
  (herbariumref0_Num K x0.N 6000).bind fun r6 =>
  if (!r6) then
    some false
  else
    if (8 : Int) ≠ 0 then
    if (((x0.Data.size : Nat) : Int) != (wr .i64 ((wr .i64 (x0.N + 7)).tdiv 8))) then
      some false
    else
      herbariumref1_Bits.l1 K x0 K x0.N
    else none
abbrev herbariumref17_Object.sg : Sig := ⟨[(.agg, Ty_api_Bits)], [], [(.one, .str)], []⟩
def herbariumref17_Object (K : Nat) (x0 : api_Bits) : Option ByteArray :=
  (herbariumref17_number K x0.N).bind fun r5 =>
  if ((r5.size + x0.Data.size : Nat) : Int) ≤ 9223372036854775807 then
  some (r5 ++ x0.Data)
  else none
abbrev herbariumref17_read.sg : Sig := ⟨[(.one, .str)], [], [(.one, (.int .i64))], []⟩
def herbariumref17_read (K : Nat) (x0 : ByteArray) : Option Int :=
  if (0 : Int) ≤ (0 : Int) ∧ (0 : Int) < ((x0.size : Nat) : Int) then
  if (0 : Int) ≤ 24 then
  if (0 : Int) ≤ (1 : Int) ∧ (1 : Int) < ((x0.size : Nat) : Int) then
  if (0 : Int) ≤ 16 then
  if (0 : Int) ≤ (2 : Int) ∧ (2 : Int) < ((x0.size : Nat) : Int) then
  if (0 : Int) ≤ 8 then
  if (0 : Int) ≤ (3 : Int) ∧ (3 : Int) < ((x0.size : Nat) : Int) then
  some (ib .or .i64 (ib .or .i64 (ib .or .i64 (wr .i64 ((wr .i64 (bt x0 0)) * 2 ^ min ((24 : Int)).toNat 64)) (wr .i64 ((wr .i64 (bt x0 1)) * 2 ^ min ((16 : Int)).toNat 64))) (wr .i64 ((wr .i64 (bt x0 2)) * 2 ^ min ((8 : Int)).toNat 64))) (wr .i64 (bt x0 3)))
  else none
  else none
  else none
  else none
  else none
  else none
  else none
abbrev herbariumref13_Bits.sg : Sig := ⟨[(.agg, Ty_api_Bits)], [], [(.one, .bool)], []⟩
def herbariumref13_Bits (K : Nat) (x0 : api_Bits) : Option Bool :=
  (herbariumref1_Bits K x0).bind fun r4 =>
  some r4
abbrev herbariumref17_TakeObject.sg : Sig := ⟨[(.one, .str), (.one, (.int .i64))], [], [(.agg, Ty_api_Bits), (.one, .bool)], []⟩
def herbariumref17_TakeObject (K : Nat) (x0 : ByteArray) (x1 : Int) : Option (api_Bits × Bool) :=
  (herbariumref0_Num K x1 6000).bind fun r8 =>
  if (!r8) then
    some (((ByteArray.empty, 0) : api_Bits), false)
  else
    if (8 : Int) ≠ 0 then
    if decide (((x0.size : Nat) : Int) < (wr .i64 (4 + (wr .i64 ((wr .i64 (x1 + 7)).tdiv 8))))) then
      some (((ByteArray.empty, 0) : api_Bits), false)
    else
      (herbariumref17_read K x0).bind fun r21 =>
      if (r21 != x1) then
        some (((ByteArray.empty, 0) : api_Bits), false)
      else
        if (8 : Int) ≠ 0 then
        if (0 : Int) ≤ (4 : Int) ∧ (4 : Int) ≤ (wr .i64 (4 + (wr .i64 ((wr .i64 (x1 + 7)).tdiv 8)))) ∧ (wr .i64 (4 + (wr .i64 ((wr .i64 (x1 + 7)).tdiv 8)))) ≤ ((x0.size : Nat) : Int) then
        (herbariumref13_Bits K ((x0.extract (4 : Int).toNat (wr .i64 (4 + (wr .i64 ((wr .i64 (x1 + 7)).tdiv 8)))).toNat, x1) : api_Bits)).bind fun r35 =>
        if (!r35) then
          some (((ByteArray.empty, 0) : api_Bits), false)
        else
          if (0 : Int) ≤ (wr .i64 (4 + (((x0.extract (4 : Int).toNat (wr .i64 (4 + (wr .i64 ((wr .i64 (x1 + 7)).tdiv 8)))).toNat).size : Nat) : Int))) ∧ (wr .i64 (4 + (((x0.extract (4 : Int).toNat (wr .i64 (4 + (wr .i64 ((wr .i64 (x1 + 7)).tdiv 8)))).toNat).size : Nat) : Int))) ≤ ((x0.size : Nat) : Int) ∧ ((x0.size : Nat) : Int) ≤ ((x0.size : Nat) : Int) then
          (herbariumref0_Zeros K (wr .i64 ((wr .i64 (((x0.size : Nat) : Int) - 4)) - (((x0.extract (4 : Int).toNat (wr .i64 (4 + (wr .i64 ((wr .i64 (x1 + 7)).tdiv 8)))).toNat).size : Nat) : Int)))).bind fun r51 =>
          if (!((x0.extract (wr .i64 (4 + (((x0.extract (4 : Int).toNat (wr .i64 (4 + (wr .i64 ((wr .i64 (x1 + 7)).tdiv 8)))).toNat).size : Nat) : Int))).toNat ((x0.size : Nat) : Int).toNat).toList == r51.toList)) then
            some (((ByteArray.empty, 0) : api_Bits), false)
          else
            some (((x0.extract (4 : Int).toNat (wr .i64 (4 + (wr .i64 ((wr .i64 (x1 + 7)).tdiv 8)))).toNat, x1) : api_Bits), true)
          else none
        else none
        else none
    else none
abbrev herbariumlaw18_ImageParts.sg : Sig := ⟨[(.agg, Ty_herbariumlaw17_Ask)], [], [(.one, .bool)], []⟩
def herbariumlaw18_ImageParts.l6 (K : Nat) (go_l1 : Int → Option Bool) (go_l5 : Int → (List ByteArray) → Option Bool) (t_10 : Int) (t_13 : Int) (t_16 : List ByteArray) (t_17 : Int) (x0 : herbariumlaw17_Ask) : Nat → Int → Option Bool
  | 0, _ => none
  | k + 1, t_18 =>
    if decide (t_18 < 3) then
      if (0 : Int) ≤ t_18 ∧ t_18 < ((([t_13, wr .i64 (t_13 + 1), (-1)] : List Int).length : Nat) : Int) then
      if (0 : Int) ≤ t_17 ∧ t_17 < ((t_16.length : Nat) : Int) then
      (image_TakeObject K (nth t_16 t_17) (nth ([t_13, wr .i64 (t_13 + 1), (-1)] : List Int) t_18)).bind fun r221 =>
      if (0 : Int) ≤ t_17 ∧ t_17 < ((t_16.length : Nat) : Int) then
      (herbariumref17_TakeObject K (nth t_16 t_17) (nth ([t_13, wr .i64 (t_13 + 1), (-1)] : List Int) t_18)).bind fun r230 =>
      (herbariumlaw18_num K r221.2).bind fun r235 =>
      if (!(r230.2 == (r235 == 0))) then
        some false
      else
        if (!r230.2) then
          (herbariumlaw18_num K r221.2).bind fun r243 =>
          if (r243 != 9) then
            some false
          else
            if (!((r221.1.Data == r230.1.Data) && ((r221.1.N == r230.1.N) && true))) then
              some false
            else
              herbariumlaw18_ImageParts.l6 K go_l1 go_l5 t_10 t_13 t_16 t_17 x0 k (wr .i64 (t_18 + 1))
        else
          if (!((r221.1.Data == r230.1.Data) && ((r221.1.N == r230.1.N) && true))) then
            some false
          else
            herbariumlaw18_ImageParts.l6 K go_l1 go_l5 t_10 t_13 t_16 t_17 x0 k (wr .i64 (t_18 + 1))
      else none
      else none
      else none
    else
      go_l5 (wr .i64 (t_17 + 1)) t_16
def herbariumlaw18_ImageParts.l5 (K : Nat) (go_l1 : Int → Option Bool) (t_10 : Int) (t_13 : Int) (x0 : herbariumlaw17_Ask) : Nat → Int → (List ByteArray) → Option Bool
  | 0, _, _ => none
  | k + 1, t_17, t_16 =>
    if decide (t_17 < ((t_16.length : Nat) : Int)) then
      herbariumlaw18_ImageParts.l6 K go_l1 (herbariumlaw18_ImageParts.l5 K go_l1 t_10 t_13 x0 k) t_10 t_13 t_16 t_17 x0 K (0 : Int)
    else
      go_l1 (wr .i64 (t_10 + 1))
def herbariumlaw18_ImageParts.j4 (K : Nat) (go_l1 : Int → Option Bool) (r171 : ByteArray × Int) (t_10 : Int) (x0 : herbariumlaw17_Ask) (t_13 : Int) (t_14 : Int) (t_15 : ByteArray) : Option Bool :=
  (herbariumlaw18_num K r171.2).bind fun r179 =>
  if (r179 != t_14) then
    some false
  else
    if (!(r171.1.toList == t_15.toList)) then
      some false
    else
      if ((t_15.size + (⟨#[0, 0]⟩ : ByteArray).size : Nat) : Int) ≤ 9223372036854775807 then
      if ((t_15.size + (⟨#[120]⟩ : ByteArray).size : Nat) : Int) ≤ 9223372036854775807 then
      if (0 : Int) ≤ t_10 ∧ t_10 < ((x0.S.length : Nat) : Int) then
      herbariumlaw18_ImageParts.l5 K go_l1 t_10 t_13 x0 K (0 : Int) ([t_15, t_15 ++ (⟨#[0, 0]⟩ : ByteArray), t_15 ++ (⟨#[120]⟩ : ByteArray), nth x0.S t_10, ByteArray.empty] : List ByteArray)
      else none
      else none
      else none
def herbariumlaw18_ImageParts.l3 (K : Nat) (go_l1 : Int → Option Bool) (t_10 : Int) (t_11 : List (List ByteArray)) (x0 : herbariumlaw17_Ask) : Nat → Int → Option Bool
  | 0, _ => none
  | k + 1, t_12 =>
    if decide (t_12 < ((t_11.length : Nat) : Int)) then
      if (0 : Int) ≤ t_12 ∧ t_12 < ((t_11.length : Nat) : Int) then
      (herbariumref0_CopyStrings K (nth t_11 t_12)).bind fun r104 =>
      (image_Whole K r104).bind fun r107 =>
      if (0 : Int) ≤ t_12 ∧ t_12 < ((t_11.length : Nat) : Int) then
      (herbariumref17_Whole K (nth t_11 t_12)).bind fun r115 =>
      (herbariumlaw18_num K r107.2).bind fun r120 =>
      if (!(r115.2 == (r120 == 0))) then
        some false
      else
        if (!r115.2) then
          (herbariumlaw18_num K r107.2).bind fun r128 =>
          if (r128 != 9) then
            some false
          else
            if (!(r107.1.toList == r115.1.toList)) then
              some false
            else
              if (0 : Int) ≤ t_12 ∧ t_12 < ((t_11.length : Nat) : Int) then
              (herbariumref0_EqStrings K r104 (nth t_11 t_12)).bind fun r143 =>
              if (!r143) then
                some false
              else
                herbariumlaw18_ImageParts.l3 K go_l1 t_10 t_11 x0 k (wr .i64 (t_12 + 1))
              else none
        else
          if (!(r107.1.toList == r115.1.toList)) then
            some false
          else
            if (0 : Int) ≤ t_12 ∧ t_12 < ((t_11.length : Nat) : Int) then
            (herbariumref0_EqStrings K r104 (nth t_11 t_12)).bind fun r143 =>
            if (!r143) then
              some false
            else
              herbariumlaw18_ImageParts.l3 K go_l1 t_10 t_11 x0 k (wr .i64 (t_12 + 1))
            else none
      else none
      else none
    else
      if (0 : Int) ≤ t_10 ∧ t_10 < ((x0.S.length : Nat) : Int) then
      if (0 : Int) ≤ t_10 ∧ t_10 < ((x0.S.length : Nat) : Int) then
      if (0 : Int) ≤ t_10 ∧ t_10 < ((x0.S.length : Nat) : Int) then
      if (0 : Int) ≤ (0 : Int) ∧ (0 : Int) ≤ (if (625 : Int) < (((nth x0.S t_10).size : Nat) : Int) then (625 : Int) else (((nth x0.S t_10).size : Nat) : Int)) ∧ (if (625 : Int) < (((nth x0.S t_10).size : Nat) : Int) then (625 : Int) else (((nth x0.S t_10).size : Nat) : Int)) ≤ (((nth x0.S t_10).size : Nat) : Int) then
      (image_Object K (((nth x0.S t_10).extract (0 : Int).toNat (if (625 : Int) < (((nth x0.S t_10).size : Nat) : Int) then (625 : Int) else (((nth x0.S t_10).size : Nat) : Int)).toNat, (if (5000 : Int) < (wr .i64 (8 * (((nth x0.S t_10).size : Nat) : Int))) then (5000 : Int) else (wr .i64 (8 * (((nth x0.S t_10).size : Nat) : Int))))) : api_Bits)).bind fun r171 =>
      (herbariumref1_Bits K (((nth x0.S t_10).extract (0 : Int).toNat (if (625 : Int) < (((nth x0.S t_10).size : Nat) : Int) then (625 : Int) else (((nth x0.S t_10).size : Nat) : Int)).toNat, (if (5000 : Int) < (wr .i64 (8 * (((nth x0.S t_10).size : Nat) : Int))) then (5000 : Int) else (wr .i64 (8 * (((nth x0.S t_10).size : Nat) : Int))))) : api_Bits)).bind fun r175 =>
      if r175 then
        (herbariumref17_Object K (((nth x0.S t_10).extract (0 : Int).toNat (if (625 : Int) < (((nth x0.S t_10).size : Nat) : Int) then (625 : Int) else (((nth x0.S t_10).size : Nat) : Int)).toNat, (if (5000 : Int) < (wr .i64 (8 * (((nth x0.S t_10).size : Nat) : Int))) then (5000 : Int) else (wr .i64 (8 * (((nth x0.S t_10).size : Nat) : Int))))) : api_Bits)).bind fun r177 =>
        herbariumlaw18_ImageParts.j4 K go_l1 r171 t_10 x0 (if (5000 : Int) < (wr .i64 (8 * (((nth x0.S t_10).size : Nat) : Int))) then (5000 : Int) else (wr .i64 (8 * (((nth x0.S t_10).size : Nat) : Int)))) (0 : Int) r177
      else
        herbariumlaw18_ImageParts.j4 K go_l1 r171 t_10 x0 (if (5000 : Int) < (wr .i64 (8 * (((nth x0.S t_10).size : Nat) : Int))) then (5000 : Int) else (wr .i64 (8 * (((nth x0.S t_10).size : Nat) : Int)))) (1 : Int) ByteArray.empty
      else none
      else none
      else none
      else none
def herbariumlaw18_ImageParts.j2 (K : Nat) (go_l1 : Int → Option Bool) (t_10 : Int) (x0 : herbariumlaw17_Ask) (t_11 : List (List ByteArray)) : Option Bool :=
  herbariumlaw18_ImageParts.l3 K go_l1 t_10 t_11 x0 K (0 : Int)
def herbariumlaw18_ImageParts.l1 (K : Nat) (x0 : herbariumlaw17_Ask) : Nat → Int → Option Bool
  | 0, _ => none
  | k + 1, t_10 =>
    if decide (t_10 < ((x0.S.length : Nat) : Int)) then
      if decide (t_10 < 8) then
        if (0 : Int) ≤ t_10 ∧ t_10 < ((x0.S.length : Nat) : Int) then
        (image_Parts K (nth x0.S t_10)).bind fun r46 =>
        if (0 : Int) ≤ t_10 ∧ t_10 < ((x0.S.length : Nat) : Int) then
        (herbariumref17_Parts K (nth x0.S t_10)).bind fun r52 =>
        (herbariumref0_EqStrings K r46 r52).bind fun r55 =>
        if (!r55) then
          some false
        else
          if (0 : Int) ≤ t_10 ∧ t_10 < ((x0.S.length : Nat) : Int) then
          if decide (((r52.length : Nat) : Int) > 0) then
            (herbariumref0_CopyStrings K r52).bind fun r69 =>
            if (0 : Int) ≤ (wr .i64 (((r69.length : Nat) : Int) - 1)) ∧ (wr .i64 (((r69.length : Nat) : Int) - 1)) < ((r69.length : Nat) : Int) then
            if (0 : Int) ≤ (0 : Int) ∧ (0 : Int) ≤ (63 : Int) ∧ (63 : Int) ≤ (((nth r69 (wr .i64 (((r69.length : Nat) : Int) - 1))).size : Nat) : Int) then
            if ((((nth r69 (wr .i64 (((r69.length : Nat) : Int) - 1))).extract (0 : Int).toNat (63 : Int).toNat).size + (⟨#[63]⟩ : ByteArray).size : Nat) : Int) ≤ 9223372036854775807 then
            if (0 : Int) ≤ (wr .i64 (((r69.length : Nat) : Int) - 1)) ∧ (wr .i64 (((r69.length : Nat) : Int) - 1)) < ((r69.length : Nat) : Int) then
            (herbariumref0_CopyStrings K r52).bind fun r86 =>
            if (0 : Int) ≤ (0 : Int) ∧ (0 : Int) < ((r52.length : Nat) : Int) then
            if (r86.length + ([nth r52 0] : List ByteArray).length) * 16 ≤ 140737488355328 then
            if (([r52, ([nth x0.S t_10] : List ByteArray), ([] : List ByteArray)] : List (List ByteArray)).length + ([(r69).set (wr .i64 (((r69.length : Nat) : Int) - 1)).toNat (((nth r69 (wr .i64 (((r69.length : Nat) : Int) - 1))).extract (0 : Int).toNat (63 : Int).toNat) ++ (⟨#[63]⟩ : ByteArray)), r86 ++ ([nth r52 0] : List ByteArray)] : List (List ByteArray)).length) * 24 ≤ 140737488355328 then
            herbariumlaw18_ImageParts.j2 K (herbariumlaw18_ImageParts.l1 K x0 k) t_10 x0 (([r52, ([nth x0.S t_10] : List ByteArray), ([] : List ByteArray)] : List (List ByteArray)) ++ ([(r69).set (wr .i64 (((r69.length : Nat) : Int) - 1)).toNat (((nth r69 (wr .i64 (((r69.length : Nat) : Int) - 1))).extract (0 : Int).toNat (63 : Int).toNat) ++ (⟨#[63]⟩ : ByteArray)), r86 ++ ([nth r52 0] : List ByteArray)] : List (List ByteArray)))
            else none
            else none
            else none
            else none
            else none
            else none
            else none
          else
            herbariumlaw18_ImageParts.j2 K (herbariumlaw18_ImageParts.l1 K x0 k) t_10 x0 ([r52, ([nth x0.S t_10] : List ByteArray), ([] : List ByteArray)] : List (List ByteArray))
          else none
        else none
        else none
      else
        (herbariumlaw18_wakes K).bind fun r252 =>
        some r252
    else
      (herbariumlaw18_wakes K).bind fun r252 =>
      some r252
def herbariumlaw18_ImageParts (K : Nat) (x0 : herbariumlaw17_Ask) : Option Bool :=
  (herbariumlaw17_Heavy K x0).bind fun r29 =>
  if r29 then
    some true
  else
    herbariumlaw18_ImageParts.l1 K x0 K (0 : Int)
end Go.XM
end
