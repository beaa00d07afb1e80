import Derived.Test.YtdcicijfcbhgnaaGreatSrH0
set_option linter.all false
section
namespace Go.XM
set_option maxRecDepth 100000
abbrev Aa:Type:=Int × (List (List Int))
abbrev A5:Ty:=(.pr (.int .i64) (.sl (.sl (.int .i64))))
abbrev Aa.N (x:Aa):Int:=x.1
abbrev Aa.Out (x:Aa):List (List Int):=x.2
abbrev Ac.sg:Sig:=⟨[(.one,(.int .i64)),(.one,(.int .i64))],[],[(.agg,A5)],[.s,.o]⟩
def Ac.l2 (K:Nat) (go_l1:Int→Int→(List (List Int))→Option Aa) (t_10:Int) (t_12:Int) (x0:Int) (x1:Int):Nat→Int→(List (List Int))→Option Aa
 | 0,_,_=>none
 | k+1,t_13,t_14 =>
  if decide (t_13<(if (10:Int)<x0 then (10:Int) else x0)) then
   if decide (t_12<10) then
    if (0:Int)≤t_12∧t_12<((t_14.length:Nat):Int) then
    if ((nth t_14 t_12).length+([t_13]:List Int).length)*8≤140737488355328 then
    if (0:Int)≤t_12∧t_12<((t_14.length:Nat):Int) then
    if t_12=t_12 then
    Ac.l2 K go_l1 t_10 t_12 x0 x1 k (wr .i64 (t_13+1)) ((t_14).set t_12.toNat ((nth t_14 t_12)++([t_13]:List Int)))
    else none
    else none
    else none
    else none
   else
    go_l1 (wr .i64 (t_12+1)) t_10 t_14
  else
   go_l1 (wr .i64 (t_12+1)) t_10 t_14
def Ac.l1 (K:Nat) (x0:Int) (x1:Int):Nat→Int→Int→(List (List Int))→Option Aa
 | 0,_,_,_=>none
 | k+1,t_12,t_10,t_11 =>
  if decide (t_12<x0) then
   if (x1 == 0) then
    if x0≠0 then
    if (0:Int)≤t_12∧t_12<((t_11.length:Nat):Int) then
    Ac.l1 K x0 x1 k (wr .i64 (t_12+1)) t_10 ((t_11).set t_12.toNat ([(wr .i64 (t_12+1)).tmod x0]:List Int))
    else none
    else none
   else
    if (x1 == 1) then
     if decide ((wr .i64 (t_12+1))<x0) then
      if (0:Int)≤t_12∧t_12<((t_11.length:Nat):Int) then
      Ac.l1 K x0 x1 k (wr .i64 (t_12+1)) t_10 ((t_11).set t_12.toNat ([wr .i64 (t_12+1)]:List Int))
      else none
     else
      Ac.l1 K x0 x1 k (wr .i64 (t_12+1)) t_10 t_11
    else
     if (x1 == 2) then
      if decide (t_12 > 0) then
       if (0:Int)≤(0:Int)∧(0:Int)<((t_11.length:Nat):Int) then
       if ((nth t_11 0).length+([t_12]:List Int).length)*8≤140737488355328 then
       if (0:Int)≤(0:Int)∧(0:Int)<((t_11.length:Nat):Int) then
       if (0:Int)=(0:Int) then
       Ac.l1 K x0 x1 k (wr .i64 (t_12+1)) t_10 ((t_11).set (0:Int).toNat ((nth t_11 0)++([t_12]:List Int)))
       else none
       else none
       else none
       else none
      else
       Ac.l1 K x0 x1 k (wr .i64 (t_12+1)) t_10 t_11
     else
      Ac.l2 K (Ac.l1 K x0 x1 k) t_10 t_12 x0 x1 K (0:Int) t_11
  else
   some ((x0,t_11):Aa)
def Ac (K:Nat) (x0:Int) (x1:Int):Option Aa :=
 if x0=x0∧(0:Int)≤x0∧(24:Int)*x0≤281474976710656∧x0≤9223372036854775807 then
 Ac.l1 K x0 x1 K (0:Int) (0:Int) (List.replicate x0.toNat ([]:List Int))
 else none
abbrev Ao:Type:=ByteArray × Int
abbrev Cz:Ty:=(.pr .str (.int .i64))
abbrev Ao.Data (x:Ao):ByteArray:=x.1
abbrev Ao.N (x:Ao):Int:=x.2
abbrev Dv.sg:Sig:=⟨[(.agg,Cz)],[],[(.one,.bool)],[]⟩
def Dv (K:Nat) (x0:Ao):Option Bool :=
 if decide (x0.N<0) then
  some false
 else
  if decide (x0.N > 6000) then
   some false
  else
   if (8:Int)≠0 then
   if (((x0.Data.size:Nat):Int) != (wr .i64 ((wr .i64 ((wr .i64 (x0.N+8))-1)).tdiv 8))) then
    some false
   else
    if (8:Int)≠0 then
    if ((x0.N.tmod 8) == 0) then
     some true
    else
     if (0:Int)≤(wr .i64 (((x0.Data.size:Nat):Int)-1))∧(wr .i64 (((x0.Data.size:Nat):Int)-1))<((x0.Data.size:Nat):Int) then
     if (0:Int)≤(x0.N.tmod 8) then
     some ((ib .and .u8 (bt x0.Data (wr .i64 (((x0.Data.size:Nat):Int)-1))) ((255:Int).fdiv (2 ^ min ((x0.N.tmod 8)).toNat 8))) == 0)
     else none
     else none
    else none
   else none
abbrev Ab:Type:=Int × Int × Ao
abbrev Ba:Ty:=(.pr (.int .i64) (.pr (.int .i64) Cz))
abbrev Ab.ID (x:Ab):Int:=x.1
abbrev Ab.Base (x:Ab):Int:=x.2.1
abbrev Ab.Data (x:Ab):Ao:=x.2.2
abbrev D7.sg:Sig:=⟨[(.agg,Ba),(.box,(.int .i64))],[],[(.one,.bool)],[]⟩
def D7 (K:Nat) (x0:Ab) (x1:Int):Option (Bool × Int) :=
 some ((x0.ID == x1),x1)
abbrev Ah.sg:Sig:=⟨[(.one,(.sl Ba)),(.fn 166 1,.un),(.hid,(.int .i64))],[],[(.one,(.int .i64))],[]⟩
def Ah.l1 (K:Nat) (x0:List Ab):Nat→Int→Int→Int→Option (Int × Int)
 | 0,_,_,_=>none
 | k+1,t_10,t_11,h_12 =>
  if decide (t_11<t_10) then
   if (0:Int)≤t_11∧t_11<((x0.length:Nat):Int) then
   (D7 K (nth x0 t_11) h_12).bind fun r16 =>
   if r16.1 then
    some (t_11,r16.2)
   else
    Ah.l1 K x0 k t_10 (wr .i64 (t_11+1)) r16.2
   else none
  else
   some ((-1),h_12)
def Ah (K:Nat) (x0:List Ab) (x2:Int):Option (Int × Int) :=
 Ah.l1 K x0 K ((x0.length:Nat):Int) (0:Int) x2
abbrev Dr.sg:Sig:=⟨[(.one,(.sl Ba)),(.one,(.int .i64))],[],[(.one,(.int .i64))],[]⟩
def Dr (K:Nat) (x0:List Ab) (x1:Int):Option Int :=
 (Ah K x0 x1).bind fun r7 =>
 some r7.1
abbrev C5.sg:Sig:=⟨[(.one,(.sl Ba))],[],[(.one,.bool)],[]⟩
def C5.l1 (K:Nat) (x0:List Ab):Nat→Int→Int→Option Bool
 | 0,_,_=>none
 | k+1,t_10,t_11 =>
  if decide (t_11<t_10) then
   if (0:Int)≤t_11∧t_11<((x0.length:Nat):Int) then
   if decide (((nth x0 t_11).ID)<1) then
    some false
   else
    if decide (((nth x0 t_11).ID) > 1048576) then
     some false
    else
     if decide (t_11 > 0) then
      if (0:Int)≤(wr .i64 (t_11-1))∧(wr .i64 (t_11-1))<((x0.length:Nat):Int) then
      if decide (((nth x0 t_11).ID)≤((nth x0 (wr .i64 (t_11-1))).ID)) then
       some false
      else
       (Dv K ((nth x0 t_11).Data)).bind fun r41 =>
       if (!r41) then
        some false
       else
        if (((nth x0 t_11).Base) == ((nth x0 t_11).ID)) then
         some false
        else
         if (((nth x0 t_11).Base) != 0) then
          (Dr K x0 ((nth x0 t_11).Base)).bind fun r57 =>
          if decide (r57<0) then
           some false
          else
           C5.l1 K x0 k t_10 (wr .i64 (t_11+1))
         else
          C5.l1 K x0 k t_10 (wr .i64 (t_11+1))
      else none
     else
      (Dv K ((nth x0 t_11).Data)).bind fun r41 =>
      if (!r41) then
       some false
      else
       if (((nth x0 t_11).Base) == ((nth x0 t_11).ID)) then
        some false
       else
        if (((nth x0 t_11).Base) != 0) then
         (Dr K x0 ((nth x0 t_11).Base)).bind fun r57 =>
         if decide (r57<0) then
          some false
         else
          C5.l1 K x0 k t_10 (wr .i64 (t_11+1))
        else
         C5.l1 K x0 k t_10 (wr .i64 (t_11+1))
   else none
  else
   some true
def C5 (K:Nat) (x0:List Ab):Option Bool :=
 if decide (((x0.length:Nat):Int) > 12) then
  some false
 else
  C5.l1 K x0 K ((x0.length:Nat):Int) (0:Int)
abbrev Ds.sg:Sig:=⟨[(.one,(.int .i64))],[],[(.one,.bool)],[]⟩
def Ds (K:Nat) (x0:Int):Option Bool :=
 if decide (x0≥0) then
  some (decide (x0<16))
 else
  some false
abbrev Da.sg:Sig:=⟨[(.one,(.sl (.int .i64)))],[],[(.one,.bool)],[]⟩
def Da.l1 (K:Nat) (x0:List Int):Nat→Int→Int→Option Bool
 | 0,_,_=>none
 | k+1,t_10,t_11 =>
  if decide (t_11<t_10) then
   if (0:Int)≤t_11∧t_11<((x0.length:Nat):Int) then
   (Ds K (nth x0 t_11)).bind fun r13 =>
   if (!r13) then
    some false
   else
    if decide (t_11 > 0) then
     if (0:Int)≤(wr .i64 (t_11-1))∧(wr .i64 (t_11-1))<((x0.length:Nat):Int) then
     if decide ((nth x0 t_11)≤(nth x0 (wr .i64 (t_11-1)))) then
      some false
     else
      Da.l1 K x0 k t_10 (wr .i64 (t_11+1))
     else none
    else
     Da.l1 K x0 k t_10 (wr .i64 (t_11+1))
   else none
  else
   some true
def Da (K:Nat) (x0:List Int):Option Bool :=
 Da.l1 K x0 K ((x0.length:Nat):Int) (0:Int)
abbrev C9.sg:Sig:=⟨[(.agg,A5)],[],[(.one,(.int .i64))],[]⟩
def C9.l1 (K:Nat) (x0:Aa):Nat→Int→Int→Int→Option Int
 | 0,_,_,_=>none
 | k+1,n_10,t_11,t_12 =>
  if decide (t_12<t_11) then
   if (0:Int)≤t_12∧t_12<((x0.Out.length:Nat):Int) then
   C9.l1 K x0 k (wr .i64 (n_10+(((nth x0.Out t_12).length:Nat):Int))) t_11 (wr .i64 (t_12+1))
   else none
  else
   some n_10
def C9 (K:Nat) (x0:Aa):Option Int :=
 C9.l1 K x0 K (0:Int) ((x0.Out.length:Nat):Int) (0:Int)
abbrev C0.sg:Sig:=⟨[(.agg,A5)],[],[(.one,.bool)],[]⟩
def C0.l1 (K:Nat) (x0:Aa):Nat→Int→Int→Option Bool
 | 0,_,_=>none
 | k+1,t_10,t_11 =>
  if decide (t_11<t_10) then
   if (0:Int)≤t_11∧t_11<((x0.Out.length:Nat):Int) then
   (Da K (nth x0.Out t_11)).bind fun r29 =>
   if (!r29) then
    some false
   else
    if decide ((((nth x0.Out t_11).length:Nat):Int) > 0) then
     if (0:Int)≤(wr .i64 ((((nth x0.Out t_11).length:Nat):Int)-1))∧(wr .i64 ((((nth x0.Out t_11).length:Nat):Int)-1))<(((nth x0.Out t_11).length:Nat):Int) then
     if decide ((nth (nth x0.Out t_11) (wr .i64 ((((nth x0.Out t_11).length:Nat):Int)-1)))≥x0.N) then
      some false
     else
      C0.l1 K x0 k t_10 (wr .i64 (t_11+1))
     else none
    else
     C0.l1 K x0 k t_10 (wr .i64 (t_11+1))
   else none
  else
   (C9 K x0).bind fun r49 =>
   some (decide (r49≤120))
def C0 (K:Nat) (x0:Aa):Option Bool :=
 if decide (x0.N<0) then
  some false
 else
  if decide (x0.N > 16) then
   some false
  else
   if (((x0.Out.length:Nat):Int) != x0.N) then
    some false
   else
    C0.l1 K x0 K ((x0.Out.length:Nat):Int) (0:Int)
abbrev B7:Type:=(List Int) × Int
abbrev Ee:Ty:=(.pr (.sl (.int .u8)) (.int .i64))
abbrev B7.data (x:B7):List Int:=x.1
abbrev B7.n (x:B7):Int:=x.2
abbrev A7.sg:Sig:=⟨[(.box,Ee),(.one,(.int .i64)),(.one,(.int .i64))],[.o],[],[.o]⟩
def A7.j2 (K:Nat) (go_l1:Int→Int→(List Int)→Option B7) (h_13:Int) (i_10:Int) (x1:Int) (h_11:List Int):Option B7 :=
 if (8:Int)≠0 then
 if (0:Int)≤(wr .i64 (h_13.tdiv 8))∧(wr .i64 (h_13.tdiv 8))<((h_11.length:Nat):Int) then
 if (0:Int)≤i_10 then
 if (8:Int)≠0 then
 if (0:Int)≤(wr .i64 (7-(h_13.tmod 8))) then
 if (0:Int)≤(wr .i64 (h_13.tdiv 8))∧(wr .i64 (h_13.tdiv 8))<((h_11.length:Nat):Int) then
 go_l1 (wr .i64 (i_10-1)) (wr .i64 (h_13+1)) ((h_11).set (wr .i64 (h_13.tdiv 8)).toNat (ib .or .u8 (nth h_11 (wr .i64 (h_13.tdiv 8))) (wr .u8 ((wr .u8 (ib .and .i64 (x1.fdiv (2 ^ min (i_10).toNat 64)) 1))*2 ^ min ((wr .i64 (7-(h_13.tmod 8)))).toNat 8))))
 else none
 else none
 else none
 else none
 else none
 else none
def A7.l1 (K:Nat) (x1:Int):Nat→Int→Int→(List Int)→Option B7
 | 0,_,_,_=>none
 | k+1,i_10,h_13,h_12 =>
  if decide (i_10≥0) then
   if (8:Int)≠0 then
   if ((h_13.tmod 8) == 0) then
    if (h_12.length+([0]:List Int).length)*1≤140737488355328 then
    A7.j2 K (A7.l1 K x1 k) h_13 i_10 x1 (h_12++([0]:List Int))
    else none
   else
    A7.j2 K (A7.l1 K x1 k) h_13 i_10 x1 h_12
   else none
  else
   some ((h_12,h_13):B7)
def A7 (K:Nat) (x0:B7) (x1:Int) (x2:Int):Option B7 :=
 A7.l1 K x1 K (wr .i64 (x2-1)) x0.n x0.data
abbrev Cf.sg:Sig:=⟨[(.one,(.int .u32))],[],[(.one,(.int .i64))],[]⟩
def Cf.j2 (K:Nat) (x_12:Int) (n_13:Int):Option Int :=
 if (0:Int)≤(wr .u8 x_12)∧(wr .u8 x_12)<(((⟨#[0,1,2,2,3,3,3,3,4,4,4,4,4,4,4,4,5,5,5,5,5,5,5,5,5,5,5,5,5,5,5,5,6,6,6,6,6,6,6,6,6,6,6,6,6,6,6,6,6,6,6,6,6,6,6,6,6,6,6,6,6,6,6,6,7,7,7,7,7,7,7,7,7,7,7,7,7,7,7,7,7,7,7,7,7,7,7,7,7,7,7,7,7,7,7,7,7,7,7,7,7,7,7,7,7,7,7,7,7,7,7,7,7,7,7,7,7,7,7,7,7,7,7,7,7,7,7,7,8,8,8,8,8,8,8,8,8,8,8,8,8,8,8,8,8,8,8,8,8,8,8,8,8,8,8,8,8,8,8,8,8,8,8,8,8,8,8,8,8,8,8,8,8,8,8,8,8,8,8,8,8,8,8,8,8,8,8,8,8,8,8,8,8,8,8,8,8,8,8,8,8,8,8,8,8,8,8,8,8,8,8,8,8,8,8,8,8,8,8,8,8,8,8,8,8,8,8,8,8,8,8,8,8,8,8,8,8,8,8,8,8,8,8,8,8,8,8,8,8,8,8,8,8,8,8,8]⟩:ByteArray).size:Nat):Int) then
 some (wr .i64 (n_13+(wr .i64 (bt (⟨#[0,1,2,2,3,3,3,3,4,4,4,4,4,4,4,4,5,5,5,5,5,5,5,5,5,5,5,5,5,5,5,5,6,6,6,6,6,6,6,6,6,6,6,6,6,6,6,6,6,6,6,6,6,6,6,6,6,6,6,6,6,6,6,6,7,7,7,7,7,7,7,7,7,7,7,7,7,7,7,7,7,7,7,7,7,7,7,7,7,7,7,7,7,7,7,7,7,7,7,7,7,7,7,7,7,7,7,7,7,7,7,7,7,7,7,7,7,7,7,7,7,7,7,7,7,7,7,7,8,8,8,8,8,8,8,8,8,8,8,8,8,8,8,8,8,8,8,8,8,8,8,8,8,8,8,8,8,8,8,8,8,8,8,8,8,8,8,8,8,8,8,8,8,8,8,8,8,8,8,8,8,8,8,8,8,8,8,8,8,8,8,8,8,8,8,8,8,8,8,8,8,8,8,8,8,8,8,8,8,8,8,8,8,8,8,8,8,8,8,8,8,8,8,8,8,8,8,8,8,8,8,8,8,8,8,8,8,8,8,8,8,8,8,8,8,8,8,8,8,8,8,8,8,8,8,8]⟩:ByteArray) (wr .u8 x_12)))))
 else none
def Cf.j1 (K:Nat) (x_10:Int) (n_11:Int):Option Int :=
 if decide (x_10≥256) then
  if (0:Int)≤8 then
  Cf.j2 K (x_10.fdiv (2 ^ min ((8:Int)).toNat 32)) (wr .i64 (n_11+8))
  else none
 else
  Cf.j2 K x_10 n_11
def Cf (K:Nat) (x0:Int):Option Int :=
 if decide (x0≥65536) then
  if (0:Int)≤16 then
  Cf.j1 K (x0.fdiv (2 ^ min ((16:Int)).toNat 32)) (16:Int)
  else none
 else
  Cf.j1 K x0 (0:Int)
abbrev Bp.sg:Sig:=⟨[(.one,(.int .u64))],[],[(.one,(.int .i64))],[]⟩
def Bp.j3 (K:Nat) (x_14:Int) (n_15:Int):Option Int :=
 if (0:Int)≤(wr .u8 x_14)∧(wr .u8 x_14)<(((⟨#[0,1,2,2,3,3,3,3,4,4,4,4,4,4,4,4,5,5,5,5,5,5,5,5,5,5,5,5,5,5,5,5,6,6,6,6,6,6,6,6,6,6,6,6,6,6,6,6,6,6,6,6,6,6,6,6,6,6,6,6,6,6,6,6,7,7,7,7,7,7,7,7,7,7,7,7,7,7,7,7,7,7,7,7,7,7,7,7,7,7,7,7,7,7,7,7,7,7,7,7,7,7,7,7,7,7,7,7,7,7,7,7,7,7,7,7,7,7,7,7,7,7,7,7,7,7,7,7,8,8,8,8,8,8,8,8,8,8,8,8,8,8,8,8,8,8,8,8,8,8,8,8,8,8,8,8,8,8,8,8,8,8,8,8,8,8,8,8,8,8,8,8,8,8,8,8,8,8,8,8,8,8,8,8,8,8,8,8,8,8,8,8,8,8,8,8,8,8,8,8,8,8,8,8,8,8,8,8,8,8,8,8,8,8,8,8,8,8,8,8,8,8,8,8,8,8,8,8,8,8,8,8,8,8,8,8,8,8,8,8,8,8,8,8,8,8,8,8,8,8,8,8,8,8,8,8]⟩:ByteArray).size:Nat):Int) then
 some (wr .i64 (n_15+(wr .i64 (bt (⟨#[0,1,2,2,3,3,3,3,4,4,4,4,4,4,4,4,5,5,5,5,5,5,5,5,5,5,5,5,5,5,5,5,6,6,6,6,6,6,6,6,6,6,6,6,6,6,6,6,6,6,6,6,6,6,6,6,6,6,6,6,6,6,6,6,7,7,7,7,7,7,7,7,7,7,7,7,7,7,7,7,7,7,7,7,7,7,7,7,7,7,7,7,7,7,7,7,7,7,7,7,7,7,7,7,7,7,7,7,7,7,7,7,7,7,7,7,7,7,7,7,7,7,7,7,7,7,7,7,8,8,8,8,8,8,8,8,8,8,8,8,8,8,8,8,8,8,8,8,8,8,8,8,8,8,8,8,8,8,8,8,8,8,8,8,8,8,8,8,8,8,8,8,8,8,8,8,8,8,8,8,8,8,8,8,8,8,8,8,8,8,8,8,8,8,8,8,8,8,8,8,8,8,8,8,8,8,8,8,8,8,8,8,8,8,8,8,8,8,8,8,8,8,8,8,8,8,8,8,8,8,8,8,8,8,8,8,8,8,8,8,8,8,8,8,8,8,8,8,8,8,8,8,8,8,8,8]⟩:ByteArray) (wr .u8 x_14)))))
 else none
def Bp.j2 (K:Nat) (x_12:Int) (n_13:Int):Option Int :=
 if decide (x_12≥256) then
  if (0:Int)≤8 then
  Bp.j3 K (x_12.fdiv (2 ^ min ((8:Int)).toNat 64)) (wr .i64 (n_13+8))
  else none
 else
  Bp.j3 K x_12 n_13
def Bp.j1 (K:Nat) (x_10:Int) (n_11:Int):Option Int :=
 if decide (x_10≥65536) then
  if (0:Int)≤16 then
  Bp.j2 K (x_10.fdiv (2 ^ min ((16:Int)).toNat 64)) (wr .i64 (n_11+16))
  else none
 else
  Bp.j2 K x_10 n_11
def Bp (K:Nat) (x0:Int):Option Int :=
 if decide (x0≥4294967296) then
  if (0:Int)≤32 then
  Bp.j1 K (x0.fdiv (2 ^ min ((32:Int)).toNat 64)) (32:Int)
  else none
 else
  Bp.j1 K x0 (0:Int)
abbrev Dt.sg:Sig:=⟨[(.one,(.int .u64))],[],[(.one,(.int .i64))],[]⟩
def Dt (K:Nat) (x0:Int):Option Int :=
 (Bp K x0).bind fun r7 =>
 some r7
abbrev Dw.sg:Sig:=⟨[(.one,(.int .i64))],[],[(.one,(.int .i64))],[]⟩
def Dw (K:Nat) (x0:Int):Option Int :=
 (Dt K (wr .u64 x0)).bind fun r5 =>
 some (wr .i64 (r5-1))
abbrev D3.sg:Sig:=⟨[(.one,(.int .i64))],[],[(.one,(.int .i64))],[]⟩
def D3 (K:Nat) (x0:Int):Option Int :=
 some (wr .i64 ((wr .i64 (x0-4))+2))
abbrev Ec.sg:Sig:=⟨[(.one,(.int .i64)),(.one,(.int .i64))],[],[(.one,(.int .i64)),(.one,(.int .i64)),(.one,(.int .i64)),(.one,(.int .i64))],[]⟩
def Ec (K:Nat) (x0:Int) (x1:Int):Option (Int × Int × Int × Int) :=
 if (0:Int)≤(wr .i64 (x1*x0)) then
 if (0:Int)≤x0 then
 (Dt K (wr .u64 (wr .i64 ((wr .i64 ((wr .i64 ((wr .i64 ((1:Int)*2 ^ min ((wr .i64 (x1*x0))).toNat 64))*2 ^ min (x0).toNat 64))-(wr .i64 ((1:Int)*2 ^ min ((wr .i64 (x1*x0))).toNat 64))))-1)))).bind fun r20 =>
 if (0:Int)≤r20 then
 some (wr .i64 ((1:Int)*2 ^ min ((wr .i64 (x1*x0))).toNat 64),wr .i64 ((wr .i64 ((wr .i64 ((1:Int)*2 ^ min ((wr .i64 (x1*x0))).toNat 64))*2 ^ min (x0).toNat 64))-(wr .i64 ((1:Int)*2 ^ min ((wr .i64 (x1*x0))).toNat 64))),r20,wr .i64 ((wr .i64 ((1:Int)*2 ^ min (r20).toNat 64))-(wr .i64 ((wr .i64 ((wr .i64 ((1:Int)*2 ^ min ((wr .i64 (x1*x0))).toNat 64))*2 ^ min (x0).toNat 64))-(wr .i64 ((1:Int)*2 ^ min ((wr .i64 (x1*x0))).toNat 64))))))
 else none
 else none
 else none
abbrev Ck.sg:Sig:=⟨[(.box,Ee),(.one,(.int .i64)),(.one,(.int .i64))],[.o],[],[.o]⟩
def Ck:Nat→B7→Int→Int→Option B7
 | 0,_,_,_=>none
 | K+1,x0,x1,x2 =>
  if (x1 == 1) then
   (A7 K x0 0 (wr .i64 (x2-1))).bind fun r53 =>
   (A7 K r53 1 1).bind fun r55 =>
   some r55
  else
   if (x1 == 2) then
    (Dw K x2).bind fun r60 =>
    (A7 K x0 0 r60).bind fun r61 =>
    (Dw K x2).bind fun r65 =>
    (A7 K r61 x2 (wr .i64 (r65+1))).bind fun r67 =>
    some r67
   else
    if (x1 == 3) then
     (Dw K x2).bind fun r72 =>
     ((Ck K) x0 2 (wr .i64 (r72+1))).bind fun r74 =>
     (Dw K x2).bind fun r78 =>
     (A7 K r74 x2 r78).bind fun r79 =>
     some r79
    else
     (Dw K x2).bind fun r14 =>
     (D3 K x1).bind fun r16 =>
     if r16≠0 then
     (D3 K x1).bind fun r20 =>
     (Ec K r20 (wr .i64 (r14.tdiv r16))).bind fun r22 =>
     ((Ck K) x0 1 (wr .i64 ((wr .i64 (r14.tdiv r16))+1))).bind fun r30 =>
     if decide ((wr .i64 (x2-r22.1))<r22.2.2.2) then
      (A7 K r30 (wr .i64 (x2-r22.1)) (wr .i64 (r22.2.2.1-1))).bind fun r41 =>
      some r41
     else
      (A7 K r30 (wr .i64 ((wr .i64 (x2-r22.1))+r22.2.2.2)) r22.2.2.1).bind fun r47 =>
      some r47
     else none
abbrev Dq.sg:Sig:=⟨[(.box,Ee)],[.o],[(.one,(.int .i64))],[.s,.o]⟩
def Dq (K:Nat) (x0:B7):Option (Int × B7) :=
 some (x0.n,x0)
abbrev Aj:Type:=Int × Int
abbrev Cp:Ty:=(.pr (.int .i64) (.int .i64))
abbrev Aj.At (x:Aj):Int:=x.1
abbrev Aj.Len (x:Aj):Int:=x.2
abbrev B5.sg:Sig:=⟨[(.one,(.sl (.int .i64)))],[],[(.one,(.sl Cp)),(.one,(.sl (.int .i64)))],[.o,.o]⟩
def B5.l2 (K:Nat) (go_l1:Int→(List Aj)→(List Int)→Option ((List Aj) × (List Int))) (i_10:Int) (x0:List Int):Nat→Int→(List Aj)→(List Int)→Option ((List Aj) × (List Int))
 | 0,_,_,_=>none
 | k+1,k_11,r_14,rest_15 =>
  if decide (k_11<((x0.length:Nat):Int)) then
   if (0:Int)≤k_11∧k_11<((x0.length:Nat):Int) then
   if (0:Int)≤(wr .i64 (k_11-1))∧(wr .i64 (k_11-1))<((x0.length:Nat):Int) then
   if ((nth x0 k_11) == (wr .i64 ((nth x0 (wr .i64 (k_11-1)))+1))) then
    B5.l2 K go_l1 i_10 x0 k (wr .i64 (k_11+1)) r_14 rest_15
   else
    if decide ((wr .i64 (k_11-i_10))≥3) then
     if (0:Int)≤i_10∧i_10<((x0.length:Nat):Int) then
     if (r_14.length+([((nth x0 i_10,wr .i64 (k_11-i_10)):Aj)]:List Aj).length)*16≤140737488355328 then
     go_l1 k_11 (r_14++([((nth x0 i_10,wr .i64 (k_11-i_10)):Aj)]:List Aj)) rest_15
     else none
     else none
    else
     if (0:Int)≤i_10∧i_10≤k_11∧k_11≤((x0.length:Nat):Int) then
     if (rest_15.length+(((x0).drop i_10.toNat).take (k_11.toNat-i_10.toNat)).length)*8≤140737488355328 then
     go_l1 k_11 r_14 (rest_15++(((x0).drop i_10.toNat).take (k_11.toNat-i_10.toNat)))
     else none
     else none
   else none
   else none
  else
   if decide ((wr .i64 (k_11-i_10))≥3) then
    if (0:Int)≤i_10∧i_10<((x0.length:Nat):Int) then
    if (r_14.length+([((nth x0 i_10,wr .i64 (k_11-i_10)):Aj)]:List Aj).length)*16≤140737488355328 then
    go_l1 k_11 (r_14++([((nth x0 i_10,wr .i64 (k_11-i_10)):Aj)]:List Aj)) rest_15
    else none
    else none
   else
    if (0:Int)≤i_10∧i_10≤k_11∧k_11≤((x0.length:Nat):Int) then
    if (rest_15.length+(((x0).drop i_10.toNat).take (k_11.toNat-i_10.toNat)).length)*8≤140737488355328 then
    go_l1 k_11 r_14 (rest_15++(((x0).drop i_10.toNat).take (k_11.toNat-i_10.toNat)))
    else none
    else none
def B5.l1 (K:Nat) (x0:List Int):Nat→Int→(List Aj)→(List Int)→Option ((List Aj) × (List Int))
 | 0,_,_,_=>none
 | k+1,i_10,r_12,rest_13 =>
  if decide (i_10<((x0.length:Nat):Int)) then
   B5.l2 K (B5.l1 K x0 k) i_10 x0 K (wr .i64 (i_10+1)) r_12 rest_13
  else
   some (r_12,rest_13)
def B5 (K:Nat) (x0:List Int):Option ((List Aj) × (List Int)) :=
 B5.l1 K x0 K (0:Int) ([]:List Aj) ([]:List Int)
abbrev D8.sg:Sig:=⟨[(.one,(.int .i64))],[],[(.one,(.int .i64))],[]⟩
def D8 (K:Nat) (x0:Int):Option Int :=
 if decide (x0<0) then
  some (wr .i64 ((wr .i64 ((-2)*x0))-1))
 else
  some (wr .i64 (2*x0))
abbrev Dg.sg:Sig:=⟨[(.box,Ee),(.one,(.int .i64)),(.one,(.sl (.int .i64)))],[.o],[],[.o]⟩
def Dg.l1 (K:Nat) (x1:Int) (x2:List Int):Nat→Int→Int→Int→(List Int)→Option B7
 | 0,_,_,_,_=>none
 | k+1,t_10,t_11,h_13,h_12 =>
  if decide (t_11<t_10) then
   if (0:Int)≤t_11∧t_11<((x2.length:Nat):Int) then
   if (t_11 == 0) then
    (D8 K (wr .i64 ((nth x2 t_11)-x1))).bind fun r26 =>
    (Ck K ((h_12,h_13):B7) 2 (wr .i64 (r26+1))).bind fun r28 =>
    Dg.l1 K x1 x2 k t_10 (wr .i64 (t_11+1)) r28.n r28.data
   else
    if (0:Int)≤(wr .i64 (t_11-1))∧(wr .i64 (t_11-1))<((x2.length:Nat):Int) then
    (Ck K ((h_12,h_13):B7) 2 (wr .i64 ((nth x2 t_11)-(nth x2 (wr .i64 (t_11-1)))))).bind fun r37 =>
    Dg.l1 K x1 x2 k t_10 (wr .i64 (t_11+1)) r37.n r37.data
    else none
   else none
  else
   some ((h_12,h_13):B7)
def Dg (K:Nat) (x0:B7) (x1:Int) (x2:List Int):Option B7 :=
 (Ck K x0 2 (wr .i64 (((x2.length:Nat):Int)+1))).bind fun r12 =>
 Dg.l1 K x1 x2 K ((x2.length:Nat):Int) (0:Int) r12.n r12.data
abbrev Cm.sg:Sig:=⟨[(.box,Ee),(.one,(.int .i64)),(.one,(.sl (.int .i64)))],[.o],[],[.o]⟩
def Cm.j2 (K:Nat) (go_l1:Int→Int→Int→Int→(List Int)→Option B7) (r13:(List Aj) × (List Int)) (t_11:Int) (t_12:Int) (x1:Int) (h_14:Int) (h_13:List Int) (x_15:Int) (x_16:Int):Option B7 :=
 (Ck K ((h_13,h_14):B7) 2 (wr .i64 ((wr .i64 (x_16-3))+1))).bind fun r49 =>
 go_l1 (wr .i64 (x_15+x_16)) t_11 (wr .i64 (t_12+1)) r49.n r49.data
def Cm.l1 (K:Nat) (r13:(List Aj) × (List Int)) (x1:Int):Nat→Int→Int→Int→Int→(List Int)→Option B7
 | 0,_,_,_,_,_=>none
 | k+1,end_10,t_11,t_12,h_18,h_17 =>
  if decide (t_12<t_11) then
   if (0:Int)≤t_12∧t_12<((r13.1.length:Nat):Int) then
   if (t_12 == 0) then
    (D8 K (wr .i64 (((nth r13.1 t_12).At)-x1))).bind fun r35 =>
    (Ck K ((h_17,h_18):B7) 2 (wr .i64 (r35+1))).bind fun r37 =>
    Cm.j2 K (Cm.l1 K r13 x1 k) r13 t_11 t_12 x1 r37.n r37.data ((nth r13.1 t_12).At) ((nth r13.1 t_12).Len)
   else
    (Ck K ((h_17,h_18):B7) 2 (wr .i64 (((nth r13.1 t_12).At)-end_10))).bind fun r43 =>
    Cm.j2 K (Cm.l1 K r13 x1 k) r13 t_11 t_12 x1 r43.n r43.data ((nth r13.1 t_12).At) ((nth r13.1 t_12).Len)
   else none
  else
   (Dg K ((h_17,h_18):B7) x1 r13.2).bind fun r59 =>
   some r59
def Cm (K:Nat) (x0:B7) (x1:Int) (x2:List Int):Option B7 :=
 (B5 K x2).bind fun r13 =>
 (Ck K x0 2 (wr .i64 (((r13.1.length:Nat):Int)+1))).bind fun r20 =>
 Cm.l1 K r13 x1 K (0:Int) ((r13.1.length:Nat):Int) (0:Int) r20.n r20.data
abbrev Cq.sg:Sig:=⟨[(.agg,A5)],[],[(.ptr,Ee),(.one,(.sl (.int .i64)))],[.o,.s,.o]⟩
def Cq.l1 (K:Nat) (x0:Aa):Nat→Int→Int→Int→(List Int)→(List Int)→Option (B7 × (List Int))
 | 0,_,_,_,_,_=>none
 | k+1,t_10,t_11,r_13,r_12,at_14 =>
  if decide (t_11<t_10) then
   if (0:Int)≤t_11∧t_11<((x0.Out.length:Nat):Int) then
   (Dq K ((r_12,r_13):B7)).bind fun r25 =>
   if (at_14.length+([r25.1]:List Int).length)*8≤140737488355328 then
   (Cm K r25.2 t_11 (nth x0.Out t_11)).bind fun r31 =>
   Cq.l1 K x0 k t_10 (wr .i64 (t_11+1)) r31.n r31.data (at_14++([r25.1]:List Int))
   else none
   else none
  else
   some (((r_12,r_13):B7),at_14)
def Cq (K:Nat) (x0:Aa):Option (B7 × (List Int)) :=
 (Ck K ((([]:List Int),0):B7) 2 (wr .i64 (x0.N+1))).bind fun r14 =>
 Cq.l1 K x0 K ((x0.Out.length:Nat):Int) (0:Int) r14.n r14.data ([]:List Int)
abbrev C6.sg:Sig:=⟨[(.box,Ee)],[.o],[(.agg,Cz),(.one,(.int .i64))],[.s,.s,.s,.o]⟩
def C6 (K:Nat) (x0:B7):Option (Ao × Int × B7) :=
 if decide (x0.n > 6000) then
  some (((ByteArray.empty,0):Ao),2,x0)
 else
  some (((bytesOf x0.data,x0.n):Ao),0,x0)
abbrev D0.sg:Sig:=⟨[(.agg,A5)],[],[(.agg,Cz)],[]⟩
def D0 (K:Nat) (x0:Aa):Option Ao :=
 (Cq K x0).bind fun r9 =>
 (C6 K r9.1).bind fun r14 =>
 some r14.1
abbrev Db.sg:Sig:=⟨[(.one,(.sl Ba)),(.one,(.int .i64)),(.one,(.int .i64))],[],[(.one,(.sl Ba))],[.o]⟩
def Db.l1 (K:Nat) (x0:List Ab) (x2:Int):Nat→Int→(List Ab)→Option (List Ab)
 | 0,_,_=>none
 | k+1,id_10,w_11 =>
  if (id_10 != 0) then
   if decide (((w_11.length:Nat):Int)<x2) then
    (Dr K x0 id_10).bind fun r19 =>
    if (0:Int)≤r19∧r19<((x0.length:Nat):Int) then
    if (w_11.length+([(nth x0 r19)]:List Ab).length)*40≤140737488355328 then
    Db.l1 K x0 x2 k ((nth x0 r19).Base) (w_11++([(nth x0 r19)]:List Ab))
    else none
    else none
   else
    some w_11
  else
   some w_11
def Db (K:Nat) (x0:List Ab) (x1:Int) (x2:Int):Option (List Ab) :=
 Db.l1 K x0 x2 K x1 ([]:List Ab)
abbrev D4.sg:Sig:=⟨[(.one,(.sl Ba)),(.one,(.int .i64))],[],[(.one,(.int .i64)),(.one,(.int .i64))],[]⟩
def D4 (K:Nat) (x0:List Ab) (x1:Int):Option (Int × Int) :=
 (Dr K x0 x1).bind fun r9 =>
 if decide (r9<0) then
  some (0,3)
 else
  (Db K x0 x1 4).bind fun r13 =>
  if decide (((r13.length:Nat):Int) > 3) then
   some (0,2)
  else
   some (((r13.length:Nat):Int),0)
abbrev D9.sg:Sig:=⟨[(.agg,Cz),(.one,(.int .i64))],[],[(.one,(.int .i64))],[]⟩
def D9 (K:Nat) (x0:Ao) (x1:Int):Option Int :=
 if (8:Int)≠0 then
 if (0:Int)≤(wr .i64 (x1.tdiv 8))∧(wr .i64 (x1.tdiv 8))<((x0.Data.size:Nat):Int) then
 if (8:Int)≠0 then
 if (0:Int)≤(wr .i64 (7-(x1.tmod 8))) then
 some (ib .and .i64 (wr .i64 ((bt x0.Data (wr .i64 (x1.tdiv 8))).fdiv (2 ^ min ((wr .i64 (7-(x1.tmod 8)))).toNat 8))) 1)
 else none
 else none
 else none
 else none
abbrev C2.sg:Sig:=⟨[(.agg,Cz),(.one,(.int .i64))],[],[(.one,(.int .i64))],[]⟩
def C2.l1 (K:Nat) (x0:Ao) (x1:Int):Nat→Int→Option Int
 | 0,_=>none
 | k+1,i_10 =>
  if decide (i_10<x0.N) then
   (D9 K x0 i_10).bind fun r15 =>
   if (r15 == 1) then
    some (wr .i64 (i_10-x1))
   else
    C2.l1 K x0 x1 k (wr .i64 (i_10+1))
  else
   some ((-1):Int)
def C2 (K:Nat) (x0:Ao) (x1:Int):Option Int :=
 C2.l1 K x0 x1 K x1
abbrev Bo:Type:=Ao × Int × Bool
abbrev Ed:Ty:=(.pr Cz (.pr (.int .i64) .bool))
abbrev Bo.b (x:Bo):Ao:=x.1
abbrev Bo.at_ (x:Bo):Int:=x.2.1
abbrev Bo.bad (x:Bo):Bool:=x.2.2
abbrev Cw.sg:Sig:=⟨[(.box,Ed),(.one,(.int .i64))],[],[(.one,(.int .i64))],[]⟩
def Cw (K:Nat) (x0:Bo) (x1:Int):Option (Int × Bo) :=
 (C2 K x0.b x0.at_).bind fun r14 =>
 if x0.bad then
  some (0,((x0.b,x0.at_,true):Bo))
 else
  if decide (r14<0) then
   some (0,((x0.b,x0.at_,true):Bo))
  else
   if decide (r14 > x1) then
    some (0,((x0.b,x0.at_,true):Bo))
   else
    some (r14,((x0.b,wr .i64 (x0.at_+r14),x0.bad):Bo))
abbrev C8.sg:Sig:=⟨[(.agg,Cz),(.one,(.int .i64)),(.one,(.int .i64))],[],[(.one,(.int .i64)),(.one,.bool)],[]⟩
def C8.l1 (K:Nat) (x0:Ao) (x1:Int) (x2:Int):Nat→Int→Int→Option (Int × Bool)
 | 0,_,_=>none
 | k+1,v_10,t_11 =>
  if decide (t_11<x2) then
   if (0:Int)≤1 then
   (D9 K x0 (wr .i64 (x1+t_11))).bind fun r32 =>
   C8.l1 K x0 x1 x2 k (ib .or .i64 (wr .i64 (v_10*2 ^ min ((1:Int)).toNat 64)) r32) (wr .i64 (t_11+1))
   else none
  else
   some (v_10,true)
def C8 (K:Nat) (x0:Ao) (x1:Int) (x2:Int):Option (Int × Bool) :=
 if decide (x1 > x0.N) then
  some (0,false)
 else
  if decide (x2 > (wr .i64 (x0.N-x1))) then
   some (0,false)
  else
   C8.l1 K x0 x1 x2 K (0:Int) (0:Int)
abbrev Ca.sg:Sig:=⟨[(.box,Ed),(.one,(.int .i64))],[],[(.one,(.int .i64))],[]⟩
def Ca (K:Nat) (x0:Bo) (x1:Int):Option (Int × Bo) :=
 (C8 K x0.b x0.at_ x1).bind fun r17 =>
 if x0.bad then
  some (0,((x0.b,x0.at_,true):Bo))
 else
  if (!r17.2) then
   some (0,((x0.b,x0.at_,true):Bo))
  else
   some (r17.1,((x0.b,wr .i64 (x0.at_+x1),x0.bad):Bo))
abbrev C3.sg:Sig:=⟨[(.box,Ed),(.one,(.int .i64))],[],[(.one,(.int .i64))],[]⟩
def C3 (K:Nat) (x0:Bo) (x1:Int):Option (Int × Bo) :=
 (Cw K x0 (wr .i64 (x1-1))).bind fun r9 =>
 (Ca K r9.2 1).bind fun r11 =>
 some (wr .i64 (r9.1+1),r11.2)
abbrev Cn.sg:Sig:=⟨[(.box,Ed)],[],[(.one,(.int .i64))],[]⟩
def Cn (K:Nat) (x0:Bo):Option (Int × Bo) :=
 (Cw K x0 30).bind fun r5 =>
 (Ca K r5.2 (wr .i64 (r5.1+1))).bind fun r9 =>
 some (r9.1,r9.2)
abbrev Dd.sg:Sig:=⟨[(.box,Ed)],[],[(.one,(.int .i64))],[]⟩
def Dd (K:Nat) (x0:Bo):Option (Int × Bo) :=
 (Cn K x0).bind fun r5 =>
 if r5.2.bad then
  some (0,((r5.2.b,r5.2.at_,true):Bo))
 else
  if decide ((wr .i64 (r5.1-1)) > 30) then
   some (0,((r5.2.b,r5.2.at_,true):Bo))
  else
   if (0:Int)≤(wr .i64 (r5.1-1)) then
   (Ca K r5.2 (wr .i64 (r5.1-1))).bind fun r22 =>
   some (ib .or .i64 (wr .i64 ((1:Int)*2 ^ min ((wr .i64 (r5.1-1))).toNat 64)) r22.1,r22.2)
   else none
abbrev Di.sg:Sig:=⟨[(.box,Ed),(.one,(.int .i64))],[],[(.one,(.int .i64))],[]⟩
def Di (K:Nat) (x0:Bo) (x1:Int):Option (Int × Bo) :=
 if x1≠0 then
 (C3 K x0 (wr .i64 ((wr .i64 ((30:Int).tdiv x1))+1))).bind fun r15 =>
 if r15.2.bad then
  some (0,r15.2)
 else
  (Ec K x1 (wr .i64 (r15.1-1))).bind fun r24 =>
  (Ca K r15.2 (wr .i64 (r24.2.2.1-1))).bind fun r32 =>
  if decide (r32.1≥r24.2.2.2) then
   if (0:Int)≤1 then
   (Ca K r32.2 1).bind fun r39 =>
   some (wr .i64 (r24.1+(wr .i64 ((wr .i64 ((wr .i64 (r32.1*2 ^ min ((1:Int)).toNat 64))+r39.1))-r24.2.2.2))),r39.2)
   else none
  else
   some (wr .i64 (r24.1+r32.1),r32.2)
 else none
abbrev Cb.sg:Sig:=⟨[(.agg,Cz),(.one,(.int .i64)),(.one,(.int .i64))],[],[(.one,(.int .i64)),(.one,(.int .i64)),(.one,.bool)],[]⟩
def Cb.j1 (K:Nat) (n_14:Int) (r_10:ByteArray) (r_11:Int) (r_12:Int) (r_13:Bool):Option (Int × Int × Bool) :=
 if r_13 then
  some (0,0,false)
 else
  if decide (n_14 > 1073741824) then
   some (0,0,false)
  else
   some (n_14,r_12,true)
def Cb (K:Nat) (x0:Ao) (x1:Int) (x2:Int):Option (Int × Int × Bool) :=
 if (x2 == 1) then
  (C3 K ((x0,x1,false):Bo) 1000).bind fun r23 =>
  Cb.j1 K r23.1 r23.2.b.Data r23.2.b.N r23.2.at_ r23.2.bad
 else
  if (x2 == 2) then
   (Cn K ((x0,x1,false):Bo)).bind fun r27 =>
   Cb.j1 K r27.1 r27.2.b.Data r27.2.b.N r27.2.at_ r27.2.bad
  else
   if (x2 == 3) then
    (Dd K ((x0,x1,false):Bo)).bind fun r31 =>
    Cb.j1 K r31.1 r31.2.b.Data r31.2.b.N r31.2.at_ r31.2.bad
   else
    (D3 K x2).bind fun r18 =>
    (Di K ((x0,x1,false):Bo) r18).bind fun r19 =>
    Cb.j1 K r19.1 r19.2.b.Data r19.2.b.N r19.2.at_ r19.2.bad
abbrev Du.sg:Sig:=⟨[(.agg,Cz)],[],[(.one,(.int .i64)),(.one,(.int .i64)),(.one,.bool)],[]⟩
def Du (K:Nat) (x0:Ao):Option (Int × Int × Bool) :=
 (Cb K x0 0 2).bind fun r7 =>
 if (!r7.2.2) then
  some (0,0,false)
 else
  if decide (r7.1 > 17) then
   some (0,0,false)
  else
   some (wr .i64 (r7.1-1),r7.2.1,true)
abbrev Dk.sg:Sig:=⟨[(.one,(.int .i64))],[],[(.one,(.int .i64))],[]⟩
def Dk (K:Nat) (x0:Int):Option Int :=
 if (2:Int)≠0 then
 if ((x0.tmod 2) == 1) then
  if (2:Int)≠0 then
  some (wr .i64 ((wr .i64 (0-(wr .i64 (x0+1)))).tdiv 2))
  else none
 else
  if (2:Int)≠0 then
  some (wr .i64 (x0.tdiv 2))
  else none
 else none
abbrev B0.sg:Sig:=⟨[(.agg,Cz),(.one,(.int .i64)),(.one,(.int .i64))],[],[(.one,(.sl Cp)),(.one,(.int .i64)),(.one,.bool)],[.o]⟩
def B0.j2 (K:Nat) (go_l1:Int→Int→Int→Int→(List Aj)→Option ((List Aj) × Int × Bool)) (r48:Int × Int × Bool) (t_10:Int) (t_11:Int) (t_13:List Aj) (t_15:Int) (x0:Ao) (t_12:Int):Option ((List Aj) × Int × Bool) :=
 if (t_13.length+([((wr .i64 (t_15+t_12),wr .i64 ((wr .i64 (r48.1-1))+3)):Aj)]:List Aj).length)*16≤140737488355328 then
 go_l1 r48.2.1 (wr .i64 ((wr .i64 (t_15+t_12))+(wr .i64 ((wr .i64 (r48.1-1))+3)))) t_10 (wr .i64 (t_11+1)) (t_13++([((wr .i64 (t_15+t_12),wr .i64 ((wr .i64 (r48.1-1))+3)):Aj)]:List Aj))
 else none
def B0.l1 (K:Nat) (x0:Ao):Nat→Int→Int→Int→Int→(List Aj)→Option ((List Aj) × Int × Bool)
 | 0,_,_,_,_,_=>none
 | k+1,t_14,t_15,t_10,t_11,t_13 =>
  if decide (t_11<t_10) then
   (Cb K x0 t_14 2).bind fun r39 =>
   if (!r39.2.2) then
    some (([]:List Aj),0,false)
   else
    (Cb K x0 r39.2.1 2).bind fun r48 =>
    if (!r48.2.2) then
     some (([]:List Aj),0,false)
    else
     if (t_11 == 0) then
      (Dk K (wr .i64 (r39.1-1))).bind fun r58 =>
      B0.j2 K (B0.l1 K x0 k) r48 t_10 t_11 t_13 t_15 x0 r58
     else
      B0.j2 K (B0.l1 K x0 k) r48 t_10 t_11 t_13 t_15 x0 r39.1
  else
   some (t_13,t_14,true)
def B0 (K:Nat) (x0:Ao) (x1:Int) (x2:Int):Option ((List Aj) × Int × Bool) :=
 (Cb K x0 x1 2).bind fun r20 =>
 if (!r20.2.2) then
  some (([]:List Aj),0,false)
 else
  if decide (r20.1 > 16) then
   some (([]:List Aj),0,false)
  else
   B0.l1 K x0 K r20.2.1 x2 (wr .i64 (r20.1-1)) (0:Int) ([]:List Aj)
abbrev Bx.sg:Sig:=⟨[(.agg,Cz),(.one,(.int .i64)),(.one,(.int .i64))],[],[(.one,(.sl (.int .i64))),(.one,(.int .i64)),(.one,.bool)],[.o]⟩
def Bx.j2 (K:Nat) (go_l1:Int→Int→Int→Int→(List Int)→Option ((List Int) × Int × Bool)) (l_13:List Int) (last_15:Int) (r35:Int × Int × Bool) (t_10:Int) (t_11:Int) (x0:Ao) (n_12:Int):Option ((List Int) × Int × Bool) :=
 (Ds K (wr .i64 (last_15+n_12))).bind fun r50 =>
 if (!r50) then
  some (([]:List Int),0,false)
 else
  if (l_13.length+([wr .i64 (last_15+n_12)]:List Int).length)*8≤140737488355328 then
  go_l1 r35.2.1 (wr .i64 (last_15+n_12)) t_10 (wr .i64 (t_11+1)) (l_13++([wr .i64 (last_15+n_12)]:List Int))
  else none
def Bx.l1 (K:Nat) (x0:Ao):Nat→Int→Int→Int→Int→(List Int)→Option ((List Int) × Int × Bool)
 | 0,_,_,_,_,_=>none
 | k+1,next_14,last_15,t_10,t_11,l_13 =>
  if decide (t_11<t_10) then
   (Cb K x0 next_14 2).bind fun r35 =>
   if (!r35.2.2) then
    some (([]:List Int),0,false)
   else
    if (t_11 == 0) then
     (Dk K (wr .i64 (r35.1-1))).bind fun r45 =>
     Bx.j2 K (Bx.l1 K x0 k) l_13 last_15 r35 t_10 t_11 x0 r45
    else
     Bx.j2 K (Bx.l1 K x0 k) l_13 last_15 r35 t_10 t_11 x0 r35.1
  else
   some (l_13,next_14,true)
def Bx (K:Nat) (x0:Ao) (x1:Int) (x2:Int):Option ((List Int) × Int × Bool) :=
 (Cb K x0 x1 2).bind fun r16 =>
 if (!r16.2.2) then
  some (([]:List Int),0,false)
 else
  if decide (r16.1 > 17) then
   some (([]:List Int),0,false)
  else
   Bx.l1 K x0 K r16.2.1 x2 (wr .i64 (r16.1-1)) (0:Int) ([]:List Int)
abbrev Cg.sg:Sig:=⟨[(.one,(.sl (.int .i64)))],[],[(.one,(.sl (.int .i64)))],[.o]⟩
def Cg (K:Nat) (x0:List Int):Option (List Int) :=
 if (([]:List Int).length+x0.length)*8≤140737488355328 then
 some (([]:List Int)++x0)
 else none
abbrev Cc.sg:Sig:=⟨[(.one,(.sl Cp)),(.one,(.sl (.int .i64)))],[],[(.one,(.sl (.int .i64))),(.one,.bool)],[.o]⟩
def Cc.l2 (K:Nat) (go_l1:Int→Int→Int→(List Int)→Option ((List Int) × Bool)) (t_11:Int) (t_12:Int) (x0:List Aj) (x1:List Int):Nat→Int→Int→(List Int)→Option ((List Int) × Bool)
 | 0,_,_,_=>none
 | k+1,t_13,t_14,t_15 =>
  if decide (t_14<t_13) then
   if (t_15.length+([t_14]:List Int).length)*8≤140737488355328 then
   Cc.l2 K go_l1 t_11 t_12 x0 x1 k t_13 (wr .i64 (t_14+1)) (t_15++([t_14]:List Int))
   else none
  else
   go_l1 t_13 t_11 (wr .i64 (t_12+1)) t_15
def Cc.l1 (K:Nat) (x0:List Aj) (x1:List Int):Nat→Int→Int→Int→(List Int)→Option ((List Int) × Bool)
 | 0,_,_,_,_=>none
 | k+1,t_10,t_11,t_12,t_16 =>
  if decide (t_12<t_11) then
   if (0:Int)≤t_12∧t_12<((x0.length:Nat):Int) then
   if decide (((nth x0 t_12).Len)<3) then
    some (([]:List Int),false)
   else
    if decide (((nth x0 t_12).Len) > 16) then
     some (([]:List Int),false)
    else
     if decide (((nth x0 t_12).At)≤t_10) then
      some (([]:List Int),false)
     else
      (Ds K ((nth x0 t_12).At)).bind fun r36 =>
      if (!r36) then
       some (([]:List Int),false)
      else
       (Ds K (wr .i64 ((wr .i64 (((nth x0 t_12).At)+((nth x0 t_12).Len)))-1))).bind fun r46 =>
       if (!r46) then
        some (([]:List Int),false)
       else
        Cc.l2 K (Cc.l1 K x0 x1 k) t_11 t_12 x0 x1 K (wr .i64 (((nth x0 t_12).At)+((nth x0 t_12).Len))) ((nth x0 t_12).At) t_16
   else none
  else
   if t_16.length<4611686018427387904 then
   (Da K x1).bind fun r70 =>
   if r70 then
    (Da K (sortF t_16)).bind fun r73 =>
    some (sortF t_16,r73)
   else
    some (sortF t_16,false)
   else none
def Cc (K:Nat) (x0:List Aj) (x1:List Int):Option ((List Int) × Bool) :=
 (Cg K x1).bind fun r12 =>
 Cc.l1 K x0 x1 K ((-1):Int) ((x0.length:Nat):Int) (0:Int) r12
abbrev Ar.sg:Sig:=⟨[(.one,(.sl Cp)),(.one,(.sl Cp))],[],[(.one,.bool)],[]⟩
def Ar.l1 (K:Nat) (x0:List Aj) (x1:List Aj):Nat→Int→Int→Option Bool
 | 0,_,_=>none
 | k+1,t_10,t_11 =>
  if decide (t_11<t_10) then
   if (0:Int)≤t_11∧t_11<((x0.length:Nat):Int) then
   if (0:Int)≤t_11∧t_11<((x1.length:Nat):Int) then
   if (!((((nth x0 t_11).At) == ((nth x1 t_11).At)) && ((((nth x0 t_11).Len) == ((nth x1 t_11).Len)) && true))) then
    some false
   else
    Ar.l1 K x0 x1 k t_10 (wr .i64 (t_11+1))
   else none
   else none
  else
   some true
def Ar (K:Nat) (x0:List Aj) (x1:List Aj):Option Bool :=
 if (((x0.length:Nat):Int) != ((x1.length:Nat):Int)) then
  some false
 else
  Ar.l1 K x0 x1 K ((x0.length:Nat):Int) (0:Int)
abbrev A8.sg:Sig:=⟨[(.one,(.sl (.int .i64))),(.one,(.sl (.int .i64)))],[],[(.one,.bool)],[]⟩
def A8.l1 (K:Nat) (x0:List Int) (x1:List Int):Nat→Int→Int→Option Bool
 | 0,_,_=>none
 | k+1,t_10,t_11 =>
  if decide (t_11<t_10) then
   if (0:Int)≤t_11∧t_11<((x0.length:Nat):Int) then
   if (0:Int)≤t_11∧t_11<((x1.length:Nat):Int) then
   if ((nth x0 t_11) != (nth x1 t_11)) then
    some false
   else
    A8.l1 K x0 x1 k t_10 (wr .i64 (t_11+1))
   else none
   else none
  else
   some true
def A8 (K:Nat) (x0:List Int) (x1:List Int):Option Bool :=
 if (((x0.length:Nat):Int) != ((x1.length:Nat):Int)) then
  some false
 else
  A8.l1 K x0 x1 K ((x0.length:Nat):Int) (0:Int)
abbrev Dz.sg:Sig:=⟨[(.agg,Cz),(.one,(.int .i64)),(.one,(.int .i64))],[],[(.one,(.sl (.int .i64))),(.one,(.int .i64)),(.one,.bool)],[.o]⟩
def Dz (K:Nat) (x0:Ao) (x1:Int) (x2:Int):Option ((List Int) × Int × Bool) :=
 (B0 K x0 x1 x2).bind fun r17 =>
 if (!r17.2.2) then
  some (([]:List Int),0,false)
 else
  (Bx K x0 r17.2.1 x2).bind fun r27 =>
  if (!r27.2.2) then
   some (([]:List Int),0,false)
  else
   (Cc K r17.1 r27.1).bind fun r36 =>
   if (!r36.2) then
    some (([]:List Int),0,false)
   else
    (B5 K r36.1).bind fun r43 =>
    (Ar K r43.1 r17.1).bind fun r50 =>
    if r50 then
     (A8 K r43.2 r27.1).bind fun r54 =>
     some (r36.1,r27.2.1,r54)
    else
     some (r36.1,r27.2.1,false)
abbrev Dx.sg:Sig:=⟨[(.one,(.int .i64)),(.one,(.int .i64)),(.box,Cz)],[],[(.one,(.sl (.int .i64))),(.one,(.int .i64)),(.one,.bool)],[.o]⟩
def Dx (K:Nat) (x0:Int) (x1:Int) (x2:Ao):Option ((List Int) × Int × Bool × Ao) :=
 (Dz K x2 x0 x1).bind fun r11 =>
 some (r11.1,r11.2.1,r11.2.2,x2)
abbrev Dp.sg:Sig:=⟨[(.one,(.int .i64))],[],[(.agg,A5)],[.s,.o]⟩
def Dp (K:Nat) (x0:Int):Option Aa :=
 if x0=x0∧(0:Int)≤x0∧(24:Int)*x0≤281474976710656∧x0≤9223372036854775807 then
 some ((x0,List.replicate x0.toNat ([]:List Int)):Aa)
 else none
abbrev Av.sg:Sig:=⟨[(.one,(.int .i64)),(.one,(.int .i64)),(.one,(.int .i64)),(.fn 140 1,.un),(.hid,Cz)],[],[(.agg,A5),(.one,(.int .i64)),(.one,.bool)],[.s,.o]⟩
def Av.l1 (K:Nat) (r17:Aa) (x1:Int):Nat→Int→Int→ByteArray→Int→Int→(List (List Int))→Option (Aa × Int × Bool × Ao)
 | 0,_,_,_,_,_,_=>none
 | k+1,at_14,t_11,h_12,h_13,t_10,g_15 =>
  if decide (t_11<x1) then
   (Dx K at_14 t_11 ((h_12,h_13):Ao)).bind fun r26 =>
   if (!r26.2.2.1) then
    some (((0,([]:List (List Int))):Aa),0,false,r26.2.2.2)
   else
    if (0:Int)≤t_11∧t_11<((g_15.length:Nat):Int) then
    Av.l1 K r17 x1 k r26.2.1 (wr .i64 (t_11+1)) r26.2.2.2.Data r26.2.2.2.N t_10 ((g_15).set t_11.toNat r26.1)
    else none
  else
   (C0 K ((r17.N,g_15):Aa)).bind fun r43 =>
   some (((r17.N,g_15):Aa),at_14,r43,((h_12,h_13):Ao))
def Av (K:Nat) (x0:Int) (x1:Int) (x2:Int) (x4:Ao):Option (Aa × Int × Bool × Ao) :=
 (Dp K x0).bind fun r17 =>
 Av.l1 K r17 x1 K x2 (0:Int) x4.Data x4.N (0:Int) r17.Out
abbrev D5.sg:Sig:=⟨[(.agg,Cz)],[],[(.agg,A5),(.one,.bool)],[.s,.o]⟩
def D5 (K:Nat) (x0:Ao):Option (Aa × Bool) :=
 (Du K x0).bind fun r11 =>
 if (!r11.2.2) then
  some (((0,([]:List (List Int))):Aa),false)
 else
  (Av K r11.1 r11.1 r11.2.1 x0).bind fun r23 =>
  if r23.2.2.1 then
   some (r23.1,(r23.2.1 == r23.2.2.2.N))
  else
   some (r23.1,false)
abbrev Ea.sg:Sig:=⟨[(.agg,A5),(.one,(.int .i64))],[],[(.one,.bool)],[]⟩
def Ea (K:Nat) (x0:Aa) (x1:Int):Option Bool :=
 if decide (x1≥0) then
  some (decide (x1<x0.N))
 else
  some false
abbrev D1.sg:Sig:=⟨[(.agg,A5),(.one,(.int .i64))],[],[(.one,(.sl (.int .i64)))],[]⟩
def D1 (K:Nat) (x0:Aa) (x1:Int):Option (List Int) :=
 (Ea K x0 x1).bind fun r7 =>
 if (!r7) then
  some ([]:List Int)
 else
  if (0:Int)≤x1∧x1<((x0.Out.length:Nat):Int) then
  some (nth x0.Out x1)
  else none
abbrev Bb.sg:Sig:=⟨[(.one,(.sl (.int .i64))),(.one,(.int .i64))],[],[(.one,(.int .i64))],[]⟩
def Bb.l1 (K:Nat) (x0:List Int) (x1:Int):Nat→Int→Int→Option Int
 | 0,_,_=>none
 | k+1,t_10,t_11 =>
  if decide (t_11<t_10) then
   if (0:Int)≤t_11∧t_11<((x0.length:Nat):Int) then
   if (x1 == (nth x0 t_11)) then
    some t_11
   else
    Bb.l1 K x0 x1 k t_10 (wr .i64 (t_11+1))
   else none
  else
   some ((-1):Int)
def Bb (K:Nat) (x0:List Int) (x1:Int):Option Int :=
 Bb.l1 K x0 x1 K ((x0.length:Nat):Int) (0:Int)
abbrev B4.sg:Sig:=⟨[(.one,(.sl (.int .i64))),(.one,(.int .i64))],[],[(.one,.bool)],[]⟩
def B4 (K:Nat) (x0:List Int) (x1:Int):Option Bool :=
 (Bb K x0 x1).bind fun r7 =>
 some (decide (r7≥0))
abbrev Br.sg:Sig:=⟨[(.one,(.sl (.int .i64))),(.one,(.sl (.int .i64)))],[],[(.one,(.sl (.int .i64))),(.one,(.sl (.int .i64)))],[.o,.o]⟩
def Br.l2 (K:Nat) (x0:List Int) (x1:List Int):Nat→Int→Int→(List Int)→(List Int)→Option ((List Int) × (List Int))
 | 0,_,_,_,_=>none
 | k+1,t_13,t_14,blocks_18,rest_17 =>
  if decide (t_14<t_13) then
   if (0:Int)≤t_14∧t_14<((x1.length:Nat):Int) then
   (B4 K x0 (nth x1 t_14)).bind fun r40 =>
   if (!r40) then
    if (rest_17.length+([nth x1 t_14]:List Int).length)*8≤140737488355328 then
    Br.l2 K x0 x1 k t_13 (wr .i64 (t_14+1)) blocks_18 (rest_17++([nth x1 t_14]:List Int))
    else none
   else
    Br.l2 K x0 x1 k t_13 (wr .i64 (t_14+1)) blocks_18 rest_17
   else none
  else
   some (blocks_18,rest_17)
def Br.l1 (K:Nat) (x0:List Int) (x1:List Int):Nat→Bool→Int→Int→Int→(List Int)→Option ((List Int) × (List Int))
 | 0,_,_,_,_,_=>none
 | k+1,in_16,many_10,t_11,t_12,blocks_15 =>
  if decide (t_12<t_11) then
   if (0:Int)≤t_12∧t_12<((x0.length:Nat):Int) then
   (B4 K x1 (nth x0 t_12)).bind fun r20 =>
   if (!(r20 == in_16)) then
    if (blocks_15.length+([many_10]:List Int).length)*8≤140737488355328 then
    Br.l1 K x0 x1 k (!in_16) (wr .i64 ((0:Int)+1)) t_11 (wr .i64 (t_12+1)) (blocks_15++([many_10]:List Int))
    else none
   else
    Br.l1 K x0 x1 k in_16 (wr .i64 (many_10+1)) t_11 (wr .i64 (t_12+1)) blocks_15
   else none
  else
   Br.l2 K x0 x1 K ((x1.length:Nat):Int) (0:Int) blocks_15 ([]:List Int)
def Br (K:Nat) (x0:List Int) (x1:List Int):Option ((List Int) × (List Int)) :=
 Br.l1 K x0 x1 K true (0:Int) ((x0.length:Nat):Int) (0:Int) ([]:List Int)
abbrev Bd.sg:Sig:=⟨[(.one,(.sl (.int .i64))),(.one,(.sl (.int .i64))),(.one,(.sl (.int .i64)))],[],[(.one,(.sl (.int .i64))),(.one,.bool)],[.o]⟩
def Bd.j3 (K:Nat) (x0:List Int) (x1:List Int) (x2:List Int) (t_14:List Int):Option ((List Int) × Bool) :=
 if t_14.length<4611686018427387904 then
 (Da K (sortF t_14)).bind fun r51 =>
 if (!r51) then
  some (([]:List Int),false)
 else
  (Br K x0 (sortF t_14)).bind fun r56 =>
  (A8 K r56.1 x1).bind fun r62 =>
  if r62 then
   (A8 K r56.2 x2).bind fun r66 =>
   some (sortF t_14,r66)
  else
   some (sortF t_14,false)
 else none
def Bd.j2 (K:Nat) (go_l1:(List Int)→Bool→Int→Int→(List Int)→Option ((List Int) × Bool)) (t_10:Int) (t_11:Int) (t_16:List Int) (t_17:Bool) (x0:List Int) (x1:List Int) (x2:List Int) (t_13:Int) (t_12:List Int):Option ((List Int) × Bool) :=
 if (0:Int)≤t_13∧t_13≤((t_16.length:Nat):Int)∧((t_16.length:Nat):Int)≤((t_16.length:Nat):Int) then
 go_l1 (((t_16).drop t_13.toNat).take (((t_16.length:Nat):Int).toNat-t_13.toNat)) (!t_17) t_10 (wr .i64 (t_11+1)) t_12
 else none
def Bd.l1 (K:Nat) (x0:List Int) (x1:List Int) (x2:List Int):Nat→(List Int)→Bool→Int→Int→(List Int)→Option ((List Int) × Bool)
 | 0,_,_,_,_,_=>none
 | k+1,t_16,t_17,t_10,t_11,t_15 =>
  if decide (t_11<t_10) then
   if (0:Int)≤t_11∧t_11<((x1.length:Nat):Int) then
   if decide ((nth x1 t_11)<0) then
    some (([]:List Int),false)
   else
    if decide ((nth x1 t_11) > ((t_16.length:Nat):Int)) then
     some (([]:List Int),false)
    else
     if t_17 then
      if (0:Int)≤(0:Int)∧(0:Int)≤(nth x1 t_11)∧(nth x1 t_11)≤((t_16.length:Nat):Int) then
      if (t_15.length+(((t_16).drop (0:Int).toNat).take ((nth x1 t_11).toNat-(0:Int).toNat)).length)*8≤140737488355328 then
      Bd.j2 K (Bd.l1 K x0 x1 x2 k) t_10 t_11 t_16 t_17 x0 x1 x2 (nth x1 t_11) (t_15++(((t_16).drop (0:Int).toNat).take ((nth x1 t_11).toNat-(0:Int).toNat)))
      else none
      else none
     else
      Bd.j2 K (Bd.l1 K x0 x1 x2 k) t_10 t_11 t_16 t_17 x0 x1 x2 (nth x1 t_11) t_15
   else none
  else
   if t_17 then
    if (t_15.length+t_16.length)*8≤140737488355328 then
    Bd.j3 K x0 x1 x2 (t_15++t_16)
    else none
   else
    Bd.j3 K x0 x1 x2 t_15
def Bd (K:Nat) (x0:List Int) (x1:List Int) (x2:List Int):Option ((List Int) × Bool) :=
 (Cg K x2).bind fun r16 =>
 Bd.l1 K x0 x1 x2 K x0 true ((x1.length:Nat):Int) (0:Int) r16
abbrev Cd.sg:Sig:=⟨[(.agg,Cz),(.one,(.int .i64)),(.one,(.int .i64)),(.one,(.sl (.int .i64)))],[],[(.one,(.sl (.int .i64))),(.one,(.int .i64)),(.one,.bool)],[.o]⟩
def Cd.l1 (K:Nat) (x0:Ao) (x2:Int) (x3:List Int):Nat→Int→Int→Int→(List Int)→Option ((List Int) × Int × Bool)
 | 0,_,_,_,_=>none
 | k+1,t_12,t_10,t_11,t_13 =>
  if decide (t_11<t_10) then
   (Cb K x0 t_12 2).bind fun r37 =>
   if (!r37.2.2) then
    some (([]:List Int),0,false)
   else
    if (t_11 == 0) then
     if (t_13.length+([wr .i64 (r37.1-1)]:List Int).length)*8≤140737488355328 then
     Cd.l1 K x0 x2 x3 k r37.2.1 t_10 (wr .i64 (t_11+1)) (t_13++([wr .i64 (r37.1-1)]:List Int))
     else none
    else
     if (t_13.length+([r37.1]:List Int).length)*8≤140737488355328 then
     Cd.l1 K x0 x2 x3 k r37.2.1 t_10 (wr .i64 (t_11+1)) (t_13++([r37.1]:List Int))
     else none
  else
   (Dz K x0 t_12 x2).bind fun r56 =>
   if (!r56.2.2) then
    some (([]:List Int),0,false)
   else
    (Bd K x3 t_13 r56.1).bind fun r66 =>
    some (r66.1,r56.2.1,r66.2)
def Cd (K:Nat) (x0:Ao) (x1:Int) (x2:Int) (x3:List Int):Option ((List Int) × Int × Bool) :=
 (Cb K x0 x1 2).bind fun r19 =>
 if (!r19.2.2) then
  some (([]:List Int),0,false)
 else
  if decide (r19.1 > 17) then
   some (([]:List Int),0,false)
  else
   Cd.l1 K x0 x2 x3 K r19.2.1 (wr .i64 (r19.1-1)) (0:Int) ([]:List Int)
abbrev Dy.sg:Sig:=⟨[(.one,(.int .i64)),(.one,(.int .i64)),(.box,Cz),(.box,A5)],[],[(.one,(.sl (.int .i64))),(.one,(.int .i64)),(.one,.bool)],[.o]⟩
def Dy (K:Nat) (x0:Int) (x1:Int) (x2:Ao) (x3:Aa):Option ((List Int) × Int × Bool × Ao × Aa) :=
 (D1 K x3 x1).bind fun r14 =>
 (Cd K x2 x0 x1 r14).bind fun r15 =>
 some (r15.1,r15.2.1,r15.2.2,x2,x3)
abbrev A4.sg:Sig:=⟨[(.one,(.int .i64)),(.one,(.int .i64)),(.one,(.int .i64)),(.fn 159 2,.un),(.hid,Cz),(.hid,A5)],[],[(.agg,A5),(.one,(.int .i64)),(.one,.bool)],[.s,.o]⟩
def A4.l1 (K:Nat) (r17:Aa) (x1:Int):Nat→Int→Int→ByteArray→Int→Int→(List (List Int))→Int→(List (List Int))→Option (Aa × Int × Bool × Ao × Aa)
 | 0,_,_,_,_,_,_,_,_=>none
 | k+1,at_16,t_11,h_12,h_13,h_14,h_15,t_10,g_17 =>
  if decide (t_11<x1) then
   (Dy K at_16 t_11 ((h_12,h_13):Ao) ((h_14,h_15):Aa)).bind fun r26 =>
   if (!r26.2.2.1) then
    some (((0,([]:List (List Int))):Aa),0,false,r26.2.2.2.1,r26.2.2.2.2)
   else
    if (0:Int)≤t_11∧t_11<((g_17.length:Nat):Int) then
    A4.l1 K r17 x1 k r26.2.1 (wr .i64 (t_11+1)) r26.2.2.2.1.Data r26.2.2.2.1.N r26.2.2.2.2.N r26.2.2.2.2.Out t_10 ((g_17).set t_11.toNat r26.1)
    else none
  else
   (C0 K ((r17.N,g_17):Aa)).bind fun r43 =>
   some (((r17.N,g_17):Aa),at_16,r43,((h_12,h_13):Ao),((h_14,h_15):Aa))
def A4 (K:Nat) (x0:Int) (x1:Int) (x2:Int) (x4:Ao) (x5:Aa):Option (Aa × Int × Bool × Ao × Aa) :=
 (Dp K x0).bind fun r17 =>
 A4.l1 K r17 x1 K x2 (0:Int) x4.Data x4.N x5.N x5.Out (0:Int) r17.Out
abbrev D6.sg:Sig:=⟨[(.agg,A5),(.agg,Cz)],[],[(.agg,A5),(.one,.bool)],[.s,.o]⟩
def D6 (K:Nat) (x0:Aa) (x1:Ao):Option (Aa × Bool) :=
 (Du K x1).bind fun r13 =>
 if (!r13.2.2) then
  some (((0,([]:List (List Int))):Aa),false)
 else
  (A4 K r13.1 r13.1 r13.2.1 x1 x0).bind fun r25 =>
  if r25.2.2.1 then
   some (r25.1,(r25.2.1 == r25.2.2.2.1.N))
  else
   some (r25.1,false)
abbrev Dl.sg:Sig:=⟨[(.one,(.sl Ba)),(.one,(.int .i64))],[],[(.agg,A5),(.one,(.int .i64))],[.s,.o]⟩
def Dl.l1 (K:Nat):List Ab→Int→Int→Int→(List (List Int))→Option (Aa × Int)
 | [],t_10,t_11,g_12,g_13 =>
  some (((g_12,g_13):Aa),0)
 | el_21::k,t_10,t_11,g_12,g_13 =>
  if (el_21.Base == 0) then
   (D5 K el_21.Data).bind fun r34 =>
   if (!r34.2) then
    some (((0,([]:List (List Int))):Aa),9)
   else
    Dl.l1 K k t_10 t_11 r34.1.N r34.1.Out
  else
   (D6 K ((g_12,g_13):Aa) el_21.Data).bind fun r41 =>
   if (!r41.2) then
    some (((0,([]:List (List Int))):Aa),9)
   else
    Dl.l1 K k t_10 t_11 r41.1.N r41.1.Out
def Dl (K:Nat) (x0:List Ab) (x1:Int):Option (Aa × Int) :=
 (D4 K x0 x1).bind fun r15 =>
 if (r15.2 != 0) then
  some (((0,([]:List (List Int))):Aa),r15.2)
 else
  (Db K x0 x1 3).bind fun r24 =>
  if r24.length<4611686018427387904 then
  Dl.l1 K (List.reverse r24) (0:Int) (0:Int) (0:Int) ([]:List (List Int))
  else none
abbrev C7.sg:Sig:=⟨[(.box,Ee),(.one,(.int .i64)),(.one,(.sl (.int .i64))),(.one,(.sl (.int .i64)))],[.o],[],[.o]⟩
def C7.l1 (K:Nat) (r15:(List Int) × (List Int)) (x1:Int):Nat→Int→Int→Int→(List Int)→Option B7
 | 0,_,_,_,_=>none
 | k+1,t_10,t_11,h_13,h_12 =>
  if decide (t_11<t_10) then
   if (0:Int)≤t_11∧t_11<((r15.1.length:Nat):Int) then
   if (t_11 == 0) then
    (Ck K ((h_12,h_13):B7) 2 (wr .i64 ((nth r15.1 t_11)+1))).bind fun r36 =>
    C7.l1 K r15 x1 k t_10 (wr .i64 (t_11+1)) r36.n r36.data
   else
    (Ck K ((h_12,h_13):B7) 2 (nth r15.1 t_11)).bind fun r36 =>
    C7.l1 K r15 x1 k t_10 (wr .i64 (t_11+1)) r36.n r36.data
   else none
  else
   (Cm K ((h_12,h_13):B7) x1 r15.2).bind fun r41 =>
   some r41
def C7 (K:Nat) (x0:B7) (x1:Int) (x2:List Int) (x3:List Int):Option B7 :=
 (Br K x2 x3).bind fun r15 =>
 (Ck K x0 2 (wr .i64 (((r15.1.length:Nat):Int)+1))).bind fun r22 =>
 C7.l1 K r15 x1 K ((r15.1.length:Nat):Int) (0:Int) r22.n r22.data
abbrev Cx.sg:Sig:=⟨[(.agg,A5),(.agg,A5)],[],[(.agg,Cz)],[]⟩
def Cx.l1 (K:Nat) (x0:Aa) (x1:Aa):Nat→Int→Int→ByteArray→Int→Int→(List Int)→Option Ao
 | 0,_,_,_,_,_,_=>none
 | k+1,t_12,t_13,t_10,t_11,r_15,r_14 =>
  if decide (t_13<t_12) then
   if (0:Int)≤t_13∧t_13<((x1.Out.length:Nat):Int) then
   (D1 K x0 t_13).bind fun r29 =>
   (C7 K ((r_14,r_15):B7) t_13 r29 (nth x1.Out t_13)).bind fun r31 =>
   Cx.l1 K x0 x1 k t_12 (wr .i64 (t_13+1)) t_10 t_11 r31.n r31.data
   else none
  else
   (C6 K ((r_14,r_15):B7)).bind fun r35 =>
   some r35.1
def Cx (K:Nat) (x0:Aa) (x1:Aa):Option Ao :=
 (Ck K ((([]:List Int),0):B7) 2 (wr .i64 (x1.N+1))).bind fun r16 =>
 Cx.l1 K x0 x1 K ((x1.Out.length:Nat):Int) (0:Int) ByteArray.empty (0:Int) r16.n r16.data
abbrev De.sg:Sig:=⟨[(.one,(.sl Ba)),(.one,(.int .i64)),(.agg,A5)],[],[(.agg,Ba),(.one,(.int .i64))],[]⟩
def De.j1 (K:Nat) (r24:Ao) (x0:List Ab) (x1:Int) (x2:Aa) (t_10:Int) (t_11:Int) (t_12:ByteArray) (t_13:Int) (t_14:Int) (t_15:Int):Option (Ab × Int) :=
 if decide (((x0.length:Nat):Int)≥12) then
  some (((0,0,((ByteArray.empty,0):Ao)):Ab),2)
 else
  if decide (t_14 > 1048576) then
   some (((0,0,((ByteArray.empty,0):Ao)):Ab),2)
  else
   if (x1 == 0) then
    some (((t_14,t_15,r24):Ab),0)
   else
    (Dl K x0 x1).bind fun r53 =>
    if (r53.2 != 0) then
     some (((0,0,((ByteArray.empty,0):Ao)):Ab),r53.2)
    else
     (D4 K x0 x1).bind fun r63 =>
     (Cx K r53.1 x2).bind fun r68 =>
     if decide (r63.1<3) then
      if decide (r68.N<r24.N) then
       some (((t_14,x1,r68):Ab),0)
      else
       some (((t_14,t_15,r24):Ab),0)
     else
      some (((t_14,t_15,r24):Ab),0)
def De (K:Nat) (x0:List Ab) (x1:Int) (x2:Aa):Option (Ab × Int) :=
 (C5 K x0).bind fun r15 =>
 if (!r15) then
  some (((0,0,((ByteArray.empty,0):Ao)):Ab),1)
 else
  (C0 K x2).bind fun r19 =>
  if (!r19) then
   some (((0,0,((ByteArray.empty,0):Ao)):Ab),1)
  else
   (D0 K x2).bind fun r24 =>
   if decide (((x0.length:Nat):Int) > 0) then
    if (0:Int)≤(wr .i64 (((x0.length:Nat):Int)-1))∧(wr .i64 (((x0.length:Nat):Int)-1))<((x0.length:Nat):Int) then
    De.j1 K r24 x0 x1 x2 (0:Int) (0:Int) ByteArray.empty (0:Int) (wr .i64 (((nth x0 (wr .i64 (((x0.length:Nat):Int)-1))).ID)+1)) (0:Int)
    else none
   else
    De.j1 K r24 x0 x1 x2 (0:Int) (0:Int) ByteArray.empty (0:Int) (1:Int) (0:Int)
abbrev Cr.sg:Sig:=⟨[(.one,(.int .i64))],[],[(.one,(.int .i64))],[]⟩
def Cr (K:Nat) (x0:Int):Option Int :=
 some x0
abbrev Bz.sg:Sig:=⟨[(.one,(.sl Ba))],[],[(.one,(.sl A5)),(.one,(.int .i64))],[.o1]⟩
def Bz.l1 (K:Nat) (x0:List Ab):Nat→Int→Int→(List Aa)→Option ((List Aa) × Int)
 | 0,_,_,_=>none
 | k+1,t_10,t_11,all_12 =>
  if decide (t_11<t_10) then
   if (0:Int)≤t_11∧t_11<((x0.length:Nat):Int) then
   (Dl K x0 ((nth x0 t_11).ID)).bind fun r22 =>
   if (r22.2 != 0) then
    some (([]:List Aa),r22.2)
   else
    if (all_12.length+([r22.1]:List Aa).length)*32≤140737488355328 then
    Bz.l1 K x0 k t_10 (wr .i64 (t_11+1)) (all_12++([r22.1]:List Aa))
    else none
   else none
  else
   some (all_12,0)
def Bz (K:Nat) (x0:List Ab):Option ((List Aa) × Int) :=
 (C5 K x0).bind fun r10 =>
 if (!r10) then
  some (([]:List Aa),1)
 else
  Bz.l1 K x0 K ((x0.length:Nat):Int) (0:Int) ([]:List Aa)
abbrev B8.sg:Sig:=⟨[(.one,(.sl Ba)),(.one,(.int .i64)),(.one,(.int .i64))],[],[(.one,(.sl (.int .i64))),(.one,(.int .i64))],[.o]⟩
def B8.j2 (K:Nat) (go_l1:Int→Int→(List Int)→Option ((List Int) × Int)) (ids_13:List Int) (r23:(List Aa) × Int) (t_10:Int) (t_11:Int) (x0:List Ab) (x1:Int) (x2:Int) (t_12:Bool):Option ((List Int) × Int) :=
 if t_12 then
  if (0:Int)≤t_11∧t_11<((x0.length:Nat):Int) then
  if (ids_13.length+([(nth x0 t_11).ID]:List Int).length)*8≤140737488355328 then
  go_l1 t_10 (wr .i64 (t_11+1)) (ids_13++([(nth x0 t_11).ID]:List Int))
  else none
  else none
 else
  go_l1 t_10 (wr .i64 (t_11+1)) ids_13
def B8.l1 (K:Nat) (r23:(List Aa) × Int) (x0:List Ab) (x1:Int) (x2:Int):Nat→Int→Int→(List Int)→Option ((List Int) × Int)
 | 0,_,_,_=>none
 | k+1,t_10,t_11,ids_13 =>
  if decide (t_11<t_10) then
   if (0:Int)≤t_11∧t_11<((r23.1.length:Nat):Int) then
   (Ea K (nth r23.1 t_11) x1).bind fun r38 =>
   if r38 then
    if (0:Int)≤x1∧x1<((((nth r23.1 t_11).Out).length:Nat):Int) then
    (B4 K (nth ((nth r23.1 t_11).Out) x1) x2).bind fun r46 =>
    B8.j2 K (B8.l1 K r23 x0 x1 x2 k) ids_13 r23 t_10 t_11 x0 x1 x2 r46
    else none
   else
    B8.j2 K (B8.l1 K r23 x0 x1 x2 k) ids_13 r23 t_10 t_11 x0 x1 x2 false
   else none
  else
   some (ids_13,0)
def B8 (K:Nat) (x0:List Ab) (x1:Int) (x2:Int):Option ((List Int) × Int) :=
 (Ds K x1).bind fun r14 =>
 if (!r14) then
  some (([]:List Int),1)
 else
  (Ds K x2).bind fun r18 =>
  if (!r18) then
   some (([]:List Int),1)
  else
   (Bz K x0).bind fun r23 =>
   if (r23.2 != 0) then
    some (([]:List Int),r23.2)
   else
    B8.l1 K r23 x0 x1 x2 K ((r23.1.length:Nat):Int) (0:Int) ([]:List Int)
abbrev Ci.sg:Sig:=⟨[(.one,(.int .i64)),(.one,(.int .i64))],[],[(.one,.bool)],[]⟩
def Ci (K:Nat) (x0:Int) (x1:Int):Option Bool :=
 if decide (x0≥0) then
  some (decide (x0≤x1))
 else
  some false
abbrev Bv.sg:Sig:=⟨[(.one,(.sl (.int .i64))),(.one,(.int .i64))],[],[(.one,(.int .i64))],[]⟩
def Bv.l1 (K:Nat) (x0:List Int) (x1:Int):Nat→Int→Option Int
 | 0,_=>none
 | k+1,i_10 =>
  if decide (i_10<((x0.length:Nat):Int)) then
   if (0:Int)≤i_10∧i_10<((x0.length:Nat):Int) then
   if ((nth x0 i_10) == x1) then
    some i_10
   else
    Bv.l1 K x0 x1 k (wr .i64 (i_10+1))
   else none
  else
   some ((-1):Int)
def Bv (K:Nat) (x0:List Int) (x1:Int):Option Int :=
 Bv.l1 K x0 x1 K (0:Int)
abbrev Dj.sg:Sig:=⟨[(.agg,A5),(.one,(.int .i64)),(.one,(.int .i64))],[],[(.one,.bool)],[]⟩
def Dj (K:Nat) (x0:Aa) (x1:Int) (x2:Int):Option Bool :=
 (Ci K x1 (wr .i64 (x0.N-1))).bind fun r11 =>
 if r11 then
  if (0:Int)≤x1∧x1<((x0.Out.length:Nat):Int) then
  (Bv K (nth x0.Out x1) x2).bind fun r19 =>
  some (decide (r19≥0))
  else none
 else
  some false
abbrev Az.sg:Sig:=⟨[(.one,(.sl (.int .i64))),(.one,(.sl (.int .i64)))],[],[(.one,.bool)],[]⟩
def Az.l1 (K:Nat) (x0:List Int) (x1:List Int):Nat→Int→Option Bool
 | 0,_=>none
 | k+1,i_10 =>
  if decide (i_10<((x0.length:Nat):Int)) then
   if (0:Int)≤i_10∧i_10<((x0.length:Nat):Int) then
   if (0:Int)≤i_10∧i_10<((x1.length:Nat):Int) then
   if ((nth x0 i_10) != (nth x1 i_10)) then
    some false
   else
    Az.l1 K x0 x1 k (wr .i64 (i_10+1))
   else none
   else none
  else
   some true
def Az (K:Nat) (x0:List Int) (x1:List Int):Option Bool :=
 if (((x0.length:Nat):Int) != ((x1.length:Nat):Int)) then
  some false
 else
  Az.l1 K x0 x1 K (0:Int)
abbrev B9.sg:Sig:=⟨[(.one,(.sl Ba))],[],[(.one,(.sl (.int .i64))),(.one,(.int .i64))],[.o]⟩
def B9.l2 (K:Nat) (go_l1:(List Aa)→Int→Int→(List Int)→Option ((List Int) × Int)) (r16:(List Aa) × Int) (t_10:Int) (t_11:Int) (x0:List Ab):Nat→(List Aa)→Int→Int→(List Aa)→Int→Int→(List Int)→Int→(List (List Int))→Option ((List Int) × Int)
 | 0,_,_,_,_,_,_,_,_,_=>none
 | k+1,all_20,id_14,least_21,t_15,t_16,t_17,best_22,g_12,g_13 =>
  if decide (t_17<t_16) then
   if (0:Int)≤t_17∧t_17<((t_15.length:Nat):Int) then
   (Cx K (nth t_15 t_17) ((g_12,g_13):Aa)).bind fun r43 =>
   if decide (r43.N<least_21) then
    if (0:Int)≤t_17∧t_17<((x0.length:Nat):Int) then
    B9.l2 K go_l1 r16 t_10 t_11 x0 k all_20 ((nth x0 t_17).ID) r43.N t_15 t_16 (wr .i64 (t_17+1)) best_22 g_12 g_13
    else none
   else
    B9.l2 K go_l1 r16 t_10 t_11 x0 k all_20 id_14 least_21 t_15 t_16 (wr .i64 (t_17+1)) best_22 g_12 g_13
   else none
  else
   if (best_22.length+([id_14]:List Int).length)*8≤140737488355328 then
   go_l1 all_20 t_10 (wr .i64 (t_11+1)) (best_22++([id_14]:List Int))
   else none
def B9.l1 (K:Nat) (r16:(List Aa) × Int) (x0:List Ab):Nat→(List Aa)→Int→Int→(List Int)→Option ((List Int) × Int)
 | 0,_,_,_,_=>none
 | k+1,all_18,t_10,t_11,best_19 =>
  if decide (t_11<t_10) then
   if (0:Int)≤t_11∧t_11<((r16.1.length:Nat):Int) then
   (D0 K (nth r16.1 t_11)).bind fun r30 =>
   if (0:Int)≤(0:Int)∧(0:Int)≤t_11∧t_11≤((all_18.length:Nat):Int) then
   B9.l2 K (B9.l1 K r16 x0 k) r16 t_10 t_11 x0 K all_18 (0:Int) r30.N (((all_18).drop (0:Int).toNat).take (t_11.toNat-(0:Int).toNat)) (((((all_18).drop (0:Int).toNat).take (t_11.toNat-(0:Int).toNat)).length:Nat):Int) (0:Int) best_19 ((nth r16.1 t_11).N) ((nth r16.1 t_11).Out)
   else none
   else none
  else
   some (best_19,0)
def B9 (K:Nat) (x0:List Ab):Option ((List Int) × Int) :=
 (Bz K x0).bind fun r16 =>
 if (r16.2 != 0) then
  some (([]:List Int),r16.2)
 else
  B9.l1 K r16 x0 K r16.1 ((r16.1.length:Nat):Int) (0:Int) ([]:List Int)
abbrev Aw.sg:Sig:=⟨[(.one,(.int .i64))],[],[(.one,(.int .i64))],[]⟩
def Aw.l1 (K:Nat):Nat→Int→Int→Option Int
 | 0,_,_=>none
 | k+1,n_11,k_10 =>
  if decide (n_11 > 1) then
   if (0:Int)≤1 then
   Aw.l1 K k (n_11.fdiv (2 ^ min ((1:Int)).toNat 64)) (wr .i64 (k_10+1))
   else none
  else
   some k_10
def Aw (K:Nat) (x0:Int):Option Int :=
 Aw.l1 K K x0 (0:Int)
abbrev Ak.sg:Sig:=⟨[(.one,(.sl (.int .u8))),(.one,(.int .i64)),(.one,(.int .i64))],[.o],[(.one,(.sl (.int .u8)))],[.o]⟩
def Ak.l1 (K:Nat) (x1:Int):Nat→Int→(List Int)→Option (List Int)
 | 0,_,_=>none
 | k+1,i_10,l_11 =>
  if decide (i_10≥0) then
   if (0:Int)≤i_10 then
   if (l_11.length+([wr .u8 (ib .and .i64 (x1.fdiv (2 ^ min (i_10).toNat 64)) 1)]:List Int).length)*1≤140737488355328 then
   Ak.l1 K x1 k (wr .i64 (i_10-1)) (l_11++([wr .u8 (ib .and .i64 (x1.fdiv (2 ^ min (i_10).toNat 64)) 1)]:List Int))
   else none
   else none
  else
   some l_11
def Ak (K:Nat) (x0:List Int) (x1:Int) (x2:Int):Option (List Int) :=
 Ak.l1 K x1 K (wr .i64 (x2-1)) x0
abbrev Ag.sg:Sig:=⟨[(.one,(.sl (.int .u8))),(.one,(.int .i64)),(.one,(.int .i64))],[.o],[(.one,(.sl (.int .u8)))],[.o]⟩
def Ag.j2 (K:Nat) (rec_:(List Int)→Int→Int→Option (List Int)) (x0:List Int) (x2:Int) (t_11:Int):Option (List Int) :=
 (Aw K x2).bind fun r56 =>
 if t_11≠0 then
 (Ak K x0 0 (wr .i64 (r56.tdiv t_11))).bind fun r61 =>
 (Ak K r61 1 1).bind fun r62 =>
 if (0:Int)≤(wr .i64 ((wr .i64 (r56.tdiv t_11))*t_11)) then
 if (0:Int)≤(wr .i64 ((wr .i64 ((wr .i64 (r56.tdiv t_11))+1))*t_11)) then
 if (0:Int)≤(wr .i64 ((wr .i64 (r56.tdiv t_11))*t_11)) then
 (Aw K (wr .i64 ((wr .i64 ((wr .i64 ((1:Int)*2 ^ min ((wr .i64 ((wr .i64 ((wr .i64 (r56.tdiv t_11))+1))*t_11))).toNat 64))-(wr .i64 ((1:Int)*2 ^ min ((wr .i64 ((wr .i64 (r56.tdiv t_11))*t_11))).toNat 64))))-1))).bind fun r81 =>
 if (0:Int)≤(wr .i64 (r81+1)) then
 if decide ((wr .i64 (x2-(wr .i64 ((1:Int)*2 ^ min ((wr .i64 ((wr .i64 (r56.tdiv t_11))*t_11))).toNat 64))))<(wr .i64 ((wr .i64 ((1:Int)*2 ^ min ((wr .i64 (r81+1))).toNat 64))-(wr .i64 ((wr .i64 ((1:Int)*2 ^ min ((wr .i64 ((wr .i64 ((wr .i64 (r56.tdiv t_11))+1))*t_11))).toNat 64))-(wr .i64 ((1:Int)*2 ^ min ((wr .i64 ((wr .i64 (r56.tdiv t_11))*t_11))).toNat 64))))))) then
  (Ak K r62 (wr .i64 (x2-(wr .i64 ((1:Int)*2 ^ min ((wr .i64 ((wr .i64 (r56.tdiv t_11))*t_11))).toNat 64)))) (wr .i64 ((wr .i64 (r81+1))-1))).bind fun r93 =>
  some r93
 else
  if (0:Int)≤(wr .i64 (r81+1)) then
  (Ak K r62 (wr .i64 ((wr .i64 ((wr .i64 (x2-(wr .i64 ((1:Int)*2 ^ min ((wr .i64 ((wr .i64 (r56.tdiv t_11))*t_11))).toNat 64))))+(wr .i64 ((1:Int)*2 ^ min ((wr .i64 (r81+1))).toNat 64))))-(wr .i64 ((wr .i64 ((1:Int)*2 ^ min ((wr .i64 ((wr .i64 ((wr .i64 (r56.tdiv t_11))+1))*t_11))).toNat 64))-(wr .i64 ((1:Int)*2 ^ min ((wr .i64 ((wr .i64 (r56.tdiv t_11))*t_11))).toNat 64)))))) (wr .i64 (r81+1))).bind fun r102 =>
  some r102
  else none
 else none
 else none
 else none
 else none
 else none
def Ag.l1 (K:Nat) (rec_:(List Int)→Int→Int→Option (List Int)) (x2:Int):Nat→Int→(List Int)→Option (List Int)
 | 0,_,_=>none
 | k+1,t_10,t_12 =>
  if decide (t_10<x2) then
   if (t_12.length+([0]:List Int).length)*1≤140737488355328 then
   Ag.l1 K rec_ x2 k (wr .i64 (t_10+1)) (t_12++([0]:List Int))
   else none
  else
   if (t_12.length+([1]:List Int).length)*1≤140737488355328 then
   some (t_12++([1]:List Int))
   else none
def Ag:Nat→(List Int)→Int→Int→Option (List Int)
 | 0,_,_,_=>none
 | K+1,x0,x1,x2 =>
  if (x1 == 1) then
   Ag.l1 K (Ag K) x2 K (1:Int) x0
  else
   if (x1 == 2) then
    (Aw K x2).bind fun r31 =>
    (Ak K x0 0 r31).bind fun r32 =>
    (Aw K x2).bind fun r35 =>
    (Ak K r32 x2 (wr .i64 (r35+1))).bind fun r37 =>
    some r37
   else
    if (x1 == 3) then
     (Aw K x2).bind fun r42 =>
     ((Ag K) x0 2 (wr .i64 (r42+1))).bind fun r44 =>
     (Aw K x2).bind fun r47 =>
     if (0:Int)≤r47 then
     (Aw K x2).bind fun r51 =>
     (Ak K r44 (wr .i64 (x2-(wr .i64 ((1:Int)*2 ^ min (r47).toNat 64)))) r51).bind fun r52 =>
     some r52
     else none
    else
     if (x1 == 5) then
      Ag.j2 K (Ag K) x0 x2 (3:Int)
     else
      Ag.j2 K (Ag K) x0 x2 (2:Int)
abbrev As.sg:Sig:=⟨[(.one,(.sl (.int .i64)))],[],[(.one,(.sl Cp)),(.one,(.sl (.int .i64)))],[.o,.o]⟩
def As.l2 (K:Nat) (go_l1:Int→(List Aj)→(List Int)→Option ((List Aj) × (List Int))) (i_10:Int) (x0:List Int):Nat→Int→(List Aj)→(List Int)→Option ((List Aj) × (List Int))
 | 0,_,_,_=>none
 | k+1,k_11,r_14,rest_15 =>
  if decide (k_11<((x0.length:Nat):Int)) then
   if (0:Int)≤k_11∧k_11<((x0.length:Nat):Int) then
   if (0:Int)≤(wr .i64 (k_11-1))∧(wr .i64 (k_11-1))<((x0.length:Nat):Int) then
   if ((nth x0 k_11) == (wr .i64 ((nth x0 (wr .i64 (k_11-1)))+1))) then
    As.l2 K go_l1 i_10 x0 k (wr .i64 (k_11+1)) r_14 rest_15
   else
    if decide ((wr .i64 (k_11-i_10))≥3) then
     if (0:Int)≤i_10∧i_10<((x0.length:Nat):Int) then
     if (r_14.length+([((nth x0 i_10,wr .i64 (k_11-i_10)):Aj)]:List Aj).length)*16≤140737488355328 then
     go_l1 k_11 (r_14++([((nth x0 i_10,wr .i64 (k_11-i_10)):Aj)]:List Aj)) rest_15
     else none
     else none
    else
     if (0:Int)≤i_10∧i_10≤k_11∧k_11≤((x0.length:Nat):Int) then
     if (rest_15.length+(((x0).drop i_10.toNat).take (k_11.toNat-i_10.toNat)).length)*8≤140737488355328 then
     go_l1 k_11 r_14 (rest_15++(((x0).drop i_10.toNat).take (k_11.toNat-i_10.toNat)))
     else none
     else none
   else none
   else none
  else
   if decide ((wr .i64 (k_11-i_10))≥3) then
    if (0:Int)≤i_10∧i_10<((x0.length:Nat):Int) then
    if (r_14.length+([((nth x0 i_10,wr .i64 (k_11-i_10)):Aj)]:List Aj).length)*16≤140737488355328 then
    go_l1 k_11 (r_14++([((nth x0 i_10,wr .i64 (k_11-i_10)):Aj)]:List Aj)) rest_15
    else none
    else none
   else
    if (0:Int)≤i_10∧i_10≤k_11∧k_11≤((x0.length:Nat):Int) then
    if (rest_15.length+(((x0).drop i_10.toNat).take (k_11.toNat-i_10.toNat)).length)*8≤140737488355328 then
    go_l1 k_11 r_14 (rest_15++(((x0).drop i_10.toNat).take (k_11.toNat-i_10.toNat)))
    else none
    else none
def As.l1 (K:Nat) (x0:List Int):Nat→Int→(List Aj)→(List Int)→Option ((List Aj) × (List Int))
 | 0,_,_,_=>none
 | k+1,i_10,r_12,rest_13 =>
  if decide (i_10<((x0.length:Nat):Int)) then
   As.l2 K (As.l1 K x0 k) i_10 x0 K (wr .i64 (i_10+1)) r_12 rest_13
  else
   some (r_12,rest_13)
def As (K:Nat) (x0:List Int):Option ((List Aj) × (List Int)) :=
 As.l1 K x0 K (0:Int) ([]:List Aj) ([]:List Int)
abbrev Cs.sg:Sig:=⟨[(.one,(.int .i64))],[],[(.one,(.int .i64))],[]⟩
def Cs (K:Nat) (x0:Int):Option Int :=
 if decide (x0≥0) then
  some (wr .i64 (2*x0))
 else
  some (wr .i64 ((wr .i64 ((-2)*x0))-1))
abbrev Bk.sg:Sig:=⟨[(.one,(.sl (.int .u8))),(.one,(.int .i64)),(.one,(.sl (.int .i64)))],[.o],[(.one,(.sl (.int .u8)))],[.o]⟩
def Bk.l1 (K:Nat) (x1:Int) (x2:List Int):Nat→Int→(List Int)→Option (List Int)
 | 0,_,_=>none
 | k+1,i_10,b_11 =>
  if decide (i_10<((x2.length:Nat):Int)) then
   if (i_10 == 0) then
    if (0:Int)≤(0:Int)∧(0:Int)<((x2.length:Nat):Int) then
    (Cs K (wr .i64 ((nth x2 0)-x1))).bind fun r27 =>
    (Ag K b_11 2 (wr .i64 (r27+1))).bind fun r29 =>
    Bk.l1 K x1 x2 k (wr .i64 (i_10+1)) r29
    else none
   else
    if (0:Int)≤i_10∧i_10<((x2.length:Nat):Int) then
    if (0:Int)≤(wr .i64 (i_10-1))∧(wr .i64 (i_10-1))<((x2.length:Nat):Int) then
    (Ag K b_11 2 (wr .i64 ((nth x2 i_10)-(nth x2 (wr .i64 (i_10-1)))))).bind fun r41 =>
    Bk.l1 K x1 x2 k (wr .i64 (i_10+1)) r41
    else none
    else none
  else
   some b_11
def Bk (K:Nat) (x0:List Int) (x1:Int) (x2:List Int):Option (List Int) :=
 (Ag K x0 2 (wr .i64 (((x2.length:Nat):Int)+1))).bind fun r12 =>
 Bk.l1 K x1 x2 K (0:Int) r12
abbrev Au.sg:Sig:=⟨[(.one,(.sl (.int .u8))),(.one,(.int .i64)),(.one,(.sl (.int .i64)))],[.o],[(.one,(.sl (.int .u8)))],[.o]⟩
def Au.j2 (K:Nat) (go_l1:Int→(List Int)→Option (List Int)) (r12:(List Aj) × (List Int)) (t_10:Int) (x1:Int) (t_11:List Int):Option (List Int) :=
 if (0:Int)≤t_10∧t_10<((r12.1.length:Nat):Int) then
 (Ag K t_11 2 (wr .i64 ((wr .i64 (((nth r12.1 t_10).Len)-3))+1))).bind fun r67 =>
 go_l1 (wr .i64 (t_10+1)) r67
 else none
def Au.l1 (K:Nat) (r12:(List Aj) × (List Int)) (x1:Int):Nat→Int→(List Int)→Option (List Int)
 | 0,_,_=>none
 | k+1,t_10,t_12 =>
  if decide (t_10<((r12.1.length:Nat):Int)) then
   if (t_10 == 0) then
    if (0:Int)≤(0:Int)∧(0:Int)<((r12.1.length:Nat):Int) then
    (Cs K (wr .i64 (((nth r12.1 0).At)-x1))).bind fun r35 =>
    (Ag K t_12 2 (wr .i64 (r35+1))).bind fun r37 =>
    Au.j2 K (Au.l1 K r12 x1 k) r12 t_10 x1 r37
    else none
   else
    if (0:Int)≤t_10∧t_10<((r12.1.length:Nat):Int) then
    if (0:Int)≤(wr .i64 (t_10-1))∧(wr .i64 (t_10-1))<((r12.1.length:Nat):Int) then
    if (0:Int)≤(wr .i64 (t_10-1))∧(wr .i64 (t_10-1))<((r12.1.length:Nat):Int) then
    (Ag K t_12 2 (wr .i64 ((wr .i64 (((nth r12.1 t_10).At)-((nth r12.1 (wr .i64 (t_10-1))).At)))-((nth r12.1 (wr .i64 (t_10-1))).Len)))).bind fun r58 =>
    Au.j2 K (Au.l1 K r12 x1 k) r12 t_10 x1 r58
    else none
    else none
    else none
  else
   (Bk K t_12 x1 r12.2).bind fun r71 =>
   some r71
def Au (K:Nat) (x0:List Int) (x1:Int) (x2:List Int):Option (List Int) :=
 (As K x2).bind fun r12 =>
 (Ag K x0 2 (wr .i64 (((r12.1.length:Nat):Int)+1))).bind fun r19 =>
 Au.l1 K r12 x1 K (0:Int) r19
abbrev Al.sg:Sig:=⟨[(.one,(.sl (.int .u8))),(.one,(.int .i64)),(.one,(.int .i64))],[.n],[(.one,(.sl (.int .u8)))],[.o]⟩
def Al.j2 (K:Nat) (x2:Int) (t_11:Int):Option (List Int) :=
 (Aw K x2).bind fun r56 =>
 if t_11≠0 then
 (Ak K ([]:List Int) 0 (wr .i64 (r56.tdiv t_11))).bind fun r61 =>
 (Ak K r61 1 1).bind fun r62 =>
 if (0:Int)≤(wr .i64 ((wr .i64 (r56.tdiv t_11))*t_11)) then
 if (0:Int)≤(wr .i64 ((wr .i64 ((wr .i64 (r56.tdiv t_11))+1))*t_11)) then
 if (0:Int)≤(wr .i64 ((wr .i64 (r56.tdiv t_11))*t_11)) then
 (Aw K (wr .i64 ((wr .i64 ((wr .i64 ((1:Int)*2 ^ min ((wr .i64 ((wr .i64 ((wr .i64 (r56.tdiv t_11))+1))*t_11))).toNat 64))-(wr .i64 ((1:Int)*2 ^ min ((wr .i64 ((wr .i64 (r56.tdiv t_11))*t_11))).toNat 64))))-1))).bind fun r81 =>
 if (0:Int)≤(wr .i64 (r81+1)) then
 if decide ((wr .i64 (x2-(wr .i64 ((1:Int)*2 ^ min ((wr .i64 ((wr .i64 (r56.tdiv t_11))*t_11))).toNat 64))))<(wr .i64 ((wr .i64 ((1:Int)*2 ^ min ((wr .i64 (r81+1))).toNat 64))-(wr .i64 ((wr .i64 ((1:Int)*2 ^ min ((wr .i64 ((wr .i64 ((wr .i64 (r56.tdiv t_11))+1))*t_11))).toNat 64))-(wr .i64 ((1:Int)*2 ^ min ((wr .i64 ((wr .i64 (r56.tdiv t_11))*t_11))).toNat 64))))))) then
  (Ak K r62 (wr .i64 (x2-(wr .i64 ((1:Int)*2 ^ min ((wr .i64 ((wr .i64 (r56.tdiv t_11))*t_11))).toNat 64)))) (wr .i64 ((wr .i64 (r81+1))-1))).bind fun r93 =>
  some r93
 else
  if (0:Int)≤(wr .i64 (r81+1)) then
  (Ak K r62 (wr .i64 ((wr .i64 ((wr .i64 (x2-(wr .i64 ((1:Int)*2 ^ min ((wr .i64 ((wr .i64 (r56.tdiv t_11))*t_11))).toNat 64))))+(wr .i64 ((1:Int)*2 ^ min ((wr .i64 (r81+1))).toNat 64))))-(wr .i64 ((wr .i64 ((1:Int)*2 ^ min ((wr .i64 ((wr .i64 ((wr .i64 (r56.tdiv t_11))+1))*t_11))).toNat 64))-(wr .i64 ((1:Int)*2 ^ min ((wr .i64 ((wr .i64 (r56.tdiv t_11))*t_11))).toNat 64)))))) (wr .i64 (r81+1))).bind fun r102 =>
  some r102
  else none
 else none
 else none
 else none
 else none
 else none
def Al.l1 (K:Nat) (x2:Int):Nat→Int→(List Int)→Option (List Int)
 | 0,_,_=>none
 | k+1,t_10,t_12 =>
  if decide (t_10<x2) then
   if (t_12.length+([0]:List Int).length)*1≤140737488355328 then
   Al.l1 K x2 k (wr .i64 (t_10+1)) (t_12++([0]:List Int))
   else none
  else
   if (t_12.length+([1]:List Int).length)*1≤140737488355328 then
   some (t_12++([1]:List Int))
   else none
def Al (K:Nat) (x0:List Int) (x1:Int) (x2:Int):Option (List Int) :=
 if (x1 == 1) then
  Al.l1 K x2 K (1:Int) ([]:List Int)
 else
  if (x1 == 2) then
   (Aw K x2).bind fun r31 =>
   (Ak K ([]:List Int) 0 r31).bind fun r32 =>
   (Aw K x2).bind fun r35 =>
   (Ak K r32 x2 (wr .i64 (r35+1))).bind fun r37 =>
   some r37
  else
   if (x1 == 3) then
    (Aw K x2).bind fun r42 =>
    (Ag K ([]:List Int) 2 (wr .i64 (r42+1))).bind fun r44 =>
    (Aw K x2).bind fun r47 =>
    if (0:Int)≤r47 then
    (Aw K x2).bind fun r51 =>
    (Ak K r44 (wr .i64 (x2-(wr .i64 ((1:Int)*2 ^ min (r47).toNat 64)))) r51).bind fun r52 =>
    some r52
    else none
   else
    if (x1 == 5) then
     Al.j2 K x2 (3:Int)
    else
     Al.j2 K x2 (2:Int)
abbrev Bi.sg:Sig:=⟨[(.agg,A5)],[],[(.one,(.sl (.int .u8))),(.one,(.sl (.int .i64)))],[.o,.o]⟩
def Bi.l1 (K:Nat) (x0:Aa):Nat→Int→(List Int)→(List Int)→Option ((List Int) × (List Int))
 | 0,_,_,_=>none
 | k+1,v_10,b_11,at_12 =>
  if decide (v_10<x0.N) then
   if (at_12.length+([((b_11.length:Nat):Int)]:List Int).length)*8≤140737488355328 then
   if (0:Int)≤v_10∧v_10<((x0.Out.length:Nat):Int) then
   (Au K b_11 v_10 (nth x0.Out v_10)).bind fun r29 =>
   Bi.l1 K x0 k (wr .i64 (v_10+1)) r29 (at_12++([((b_11.length:Nat):Int)]:List Int))
   else none
   else none
  else
   some (b_11,at_12)
def Bi (K:Nat) (x0:Aa):Option ((List Int) × (List Int)) :=
 (Al K ([]:List Int) 2 (wr .i64 (x0.N+1))).bind fun r10 =>
 Bi.l1 K x0 K (0:Int) r10 ([]:List Int)
abbrev C1.sg:Sig:=⟨[(.agg,A5),(.one,(.int .i64))],[],[(.one,(.sl (.int .i64)))],[]⟩
def C1 (K:Nat) (x0:Aa) (x1:Int):Option (List Int) :=
 if decide (x1<x0.N) then
  if (0:Int)≤x1∧x1<((x0.Out.length:Nat):Int) then
  some (nth x0.Out x1)
  else none
 else
  some ([]:List Int)
abbrev Aq.sg:Sig:=⟨[(.one,(.sl (.int .i64))),(.one,(.sl (.int .i64)))],[],[(.one,(.sl (.int .i64))),(.one,(.sl (.int .i64)))],[.o,.o]⟩
def Aq.l2 (K:Nat) (x0:List Int) (x1:List Int):Nat→Int→(List Int)→(List Int)→Option ((List Int) × (List Int))
 | 0,_,_,_=>none
 | k+1,i_12,blocks_16,rest_15 =>
  if decide (i_12<((x1.length:Nat):Int)) then
   if (0:Int)≤i_12∧i_12<((x1.length:Nat):Int) then
   (Bv K x0 (nth x1 i_12)).bind fun r47 =>
   if decide (r47<0) then
    if (0:Int)≤i_12∧i_12<((x1.length:Nat):Int) then
    if (rest_15.length+([nth x1 i_12]:List Int).length)*8≤140737488355328 then
    Aq.l2 K x0 x1 k (wr .i64 (i_12+1)) blocks_16 (rest_15++([nth x1 i_12]:List Int))
    else none
    else none
   else
    Aq.l2 K x0 x1 k (wr .i64 (i_12+1)) blocks_16 rest_15
   else none
  else
   some (blocks_16,rest_15)
def Aq.l1 (K:Nat) (x0:List Int) (x1:List Int):Nat→Bool→Int→Int→(List Int)→Option ((List Int) × (List Int))
 | 0,_,_,_,_=>none
 | k+1,in_14,n_10,i_11,blocks_13 =>
  if decide (i_11<((x0.length:Nat):Int)) then
   if (0:Int)≤i_11∧i_11<((x0.length:Nat):Int) then
   (Bv K x1 (nth x0 i_11)).bind fun r24 =>
   if (!((decide (r24≥0)) == in_14)) then
    if (blocks_13.length+([n_10]:List Int).length)*8≤140737488355328 then
    Aq.l1 K x0 x1 k (decide (r24≥0)) (wr .i64 ((0:Int)+1)) (wr .i64 (i_11+1)) (blocks_13++([n_10]:List Int))
    else none
   else
    Aq.l1 K x0 x1 k in_14 (wr .i64 (n_10+1)) (wr .i64 (i_11+1)) blocks_13
   else none
  else
   Aq.l2 K x0 x1 K (0:Int) blocks_13 ([]:List Int)
def Aq (K:Nat) (x0:List Int) (x1:List Int):Option ((List Int) × (List Int)) :=
 Aq.l1 K x0 x1 K true (0:Int) (0:Int) ([]:List Int)
abbrev Bn.sg:Sig:=⟨[(.one,(.sl (.int .u8))),(.one,(.int .i64)),(.one,(.sl (.int .i64))),(.one,(.sl (.int .i64)))],[.o],[(.one,(.sl (.int .u8)))],[.o]⟩
def Bn.l1 (K:Nat) (r16:(List Int) × (List Int)) (x1:Int):Nat→Int→(List Int)→Option (List Int)
 | 0,_,_=>none
 | k+1,i_10,b_11 =>
  if decide (i_10<((r16.1.length:Nat):Int)) then
   if (0:Int)≤i_10∧i_10<((r16.1.length:Nat):Int) then
   if (i_10 == 0) then
    (Ag K b_11 2 (wr .i64 ((nth r16.1 i_10)+1))).bind fun r40 =>
    Bn.l1 K r16 x1 k (wr .i64 (i_10+1)) r40
   else
    (Ag K b_11 2 (nth r16.1 i_10)).bind fun r40 =>
    Bn.l1 K r16 x1 k (wr .i64 (i_10+1)) r40
   else none
  else
   (Au K b_11 x1 r16.2).bind fun r44 =>
   some r44
def Bn (K:Nat) (x0:List Int) (x1:Int) (x2:List Int) (x3:List Int):Option (List Int) :=
 (Aq K x2 x3).bind fun r16 =>
 (Ag K x0 2 (wr .i64 (((r16.1.length:Nat):Int)+1))).bind fun r23 =>
 Bn.l1 K r16 x1 K (0:Int) r23
abbrev Bj.sg:Sig:=⟨[(.agg,A5),(.agg,A5)],[],[(.one,(.sl (.int .u8)))],[.o]⟩
def Bj.l1 (K:Nat) (x0:Aa) (x1:Aa):Nat→Int→(List Int)→Option (List Int)
 | 0,_,_=>none
 | k+1,v_10,b_11 =>
  if decide (v_10<x1.N) then
   (C1 K x0 v_10).bind fun r21 =>
   if (0:Int)≤v_10∧v_10<((x1.Out.length:Nat):Int) then
   (Bn K b_11 v_10 r21 (nth x1.Out v_10)).bind fun r27 =>
   Bj.l1 K x0 x1 k (wr .i64 (v_10+1)) r27
   else none
  else
   some b_11
def Bj (K:Nat) (x0:Aa) (x1:Aa):Option (List Int) :=
 (Al K ([]:List Int) 2 (wr .i64 (x1.N+1))).bind fun r10 =>
 Bj.l1 K x0 x1 K (0:Int) r10
abbrev Cj.sg:Sig:=⟨[(.agg,A5),(.agg,A5)],[],[(.one,.bool)],[]⟩
def Cj (K:Nat) (x0:Aa) (x1:Aa):Option Bool :=
 (Bi K x1).bind fun r9 =>
 (Bj K x0 x1).bind fun r14 =>
 some (decide (((r14.length:Nat):Int)<((r9.1.length:Nat):Int)))
abbrev Eb:Type:=Int × Int
abbrev Eg:Ty:=(.pr (.int .i64) (.int .i64))
abbrev Eb.A (x:Eb):Int:=x.1
abbrev Eb.B (x:Eb):Int:=x.2
abbrev Cy.sg:Sig:=⟨[(.agg,A5)],[],[(.one,(.sl Eg))],[.o]⟩
def Cy.l2 (K:Nat) (go_l1:Int→Int→(List Eb)→Option (List Eb)) (t_10:Int) (t_11:Int) (x0:Aa):Nat→(List Int)→Int→Int→(List Eb)→Option (List Eb)
 | 0,_,_,_,_=>none
 | k+1,t_12,t_13,t_14,l_15 =>
  if decide (t_14<t_13) then
   if (0:Int)≤t_14∧t_14<((t_12.length:Nat):Int) then
   if (l_15.length+([((t_11,nth t_12 t_14):Eb)]:List Eb).length)*16≤140737488355328 then
   Cy.l2 K go_l1 t_10 t_11 x0 k t_12 t_13 (wr .i64 (t_14+1)) (l_15++([((t_11,nth t_12 t_14):Eb)]:List Eb))
   else none
   else none
  else
   go_l1 t_10 (wr .i64 (t_11+1)) l_15
def Cy.l1 (K:Nat) (x0:Aa):Nat→Int→Int→(List Eb)→Option (List Eb)
 | 0,_,_,_=>none
 | k+1,t_10,t_11,l_16 =>
  if decide (t_11<t_10) then
   if (0:Int)≤t_11∧t_11<((x0.Out.length:Nat):Int) then
   Cy.l2 K (Cy.l1 K x0 k) t_10 t_11 x0 K (nth x0.Out t_11) (((nth x0.Out t_11).length:Nat):Int) (0:Int) l_16
   else none
  else
   some l_16
def Cy (K:Nat) (x0:Aa):Option (List Eb) :=
 Cy.l1 K x0 K ((x0.Out.length:Nat):Int) (0:Int) ([]:List Eb)
abbrev Dh.sg:Sig:=⟨[(.one,(.sl Ba))],[],[(.one,(.sl (.int .i64))),(.one,(.int .i64))],[.o]⟩
def Dh.l1 (K:Nat) (r11:(List Aa) × Int):Nat→Int→Int→(List Int)→Option ((List Int) × Int)
 | 0,_,_,_=>none
 | k+1,t_10,t_11,n_12 =>
  if decide (t_11<t_10) then
   if (0:Int)≤t_11∧t_11<((r11.1.length:Nat):Int) then
   (Cy K (nth r11.1 t_11)).bind fun r25 =>
   if (n_12.length+([((r25.length:Nat):Int)]:List Int).length)*8≤140737488355328 then
   Dh.l1 K r11 k t_10 (wr .i64 (t_11+1)) (n_12++([((r25.length:Nat):Int)]:List Int))
   else none
   else none
  else
   some (n_12,0)
def Dh (K:Nat) (x0:List Ab):Option ((List Int) × Int) :=
 (Bz K x0).bind fun r11 =>
 if (r11.2 != 0) then
  some (([]:List Int),r11.2)
 else
  Dh.l1 K r11 K ((r11.1.length:Nat):Int) (0:Int) ([]:List Int)
abbrev Bw.sg:Sig:=⟨[(.one,(.sl Ba)),(.one,(.int .i64))],[],[(.one,(.int .i64))],[]⟩
def Bw.l1 (K:Nat) (x0:List Ab) (x1:Int):Nat→Int→Option Int
 | 0,_=>none
 | k+1,i_10 =>
  if decide (i_10<((x0.length:Nat):Int)) then
   if (0:Int)≤i_10∧i_10<((x0.length:Nat):Int) then
   if (((nth x0 i_10).ID) == x1) then
    some i_10
   else
    Bw.l1 K x0 x1 k (wr .i64 (i_10+1))
   else none
  else
   some ((-1):Int)
def Bw (K:Nat) (x0:List Ab) (x1:Int):Option Int :=
 Bw.l1 K x0 x1 K (0:Int)
abbrev Bl.sg:Sig:=⟨[(.one,(.sl Ba)),(.one,(.int .i64))],[],[(.one,(.int .i64)),(.one,(.int .i64))],[]⟩
def Bl.l1 (K:Nat) (x0:List Ab):Nat→Int→Int→Option (Int × Int)
 | 0,_,_=>none
 | k+1,id_11,n_10 =>
  if (id_11 != 0) then
   if decide ((wr .i64 (n_10+1)) > 3) then
    some (0,2)
   else
    (Bw K x0 id_11).bind fun r20 =>
    if (0:Int)≤r20∧r20<((x0.length:Nat):Int) then
    Bl.l1 K x0 k ((nth x0 r20).Base) (wr .i64 (n_10+1))
    else none
  else
   some (n_10,0)
def Bl (K:Nat) (x0:List Ab) (x1:Int):Option (Int × Int) :=
 (Bw K x0 x1).bind fun r9 =>
 if decide (r9<0) then
  some (0,3)
 else
  Bl.l1 K x0 K x1 (0:Int)
abbrev Df.sg:Sig:=⟨[(.agg,Cz),(.one,(.int .i64))],[],[(.one,(.int .i64))],[]⟩
def Df (K:Nat) (x0:Ao) (x1:Int):Option Int :=
 if (8:Int)≠0 then
 if (0:Int)≤(wr .i64 (x1.tdiv 8))∧(wr .i64 (x1.tdiv 8))<((x0.Data.size:Nat):Int) then
 if (8:Int)≠0 then
 if (0:Int)≤(wr .i64 (7-(x1.tmod 8))) then
 some (ib .and .i64 ((wr .i64 (bt x0.Data (wr .i64 (x1.tdiv 8)))).fdiv (2 ^ min ((wr .i64 (7-(x1.tmod 8)))).toNat 64)) 1)
 else none
 else none
 else none
 else none
abbrev B6.sg:Sig:=⟨[(.agg,Cz)],[],[(.one,(.sl (.int .u8)))],[.o]⟩
def B6.l1 (K:Nat) (x0:Ao):Nat→Int→(List Int)→Option (List Int)
 | 0,_,_=>none
 | k+1,i_10,l_11 =>
  if decide (i_10<x0.N) then
   (Df K x0 i_10).bind fun r14 =>
   if (l_11.length+([wr .u8 r14]:List Int).length)*1≤140737488355328 then
   B6.l1 K x0 k (wr .i64 (i_10+1)) (l_11++([wr .u8 r14]:List Int))
   else none
  else
   some l_11
def B6 (K:Nat) (x0:Ao):Option (List Int) :=
 B6.l1 K x0 K (0:Int) ([]:List Int)
abbrev Ay.sg:Sig:=⟨[(.one,(.sl (.int .u8))),(.one,(.int .i64))],[],[(.one,(.int .i64))],[]⟩
def Ay.l1 (K:Nat) (x0:List Int) (x1:Int):Nat→Int→Option Int
 | 0,_=>none
 | k+1,i_10 =>
  if decide (i_10<((x0.length:Nat):Int)) then
   if (0:Int)≤i_10∧i_10<((x0.length:Nat):Int) then
   if ((nth x0 i_10) == 1) then
    some (wr .i64 (i_10-x1))
   else
    Ay.l1 K x0 x1 k (wr .i64 (i_10+1))
   else none
  else
   some ((-1):Int)
def Ay (K:Nat) (x0:List Int) (x1:Int):Option Int :=
 Ay.l1 K x0 x1 K x1
abbrev A6.sg:Sig:=⟨[(.one,(.sl (.int .u8))),(.one,(.int .i64)),(.one,(.int .i64))],[],[(.one,(.int .i64))],[]⟩
def A6.l1 (K:Nat) (x0:List Int) (x1:Int) (x2:Int):Nat→Int→Int→Option Int
 | 0,_,_=>none
 | k+1,v_10,i_11 =>
  if decide (i_11<(wr .i64 (x1+x2))) then
   if (0:Int)≤i_11∧i_11<((x0.length:Nat):Int) then
   A6.l1 K x0 x1 x2 k (wr .i64 ((wr .i64 (2*v_10))+(wr .i64 (nth x0 i_11)))) (wr .i64 (i_11+1))
   else none
  else
   some v_10
def A6 (K:Nat) (x0:List Int) (x1:Int) (x2:Int):Option Int :=
 A6.l1 K x0 x1 x2 K (0:Int) x1
abbrev Ch.sg:Sig:=⟨[(.one,(.int .i64)),(.one,(.int .i64)),(.one,(.int .i64))],[],[(.one,.bool)],[]⟩
def Ch (K:Nat) (x0:Int) (x1:Int) (x2:Int):Option Bool :=
 if decide (x0≥x1) then
  some (decide (x0≤x2))
 else
  some false
abbrev Dc.sg:Sig:=⟨[(.one,(.int .i64)),(.one,(.int .i64))],[],[(.one,.bool)],[]⟩
def Dc (K:Nat) (x0:Int) (x1:Int):Option Bool :=
 if (x0 == 1) then
  (Ch K x1 1 1000).bind fun r8 =>
  some r8
 else
  (Ch K x0 2 5).bind fun r10 =>
  if r10 then
   (Ch K x1 1 1073741824).bind fun r13 =>
   some r13
  else
   some false
abbrev Ad.sg:Sig:=⟨[(.one,(.sl (.int .u8))),(.one,(.int .i64)),(.one,(.int .i64))],[],[(.one,(.int .i64)),(.one,(.int .i64))],[]⟩
def Ad.j1 (K:Nat) (rec_:(List Int)→Int→Int→Option (Int × Int)) (x2:Int) (t_14:Int) (t_15:Int):Option (Int × Int) :=
 (Dc K x2 t_14).bind fun r161 =>
 if (!r161) then
  some ((-1),0)
 else
  some (t_14,t_15)
def Ad.j3 (K:Nat) (rec_:(List Int)→Int→Int→Option (Int × Int)) (r19:Int) (t_11:Int) (x2:Int) (t_12:Int) (t_13:Int):Option (Int × Int) :=
 if (0:Int)≤(wr .i64 (r19*t_11)) then
 Ad.j1 K rec_ x2 (wr .i64 ((wr .i64 ((1:Int)*2 ^ min ((wr .i64 (r19*t_11))).toNat 64))+t_13)) t_12
 else none
def Ad.j2 (K:Nat) (rec_:(List Int)→Int→Int→Option (Int × Int)) (r19:Int) (x0:List Int) (x2:Int) (t_10:Int) (t_11:Int):Option (Int × Int) :=
 if decide (r19 > 15) then
  some ((-1),0)
 else
  if (0:Int)≤(wr .i64 ((wr .i64 (r19+1))*t_11)) then
  if (0:Int)≤(wr .i64 (r19*t_11)) then
  (Aw K (wr .i64 ((wr .i64 ((wr .i64 ((1:Int)*2 ^ min ((wr .i64 ((wr .i64 (r19+1))*t_11))).toNat 64))-(wr .i64 ((1:Int)*2 ^ min ((wr .i64 (r19*t_11))).toNat 64))))-1))).bind fun r43 =>
  if decide ((wr .i64 ((wr .i64 (t_10+(wr .i64 (r43+1))))-1)) > ((x0.length:Nat):Int)) then
   some ((-1),0)
  else
   (A6 K x0 t_10 (wr .i64 ((wr .i64 (r43+1))-1))).bind fun r56 =>
   if (0:Int)≤(wr .i64 (r43+1)) then
   if decide (r56≥(wr .i64 ((wr .i64 ((1:Int)*2 ^ min ((wr .i64 (r43+1))).toNat 64))-(wr .i64 ((wr .i64 ((1:Int)*2 ^ min ((wr .i64 ((wr .i64 (r19+1))*t_11))).toNat 64))-(wr .i64 ((1:Int)*2 ^ min ((wr .i64 (r19*t_11))).toNat 64))))))) then
    if decide ((wr .i64 ((wr .i64 ((wr .i64 (t_10+(wr .i64 (r43+1))))-1))+1)) > ((x0.length:Nat):Int)) then
     some ((-1),0)
    else
     if (0:Int)≤(wr .i64 ((wr .i64 (t_10+(wr .i64 (r43+1))))-1))∧(wr .i64 ((wr .i64 (t_10+(wr .i64 (r43+1))))-1))<((x0.length:Nat):Int) then
     if (0:Int)≤(wr .i64 (r43+1)) then
     Ad.j3 K rec_ r19 t_11 x2 (wr .i64 ((wr .i64 ((wr .i64 (t_10+(wr .i64 (r43+1))))-1))+1)) (wr .i64 ((wr .i64 ((wr .i64 (2*r56))+(wr .i64 (nth x0 (wr .i64 ((wr .i64 (t_10+(wr .i64 (r43+1))))-1))))))-(wr .i64 ((wr .i64 ((1:Int)*2 ^ min ((wr .i64 (r43+1))).toNat 64))-(wr .i64 ((wr .i64 ((1:Int)*2 ^ min ((wr .i64 ((wr .i64 (r19+1))*t_11))).toNat 64))-(wr .i64 ((1:Int)*2 ^ min ((wr .i64 (r19*t_11))).toNat 64))))))))
     else none
     else none
   else
    Ad.j3 K rec_ r19 t_11 x2 (wr .i64 ((wr .i64 (t_10+(wr .i64 (r43+1))))-1)) r56
   else none
  else none
  else none
def Ad:Nat→(List Int)→Int→Int→Option (Int × Int)
 | 0,_,_,_=>none
 | K+1,x0,x1,x2 =>
  (Ay K x0 x1).bind fun r19 =>
  if decide (r19<0) then
   some ((-1),0)
  else
   if (x2 == 1) then
    Ad.j1 K (Ad K) x2 (wr .i64 (r19+1)) (wr .i64 ((wr .i64 (x1+r19))+1))
   else
    if (x2 == 2) then
     if decide (r19 > 30) then
      some ((-1),0)
     else
      if decide ((wr .i64 ((wr .i64 (x1+(wr .i64 (2*r19))))+1)) > ((x0.length:Nat):Int)) then
       some ((-1),0)
      else
       (A6 K x0 (wr .i64 (x1+r19)) (wr .i64 (r19+1))).bind fun r117 =>
       Ad.j1 K (Ad K) x2 r117 (wr .i64 ((wr .i64 (x1+(wr .i64 (2*r19))))+1))
    else
     if (x2 == 3) then
      ((Ad K) x0 x1 2).bind fun r128 =>
      if decide (r128.1<1) then
       some ((-1),0)
      else
       if decide (r128.1 > 31) then
        some ((-1),0)
       else
        if decide ((wr .i64 ((wr .i64 (r128.2+r128.1))-1)) > ((x0.length:Nat):Int)) then
         some ((-1),0)
        else
         if (0:Int)≤(wr .i64 (r128.1-1)) then
         (A6 K x0 r128.2 (wr .i64 (r128.1-1))).bind fun r153 =>
         Ad.j1 K (Ad K) x2 (wr .i64 ((wr .i64 ((1:Int)*2 ^ min ((wr .i64 (r128.1-1))).toNat 64))+r153)) (wr .i64 ((wr .i64 (r128.2+r128.1))-1))
         else none
     else
      if (x2 == 5) then
       Ad.j2 K (Ad K) r19 x0 x2 (wr .i64 ((wr .i64 (x1+r19))+1)) (3:Int)
      else
       Ad.j2 K (Ad K) r19 x0 x2 (wr .i64 ((wr .i64 (x1+r19))+1)) (2:Int)
abbrev Cu.sg:Sig:=⟨[(.one,(.int .i64))],[],[(.agg,A5)],[.s,.o]⟩
def Cu (K:Nat) (x0:Int):Option Aa :=
 if x0=x0∧(0:Int)≤x0∧(24:Int)*x0≤281474976710656∧x0≤9223372036854775807 then
 some ((x0,List.replicate x0.toNat ([]:List Int)):Aa)
 else none
abbrev Cv.sg:Sig:=⟨[(.one,(.int .i64))],[],[(.one,(.int .i64))],[]⟩
def Cv (K:Nat) (x0:Int):Option Int :=
 if (2:Int)≠0 then
 if ((x0.tmod 2) == 0) then
  if (2:Int)≠0 then
  some (wr .i64 (x0.tdiv 2))
  else none
 else
  if (2:Int)≠0 then
  some (wr .i64 ((wr .i64 (0-(wr .i64 (x0+1)))).tdiv 2))
  else none
 else none
abbrev Co.sg:Sig:=⟨[(.one,(.int .i64))],[],[(.one,.bool)],[]⟩
def Co (K:Nat) (x0:Int):Option Bool :=
 (Ci K x0 15).bind fun r4 =>
 some r4
abbrev Bh.sg:Sig:=⟨[(.one,(.sl (.int .i64)))],[],[(.one,.bool)],[]⟩
def Bh.l1 (K:Nat) (x0:List Int):Nat→Int→Option Bool
 | 0,_=>none
 | k+1,i_10 =>
  if decide (i_10<((x0.length:Nat):Int)) then
   if decide (i_10≤16) then
    if (0:Int)≤i_10∧i_10<((x0.length:Nat):Int) then
    (Co K (nth x0 i_10)).bind fun r18 =>
    if (!r18) then
     some false
    else
     if decide (i_10 > 0) then
      if (0:Int)≤(wr .i64 (i_10-1))∧(wr .i64 (i_10-1))<((x0.length:Nat):Int) then
      if (0:Int)≤i_10∧i_10<((x0.length:Nat):Int) then
      if decide ((nth x0 (wr .i64 (i_10-1)))≥(nth x0 i_10)) then
       some false
      else
       Bh.l1 K x0 k (wr .i64 (i_10+1))
      else none
      else none
     else
      Bh.l1 K x0 k (wr .i64 (i_10+1))
    else none
   else
    some (decide (((x0.length:Nat):Int)≤16))
  else
   some (decide (((x0.length:Nat):Int)≤16))
def Bh (K:Nat) (x0:List Int):Option Bool :=
 Bh.l1 K x0 K (0:Int)
abbrev A9.sg:Sig:=⟨[(.one,(.sl (.int .u8))),(.one,(.int .i64)),(.one,(.int .i64))],[],[(.one,(.sl (.int .i64))),(.one,(.int .i64)),(.one,.bool)],[.o]⟩
def A9.l1 (K:Nat) (r18:Int × Int) (x0:List Int) (x2:Int):Nat→Int→Int→Int→(List Int)→Option ((List Int) × Int × Bool)
 | 0,_,_,_,_=>none
 | k+1,at_12,last_10,i_11,l_13 =>
  if decide (i_11<(wr .i64 (r18.1-1))) then
   (Ad K x0 at_12 2).bind fun r37 =>
   if decide (r37.1<1) then
    some (([]:List Int),0,false)
   else
    if (i_11 == 0) then
     (Cv K (wr .i64 (r37.1-1))).bind fun r48 =>
     if (l_13.length+([wr .i64 (x2+r48)]:List Int).length)*8≤140737488355328 then
     A9.l1 K r18 x0 x2 k r37.2 (wr .i64 (x2+r48)) (wr .i64 (i_11+1)) (l_13++([wr .i64 (x2+r48)]:List Int))
     else none
    else
     if (l_13.length+([wr .i64 (last_10+r37.1)]:List Int).length)*8≤140737488355328 then
     A9.l1 K r18 x0 x2 k r37.2 (wr .i64 (last_10+r37.1)) (wr .i64 (i_11+1)) (l_13++([wr .i64 (last_10+r37.1)]:List Int))
     else none
  else
   (Bh K l_13).bind fun r58 =>
   if (!r58) then
    some (([]:List Int),0,false)
   else
    some (l_13,at_12,true)
def A9 (K:Nat) (x0:List Int) (x1:Int) (x2:Int):Option ((List Int) × Int × Bool) :=
 (Ad K x0 x1 2).bind fun r18 =>
 if decide (r18.1<1) then
  some (([]:List Int),0,false)
 else
  if decide ((wr .i64 (r18.1-1)) > 16) then
   some (([]:List Int),0,false)
  else
   A9.l1 K r18 x0 x2 K r18.2 (0:Int) (0:Int) ([]:List Int)
abbrev Ai.sg:Sig:=⟨[(.one,(.sl Cp)),(.one,(.sl (.int .i64)))],[],[(.one,(.sl (.int .i64))),(.one,.bool)],[.o]⟩
def Ai.l4 (K:Nat):Nat→Int→(List Bool)→(List Int)→Option ((List Int) × Bool)
 | 0,_,_,_=>none
 | k+1,t_16,t_20,t_19 =>
  if decide (t_16<16) then
   if ((0:Int)≤t_16∧t_16<((t_20.length:Nat):Int))∧t_20.length=16 then
   if nth t_20 t_16 then
    if (t_19.length+([t_16]:List Int).length)*8≤140737488355328 then
    Ai.l4 K k (wr .i64 (t_16+1)) t_20 (t_19++([t_16]:List Int))
    else none
   else
    Ai.l4 K k (wr .i64 (t_16+1)) t_20 t_19
   else none
  else
   some (t_19,true)
def Ai.l3 (K:Nat) (x1:List Int):Nat→Int→(List Bool)→Option ((List Int) × Bool)
 | 0,_,_=>none
 | k+1,t_15,t_18 =>
  if decide (t_15<((x1.length:Nat):Int)) then
   if (0:Int)≤t_15∧t_15<((x1.length:Nat):Int) then
   if ((0:Int)≤(nth x1 t_15)∧(nth x1 t_15)<((t_18.length:Nat):Int))∧t_18.length=16 then
   if nth t_18 (nth x1 t_15) then
    some (([]:List Int),false)
   else
    if (0:Int)≤t_15∧t_15<((x1.length:Nat):Int) then
    if ((0:Int)≤(nth x1 t_15)∧(nth x1 t_15)<((t_18.length:Nat):Int))∧t_18.length=16 then
    Ai.l3 K x1 k (wr .i64 (t_15+1)) ((t_18).set (nth x1 t_15).toNat true)
    else none
    else none
   else none
   else none
  else
   Ai.l4 K K (0:Int) t_18 ([]:List Int)
def Ai.l2 (K:Nat) (go_l1:Int→(List Bool)→Option ((List Int) × Bool)) (t_11:Int) (x0:List Aj) (x1:List Int):Nat→Int→(List Bool)→Int→Int→Option ((List Int) × Bool)
 | 0,_,_,_,_=>none
 | k+1,t_14,t_17,t_12,t_13 =>
  if decide (t_14<t_13) then
   if ((0:Int)≤(wr .i64 (t_12+t_14))∧(wr .i64 (t_12+t_14))<((t_17.length:Nat):Int))∧t_17.length=16 then
   Ai.l2 K go_l1 t_11 x0 x1 k (wr .i64 (t_14+1)) ((t_17).set (wr .i64 (t_12+t_14)).toNat true) t_12 t_13
   else none
  else
   go_l1 (wr .i64 (t_11+1)) t_17
def Ai.l1 (K:Nat) (x0:List Aj) (x1:List Int):Nat→Int→(List Bool)→Option ((List Int) × Bool)
 | 0,_,_=>none
 | k+1,t_11,t_10 =>
  if decide (t_11<((x0.length:Nat):Int)) then
   if (0:Int)≤t_11∧t_11<((x0.length:Nat):Int) then
   (Co K ((nth x0 t_11).At)).bind fun r28 =>
   if (!r28) then
    some (([]:List Int),false)
   else
    if decide (((nth x0 t_11).Len)<3) then
     some (([]:List Int),false)
    else
     if decide (((nth x0 t_11).Len) > (wr .i64 (16-((nth x0 t_11).At)))) then
      some (([]:List Int),false)
     else
      if decide (t_11 > 0) then
       if (0:Int)≤(wr .i64 (t_11-1))∧(wr .i64 (t_11-1))<((x0.length:Nat):Int) then
       if (0:Int)≤(wr .i64 (t_11-1))∧(wr .i64 (t_11-1))<((x0.length:Nat):Int) then
       if decide (((nth x0 t_11).At)≤(wr .i64 (((nth x0 (wr .i64 (t_11-1))).At)+((nth x0 (wr .i64 (t_11-1))).Len)))) then
        some (([]:List Int),false)
       else
        Ai.l2 K (Ai.l1 K x0 x1 k) t_11 x0 x1 K (0:Int) t_10 ((nth x0 t_11).At) ((nth x0 t_11).Len)
       else none
       else none
      else
       Ai.l2 K (Ai.l1 K x0 x1 k) t_11 x0 x1 K (0:Int) t_10 ((nth x0 t_11).At) ((nth x0 t_11).Len)
   else none
  else
   Ai.l3 K x1 K (0:Int) t_10
def Ai (K:Nat) (x0:List Aj) (x1:List Int):Option ((List Int) × Bool) :=
 (Bh K x1).bind fun r14 =>
 if (!r14) then
  some (([]:List Int),false)
 else
  Ai.l1 K x0 x1 K (0:Int) (List.replicate 16 false)
abbrev Bu.sg:Sig:=⟨[(.one,(.sl (.int .u8))),(.one,(.int .i64)),(.one,(.sl (.int .u8)))],[],[(.one,.bool)],[]⟩
def Bu.l1 (K:Nat) (x0:List Int) (x1:Int) (x2:List Int):Nat→Int→Option Bool
 | 0,_=>none
 | k+1,i_10 =>
  if decide (i_10<((x2.length:Nat):Int)) then
   if decide ((wr .i64 (x1+i_10))≥((x0.length:Nat):Int)) then
    some false
   else
    if (0:Int)≤(wr .i64 (x1+i_10))∧(wr .i64 (x1+i_10))<((x0.length:Nat):Int) then
    if (0:Int)≤i_10∧i_10<((x2.length:Nat):Int) then
    if ((nth x0 (wr .i64 (x1+i_10))) != (nth x2 i_10)) then
     some false
    else
     Bu.l1 K x0 x1 x2 k (wr .i64 (i_10+1))
    else none
    else none
  else
   some true
def Bu (K:Nat) (x0:List Int) (x1:Int) (x2:List Int):Option Bool :=
 Bu.l1 K x0 x1 x2 K (0:Int)
abbrev Ap.sg:Sig:=⟨[(.one,(.sl (.int .u8))),(.one,(.int .i64)),(.one,(.sl (.int .i64)))],[.n],[(.one,(.sl (.int .u8)))],[.o]⟩
def Ap.j2 (K:Nat) (go_l1:Int→(List Int)→Option (List Int)) (r12:(List Aj) × (List Int)) (t_10:Int) (x1:Int) (t_11:List Int):Option (List Int) :=
 if (0:Int)≤t_10∧t_10<((r12.1.length:Nat):Int) then
 (Ag K t_11 2 (wr .i64 ((wr .i64 (((nth r12.1 t_10).Len)-3))+1))).bind fun r67 =>
 go_l1 (wr .i64 (t_10+1)) r67
 else none
def Ap.l1 (K:Nat) (r12:(List Aj) × (List Int)) (x1:Int):Nat→Int→(List Int)→Option (List Int)
 | 0,_,_=>none
 | k+1,t_10,t_12 =>
  if decide (t_10<((r12.1.length:Nat):Int)) then
   if (t_10 == 0) then
    if (0:Int)≤(0:Int)∧(0:Int)<((r12.1.length:Nat):Int) then
    (Cs K (wr .i64 (((nth r12.1 0).At)-x1))).bind fun r35 =>
    (Ag K t_12 2 (wr .i64 (r35+1))).bind fun r37 =>
    Ap.j2 K (Ap.l1 K r12 x1 k) r12 t_10 x1 r37
    else none
   else
    if (0:Int)≤t_10∧t_10<((r12.1.length:Nat):Int) then
    if (0:Int)≤(wr .i64 (t_10-1))∧(wr .i64 (t_10-1))<((r12.1.length:Nat):Int) then
    if (0:Int)≤(wr .i64 (t_10-1))∧(wr .i64 (t_10-1))<((r12.1.length:Nat):Int) then
    (Ag K t_12 2 (wr .i64 ((wr .i64 (((nth r12.1 t_10).At)-((nth r12.1 (wr .i64 (t_10-1))).At)))-((nth r12.1 (wr .i64 (t_10-1))).Len)))).bind fun r58 =>
    Ap.j2 K (Ap.l1 K r12 x1 k) r12 t_10 x1 r58
    else none
    else none
    else none
  else
   (Bk K t_12 x1 r12.2).bind fun r71 =>
   some r71
def Ap (K:Nat) (x0:List Int) (x1:Int) (x2:List Int):Option (List Int) :=
 (As K x2).bind fun r12 =>
 (Ag K ([]:List Int) 2 (wr .i64 (((r12.1.length:Nat):Int)+1))).bind fun r19 =>
 Ap.l1 K r12 x1 K (0:Int) r19
abbrev Am.sg:Sig:=⟨[(.one,(.sl (.int .u8))),(.one,(.int .i64)),(.one,(.int .i64))],[],[(.one,(.sl (.int .i64))),(.one,(.int .i64)),(.one,.bool)],[.o]⟩
def Am.j2 (K:Nat) (go_l1:Int→Int→Int→(List Aj)→Option ((List Int) × Int × Bool)) (r28:Int × Int) (r55:Int × Int) (t_11:Int) (t_15:List Aj) (x0:List Int) (x1:Int) (x2:Int) (t_12:Int) (t_13:Int):Option ((List Int) × Int × Bool) :=
 if (t_15.length+([((t_12,t_13):Aj)]:List Aj).length)*16≤140737488355328 then
 go_l1 r55.2 (wr .i64 (t_12+t_13)) (wr .i64 (t_11+1)) (t_15++([((t_12,t_13):Aj)]:List Aj))
 else none
def Am.l1 (K:Nat) (r28:Int × Int) (x0:List Int) (x1:Int) (x2:Int):Nat→Int→Int→Int→(List Aj)→Option ((List Int) × Int × Bool)
 | 0,_,_,_,_=>none
 | k+1,t_14,t_10,t_11,t_15 =>
  if decide (t_11<(wr .i64 (r28.1-1))) then
   (Ad K x0 t_14 2).bind fun r47 =>
   if decide (r47.1<1) then
    some (([]:List Int),0,false)
   else
    (Ad K x0 r47.2 2).bind fun r55 =>
    if decide (r55.1<1) then
     some (([]:List Int),0,false)
    else
     if decide (r55.1 > 16) then
      some (([]:List Int),0,false)
     else
      if (t_11 == 0) then
       (Cv K (wr .i64 (r47.1-1))).bind fun r77 =>
       Am.j2 K (Am.l1 K r28 x0 x1 x2 k) r28 r55 t_11 t_15 x0 x1 x2 (wr .i64 (x2+r77)) (wr .i64 ((wr .i64 (r55.1-1))+3))
      else
       Am.j2 K (Am.l1 K r28 x0 x1 x2 k) r28 r55 t_11 t_15 x0 x1 x2 (wr .i64 (t_10+r47.1)) (wr .i64 ((wr .i64 (r55.1-1))+3))
  else
   (A9 K x0 t_14 x2).bind fun r93 =>
   if (!r93.2.2) then
    some (([]:List Int),0,false)
   else
    (Ai K t_15 r93.1).bind fun r102 =>
    if (!r102.2) then
     some (([]:List Int),0,false)
    else
     if decide (((r102.1.length:Nat):Int) > 16) then
      some (([]:List Int),0,false)
     else
      (Ap K ([]:List Int) x2 r102.1).bind fun r114 =>
      if (((r114.length:Nat):Int) != (wr .i64 (r93.2.1-x1))) then
       some (([]:List Int),0,false)
      else
       (Bu K x0 x1 r114).bind fun r125 =>
       if (!r125) then
        some (([]:List Int),0,false)
       else
        some (r102.1,r93.2.1,true)
def Am (K:Nat) (x0:List Int) (x1:Int) (x2:Int):Option ((List Int) × Int × Bool) :=
 (Ad K x0 x1 2).bind fun r28 =>
 if decide (r28.1<1) then
  some (([]:List Int),0,false)
 else
  if decide ((wr .i64 (r28.1-1)) > 16) then
   some (([]:List Int),0,false)
  else
   Am.l1 K r28 x0 x1 x2 K r28.2 (0:Int) (0:Int) ([]:List Aj)
abbrev Bq.sg:Sig:=⟨[(.agg,A5)],[],[(.one,(.int .i64))],[]⟩
def Bq.l1 (K:Nat) (x0:Aa):Nat→Int→Int→Option Int
 | 0,_,_=>none
 | k+1,n_10,i_11 =>
  if decide (i_11<((x0.Out.length:Nat):Int)) then
   if (0:Int)≤i_11∧i_11<((x0.Out.length:Nat):Int) then
   Bq.l1 K x0 k (wr .i64 (n_10+(((nth x0.Out i_11).length:Nat):Int))) (wr .i64 (i_11+1))
   else none
  else
   some n_10
def Bq (K:Nat) (x0:Aa):Option Int :=
 Bq.l1 K x0 K (0:Int) (0:Int)
abbrev Bm.sg:Sig:=⟨[(.agg,A5)],[],[(.one,.bool)],[]⟩
def Bm.l1 (K:Nat) (x0:Aa):Nat→Int→Option Bool
 | 0,_=>none
 | k+1,i_10 =>
  if decide (i_10<x0.N) then
   if (0:Int)≤i_10∧i_10<((x0.Out.length:Nat):Int) then
   (Bh K (nth x0.Out i_10)).bind fun r27 =>
   if (!r27) then
    some false
   else
    if (0:Int)≤i_10∧i_10<((x0.Out.length:Nat):Int) then
    if decide ((((nth x0.Out i_10).length:Nat):Int) > 0) then
     if (0:Int)≤i_10∧i_10<((x0.Out.length:Nat):Int) then
     if (0:Int)≤i_10∧i_10<((x0.Out.length:Nat):Int) then
     if (0:Int)≤(wr .i64 ((((nth x0.Out i_10).length:Nat):Int)-1))∧(wr .i64 ((((nth x0.Out i_10).length:Nat):Int)-1))<(((nth x0.Out i_10).length:Nat):Int) then
     if decide ((nth (nth x0.Out i_10) (wr .i64 ((((nth x0.Out i_10).length:Nat):Int)-1)))≥x0.N) then
      some false
     else
      Bm.l1 K x0 k (wr .i64 (i_10+1))
     else none
     else none
     else none
    else
     Bm.l1 K x0 k (wr .i64 (i_10+1))
    else none
   else none
  else
   (Bq K x0).bind fun r58 =>
   some (decide (r58≤120))
def Bm (K:Nat) (x0:Aa):Option Bool :=
 (Ci K x0.N 16).bind fun r6 =>
 if (!r6) then
  some false
 else
  if (((x0.Out.length:Nat):Int) != x0.N) then
   some false
  else
   Bm.l1 K x0 K (0:Int)
abbrev Bf.sg:Sig:=⟨[(.one,(.sl (.int .u8)))],[],[(.agg,A5),(.one,.bool)],[.s,.o]⟩
def Bf.l1 (K:Nat) (r26:Aa) (x0:List Int):Nat→Int→Int→Int→(List (List Int))→Option (Aa × Bool)
 | 0,_,_,_,_=>none
 | k+1,at_12,v_11,t_10,g_13 =>
  if decide (v_11<r26.N) then
   (Am K x0 at_12 v_11).bind fun r37 =>
   if (!r37.2.2) then
    some (((0,([]:List (List Int))):Aa),false)
   else
    if (0:Int)≤v_11∧v_11<((g_13.length:Nat):Int) then
    Bf.l1 K r26 x0 k r37.2.1 (wr .i64 (v_11+1)) t_10 ((g_13).set v_11.toNat r37.1)
    else none
  else
   if (at_12 != ((x0.length:Nat):Int)) then
    some (((0,([]:List (List Int))):Aa),false)
   else
    (Bm K ((r26.N,g_13):Aa)).bind fun r56 =>
    if (!r56) then
     some (((0,([]:List (List Int))):Aa),false)
    else
     some (((r26.N,g_13):Aa),true)
def Bf (K:Nat) (x0:List Int):Option (Aa × Bool) :=
 (Ad K x0 0 2).bind fun r13 =>
 if decide (r13.1<1) then
  some (((0,([]:List (List Int))):Aa),false)
 else
  if decide ((wr .i64 (r13.1-1)) > 16) then
   some (((0,([]:List (List Int))):Aa),false)
  else
   (Cu K (wr .i64 (r13.1-1))).bind fun r26 =>
   Bf.l1 K r26 x0 K r13.2 (0:Int) (0:Int) r26.Out
abbrev Af.sg:Sig:=⟨[(.one,(.sl (.int .i64))),(.one,(.sl (.int .i64))),(.one,(.sl (.int .i64)))],[],[(.one,(.sl (.int .i64))),(.one,.bool)],[.o]⟩
def Af.l5 (K:Nat) (x0:List Int) (x1:List Int) (x2:List Int):Nat→Int→(List Bool)→(List Int)→Option ((List Int) × Bool)
 | 0,_,_,_=>none
 | k+1,t_16,t_20,t_19 =>
  if decide (t_16<16) then
   if ((0:Int)≤t_16∧t_16<((t_20.length:Nat):Int))∧t_20.length=16 then
   if nth t_20 t_16 then
    if (t_19.length+([t_16]:List Int).length)*8≤140737488355328 then
    Af.l5 K x0 x1 x2 k (wr .i64 (t_16+1)) t_20 (t_19++([t_16]:List Int))
    else none
   else
    Af.l5 K x0 x1 x2 k (wr .i64 (t_16+1)) t_20 t_19
   else none
  else
   (Aq K x0 t_19).bind fun r104 =>
   (Az K r104.1 x1).bind fun r110 =>
   if r110 then
    (Az K r104.2 x2).bind fun r114 =>
    some (t_19,r114)
   else
    some (t_19,false)
def Af.l4 (K:Nat) (x0:List Int) (x1:List Int) (x2:List Int):Nat→Int→(List Bool)→Option ((List Int) × Bool)
 | 0,_,_=>none
 | k+1,t_15,t_18 =>
  if decide (t_15<((x2.length:Nat):Int)) then
   if (0:Int)≤t_15∧t_15<((x2.length:Nat):Int) then
   if ((0:Int)≤(nth x2 t_15)∧(nth x2 t_15)<((t_18.length:Nat):Int))∧t_18.length=16 then
   Af.l4 K x0 x1 x2 k (wr .i64 (t_15+1)) ((t_18).set (nth x2 t_15).toNat true)
   else none
   else none
  else
   Af.l5 K x0 x1 x2 K (0:Int) t_18 ([]:List Int)
def Af.l3 (K:Nat) (go_l1:Int→Int→(List Bool)→Option ((List Int) × Bool)) (t_11:Int) (t_12:Int) (t_13:Int) (x0:List Int) (x1:List Int) (x2:List Int):Nat→Int→(List Bool)→Option ((List Int) × Bool)
 | 0,_,_=>none
 | k+1,t_14,t_17 =>
  if decide (t_14<t_13) then
   if (2:Int)≠0 then
   if ((t_12.tmod 2) == 0) then
    if (0:Int)≤(wr .i64 (t_11+t_14))∧(wr .i64 (t_11+t_14))<((x0.length:Nat):Int) then
    if ((0:Int)≤(nth x0 (wr .i64 (t_11+t_14)))∧(nth x0 (wr .i64 (t_11+t_14)))<((t_17.length:Nat):Int))∧t_17.length=16 then
    Af.l3 K go_l1 t_11 t_12 t_13 x0 x1 x2 k (wr .i64 (t_14+1)) ((t_17).set (nth x0 (wr .i64 (t_11+t_14))).toNat true)
    else none
    else none
   else
    go_l1 (wr .i64 (t_11+t_13)) (wr .i64 (t_12+1)) t_17
   else none
  else
   go_l1 (wr .i64 (t_11+t_13)) (wr .i64 (t_12+1)) t_17
def Af.j2 (K:Nat) (go_l1:Int→Int→(List Bool)→Option ((List Int) × Bool)) (t_10:List Bool) (t_11:Int) (t_12:Int) (x0:List Int) (x1:List Int) (x2:List Int) (t_13:Int):Option ((List Int) × Bool) :=
 if decide (t_13<0) then
  some (([]:List Int),false)
 else
  if decide (t_13 > (wr .i64 (((x0.length:Nat):Int)-t_11))) then
   some (([]:List Int),false)
  else
   Af.l3 K go_l1 t_11 t_12 t_13 x0 x1 x2 K (0:Int) t_10
def Af.l1 (K:Nat) (x0:List Int) (x1:List Int) (x2:List Int):Nat→Int→Int→(List Bool)→Option ((List Int) × Bool)
 | 0,_,_,_=>none
 | k+1,t_11,t_12,t_10 =>
  if decide (t_12≤((x1.length:Nat):Int)) then
   if decide (t_12<((x1.length:Nat):Int)) then
    if (0:Int)≤t_12∧t_12<((x1.length:Nat):Int) then
    Af.j2 K (Af.l1 K x0 x1 x2 k) t_10 t_11 t_12 x0 x1 x2 (nth x1 t_12)
    else none
   else
    Af.j2 K (Af.l1 K x0 x1 x2 k) t_10 t_11 t_12 x0 x1 x2 (wr .i64 (((x0.length:Nat):Int)-t_11))
  else
   Af.l4 K x0 x1 x2 K (0:Int) t_10
def Af (K:Nat) (x0:List Int) (x1:List Int) (x2:List Int):Option ((List Int) × Bool) :=
 (Bh K x0).bind fun r19 =>
 if (!r19) then
  some (([]:List Int),false)
 else
  (Bh K x2).bind fun r23 =>
  if (!r23) then
   some (([]:List Int),false)
  else
   if decide (((x1.length:Nat):Int) > 16) then
    some (([]:List Int),false)
   else
    Af.l1 K x0 x1 x2 K (0:Int) (0:Int) (List.replicate 16 false)
abbrev Bc.sg:Sig:=⟨[(.one,(.sl (.int .u8))),(.one,(.int .i64)),(.one,(.int .i64)),(.one,(.sl (.int .i64)))],[],[(.one,(.sl (.int .i64))),(.one,(.int .i64)),(.one,.bool)],[.o]⟩
def Bc.l1 (K:Nat) (r23:Int × Int) (x0:List Int) (x2:Int) (x3:List Int):Nat→Int→Int→(List Int)→Option ((List Int) × Int × Bool)
 | 0,_,_,_=>none
 | k+1,t_11,t_10,t_12 =>
  if decide (t_10<(wr .i64 (r23.1-1))) then
   (Ad K x0 t_11 2).bind fun r42 =>
   if decide (r42.1<1) then
    some (([]:List Int),0,false)
   else
    if decide (r42.1 > 17) then
     some (([]:List Int),0,false)
    else
     if (t_10 == 0) then
      if (t_12.length+([wr .i64 (r42.1-1)]:List Int).length)*8≤140737488355328 then
      Bc.l1 K r23 x0 x2 x3 k r42.2 (wr .i64 (t_10+1)) (t_12++([wr .i64 (r42.1-1)]:List Int))
      else none
     else
      if (t_12.length+([r42.1]:List Int).length)*8≤140737488355328 then
      Bc.l1 K r23 x0 x2 x3 k r42.2 (wr .i64 (t_10+1)) (t_12++([r42.1]:List Int))
      else none
  else
   (Am K x0 t_11 x2).bind fun r64 =>
   if (!r64.2.2) then
    some (([]:List Int),0,false)
   else
    (Af K x3 t_12 r64.1).bind fun r74 =>
    if (!r74.2) then
     some (([]:List Int),0,false)
    else
     some (r74.1,r64.2.1,true)
def Bc (K:Nat) (x0:List Int) (x1:Int) (x2:Int) (x3:List Int):Option ((List Int) × Int × Bool) :=
 (Ad K x0 x1 2).bind fun r23 =>
 if decide (r23.1<1) then
  some (([]:List Int),0,false)
 else
  if decide ((wr .i64 (r23.1-1)) > 16) then
   some (([]:List Int),0,false)
  else
   Bc.l1 K r23 x0 x2 x3 K r23.2 (0:Int) ([]:List Int)
abbrev Bg.sg:Sig:=⟨[(.agg,A5),(.one,(.sl (.int .u8)))],[],[(.agg,A5),(.one,.bool)],[.s,.o]⟩
def Bg.l1 (K:Nat) (r28:Aa) (x0:Aa) (x1:List Int):Nat→Int→Int→Int→(List (List Int))→Option (Aa × Bool)
 | 0,_,_,_,_=>none
 | k+1,t_12,t_11,t_10,t_13 =>
  if decide (t_11<r28.N) then
   (C1 K x0 t_11).bind fun r41 =>
   (Bc K x1 t_12 t_11 r41).bind fun r42 =>
   if (!r42.2.2) then
    some (((0,([]:List (List Int))):Aa),false)
   else
    if (0:Int)≤t_11∧t_11<((t_13.length:Nat):Int) then
    Bg.l1 K r28 x0 x1 k r42.2.1 (wr .i64 (t_11+1)) t_10 ((t_13).set t_11.toNat r42.1)
    else none
  else
   if (t_12 != ((x1.length:Nat):Int)) then
    some (((0,([]:List (List Int))):Aa),false)
   else
    (Bm K ((r28.N,t_13):Aa)).bind fun r61 =>
    if (!r61) then
     some (((0,([]:List (List Int))):Aa),false)
    else
     some (((r28.N,t_13):Aa),true)
def Bg (K:Nat) (x0:Aa) (x1:List Int):Option (Aa × Bool) :=
 (Ad K x1 0 2).bind fun r15 =>
 if decide (r15.1<1) then
  some (((0,([]:List (List Int))):Aa),false)
 else
  if decide ((wr .i64 (r15.1-1)) > 16) then
   some (((0,([]:List (List Int))):Aa),false)
  else
   (Cu K (wr .i64 (r15.1-1))).bind fun r28 =>
   Bg.l1 K r28 x0 x1 K r15.2 (0:Int) (0:Int) r28.Out
abbrev Ax.sg:Sig:=⟨[(.one,(.sl Ba)),(.one,(.int .i64))],[],[(.agg,A5),(.one,(.int .i64))],[.s,.o]⟩
def Ax.j1 (K:Nat) (rec_:(List Ab)→Int→Option (Aa × Int)) (ok_13:Bool) (t_10:Int) (g_11:Int) (g_12:List (List Int)):Option (Aa × Int) :=
 if (!ok_13) then
  some (((0,([]:List (List Int))):Aa),9)
 else
  some (((g_11,g_12):Aa),0)
def Ax:Nat→(List Ab)→Int→Option (Aa × Int)
 | 0,_,_=>none
 | K+1,x0,x1 =>
  (Bl K x0 x1).bind fun r17 =>
  if (r17.2 != 0) then
   some (((0,([]:List (List Int))):Aa),r17.2)
  else
   (Bw K x0 x1).bind fun r27 =>
   if (0:Int)≤r27∧r27<((x0.length:Nat):Int) then
   (B6 K ((nth x0 r27).Data)).bind fun r32 =>
   if (((nth x0 r27).Base) == 0) then
    (Bf K r32).bind fun r38 =>
    Ax.j1 K (Ax K) r38.2 (0:Int) r38.1.N r38.1.Out
   else
    ((Ax K) x0 ((nth x0 r27).Base)).bind fun r45 =>
    if (r45.2 != 0) then
     some (((0,([]:List (List Int))):Aa),r45.2)
    else
     (Bg K r45.1 r32).bind fun r55 =>
     Ax.j1 K (Ax K) r55.2 (0:Int) r55.1.N r55.1.Out
   else none
abbrev A0.sg:Sig:=⟨[(.one,(.sl (.int .u8)))],[],[(.agg,Cz)],[]⟩
def A0.l1 (K:Nat) (x0:List Int):Nat→Int→ByteArray→Int→(List Int)→Option Ao
 | 0,_,_,_,_=>none
 | k+1,i_13,t_10,t_11,x_12 =>
  if decide (i_13<((x0.length:Nat):Int)) then
   if (8:Int)≠0 then
   if (8:Int)≠0 then
   if (0:Int)≤(wr .i64 (i_13.tdiv 8))∧(wr .i64 (i_13.tdiv 8))<((x_12.length:Nat):Int) then
   if (0:Int)≤i_13∧i_13<((x0.length:Nat):Int) then
   if (8:Int)≠0 then
   if (0:Int)≤(wr .i64 (7-(i_13.tmod 8))) then
   if (0:Int)≤(wr .i64 (i_13.tdiv 8))∧(wr .i64 (i_13.tdiv 8))<((x_12.length:Nat):Int) then
   A0.l1 K x0 k (wr .i64 (i_13+1)) t_10 t_11 ((x_12).set (wr .i64 (i_13.tdiv 8)).toNat (ib .or .u8 (nth x_12 (wr .i64 (i_13.tdiv 8))) (wr .u8 ((nth x0 i_13)*2 ^ min ((wr .i64 (7-(i_13.tmod 8)))).toNat 8))))
   else none
   else none
   else none
   else none
   else none
   else none
   else none
  else
   some ((bytesOf x_12,((x0.length:Nat):Int)):Ao)
def A0 (K:Nat) (x0:List Int):Option Ao :=
 if (8:Int)≠0 then
 if (wr .i64 ((wr .i64 (((x0.length:Nat):Int)+7)).tdiv 8))=(wr .i64 ((wr .i64 (((x0.length:Nat):Int)+7)).tdiv 8))∧(0:Int)≤(wr .i64 ((wr .i64 (((x0.length:Nat):Int)+7)).tdiv 8))∧(1:Int)*(wr .i64 ((wr .i64 (((x0.length:Nat):Int)+7)).tdiv 8))≤281474976710656∧(wr .i64 ((wr .i64 (((x0.length:Nat):Int)+7)).tdiv 8))≤9223372036854775807 then
 A0.l1 K x0 K (0:Int) ByteArray.empty (0:Int) (List.replicate (wr .i64 ((wr .i64 (((x0.length:Nat):Int)+7)).tdiv 8)).toNat (0:Int))
 else none
 else none
abbrev Dm.sg:Sig:=⟨[(.one,(.sl Ba)),(.one,(.int .i64)),(.agg,A5)],[],[(.agg,Cz)],[]⟩
def Dm (K:Nat) (x0:List Ab) (x1:Int) (x2:Aa):Option Ao :=
 if (x1 == 0) then
  (Bi K x2).bind fun r15 =>
  (A0 K r15.1).bind fun r19 =>
  some r19
 else
  (Ax K x0 x1).bind fun r23 =>
  (Bj K r23.1 x2).bind fun r28 =>
  (A0 K r28).bind fun r29 =>
  some r29
abbrev Be.sg:Sig:=⟨[(.one,(.sl Ba)),(.one,(.int .i64)),(.agg,A5)],[],[(.agg,Ba),(.one,(.int .i64))],[]⟩
def Be.j2 (K:Nat) (t_14:Int) (x0:List Ab) (x2:Aa) (t_15:Int) (t_16:ByteArray) (t_17:Int):Option (Ab × Int) :=
 (Dm K x0 t_15 x2).bind fun r66 =>
 some (((t_14,t_15,r66):Ab),0)
def Be.j1 (K:Nat) (x0:List Ab) (x1:Int) (x2:Aa) (t_14:Int) (t_10:Int) (t_11:Int) (t_12:ByteArray) (t_13:Int):Option (Ab × Int) :=
 if decide (((x0.length:Nat):Int)≥12) then
  some (((0,0,((ByteArray.empty,0):Ao)):Ab),2)
 else
  if decide (t_14 > 1048576) then
   some (((0,0,((ByteArray.empty,0):Ao)):Ab),2)
  else
   if (x1 != 0) then
    (Ax K x0 x1).bind fun r40 =>
    if (r40.2 != 0) then
     some (((0,0,((ByteArray.empty,0):Ao)):Ab),r40.2)
    else
     (Bl K x0 x1).bind fun r50 =>
     if decide (r50.1<3) then
      (Cj K r40.1 x2).bind fun r58 =>
      if r58 then
       Be.j2 K t_14 x0 x2 x1 ByteArray.empty (0:Int)
      else
       Be.j2 K t_14 x0 x2 (0:Int) ByteArray.empty (0:Int)
     else
      Be.j2 K t_14 x0 x2 (0:Int) ByteArray.empty (0:Int)
   else
    Be.j2 K t_14 x0 x2 (0:Int) ByteArray.empty (0:Int)
def Be (K:Nat) (x0:List Ab) (x1:Int) (x2:Aa):Option (Ab × Int) :=
 if decide (((x0.length:Nat):Int) > 0) then
  if (0:Int)≤(wr .i64 (((x0.length:Nat):Int)-1))∧(wr .i64 (((x0.length:Nat):Int)-1))<((x0.length:Nat):Int) then
  Be.j1 K x0 x1 x2 (wr .i64 (((nth x0 (wr .i64 (((x0.length:Nat):Int)-1))).ID)+1)) (0:Int) (0:Int) ByteArray.empty (0:Int)
  else none
 else
  Be.j1 K x0 x1 x2 (1:Int) (0:Int) (0:Int) ByteArray.empty (0:Int)
abbrev C4.sg:Sig:=⟨[],[],[(.one,.bool)],[]⟩
def C4 (K:Nat):Option Bool :=
 (Dh K ([]:List Ab)).bind fun r8 =>
 (Be K ([]:List Ab) 0 ((1,([([0]:List Int)]:List (List Int))):Aa)).bind fun r15 =>
 (B8 K ([r15.1]:List Ab) 0 0).bind fun r21 =>
 (Cr K r8.2).bind fun r25 =>
 if (r25 == 0) then
  (Cr K r21.2).bind fun r29 =>
  if (r29 == 0) then
   if (((r8.1.length:Nat):Int) == 0) then
    (Az K r21.1 ([1]:List Int)).bind fun r40 =>
    some r40
   else
    some false
  else
   some false
 else
  some false
abbrev D2:Type:=Int × Int × Int
abbrev Ef:Ty:=(.pr (.int .i64) (.pr (.int .i64) (.int .i64)))
abbrev D2.Do (x:D2):Int:=x.1
abbrev D2.A (x:D2):Int:=x.2.1
abbrev D2.B (x:D2):Int:=x.2.2
abbrev Ce:Type:=(List Aa) × (List D2)
abbrev Eh:Ty:=(.pr (.sl A5) (.sl Ef))
abbrev Ce.G (x:Ce):List Aa:=x.1
abbrev Ce.A (x:Ce):List D2:=x.2
abbrev Dn:Type:=(List (List Ab)) × Ce × (List Int)
abbrev Ei:Ty:=(.pr (.sl (.sl Ba)) (.pr Eh (.sl (.int .i64))))
abbrev Dn.L (x:Dn):List (List Ab):=x.1
abbrev Dn.G (x:Dn):Ce:=x.2.1
abbrev Dn.N (x:Dn):List Int:=x.2.2
abbrev Ae.sg:Sig:=⟨[(.agg,Ei)],[],[(.one,.bool)],[]⟩
def Ae.l6 (K:Nat) (r93:(List Int) × Int):Nat→Int→(List Aa)→Option Bool
 | 0,_,_=>none
 | k+1,t_15,t_22 =>
  if decide (t_15<6) then
   if (0:Int)≤t_15∧t_15<((r93.1.length:Nat):Int) then
   if decide ((nth r93.1 t_15)<0) then
    some false
   else
    if (0:Int)≤t_15∧t_15<((r93.1.length:Nat):Int) then
    if decide ((nth r93.1 t_15) > t_15) then
     some false
    else
     if (0:Int)≤t_15∧t_15<((r93.1.length:Nat):Int) then
     if ((nth r93.1 t_15) == 0) then
      if (0:Int)≤(wr .i64 (t_15-1))∧(wr .i64 (t_15-1))<((t_22.length:Nat):Int) then
      if (0:Int)≤t_15∧t_15<((t_22.length:Nat):Int) then
      (Cj K (nth t_22 (wr .i64 (t_15-1))) (nth t_22 t_15)).bind fun r143 =>
      if r143 then
       some false
      else
       Ae.l6 K r93 k (wr .i64 (t_15+1)) t_22
      else none
      else none
     else
      Ae.l6 K r93 k (wr .i64 (t_15+1)) t_22
     else none
    else none
   else none
  else
   (C4 K).bind fun r146 =>
   some r146
def Ae.l5 (K:Nat) (go_l3:Int→(List Ab)→(List Aa)→Option Bool) (go_l4:Int→(List Ab)→(List Aa)→Option Bool) (r63:(List Int) × Int) (t_12:Int) (t_13:Int) (t_20:List Ab) (t_21:List Aa):Nat→Int→(List Int)→Option Bool
 | 0,_,_=>none
 | k+1,t_14,t_23 =>
  if decide (t_14<6) then
   if (0:Int)≤t_14∧t_14<((t_21.length:Nat):Int) then
   (Dj K (nth t_21 t_14) t_12 t_13).bind fun r76 =>
   if r76 then
    if (t_23.length+([wr .i64 (1+t_14)]:List Int).length)*8≤140737488355328 then
    Ae.l5 K go_l3 go_l4 r63 t_12 t_13 t_20 t_21 k (wr .i64 (t_14+1)) (t_23++([wr .i64 (1+t_14)]:List Int))
    else none
   else
    Ae.l5 K go_l3 go_l4 r63 t_12 t_13 t_20 t_21 k (wr .i64 (t_14+1)) t_23
   else none
  else
   (Cr K r63.2).bind fun r83 =>
   if (r83 != 0) then
    some false
   else
    (Az K r63.1 t_23).bind fun r88 =>
    if (!r88) then
     some false
    else
     go_l4 (wr .i64 (t_13+1)) t_20 t_21
def Ae.l4 (K:Nat) (go_l3:Int→(List Ab)→(List Aa)→Option Bool) (t_12:Int):Nat→Int→(List Ab)→(List Aa)→Option Bool
 | 0,_,_,_=>none
 | k+1,t_13,t_20,t_21 =>
  if decide (t_13<8) then
   (B8 K t_20 t_12 t_13).bind fun r63 =>
   Ae.l5 K go_l3 (Ae.l4 K go_l3 t_12 k) r63 t_12 t_13 t_20 t_21 K (0:Int) ([]:List Int)
  else
   go_l3 (wr .i64 (t_12+1)) t_20 t_21
def Ae.l3 (K:Nat):Nat→Int→(List Ab)→(List Aa)→Option Bool
 | 0,_,_,_=>none
 | k+1,t_12,t_18,t_19 =>
  if decide (t_12<8) then
   Ae.l4 K (Ae.l3 K k) t_12 K (0:Int) t_18 t_19
  else
   (B9 K t_18).bind fun r93 =>
   (Cr K r93.2).bind fun r97 =>
   if (r97 != 0) then
    some false
   else
    if (((r93.1.length:Nat):Int) != 6) then
     some false
    else
     if (0:Int)≤(0:Int)∧(0:Int)<((r93.1.length:Nat):Int) then
     if ((nth r93.1 0) != 0) then
      some false
     else
      Ae.l6 K r93 K (1:Int) t_19
     else none
def Ae.j2 (K:Nat) (go_l1:Int→(List Ab)→(List Aa)→Option Bool) (r29:Aa) (t_10:Int) (t_16:List Ab) (t_17:List Aa) (x0:Dn) (t_11:Int):Option Bool :=
 (De K t_16 t_11 r29).bind fun r37 =>
 (Cr K r37.2).bind fun r41 =>
 if (r41 != 0) then
  some false
 else
  if (t_16.length+([r37.1]:List Ab).length)*40≤140737488355328 then
  if (t_17.length+([r29]:List Aa).length)*32≤140737488355328 then
  go_l1 (wr .i64 (t_10+1)) (t_16++([r37.1]:List Ab)) (t_17++([r29]:List Aa))
  else none
  else none
def Ae.l1 (K:Nat) (x0:Dn):Nat→Int→(List Ab)→(List Aa)→Option Bool
 | 0,_,_,_=>none
 | k+1,t_10,t_16,t_17 =>
  if decide (t_10<6) then
   if (4:Int)≠0 then
   (Ac K 8 ((wr .i64 (t_10+((x0.N.length:Nat):Int))).tmod 4)).bind fun r29 =>
   if decide (t_10 > 0) then
    Ae.j2 K (Ae.l1 K x0 k) r29 t_10 t_16 t_17 x0 t_10
   else
    Ae.j2 K (Ae.l1 K x0 k) r29 t_10 t_16 t_17 x0 (0:Int)
   else none
  else
   Ae.l3 K K (0:Int) t_16 t_17
def Ae (K:Nat) (x0:Dn):Option Bool :=
 Ae.l1 K x0 K (0:Int) ([]:List Ab) ([]:List Aa)
end Go.XM
end
