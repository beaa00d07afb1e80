import Derived.Test.YtdcicijfcbhgnaaGreatCmH0
set_option linter.all false
section
namespace Go.XM
set_option maxRecDepth 100000
abbrev Am:Type:=ByteArray × Int
abbrev Cs:Ty:=(.pr .str (.int .i64))
abbrev Am.Data (x:Am):ByteArray:=x.1
abbrev Am.N (x:Am):Int:=x.2
abbrev Af:Type:=Int × Int × Am
abbrev A0:Ty:=(.pr (.int .i64) (.pr (.int .i64) Cs))
abbrev Af.ID (x:Af):Int:=x.1
abbrev Af.Base (x:Af):Int:=x.2.1
abbrev Af.Data (x:Af):Am:=x.2.2
abbrev Az.sg:Sig:=⟨[(.one,(.sl A0))],[],[(.one,(.int .i64))],[]⟩
def Az.l1 (K:Nat) (x0:List Af):Nat→Int→Int→Option Int
 | 0,_,_=>none
 | k+1,n_10,i_11 =>
  if decide (i_11<((x0.length:Nat):Int)) then
   if decide (n_10<1048576) then
    if (0:Int)≤i_11∧i_11<((x0.length:Nat):Int) then
    if (4:Int)≠0 then
    Az.l1 K x0 k (wr .i64 (n_10+(wr .i64 ((((((nth x0 i_11).Data).Data).size:Nat):Int).tdiv 4)))) (wr .i64 (i_11+1))
    else none
    else none
   else
    some n_10
  else
   some n_10
def Az (K:Nat) (x0:List Af):Option Int :=
 Az.l1 K x0 K ((x0.length:Nat):Int) (0:Int)
abbrev Bx.sg:Sig:=⟨[(.one,(.sl (.sl (.int .i64))))],[],[(.one,(.int .i64))],[]⟩
def Bx.l1 (K:Nat) (x0:List (List Int)):Nat→Int→Int→Option Int
 | 0,_,_=>none
 | k+1,n_10,i_11 =>
  if decide (i_11<((x0.length:Nat):Int)) then
   if decide (n_10<1048576) then
    if (0:Int)≤i_11∧i_11<((x0.length:Nat):Int) then
    Bx.l1 K x0 k (wr .i64 (n_10+(((nth x0 i_11).length:Nat):Int))) (wr .i64 (i_11+1))
    else none
   else
    some n_10
  else
   some n_10
def Bx (K:Nat) (x0:List (List Int)):Option Int :=
 Bx.l1 K x0 K ((x0.length:Nat):Int) (0:Int)
abbrev Aa:Type:=Int × (List (List Int))
abbrev Bu:Ty:=(.pr (.int .i64) (.sl (.sl (.int .i64))))
abbrev Aa.N (x:Aa):Int:=x.1
abbrev Aa.Out (x:Aa):List (List Int):=x.2
abbrev A6.sg:Sig:=⟨[(.one,(.sl Bu))],[],[(.one,(.int .i64))],[]⟩
def A6.l1 (K:Nat) (x0:List Aa):Nat→Int→Int→Option Int
 | 0,_,_=>none
 | k+1,n_10,i_11 =>
  if decide (i_11<((x0.length:Nat):Int)) then
   if decide (n_10<1048576) then
    if (0:Int)≤i_11∧i_11<((x0.length:Nat):Int) then
    (Bx K ((nth x0 i_11).Out)).bind fun r23 =>
    A6.l1 K x0 k (wr .i64 (n_10+r23)) (wr .i64 (i_11+1))
    else none
   else
    some n_10
  else
   some n_10
def A6 (K:Nat) (x0:List Aa):Option Int :=
 A6.l1 K x0 K ((x0.length:Nat):Int) (0:Int)
abbrev D2:Type:=Int × Int × Int
abbrev D0:Ty:=(.pr (.int .i64) (.pr (.int .i64) (.int .i64)))
abbrev D2.Do (x:D2):Int:=x.1
abbrev D2.A (x:D2):Int:=x.2.1
abbrev D2.B (x:D2):Int:=x.2.2
abbrev Cc:Type:=(List Aa) × (List D2)
abbrev Ei:Ty:=(.pr (.sl Bu) (.sl D0))
abbrev Cc.G (x:Cc):List Aa:=x.1
abbrev Cc.A (x:Cc):List D2:=x.2
abbrev C3.sg:Sig:=⟨[(.agg,Ei)],[],[(.one,.bool)],[]⟩
def C3 (K:Nat) (x0:Cc):Option Bool :=
 (A6 K x0.G).bind fun r5 =>
 some (decide ((wr .i64 (r5+((x0.A.length:Nat):Int))) > 1200))
abbrev Cm:Type:=(List (List Af)) × Cc × (List Int)
abbrev Eh:Ty:=(.pr (.sl (.sl A0)) (.pr Ei (.sl (.int .i64))))
abbrev Cm.L (x:Cm):List (List Af):=x.1
abbrev Cm.G (x:Cm):Cc:=x.2.1
abbrev Cm.N (x:Cm):List Int:=x.2.2
abbrev Bl.sg:Sig:=⟨[(.agg,Eh)],[],[(.one,.bool)],[]⟩
def Bl.l1 (K:Nat) (x0:Cm):Nat→Int→Int→Option Bool
 | 0,_,_=>none
 | k+1,n_10,i_11 =>
  if decide (i_11<((x0.L.length:Nat):Int)) then
   if decide (n_10<1048576) then
    if (0:Int)≤i_11∧i_11<((x0.L.length:Nat):Int) then
    (Az K (nth x0.L i_11)).bind fun r29 =>
    Bl.l1 K x0 k (wr .i64 (n_10+r29)) (wr .i64 (i_11+1))
    else none
   else
    if decide (n_10 > 700) then
     some true
    else
     (C3 K x0.G).bind fun r36 =>
     some r36
  else
   if decide (n_10 > 700) then
    some true
   else
    (C3 K x0.G).bind fun r36 =>
    some r36
def Bl (K:Nat) (x0:Cm):Option Bool :=
 Bl.l1 K x0 K (wr .i64 (((x0.N.length:Nat):Int)+((x0.L.length:Nat):Int))) (0:Int)
abbrev Ay.sg:Sig:=⟨[(.one,(.sl A0))],[],[(.one,(.sl A0))],[.o]⟩
def Ay.l1 (K:Nat) (x0:List Af):Nat→Int→(List Af)→Option (List Af)
 | 0,_,_=>none
 | k+1,i_10,m_11 =>
  if decide (i_10<((x0.length:Nat):Int)) then
   if (0:Int)≤i_10∧i_10<((x0.length:Nat):Int) then
   if (m_11.length+([(nth x0 i_10)]:List Af).length)*40≤140737488355328 then
   Ay.l1 K x0 k (wr .i64 (i_10+1)) (m_11++([(nth x0 i_10)]:List Af))
   else none
   else none
  else
   some m_11
def Ay (K:Nat) (x0:List Af):Option (List Af) :=
 Ay.l1 K x0 K (0:Int) ([]:List Af)
abbrev Ba.sg:Sig:=⟨[(.agg,Eh),(.one,(.sl A0))],[],[(.one,(.sl (.int .i64)))],[.o]⟩
def Ba.l2 (K:Nat) (x1:List Af):Nat→Int→(List Int)→Option (List Int)
 | 0,_,_=>none
 | k+1,i_11,x_12 =>
  if decide (i_11<((x1.length:Nat):Int)) then
   if decide (i_11<8) then
    if (0:Int)≤i_11∧i_11<((x1.length:Nat):Int) then
    if (x_12.length+([(nth x1 i_11).ID]:List Int).length)*8≤140737488355328 then
    Ba.l2 K x1 k (wr .i64 (i_11+1)) (x_12++([(nth x1 i_11).ID]:List Int))
    else none
    else none
   else
    some x_12
  else
   some x_12
def Ba.j1 (K:Nat) (x1:List Af) (x_10:List Int):Option (List Int) :=
 Ba.l2 K x1 K (0:Int) x_10
def Ba (K:Nat) (x0:Cm) (x1:List Af):Option (List Int) :=
 if (([0,(-1),99]:List Int).length+x0.N.length)*8≤140737488355328 then
 if decide ((((([0,(-1),99]:List Int)++x0.N).length:Nat):Int) > 5) then
  if (0:Int)≤(5:Int)∧(5:Int)≤(((([0,(-1),99]:List Int)++x0.N).length:Nat):Int) then
  Ba.j1 K x1 ((([0,(-1),99]:List Int)++x0.N).take (5:Int).toNat)
  else none
 else
  Ba.j1 K x1 (([0,(-1),99]:List Int)++x0.N)
 else none
abbrev Dv.sg:Sig:=⟨[(.agg,Cs)],[],[(.one,.bool)],[]⟩
def Dv (K:Nat) (x0:Am):Option Bool :=
 if decide (x0.N<0) then
  some false
 else
  if decide (x0.N > 6000) then
   some false
  else
   if (8:Int)≠0 then
   if (((x0.Data.size:Nat):Int) != (wr .i64 ((wr .i64 ((wr .i64 (x0.N+8))-1)).tdiv 8))) then
    some false
   else
    if (8:Int)≠0 then
    if ((x0.N.tmod 8) == 0) then
     some true
    else
     if (0:Int)≤(wr .i64 (((x0.Data.size:Nat):Int)-1))∧(wr .i64 (((x0.Data.size:Nat):Int)-1))<((x0.Data.size:Nat):Int) then
     if (0:Int)≤(x0.N.tmod 8) then
     some ((ib .and .u8 (bt x0.Data (wr .i64 (((x0.Data.size:Nat):Int)-1))) ((255:Int).fdiv (2 ^ min ((x0.N.tmod 8)).toNat 8))) == 0)
     else none
     else none
    else none
   else none
abbrev D6.sg:Sig:=⟨[(.agg,A0),(.box,(.int .i64))],[],[(.one,.bool)],[]⟩
def D6 (K:Nat) (x0:Af) (x1:Int):Option (Bool × Int) :=
 some ((x0.ID == x1),x1)
abbrev Ag.sg:Sig:=⟨[(.one,(.sl A0)),(.fn 166 1,.un),(.hid,(.int .i64))],[],[(.one,(.int .i64))],[]⟩
def Ag.l1 (K:Nat) (x0:List Af):Nat→Int→Int→Int→Option (Int × Int)
 | 0,_,_,_=>none
 | k+1,t_10,t_11,h_12 =>
  if decide (t_11<t_10) then
   if (0:Int)≤t_11∧t_11<((x0.length:Nat):Int) then
   (D6 K (nth x0 t_11) h_12).bind fun r16 =>
   if r16.1 then
    some (t_11,r16.2)
   else
    Ag.l1 K x0 k t_10 (wr .i64 (t_11+1)) r16.2
   else none
  else
   some ((-1),h_12)
def Ag (K:Nat) (x0:List Af) (x2:Int):Option (Int × Int) :=
 Ag.l1 K x0 K ((x0.length:Nat):Int) (0:Int) x2
abbrev Ds.sg:Sig:=⟨[(.one,(.sl A0)),(.one,(.int .i64))],[],[(.one,(.int .i64))],[]⟩
def Ds (K:Nat) (x0:List Af) (x1:Int):Option Int :=
 (Ag K x0 x1).bind fun r7 =>
 some r7.1
abbrev C8.sg:Sig:=⟨[(.one,(.sl A0))],[],[(.one,.bool)],[]⟩
def C8.l1 (K:Nat) (x0:List Af):Nat→Int→Int→Option Bool
 | 0,_,_=>none
 | k+1,t_10,t_11 =>
  if decide (t_11<t_10) then
   if (0:Int)≤t_11∧t_11<((x0.length:Nat):Int) then
   if decide (((nth x0 t_11).ID)<1) then
    some false
   else
    if decide (((nth x0 t_11).ID) > 1048576) then
     some false
    else
     if decide (t_11 > 0) then
      if (0:Int)≤(wr .i64 (t_11-1))∧(wr .i64 (t_11-1))<((x0.length:Nat):Int) then
      if decide (((nth x0 t_11).ID)≤((nth x0 (wr .i64 (t_11-1))).ID)) then
       some false
      else
       (Dv K ((nth x0 t_11).Data)).bind fun r41 =>
       if (!r41) then
        some false
       else
        if (((nth x0 t_11).Base) == ((nth x0 t_11).ID)) then
         some false
        else
         if (((nth x0 t_11).Base) != 0) then
          (Ds K x0 ((nth x0 t_11).Base)).bind fun r57 =>
          if decide (r57<0) then
           some false
          else
           C8.l1 K x0 k t_10 (wr .i64 (t_11+1))
         else
          C8.l1 K x0 k t_10 (wr .i64 (t_11+1))
      else none
     else
      (Dv K ((nth x0 t_11).Data)).bind fun r41 =>
      if (!r41) then
       some false
      else
       if (((nth x0 t_11).Base) == ((nth x0 t_11).ID)) then
        some false
       else
        if (((nth x0 t_11).Base) != 0) then
         (Ds K x0 ((nth x0 t_11).Base)).bind fun r57 =>
         if decide (r57<0) then
          some false
         else
          C8.l1 K x0 k t_10 (wr .i64 (t_11+1))
        else
         C8.l1 K x0 k t_10 (wr .i64 (t_11+1))
   else none
  else
   some true
def C8 (K:Nat) (x0:List Af):Option Bool :=
 if decide (((x0.length:Nat):Int) > 12) then
  some false
 else
  C8.l1 K x0 K ((x0.length:Nat):Int) (0:Int)
abbrev D5.sg:Sig:=⟨[(.one,(.int .i64))],[],[(.one,.bool)],[]⟩
def D5 (K:Nat) (x0:Int):Option Bool :=
 if decide (x0≥0) then
  some (decide (x0<16))
 else
  some false
abbrev Df.sg:Sig:=⟨[(.one,(.sl (.int .i64)))],[],[(.one,.bool)],[]⟩
def Df.l1 (K:Nat) (x0:List Int):Nat→Int→Int→Option Bool
 | 0,_,_=>none
 | k+1,t_10,t_11 =>
  if decide (t_11<t_10) then
   if (0:Int)≤t_11∧t_11<((x0.length:Nat):Int) then
   (D5 K (nth x0 t_11)).bind fun r13 =>
   if (!r13) then
    some false
   else
    if decide (t_11 > 0) then
     if (0:Int)≤(wr .i64 (t_11-1))∧(wr .i64 (t_11-1))<((x0.length:Nat):Int) then
     if decide ((nth x0 t_11)≤(nth x0 (wr .i64 (t_11-1)))) then
      some false
     else
      Df.l1 K x0 k t_10 (wr .i64 (t_11+1))
     else none
    else
     Df.l1 K x0 k t_10 (wr .i64 (t_11+1))
   else none
  else
   some true
def Df (K:Nat) (x0:List Int):Option Bool :=
 Df.l1 K x0 K ((x0.length:Nat):Int) (0:Int)
abbrev De.sg:Sig:=⟨[(.agg,Bu)],[],[(.one,(.int .i64))],[]⟩
def De.l1 (K:Nat) (x0:Aa):Nat→Int→Int→Int→Option Int
 | 0,_,_,_=>none
 | k+1,n_10,t_11,t_12 =>
  if decide (t_12<t_11) then
   if (0:Int)≤t_12∧t_12<((x0.Out.length:Nat):Int) then
   De.l1 K x0 k (wr .i64 (n_10+(((nth x0.Out t_12).length:Nat):Int))) t_11 (wr .i64 (t_12+1))
   else none
  else
   some n_10
def De (K:Nat) (x0:Aa):Option Int :=
 De.l1 K x0 K (0:Int) ((x0.Out.length:Nat):Int) (0:Int)
abbrev C1.sg:Sig:=⟨[(.agg,Bu)],[],[(.one,.bool)],[]⟩
def C1.l1 (K:Nat) (x0:Aa):Nat→Int→Int→Option Bool
 | 0,_,_=>none
 | k+1,t_10,t_11 =>
  if decide (t_11<t_10) then
   if (0:Int)≤t_11∧t_11<((x0.Out.length:Nat):Int) then
   (Df K (nth x0.Out t_11)).bind fun r29 =>
   if (!r29) then
    some false
   else
    if decide ((((nth x0.Out t_11).length:Nat):Int) > 0) then
     if (0:Int)≤(wr .i64 ((((nth x0.Out t_11).length:Nat):Int)-1))∧(wr .i64 ((((nth x0.Out t_11).length:Nat):Int)-1))<(((nth x0.Out t_11).length:Nat):Int) then
     if decide ((nth (nth x0.Out t_11) (wr .i64 ((((nth x0.Out t_11).length:Nat):Int)-1)))≥x0.N) then
      some false
     else
      C1.l1 K x0 k t_10 (wr .i64 (t_11+1))
     else none
    else
     C1.l1 K x0 k t_10 (wr .i64 (t_11+1))
   else none
  else
   (De K x0).bind fun r49 =>
   some (decide (r49≤120))
def C1 (K:Nat) (x0:Aa):Option Bool :=
 if decide (x0.N<0) then
  some false
 else
  if decide (x0.N > 16) then
   some false
  else
   if (((x0.Out.length:Nat):Int) != x0.N) then
    some false
   else
    C1.l1 K x0 K ((x0.Out.length:Nat):Int) (0:Int)
abbrev Cd:Type:=(List Int) × Int
abbrev Eg:Ty:=(.pr (.sl (.int .u8)) (.int .i64))
abbrev Cd.data (x:Cd):List Int:=x.1
abbrev Cd.n (x:Cd):Int:=x.2
abbrev A8.sg:Sig:=⟨[(.box,Eg),(.one,(.int .i64)),(.one,(.int .i64))],[.o],[],[.o]⟩
def A8.j2 (K:Nat) (go_l1:Int→Int→(List Int)→Option Cd) (h_13:Int) (i_10:Int) (x1:Int) (h_11:List Int):Option Cd :=
 if (8:Int)≠0 then
 if (0:Int)≤(wr .i64 (h_13.tdiv 8))∧(wr .i64 (h_13.tdiv 8))<((h_11.length:Nat):Int) then
 if (0:Int)≤i_10 then
 if (8:Int)≠0 then
 if (0:Int)≤(wr .i64 (7-(h_13.tmod 8))) then
 if (0:Int)≤(wr .i64 (h_13.tdiv 8))∧(wr .i64 (h_13.tdiv 8))<((h_11.length:Nat):Int) then
 go_l1 (wr .i64 (i_10-1)) (wr .i64 (h_13+1)) ((h_11).set (wr .i64 (h_13.tdiv 8)).toNat (ib .or .u8 (nth h_11 (wr .i64 (h_13.tdiv 8))) (wr .u8 ((wr .u8 (ib .and .i64 (x1.fdiv (2 ^ min (i_10).toNat 64)) 1))*2 ^ min ((wr .i64 (7-(h_13.tmod 8)))).toNat 8))))
 else none
 else none
 else none
 else none
 else none
 else none
def A8.l1 (K:Nat) (x1:Int):Nat→Int→Int→(List Int)→Option Cd
 | 0,_,_,_=>none
 | k+1,i_10,h_13,h_12 =>
  if decide (i_10≥0) then
   if (8:Int)≠0 then
   if ((h_13.tmod 8) == 0) then
    if (h_12.length+([0]:List Int).length)*1≤140737488355328 then
    A8.j2 K (A8.l1 K x1 k) h_13 i_10 x1 (h_12++([0]:List Int))
    else none
   else
    A8.j2 K (A8.l1 K x1 k) h_13 i_10 x1 h_12
   else none
  else
   some ((h_12,h_13):Cd)
def A8 (K:Nat) (x0:Cd) (x1:Int) (x2:Int):Option Cd :=
 A8.l1 K x1 K (wr .i64 (x2-1)) x0.n x0.data
abbrev Ck.sg:Sig:=⟨[(.one,(.int .u32))],[],[(.one,(.int .i64))],[]⟩
def Ck.j2 (K:Nat) (x_12:Int) (n_13:Int):Option Int :=
 if (0:Int)≤(wr .u8 x_12)∧(wr .u8 x_12)<(((⟨#[0,1,2,2,3,3,3,3,4,4,4,4,4,4,4,4,5,5,5,5,5,5,5,5,5,5,5,5,5,5,5,5,6,6,6,6,6,6,6,6,6,6,6,6,6,6,6,6,6,6,6,6,6,6,6,6,6,6,6,6,6,6,6,6,7,7,7,7,7,7,7,7,7,7,7,7,7,7,7,7,7,7,7,7,7,7,7,7,7,7,7,7,7,7,7,7,7,7,7,7,7,7,7,7,7,7,7,7,7,7,7,7,7,7,7,7,7,7,7,7,7,7,7,7,7,7,7,7,8,8,8,8,8,8,8,8,8,8,8,8,8,8,8,8,8,8,8,8,8,8,8,8,8,8,8,8,8,8,8,8,8,8,8,8,8,8,8,8,8,8,8,8,8,8,8,8,8,8,8,8,8,8,8,8,8,8,8,8,8,8,8,8,8,8,8,8,8,8,8,8,8,8,8,8,8,8,8,8,8,8,8,8,8,8,8,8,8,8,8,8,8,8,8,8,8,8,8,8,8,8,8,8,8,8,8,8,8,8,8,8,8,8,8,8,8,8,8,8,8,8,8,8,8,8,8,8]⟩:ByteArray).size:Nat):Int) then
 some (wr .i64 (n_13+(wr .i64 (bt (⟨#[0,1,2,2,3,3,3,3,4,4,4,4,4,4,4,4,5,5,5,5,5,5,5,5,5,5,5,5,5,5,5,5,6,6,6,6,6,6,6,6,6,6,6,6,6,6,6,6,6,6,6,6,6,6,6,6,6,6,6,6,6,6,6,6,7,7,7,7,7,7,7,7,7,7,7,7,7,7,7,7,7,7,7,7,7,7,7,7,7,7,7,7,7,7,7,7,7,7,7,7,7,7,7,7,7,7,7,7,7,7,7,7,7,7,7,7,7,7,7,7,7,7,7,7,7,7,7,7,8,8,8,8,8,8,8,8,8,8,8,8,8,8,8,8,8,8,8,8,8,8,8,8,8,8,8,8,8,8,8,8,8,8,8,8,8,8,8,8,8,8,8,8,8,8,8,8,8,8,8,8,8,8,8,8,8,8,8,8,8,8,8,8,8,8,8,8,8,8,8,8,8,8,8,8,8,8,8,8,8,8,8,8,8,8,8,8,8,8,8,8,8,8,8,8,8,8,8,8,8,8,8,8,8,8,8,8,8,8,8,8,8,8,8,8,8,8,8,8,8,8,8,8,8,8,8,8]⟩:ByteArray) (wr .u8 x_12)))))
 else none
def Ck.j1 (K:Nat) (x_10:Int) (n_11:Int):Option Int :=
 if decide (x_10≥256) then
  if (0:Int)≤8 then
  Ck.j2 K (x_10.fdiv (2 ^ min ((8:Int)).toNat 32)) (wr .i64 (n_11+8))
  else none
 else
  Ck.j2 K x_10 n_11
def Ck (K:Nat) (x0:Int):Option Int :=
 if decide (x0≥65536) then
  if (0:Int)≤16 then
  Ck.j1 K (x0.fdiv (2 ^ min ((16:Int)).toNat 32)) (16:Int)
  else none
 else
  Ck.j1 K x0 (0:Int)
abbrev B0.sg:Sig:=⟨[(.one,(.int .u64))],[],[(.one,(.int .i64))],[]⟩
def B0.j3 (K:Nat) (x_14:Int) (n_15:Int):Option Int :=
 if (0:Int)≤(wr .u8 x_14)∧(wr .u8 x_14)<(((⟨#[0,1,2,2,3,3,3,3,4,4,4,4,4,4,4,4,5,5,5,5,5,5,5,5,5,5,5,5,5,5,5,5,6,6,6,6,6,6,6,6,6,6,6,6,6,6,6,6,6,6,6,6,6,6,6,6,6,6,6,6,6,6,6,6,7,7,7,7,7,7,7,7,7,7,7,7,7,7,7,7,7,7,7,7,7,7,7,7,7,7,7,7,7,7,7,7,7,7,7,7,7,7,7,7,7,7,7,7,7,7,7,7,7,7,7,7,7,7,7,7,7,7,7,7,7,7,7,7,8,8,8,8,8,8,8,8,8,8,8,8,8,8,8,8,8,8,8,8,8,8,8,8,8,8,8,8,8,8,8,8,8,8,8,8,8,8,8,8,8,8,8,8,8,8,8,8,8,8,8,8,8,8,8,8,8,8,8,8,8,8,8,8,8,8,8,8,8,8,8,8,8,8,8,8,8,8,8,8,8,8,8,8,8,8,8,8,8,8,8,8,8,8,8,8,8,8,8,8,8,8,8,8,8,8,8,8,8,8,8,8,8,8,8,8,8,8,8,8,8,8,8,8,8,8,8,8]⟩:ByteArray).size:Nat):Int) then
 some (wr .i64 (n_15+(wr .i64 (bt (⟨#[0,1,2,2,3,3,3,3,4,4,4,4,4,4,4,4,5,5,5,5,5,5,5,5,5,5,5,5,5,5,5,5,6,6,6,6,6,6,6,6,6,6,6,6,6,6,6,6,6,6,6,6,6,6,6,6,6,6,6,6,6,6,6,6,7,7,7,7,7,7,7,7,7,7,7,7,7,7,7,7,7,7,7,7,7,7,7,7,7,7,7,7,7,7,7,7,7,7,7,7,7,7,7,7,7,7,7,7,7,7,7,7,7,7,7,7,7,7,7,7,7,7,7,7,7,7,7,7,8,8,8,8,8,8,8,8,8,8,8,8,8,8,8,8,8,8,8,8,8,8,8,8,8,8,8,8,8,8,8,8,8,8,8,8,8,8,8,8,8,8,8,8,8,8,8,8,8,8,8,8,8,8,8,8,8,8,8,8,8,8,8,8,8,8,8,8,8,8,8,8,8,8,8,8,8,8,8,8,8,8,8,8,8,8,8,8,8,8,8,8,8,8,8,8,8,8,8,8,8,8,8,8,8,8,8,8,8,8,8,8,8,8,8,8,8,8,8,8,8,8,8,8,8,8,8,8]⟩:ByteArray) (wr .u8 x_14)))))
 else none
def B0.j2 (K:Nat) (x_12:Int) (n_13:Int):Option Int :=
 if decide (x_12≥256) then
  if (0:Int)≤8 then
  B0.j3 K (x_12.fdiv (2 ^ min ((8:Int)).toNat 64)) (wr .i64 (n_13+8))
  else none
 else
  B0.j3 K x_12 n_13
def B0.j1 (K:Nat) (x_10:Int) (n_11:Int):Option Int :=
 if decide (x_10≥65536) then
  if (0:Int)≤16 then
  B0.j2 K (x_10.fdiv (2 ^ min ((16:Int)).toNat 64)) (wr .i64 (n_11+16))
  else none
 else
  B0.j2 K x_10 n_11
def B0 (K:Nat) (x0:Int):Option Int :=
 if decide (x0≥4294967296) then
  if (0:Int)≤32 then
  B0.j1 K (x0.fdiv (2 ^ min ((32:Int)).toNat 64)) (32:Int)
  else none
 else
  B0.j1 K x0 (0:Int)
abbrev Dt.sg:Sig:=⟨[(.one,(.int .u64))],[],[(.one,(.int .i64))],[]⟩
def Dt (K:Nat) (x0:Int):Option Int :=
 (B0 K x0).bind fun r7 =>
 some r7
abbrev Dw.sg:Sig:=⟨[(.one,(.int .i64))],[],[(.one,(.int .i64))],[]⟩
def Dw (K:Nat) (x0:Int):Option Int :=
 (Dt K (wr .u64 x0)).bind fun r5 =>
 some (wr .i64 (r5-1))
abbrev D3.sg:Sig:=⟨[(.one,(.int .i64))],[],[(.one,(.int .i64))],[]⟩
def D3 (K:Nat) (x0:Int):Option Int :=
 some (wr .i64 ((wr .i64 (x0-4))+2))
abbrev Ed.sg:Sig:=⟨[(.one,(.int .i64)),(.one,(.int .i64))],[],[(.one,(.int .i64)),(.one,(.int .i64)),(.one,(.int .i64)),(.one,(.int .i64))],[]⟩
def Ed (K:Nat) (x0:Int) (x1:Int):Option (Int × Int × Int × Int) :=
 if (0:Int)≤(wr .i64 (x1*x0)) then
 if (0:Int)≤x0 then
 (Dt K (wr .u64 (wr .i64 ((wr .i64 ((wr .i64 ((wr .i64 ((1:Int)*2 ^ min ((wr .i64 (x1*x0))).toNat 64))*2 ^ min (x0).toNat 64))-(wr .i64 ((1:Int)*2 ^ min ((wr .i64 (x1*x0))).toNat 64))))-1)))).bind fun r20 =>
 if (0:Int)≤r20 then
 some (wr .i64 ((1:Int)*2 ^ min ((wr .i64 (x1*x0))).toNat 64),wr .i64 ((wr .i64 ((wr .i64 ((1:Int)*2 ^ min ((wr .i64 (x1*x0))).toNat 64))*2 ^ min (x0).toNat 64))-(wr .i64 ((1:Int)*2 ^ min ((wr .i64 (x1*x0))).toNat 64))),r20,wr .i64 ((wr .i64 ((1:Int)*2 ^ min (r20).toNat 64))-(wr .i64 ((wr .i64 ((wr .i64 ((1:Int)*2 ^ min ((wr .i64 (x1*x0))).toNat 64))*2 ^ min (x0).toNat 64))-(wr .i64 ((1:Int)*2 ^ min ((wr .i64 (x1*x0))).toNat 64))))))
 else none
 else none
 else none
abbrev Cn.sg:Sig:=⟨[(.box,Eg),(.one,(.int .i64)),(.one,(.int .i64))],[.o],[],[.o]⟩
def Cn:Nat→Cd→Int→Int→Option Cd
 | 0,_,_,_=>none
 | K+1,x0,x1,x2 =>
  if (x1 == 1) then
   (A8 K x0 0 (wr .i64 (x2-1))).bind fun r53 =>
   (A8 K r53 1 1).bind fun r55 =>
   some r55
  else
   if (x1 == 2) then
    (Dw K x2).bind fun r60 =>
    (A8 K x0 0 r60).bind fun r61 =>
    (Dw K x2).bind fun r65 =>
    (A8 K r61 x2 (wr .i64 (r65+1))).bind fun r67 =>
    some r67
   else
    if (x1 == 3) then
     (Dw K x2).bind fun r72 =>
     ((Cn K) x0 2 (wr .i64 (r72+1))).bind fun r74 =>
     (Dw K x2).bind fun r78 =>
     (A8 K r74 x2 r78).bind fun r79 =>
     some r79
    else
     (Dw K x2).bind fun r14 =>
     (D3 K x1).bind fun r16 =>
     if r16≠0 then
     (D3 K x1).bind fun r20 =>
     (Ed K r20 (wr .i64 (r14.tdiv r16))).bind fun r22 =>
     ((Cn K) x0 1 (wr .i64 ((wr .i64 (r14.tdiv r16))+1))).bind fun r30 =>
     if decide ((wr .i64 (x2-r22.1))<r22.2.2.2) then
      (A8 K r30 (wr .i64 (x2-r22.1)) (wr .i64 (r22.2.2.1-1))).bind fun r41 =>
      some r41
     else
      (A8 K r30 (wr .i64 ((wr .i64 (x2-r22.1))+r22.2.2.2)) r22.2.2.1).bind fun r47 =>
      some r47
     else none
abbrev Dr.sg:Sig:=⟨[(.box,Eg)],[.o],[(.one,(.int .i64))],[.s,.o]⟩
def Dr (K:Nat) (x0:Cd):Option (Int × Cd) :=
 some (x0.n,x0)
abbrev Ai:Type:=Int × Int
abbrev Cr:Ty:=(.pr (.int .i64) (.int .i64))
abbrev Ai.At (x:Ai):Int:=x.1
abbrev Ai.Len (x:Ai):Int:=x.2
abbrev Ca.sg:Sig:=⟨[(.one,(.sl (.int .i64)))],[],[(.one,(.sl Cr)),(.one,(.sl (.int .i64)))],[.o,.o]⟩
def Ca.l2 (K:Nat) (go_l1:Int→(List Ai)→(List Int)→Option ((List Ai) × (List Int))) (i_10:Int) (x0:List Int):Nat→Int→(List Ai)→(List Int)→Option ((List Ai) × (List Int))
 | 0,_,_,_=>none
 | k+1,k_11,r_14,rest_15 =>
  if decide (k_11<((x0.length:Nat):Int)) then
   if (0:Int)≤k_11∧k_11<((x0.length:Nat):Int) then
   if (0:Int)≤(wr .i64 (k_11-1))∧(wr .i64 (k_11-1))<((x0.length:Nat):Int) then
   if ((nth x0 k_11) == (wr .i64 ((nth x0 (wr .i64 (k_11-1)))+1))) then
    Ca.l2 K go_l1 i_10 x0 k (wr .i64 (k_11+1)) r_14 rest_15
   else
    if decide ((wr .i64 (k_11-i_10))≥3) then
     if (0:Int)≤i_10∧i_10<((x0.length:Nat):Int) then
     if (r_14.length+([((nth x0 i_10,wr .i64 (k_11-i_10)):Ai)]:List Ai).length)*16≤140737488355328 then
     go_l1 k_11 (r_14++([((nth x0 i_10,wr .i64 (k_11-i_10)):Ai)]:List Ai)) rest_15
     else none
     else none
    else
     if (0:Int)≤i_10∧i_10≤k_11∧k_11≤((x0.length:Nat):Int) then
     if (rest_15.length+(((x0).drop i_10.toNat).take (k_11.toNat-i_10.toNat)).length)*8≤140737488355328 then
     go_l1 k_11 r_14 (rest_15++(((x0).drop i_10.toNat).take (k_11.toNat-i_10.toNat)))
     else none
     else none
   else none
   else none
  else
   if decide ((wr .i64 (k_11-i_10))≥3) then
    if (0:Int)≤i_10∧i_10<((x0.length:Nat):Int) then
    if (r_14.length+([((nth x0 i_10,wr .i64 (k_11-i_10)):Ai)]:List Ai).length)*16≤140737488355328 then
    go_l1 k_11 (r_14++([((nth x0 i_10,wr .i64 (k_11-i_10)):Ai)]:List Ai)) rest_15
    else none
    else none
   else
    if (0:Int)≤i_10∧i_10≤k_11∧k_11≤((x0.length:Nat):Int) then
    if (rest_15.length+(((x0).drop i_10.toNat).take (k_11.toNat-i_10.toNat)).length)*8≤140737488355328 then
    go_l1 k_11 r_14 (rest_15++(((x0).drop i_10.toNat).take (k_11.toNat-i_10.toNat)))
    else none
    else none
def Ca.l1 (K:Nat) (x0:List Int):Nat→Int→(List Ai)→(List Int)→Option ((List Ai) × (List Int))
 | 0,_,_,_=>none
 | k+1,i_10,r_12,rest_13 =>
  if decide (i_10<((x0.length:Nat):Int)) then
   Ca.l2 K (Ca.l1 K x0 k) i_10 x0 K (wr .i64 (i_10+1)) r_12 rest_13
  else
   some (r_12,rest_13)
def Ca (K:Nat) (x0:List Int):Option ((List Ai) × (List Int)) :=
 Ca.l1 K x0 K (0:Int) ([]:List Ai) ([]:List Int)
abbrev D7.sg:Sig:=⟨[(.one,(.int .i64))],[],[(.one,(.int .i64))],[]⟩
def D7 (K:Nat) (x0:Int):Option Int :=
 if decide (x0<0) then
  some (wr .i64 ((wr .i64 ((-2)*x0))-1))
 else
  some (wr .i64 (2*x0))
abbrev Dk.sg:Sig:=⟨[(.box,Eg),(.one,(.int .i64)),(.one,(.sl (.int .i64)))],[.o],[],[.o]⟩
def Dk.l1 (K:Nat) (x1:Int) (x2:List Int):Nat→Int→Int→Int→(List Int)→Option Cd
 | 0,_,_,_,_=>none
 | k+1,t_10,t_11,h_13,h_12 =>
  if decide (t_11<t_10) then
   if (0:Int)≤t_11∧t_11<((x2.length:Nat):Int) then
   if (t_11 == 0) then
    (D7 K (wr .i64 ((nth x2 t_11)-x1))).bind fun r26 =>
    (Cn K ((h_12,h_13):Cd) 2 (wr .i64 (r26+1))).bind fun r28 =>
    Dk.l1 K x1 x2 k t_10 (wr .i64 (t_11+1)) r28.n r28.data
   else
    if (0:Int)≤(wr .i64 (t_11-1))∧(wr .i64 (t_11-1))<((x2.length:Nat):Int) then
    (Cn K ((h_12,h_13):Cd) 2 (wr .i64 ((nth x2 t_11)-(nth x2 (wr .i64 (t_11-1)))))).bind fun r37 =>
    Dk.l1 K x1 x2 k t_10 (wr .i64 (t_11+1)) r37.n r37.data
    else none
   else none
  else
   some ((h_12,h_13):Cd)
def Dk (K:Nat) (x0:Cd) (x1:Int) (x2:List Int):Option Cd :=
 (Cn K x0 2 (wr .i64 (((x2.length:Nat):Int)+1))).bind fun r12 =>
 Dk.l1 K x1 x2 K ((x2.length:Nat):Int) (0:Int) r12.n r12.data
abbrev Co.sg:Sig:=⟨[(.box,Eg),(.one,(.int .i64)),(.one,(.sl (.int .i64)))],[.o],[],[.o]⟩
def Co.j2 (K:Nat) (go_l1:Int→Int→Int→Int→(List Int)→Option Cd) (r13:(List Ai) × (List Int)) (t_11:Int) (t_12:Int) (x1:Int) (h_14:Int) (h_13:List Int) (x_15:Int) (x_16:Int):Option Cd :=
 (Cn K ((h_13,h_14):Cd) 2 (wr .i64 ((wr .i64 (x_16-3))+1))).bind fun r49 =>
 go_l1 (wr .i64 (x_15+x_16)) t_11 (wr .i64 (t_12+1)) r49.n r49.data
def Co.l1 (K:Nat) (r13:(List Ai) × (List Int)) (x1:Int):Nat→Int→Int→Int→Int→(List Int)→Option Cd
 | 0,_,_,_,_,_=>none
 | k+1,end_10,t_11,t_12,h_18,h_17 =>
  if decide (t_12<t_11) then
   if (0:Int)≤t_12∧t_12<((r13.1.length:Nat):Int) then
   if (t_12 == 0) then
    (D7 K (wr .i64 (((nth r13.1 t_12).At)-x1))).bind fun r35 =>
    (Cn K ((h_17,h_18):Cd) 2 (wr .i64 (r35+1))).bind fun r37 =>
    Co.j2 K (Co.l1 K r13 x1 k) r13 t_11 t_12 x1 r37.n r37.data ((nth r13.1 t_12).At) ((nth r13.1 t_12).Len)
   else
    (Cn K ((h_17,h_18):Cd) 2 (wr .i64 (((nth r13.1 t_12).At)-end_10))).bind fun r43 =>
    Co.j2 K (Co.l1 K r13 x1 k) r13 t_11 t_12 x1 r43.n r43.data ((nth r13.1 t_12).At) ((nth r13.1 t_12).Len)
   else none
  else
   (Dk K ((h_17,h_18):Cd) x1 r13.2).bind fun r59 =>
   some r59
def Co (K:Nat) (x0:Cd) (x1:Int) (x2:List Int):Option Cd :=
 (Ca K x2).bind fun r13 =>
 (Cn K x0 2 (wr .i64 (((r13.1.length:Nat):Int)+1))).bind fun r20 =>
 Co.l1 K r13 x1 K (0:Int) ((r13.1.length:Nat):Int) (0:Int) r20.n r20.data
abbrev Cu.sg:Sig:=⟨[(.agg,Bu)],[],[(.ptr,Eg),(.one,(.sl (.int .i64)))],[.o,.s,.o]⟩
def Cu.l1 (K:Nat) (x0:Aa):Nat→Int→Int→Int→(List Int)→(List Int)→Option (Cd × (List Int))
 | 0,_,_,_,_,_=>none
 | k+1,t_10,t_11,r_13,r_12,at_14 =>
  if decide (t_11<t_10) then
   if (0:Int)≤t_11∧t_11<((x0.Out.length:Nat):Int) then
   (Dr K ((r_12,r_13):Cd)).bind fun r25 =>
   if (at_14.length+([r25.1]:List Int).length)*8≤140737488355328 then
   (Co K r25.2 t_11 (nth x0.Out t_11)).bind fun r31 =>
   Cu.l1 K x0 k t_10 (wr .i64 (t_11+1)) r31.n r31.data (at_14++([r25.1]:List Int))
   else none
   else none
  else
   some (((r_12,r_13):Cd),at_14)
def Cu (K:Nat) (x0:Aa):Option (Cd × (List Int)) :=
 (Cn K ((([]:List Int),0):Cd) 2 (wr .i64 (x0.N+1))).bind fun r14 =>
 Cu.l1 K x0 K ((x0.Out.length:Nat):Int) (0:Int) r14.n r14.data ([]:List Int)
abbrev Da.sg:Sig:=⟨[(.box,Eg)],[.o],[(.agg,Cs),(.one,(.int .i64))],[.s,.s,.s,.o]⟩
def Da (K:Nat) (x0:Cd):Option (Am × Int × Cd) :=
 if decide (x0.n > 6000) then
  some (((ByteArray.empty,0):Am),2,x0)
 else
  some (((bytesOf x0.data,x0.n):Am),0,x0)
abbrev Ea.sg:Sig:=⟨[(.agg,Bu)],[],[(.agg,Cs)],[]⟩
def Ea (K:Nat) (x0:Aa):Option Am :=
 (Cu K x0).bind fun r9 =>
 (Da K r9.1).bind fun r14 =>
 some r14.1
abbrev Dh.sg:Sig:=⟨[(.one,(.sl A0)),(.one,(.int .i64)),(.one,(.int .i64))],[],[(.one,(.sl A0))],[.o]⟩
def Dh.l1 (K:Nat) (x0:List Af) (x2:Int):Nat→Int→(List Af)→Option (List Af)
 | 0,_,_=>none
 | k+1,id_10,w_11 =>
  if (id_10 != 0) then
   if decide (((w_11.length:Nat):Int)<x2) then
    (Ds K x0 id_10).bind fun r19 =>
    if (0:Int)≤r19∧r19<((x0.length:Nat):Int) then
    if (w_11.length+([(nth x0 r19)]:List Af).length)*40≤140737488355328 then
    Dh.l1 K x0 x2 k ((nth x0 r19).Base) (w_11++([(nth x0 r19)]:List Af))
    else none
    else none
   else
    some w_11
  else
   some w_11
def Dh (K:Nat) (x0:List Af) (x1:Int) (x2:Int):Option (List Af) :=
 Dh.l1 K x0 x2 K x1 ([]:List Af)
abbrev D4.sg:Sig:=⟨[(.one,(.sl A0)),(.one,(.int .i64))],[],[(.one,(.int .i64)),(.one,(.int .i64))],[]⟩
def D4 (K:Nat) (x0:List Af) (x1:Int):Option (Int × Int) :=
 (Ds K x0 x1).bind fun r9 =>
 if decide (r9<0) then
  some (0,3)
 else
  (Dh K x0 x1 4).bind fun r13 =>
  if decide (((r13.length:Nat):Int) > 3) then
   some (0,2)
  else
   some (((r13.length:Nat):Int),0)
abbrev D8.sg:Sig:=⟨[(.agg,Cs),(.one,(.int .i64))],[],[(.one,(.int .i64))],[]⟩
def D8 (K:Nat) (x0:Am) (x1:Int):Option Int :=
 if (8:Int)≠0 then
 if (0:Int)≤(wr .i64 (x1.tdiv 8))∧(wr .i64 (x1.tdiv 8))<((x0.Data.size:Nat):Int) then
 if (8:Int)≠0 then
 if (0:Int)≤(wr .i64 (7-(x1.tmod 8))) then
 some (ib .and .i64 (wr .i64 ((bt x0.Data (wr .i64 (x1.tdiv 8))).fdiv (2 ^ min ((wr .i64 (7-(x1.tmod 8)))).toNat 8))) 1)
 else none
 else none
 else none
 else none
abbrev C4.sg:Sig:=⟨[(.agg,Cs),(.one,(.int .i64))],[],[(.one,(.int .i64))],[]⟩
def C4.l1 (K:Nat) (x0:Am) (x1:Int):Nat→Int→Option Int
 | 0,_=>none
 | k+1,i_10 =>
  if decide (i_10<x0.N) then
   (D8 K x0 i_10).bind fun r15 =>
   if (r15 == 1) then
    some (wr .i64 (i_10-x1))
   else
    C4.l1 K x0 x1 k (wr .i64 (i_10+1))
  else
   some ((-1):Int)
def C4 (K:Nat) (x0:Am) (x1:Int):Option Int :=
 C4.l1 K x0 x1 K x1
abbrev Bz:Type:=Am × Int × Bool
abbrev Ee:Ty:=(.pr Cs (.pr (.int .i64) .bool))
abbrev Bz.b (x:Bz):Am:=x.1
abbrev Bz.at_ (x:Bz):Int:=x.2.1
abbrev Bz.bad (x:Bz):Bool:=x.2.2
abbrev C0.sg:Sig:=⟨[(.box,Ee),(.one,(.int .i64))],[],[(.one,(.int .i64))],[]⟩
def C0 (K:Nat) (x0:Bz) (x1:Int):Option (Int × Bz) :=
 (C4 K x0.b x0.at_).bind fun r14 =>
 if x0.bad then
  some (0,((x0.b,x0.at_,true):Bz))
 else
  if decide (r14<0) then
   some (0,((x0.b,x0.at_,true):Bz))
  else
   if decide (r14 > x1) then
    some (0,((x0.b,x0.at_,true):Bz))
   else
    some (r14,((x0.b,wr .i64 (x0.at_+r14),x0.bad):Bz))
abbrev Dd.sg:Sig:=⟨[(.agg,Cs),(.one,(.int .i64)),(.one,(.int .i64))],[],[(.one,(.int .i64)),(.one,.bool)],[]⟩
def Dd.l1 (K:Nat) (x0:Am) (x1:Int) (x2:Int):Nat→Int→Int→Option (Int × Bool)
 | 0,_,_=>none
 | k+1,v_10,t_11 =>
  if decide (t_11<x2) then
   if (0:Int)≤1 then
   (D8 K x0 (wr .i64 (x1+t_11))).bind fun r32 =>
   Dd.l1 K x0 x1 x2 k (ib .or .i64 (wr .i64 (v_10*2 ^ min ((1:Int)).toNat 64)) r32) (wr .i64 (t_11+1))
   else none
  else
   some (v_10,true)
def Dd (K:Nat) (x0:Am) (x1:Int) (x2:Int):Option (Int × Bool) :=
 if decide (x1 > x0.N) then
  some (0,false)
 else
  if decide (x2 > (wr .i64 (x0.N-x1))) then
   some (0,false)
  else
   Dd.l1 K x0 x1 x2 K (0:Int) (0:Int)
abbrev Ce.sg:Sig:=⟨[(.box,Ee),(.one,(.int .i64))],[],[(.one,(.int .i64))],[]⟩
def Ce (K:Nat) (x0:Bz) (x1:Int):Option (Int × Bz) :=
 (Dd K x0.b x0.at_ x1).bind fun r17 =>
 if x0.bad then
  some (0,((x0.b,x0.at_,true):Bz))
 else
  if (!r17.2) then
   some (0,((x0.b,x0.at_,true):Bz))
  else
   some (r17.1,((x0.b,wr .i64 (x0.at_+x1),x0.bad):Bz))
abbrev C5.sg:Sig:=⟨[(.box,Ee),(.one,(.int .i64))],[],[(.one,(.int .i64))],[]⟩
def C5 (K:Nat) (x0:Bz) (x1:Int):Option (Int × Bz) :=
 (C0 K x0 (wr .i64 (x1-1))).bind fun r9 =>
 (Ce K r9.2 1).bind fun r11 =>
 some (wr .i64 (r9.1+1),r11.2)
abbrev Cp.sg:Sig:=⟨[(.box,Ee)],[],[(.one,(.int .i64))],[]⟩
def Cp (K:Nat) (x0:Bz):Option (Int × Bz) :=
 (C0 K x0 30).bind fun r5 =>
 (Ce K r5.2 (wr .i64 (r5.1+1))).bind fun r9 =>
 some (r9.1,r9.2)
abbrev Dj.sg:Sig:=⟨[(.box,Ee)],[],[(.one,(.int .i64))],[]⟩
def Dj (K:Nat) (x0:Bz):Option (Int × Bz) :=
 (Cp K x0).bind fun r5 =>
 if r5.2.bad then
  some (0,((r5.2.b,r5.2.at_,true):Bz))
 else
  if decide ((wr .i64 (r5.1-1)) > 30) then
   some (0,((r5.2.b,r5.2.at_,true):Bz))
  else
   if (0:Int)≤(wr .i64 (r5.1-1)) then
   (Ce K r5.2 (wr .i64 (r5.1-1))).bind fun r22 =>
   some (ib .or .i64 (wr .i64 ((1:Int)*2 ^ min ((wr .i64 (r5.1-1))).toNat 64)) r22.1,r22.2)
   else none
abbrev Dl.sg:Sig:=⟨[(.box,Ee),(.one,(.int .i64))],[],[(.one,(.int .i64))],[]⟩
def Dl (K:Nat) (x0:Bz) (x1:Int):Option (Int × Bz) :=
 if x1≠0 then
 (C5 K x0 (wr .i64 ((wr .i64 ((30:Int).tdiv x1))+1))).bind fun r15 =>
 if r15.2.bad then
  some (0,r15.2)
 else
  (Ed K x1 (wr .i64 (r15.1-1))).bind fun r24 =>
  (Ce K r15.2 (wr .i64 (r24.2.2.1-1))).bind fun r32 =>
  if decide (r32.1≥r24.2.2.2) then
   if (0:Int)≤1 then
   (Ce K r32.2 1).bind fun r39 =>
   some (wr .i64 (r24.1+(wr .i64 ((wr .i64 ((wr .i64 (r32.1*2 ^ min ((1:Int)).toNat 64))+r39.1))-r24.2.2.2))),r39.2)
   else none
  else
   some (wr .i64 (r24.1+r32.1),r32.2)
 else none
abbrev Ci.sg:Sig:=⟨[(.agg,Cs),(.one,(.int .i64)),(.one,(.int .i64))],[],[(.one,(.int .i64)),(.one,(.int .i64)),(.one,.bool)],[]⟩
def Ci.j1 (K:Nat) (n_14:Int) (r_10:ByteArray) (r_11:Int) (r_12:Int) (r_13:Bool):Option (Int × Int × Bool) :=
 if r_13 then
  some (0,0,false)
 else
  if decide (n_14 > 1073741824) then
   some (0,0,false)
  else
   some (n_14,r_12,true)
def Ci (K:Nat) (x0:Am) (x1:Int) (x2:Int):Option (Int × Int × Bool) :=
 if (x2 == 1) then
  (C5 K ((x0,x1,false):Bz) 1000).bind fun r23 =>
  Ci.j1 K r23.1 r23.2.b.Data r23.2.b.N r23.2.at_ r23.2.bad
 else
  if (x2 == 2) then
   (Cp K ((x0,x1,false):Bz)).bind fun r27 =>
   Ci.j1 K r27.1 r27.2.b.Data r27.2.b.N r27.2.at_ r27.2.bad
  else
   if (x2 == 3) then
    (Dj K ((x0,x1,false):Bz)).bind fun r31 =>
    Ci.j1 K r31.1 r31.2.b.Data r31.2.b.N r31.2.at_ r31.2.bad
   else
    (D3 K x2).bind fun r18 =>
    (Dl K ((x0,x1,false):Bz) r18).bind fun r19 =>
    Ci.j1 K r19.1 r19.2.b.Data r19.2.b.N r19.2.at_ r19.2.bad
abbrev Du.sg:Sig:=⟨[(.agg,Cs)],[],[(.one,(.int .i64)),(.one,(.int .i64)),(.one,.bool)],[]⟩
def Du (K:Nat) (x0:Am):Option (Int × Int × Bool) :=
 (Ci K x0 0 2).bind fun r7 =>
 if (!r7.2.2) then
  some (0,0,false)
 else
  if decide (r7.1 > 17) then
   some (0,0,false)
  else
   some (wr .i64 (r7.1-1),r7.2.1,true)
abbrev Dm.sg:Sig:=⟨[(.one,(.int .i64))],[],[(.one,(.int .i64))],[]⟩
def Dm (K:Nat) (x0:Int):Option Int :=
 if (2:Int)≠0 then
 if ((x0.tmod 2) == 1) then
  if (2:Int)≠0 then
  some (wr .i64 ((wr .i64 (0-(wr .i64 (x0+1)))).tdiv 2))
  else none
 else
  if (2:Int)≠0 then
  some (wr .i64 (x0.tdiv 2))
  else none
 else none
abbrev B8.sg:Sig:=⟨[(.agg,Cs),(.one,(.int .i64)),(.one,(.int .i64))],[],[(.one,(.sl Cr)),(.one,(.int .i64)),(.one,.bool)],[.o]⟩
def B8.j2 (K:Nat) (go_l1:Int→Int→Int→Int→(List Ai)→Option ((List Ai) × Int × Bool)) (r48:Int × Int × Bool) (t_10:Int) (t_11:Int) (t_13:List Ai) (t_15:Int) (x0:Am) (t_12:Int):Option ((List Ai) × Int × Bool) :=
 if (t_13.length+([((wr .i64 (t_15+t_12),wr .i64 ((wr .i64 (r48.1-1))+3)):Ai)]:List Ai).length)*16≤140737488355328 then
 go_l1 r48.2.1 (wr .i64 ((wr .i64 (t_15+t_12))+(wr .i64 ((wr .i64 (r48.1-1))+3)))) t_10 (wr .i64 (t_11+1)) (t_13++([((wr .i64 (t_15+t_12),wr .i64 ((wr .i64 (r48.1-1))+3)):Ai)]:List Ai))
 else none
def B8.l1 (K:Nat) (x0:Am):Nat→Int→Int→Int→Int→(List Ai)→Option ((List Ai) × Int × Bool)
 | 0,_,_,_,_,_=>none
 | k+1,t_14,t_15,t_10,t_11,t_13 =>
  if decide (t_11<t_10) then
   (Ci K x0 t_14 2).bind fun r39 =>
   if (!r39.2.2) then
    some (([]:List Ai),0,false)
   else
    (Ci K x0 r39.2.1 2).bind fun r48 =>
    if (!r48.2.2) then
     some (([]:List Ai),0,false)
    else
     if (t_11 == 0) then
      (Dm K (wr .i64 (r39.1-1))).bind fun r58 =>
      B8.j2 K (B8.l1 K x0 k) r48 t_10 t_11 t_13 t_15 x0 r58
     else
      B8.j2 K (B8.l1 K x0 k) r48 t_10 t_11 t_13 t_15 x0 r39.1
  else
   some (t_13,t_14,true)
def B8 (K:Nat) (x0:Am) (x1:Int) (x2:Int):Option ((List Ai) × Int × Bool) :=
 (Ci K x0 x1 2).bind fun r20 =>
 if (!r20.2.2) then
  some (([]:List Ai),0,false)
 else
  if decide (r20.1 > 16) then
   some (([]:List Ai),0,false)
  else
   B8.l1 K x0 K r20.2.1 x2 (wr .i64 (r20.1-1)) (0:Int) ([]:List Ai)
abbrev B7.sg:Sig:=⟨[(.agg,Cs),(.one,(.int .i64)),(.one,(.int .i64))],[],[(.one,(.sl (.int .i64))),(.one,(.int .i64)),(.one,.bool)],[.o]⟩
def B7.j2 (K:Nat) (go_l1:Int→Int→Int→Int→(List Int)→Option ((List Int) × Int × Bool)) (l_13:List Int) (last_15:Int) (r35:Int × Int × Bool) (t_10:Int) (t_11:Int) (x0:Am) (n_12:Int):Option ((List Int) × Int × Bool) :=
 (D5 K (wr .i64 (last_15+n_12))).bind fun r50 =>
 if (!r50) then
  some (([]:List Int),0,false)
 else
  if (l_13.length+([wr .i64 (last_15+n_12)]:List Int).length)*8≤140737488355328 then
  go_l1 r35.2.1 (wr .i64 (last_15+n_12)) t_10 (wr .i64 (t_11+1)) (l_13++([wr .i64 (last_15+n_12)]:List Int))
  else none
def B7.l1 (K:Nat) (x0:Am):Nat→Int→Int→Int→Int→(List Int)→Option ((List Int) × Int × Bool)
 | 0,_,_,_,_,_=>none
 | k+1,next_14,last_15,t_10,t_11,l_13 =>
  if decide (t_11<t_10) then
   (Ci K x0 next_14 2).bind fun r35 =>
   if (!r35.2.2) then
    some (([]:List Int),0,false)
   else
    if (t_11 == 0) then
     (Dm K (wr .i64 (r35.1-1))).bind fun r45 =>
     B7.j2 K (B7.l1 K x0 k) l_13 last_15 r35 t_10 t_11 x0 r45
    else
     B7.j2 K (B7.l1 K x0 k) l_13 last_15 r35 t_10 t_11 x0 r35.1
  else
   some (l_13,next_14,true)
def B7 (K:Nat) (x0:Am) (x1:Int) (x2:Int):Option ((List Int) × Int × Bool) :=
 (Ci K x0 x1 2).bind fun r16 =>
 if (!r16.2.2) then
  some (([]:List Int),0,false)
 else
  if decide (r16.1 > 17) then
   some (([]:List Int),0,false)
  else
   B7.l1 K x0 K r16.2.1 x2 (wr .i64 (r16.1-1)) (0:Int) ([]:List Int)
abbrev Cl.sg:Sig:=⟨[(.one,(.sl (.int .i64)))],[],[(.one,(.sl (.int .i64)))],[.o]⟩
def Cl (K:Nat) (x0:List Int):Option (List Int) :=
 if (([]:List Int).length+x0.length)*8≤140737488355328 then
 some (([]:List Int)++x0)
 else none
abbrev Cg.sg:Sig:=⟨[(.one,(.sl Cr)),(.one,(.sl (.int .i64)))],[],[(.one,(.sl (.int .i64))),(.one,.bool)],[.o]⟩
def Cg.l2 (K:Nat) (go_l1:Int→Int→Int→(List Int)→Option ((List Int) × Bool)) (t_11:Int) (t_12:Int) (x0:List Ai) (x1:List Int):Nat→Int→Int→(List Int)→Option ((List Int) × Bool)
 | 0,_,_,_=>none
 | k+1,t_13,t_14,t_15 =>
  if decide (t_14<t_13) then
   if (t_15.length+([t_14]:List Int).length)*8≤140737488355328 then
   Cg.l2 K go_l1 t_11 t_12 x0 x1 k t_13 (wr .i64 (t_14+1)) (t_15++([t_14]:List Int))
   else none
  else
   go_l1 t_13 t_11 (wr .i64 (t_12+1)) t_15
def Cg.l1 (K:Nat) (x0:List Ai) (x1:List Int):Nat→Int→Int→Int→(List Int)→Option ((List Int) × Bool)
 | 0,_,_,_,_=>none
 | k+1,t_10,t_11,t_12,t_16 =>
  if decide (t_12<t_11) then
   if (0:Int)≤t_12∧t_12<((x0.length:Nat):Int) then
   if decide (((nth x0 t_12).Len)<3) then
    some (([]:List Int),false)
   else
    if decide (((nth x0 t_12).Len) > 16) then
     some (([]:List Int),false)
    else
     if decide (((nth x0 t_12).At)≤t_10) then
      some (([]:List Int),false)
     else
      (D5 K ((nth x0 t_12).At)).bind fun r36 =>
      if (!r36) then
       some (([]:List Int),false)
      else
       (D5 K (wr .i64 ((wr .i64 (((nth x0 t_12).At)+((nth x0 t_12).Len)))-1))).bind fun r46 =>
       if (!r46) then
        some (([]:List Int),false)
       else
        Cg.l2 K (Cg.l1 K x0 x1 k) t_11 t_12 x0 x1 K (wr .i64 (((nth x0 t_12).At)+((nth x0 t_12).Len))) ((nth x0 t_12).At) t_16
   else none
  else
   if t_16.length<4611686018427387904 then
   (Df K x1).bind fun r70 =>
   if r70 then
    (Df K (sortF t_16)).bind fun r73 =>
    some (sortF t_16,r73)
   else
    some (sortF t_16,false)
   else none
def Cg (K:Nat) (x0:List Ai) (x1:List Int):Option ((List Int) × Bool) :=
 (Cl K x1).bind fun r12 =>
 Cg.l1 K x0 x1 K ((-1):Int) ((x0.length:Nat):Int) (0:Int) r12
abbrev Aq.sg:Sig:=⟨[(.one,(.sl Cr)),(.one,(.sl Cr))],[],[(.one,.bool)],[]⟩
def Aq.l1 (K:Nat) (x0:List Ai) (x1:List Ai):Nat→Int→Int→Option Bool
 | 0,_,_=>none
 | k+1,t_10,t_11 =>
  if decide (t_11<t_10) then
   if (0:Int)≤t_11∧t_11<((x0.length:Nat):Int) then
   if (0:Int)≤t_11∧t_11<((x1.length:Nat):Int) then
   if (!((((nth x0 t_11).At) == ((nth x1 t_11).At)) && ((((nth x0 t_11).Len) == ((nth x1 t_11).Len)) && true))) then
    some false
   else
    Aq.l1 K x0 x1 k t_10 (wr .i64 (t_11+1))
   else none
   else none
  else
   some true
def Aq (K:Nat) (x0:List Ai) (x1:List Ai):Option Bool :=
 if (((x0.length:Nat):Int) != ((x1.length:Nat):Int)) then
  some false
 else
  Aq.l1 K x0 x1 K ((x0.length:Nat):Int) (0:Int)
abbrev A9.sg:Sig:=⟨[(.one,(.sl (.int .i64))),(.one,(.sl (.int .i64)))],[],[(.one,.bool)],[]⟩
def A9.l1 (K:Nat) (x0:List Int) (x1:List Int):Nat→Int→Int→Option Bool
 | 0,_,_=>none
 | k+1,t_10,t_11 =>
  if decide (t_11<t_10) then
   if (0:Int)≤t_11∧t_11<((x0.length:Nat):Int) then
   if (0:Int)≤t_11∧t_11<((x1.length:Nat):Int) then
   if ((nth x0 t_11) != (nth x1 t_11)) then
    some false
   else
    A9.l1 K x0 x1 k t_10 (wr .i64 (t_11+1))
   else none
   else none
  else
   some true
def A9 (K:Nat) (x0:List Int) (x1:List Int):Option Bool :=
 if (((x0.length:Nat):Int) != ((x1.length:Nat):Int)) then
  some false
 else
  A9.l1 K x0 x1 K ((x0.length:Nat):Int) (0:Int)
abbrev Dz.sg:Sig:=⟨[(.agg,Cs),(.one,(.int .i64)),(.one,(.int .i64))],[],[(.one,(.sl (.int .i64))),(.one,(.int .i64)),(.one,.bool)],[.o]⟩
def Dz (K:Nat) (x0:Am) (x1:Int) (x2:Int):Option ((List Int) × Int × Bool) :=
 (B8 K x0 x1 x2).bind fun r17 =>
 if (!r17.2.2) then
  some (([]:List Int),0,false)
 else
  (B7 K x0 r17.2.1 x2).bind fun r27 =>
  if (!r27.2.2) then
   some (([]:List Int),0,false)
  else
   (Cg K r17.1 r27.1).bind fun r36 =>
   if (!r36.2) then
    some (([]:List Int),0,false)
   else
    (Ca K r36.1).bind fun r43 =>
    (Aq K r43.1 r17.1).bind fun r50 =>
    if r50 then
     (A9 K r43.2 r27.1).bind fun r54 =>
     some (r36.1,r27.2.1,r54)
    else
     some (r36.1,r27.2.1,false)
abbrev Dx.sg:Sig:=⟨[(.one,(.int .i64)),(.one,(.int .i64)),(.box,Cs)],[],[(.one,(.sl (.int .i64))),(.one,(.int .i64)),(.one,.bool)],[.o]⟩
def Dx (K:Nat) (x0:Int) (x1:Int) (x2:Am):Option ((List Int) × Int × Bool × Am) :=
 (Dz K x2 x0 x1).bind fun r11 =>
 some (r11.1,r11.2.1,r11.2.2,x2)
abbrev Dq.sg:Sig:=⟨[(.one,(.int .i64))],[],[(.agg,Bu)],[.s,.o]⟩
def Dq (K:Nat) (x0:Int):Option Aa :=
 if x0=x0∧(0:Int)≤x0∧(24:Int)*x0≤281474976710656∧x0≤9223372036854775807 then
 some ((x0,List.replicate x0.toNat ([]:List Int)):Aa)
 else none
abbrev Au.sg:Sig:=⟨[(.one,(.int .i64)),(.one,(.int .i64)),(.one,(.int .i64)),(.fn 140 1,.un),(.hid,Cs)],[],[(.agg,Bu),(.one,(.int .i64)),(.one,.bool)],[.s,.o]⟩
def Au.l1 (K:Nat) (r17:Aa) (x1:Int):Nat→Int→Int→ByteArray→Int→Int→(List (List Int))→Option (Aa × Int × Bool × Am)
 | 0,_,_,_,_,_,_=>none
 | k+1,at_14,t_11,h_12,h_13,t_10,g_15 =>
  if decide (t_11<x1) then
   (Dx K at_14 t_11 ((h_12,h_13):Am)).bind fun r26 =>
   if (!r26.2.2.1) then
    some (((0,([]:List (List Int))):Aa),0,false,r26.2.2.2)
   else
    if (0:Int)≤t_11∧t_11<((g_15.length:Nat):Int) then
    Au.l1 K r17 x1 k r26.2.1 (wr .i64 (t_11+1)) r26.2.2.2.Data r26.2.2.2.N t_10 ((g_15).set t_11.toNat r26.1)
    else none
  else
   (C1 K ((r17.N,g_15):Aa)).bind fun r43 =>
   some (((r17.N,g_15):Aa),at_14,r43,((h_12,h_13):Am))
def Au (K:Nat) (x0:Int) (x1:Int) (x2:Int) (x4:Am):Option (Aa × Int × Bool × Am) :=
 (Dq K x0).bind fun r17 =>
 Au.l1 K r17 x1 K x2 (0:Int) x4.Data x4.N (0:Int) r17.Out
abbrev Eb.sg:Sig:=⟨[(.agg,Cs)],[],[(.agg,Bu),(.one,.bool)],[.s,.o]⟩
def Eb (K:Nat) (x0:Am):Option (Aa × Bool) :=
 (Du K x0).bind fun r11 =>
 if (!r11.2.2) then
  some (((0,([]:List (List Int))):Aa),false)
 else
  (Au K r11.1 r11.1 r11.2.1 x0).bind fun r23 =>
  if r23.2.2.1 then
   some (r23.1,(r23.2.1 == r23.2.2.2.N))
  else
   some (r23.1,false)
abbrev Ef.sg:Sig:=⟨[(.agg,Bu),(.one,(.int .i64))],[],[(.one,.bool)],[]⟩
def Ef (K:Nat) (x0:Aa) (x1:Int):Option Bool :=
 if decide (x1≥0) then
  some (decide (x1<x0.N))
 else
  some false
abbrev D1.sg:Sig:=⟨[(.agg,Bu),(.one,(.int .i64))],[],[(.one,(.sl (.int .i64)))],[]⟩
def D1 (K:Nat) (x0:Aa) (x1:Int):Option (List Int) :=
 (Ef K x0 x1).bind fun r7 =>
 if (!r7) then
  some ([]:List Int)
 else
  if (0:Int)≤x1∧x1<((x0.Out.length:Nat):Int) then
  some (nth x0.Out x1)
  else none
abbrev Bd.sg:Sig:=⟨[(.one,(.sl (.int .i64))),(.one,(.int .i64))],[],[(.one,(.int .i64))],[]⟩
def Bd.l1 (K:Nat) (x0:List Int) (x1:Int):Nat→Int→Int→Option Int
 | 0,_,_=>none
 | k+1,t_10,t_11 =>
  if decide (t_11<t_10) then
   if (0:Int)≤t_11∧t_11<((x0.length:Nat):Int) then
   if (x1 == (nth x0 t_11)) then
    some t_11
   else
    Bd.l1 K x0 x1 k t_10 (wr .i64 (t_11+1))
   else none
  else
   some ((-1):Int)
def Bd (K:Nat) (x0:List Int) (x1:Int):Option Int :=
 Bd.l1 K x0 x1 K ((x0.length:Nat):Int) (0:Int)
abbrev Ch.sg:Sig:=⟨[(.one,(.sl (.int .i64))),(.one,(.int .i64))],[],[(.one,.bool)],[]⟩
def Ch (K:Nat) (x0:List Int) (x1:Int):Option Bool :=
 (Bd K x0 x1).bind fun r7 =>
 some (decide (r7≥0))
abbrev B5.sg:Sig:=⟨[(.one,(.sl (.int .i64))),(.one,(.sl (.int .i64)))],[],[(.one,(.sl (.int .i64))),(.one,(.sl (.int .i64)))],[.o,.o]⟩
def B5.l2 (K:Nat) (x0:List Int) (x1:List Int):Nat→Int→Int→(List Int)→(List Int)→Option ((List Int) × (List Int))
 | 0,_,_,_,_=>none
 | k+1,t_13,t_14,blocks_18,rest_17 =>
  if decide (t_14<t_13) then
   if (0:Int)≤t_14∧t_14<((x1.length:Nat):Int) then
   (Ch K x0 (nth x1 t_14)).bind fun r40 =>
   if (!r40) then
    if (rest_17.length+([nth x1 t_14]:List Int).length)*8≤140737488355328 then
    B5.l2 K x0 x1 k t_13 (wr .i64 (t_14+1)) blocks_18 (rest_17++([nth x1 t_14]:List Int))
    else none
   else
    B5.l2 K x0 x1 k t_13 (wr .i64 (t_14+1)) blocks_18 rest_17
   else none
  else
   some (blocks_18,rest_17)
def B5.l1 (K:Nat) (x0:List Int) (x1:List Int):Nat→Bool→Int→Int→Int→(List Int)→Option ((List Int) × (List Int))
 | 0,_,_,_,_,_=>none
 | k+1,in_16,many_10,t_11,t_12,blocks_15 =>
  if decide (t_12<t_11) then
   if (0:Int)≤t_12∧t_12<((x0.length:Nat):Int) then
   (Ch K x1 (nth x0 t_12)).bind fun r20 =>
   if (!(r20 == in_16)) then
    if (blocks_15.length+([many_10]:List Int).length)*8≤140737488355328 then
    B5.l1 K x0 x1 k (!in_16) (wr .i64 ((0:Int)+1)) t_11 (wr .i64 (t_12+1)) (blocks_15++([many_10]:List Int))
    else none
   else
    B5.l1 K x0 x1 k in_16 (wr .i64 (many_10+1)) t_11 (wr .i64 (t_12+1)) blocks_15
   else none
  else
   B5.l2 K x0 x1 K ((x1.length:Nat):Int) (0:Int) blocks_15 ([]:List Int)
def B5 (K:Nat) (x0:List Int) (x1:List Int):Option ((List Int) × (List Int)) :=
 B5.l1 K x0 x1 K true (0:Int) ((x0.length:Nat):Int) (0:Int) ([]:List Int)
abbrev Bf.sg:Sig:=⟨[(.one,(.sl (.int .i64))),(.one,(.sl (.int .i64))),(.one,(.sl (.int .i64)))],[],[(.one,(.sl (.int .i64))),(.one,.bool)],[.o]⟩
def Bf.j3 (K:Nat) (x0:List Int) (x1:List Int) (x2:List Int) (t_14:List Int):Option ((List Int) × Bool) :=
 if t_14.length<4611686018427387904 then
 (Df K (sortF t_14)).bind fun r51 =>
 if (!r51) then
  some (([]:List Int),false)
 else
  (B5 K x0 (sortF t_14)).bind fun r56 =>
  (A9 K r56.1 x1).bind fun r62 =>
  if r62 then
   (A9 K r56.2 x2).bind fun r66 =>
   some (sortF t_14,r66)
  else
   some (sortF t_14,false)
 else none
def Bf.j2 (K:Nat) (go_l1:(List Int)→Bool→Int→Int→(List Int)→Option ((List Int) × Bool)) (t_10:Int) (t_11:Int) (t_16:List Int) (t_17:Bool) (x0:List Int) (x1:List Int) (x2:List Int) (t_13:Int) (t_12:List Int):Option ((List Int) × Bool) :=
 if (0:Int)≤t_13∧t_13≤((t_16.length:Nat):Int)∧((t_16.length:Nat):Int)≤((t_16.length:Nat):Int) then
 go_l1 (((t_16).drop t_13.toNat).take (((t_16.length:Nat):Int).toNat-t_13.toNat)) (!t_17) t_10 (wr .i64 (t_11+1)) t_12
 else none
def Bf.l1 (K:Nat) (x0:List Int) (x1:List Int) (x2:List Int):Nat→(List Int)→Bool→Int→Int→(List Int)→Option ((List Int) × Bool)
 | 0,_,_,_,_,_=>none
 | k+1,t_16,t_17,t_10,t_11,t_15 =>
  if decide (t_11<t_10) then
   if (0:Int)≤t_11∧t_11<((x1.length:Nat):Int) then
   if decide ((nth x1 t_11)<0) then
    some (([]:List Int),false)
   else
    if decide ((nth x1 t_11) > ((t_16.length:Nat):Int)) then
     some (([]:List Int),false)
    else
     if t_17 then
      if (0:Int)≤(0:Int)∧(0:Int)≤(nth x1 t_11)∧(nth x1 t_11)≤((t_16.length:Nat):Int) then
      if (t_15.length+(((t_16).drop (0:Int).toNat).take ((nth x1 t_11).toNat-(0:Int).toNat)).length)*8≤140737488355328 then
      Bf.j2 K (Bf.l1 K x0 x1 x2 k) t_10 t_11 t_16 t_17 x0 x1 x2 (nth x1 t_11) (t_15++(((t_16).drop (0:Int).toNat).take ((nth x1 t_11).toNat-(0:Int).toNat)))
      else none
      else none
     else
      Bf.j2 K (Bf.l1 K x0 x1 x2 k) t_10 t_11 t_16 t_17 x0 x1 x2 (nth x1 t_11) t_15
   else none
  else
   if t_17 then
    if (t_15.length+t_16.length)*8≤140737488355328 then
    Bf.j3 K x0 x1 x2 (t_15++t_16)
    else none
   else
    Bf.j3 K x0 x1 x2 t_15
def Bf (K:Nat) (x0:List Int) (x1:List Int) (x2:List Int):Option ((List Int) × Bool) :=
 (Cl K x2).bind fun r16 =>
 Bf.l1 K x0 x1 x2 K x0 true ((x1.length:Nat):Int) (0:Int) r16
abbrev Cj.sg:Sig:=⟨[(.agg,Cs),(.one,(.int .i64)),(.one,(.int .i64)),(.one,(.sl (.int .i64)))],[],[(.one,(.sl (.int .i64))),(.one,(.int .i64)),(.one,.bool)],[.o]⟩
def Cj.l1 (K:Nat) (x0:Am) (x2:Int) (x3:List Int):Nat→Int→Int→Int→(List Int)→Option ((List Int) × Int × Bool)
 | 0,_,_,_,_=>none
 | k+1,t_12,t_10,t_11,t_13 =>
  if decide (t_11<t_10) then
   (Ci K x0 t_12 2).bind fun r37 =>
   if (!r37.2.2) then
    some (([]:List Int),0,false)
   else
    if (t_11 == 0) then
     if (t_13.length+([wr .i64 (r37.1-1)]:List Int).length)*8≤140737488355328 then
     Cj.l1 K x0 x2 x3 k r37.2.1 t_10 (wr .i64 (t_11+1)) (t_13++([wr .i64 (r37.1-1)]:List Int))
     else none
    else
     if (t_13.length+([r37.1]:List Int).length)*8≤140737488355328 then
     Cj.l1 K x0 x2 x3 k r37.2.1 t_10 (wr .i64 (t_11+1)) (t_13++([r37.1]:List Int))
     else none
  else
   (Dz K x0 t_12 x2).bind fun r56 =>
   if (!r56.2.2) then
    some (([]:List Int),0,false)
   else
    (Bf K x3 t_13 r56.1).bind fun r66 =>
    some (r66.1,r56.2.1,r66.2)
def Cj (K:Nat) (x0:Am) (x1:Int) (x2:Int) (x3:List Int):Option ((List Int) × Int × Bool) :=
 (Ci K x0 x1 2).bind fun r19 =>
 if (!r19.2.2) then
  some (([]:List Int),0,false)
 else
  if decide (r19.1 > 17) then
   some (([]:List Int),0,false)
  else
   Cj.l1 K x0 x2 x3 K r19.2.1 (wr .i64 (r19.1-1)) (0:Int) ([]:List Int)
abbrev Dy.sg:Sig:=⟨[(.one,(.int .i64)),(.one,(.int .i64)),(.box,Cs),(.box,Bu)],[],[(.one,(.sl (.int .i64))),(.one,(.int .i64)),(.one,.bool)],[.o]⟩
def Dy (K:Nat) (x0:Int) (x1:Int) (x2:Am) (x3:Aa):Option ((List Int) × Int × Bool × Am × Aa) :=
 (D1 K x3 x1).bind fun r14 =>
 (Cj K x2 x0 x1 r14).bind fun r15 =>
 some (r15.1,r15.2.1,r15.2.2,x2,x3)
abbrev A5.sg:Sig:=⟨[(.one,(.int .i64)),(.one,(.int .i64)),(.one,(.int .i64)),(.fn 159 2,.un),(.hid,Cs),(.hid,Bu)],[],[(.agg,Bu),(.one,(.int .i64)),(.one,.bool)],[.s,.o]⟩
def A5.l1 (K:Nat) (r17:Aa) (x1:Int):Nat→Int→Int→ByteArray→Int→Int→(List (List Int))→Int→(List (List Int))→Option (Aa × Int × Bool × Am × Aa)
 | 0,_,_,_,_,_,_,_,_=>none
 | k+1,at_16,t_11,h_12,h_13,h_14,h_15,t_10,g_17 =>
  if decide (t_11<x1) then
   (Dy K at_16 t_11 ((h_12,h_13):Am) ((h_14,h_15):Aa)).bind fun r26 =>
   if (!r26.2.2.1) then
    some (((0,([]:List (List Int))):Aa),0,false,r26.2.2.2.1,r26.2.2.2.2)
   else
    if (0:Int)≤t_11∧t_11<((g_17.length:Nat):Int) then
    A5.l1 K r17 x1 k r26.2.1 (wr .i64 (t_11+1)) r26.2.2.2.1.Data r26.2.2.2.1.N r26.2.2.2.2.N r26.2.2.2.2.Out t_10 ((g_17).set t_11.toNat r26.1)
    else none
  else
   (C1 K ((r17.N,g_17):Aa)).bind fun r43 =>
   some (((r17.N,g_17):Aa),at_16,r43,((h_12,h_13):Am),((h_14,h_15):Aa))
def A5 (K:Nat) (x0:Int) (x1:Int) (x2:Int) (x4:Am) (x5:Aa):Option (Aa × Int × Bool × Am × Aa) :=
 (Dq K x0).bind fun r17 =>
 A5.l1 K r17 x1 K x2 (0:Int) x4.Data x4.N x5.N x5.Out (0:Int) r17.Out
abbrev Ec.sg:Sig:=⟨[(.agg,Bu),(.agg,Cs)],[],[(.agg,Bu),(.one,.bool)],[.s,.o]⟩
def Ec (K:Nat) (x0:Aa) (x1:Am):Option (Aa × Bool) :=
 (Du K x1).bind fun r13 =>
 if (!r13.2.2) then
  some (((0,([]:List (List Int))):Aa),false)
 else
  (A5 K r13.1 r13.1 r13.2.1 x1 x0).bind fun r25 =>
  if r25.2.2.1 then
   some (r25.1,(r25.2.1 == r25.2.2.2.1.N))
  else
   some (r25.1,false)
abbrev Dn.sg:Sig:=⟨[(.one,(.sl A0)),(.one,(.int .i64))],[],[(.agg,Bu),(.one,(.int .i64))],[.s,.o]⟩
def Dn.l1 (K:Nat):List Af→Int→Int→Int→(List (List Int))→Option (Aa × Int)
 | [],t_10,t_11,g_12,g_13 =>
  some (((g_12,g_13):Aa),0)
 | el_21::k,t_10,t_11,g_12,g_13 =>
  if (el_21.Base == 0) then
   (Eb K el_21.Data).bind fun r34 =>
   if (!r34.2) then
    some (((0,([]:List (List Int))):Aa),9)
   else
    Dn.l1 K k t_10 t_11 r34.1.N r34.1.Out
  else
   (Ec K ((g_12,g_13):Aa) el_21.Data).bind fun r41 =>
   if (!r41.2) then
    some (((0,([]:List (List Int))):Aa),9)
   else
    Dn.l1 K k t_10 t_11 r41.1.N r41.1.Out
def Dn (K:Nat) (x0:List Af) (x1:Int):Option (Aa × Int) :=
 (D4 K x0 x1).bind fun r15 =>
 if (r15.2 != 0) then
  some (((0,([]:List (List Int))):Aa),r15.2)
 else
  (Dh K x0 x1 3).bind fun r24 =>
  if r24.length<4611686018427387904 then
  Dn.l1 K (List.reverse r24) (0:Int) (0:Int) (0:Int) ([]:List (List Int))
  else none
abbrev Dc.sg:Sig:=⟨[(.box,Eg),(.one,(.int .i64)),(.one,(.sl (.int .i64))),(.one,(.sl (.int .i64)))],[.o],[],[.o]⟩
def Dc.l1 (K:Nat) (r15:(List Int) × (List Int)) (x1:Int):Nat→Int→Int→Int→(List Int)→Option Cd
 | 0,_,_,_,_=>none
 | k+1,t_10,t_11,h_13,h_12 =>
  if decide (t_11<t_10) then
   if (0:Int)≤t_11∧t_11<((r15.1.length:Nat):Int) then
   if (t_11 == 0) then
    (Cn K ((h_12,h_13):Cd) 2 (wr .i64 ((nth r15.1 t_11)+1))).bind fun r36 =>
    Dc.l1 K r15 x1 k t_10 (wr .i64 (t_11+1)) r36.n r36.data
   else
    (Cn K ((h_12,h_13):Cd) 2 (nth r15.1 t_11)).bind fun r36 =>
    Dc.l1 K r15 x1 k t_10 (wr .i64 (t_11+1)) r36.n r36.data
   else none
  else
   (Co K ((h_12,h_13):Cd) x1 r15.2).bind fun r41 =>
   some r41
def Dc (K:Nat) (x0:Cd) (x1:Int) (x2:List Int) (x3:List Int):Option Cd :=
 (B5 K x2 x3).bind fun r15 =>
 (Cn K x0 2 (wr .i64 (((r15.1.length:Nat):Int)+1))).bind fun r22 =>
 Dc.l1 K r15 x1 K ((r15.1.length:Nat):Int) (0:Int) r22.n r22.data
abbrev C6.sg:Sig:=⟨[(.agg,Bu),(.agg,Bu)],[],[(.agg,Cs)],[]⟩
def C6.l1 (K:Nat) (x0:Aa) (x1:Aa):Nat→Int→Int→ByteArray→Int→Int→(List Int)→Option Am
 | 0,_,_,_,_,_,_=>none
 | k+1,t_12,t_13,t_10,t_11,r_15,r_14 =>
  if decide (t_13<t_12) then
   if (0:Int)≤t_13∧t_13<((x1.Out.length:Nat):Int) then
   (D1 K x0 t_13).bind fun r29 =>
   (Dc K ((r_14,r_15):Cd) t_13 r29 (nth x1.Out t_13)).bind fun r31 =>
   C6.l1 K x0 x1 k t_12 (wr .i64 (t_13+1)) t_10 t_11 r31.n r31.data
   else none
  else
   (Da K ((r_14,r_15):Cd)).bind fun r35 =>
   some r35.1
def C6 (K:Nat) (x0:Aa) (x1:Aa):Option Am :=
 (Cn K ((([]:List Int),0):Cd) 2 (wr .i64 (x1.N+1))).bind fun r16 =>
 C6.l1 K x0 x1 K ((x1.Out.length:Nat):Int) (0:Int) ByteArray.empty (0:Int) r16.n r16.data
abbrev C7.sg:Sig:=⟨[(.one,(.sl A0)),(.one,(.int .i64)),(.agg,Bu)],[],[(.agg,A0),(.one,(.int .i64))],[]⟩
def C7.j1 (K:Nat) (r24:Am) (x0:List Af) (x1:Int) (x2:Aa) (t_10:Int) (t_11:Int) (t_12:ByteArray) (t_13:Int) (t_14:Int) (t_15:Int):Option (Af × Int) :=
 if decide (((x0.length:Nat):Int)≥12) then
  some (((0,0,((ByteArray.empty,0):Am)):Af),2)
 else
  if decide (t_14 > 1048576) then
   some (((0,0,((ByteArray.empty,0):Am)):Af),2)
  else
   if (x1 == 0) then
    some (((t_14,t_15,r24):Af),0)
   else
    (Dn K x0 x1).bind fun r53 =>
    if (r53.2 != 0) then
     some (((0,0,((ByteArray.empty,0):Am)):Af),r53.2)
    else
     (D4 K x0 x1).bind fun r63 =>
     (C6 K r53.1 x2).bind fun r68 =>
     if decide (r63.1<3) then
      if decide (r68.N<r24.N) then
       some (((t_14,x1,r68):Af),0)
      else
       some (((t_14,t_15,r24):Af),0)
     else
      some (((t_14,t_15,r24):Af),0)
def C7 (K:Nat) (x0:List Af) (x1:Int) (x2:Aa):Option (Af × Int) :=
 (C8 K x0).bind fun r15 =>
 if (!r15) then
  some (((0,0,((ByteArray.empty,0):Am)):Af),1)
 else
  (C1 K x2).bind fun r19 =>
  if (!r19) then
   some (((0,0,((ByteArray.empty,0):Am)):Af),1)
  else
   (Ea K x2).bind fun r24 =>
   if decide (((x0.length:Nat):Int) > 0) then
    if (0:Int)≤(wr .i64 (((x0.length:Nat):Int)-1))∧(wr .i64 (((x0.length:Nat):Int)-1))<((x0.length:Nat):Int) then
    C7.j1 K r24 x0 x1 x2 (0:Int) (0:Int) ByteArray.empty (0:Int) (wr .i64 (((nth x0 (wr .i64 (((x0.length:Nat):Int)-1))).ID)+1)) (0:Int)
    else none
   else
    C7.j1 K r24 x0 x1 x2 (0:Int) (0:Int) ByteArray.empty (0:Int) (1:Int) (0:Int)
abbrev Cf.sg:Sig:=⟨[(.one,(.int .i64)),(.one,(.int .i64)),(.one,(.int .i64))],[],[(.one,.bool)],[]⟩
def Cf (K:Nat) (x0:Int) (x1:Int) (x2:Int):Option Bool :=
 if decide (x0≥x1) then
  some (decide (x0≤x2))
 else
  some false
abbrev Bw.sg:Sig:=⟨[(.one,(.sl A0)),(.one,(.int .i64))],[],[(.one,(.int .i64))],[]⟩
def Bw.l1 (K:Nat) (x0:List Af) (x1:Int):Nat→Int→Option Int
 | 0,_=>none
 | k+1,i_10 =>
  if decide (i_10<((x0.length:Nat):Int)) then
   if (0:Int)≤i_10∧i_10<((x0.length:Nat):Int) then
   if (((nth x0 i_10).ID) == x1) then
    some i_10
   else
    Bw.l1 K x0 x1 k (wr .i64 (i_10+1))
   else none
  else
   some ((-1):Int)
def Bw (K:Nat) (x0:List Af) (x1:Int):Option Int :=
 Bw.l1 K x0 x1 K (0:Int)
abbrev Cv.sg:Sig:=⟨[(.one,(.int .i64)),(.one,(.int .i64))],[],[(.one,.bool)],[]⟩
def Cv (K:Nat) (x0:Int) (x1:Int):Option Bool :=
 if decide (x0≥0) then
  some (decide (x0≤x1))
 else
  some false
abbrev Db.sg:Sig:=⟨[(.agg,Cs),(.one,(.int .i64))],[],[(.one,(.int .i64))],[]⟩
def Db (K:Nat) (x0:Am) (x1:Int):Option Int :=
 if (8:Int)≠0 then
 if (0:Int)≤(wr .i64 (x1.tdiv 8))∧(wr .i64 (x1.tdiv 8))<((x0.Data.size:Nat):Int) then
 if (8:Int)≠0 then
 if (0:Int)≤(wr .i64 (7-(x1.tmod 8))) then
 some (ib .and .i64 ((wr .i64 (bt x0.Data (wr .i64 (x1.tdiv 8)))).fdiv (2 ^ min ((wr .i64 (7-(x1.tmod 8)))).toNat 64)) 1)
 else none
 else none
 else none
 else none
abbrev Bo.sg:Sig:=⟨[(.agg,Cs)],[],[(.one,.bool)],[]⟩
def Bo.l1 (K:Nat) (x0:Am):Nat→Int→Option Bool
 | 0,_=>none
 | k+1,i_10 =>
  if decide (i_10<(wr .i64 (8*((x0.Data.size:Nat):Int)))) then
   (Db K x0 i_10).bind fun r30 =>
   if (r30 != 0) then
    some false
   else
    Bo.l1 K x0 k (wr .i64 (i_10+1))
  else
   some true
def Bo (K:Nat) (x0:Am):Option Bool :=
 (Cv K x0.N 6000).bind fun r6 =>
 if (!r6) then
  some false
 else
  if (8:Int)≠0 then
  if (((x0.Data.size:Nat):Int) != (wr .i64 ((wr .i64 (x0.N+7)).tdiv 8))) then
   some false
  else
   Bo.l1 K x0 K x0.N
  else none
abbrev Bh.sg:Sig:=⟨[(.one,(.sl A0))],[],[(.one,.bool)],[]⟩
def Bh.l1 (K:Nat) (x0:List Af):Nat→Int→Option Bool
 | 0,_=>none
 | k+1,i_10 =>
  if decide (i_10<((x0.length:Nat):Int)) then
   if (0:Int)≤i_10∧i_10<((x0.length:Nat):Int) then
   (Cf K ((nth x0 i_10).ID) 1 1048576).bind fun r20 =>
   if (!r20) then
    some false
   else
    if decide (i_10 > 0) then
     if (0:Int)≤(wr .i64 (i_10-1))∧(wr .i64 (i_10-1))<((x0.length:Nat):Int) then
     if decide (((nth x0 (wr .i64 (i_10-1))).ID)≥((nth x0 i_10).ID)) then
      some false
     else
      if (((nth x0 i_10).Base) == ((nth x0 i_10).ID)) then
       some false
      else
       if (((nth x0 i_10).Base) != 0) then
        (Bw K x0 ((nth x0 i_10).Base)).bind fun r52 =>
        if decide (r52<0) then
         some false
        else
         (Bo K ((nth x0 i_10).Data)).bind fun r59 =>
         if (!r59) then
          some false
         else
          Bh.l1 K x0 k (wr .i64 (i_10+1))
       else
        (Bo K ((nth x0 i_10).Data)).bind fun r59 =>
        if (!r59) then
         some false
        else
         Bh.l1 K x0 k (wr .i64 (i_10+1))
     else none
    else
     if (((nth x0 i_10).Base) == ((nth x0 i_10).ID)) then
      some false
     else
      if (((nth x0 i_10).Base) != 0) then
       (Bw K x0 ((nth x0 i_10).Base)).bind fun r52 =>
       if decide (r52<0) then
        some false
       else
        (Bo K ((nth x0 i_10).Data)).bind fun r59 =>
        if (!r59) then
         some false
        else
         Bh.l1 K x0 k (wr .i64 (i_10+1))
      else
       (Bo K ((nth x0 i_10).Data)).bind fun r59 =>
       if (!r59) then
        some false
       else
        Bh.l1 K x0 k (wr .i64 (i_10+1))
   else none
  else
   some true
def Bh (K:Nat) (x0:List Af):Option Bool :=
 if decide (((x0.length:Nat):Int) > 12) then
  some false
 else
  Bh.l1 K x0 K (0:Int)
abbrev Cq.sg:Sig:=⟨[(.one,(.int .i64))],[],[(.one,.bool)],[]⟩
def Cq (K:Nat) (x0:Int):Option Bool :=
 (Cv K x0 15).bind fun r4 =>
 some r4
abbrev Bn.sg:Sig:=⟨[(.one,(.sl (.int .i64)))],[],[(.one,.bool)],[]⟩
def Bn.l1 (K:Nat) (x0:List Int):Nat→Int→Option Bool
 | 0,_=>none
 | k+1,i_10 =>
  if decide (i_10<((x0.length:Nat):Int)) then
   if decide (i_10≤16) then
    if (0:Int)≤i_10∧i_10<((x0.length:Nat):Int) then
    (Cq K (nth x0 i_10)).bind fun r18 =>
    if (!r18) then
     some false
    else
     if decide (i_10 > 0) then
      if (0:Int)≤(wr .i64 (i_10-1))∧(wr .i64 (i_10-1))<((x0.length:Nat):Int) then
      if (0:Int)≤i_10∧i_10<((x0.length:Nat):Int) then
      if decide ((nth x0 (wr .i64 (i_10-1)))≥(nth x0 i_10)) then
       some false
      else
       Bn.l1 K x0 k (wr .i64 (i_10+1))
      else none
      else none
     else
      Bn.l1 K x0 k (wr .i64 (i_10+1))
    else none
   else
    some (decide (((x0.length:Nat):Int)≤16))
  else
   some (decide (((x0.length:Nat):Int)≤16))
def Bn (K:Nat) (x0:List Int):Option Bool :=
 Bn.l1 K x0 K (0:Int)
abbrev B4.sg:Sig:=⟨[(.agg,Bu)],[],[(.one,(.int .i64))],[]⟩
def B4.l1 (K:Nat) (x0:Aa):Nat→Int→Int→Option Int
 | 0,_,_=>none
 | k+1,n_10,i_11 =>
  if decide (i_11<((x0.Out.length:Nat):Int)) then
   if (0:Int)≤i_11∧i_11<((x0.Out.length:Nat):Int) then
   B4.l1 K x0 k (wr .i64 (n_10+(((nth x0.Out i_11).length:Nat):Int))) (wr .i64 (i_11+1))
   else none
  else
   some n_10
def B4 (K:Nat) (x0:Aa):Option Int :=
 B4.l1 K x0 K (0:Int) (0:Int)
abbrev Bm.sg:Sig:=⟨[(.agg,Bu)],[],[(.one,.bool)],[]⟩
def Bm.l1 (K:Nat) (x0:Aa):Nat→Int→Option Bool
 | 0,_=>none
 | k+1,i_10 =>
  if decide (i_10<x0.N) then
   if (0:Int)≤i_10∧i_10<((x0.Out.length:Nat):Int) then
   (Bn K (nth x0.Out i_10)).bind fun r27 =>
   if (!r27) then
    some false
   else
    if (0:Int)≤i_10∧i_10<((x0.Out.length:Nat):Int) then
    if decide ((((nth x0.Out i_10).length:Nat):Int) > 0) then
     if (0:Int)≤i_10∧i_10<((x0.Out.length:Nat):Int) then
     if (0:Int)≤i_10∧i_10<((x0.Out.length:Nat):Int) then
     if (0:Int)≤(wr .i64 ((((nth x0.Out i_10).length:Nat):Int)-1))∧(wr .i64 ((((nth x0.Out i_10).length:Nat):Int)-1))<(((nth x0.Out i_10).length:Nat):Int) then
     if decide ((nth (nth x0.Out i_10) (wr .i64 ((((nth x0.Out i_10).length:Nat):Int)-1)))≥x0.N) then
      some false
     else
      Bm.l1 K x0 k (wr .i64 (i_10+1))
     else none
     else none
     else none
    else
     Bm.l1 K x0 k (wr .i64 (i_10+1))
    else none
   else none
  else
   (B4 K x0).bind fun r58 =>
   some (decide (r58≤120))
def Bm (K:Nat) (x0:Aa):Option Bool :=
 (Cv K x0.N 16).bind fun r6 =>
 if (!r6) then
  some false
 else
  if (((x0.Out.length:Nat):Int) != x0.N) then
   some false
  else
   Bm.l1 K x0 K (0:Int)
abbrev Bv.sg:Sig:=⟨[(.one,(.sl A0)),(.one,(.int .i64))],[],[(.one,(.int .i64)),(.one,(.int .i64))],[]⟩
def Bv.l1 (K:Nat) (x0:List Af):Nat→Int→Int→Option (Int × Int)
 | 0,_,_=>none
 | k+1,id_11,n_10 =>
  if (id_11 != 0) then
   if decide ((wr .i64 (n_10+1)) > 3) then
    some (0,2)
   else
    (Bw K x0 id_11).bind fun r20 =>
    if (0:Int)≤r20∧r20<((x0.length:Nat):Int) then
    Bv.l1 K x0 k ((nth x0 r20).Base) (wr .i64 (n_10+1))
    else none
  else
   some (n_10,0)
def Bv (K:Nat) (x0:List Af) (x1:Int):Option (Int × Int) :=
 (Bw K x0 x1).bind fun r9 =>
 if decide (r9<0) then
  some (0,3)
 else
  Bv.l1 K x0 K x1 (0:Int)
abbrev Cb.sg:Sig:=⟨[(.agg,Cs)],[],[(.one,(.sl (.int .u8)))],[.o]⟩
def Cb.l1 (K:Nat) (x0:Am):Nat→Int→(List Int)→Option (List Int)
 | 0,_,_=>none
 | k+1,i_10,l_11 =>
  if decide (i_10<x0.N) then
   (Db K x0 i_10).bind fun r14 =>
   if (l_11.length+([wr .u8 r14]:List Int).length)*1≤140737488355328 then
   Cb.l1 K x0 k (wr .i64 (i_10+1)) (l_11++([wr .u8 r14]:List Int))
   else none
  else
   some l_11
def Cb (K:Nat) (x0:Am):Option (List Int) :=
 Cb.l1 K x0 K (0:Int) ([]:List Int)
abbrev Ax.sg:Sig:=⟨[(.one,(.sl (.int .u8))),(.one,(.int .i64))],[],[(.one,(.int .i64))],[]⟩
def Ax.l1 (K:Nat) (x0:List Int) (x1:Int):Nat→Int→Option Int
 | 0,_=>none
 | k+1,i_10 =>
  if decide (i_10<((x0.length:Nat):Int)) then
   if (0:Int)≤i_10∧i_10<((x0.length:Nat):Int) then
   if ((nth x0 i_10) == 1) then
    some (wr .i64 (i_10-x1))
   else
    Ax.l1 K x0 x1 k (wr .i64 (i_10+1))
   else none
  else
   some ((-1):Int)
def Ax (K:Nat) (x0:List Int) (x1:Int):Option Int :=
 Ax.l1 K x0 x1 K x1
abbrev A7.sg:Sig:=⟨[(.one,(.sl (.int .u8))),(.one,(.int .i64)),(.one,(.int .i64))],[],[(.one,(.int .i64))],[]⟩
def A7.l1 (K:Nat) (x0:List Int) (x1:Int) (x2:Int):Nat→Int→Int→Option Int
 | 0,_,_=>none
 | k+1,v_10,i_11 =>
  if decide (i_11<(wr .i64 (x1+x2))) then
   if (0:Int)≤i_11∧i_11<((x0.length:Nat):Int) then
   A7.l1 K x0 x1 x2 k (wr .i64 ((wr .i64 (2*v_10))+(wr .i64 (nth x0 i_11)))) (wr .i64 (i_11+1))
   else none
  else
   some v_10
def A7 (K:Nat) (x0:List Int) (x1:Int) (x2:Int):Option Int :=
 A7.l1 K x0 x1 x2 K (0:Int) x1
abbrev Av.sg:Sig:=⟨[(.one,(.int .i64))],[],[(.one,(.int .i64))],[]⟩
def Av.l1 (K:Nat):Nat→Int→Int→Option Int
 | 0,_,_=>none
 | k+1,n_11,k_10 =>
  if decide (n_11 > 1) then
   if (0:Int)≤1 then
   Av.l1 K k (n_11.fdiv (2 ^ min ((1:Int)).toNat 64)) (wr .i64 (k_10+1))
   else none
  else
   some k_10
def Av (K:Nat) (x0:Int):Option Int :=
 Av.l1 K K x0 (0:Int)
abbrev Di.sg:Sig:=⟨[(.one,(.int .i64)),(.one,(.int .i64))],[],[(.one,.bool)],[]⟩
def Di (K:Nat) (x0:Int) (x1:Int):Option Bool :=
 if (x0 == 1) then
  (Cf K x1 1 1000).bind fun r8 =>
  some r8
 else
  (Cf K x0 2 5).bind fun r10 =>
  if r10 then
   (Cf K x1 1 1073741824).bind fun r13 =>
   some r13
  else
   some false
abbrev Ac.sg:Sig:=⟨[(.one,(.sl (.int .u8))),(.one,(.int .i64)),(.one,(.int .i64))],[],[(.one,(.int .i64)),(.one,(.int .i64))],[]⟩
def Ac.j1 (K:Nat) (rec_:(List Int)→Int→Int→Option (Int × Int)) (x2:Int) (t_14:Int) (t_15:Int):Option (Int × Int) :=
 (Di K x2 t_14).bind fun r161 =>
 if (!r161) then
  some ((-1),0)
 else
  some (t_14,t_15)
def Ac.j3 (K:Nat) (rec_:(List Int)→Int→Int→Option (Int × Int)) (r19:Int) (t_11:Int) (x2:Int) (t_12:Int) (t_13:Int):Option (Int × Int) :=
 if (0:Int)≤(wr .i64 (r19*t_11)) then
 Ac.j1 K rec_ x2 (wr .i64 ((wr .i64 ((1:Int)*2 ^ min ((wr .i64 (r19*t_11))).toNat 64))+t_13)) t_12
 else none
def Ac.j2 (K:Nat) (rec_:(List Int)→Int→Int→Option (Int × Int)) (r19:Int) (x0:List Int) (x2:Int) (t_10:Int) (t_11:Int):Option (Int × Int) :=
 if decide (r19 > 15) then
  some ((-1),0)
 else
  if (0:Int)≤(wr .i64 ((wr .i64 (r19+1))*t_11)) then
  if (0:Int)≤(wr .i64 (r19*t_11)) then
  (Av K (wr .i64 ((wr .i64 ((wr .i64 ((1:Int)*2 ^ min ((wr .i64 ((wr .i64 (r19+1))*t_11))).toNat 64))-(wr .i64 ((1:Int)*2 ^ min ((wr .i64 (r19*t_11))).toNat 64))))-1))).bind fun r43 =>
  if decide ((wr .i64 ((wr .i64 (t_10+(wr .i64 (r43+1))))-1)) > ((x0.length:Nat):Int)) then
   some ((-1),0)
  else
   (A7 K x0 t_10 (wr .i64 ((wr .i64 (r43+1))-1))).bind fun r56 =>
   if (0:Int)≤(wr .i64 (r43+1)) then
   if decide (r56≥(wr .i64 ((wr .i64 ((1:Int)*2 ^ min ((wr .i64 (r43+1))).toNat 64))-(wr .i64 ((wr .i64 ((1:Int)*2 ^ min ((wr .i64 ((wr .i64 (r19+1))*t_11))).toNat 64))-(wr .i64 ((1:Int)*2 ^ min ((wr .i64 (r19*t_11))).toNat 64))))))) then
    if decide ((wr .i64 ((wr .i64 ((wr .i64 (t_10+(wr .i64 (r43+1))))-1))+1)) > ((x0.length:Nat):Int)) then
     some ((-1),0)
    else
     if (0:Int)≤(wr .i64 ((wr .i64 (t_10+(wr .i64 (r43+1))))-1))∧(wr .i64 ((wr .i64 (t_10+(wr .i64 (r43+1))))-1))<((x0.length:Nat):Int) then
     if (0:Int)≤(wr .i64 (r43+1)) then
     Ac.j3 K rec_ r19 t_11 x2 (wr .i64 ((wr .i64 ((wr .i64 (t_10+(wr .i64 (r43+1))))-1))+1)) (wr .i64 ((wr .i64 ((wr .i64 (2*r56))+(wr .i64 (nth x0 (wr .i64 ((wr .i64 (t_10+(wr .i64 (r43+1))))-1))))))-(wr .i64 ((wr .i64 ((1:Int)*2 ^ min ((wr .i64 (r43+1))).toNat 64))-(wr .i64 ((wr .i64 ((1:Int)*2 ^ min ((wr .i64 ((wr .i64 (r19+1))*t_11))).toNat 64))-(wr .i64 ((1:Int)*2 ^ min ((wr .i64 (r19*t_11))).toNat 64))))))))
     else none
     else none
   else
    Ac.j3 K rec_ r19 t_11 x2 (wr .i64 ((wr .i64 (t_10+(wr .i64 (r43+1))))-1)) r56
   else none
  else none
  else none
def Ac:Nat→(List Int)→Int→Int→Option (Int × Int)
 | 0,_,_,_=>none
 | K+1,x0,x1,x2 =>
  (Ax K x0 x1).bind fun r19 =>
  if decide (r19<0) then
   some ((-1),0)
  else
   if (x2 == 1) then
    Ac.j1 K (Ac K) x2 (wr .i64 (r19+1)) (wr .i64 ((wr .i64 (x1+r19))+1))
   else
    if (x2 == 2) then
     if decide (r19 > 30) then
      some ((-1),0)
     else
      if decide ((wr .i64 ((wr .i64 (x1+(wr .i64 (2*r19))))+1)) > ((x0.length:Nat):Int)) then
       some ((-1),0)
      else
       (A7 K x0 (wr .i64 (x1+r19)) (wr .i64 (r19+1))).bind fun r117 =>
       Ac.j1 K (Ac K) x2 r117 (wr .i64 ((wr .i64 (x1+(wr .i64 (2*r19))))+1))
    else
     if (x2 == 3) then
      ((Ac K) x0 x1 2).bind fun r128 =>
      if decide (r128.1<1) then
       some ((-1),0)
      else
       if decide (r128.1 > 31) then
        some ((-1),0)
       else
        if decide ((wr .i64 ((wr .i64 (r128.2+r128.1))-1)) > ((x0.length:Nat):Int)) then
         some ((-1),0)
        else
         if (0:Int)≤(wr .i64 (r128.1-1)) then
         (A7 K x0 r128.2 (wr .i64 (r128.1-1))).bind fun r153 =>
         Ac.j1 K (Ac K) x2 (wr .i64 ((wr .i64 ((1:Int)*2 ^ min ((wr .i64 (r128.1-1))).toNat 64))+r153)) (wr .i64 ((wr .i64 (r128.2+r128.1))-1))
         else none
     else
      if (x2 == 5) then
       Ac.j2 K (Ac K) r19 x0 x2 (wr .i64 ((wr .i64 (x1+r19))+1)) (3:Int)
      else
       Ac.j2 K (Ac K) r19 x0 x2 (wr .i64 ((wr .i64 (x1+r19))+1)) (2:Int)
abbrev Cw.sg:Sig:=⟨[(.one,(.int .i64))],[],[(.agg,Bu)],[.s,.o]⟩
def Cw (K:Nat) (x0:Int):Option Aa :=
 if x0=x0∧(0:Int)≤x0∧(24:Int)*x0≤281474976710656∧x0≤9223372036854775807 then
 some ((x0,List.replicate x0.toNat ([]:List Int)):Aa)
 else none
abbrev Cx.sg:Sig:=⟨[(.one,(.int .i64))],[],[(.one,(.int .i64))],[]⟩
def Cx (K:Nat) (x0:Int):Option Int :=
 if (2:Int)≠0 then
 if ((x0.tmod 2) == 0) then
  if (2:Int)≠0 then
  some (wr .i64 (x0.tdiv 2))
  else none
 else
  if (2:Int)≠0 then
  some (wr .i64 ((wr .i64 (0-(wr .i64 (x0+1)))).tdiv 2))
  else none
 else none
abbrev Bc.sg:Sig:=⟨[(.one,(.sl (.int .u8))),(.one,(.int .i64)),(.one,(.int .i64))],[],[(.one,(.sl (.int .i64))),(.one,(.int .i64)),(.one,.bool)],[.o]⟩
def Bc.l1 (K:Nat) (r18:Int × Int) (x0:List Int) (x2:Int):Nat→Int→Int→Int→(List Int)→Option ((List Int) × Int × Bool)
 | 0,_,_,_,_=>none
 | k+1,at_12,last_10,i_11,l_13 =>
  if decide (i_11<(wr .i64 (r18.1-1))) then
   (Ac K x0 at_12 2).bind fun r37 =>
   if decide (r37.1<1) then
    some (([]:List Int),0,false)
   else
    if (i_11 == 0) then
     (Cx K (wr .i64 (r37.1-1))).bind fun r48 =>
     if (l_13.length+([wr .i64 (x2+r48)]:List Int).length)*8≤140737488355328 then
     Bc.l1 K r18 x0 x2 k r37.2 (wr .i64 (x2+r48)) (wr .i64 (i_11+1)) (l_13++([wr .i64 (x2+r48)]:List Int))
     else none
    else
     if (l_13.length+([wr .i64 (last_10+r37.1)]:List Int).length)*8≤140737488355328 then
     Bc.l1 K r18 x0 x2 k r37.2 (wr .i64 (last_10+r37.1)) (wr .i64 (i_11+1)) (l_13++([wr .i64 (last_10+r37.1)]:List Int))
     else none
  else
   (Bn K l_13).bind fun r58 =>
   if (!r58) then
    some (([]:List Int),0,false)
   else
    some (l_13,at_12,true)
def Bc (K:Nat) (x0:List Int) (x1:Int) (x2:Int):Option ((List Int) × Int × Bool) :=
 (Ac K x0 x1 2).bind fun r18 =>
 if decide (r18.1<1) then
  some (([]:List Int),0,false)
 else
  if decide ((wr .i64 (r18.1-1)) > 16) then
   some (([]:List Int),0,false)
  else
   Bc.l1 K r18 x0 x2 K r18.2 (0:Int) (0:Int) ([]:List Int)
abbrev Ah.sg:Sig:=⟨[(.one,(.sl Cr)),(.one,(.sl (.int .i64)))],[],[(.one,(.sl (.int .i64))),(.one,.bool)],[.o]⟩
def Ah.l4 (K:Nat):Nat→Int→(List Bool)→(List Int)→Option ((List Int) × Bool)
 | 0,_,_,_=>none
 | k+1,t_16,t_20,t_19 =>
  if decide (t_16<16) then
   if ((0:Int)≤t_16∧t_16<((t_20.length:Nat):Int))∧t_20.length=16 then
   if nth t_20 t_16 then
    if (t_19.length+([t_16]:List Int).length)*8≤140737488355328 then
    Ah.l4 K k (wr .i64 (t_16+1)) t_20 (t_19++([t_16]:List Int))
    else none
   else
    Ah.l4 K k (wr .i64 (t_16+1)) t_20 t_19
   else none
  else
   some (t_19,true)
def Ah.l3 (K:Nat) (x1:List Int):Nat→Int→(List Bool)→Option ((List Int) × Bool)
 | 0,_,_=>none
 | k+1,t_15,t_18 =>
  if decide (t_15<((x1.length:Nat):Int)) then
   if (0:Int)≤t_15∧t_15<((x1.length:Nat):Int) then
   if ((0:Int)≤(nth x1 t_15)∧(nth x1 t_15)<((t_18.length:Nat):Int))∧t_18.length=16 then
   if nth t_18 (nth x1 t_15) then
    some (([]:List Int),false)
   else
    if (0:Int)≤t_15∧t_15<((x1.length:Nat):Int) then
    if ((0:Int)≤(nth x1 t_15)∧(nth x1 t_15)<((t_18.length:Nat):Int))∧t_18.length=16 then
    Ah.l3 K x1 k (wr .i64 (t_15+1)) ((t_18).set (nth x1 t_15).toNat true)
    else none
    else none
   else none
   else none
  else
   Ah.l4 K K (0:Int) t_18 ([]:List Int)
def Ah.l2 (K:Nat) (go_l1:Int→(List Bool)→Option ((List Int) × Bool)) (t_11:Int) (x0:List Ai) (x1:List Int):Nat→Int→(List Bool)→Int→Int→Option ((List Int) × Bool)
 | 0,_,_,_,_=>none
 | k+1,t_14,t_17,t_12,t_13 =>
  if decide (t_14<t_13) then
   if ((0:Int)≤(wr .i64 (t_12+t_14))∧(wr .i64 (t_12+t_14))<((t_17.length:Nat):Int))∧t_17.length=16 then
   Ah.l2 K go_l1 t_11 x0 x1 k (wr .i64 (t_14+1)) ((t_17).set (wr .i64 (t_12+t_14)).toNat true) t_12 t_13
   else none
  else
   go_l1 (wr .i64 (t_11+1)) t_17
def Ah.l1 (K:Nat) (x0:List Ai) (x1:List Int):Nat→Int→(List Bool)→Option ((List Int) × Bool)
 | 0,_,_=>none
 | k+1,t_11,t_10 =>
  if decide (t_11<((x0.length:Nat):Int)) then
   if (0:Int)≤t_11∧t_11<((x0.length:Nat):Int) then
   (Cq K ((nth x0 t_11).At)).bind fun r28 =>
   if (!r28) then
    some (([]:List Int),false)
   else
    if decide (((nth x0 t_11).Len)<3) then
     some (([]:List Int),false)
    else
     if decide (((nth x0 t_11).Len) > (wr .i64 (16-((nth x0 t_11).At)))) then
      some (([]:List Int),false)
     else
      if decide (t_11 > 0) then
       if (0:Int)≤(wr .i64 (t_11-1))∧(wr .i64 (t_11-1))<((x0.length:Nat):Int) then
       if (0:Int)≤(wr .i64 (t_11-1))∧(wr .i64 (t_11-1))<((x0.length:Nat):Int) then
       if decide (((nth x0 t_11).At)≤(wr .i64 (((nth x0 (wr .i64 (t_11-1))).At)+((nth x0 (wr .i64 (t_11-1))).Len)))) then
        some (([]:List Int),false)
       else
        Ah.l2 K (Ah.l1 K x0 x1 k) t_11 x0 x1 K (0:Int) t_10 ((nth x0 t_11).At) ((nth x0 t_11).Len)
       else none
       else none
      else
       Ah.l2 K (Ah.l1 K x0 x1 k) t_11 x0 x1 K (0:Int) t_10 ((nth x0 t_11).At) ((nth x0 t_11).Len)
   else none
  else
   Ah.l3 K x1 K (0:Int) t_10
def Ah (K:Nat) (x0:List Ai) (x1:List Int):Option ((List Int) × Bool) :=
 (Bn K x1).bind fun r14 =>
 if (!r14) then
  some (([]:List Int),false)
 else
  Ah.l1 K x0 x1 K (0:Int) (List.replicate 16 false)
abbrev Ar.sg:Sig:=⟨[(.one,(.sl (.int .i64)))],[],[(.one,(.sl Cr)),(.one,(.sl (.int .i64)))],[.o,.o]⟩
def Ar.l2 (K:Nat) (go_l1:Int→(List Ai)→(List Int)→Option ((List Ai) × (List Int))) (i_10:Int) (x0:List Int):Nat→Int→(List Ai)→(List Int)→Option ((List Ai) × (List Int))
 | 0,_,_,_=>none
 | k+1,k_11,r_14,rest_15 =>
  if decide (k_11<((x0.length:Nat):Int)) then
   if (0:Int)≤k_11∧k_11<((x0.length:Nat):Int) then
   if (0:Int)≤(wr .i64 (k_11-1))∧(wr .i64 (k_11-1))<((x0.length:Nat):Int) then
   if ((nth x0 k_11) == (wr .i64 ((nth x0 (wr .i64 (k_11-1)))+1))) then
    Ar.l2 K go_l1 i_10 x0 k (wr .i64 (k_11+1)) r_14 rest_15
   else
    if decide ((wr .i64 (k_11-i_10))≥3) then
     if (0:Int)≤i_10∧i_10<((x0.length:Nat):Int) then
     if (r_14.length+([((nth x0 i_10,wr .i64 (k_11-i_10)):Ai)]:List Ai).length)*16≤140737488355328 then
     go_l1 k_11 (r_14++([((nth x0 i_10,wr .i64 (k_11-i_10)):Ai)]:List Ai)) rest_15
     else none
     else none
    else
     if (0:Int)≤i_10∧i_10≤k_11∧k_11≤((x0.length:Nat):Int) then
     if (rest_15.length+(((x0).drop i_10.toNat).take (k_11.toNat-i_10.toNat)).length)*8≤140737488355328 then
     go_l1 k_11 r_14 (rest_15++(((x0).drop i_10.toNat).take (k_11.toNat-i_10.toNat)))
     else none
     else none
   else none
   else none
  else
   if decide ((wr .i64 (k_11-i_10))≥3) then
    if (0:Int)≤i_10∧i_10<((x0.length:Nat):Int) then
    if (r_14.length+([((nth x0 i_10,wr .i64 (k_11-i_10)):Ai)]:List Ai).length)*16≤140737488355328 then
    go_l1 k_11 (r_14++([((nth x0 i_10,wr .i64 (k_11-i_10)):Ai)]:List Ai)) rest_15
    else none
    else none
   else
    if (0:Int)≤i_10∧i_10≤k_11∧k_11≤((x0.length:Nat):Int) then
    if (rest_15.length+(((x0).drop i_10.toNat).take (k_11.toNat-i_10.toNat)).length)*8≤140737488355328 then
    go_l1 k_11 r_14 (rest_15++(((x0).drop i_10.toNat).take (k_11.toNat-i_10.toNat)))
    else none
    else none
def Ar.l1 (K:Nat) (x0:List Int):Nat→Int→(List Ai)→(List Int)→Option ((List Ai) × (List Int))
 | 0,_,_,_=>none
 | k+1,i_10,r_12,rest_13 =>
  if decide (i_10<((x0.length:Nat):Int)) then
   Ar.l2 K (Ar.l1 K x0 k) i_10 x0 K (wr .i64 (i_10+1)) r_12 rest_13
  else
   some (r_12,rest_13)
def Ar (K:Nat) (x0:List Int):Option ((List Ai) × (List Int)) :=
 Ar.l1 K x0 K (0:Int) ([]:List Ai) ([]:List Int)
abbrev Aj.sg:Sig:=⟨[(.one,(.sl (.int .u8))),(.one,(.int .i64)),(.one,(.int .i64))],[.o],[(.one,(.sl (.int .u8)))],[.o]⟩
def Aj.l1 (K:Nat) (x1:Int):Nat→Int→(List Int)→Option (List Int)
 | 0,_,_=>none
 | k+1,i_10,l_11 =>
  if decide (i_10≥0) then
   if (0:Int)≤i_10 then
   if (l_11.length+([wr .u8 (ib .and .i64 (x1.fdiv (2 ^ min (i_10).toNat 64)) 1)]:List Int).length)*1≤140737488355328 then
   Aj.l1 K x1 k (wr .i64 (i_10-1)) (l_11++([wr .u8 (ib .and .i64 (x1.fdiv (2 ^ min (i_10).toNat 64)) 1)]:List Int))
   else none
   else none
  else
   some l_11
def Aj (K:Nat) (x0:List Int) (x1:Int) (x2:Int):Option (List Int) :=
 Aj.l1 K x1 K (wr .i64 (x2-1)) x0
abbrev Ae.sg:Sig:=⟨[(.one,(.sl (.int .u8))),(.one,(.int .i64)),(.one,(.int .i64))],[.o],[(.one,(.sl (.int .u8)))],[.o]⟩
def Ae.j2 (K:Nat) (rec_:(List Int)→Int→Int→Option (List Int)) (x0:List Int) (x2:Int) (t_11:Int):Option (List Int) :=
 (Av K x2).bind fun r56 =>
 if t_11≠0 then
 (Aj K x0 0 (wr .i64 (r56.tdiv t_11))).bind fun r61 =>
 (Aj K r61 1 1).bind fun r62 =>
 if (0:Int)≤(wr .i64 ((wr .i64 (r56.tdiv t_11))*t_11)) then
 if (0:Int)≤(wr .i64 ((wr .i64 ((wr .i64 (r56.tdiv t_11))+1))*t_11)) then
 if (0:Int)≤(wr .i64 ((wr .i64 (r56.tdiv t_11))*t_11)) then
 (Av K (wr .i64 ((wr .i64 ((wr .i64 ((1:Int)*2 ^ min ((wr .i64 ((wr .i64 ((wr .i64 (r56.tdiv t_11))+1))*t_11))).toNat 64))-(wr .i64 ((1:Int)*2 ^ min ((wr .i64 ((wr .i64 (r56.tdiv t_11))*t_11))).toNat 64))))-1))).bind fun r81 =>
 if (0:Int)≤(wr .i64 (r81+1)) then
 if decide ((wr .i64 (x2-(wr .i64 ((1:Int)*2 ^ min ((wr .i64 ((wr .i64 (r56.tdiv t_11))*t_11))).toNat 64))))<(wr .i64 ((wr .i64 ((1:Int)*2 ^ min ((wr .i64 (r81+1))).toNat 64))-(wr .i64 ((wr .i64 ((1:Int)*2 ^ min ((wr .i64 ((wr .i64 ((wr .i64 (r56.tdiv t_11))+1))*t_11))).toNat 64))-(wr .i64 ((1:Int)*2 ^ min ((wr .i64 ((wr .i64 (r56.tdiv t_11))*t_11))).toNat 64))))))) then
  (Aj K r62 (wr .i64 (x2-(wr .i64 ((1:Int)*2 ^ min ((wr .i64 ((wr .i64 (r56.tdiv t_11))*t_11))).toNat 64)))) (wr .i64 ((wr .i64 (r81+1))-1))).bind fun r93 =>
  some r93
 else
  if (0:Int)≤(wr .i64 (r81+1)) then
  (Aj K r62 (wr .i64 ((wr .i64 ((wr .i64 (x2-(wr .i64 ((1:Int)*2 ^ min ((wr .i64 ((wr .i64 (r56.tdiv t_11))*t_11))).toNat 64))))+(wr .i64 ((1:Int)*2 ^ min ((wr .i64 (r81+1))).toNat 64))))-(wr .i64 ((wr .i64 ((1:Int)*2 ^ min ((wr .i64 ((wr .i64 ((wr .i64 (r56.tdiv t_11))+1))*t_11))).toNat 64))-(wr .i64 ((1:Int)*2 ^ min ((wr .i64 ((wr .i64 (r56.tdiv t_11))*t_11))).toNat 64)))))) (wr .i64 (r81+1))).bind fun r102 =>
  some r102
  else none
 else none
 else none
 else none
 else none
 else none
def Ae.l1 (K:Nat) (rec_:(List Int)→Int→Int→Option (List Int)) (x2:Int):Nat→Int→(List Int)→Option (List Int)
 | 0,_,_=>none
 | k+1,t_10,t_12 =>
  if decide (t_10<x2) then
   if (t_12.length+([0]:List Int).length)*1≤140737488355328 then
   Ae.l1 K rec_ x2 k (wr .i64 (t_10+1)) (t_12++([0]:List Int))
   else none
  else
   if (t_12.length+([1]:List Int).length)*1≤140737488355328 then
   some (t_12++([1]:List Int))
   else none
def Ae:Nat→(List Int)→Int→Int→Option (List Int)
 | 0,_,_,_=>none
 | K+1,x0,x1,x2 =>
  if (x1 == 1) then
   Ae.l1 K (Ae K) x2 K (1:Int) x0
  else
   if (x1 == 2) then
    (Av K x2).bind fun r31 =>
    (Aj K x0 0 r31).bind fun r32 =>
    (Av K x2).bind fun r35 =>
    (Aj K r32 x2 (wr .i64 (r35+1))).bind fun r37 =>
    some r37
   else
    if (x1 == 3) then
     (Av K x2).bind fun r42 =>
     ((Ae K) x0 2 (wr .i64 (r42+1))).bind fun r44 =>
     (Av K x2).bind fun r47 =>
     if (0:Int)≤r47 then
     (Av K x2).bind fun r51 =>
     (Aj K r44 (wr .i64 (x2-(wr .i64 ((1:Int)*2 ^ min (r47).toNat 64)))) r51).bind fun r52 =>
     some r52
     else none
    else
     if (x1 == 5) then
      Ae.j2 K (Ae K) x0 x2 (3:Int)
     else
      Ae.j2 K (Ae K) x0 x2 (2:Int)
abbrev Cy.sg:Sig:=⟨[(.one,(.int .i64))],[],[(.one,(.int .i64))],[]⟩
def Cy (K:Nat) (x0:Int):Option Int :=
 if decide (x0≥0) then
  some (wr .i64 (2*x0))
 else
  some (wr .i64 ((wr .i64 ((-2)*x0))-1))
abbrev Br.sg:Sig:=⟨[(.one,(.sl (.int .u8))),(.one,(.int .i64)),(.one,(.sl (.int .i64)))],[.o],[(.one,(.sl (.int .u8)))],[.o]⟩
def Br.l1 (K:Nat) (x1:Int) (x2:List Int):Nat→Int→(List Int)→Option (List Int)
 | 0,_,_=>none
 | k+1,i_10,b_11 =>
  if decide (i_10<((x2.length:Nat):Int)) then
   if (i_10 == 0) then
    if (0:Int)≤(0:Int)∧(0:Int)<((x2.length:Nat):Int) then
    (Cy K (wr .i64 ((nth x2 0)-x1))).bind fun r27 =>
    (Ae K b_11 2 (wr .i64 (r27+1))).bind fun r29 =>
    Br.l1 K x1 x2 k (wr .i64 (i_10+1)) r29
    else none
   else
    if (0:Int)≤i_10∧i_10<((x2.length:Nat):Int) then
    if (0:Int)≤(wr .i64 (i_10-1))∧(wr .i64 (i_10-1))<((x2.length:Nat):Int) then
    (Ae K b_11 2 (wr .i64 ((nth x2 i_10)-(nth x2 (wr .i64 (i_10-1)))))).bind fun r41 =>
    Br.l1 K x1 x2 k (wr .i64 (i_10+1)) r41
    else none
    else none
  else
   some b_11
def Br (K:Nat) (x0:List Int) (x1:Int) (x2:List Int):Option (List Int) :=
 (Ae K x0 2 (wr .i64 (((x2.length:Nat):Int)+1))).bind fun r12 =>
 Br.l1 K x1 x2 K (0:Int) r12
abbrev As.sg:Sig:=⟨[(.one,(.sl (.int .u8))),(.one,(.int .i64)),(.one,(.sl (.int .i64)))],[.o],[(.one,(.sl (.int .u8)))],[.o]⟩
def As.j2 (K:Nat) (go_l1:Int→(List Int)→Option (List Int)) (r12:(List Ai) × (List Int)) (t_10:Int) (x1:Int) (t_11:List Int):Option (List Int) :=
 if (0:Int)≤t_10∧t_10<((r12.1.length:Nat):Int) then
 (Ae K t_11 2 (wr .i64 ((wr .i64 (((nth r12.1 t_10).Len)-3))+1))).bind fun r67 =>
 go_l1 (wr .i64 (t_10+1)) r67
 else none
def As.l1 (K:Nat) (r12:(List Ai) × (List Int)) (x1:Int):Nat→Int→(List Int)→Option (List Int)
 | 0,_,_=>none
 | k+1,t_10,t_12 =>
  if decide (t_10<((r12.1.length:Nat):Int)) then
   if (t_10 == 0) then
    if (0:Int)≤(0:Int)∧(0:Int)<((r12.1.length:Nat):Int) then
    (Cy K (wr .i64 (((nth r12.1 0).At)-x1))).bind fun r35 =>
    (Ae K t_12 2 (wr .i64 (r35+1))).bind fun r37 =>
    As.j2 K (As.l1 K r12 x1 k) r12 t_10 x1 r37
    else none
   else
    if (0:Int)≤t_10∧t_10<((r12.1.length:Nat):Int) then
    if (0:Int)≤(wr .i64 (t_10-1))∧(wr .i64 (t_10-1))<((r12.1.length:Nat):Int) then
    if (0:Int)≤(wr .i64 (t_10-1))∧(wr .i64 (t_10-1))<((r12.1.length:Nat):Int) then
    (Ae K t_12 2 (wr .i64 ((wr .i64 (((nth r12.1 t_10).At)-((nth r12.1 (wr .i64 (t_10-1))).At)))-((nth r12.1 (wr .i64 (t_10-1))).Len)))).bind fun r58 =>
    As.j2 K (As.l1 K r12 x1 k) r12 t_10 x1 r58
    else none
    else none
    else none
  else
   (Br K t_12 x1 r12.2).bind fun r71 =>
   some r71
def As (K:Nat) (x0:List Int) (x1:Int) (x2:List Int):Option (List Int) :=
 (Ar K x2).bind fun r12 =>
 (Ae K x0 2 (wr .i64 (((r12.1.length:Nat):Int)+1))).bind fun r19 =>
 As.l1 K r12 x1 K (0:Int) r19
abbrev B6.sg:Sig:=⟨[(.one,(.sl (.int .u8))),(.one,(.int .i64)),(.one,(.sl (.int .u8)))],[],[(.one,.bool)],[]⟩
def B6.l1 (K:Nat) (x0:List Int) (x1:Int) (x2:List Int):Nat→Int→Option Bool
 | 0,_=>none
 | k+1,i_10 =>
  if decide (i_10<((x2.length:Nat):Int)) then
   if decide ((wr .i64 (x1+i_10))≥((x0.length:Nat):Int)) then
    some false
   else
    if (0:Int)≤(wr .i64 (x1+i_10))∧(wr .i64 (x1+i_10))<((x0.length:Nat):Int) then
    if (0:Int)≤i_10∧i_10<((x2.length:Nat):Int) then
    if ((nth x0 (wr .i64 (x1+i_10))) != (nth x2 i_10)) then
     some false
    else
     B6.l1 K x0 x1 x2 k (wr .i64 (i_10+1))
    else none
    else none
  else
   some true
def B6 (K:Nat) (x0:List Int) (x1:Int) (x2:List Int):Option Bool :=
 B6.l1 K x0 x1 x2 K (0:Int)
abbrev Ao.sg:Sig:=⟨[(.one,(.sl (.int .u8))),(.one,(.int .i64)),(.one,(.sl (.int .i64)))],[.n],[(.one,(.sl (.int .u8)))],[.o]⟩
def Ao.j2 (K:Nat) (go_l1:Int→(List Int)→Option (List Int)) (r12:(List Ai) × (List Int)) (t_10:Int) (x1:Int) (t_11:List Int):Option (List Int) :=
 if (0:Int)≤t_10∧t_10<((r12.1.length:Nat):Int) then
 (Ae K t_11 2 (wr .i64 ((wr .i64 (((nth r12.1 t_10).Len)-3))+1))).bind fun r67 =>
 go_l1 (wr .i64 (t_10+1)) r67
 else none
def Ao.l1 (K:Nat) (r12:(List Ai) × (List Int)) (x1:Int):Nat→Int→(List Int)→Option (List Int)
 | 0,_,_=>none
 | k+1,t_10,t_12 =>
  if decide (t_10<((r12.1.length:Nat):Int)) then
   if (t_10 == 0) then
    if (0:Int)≤(0:Int)∧(0:Int)<((r12.1.length:Nat):Int) then
    (Cy K (wr .i64 (((nth r12.1 0).At)-x1))).bind fun r35 =>
    (Ae K t_12 2 (wr .i64 (r35+1))).bind fun r37 =>
    Ao.j2 K (Ao.l1 K r12 x1 k) r12 t_10 x1 r37
    else none
   else
    if (0:Int)≤t_10∧t_10<((r12.1.length:Nat):Int) then
    if (0:Int)≤(wr .i64 (t_10-1))∧(wr .i64 (t_10-1))<((r12.1.length:Nat):Int) then
    if (0:Int)≤(wr .i64 (t_10-1))∧(wr .i64 (t_10-1))<((r12.1.length:Nat):Int) then
    (Ae K t_12 2 (wr .i64 ((wr .i64 (((nth r12.1 t_10).At)-((nth r12.1 (wr .i64 (t_10-1))).At)))-((nth r12.1 (wr .i64 (t_10-1))).Len)))).bind fun r58 =>
    Ao.j2 K (Ao.l1 K r12 x1 k) r12 t_10 x1 r58
    else none
    else none
    else none
  else
   (Br K t_12 x1 r12.2).bind fun r71 =>
   some r71
def Ao (K:Nat) (x0:List Int) (x1:Int) (x2:List Int):Option (List Int) :=
 (Ar K x2).bind fun r12 =>
 (Ae K ([]:List Int) 2 (wr .i64 (((r12.1.length:Nat):Int)+1))).bind fun r19 =>
 Ao.l1 K r12 x1 K (0:Int) r19
abbrev Al.sg:Sig:=⟨[(.one,(.sl (.int .u8))),(.one,(.int .i64)),(.one,(.int .i64))],[],[(.one,(.sl (.int .i64))),(.one,(.int .i64)),(.one,.bool)],[.o]⟩
def Al.j2 (K:Nat) (go_l1:Int→Int→Int→(List Ai)→Option ((List Int) × Int × Bool)) (r28:Int × Int) (r55:Int × Int) (t_11:Int) (t_15:List Ai) (x0:List Int) (x1:Int) (x2:Int) (t_12:Int) (t_13:Int):Option ((List Int) × Int × Bool) :=
 if (t_15.length+([((t_12,t_13):Ai)]:List Ai).length)*16≤140737488355328 then
 go_l1 r55.2 (wr .i64 (t_12+t_13)) (wr .i64 (t_11+1)) (t_15++([((t_12,t_13):Ai)]:List Ai))
 else none
def Al.l1 (K:Nat) (r28:Int × Int) (x0:List Int) (x1:Int) (x2:Int):Nat→Int→Int→Int→(List Ai)→Option ((List Int) × Int × Bool)
 | 0,_,_,_,_=>none
 | k+1,t_14,t_10,t_11,t_15 =>
  if decide (t_11<(wr .i64 (r28.1-1))) then
   (Ac K x0 t_14 2).bind fun r47 =>
   if decide (r47.1<1) then
    some (([]:List Int),0,false)
   else
    (Ac K x0 r47.2 2).bind fun r55 =>
    if decide (r55.1<1) then
     some (([]:List Int),0,false)
    else
     if decide (r55.1 > 16) then
      some (([]:List Int),0,false)
     else
      if (t_11 == 0) then
       (Cx K (wr .i64 (r47.1-1))).bind fun r77 =>
       Al.j2 K (Al.l1 K r28 x0 x1 x2 k) r28 r55 t_11 t_15 x0 x1 x2 (wr .i64 (x2+r77)) (wr .i64 ((wr .i64 (r55.1-1))+3))
      else
       Al.j2 K (Al.l1 K r28 x0 x1 x2 k) r28 r55 t_11 t_15 x0 x1 x2 (wr .i64 (t_10+r47.1)) (wr .i64 ((wr .i64 (r55.1-1))+3))
  else
   (Bc K x0 t_14 x2).bind fun r93 =>
   if (!r93.2.2) then
    some (([]:List Int),0,false)
   else
    (Ah K t_15 r93.1).bind fun r102 =>
    if (!r102.2) then
     some (([]:List Int),0,false)
    else
     if decide (((r102.1.length:Nat):Int) > 16) then
      some (([]:List Int),0,false)
     else
      (Ao K ([]:List Int) x2 r102.1).bind fun r114 =>
      if (((r114.length:Nat):Int) != (wr .i64 (r93.2.1-x1))) then
       some (([]:List Int),0,false)
      else
       (B6 K x0 x1 r114).bind fun r125 =>
       if (!r125) then
        some (([]:List Int),0,false)
       else
        some (r102.1,r93.2.1,true)
def Al (K:Nat) (x0:List Int) (x1:Int) (x2:Int):Option ((List Int) × Int × Bool) :=
 (Ac K x0 x1 2).bind fun r28 =>
 if decide (r28.1<1) then
  some (([]:List Int),0,false)
 else
  if decide ((wr .i64 (r28.1-1)) > 16) then
   some (([]:List Int),0,false)
  else
   Al.l1 K r28 x0 x1 x2 K r28.2 (0:Int) (0:Int) ([]:List Ai)
abbrev Bi.sg:Sig:=⟨[(.one,(.sl (.int .u8)))],[],[(.agg,Bu),(.one,.bool)],[.s,.o]⟩
def Bi.l1 (K:Nat) (r26:Aa) (x0:List Int):Nat→Int→Int→Int→(List (List Int))→Option (Aa × Bool)
 | 0,_,_,_,_=>none
 | k+1,at_12,v_11,t_10,g_13 =>
  if decide (v_11<r26.N) then
   (Al K x0 at_12 v_11).bind fun r37 =>
   if (!r37.2.2) then
    some (((0,([]:List (List Int))):Aa),false)
   else
    if (0:Int)≤v_11∧v_11<((g_13.length:Nat):Int) then
    Bi.l1 K r26 x0 k r37.2.1 (wr .i64 (v_11+1)) t_10 ((g_13).set v_11.toNat r37.1)
    else none
  else
   if (at_12 != ((x0.length:Nat):Int)) then
    some (((0,([]:List (List Int))):Aa),false)
   else
    (Bm K ((r26.N,g_13):Aa)).bind fun r56 =>
    if (!r56) then
     some (((0,([]:List (List Int))):Aa),false)
    else
     some (((r26.N,g_13):Aa),true)
def Bi (K:Nat) (x0:List Int):Option (Aa × Bool) :=
 (Ac K x0 0 2).bind fun r13 =>
 if decide (r13.1<1) then
  some (((0,([]:List (List Int))):Aa),false)
 else
  if decide ((wr .i64 (r13.1-1)) > 16) then
   some (((0,([]:List (List Int))):Aa),false)
  else
   (Cw K (wr .i64 (r13.1-1))).bind fun r26 =>
   Bi.l1 K r26 x0 K r13.2 (0:Int) (0:Int) r26.Out
abbrev C2.sg:Sig:=⟨[(.agg,Bu),(.one,(.int .i64))],[],[(.one,(.sl (.int .i64)))],[]⟩
def C2 (K:Nat) (x0:Aa) (x1:Int):Option (List Int) :=
 if decide (x1<x0.N) then
  if (0:Int)≤x1∧x1<((x0.Out.length:Nat):Int) then
  some (nth x0.Out x1)
  else none
 else
  some ([]:List Int)
abbrev B9.sg:Sig:=⟨[(.one,(.sl (.int .i64))),(.one,(.int .i64))],[],[(.one,(.int .i64))],[]⟩
def B9.l1 (K:Nat) (x0:List Int) (x1:Int):Nat→Int→Option Int
 | 0,_=>none
 | k+1,i_10 =>
  if decide (i_10<((x0.length:Nat):Int)) then
   if (0:Int)≤i_10∧i_10<((x0.length:Nat):Int) then
   if ((nth x0 i_10) == x1) then
    some i_10
   else
    B9.l1 K x0 x1 k (wr .i64 (i_10+1))
   else none
  else
   some ((-1):Int)
def B9 (K:Nat) (x0:List Int) (x1:Int):Option Int :=
 B9.l1 K x0 x1 K (0:Int)
abbrev Ap.sg:Sig:=⟨[(.one,(.sl (.int .i64))),(.one,(.sl (.int .i64)))],[],[(.one,(.sl (.int .i64))),(.one,(.sl (.int .i64)))],[.o,.o]⟩
def Ap.l2 (K:Nat) (x0:List Int) (x1:List Int):Nat→Int→(List Int)→(List Int)→Option ((List Int) × (List Int))
 | 0,_,_,_=>none
 | k+1,i_12,blocks_16,rest_15 =>
  if decide (i_12<((x1.length:Nat):Int)) then
   if (0:Int)≤i_12∧i_12<((x1.length:Nat):Int) then
   (B9 K x0 (nth x1 i_12)).bind fun r47 =>
   if decide (r47<0) then
    if (0:Int)≤i_12∧i_12<((x1.length:Nat):Int) then
    if (rest_15.length+([nth x1 i_12]:List Int).length)*8≤140737488355328 then
    Ap.l2 K x0 x1 k (wr .i64 (i_12+1)) blocks_16 (rest_15++([nth x1 i_12]:List Int))
    else none
    else none
   else
    Ap.l2 K x0 x1 k (wr .i64 (i_12+1)) blocks_16 rest_15
   else none
  else
   some (blocks_16,rest_15)
def Ap.l1 (K:Nat) (x0:List Int) (x1:List Int):Nat→Bool→Int→Int→(List Int)→Option ((List Int) × (List Int))
 | 0,_,_,_,_=>none
 | k+1,in_14,n_10,i_11,blocks_13 =>
  if decide (i_11<((x0.length:Nat):Int)) then
   if (0:Int)≤i_11∧i_11<((x0.length:Nat):Int) then
   (B9 K x1 (nth x0 i_11)).bind fun r24 =>
   if (!((decide (r24≥0)) == in_14)) then
    if (blocks_13.length+([n_10]:List Int).length)*8≤140737488355328 then
    Ap.l1 K x0 x1 k (decide (r24≥0)) (wr .i64 ((0:Int)+1)) (wr .i64 (i_11+1)) (blocks_13++([n_10]:List Int))
    else none
   else
    Ap.l1 K x0 x1 k in_14 (wr .i64 (n_10+1)) (wr .i64 (i_11+1)) blocks_13
   else none
  else
   Ap.l2 K x0 x1 K (0:Int) blocks_13 ([]:List Int)
def Ap (K:Nat) (x0:List Int) (x1:List Int):Option ((List Int) × (List Int)) :=
 Ap.l1 K x0 x1 K true (0:Int) (0:Int) ([]:List Int)
abbrev Bb.sg:Sig:=⟨[(.one,(.sl (.int .i64))),(.one,(.sl (.int .i64)))],[],[(.one,.bool)],[]⟩
def Bb.l1 (K:Nat) (x0:List Int) (x1:List Int):Nat→Int→Option Bool
 | 0,_=>none
 | k+1,i_10 =>
  if decide (i_10<((x0.length:Nat):Int)) then
   if (0:Int)≤i_10∧i_10<((x0.length:Nat):Int) then
   if (0:Int)≤i_10∧i_10<((x1.length:Nat):Int) then
   if ((nth x0 i_10) != (nth x1 i_10)) then
    some false
   else
    Bb.l1 K x0 x1 k (wr .i64 (i_10+1))
   else none
   else none
  else
   some true
def Bb (K:Nat) (x0:List Int) (x1:List Int):Option Bool :=
 if (((x0.length:Nat):Int) != ((x1.length:Nat):Int)) then
  some false
 else
  Bb.l1 K x0 x1 K (0:Int)
abbrev Ad.sg:Sig:=⟨[(.one,(.sl (.int .i64))),(.one,(.sl (.int .i64))),(.one,(.sl (.int .i64)))],[],[(.one,(.sl (.int .i64))),(.one,.bool)],[.o]⟩
def Ad.l5 (K:Nat) (x0:List Int) (x1:List Int) (x2:List Int):Nat→Int→(List Bool)→(List Int)→Option ((List Int) × Bool)
 | 0,_,_,_=>none
 | k+1,t_16,t_20,t_19 =>
  if decide (t_16<16) then
   if ((0:Int)≤t_16∧t_16<((t_20.length:Nat):Int))∧t_20.length=16 then
   if nth t_20 t_16 then
    if (t_19.length+([t_16]:List Int).length)*8≤140737488355328 then
    Ad.l5 K x0 x1 x2 k (wr .i64 (t_16+1)) t_20 (t_19++([t_16]:List Int))
    else none
   else
    Ad.l5 K x0 x1 x2 k (wr .i64 (t_16+1)) t_20 t_19
   else none
  else
   (Ap K x0 t_19).bind fun r104 =>
   (Bb K r104.1 x1).bind fun r110 =>
   if r110 then
    (Bb K r104.2 x2).bind fun r114 =>
    some (t_19,r114)
   else
    some (t_19,false)
def Ad.l4 (K:Nat) (x0:List Int) (x1:List Int) (x2:List Int):Nat→Int→(List Bool)→Option ((List Int) × Bool)
 | 0,_,_=>none
 | k+1,t_15,t_18 =>
  if decide (t_15<((x2.length:Nat):Int)) then
   if (0:Int)≤t_15∧t_15<((x2.length:Nat):Int) then
   if ((0:Int)≤(nth x2 t_15)∧(nth x2 t_15)<((t_18.length:Nat):Int))∧t_18.length=16 then
   Ad.l4 K x0 x1 x2 k (wr .i64 (t_15+1)) ((t_18).set (nth x2 t_15).toNat true)
   else none
   else none
  else
   Ad.l5 K x0 x1 x2 K (0:Int) t_18 ([]:List Int)
def Ad.l3 (K:Nat) (go_l1:Int→Int→(List Bool)→Option ((List Int) × Bool)) (t_11:Int) (t_12:Int) (t_13:Int) (x0:List Int) (x1:List Int) (x2:List Int):Nat→Int→(List Bool)→Option ((List Int) × Bool)
 | 0,_,_=>none
 | k+1,t_14,t_17 =>
  if decide (t_14<t_13) then
   if (2:Int)≠0 then
   if ((t_12.tmod 2) == 0) then
    if (0:Int)≤(wr .i64 (t_11+t_14))∧(wr .i64 (t_11+t_14))<((x0.length:Nat):Int) then
    if ((0:Int)≤(nth x0 (wr .i64 (t_11+t_14)))∧(nth x0 (wr .i64 (t_11+t_14)))<((t_17.length:Nat):Int))∧t_17.length=16 then
    Ad.l3 K go_l1 t_11 t_12 t_13 x0 x1 x2 k (wr .i64 (t_14+1)) ((t_17).set (nth x0 (wr .i64 (t_11+t_14))).toNat true)
    else none
    else none
   else
    go_l1 (wr .i64 (t_11+t_13)) (wr .i64 (t_12+1)) t_17
   else none
  else
   go_l1 (wr .i64 (t_11+t_13)) (wr .i64 (t_12+1)) t_17
def Ad.j2 (K:Nat) (go_l1:Int→Int→(List Bool)→Option ((List Int) × Bool)) (t_10:List Bool) (t_11:Int) (t_12:Int) (x0:List Int) (x1:List Int) (x2:List Int) (t_13:Int):Option ((List Int) × Bool) :=
 if decide (t_13<0) then
  some (([]:List Int),false)
 else
  if decide (t_13 > (wr .i64 (((x0.length:Nat):Int)-t_11))) then
   some (([]:List Int),false)
  else
   Ad.l3 K go_l1 t_11 t_12 t_13 x0 x1 x2 K (0:Int) t_10
def Ad.l1 (K:Nat) (x0:List Int) (x1:List Int) (x2:List Int):Nat→Int→Int→(List Bool)→Option ((List Int) × Bool)
 | 0,_,_,_=>none
 | k+1,t_11,t_12,t_10 =>
  if decide (t_12≤((x1.length:Nat):Int)) then
   if decide (t_12<((x1.length:Nat):Int)) then
    if (0:Int)≤t_12∧t_12<((x1.length:Nat):Int) then
    Ad.j2 K (Ad.l1 K x0 x1 x2 k) t_10 t_11 t_12 x0 x1 x2 (nth x1 t_12)
    else none
   else
    Ad.j2 K (Ad.l1 K x0 x1 x2 k) t_10 t_11 t_12 x0 x1 x2 (wr .i64 (((x0.length:Nat):Int)-t_11))
  else
   Ad.l4 K x0 x1 x2 K (0:Int) t_10
def Ad (K:Nat) (x0:List Int) (x1:List Int) (x2:List Int):Option ((List Int) × Bool) :=
 (Bn K x0).bind fun r19 =>
 if (!r19) then
  some (([]:List Int),false)
 else
  (Bn K x2).bind fun r23 =>
  if (!r23) then
   some (([]:List Int),false)
  else
   if decide (((x1.length:Nat):Int) > 16) then
    some (([]:List Int),false)
   else
    Ad.l1 K x0 x1 x2 K (0:Int) (0:Int) (List.replicate 16 false)
abbrev Be.sg:Sig:=⟨[(.one,(.sl (.int .u8))),(.one,(.int .i64)),(.one,(.int .i64)),(.one,(.sl (.int .i64)))],[],[(.one,(.sl (.int .i64))),(.one,(.int .i64)),(.one,.bool)],[.o]⟩
def Be.l1 (K:Nat) (r23:Int × Int) (x0:List Int) (x2:Int) (x3:List Int):Nat→Int→Int→(List Int)→Option ((List Int) × Int × Bool)
 | 0,_,_,_=>none
 | k+1,t_11,t_10,t_12 =>
  if decide (t_10<(wr .i64 (r23.1-1))) then
   (Ac K x0 t_11 2).bind fun r42 =>
   if decide (r42.1<1) then
    some (([]:List Int),0,false)
   else
    if decide (r42.1 > 17) then
     some (([]:List Int),0,false)
    else
     if (t_10 == 0) then
      if (t_12.length+([wr .i64 (r42.1-1)]:List Int).length)*8≤140737488355328 then
      Be.l1 K r23 x0 x2 x3 k r42.2 (wr .i64 (t_10+1)) (t_12++([wr .i64 (r42.1-1)]:List Int))
      else none
     else
      if (t_12.length+([r42.1]:List Int).length)*8≤140737488355328 then
      Be.l1 K r23 x0 x2 x3 k r42.2 (wr .i64 (t_10+1)) (t_12++([r42.1]:List Int))
      else none
  else
   (Al K x0 t_11 x2).bind fun r64 =>
   if (!r64.2.2) then
    some (([]:List Int),0,false)
   else
    (Ad K x3 t_12 r64.1).bind fun r74 =>
    if (!r74.2) then
     some (([]:List Int),0,false)
    else
     some (r74.1,r64.2.1,true)
def Be (K:Nat) (x0:List Int) (x1:Int) (x2:Int) (x3:List Int):Option ((List Int) × Int × Bool) :=
 (Ac K x0 x1 2).bind fun r23 =>
 if decide (r23.1<1) then
  some (([]:List Int),0,false)
 else
  if decide ((wr .i64 (r23.1-1)) > 16) then
   some (([]:List Int),0,false)
  else
   Be.l1 K r23 x0 x2 x3 K r23.2 (0:Int) ([]:List Int)
abbrev Bj.sg:Sig:=⟨[(.agg,Bu),(.one,(.sl (.int .u8)))],[],[(.agg,Bu),(.one,.bool)],[.s,.o]⟩
def Bj.l1 (K:Nat) (r28:Aa) (x0:Aa) (x1:List Int):Nat→Int→Int→Int→(List (List Int))→Option (Aa × Bool)
 | 0,_,_,_,_=>none
 | k+1,t_12,t_11,t_10,t_13 =>
  if decide (t_11<r28.N) then
   (C2 K x0 t_11).bind fun r41 =>
   (Be K x1 t_12 t_11 r41).bind fun r42 =>
   if (!r42.2.2) then
    some (((0,([]:List (List Int))):Aa),false)
   else
    if (0:Int)≤t_11∧t_11<((t_13.length:Nat):Int) then
    Bj.l1 K r28 x0 x1 k r42.2.1 (wr .i64 (t_11+1)) t_10 ((t_13).set t_11.toNat r42.1)
    else none
  else
   if (t_12 != ((x1.length:Nat):Int)) then
    some (((0,([]:List (List Int))):Aa),false)
   else
    (Bm K ((r28.N,t_13):Aa)).bind fun r61 =>
    if (!r61) then
     some (((0,([]:List (List Int))):Aa),false)
    else
     some (((r28.N,t_13):Aa),true)
def Bj (K:Nat) (x0:Aa) (x1:List Int):Option (Aa × Bool) :=
 (Ac K x1 0 2).bind fun r15 =>
 if decide (r15.1<1) then
  some (((0,([]:List (List Int))):Aa),false)
 else
  if decide ((wr .i64 (r15.1-1)) > 16) then
   some (((0,([]:List (List Int))):Aa),false)
  else
   (Cw K (wr .i64 (r15.1-1))).bind fun r28 =>
   Bj.l1 K r28 x0 x1 K r15.2 (0:Int) (0:Int) r28.Out
abbrev Aw.sg:Sig:=⟨[(.one,(.sl A0)),(.one,(.int .i64))],[],[(.agg,Bu),(.one,(.int .i64))],[.s,.o]⟩
def Aw.j1 (K:Nat) (rec_:(List Af)→Int→Option (Aa × Int)) (ok_13:Bool) (t_10:Int) (g_11:Int) (g_12:List (List Int)):Option (Aa × Int) :=
 if (!ok_13) then
  some (((0,([]:List (List Int))):Aa),9)
 else
  some (((g_11,g_12):Aa),0)
def Aw:Nat→(List Af)→Int→Option (Aa × Int)
 | 0,_,_=>none
 | K+1,x0,x1 =>
  (Bv K x0 x1).bind fun r17 =>
  if (r17.2 != 0) then
   some (((0,([]:List (List Int))):Aa),r17.2)
  else
   (Bw K x0 x1).bind fun r27 =>
   if (0:Int)≤r27∧r27<((x0.length:Nat):Int) then
   (Cb K ((nth x0 r27).Data)).bind fun r32 =>
   if (((nth x0 r27).Base) == 0) then
    (Bi K r32).bind fun r38 =>
    Aw.j1 K (Aw K) r38.2 (0:Int) r38.1.N r38.1.Out
   else
    ((Aw K) x0 ((nth x0 r27).Base)).bind fun r45 =>
    if (r45.2 != 0) then
     some (((0,([]:List (List Int))):Aa),r45.2)
    else
     (Bj K r45.1 r32).bind fun r55 =>
     Aw.j1 K (Aw K) r55.2 (0:Int) r55.1.N r55.1.Out
   else none
abbrev Ak.sg:Sig:=⟨[(.one,(.sl (.int .u8))),(.one,(.int .i64)),(.one,(.int .i64))],[.n],[(.one,(.sl (.int .u8)))],[.o]⟩
def Ak.j2 (K:Nat) (x2:Int) (t_11:Int):Option (List Int) :=
 (Av K x2).bind fun r56 =>
 if t_11≠0 then
 (Aj K ([]:List Int) 0 (wr .i64 (r56.tdiv t_11))).bind fun r61 =>
 (Aj K r61 1 1).bind fun r62 =>
 if (0:Int)≤(wr .i64 ((wr .i64 (r56.tdiv t_11))*t_11)) then
 if (0:Int)≤(wr .i64 ((wr .i64 ((wr .i64 (r56.tdiv t_11))+1))*t_11)) then
 if (0:Int)≤(wr .i64 ((wr .i64 (r56.tdiv t_11))*t_11)) then
 (Av K (wr .i64 ((wr .i64 ((wr .i64 ((1:Int)*2 ^ min ((wr .i64 ((wr .i64 ((wr .i64 (r56.tdiv t_11))+1))*t_11))).toNat 64))-(wr .i64 ((1:Int)*2 ^ min ((wr .i64 ((wr .i64 (r56.tdiv t_11))*t_11))).toNat 64))))-1))).bind fun r81 =>
 if (0:Int)≤(wr .i64 (r81+1)) then
 if decide ((wr .i64 (x2-(wr .i64 ((1:Int)*2 ^ min ((wr .i64 ((wr .i64 (r56.tdiv t_11))*t_11))).toNat 64))))<(wr .i64 ((wr .i64 ((1:Int)*2 ^ min ((wr .i64 (r81+1))).toNat 64))-(wr .i64 ((wr .i64 ((1:Int)*2 ^ min ((wr .i64 ((wr .i64 ((wr .i64 (r56.tdiv t_11))+1))*t_11))).toNat 64))-(wr .i64 ((1:Int)*2 ^ min ((wr .i64 ((wr .i64 (r56.tdiv t_11))*t_11))).toNat 64))))))) then
  (Aj K r62 (wr .i64 (x2-(wr .i64 ((1:Int)*2 ^ min ((wr .i64 ((wr .i64 (r56.tdiv t_11))*t_11))).toNat 64)))) (wr .i64 ((wr .i64 (r81+1))-1))).bind fun r93 =>
  some r93
 else
  if (0:Int)≤(wr .i64 (r81+1)) then
  (Aj K r62 (wr .i64 ((wr .i64 ((wr .i64 (x2-(wr .i64 ((1:Int)*2 ^ min ((wr .i64 ((wr .i64 (r56.tdiv t_11))*t_11))).toNat 64))))+(wr .i64 ((1:Int)*2 ^ min ((wr .i64 (r81+1))).toNat 64))))-(wr .i64 ((wr .i64 ((1:Int)*2 ^ min ((wr .i64 ((wr .i64 ((wr .i64 (r56.tdiv t_11))+1))*t_11))).toNat 64))-(wr .i64 ((1:Int)*2 ^ min ((wr .i64 ((wr .i64 (r56.tdiv t_11))*t_11))).toNat 64)))))) (wr .i64 (r81+1))).bind fun r102 =>
  some r102
  else none
 else none
 else none
 else none
 else none
 else none
def Ak.l1 (K:Nat) (x2:Int):Nat→Int→(List Int)→Option (List Int)
 | 0,_,_=>none
 | k+1,t_10,t_12 =>
  if decide (t_10<x2) then
   if (t_12.length+([0]:List Int).length)*1≤140737488355328 then
   Ak.l1 K x2 k (wr .i64 (t_10+1)) (t_12++([0]:List Int))
   else none
  else
   if (t_12.length+([1]:List Int).length)*1≤140737488355328 then
   some (t_12++([1]:List Int))
   else none
def Ak (K:Nat) (x0:List Int) (x1:Int) (x2:Int):Option (List Int) :=
 if (x1 == 1) then
  Ak.l1 K x2 K (1:Int) ([]:List Int)
 else
  if (x1 == 2) then
   (Av K x2).bind fun r31 =>
   (Aj K ([]:List Int) 0 r31).bind fun r32 =>
   (Av K x2).bind fun r35 =>
   (Aj K r32 x2 (wr .i64 (r35+1))).bind fun r37 =>
   some r37
  else
   if (x1 == 3) then
    (Av K x2).bind fun r42 =>
    (Ae K ([]:List Int) 2 (wr .i64 (r42+1))).bind fun r44 =>
    (Av K x2).bind fun r47 =>
    if (0:Int)≤r47 then
    (Av K x2).bind fun r51 =>
    (Aj K r44 (wr .i64 (x2-(wr .i64 ((1:Int)*2 ^ min (r47).toNat 64)))) r51).bind fun r52 =>
    some r52
    else none
   else
    if (x1 == 5) then
     Ak.j2 K x2 (3:Int)
    else
     Ak.j2 K x2 (2:Int)
abbrev Bp.sg:Sig:=⟨[(.agg,Bu)],[],[(.one,(.sl (.int .u8))),(.one,(.sl (.int .i64)))],[.o,.o]⟩
def Bp.l1 (K:Nat) (x0:Aa):Nat→Int→(List Int)→(List Int)→Option ((List Int) × (List Int))
 | 0,_,_,_=>none
 | k+1,v_10,b_11,at_12 =>
  if decide (v_10<x0.N) then
   if (at_12.length+([((b_11.length:Nat):Int)]:List Int).length)*8≤140737488355328 then
   if (0:Int)≤v_10∧v_10<((x0.Out.length:Nat):Int) then
   (As K b_11 v_10 (nth x0.Out v_10)).bind fun r29 =>
   Bp.l1 K x0 k (wr .i64 (v_10+1)) r29 (at_12++([((b_11.length:Nat):Int)]:List Int))
   else none
   else none
  else
   some (b_11,at_12)
def Bp (K:Nat) (x0:Aa):Option ((List Int) × (List Int)) :=
 (Ak K ([]:List Int) 2 (wr .i64 (x0.N+1))).bind fun r10 =>
 Bp.l1 K x0 K (0:Int) r10 ([]:List Int)
abbrev By.sg:Sig:=⟨[(.one,(.sl (.int .u8))),(.one,(.int .i64)),(.one,(.sl (.int .i64))),(.one,(.sl (.int .i64)))],[.o],[(.one,(.sl (.int .u8)))],[.o]⟩
def By.l1 (K:Nat) (r16:(List Int) × (List Int)) (x1:Int):Nat→Int→(List Int)→Option (List Int)
 | 0,_,_=>none
 | k+1,i_10,b_11 =>
  if decide (i_10<((r16.1.length:Nat):Int)) then
   if (0:Int)≤i_10∧i_10<((r16.1.length:Nat):Int) then
   if (i_10 == 0) then
    (Ae K b_11 2 (wr .i64 ((nth r16.1 i_10)+1))).bind fun r40 =>
    By.l1 K r16 x1 k (wr .i64 (i_10+1)) r40
   else
    (Ae K b_11 2 (nth r16.1 i_10)).bind fun r40 =>
    By.l1 K r16 x1 k (wr .i64 (i_10+1)) r40
   else none
  else
   (As K b_11 x1 r16.2).bind fun r44 =>
   some r44
def By (K:Nat) (x0:List Int) (x1:Int) (x2:List Int) (x3:List Int):Option (List Int) :=
 (Ap K x2 x3).bind fun r16 =>
 (Ae K x0 2 (wr .i64 (((r16.1.length:Nat):Int)+1))).bind fun r23 =>
 By.l1 K r16 x1 K (0:Int) r23
abbrev Bq.sg:Sig:=⟨[(.agg,Bu),(.agg,Bu)],[],[(.one,(.sl (.int .u8)))],[.o]⟩
def Bq.l1 (K:Nat) (x0:Aa) (x1:Aa):Nat→Int→(List Int)→Option (List Int)
 | 0,_,_=>none
 | k+1,v_10,b_11 =>
  if decide (v_10<x1.N) then
   (C2 K x0 v_10).bind fun r21 =>
   if (0:Int)≤v_10∧v_10<((x1.Out.length:Nat):Int) then
   (By K b_11 v_10 r21 (nth x1.Out v_10)).bind fun r27 =>
   Bq.l1 K x0 x1 k (wr .i64 (v_10+1)) r27
   else none
  else
   some b_11
def Bq (K:Nat) (x0:Aa) (x1:Aa):Option (List Int) :=
 (Ak K ([]:List Int) 2 (wr .i64 (x1.N+1))).bind fun r10 =>
 Bq.l1 K x0 x1 K (0:Int) r10
abbrev C9.sg:Sig:=⟨[(.agg,Bu),(.agg,Bu)],[],[(.one,.bool)],[]⟩
def C9 (K:Nat) (x0:Aa) (x1:Aa):Option Bool :=
 (Bp K x1).bind fun r9 =>
 (Bq K x0 x1).bind fun r14 =>
 some (decide (((r14.length:Nat):Int)<((r9.1.length:Nat):Int)))
abbrev A4.sg:Sig:=⟨[(.one,(.sl (.int .u8)))],[],[(.agg,Cs)],[]⟩
def A4.l1 (K:Nat) (x0:List Int):Nat→Int→ByteArray→Int→(List Int)→Option Am
 | 0,_,_,_,_=>none
 | k+1,i_13,t_10,t_11,x_12 =>
  if decide (i_13<((x0.length:Nat):Int)) then
   if (8:Int)≠0 then
   if (8:Int)≠0 then
   if (0:Int)≤(wr .i64 (i_13.tdiv 8))∧(wr .i64 (i_13.tdiv 8))<((x_12.length:Nat):Int) then
   if (0:Int)≤i_13∧i_13<((x0.length:Nat):Int) then
   if (8:Int)≠0 then
   if (0:Int)≤(wr .i64 (7-(i_13.tmod 8))) then
   if (0:Int)≤(wr .i64 (i_13.tdiv 8))∧(wr .i64 (i_13.tdiv 8))<((x_12.length:Nat):Int) then
   A4.l1 K x0 k (wr .i64 (i_13+1)) t_10 t_11 ((x_12).set (wr .i64 (i_13.tdiv 8)).toNat (ib .or .u8 (nth x_12 (wr .i64 (i_13.tdiv 8))) (wr .u8 ((nth x0 i_13)*2 ^ min ((wr .i64 (7-(i_13.tmod 8)))).toNat 8))))
   else none
   else none
   else none
   else none
   else none
   else none
   else none
  else
   some ((bytesOf x_12,((x0.length:Nat):Int)):Am)
def A4 (K:Nat) (x0:List Int):Option Am :=
 if (8:Int)≠0 then
 if (wr .i64 ((wr .i64 (((x0.length:Nat):Int)+7)).tdiv 8))=(wr .i64 ((wr .i64 (((x0.length:Nat):Int)+7)).tdiv 8))∧(0:Int)≤(wr .i64 ((wr .i64 (((x0.length:Nat):Int)+7)).tdiv 8))∧(1:Int)*(wr .i64 ((wr .i64 (((x0.length:Nat):Int)+7)).tdiv 8))≤281474976710656∧(wr .i64 ((wr .i64 (((x0.length:Nat):Int)+7)).tdiv 8))≤9223372036854775807 then
 A4.l1 K x0 K (0:Int) ByteArray.empty (0:Int) (List.replicate (wr .i64 ((wr .i64 (((x0.length:Nat):Int)+7)).tdiv 8)).toNat (0:Int))
 else none
 else none
abbrev Dp.sg:Sig:=⟨[(.one,(.sl A0)),(.one,(.int .i64)),(.agg,Bu)],[],[(.agg,Cs)],[]⟩
def Dp (K:Nat) (x0:List Af) (x1:Int) (x2:Aa):Option Am :=
 if (x1 == 0) then
  (Bp K x2).bind fun r15 =>
  (A4 K r15.1).bind fun r19 =>
  some r19
 else
  (Aw K x0 x1).bind fun r23 =>
  (Bq K r23.1 x2).bind fun r28 =>
  (A4 K r28).bind fun r29 =>
  some r29
abbrev Bg.sg:Sig:=⟨[(.one,(.sl A0)),(.one,(.int .i64)),(.agg,Bu)],[],[(.agg,A0),(.one,(.int .i64))],[]⟩
def Bg.j2 (K:Nat) (t_14:Int) (x0:List Af) (x2:Aa) (t_15:Int) (t_16:ByteArray) (t_17:Int):Option (Af × Int) :=
 (Dp K x0 t_15 x2).bind fun r66 =>
 some (((t_14,t_15,r66):Af),0)
def Bg.j1 (K:Nat) (x0:List Af) (x1:Int) (x2:Aa) (t_14:Int) (t_10:Int) (t_11:Int) (t_12:ByteArray) (t_13:Int):Option (Af × Int) :=
 if decide (((x0.length:Nat):Int)≥12) then
  some (((0,0,((ByteArray.empty,0):Am)):Af),2)
 else
  if decide (t_14 > 1048576) then
   some (((0,0,((ByteArray.empty,0):Am)):Af),2)
  else
   if (x1 != 0) then
    (Aw K x0 x1).bind fun r40 =>
    if (r40.2 != 0) then
     some (((0,0,((ByteArray.empty,0):Am)):Af),r40.2)
    else
     (Bv K x0 x1).bind fun r50 =>
     if decide (r50.1<3) then
      (C9 K r40.1 x2).bind fun r58 =>
      if r58 then
       Bg.j2 K t_14 x0 x2 x1 ByteArray.empty (0:Int)
      else
       Bg.j2 K t_14 x0 x2 (0:Int) ByteArray.empty (0:Int)
     else
      Bg.j2 K t_14 x0 x2 (0:Int) ByteArray.empty (0:Int)
   else
    Bg.j2 K t_14 x0 x2 (0:Int) ByteArray.empty (0:Int)
def Bg (K:Nat) (x0:List Af) (x1:Int) (x2:Aa):Option (Af × Int) :=
 if decide (((x0.length:Nat):Int) > 0) then
  if (0:Int)≤(wr .i64 (((x0.length:Nat):Int)-1))∧(wr .i64 (((x0.length:Nat):Int)-1))<((x0.length:Nat):Int) then
  Bg.j1 K x0 x1 x2 (wr .i64 (((nth x0 (wr .i64 (((x0.length:Nat):Int)-1))).ID)+1)) (0:Int) (0:Int) ByteArray.empty (0:Int)
  else none
 else
  Bg.j1 K x0 x1 x2 (1:Int) (0:Int) (0:Int) ByteArray.empty (0:Int)
abbrev Dg.sg:Sig:=⟨[(.one,(.int .i64))],[],[(.one,(.int .i64))],[]⟩
def Dg (K:Nat) (x0:Int):Option Int :=
 some x0
abbrev Bk.sg:Sig:=⟨[(.one,(.sl A0)),(.one,(.sl A0))],[],[(.one,.bool)],[]⟩
def Bk.l1 (K:Nat) (x0:List Af) (x1:List Af):Nat→Int→Option Bool
 | 0,_=>none
 | k+1,i_10 =>
  if decide (i_10<((x0.length:Nat):Int)) then
   if (0:Int)≤i_10∧i_10<((x0.length:Nat):Int) then
   if (0:Int)≤i_10∧i_10<((x1.length:Nat):Int) then
   if (!((((nth x0 i_10).ID) == ((nth x1 i_10).ID)) && ((((nth x0 i_10).Base) == ((nth x1 i_10).Base)) && ((((((nth x0 i_10).Data).Data) == (((nth x1 i_10).Data).Data)) && (((((nth x0 i_10).Data).N) == (((nth x1 i_10).Data).N)) && true)) && true)))) then
    some false
   else
    Bk.l1 K x0 x1 k (wr .i64 (i_10+1))
   else none
   else none
  else
   some true
def Bk (K:Nat) (x0:List Af) (x1:List Af):Option Bool :=
 if (((x0.length:Nat):Int) != ((x1.length:Nat):Int)) then
  some false
 else
  Bk.l1 K x0 x1 K (0:Int)
abbrev D9.sg:Sig:=⟨[(.one,(.sl A0)),(.one,(.int .i64))],[],[(.agg,Bu),(.one,(.int .i64))],[.s,.o]⟩
def D9 (K:Nat) (x0:List Af) (x1:Int):Option (Aa × Int) :=
 (C8 K x0).bind fun r7 =>
 if (!r7) then
  some (((0,([]:List (List Int))):Aa),1)
 else
  (Dn K x0 x1).bind fun r12 =>
  some (r12.1,r12.2)
abbrev Cz.sg:Sig:=⟨[],[],[(.one,.bool)],[]⟩
def Cz (K:Nat):Option Bool :=
 (C7 K ([]:List Af) 0 ((0,([]:List (List Int))):Aa)).bind fun r7 =>
 (D9 K ([r7.1]:List Af) 1).bind fun r13 =>
 (Dg K r7.2).bind fun r17 =>
 if (r17 == 0) then
  (Dg K r13.2).bind fun r21 =>
  if (r21 == 0) then
   if (r7.1.ID == 1) then
    if (r7.1.Base == 0) then
     if (r13.1.N == 0) then
      some (r7.1.Data.N == 1)
     else
      some false
    else
     some false
   else
    some false
  else
   some false
 else
  some false
abbrev Ab.sg:Sig:=⟨[(.agg,Eh)],[],[(.one,.bool)],[]⟩
def Ab.j4 (K:Nat) (go_l1:Int→Option Bool) (go_l2:Int→Option Bool) (go_l3:Int→Option Bool) (r30:List Af) (r33:List Int) (r64:Af × Int) (t_10:Int) (t_11:Int) (t_12:Int) (x0:Cm) (t_19:Int) (t_20:Int) (t_21:Int) (t_22:ByteArray) (t_23:Int):Option Bool :=
 (Dg K r64.2).bind fun r102 =>
 if (r102 != t_19) then
  some false
 else
  if (!((r64.1.ID == t_20) && ((r64.1.Base == t_21) && (((r64.1.Data.Data == t_22) && ((r64.1.Data.N == t_23) && true)) && true)))) then
   some false
  else
   if (0:Int)≤t_10∧t_10<((x0.L.length:Nat):Int) then
   (Bk K r30 (nth x0.L t_10)).bind fun r117 =>
   if (!r117) then
    some false
   else
    go_l3 (wr .i64 (t_12+1))
   else none
def Ab.j5 (K:Nat) (go_l1:Int→Option Bool) (go_l2:Int→Option Bool) (go_l3:Int→Option Bool) (r30:List Af) (r33:List Int) (r64:Af × Int) (t_10:Int) (t_11:Int) (t_12:Int) (x0:Cm) (t_13:Int) (t_18:Bool) (t_14:Int) (t_15:Int) (t_16:ByteArray) (t_17:Int):Option Bool :=
 if t_18 then
  if (0:Int)≤t_10∧t_10<((x0.L.length:Nat):Int) then
  if (0:Int)≤t_11∧t_11<((r33.length:Nat):Int) then
  if (0:Int)≤t_12∧t_12<((x0.G.G.length:Nat):Int) then
  (Bg K (nth x0.L t_10) (nth r33 t_11) (nth x0.G.G t_12)).bind fun r98 =>
  Ab.j4 K go_l1 go_l2 go_l3 r30 r33 r64 t_10 t_11 t_12 x0 r98.2 r98.1.ID r98.1.Base r98.1.Data.Data r98.1.Data.N
  else none
  else none
  else none
 else
  Ab.j4 K go_l1 go_l2 go_l3 r30 r33 r64 t_10 t_11 t_12 x0 t_13 t_14 t_15 t_16 t_17
def Ab.l3 (K:Nat) (go_l1:Int→Option Bool) (go_l2:Int→Option Bool) (r30:List Af) (r33:List Int) (t_10:Int) (t_11:Int) (x0:Cm):Nat→Int→Option Bool
 | 0,_=>none
 | k+1,t_12 =>
  if decide (t_12<((x0.G.G.length:Nat):Int)) then
   if decide (t_12<4) then
    if (0:Int)≤t_11∧t_11<((r33.length:Nat):Int) then
    if (0:Int)≤t_12∧t_12<((x0.G.G.length:Nat):Int) then
    (C7 K r30 (nth r33 t_11) (nth x0.G.G t_12)).bind fun r64 =>
    if (0:Int)≤t_10∧t_10<((x0.L.length:Nat):Int) then
    (Bh K (nth x0.L t_10)).bind fun r72 =>
    if r72 then
     if (0:Int)≤t_12∧t_12<((x0.G.G.length:Nat):Int) then
     (Bm K (nth x0.G.G t_12)).bind fun r80 =>
     Ab.j5 K go_l1 go_l2 (Ab.l3 K go_l1 go_l2 r30 r33 t_10 t_11 x0 k) r30 r33 r64 t_10 t_11 t_12 x0 (1:Int) r80 (0:Int) (0:Int) ByteArray.empty (0:Int)
     else none
    else
     Ab.j5 K go_l1 go_l2 (Ab.l3 K go_l1 go_l2 r30 r33 t_10 t_11 x0 k) r30 r33 r64 t_10 t_11 t_12 x0 (1:Int) false (0:Int) (0:Int) ByteArray.empty (0:Int)
    else none
    else none
    else none
   else
    go_l2 (wr .i64 (t_11+1))
  else
   go_l2 (wr .i64 (t_11+1))
def Ab.l2 (K:Nat) (go_l1:Int→Option Bool) (r30:List Af) (r33:List Int) (t_10:Int) (x0:Cm):Nat→Int→Option Bool
 | 0,_=>none
 | k+1,t_11 =>
  if decide (t_11<((r33.length:Nat):Int)) then
   Ab.l3 K go_l1 (Ab.l2 K go_l1 r30 r33 t_10 x0 k) r30 r33 t_10 t_11 x0 K (0:Int)
  else
   go_l1 (wr .i64 (t_10+1))
def Ab.l1 (K:Nat) (x0:Cm):Nat→Int→Option Bool
 | 0,_=>none
 | k+1,t_10 =>
  if decide (t_10<((x0.L.length:Nat):Int)) then
   if decide (t_10<4) then
    if (0:Int)≤t_10∧t_10<((x0.L.length:Nat):Int) then
    (Ay K (nth x0.L t_10)).bind fun r30 =>
    (Ba K x0 r30).bind fun r33 =>
    Ab.l2 K (Ab.l1 K x0 k) r30 r33 t_10 x0 K (0:Int)
    else none
   else
    (Cz K).bind fun r120 =>
    some r120
  else
   (Cz K).bind fun r120 =>
   some r120
def Ab (K:Nat) (x0:Cm):Option Bool :=
 (Bl K x0).bind fun r13 =>
 if r13 then
  some true
 else
  Ab.l1 K x0 K (0:Int)
end Go.XM
end
