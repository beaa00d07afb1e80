import Derived.Test.YtdcicijfcbhgnaaGreatCtH0
set_option linter.all false
section
namespace Go.XM
set_option maxRecDepth 100000
abbrev Am:Type:=ByteArray × Int
abbrev C3:Ty:=(.pr .str (.int .i64))
abbrev Am.Data (x:Am):ByteArray:=x.1
abbrev Am.N (x:Am):Int:=x.2
abbrev Aa:Type:=Int × Int × Am
abbrev Ap:Ty:=(.pr (.int .i64) (.pr (.int .i64) C3))
abbrev Aa.ID (x:Aa):Int:=x.1
abbrev Aa.Base (x:Aa):Int:=x.2.1
abbrev Aa.Data (x:Aa):Am:=x.2.2
abbrev A5.sg:Sig:=⟨[(.one,(.sl Ap))],[],[(.one,(.int .i64))],[]⟩
def A5.l1 (K:Nat) (x0:List Aa):Nat→Int→Int→Option Int
 | 0,_,_=>none
 | k+1,n_10,i_11 =>
  if decide (i_11<((x0.length:Nat):Int)) then
   if decide (n_10<1048576) then
    if (0:Int)≤i_11∧i_11<((x0.length:Nat):Int) then
    if (4:Int)≠0 then
    A5.l1 K x0 k (wr .i64 (n_10+(wr .i64 ((((((nth x0 i_11).Data).Data).size:Nat):Int).tdiv 4)))) (wr .i64 (i_11+1))
    else none
    else none
   else
    some n_10
  else
   some n_10
def A5 (K:Nat) (x0:List Aa):Option Int :=
 A5.l1 K x0 K ((x0.length:Nat):Int) (0:Int)
abbrev B5.sg:Sig:=⟨[(.one,(.sl (.sl (.int .i64))))],[],[(.one,(.int .i64))],[]⟩
def B5.l1 (K:Nat) (x0:List (List Int)):Nat→Int→Int→Option Int
 | 0,_,_=>none
 | k+1,n_10,i_11 =>
  if decide (i_11<((x0.length:Nat):Int)) then
   if decide (n_10<1048576) then
    if (0:Int)≤i_11∧i_11<((x0.length:Nat):Int) then
    B5.l1 K x0 k (wr .i64 (n_10+(((nth x0 i_11).length:Nat):Int))) (wr .i64 (i_11+1))
    else none
   else
    some n_10
  else
   some n_10
def B5 (K:Nat) (x0:List (List Int)):Option Int :=
 B5.l1 K x0 K ((x0.length:Nat):Int) (0:Int)
abbrev Ab:Type:=Int × (List (List Int))
abbrev Bw:Ty:=(.pr (.int .i64) (.sl (.sl (.int .i64))))
abbrev Ab.N (x:Ab):Int:=x.1
abbrev Ab.Out (x:Ab):List (List Int):=x.2
abbrev A8.sg:Sig:=⟨[(.one,(.sl Bw))],[],[(.one,(.int .i64))],[]⟩
def A8.l1 (K:Nat) (x0:List Ab):Nat→Int→Int→Option Int
 | 0,_,_=>none
 | k+1,n_10,i_11 =>
  if decide (i_11<((x0.length:Nat):Int)) then
   if decide (n_10<1048576) then
    if (0:Int)≤i_11∧i_11<((x0.length:Nat):Int) then
    (B5 K ((nth x0 i_11).Out)).bind fun r23 =>
    A8.l1 K x0 k (wr .i64 (n_10+r23)) (wr .i64 (i_11+1))
    else none
   else
    some n_10
  else
   some n_10
def A8 (K:Nat) (x0:List Ab):Option Int :=
 A8.l1 K x0 K ((x0.length:Nat):Int) (0:Int)
abbrev Eh:Type:=Int × Int × Int
abbrev Ec:Ty:=(.pr (.int .i64) (.pr (.int .i64) (.int .i64)))
abbrev Eh.Do (x:Eh):Int:=x.1
abbrev Eh.A (x:Eh):Int:=x.2.1
abbrev Eh.B (x:Eh):Int:=x.2.2
abbrev Ck:Type:=(List Ab) × (List Eh)
abbrev Ew:Ty:=(.pr (.sl Bw) (.sl Ec))
abbrev Ck.G (x:Ck):List Ab:=x.1
abbrev Ck.A (x:Ck):List Eh:=x.2
abbrev Dg.sg:Sig:=⟨[(.agg,Ew)],[],[(.one,.bool)],[]⟩
def Dg (K:Nat) (x0:Ck):Option Bool :=
 (A8 K x0.G).bind fun r5 =>
 some (decide ((wr .i64 (r5+((x0.A.length:Nat):Int))) > 1200))
abbrev Cv:Type:=(List (List Aa)) × Ck × (List Int)
abbrev Eu:Ty:=(.pr (.sl (.sl Ap)) (.pr Ew (.sl (.int .i64))))
abbrev Cv.L (x:Cv):List (List Aa):=x.1
abbrev Cv.G (x:Cv):Ck:=x.2.1
abbrev Cv.N (x:Cv):List Int:=x.2.2
abbrev Bp.sg:Sig:=⟨[(.agg,Eu)],[],[(.one,.bool)],[]⟩
def Bp.l1 (K:Nat) (x0:Cv):Nat→Int→Int→Option Bool
 | 0,_,_=>none
 | k+1,n_10,i_11 =>
  if decide (i_11<((x0.L.length:Nat):Int)) then
   if decide (n_10<1048576) then
    if (0:Int)≤i_11∧i_11<((x0.L.length:Nat):Int) then
    (A5 K (nth x0.L i_11)).bind fun r29 =>
    Bp.l1 K x0 k (wr .i64 (n_10+r29)) (wr .i64 (i_11+1))
    else none
   else
    if decide (n_10 > 700) then
     some true
    else
     (Dg K x0.G).bind fun r36 =>
     some r36
  else
   if decide (n_10 > 700) then
    some true
   else
    (Dg K x0.G).bind fun r36 =>
    some r36
def Bp (K:Nat) (x0:Cv):Option Bool :=
 Bp.l1 K x0 K (wr .i64 (((x0.N.length:Nat):Int)+((x0.L.length:Nat):Int))) (0:Int)
abbrev Ay.sg:Sig:=⟨[(.one,(.sl Ap))],[],[(.one,(.sl Ap))],[.o]⟩
def Ay.l1 (K:Nat) (x0:List Aa):Nat→Int→(List Aa)→Option (List Aa)
 | 0,_,_=>none
 | k+1,i_10,m_11 =>
  if decide (i_10<((x0.length:Nat):Int)) then
   if (0:Int)≤i_10∧i_10<((x0.length:Nat):Int) then
   if (m_11.length+([(nth x0 i_10)]:List Aa).length)*40≤140737488355328 then
   Ay.l1 K x0 k (wr .i64 (i_10+1)) (m_11++([(nth x0 i_10)]:List Aa))
   else none
   else none
  else
   some m_11
def Ay (K:Nat) (x0:List Aa):Option (List Aa) :=
 Ay.l1 K x0 K (0:Int) ([]:List Aa)
abbrev Cn.sg:Sig:=⟨[(.one,(.int .i64)),(.one,(.int .i64)),(.one,(.int .i64))],[],[(.one,.bool)],[]⟩
def Cn (K:Nat) (x0:Int) (x1:Int) (x2:Int):Option Bool :=
 if decide (x0≥x1) then
  some (decide (x0≤x2))
 else
  some false
abbrev Bo.sg:Sig:=⟨[(.one,(.sl Ap)),(.one,(.int .i64))],[],[(.one,(.int .i64))],[]⟩
def Bo.l1 (K:Nat) (x0:List Aa) (x1:Int):Nat→Int→Option Int
 | 0,_=>none
 | k+1,i_10 =>
  if decide (i_10<((x0.length:Nat):Int)) then
   if (0:Int)≤i_10∧i_10<((x0.length:Nat):Int) then
   if (((nth x0 i_10).ID) == x1) then
    some i_10
   else
    Bo.l1 K x0 x1 k (wr .i64 (i_10+1))
   else none
  else
   some ((-1):Int)
def Bo (K:Nat) (x0:List Aa) (x1:Int):Option Int :=
 Bo.l1 K x0 x1 K (0:Int)
abbrev C4.sg:Sig:=⟨[(.one,(.int .i64)),(.one,(.int .i64))],[],[(.one,.bool)],[]⟩
def C4 (K:Nat) (x0:Int) (x1:Int):Option Bool :=
 if decide (x0≥0) then
  some (decide (x0≤x1))
 else
  some false
abbrev Dj.sg:Sig:=⟨[(.agg,C3),(.one,(.int .i64))],[],[(.one,(.int .i64))],[]⟩
def Dj (K:Nat) (x0:Am) (x1:Int):Option Int :=
 if (8:Int)≠0 then
 if (0:Int)≤(wr .i64 (x1.tdiv 8))∧(wr .i64 (x1.tdiv 8))<((x0.Data.size:Nat):Int) then
 if (8:Int)≠0 then
 if (0:Int)≤(wr .i64 (7-(x1.tmod 8))) then
 some (ib .and .i64 ((wr .i64 (bt x0.Data (wr .i64 (x1.tdiv 8)))).fdiv (2 ^ min ((wr .i64 (7-(x1.tmod 8)))).toNat 64)) 1)
 else none
 else none
 else none
 else none
abbrev Br.sg:Sig:=⟨[(.agg,C3)],[],[(.one,.bool)],[]⟩
def Br.l1 (K:Nat) (x0:Am):Nat→Int→Option Bool
 | 0,_=>none
 | k+1,i_10 =>
  if decide (i_10<(wr .i64 (8*((x0.Data.size:Nat):Int)))) then
   (Dj K x0 i_10).bind fun r30 =>
   if (r30 != 0) then
    some false
   else
    Br.l1 K x0 k (wr .i64 (i_10+1))
  else
   some true
def Br (K:Nat) (x0:Am):Option Bool :=
 (C4 K x0.N 6000).bind fun r6 =>
 if (!r6) then
  some false
 else
  if (8:Int)≠0 then
  if (((x0.Data.size:Nat):Int) != (wr .i64 ((wr .i64 (x0.N+7)).tdiv 8))) then
   some false
  else
   Br.l1 K x0 K x0.N
  else none
abbrev Bb.sg:Sig:=⟨[(.one,(.sl Ap))],[],[(.one,.bool)],[]⟩
def Bb.l1 (K:Nat) (x0:List Aa):Nat→Int→Option Bool
 | 0,_=>none
 | k+1,i_10 =>
  if decide (i_10<((x0.length:Nat):Int)) then
   if (0:Int)≤i_10∧i_10<((x0.length:Nat):Int) then
   (Cn K ((nth x0 i_10).ID) 1 1048576).bind fun r20 =>
   if (!r20) then
    some false
   else
    if decide (i_10 > 0) then
     if (0:Int)≤(wr .i64 (i_10-1))∧(wr .i64 (i_10-1))<((x0.length:Nat):Int) then
     if decide (((nth x0 (wr .i64 (i_10-1))).ID)≥((nth x0 i_10).ID)) then
      some false
     else
      if (((nth x0 i_10).Base) == ((nth x0 i_10).ID)) then
       some false
      else
       if (((nth x0 i_10).Base) != 0) then
        (Bo K x0 ((nth x0 i_10).Base)).bind fun r52 =>
        if decide (r52<0) then
         some false
        else
         (Br K ((nth x0 i_10).Data)).bind fun r59 =>
         if (!r59) then
          some false
         else
          Bb.l1 K x0 k (wr .i64 (i_10+1))
       else
        (Br K ((nth x0 i_10).Data)).bind fun r59 =>
        if (!r59) then
         some false
        else
         Bb.l1 K x0 k (wr .i64 (i_10+1))
     else none
    else
     if (((nth x0 i_10).Base) == ((nth x0 i_10).ID)) then
      some false
     else
      if (((nth x0 i_10).Base) != 0) then
       (Bo K x0 ((nth x0 i_10).Base)).bind fun r52 =>
       if decide (r52<0) then
        some false
       else
        (Br K ((nth x0 i_10).Data)).bind fun r59 =>
        if (!r59) then
         some false
        else
         Bb.l1 K x0 k (wr .i64 (i_10+1))
      else
       (Br K ((nth x0 i_10).Data)).bind fun r59 =>
       if (!r59) then
        some false
       else
        Bb.l1 K x0 k (wr .i64 (i_10+1))
   else none
  else
   some true
def Bb (K:Nat) (x0:List Aa):Option Bool :=
 if decide (((x0.length:Nat):Int) > 12) then
  some false
 else
  Bb.l1 K x0 K (0:Int)
abbrev D6.sg:Sig:=⟨[(.agg,C3)],[],[(.one,.bool)],[]⟩
def D6 (K:Nat) (x0:Am):Option Bool :=
 if decide (x0.N<0) then
  some false
 else
  if decide (x0.N > 6000) then
   some false
  else
   if (8:Int)≠0 then
   if (((x0.Data.size:Nat):Int) != (wr .i64 ((wr .i64 ((wr .i64 (x0.N+8))-1)).tdiv 8))) then
    some false
   else
    if (8:Int)≠0 then
    if ((x0.N.tmod 8) == 0) then
     some true
    else
     if (0:Int)≤(wr .i64 (((x0.Data.size:Nat):Int)-1))∧(wr .i64 (((x0.Data.size:Nat):Int)-1))<((x0.Data.size:Nat):Int) then
     if (0:Int)≤(x0.N.tmod 8) then
     some ((ib .and .u8 (bt x0.Data (wr .i64 (((x0.Data.size:Nat):Int)-1))) ((255:Int).fdiv (2 ^ min ((x0.N.tmod 8)).toNat 8))) == 0)
     else none
     else none
    else none
   else none
abbrev Ek.sg:Sig:=⟨[(.agg,Ap),(.box,(.int .i64))],[],[(.one,.bool)],[]⟩
def Ek (K:Nat) (x0:Aa) (x1:Int):Option (Bool × Int) :=
 some ((x0.ID == x1),x1)
abbrev Ah.sg:Sig:=⟨[(.one,(.sl Ap)),(.fn 166 1,.un),(.hid,(.int .i64))],[],[(.one,(.int .i64))],[]⟩
def Ah.l1 (K:Nat) (x0:List Aa):Nat→Int→Int→Int→Option (Int × Int)
 | 0,_,_,_=>none
 | k+1,t_10,t_11,h_12 =>
  if decide (t_11<t_10) then
   if (0:Int)≤t_11∧t_11<((x0.length:Nat):Int) then
   (Ek K (nth x0 t_11) h_12).bind fun r16 =>
   if r16.1 then
    some (t_11,r16.2)
   else
    Ah.l1 K x0 k t_10 (wr .i64 (t_11+1)) r16.2
   else none
  else
   some ((-1),h_12)
def Ah (K:Nat) (x0:List Aa) (x2:Int):Option (Int × Int) :=
 Ah.l1 K x0 K ((x0.length:Nat):Int) (0:Int) x2
abbrev Dz.sg:Sig:=⟨[(.one,(.sl Ap)),(.one,(.int .i64))],[],[(.one,(.int .i64))],[]⟩
def Dz (K:Nat) (x0:List Aa) (x1:Int):Option Int :=
 (Ah K x0 x1).bind fun r7 =>
 some r7.1
abbrev Cx.sg:Sig:=⟨[(.one,(.sl Ap))],[],[(.one,.bool)],[]⟩
def Cx.l1 (K:Nat) (x0:List Aa):Nat→Int→Int→Option Bool
 | 0,_,_=>none
 | k+1,t_10,t_11 =>
  if decide (t_11<t_10) then
   if (0:Int)≤t_11∧t_11<((x0.length:Nat):Int) then
   if decide (((nth x0 t_11).ID)<1) then
    some false
   else
    if decide (((nth x0 t_11).ID) > 1048576) then
     some false
    else
     if decide (t_11 > 0) then
      if (0:Int)≤(wr .i64 (t_11-1))∧(wr .i64 (t_11-1))<((x0.length:Nat):Int) then
      if decide (((nth x0 t_11).ID)≤((nth x0 (wr .i64 (t_11-1))).ID)) then
       some false
      else
       (D6 K ((nth x0 t_11).Data)).bind fun r41 =>
       if (!r41) then
        some false
       else
        if (((nth x0 t_11).Base) == ((nth x0 t_11).ID)) then
         some false
        else
         if (((nth x0 t_11).Base) != 0) then
          (Dz K x0 ((nth x0 t_11).Base)).bind fun r57 =>
          if decide (r57<0) then
           some false
          else
           Cx.l1 K x0 k t_10 (wr .i64 (t_11+1))
         else
          Cx.l1 K x0 k t_10 (wr .i64 (t_11+1))
      else none
     else
      (D6 K ((nth x0 t_11).Data)).bind fun r41 =>
      if (!r41) then
       some false
      else
       if (((nth x0 t_11).Base) == ((nth x0 t_11).ID)) then
        some false
       else
        if (((nth x0 t_11).Base) != 0) then
         (Dz K x0 ((nth x0 t_11).Base)).bind fun r57 =>
         if decide (r57<0) then
          some false
         else
          Cx.l1 K x0 k t_10 (wr .i64 (t_11+1))
        else
         Cx.l1 K x0 k t_10 (wr .i64 (t_11+1))
   else none
  else
   some true
def Cx (K:Nat) (x0:List Aa):Option Bool :=
 if decide (((x0.length:Nat):Int) > 12) then
  some false
 else
  Cx.l1 K x0 K ((x0.length:Nat):Int) (0:Int)
abbrev En.sg:Sig:=⟨[(.one,(.sl Ap))],[],[(.one,(.int .i64))],[]⟩
def En (K:Nat) (x0:List Aa):Option Int :=
 (Cx K x0).bind fun r4 =>
 if (!r4) then
  some (1:Int)
 else
  some (0:Int)
abbrev C5.sg:Sig:=⟨[(.one,(.int .i64))],[],[(.one,(.int .i64))],[]⟩
def C5 (K:Nat) (x0:Int):Option Int :=
 some x0
abbrev Bf.sg:Sig:=⟨[(.agg,Eu),(.one,(.sl Ap))],[],[(.one,(.sl (.int .i64)))],[.o]⟩
def Bf.l2 (K:Nat) (x1:List Aa):Nat→Int→(List Int)→Option (List Int)
 | 0,_,_=>none
 | k+1,i_11,x_12 =>
  if decide (i_11<((x1.length:Nat):Int)) then
   if decide (i_11<8) then
    if (0:Int)≤i_11∧i_11<((x1.length:Nat):Int) then
    if (x_12.length+([(nth x1 i_11).ID]:List Int).length)*8≤140737488355328 then
    Bf.l2 K x1 k (wr .i64 (i_11+1)) (x_12++([(nth x1 i_11).ID]:List Int))
    else none
    else none
   else
    some x_12
  else
   some x_12
def Bf.j1 (K:Nat) (x1:List Aa) (x_10:List Int):Option (List Int) :=
 Bf.l2 K x1 K (0:Int) x_10
def Bf (K:Nat) (x0:Cv) (x1:List Aa):Option (List Int) :=
 if (([0,(-1),99]:List Int).length+x0.N.length)*8≤140737488355328 then
 if decide ((((([0,(-1),99]:List Int)++x0.N).length:Nat):Int) > 5) then
  if (0:Int)≤(5:Int)∧(5:Int)≤(((([0,(-1),99]:List Int)++x0.N).length:Nat):Int) then
  Bf.j1 K x1 ((([0,(-1),99]:List Int)++x0.N).take (5:Int).toNat)
  else none
 else
  Bf.j1 K x1 (([0,(-1),99]:List Int)++x0.N)
 else none
abbrev Dl.sg:Sig:=⟨[(.one,(.sl Ap)),(.one,(.int .i64)),(.one,(.int .i64))],[],[(.one,(.sl Ap))],[.o]⟩
def Dl.l1 (K:Nat) (x0:List Aa) (x2:Int):Nat→Int→(List Aa)→Option (List Aa)
 | 0,_,_=>none
 | k+1,id_10,w_11 =>
  if (id_10 != 0) then
   if decide (((w_11.length:Nat):Int)<x2) then
    (Dz K x0 id_10).bind fun r19 =>
    if (0:Int)≤r19∧r19<((x0.length:Nat):Int) then
    if (w_11.length+([(nth x0 r19)]:List Aa).length)*40≤140737488355328 then
    Dl.l1 K x0 x2 k ((nth x0 r19).Base) (w_11++([(nth x0 r19)]:List Aa))
    else none
    else none
   else
    some w_11
  else
   some w_11
def Dl (K:Nat) (x0:List Aa) (x1:Int) (x2:Int):Option (List Aa) :=
 Dl.l1 K x0 x2 K x1 ([]:List Aa)
abbrev D2.sg:Sig:=⟨[(.one,(.sl Ap)),(.one,(.int .i64))],[],[(.one,(.int .i64)),(.one,(.int .i64))],[]⟩
def D2 (K:Nat) (x0:List Aa) (x1:Int):Option (Int × Int) :=
 (Dz K x0 x1).bind fun r9 =>
 if decide (r9<0) then
  some (0,3)
 else
  (Dl K x0 x1 4).bind fun r13 =>
  if decide (((r13.length:Nat):Int) > 3) then
   some (0,2)
  else
   some (((r13.length:Nat):Int),0)
abbrev Eg.sg:Sig:=⟨[(.one,(.sl Ap)),(.one,(.int .i64))],[],[(.one,(.int .i64)),(.one,(.int .i64))],[]⟩
def Eg (K:Nat) (x0:List Aa) (x1:Int):Option (Int × Int) :=
 (Cx K x0).bind fun r7 =>
 if (!r7) then
  some (0,1)
 else
  (D2 K x0 x1).bind fun r11 =>
  some (r11.1,r11.2)
abbrev El.sg:Sig:=⟨[(.agg,C3),(.one,(.int .i64))],[],[(.one,(.int .i64))],[]⟩
def El (K:Nat) (x0:Am) (x1:Int):Option Int :=
 if (8:Int)≠0 then
 if (0:Int)≤(wr .i64 (x1.tdiv 8))∧(wr .i64 (x1.tdiv 8))<((x0.Data.size:Nat):Int) then
 if (8:Int)≠0 then
 if (0:Int)≤(wr .i64 (7-(x1.tmod 8))) then
 some (ib .and .i64 (wr .i64 ((bt x0.Data (wr .i64 (x1.tdiv 8))).fdiv (2 ^ min ((wr .i64 (7-(x1.tmod 8)))).toNat 8))) 1)
 else none
 else none
 else none
 else none
abbrev Dh.sg:Sig:=⟨[(.agg,C3),(.one,(.int .i64))],[],[(.one,(.int .i64))],[]⟩
def Dh.l1 (K:Nat) (x0:Am) (x1:Int):Nat→Int→Option Int
 | 0,_=>none
 | k+1,i_10 =>
  if decide (i_10<x0.N) then
   (El K x0 i_10).bind fun r15 =>
   if (r15 == 1) then
    some (wr .i64 (i_10-x1))
   else
    Dh.l1 K x0 x1 k (wr .i64 (i_10+1))
  else
   some ((-1):Int)
def Dh (K:Nat) (x0:Am) (x1:Int):Option Int :=
 Dh.l1 K x0 x1 K x1
abbrev B7:Type:=Am × Int × Bool
abbrev Er:Ty:=(.pr C3 (.pr (.int .i64) .bool))
abbrev B7.b (x:B7):Am:=x.1
abbrev B7.at_ (x:B7):Int:=x.2.1
abbrev B7.bad (x:B7):Bool:=x.2.2
abbrev Db.sg:Sig:=⟨[(.box,Er),(.one,(.int .i64))],[],[(.one,(.int .i64))],[]⟩
def Db (K:Nat) (x0:B7) (x1:Int):Option (Int × B7) :=
 (Dh K x0.b x0.at_).bind fun r14 =>
 if x0.bad then
  some (0,((x0.b,x0.at_,true):B7))
 else
  if decide (r14<0) then
   some (0,((x0.b,x0.at_,true):B7))
  else
   if decide (r14 > x1) then
    some (0,((x0.b,x0.at_,true):B7))
   else
    some (r14,((x0.b,wr .i64 (x0.at_+r14),x0.bad):B7))
abbrev Dn.sg:Sig:=⟨[(.agg,C3),(.one,(.int .i64)),(.one,(.int .i64))],[],[(.one,(.int .i64)),(.one,.bool)],[]⟩
def Dn.l1 (K:Nat) (x0:Am) (x1:Int) (x2:Int):Nat→Int→Int→Option (Int × Bool)
 | 0,_,_=>none
 | k+1,v_10,t_11 =>
  if decide (t_11<x2) then
   if (0:Int)≤1 then
   (El K x0 (wr .i64 (x1+t_11))).bind fun r32 =>
   Dn.l1 K x0 x1 x2 k (ib .or .i64 (wr .i64 (v_10*2 ^ min ((1:Int)).toNat 64)) r32) (wr .i64 (t_11+1))
   else none
  else
   some (v_10,true)
def Dn (K:Nat) (x0:Am) (x1:Int) (x2:Int):Option (Int × Bool) :=
 if decide (x1 > x0.N) then
  some (0,false)
 else
  if decide (x2 > (wr .i64 (x0.N-x1))) then
   some (0,false)
  else
   Dn.l1 K x0 x1 x2 K (0:Int) (0:Int)
abbrev Co.sg:Sig:=⟨[(.box,Er),(.one,(.int .i64))],[],[(.one,(.int .i64))],[]⟩
def Co (K:Nat) (x0:B7) (x1:Int):Option (Int × B7) :=
 (Dn K x0.b x0.at_ x1).bind fun r17 =>
 if x0.bad then
  some (0,((x0.b,x0.at_,true):B7))
 else
  if (!r17.2) then
   some (0,((x0.b,x0.at_,true):B7))
  else
   some (r17.1,((x0.b,wr .i64 (x0.at_+x1),x0.bad):B7))
abbrev Di.sg:Sig:=⟨[(.box,Er),(.one,(.int .i64))],[],[(.one,(.int .i64))],[]⟩
def Di (K:Nat) (x0:B7) (x1:Int):Option (Int × B7) :=
 (Db K x0 (wr .i64 (x1-1))).bind fun r9 =>
 (Co K r9.2 1).bind fun r11 =>
 some (wr .i64 (r9.1+1),r11.2)
abbrev Cy.sg:Sig:=⟨[(.box,Er)],[],[(.one,(.int .i64))],[]⟩
def Cy (K:Nat) (x0:B7):Option (Int × B7) :=
 (Db K x0 30).bind fun r5 =>
 (Co K r5.2 (wr .i64 (r5.1+1))).bind fun r9 =>
 some (r9.1,r9.2)
abbrev Ds.sg:Sig:=⟨[(.box,Er)],[],[(.one,(.int .i64))],[]⟩
def Ds (K:Nat) (x0:B7):Option (Int × B7) :=
 (Cy K x0).bind fun r5 =>
 if r5.2.bad then
  some (0,((r5.2.b,r5.2.at_,true):B7))
 else
  if decide ((wr .i64 (r5.1-1)) > 30) then
   some (0,((r5.2.b,r5.2.at_,true):B7))
  else
   if (0:Int)≤(wr .i64 (r5.1-1)) then
   (Co K r5.2 (wr .i64 (r5.1-1))).bind fun r22 =>
   some (ib .or .i64 (wr .i64 ((1:Int)*2 ^ min ((wr .i64 (r5.1-1))).toNat 64)) r22.1,r22.2)
   else none
abbrev Ei.sg:Sig:=⟨[(.one,(.int .i64))],[],[(.one,(.int .i64))],[]⟩
def Ei (K:Nat) (x0:Int):Option Int :=
 some (wr .i64 ((wr .i64 (x0-4))+2))
abbrev Cu.sg:Sig:=⟨[(.one,(.int .u32))],[],[(.one,(.int .i64))],[]⟩
def Cu.j2 (K:Nat) (x_12:Int) (n_13:Int):Option Int :=
 if (0:Int)≤(wr .u8 x_12)∧(wr .u8 x_12)<(((⟨#[0,1,2,2,3,3,3,3,4,4,4,4,4,4,4,4,5,5,5,5,5,5,5,5,5,5,5,5,5,5,5,5,6,6,6,6,6,6,6,6,6,6,6,6,6,6,6,6,6,6,6,6,6,6,6,6,6,6,6,6,6,6,6,6,7,7,7,7,7,7,7,7,7,7,7,7,7,7,7,7,7,7,7,7,7,7,7,7,7,7,7,7,7,7,7,7,7,7,7,7,7,7,7,7,7,7,7,7,7,7,7,7,7,7,7,7,7,7,7,7,7,7,7,7,7,7,7,7,8,8,8,8,8,8,8,8,8,8,8,8,8,8,8,8,8,8,8,8,8,8,8,8,8,8,8,8,8,8,8,8,8,8,8,8,8,8,8,8,8,8,8,8,8,8,8,8,8,8,8,8,8,8,8,8,8,8,8,8,8,8,8,8,8,8,8,8,8,8,8,8,8,8,8,8,8,8,8,8,8,8,8,8,8,8,8,8,8,8,8,8,8,8,8,8,8,8,8,8,8,8,8,8,8,8,8,8,8,8,8,8,8,8,8,8,8,8,8,8,8,8,8,8,8,8,8,8]⟩:ByteArray).size:Nat):Int) then
 some (wr .i64 (n_13+(wr .i64 (bt (⟨#[0,1,2,2,3,3,3,3,4,4,4,4,4,4,4,4,5,5,5,5,5,5,5,5,5,5,5,5,5,5,5,5,6,6,6,6,6,6,6,6,6,6,6,6,6,6,6,6,6,6,6,6,6,6,6,6,6,6,6,6,6,6,6,6,7,7,7,7,7,7,7,7,7,7,7,7,7,7,7,7,7,7,7,7,7,7,7,7,7,7,7,7,7,7,7,7,7,7,7,7,7,7,7,7,7,7,7,7,7,7,7,7,7,7,7,7,7,7,7,7,7,7,7,7,7,7,7,7,8,8,8,8,8,8,8,8,8,8,8,8,8,8,8,8,8,8,8,8,8,8,8,8,8,8,8,8,8,8,8,8,8,8,8,8,8,8,8,8,8,8,8,8,8,8,8,8,8,8,8,8,8,8,8,8,8,8,8,8,8,8,8,8,8,8,8,8,8,8,8,8,8,8,8,8,8,8,8,8,8,8,8,8,8,8,8,8,8,8,8,8,8,8,8,8,8,8,8,8,8,8,8,8,8,8,8,8,8,8,8,8,8,8,8,8,8,8,8,8,8,8,8,8,8,8,8,8]⟩:ByteArray) (wr .u8 x_12)))))
 else none
def Cu.j1 (K:Nat) (x_10:Int) (n_11:Int):Option Int :=
 if decide (x_10≥256) then
  if (0:Int)≤8 then
  Cu.j2 K (x_10.fdiv (2 ^ min ((8:Int)).toNat 32)) (wr .i64 (n_11+8))
  else none
 else
  Cu.j2 K x_10 n_11
def Cu (K:Nat) (x0:Int):Option Int :=
 if decide (x0≥65536) then
  if (0:Int)≤16 then
  Cu.j1 K (x0.fdiv (2 ^ min ((16:Int)).toNat 32)) (16:Int)
  else none
 else
  Cu.j1 K x0 (0:Int)
abbrev B8.sg:Sig:=⟨[(.one,(.int .u64))],[],[(.one,(.int .i64))],[]⟩
def B8.j3 (K:Nat) (x_14:Int) (n_15:Int):Option Int :=
 if (0:Int)≤(wr .u8 x_14)∧(wr .u8 x_14)<(((⟨#[0,1,2,2,3,3,3,3,4,4,4,4,4,4,4,4,5,5,5,5,5,5,5,5,5,5,5,5,5,5,5,5,6,6,6,6,6,6,6,6,6,6,6,6,6,6,6,6,6,6,6,6,6,6,6,6,6,6,6,6,6,6,6,6,7,7,7,7,7,7,7,7,7,7,7,7,7,7,7,7,7,7,7,7,7,7,7,7,7,7,7,7,7,7,7,7,7,7,7,7,7,7,7,7,7,7,7,7,7,7,7,7,7,7,7,7,7,7,7,7,7,7,7,7,7,7,7,7,8,8,8,8,8,8,8,8,8,8,8,8,8,8,8,8,8,8,8,8,8,8,8,8,8,8,8,8,8,8,8,8,8,8,8,8,8,8,8,8,8,8,8,8,8,8,8,8,8,8,8,8,8,8,8,8,8,8,8,8,8,8,8,8,8,8,8,8,8,8,8,8,8,8,8,8,8,8,8,8,8,8,8,8,8,8,8,8,8,8,8,8,8,8,8,8,8,8,8,8,8,8,8,8,8,8,8,8,8,8,8,8,8,8,8,8,8,8,8,8,8,8,8,8,8,8,8,8]⟩:ByteArray).size:Nat):Int) then
 some (wr .i64 (n_15+(wr .i64 (bt (⟨#[0,1,2,2,3,3,3,3,4,4,4,4,4,4,4,4,5,5,5,5,5,5,5,5,5,5,5,5,5,5,5,5,6,6,6,6,6,6,6,6,6,6,6,6,6,6,6,6,6,6,6,6,6,6,6,6,6,6,6,6,6,6,6,6,7,7,7,7,7,7,7,7,7,7,7,7,7,7,7,7,7,7,7,7,7,7,7,7,7,7,7,7,7,7,7,7,7,7,7,7,7,7,7,7,7,7,7,7,7,7,7,7,7,7,7,7,7,7,7,7,7,7,7,7,7,7,7,7,8,8,8,8,8,8,8,8,8,8,8,8,8,8,8,8,8,8,8,8,8,8,8,8,8,8,8,8,8,8,8,8,8,8,8,8,8,8,8,8,8,8,8,8,8,8,8,8,8,8,8,8,8,8,8,8,8,8,8,8,8,8,8,8,8,8,8,8,8,8,8,8,8,8,8,8,8,8,8,8,8,8,8,8,8,8,8,8,8,8,8,8,8,8,8,8,8,8,8,8,8,8,8,8,8,8,8,8,8,8,8,8,8,8,8,8,8,8,8,8,8,8,8,8,8,8,8,8]⟩:ByteArray) (wr .u8 x_14)))))
 else none
def B8.j2 (K:Nat) (x_12:Int) (n_13:Int):Option Int :=
 if decide (x_12≥256) then
  if (0:Int)≤8 then
  B8.j3 K (x_12.fdiv (2 ^ min ((8:Int)).toNat 64)) (wr .i64 (n_13+8))
  else none
 else
  B8.j3 K x_12 n_13
def B8.j1 (K:Nat) (x_10:Int) (n_11:Int):Option Int :=
 if decide (x_10≥65536) then
  if (0:Int)≤16 then
  B8.j2 K (x_10.fdiv (2 ^ min ((16:Int)).toNat 64)) (wr .i64 (n_11+16))
  else none
 else
  B8.j2 K x_10 n_11
def B8 (K:Nat) (x0:Int):Option Int :=
 if decide (x0≥4294967296) then
  if (0:Int)≤32 then
  B8.j1 K (x0.fdiv (2 ^ min ((32:Int)).toNat 64)) (32:Int)
  else none
 else
  B8.j1 K x0 (0:Int)
abbrev D3.sg:Sig:=⟨[(.one,(.int .u64))],[],[(.one,(.int .i64))],[]⟩
def D3 (K:Nat) (x0:Int):Option Int :=
 (B8 K x0).bind fun r7 =>
 some r7
abbrev Eq.sg:Sig:=⟨[(.one,(.int .i64)),(.one,(.int .i64))],[],[(.one,(.int .i64)),(.one,(.int .i64)),(.one,(.int .i64)),(.one,(.int .i64))],[]⟩
def Eq (K:Nat) (x0:Int) (x1:Int):Option (Int × Int × Int × Int) :=
 if (0:Int)≤(wr .i64 (x1*x0)) then
 if (0:Int)≤x0 then
 (D3 K (wr .u64 (wr .i64 ((wr .i64 ((wr .i64 ((wr .i64 ((1:Int)*2 ^ min ((wr .i64 (x1*x0))).toNat 64))*2 ^ min (x0).toNat 64))-(wr .i64 ((1:Int)*2 ^ min ((wr .i64 (x1*x0))).toNat 64))))-1)))).bind fun r20 =>
 if (0:Int)≤r20 then
 some (wr .i64 ((1:Int)*2 ^ min ((wr .i64 (x1*x0))).toNat 64),wr .i64 ((wr .i64 ((wr .i64 ((1:Int)*2 ^ min ((wr .i64 (x1*x0))).toNat 64))*2 ^ min (x0).toNat 64))-(wr .i64 ((1:Int)*2 ^ min ((wr .i64 (x1*x0))).toNat 64))),r20,wr .i64 ((wr .i64 ((1:Int)*2 ^ min (r20).toNat 64))-(wr .i64 ((wr .i64 ((wr .i64 ((1:Int)*2 ^ min ((wr .i64 (x1*x0))).toNat 64))*2 ^ min (x0).toNat 64))-(wr .i64 ((1:Int)*2 ^ min ((wr .i64 (x1*x0))).toNat 64))))))
 else none
 else none
 else none
abbrev Dw.sg:Sig:=⟨[(.box,Er),(.one,(.int .i64))],[],[(.one,(.int .i64))],[]⟩
def Dw (K:Nat) (x0:B7) (x1:Int):Option (Int × B7) :=
 if x1≠0 then
 (Di K x0 (wr .i64 ((wr .i64 ((30:Int).tdiv x1))+1))).bind fun r15 =>
 if r15.2.bad then
  some (0,r15.2)
 else
  (Eq K x1 (wr .i64 (r15.1-1))).bind fun r24 =>
  (Co K r15.2 (wr .i64 (r24.2.2.1-1))).bind fun r32 =>
  if decide (r32.1≥r24.2.2.2) then
   if (0:Int)≤1 then
   (Co K r32.2 1).bind fun r39 =>
   some (wr .i64 (r24.1+(wr .i64 ((wr .i64 ((wr .i64 (r32.1*2 ^ min ((1:Int)).toNat 64))+r39.1))-r24.2.2.2))),r39.2)
   else none
  else
   some (wr .i64 (r24.1+r32.1),r32.2)
 else none
abbrev Cr.sg:Sig:=⟨[(.agg,C3),(.one,(.int .i64)),(.one,(.int .i64))],[],[(.one,(.int .i64)),(.one,(.int .i64)),(.one,.bool)],[]⟩
def Cr.j1 (K:Nat) (n_14:Int) (r_10:ByteArray) (r_11:Int) (r_12:Int) (r_13:Bool):Option (Int × Int × Bool) :=
 if r_13 then
  some (0,0,false)
 else
  if decide (n_14 > 1073741824) then
   some (0,0,false)
  else
   some (n_14,r_12,true)
def Cr (K:Nat) (x0:Am) (x1:Int) (x2:Int):Option (Int × Int × Bool) :=
 if (x2 == 1) then
  (Di K ((x0,x1,false):B7) 1000).bind fun r23 =>
  Cr.j1 K r23.1 r23.2.b.Data r23.2.b.N r23.2.at_ r23.2.bad
 else
  if (x2 == 2) then
   (Cy K ((x0,x1,false):B7)).bind fun r27 =>
   Cr.j1 K r27.1 r27.2.b.Data r27.2.b.N r27.2.at_ r27.2.bad
  else
   if (x2 == 3) then
    (Ds K ((x0,x1,false):B7)).bind fun r31 =>
    Cr.j1 K r31.1 r31.2.b.Data r31.2.b.N r31.2.at_ r31.2.bad
   else
    (Ei K x2).bind fun r18 =>
    (Dw K ((x0,x1,false):B7) r18).bind fun r19 =>
    Cr.j1 K r19.1 r19.2.b.Data r19.2.b.N r19.2.at_ r19.2.bad
abbrev D5.sg:Sig:=⟨[(.agg,C3)],[],[(.one,(.int .i64)),(.one,(.int .i64)),(.one,.bool)],[]⟩
def D5 (K:Nat) (x0:Am):Option (Int × Int × Bool) :=
 (Cr K x0 0 2).bind fun r7 =>
 if (!r7.2.2) then
  some (0,0,false)
 else
  if decide (r7.1 > 17) then
   some (0,0,false)
  else
   some (wr .i64 (r7.1-1),r7.2.1,true)
abbrev Dy.sg:Sig:=⟨[(.one,(.int .i64))],[],[(.one,(.int .i64))],[]⟩
def Dy (K:Nat) (x0:Int):Option Int :=
 if (2:Int)≠0 then
 if ((x0.tmod 2) == 1) then
  if (2:Int)≠0 then
  some (wr .i64 ((wr .i64 (0-(wr .i64 (x0+1)))).tdiv 2))
  else none
 else
  if (2:Int)≠0 then
  some (wr .i64 (x0.tdiv 2))
  else none
 else none
abbrev Aj:Type:=Int × Int
abbrev C2:Ty:=(.pr (.int .i64) (.int .i64))
abbrev Aj.At (x:Aj):Int:=x.1
abbrev Aj.Len (x:Aj):Int:=x.2
abbrev Ce.sg:Sig:=⟨[(.agg,C3),(.one,(.int .i64)),(.one,(.int .i64))],[],[(.one,(.sl C2)),(.one,(.int .i64)),(.one,.bool)],[.o]⟩
def Ce.j2 (K:Nat) (go_l1:Int→Int→Int→Int→(List Aj)→Option ((List Aj) × Int × Bool)) (r48:Int × Int × Bool) (t_10:Int) (t_11:Int) (t_13:List Aj) (t_15:Int) (x0:Am) (t_12:Int):Option ((List Aj) × Int × Bool) :=
 if (t_13.length+([((wr .i64 (t_15+t_12),wr .i64 ((wr .i64 (r48.1-1))+3)):Aj)]:List Aj).length)*16≤140737488355328 then
 go_l1 r48.2.1 (wr .i64 ((wr .i64 (t_15+t_12))+(wr .i64 ((wr .i64 (r48.1-1))+3)))) t_10 (wr .i64 (t_11+1)) (t_13++([((wr .i64 (t_15+t_12),wr .i64 ((wr .i64 (r48.1-1))+3)):Aj)]:List Aj))
 else none
def Ce.l1 (K:Nat) (x0:Am):Nat→Int→Int→Int→Int→(List Aj)→Option ((List Aj) × Int × Bool)
 | 0,_,_,_,_,_=>none
 | k+1,t_14,t_15,t_10,t_11,t_13 =>
  if decide (t_11<t_10) then
   (Cr K x0 t_14 2).bind fun r39 =>
   if (!r39.2.2) then
    some (([]:List Aj),0,false)
   else
    (Cr K x0 r39.2.1 2).bind fun r48 =>
    if (!r48.2.2) then
     some (([]:List Aj),0,false)
    else
     if (t_11 == 0) then
      (Dy K (wr .i64 (r39.1-1))).bind fun r58 =>
      Ce.j2 K (Ce.l1 K x0 k) r48 t_10 t_11 t_13 t_15 x0 r58
     else
      Ce.j2 K (Ce.l1 K x0 k) r48 t_10 t_11 t_13 t_15 x0 r39.1
  else
   some (t_13,t_14,true)
def Ce (K:Nat) (x0:Am) (x1:Int) (x2:Int):Option ((List Aj) × Int × Bool) :=
 (Cr K x0 x1 2).bind fun r20 =>
 if (!r20.2.2) then
  some (([]:List Aj),0,false)
 else
  if decide (r20.1 > 16) then
   some (([]:List Aj),0,false)
  else
   Ce.l1 K x0 K r20.2.1 x2 (wr .i64 (r20.1-1)) (0:Int) ([]:List Aj)
abbrev Ej.sg:Sig:=⟨[(.one,(.int .i64))],[],[(.one,.bool)],[]⟩
def Ej (K:Nat) (x0:Int):Option Bool :=
 if decide (x0≥0) then
  some (decide (x0<16))
 else
  some false
abbrev Cd.sg:Sig:=⟨[(.agg,C3),(.one,(.int .i64)),(.one,(.int .i64))],[],[(.one,(.sl (.int .i64))),(.one,(.int .i64)),(.one,.bool)],[.o]⟩
def Cd.j2 (K:Nat) (go_l1:Int→Int→Int→Int→(List Int)→Option ((List Int) × Int × Bool)) (l_13:List Int) (last_15:Int) (r35:Int × Int × Bool) (t_10:Int) (t_11:Int) (x0:Am) (n_12:Int):Option ((List Int) × Int × Bool) :=
 (Ej K (wr .i64 (last_15+n_12))).bind fun r50 =>
 if (!r50) then
  some (([]:List Int),0,false)
 else
  if (l_13.length+([wr .i64 (last_15+n_12)]:List Int).length)*8≤140737488355328 then
  go_l1 r35.2.1 (wr .i64 (last_15+n_12)) t_10 (wr .i64 (t_11+1)) (l_13++([wr .i64 (last_15+n_12)]:List Int))
  else none
def Cd.l1 (K:Nat) (x0:Am):Nat→Int→Int→Int→Int→(List Int)→Option ((List Int) × Int × Bool)
 | 0,_,_,_,_,_=>none
 | k+1,next_14,last_15,t_10,t_11,l_13 =>
  if decide (t_11<t_10) then
   (Cr K x0 next_14 2).bind fun r35 =>
   if (!r35.2.2) then
    some (([]:List Int),0,false)
   else
    if (t_11 == 0) then
     (Dy K (wr .i64 (r35.1-1))).bind fun r45 =>
     Cd.j2 K (Cd.l1 K x0 k) l_13 last_15 r35 t_10 t_11 x0 r45
    else
     Cd.j2 K (Cd.l1 K x0 k) l_13 last_15 r35 t_10 t_11 x0 r35.1
  else
   some (l_13,next_14,true)
def Cd (K:Nat) (x0:Am) (x1:Int) (x2:Int):Option ((List Int) × Int × Bool) :=
 (Cr K x0 x1 2).bind fun r16 =>
 if (!r16.2.2) then
  some (([]:List Int),0,false)
 else
  if decide (r16.1 > 17) then
   some (([]:List Int),0,false)
  else
   Cd.l1 K x0 K r16.2.1 x2 (wr .i64 (r16.1-1)) (0:Int) ([]:List Int)
abbrev Cw.sg:Sig:=⟨[(.one,(.sl (.int .i64)))],[],[(.one,(.sl (.int .i64)))],[.o]⟩
def Cw (K:Nat) (x0:List Int):Option (List Int) :=
 if (([]:List Int).length+x0.length)*8≤140737488355328 then
 some (([]:List Int)++x0)
 else none
abbrev Dq.sg:Sig:=⟨[(.one,(.sl (.int .i64)))],[],[(.one,.bool)],[]⟩
def Dq.l1 (K:Nat) (x0:List Int):Nat→Int→Int→Option Bool
 | 0,_,_=>none
 | k+1,t_10,t_11 =>
  if decide (t_11<t_10) then
   if (0:Int)≤t_11∧t_11<((x0.length:Nat):Int) then
   (Ej K (nth x0 t_11)).bind fun r13 =>
   if (!r13) then
    some false
   else
    if decide (t_11 > 0) then
     if (0:Int)≤(wr .i64 (t_11-1))∧(wr .i64 (t_11-1))<((x0.length:Nat):Int) then
     if decide ((nth x0 t_11)≤(nth x0 (wr .i64 (t_11-1)))) then
      some false
     else
      Dq.l1 K x0 k t_10 (wr .i64 (t_11+1))
     else none
    else
     Dq.l1 K x0 k t_10 (wr .i64 (t_11+1))
   else none
  else
   some true
def Dq (K:Nat) (x0:List Int):Option Bool :=
 Dq.l1 K x0 K ((x0.length:Nat):Int) (0:Int)
abbrev Cp.sg:Sig:=⟨[(.one,(.sl C2)),(.one,(.sl (.int .i64)))],[],[(.one,(.sl (.int .i64))),(.one,.bool)],[.o]⟩
def Cp.l2 (K:Nat) (go_l1:Int→Int→Int→(List Int)→Option ((List Int) × Bool)) (t_11:Int) (t_12:Int) (x0:List Aj) (x1:List Int):Nat→Int→Int→(List Int)→Option ((List Int) × Bool)
 | 0,_,_,_=>none
 | k+1,t_13,t_14,t_15 =>
  if decide (t_14<t_13) then
   if (t_15.length+([t_14]:List Int).length)*8≤140737488355328 then
   Cp.l2 K go_l1 t_11 t_12 x0 x1 k t_13 (wr .i64 (t_14+1)) (t_15++([t_14]:List Int))
   else none
  else
   go_l1 t_13 t_11 (wr .i64 (t_12+1)) t_15
def Cp.l1 (K:Nat) (x0:List Aj) (x1:List Int):Nat→Int→Int→Int→(List Int)→Option ((List Int) × Bool)
 | 0,_,_,_,_=>none
 | k+1,t_10,t_11,t_12,t_16 =>
  if decide (t_12<t_11) then
   if (0:Int)≤t_12∧t_12<((x0.length:Nat):Int) then
   if decide (((nth x0 t_12).Len)<3) then
    some (([]:List Int),false)
   else
    if decide (((nth x0 t_12).Len) > 16) then
     some (([]:List Int),false)
    else
     if decide (((nth x0 t_12).At)≤t_10) then
      some (([]:List Int),false)
     else
      (Ej K ((nth x0 t_12).At)).bind fun r36 =>
      if (!r36) then
       some (([]:List Int),false)
      else
       (Ej K (wr .i64 ((wr .i64 (((nth x0 t_12).At)+((nth x0 t_12).Len)))-1))).bind fun r46 =>
       if (!r46) then
        some (([]:List Int),false)
       else
        Cp.l2 K (Cp.l1 K x0 x1 k) t_11 t_12 x0 x1 K (wr .i64 (((nth x0 t_12).At)+((nth x0 t_12).Len))) ((nth x0 t_12).At) t_16
   else none
  else
   if t_16.length<4611686018427387904 then
   (Dq K x1).bind fun r70 =>
   if r70 then
    (Dq K (sortF t_16)).bind fun r73 =>
    some (sortF t_16,r73)
   else
    some (sortF t_16,false)
   else none
def Cp (K:Nat) (x0:List Aj) (x1:List Int):Option ((List Int) × Bool) :=
 (Cw K x1).bind fun r12 =>
 Cp.l1 K x0 x1 K ((-1):Int) ((x0.length:Nat):Int) (0:Int) r12
abbrev Ch.sg:Sig:=⟨[(.one,(.sl (.int .i64)))],[],[(.one,(.sl C2)),(.one,(.sl (.int .i64)))],[.o,.o]⟩
def Ch.l2 (K:Nat) (go_l1:Int→(List Aj)→(List Int)→Option ((List Aj) × (List Int))) (i_10:Int) (x0:List Int):Nat→Int→(List Aj)→(List Int)→Option ((List Aj) × (List Int))
 | 0,_,_,_=>none
 | k+1,k_11,r_14,rest_15 =>
  if decide (k_11<((x0.length:Nat):Int)) then
   if (0:Int)≤k_11∧k_11<((x0.length:Nat):Int) then
   if (0:Int)≤(wr .i64 (k_11-1))∧(wr .i64 (k_11-1))<((x0.length:Nat):Int) then
   if ((nth x0 k_11) == (wr .i64 ((nth x0 (wr .i64 (k_11-1)))+1))) then
    Ch.l2 K go_l1 i_10 x0 k (wr .i64 (k_11+1)) r_14 rest_15
   else
    if decide ((wr .i64 (k_11-i_10))≥3) then
     if (0:Int)≤i_10∧i_10<((x0.length:Nat):Int) then
     if (r_14.length+([((nth x0 i_10,wr .i64 (k_11-i_10)):Aj)]:List Aj).length)*16≤140737488355328 then
     go_l1 k_11 (r_14++([((nth x0 i_10,wr .i64 (k_11-i_10)):Aj)]:List Aj)) rest_15
     else none
     else none
    else
     if (0:Int)≤i_10∧i_10≤k_11∧k_11≤((x0.length:Nat):Int) then
     if (rest_15.length+(((x0).drop i_10.toNat).take (k_11.toNat-i_10.toNat)).length)*8≤140737488355328 then
     go_l1 k_11 r_14 (rest_15++(((x0).drop i_10.toNat).take (k_11.toNat-i_10.toNat)))
     else none
     else none
   else none
   else none
  else
   if decide ((wr .i64 (k_11-i_10))≥3) then
    if (0:Int)≤i_10∧i_10<((x0.length:Nat):Int) then
    if (r_14.length+([((nth x0 i_10,wr .i64 (k_11-i_10)):Aj)]:List Aj).length)*16≤140737488355328 then
    go_l1 k_11 (r_14++([((nth x0 i_10,wr .i64 (k_11-i_10)):Aj)]:List Aj)) rest_15
    else none
    else none
   else
    if (0:Int)≤i_10∧i_10≤k_11∧k_11≤((x0.length:Nat):Int) then
    if (rest_15.length+(((x0).drop i_10.toNat).take (k_11.toNat-i_10.toNat)).length)*8≤140737488355328 then
    go_l1 k_11 r_14 (rest_15++(((x0).drop i_10.toNat).take (k_11.toNat-i_10.toNat)))
    else none
    else none
def Ch.l1 (K:Nat) (x0:List Int):Nat→Int→(List Aj)→(List Int)→Option ((List Aj) × (List Int))
 | 0,_,_,_=>none
 | k+1,i_10,r_12,rest_13 =>
  if decide (i_10<((x0.length:Nat):Int)) then
   Ch.l2 K (Ch.l1 K x0 k) i_10 x0 K (wr .i64 (i_10+1)) r_12 rest_13
  else
   some (r_12,rest_13)
def Ch (K:Nat) (x0:List Int):Option ((List Aj) × (List Int)) :=
 Ch.l1 K x0 K (0:Int) ([]:List Aj) ([]:List Int)
abbrev Av.sg:Sig:=⟨[(.one,(.sl C2)),(.one,(.sl C2))],[],[(.one,.bool)],[]⟩
def Av.l1 (K:Nat) (x0:List Aj) (x1:List Aj):Nat→Int→Int→Option Bool
 | 0,_,_=>none
 | k+1,t_10,t_11 =>
  if decide (t_11<t_10) then
   if (0:Int)≤t_11∧t_11<((x0.length:Nat):Int) then
   if (0:Int)≤t_11∧t_11<((x1.length:Nat):Int) then
   if (!((((nth x0 t_11).At) == ((nth x1 t_11).At)) && ((((nth x0 t_11).Len) == ((nth x1 t_11).Len)) && true))) then
    some false
   else
    Av.l1 K x0 x1 k t_10 (wr .i64 (t_11+1))
   else none
   else none
  else
   some true
def Av (K:Nat) (x0:List Aj) (x1:List Aj):Option Bool :=
 if (((x0.length:Nat):Int) != ((x1.length:Nat):Int)) then
  some false
 else
  Av.l1 K x0 x1 K ((x0.length:Nat):Int) (0:Int)
abbrev Bc.sg:Sig:=⟨[(.one,(.sl (.int .i64))),(.one,(.sl (.int .i64)))],[],[(.one,.bool)],[]⟩
def Bc.l1 (K:Nat) (x0:List Int) (x1:List Int):Nat→Int→Int→Option Bool
 | 0,_,_=>none
 | k+1,t_10,t_11 =>
  if decide (t_11<t_10) then
   if (0:Int)≤t_11∧t_11<((x0.length:Nat):Int) then
   if (0:Int)≤t_11∧t_11<((x1.length:Nat):Int) then
   if ((nth x0 t_11) != (nth x1 t_11)) then
    some false
   else
    Bc.l1 K x0 x1 k t_10 (wr .i64 (t_11+1))
   else none
   else none
  else
   some true
def Bc (K:Nat) (x0:List Int) (x1:List Int):Option Bool :=
 if (((x0.length:Nat):Int) != ((x1.length:Nat):Int)) then
  some false
 else
  Bc.l1 K x0 x1 K ((x0.length:Nat):Int) (0:Int)
abbrev Eb.sg:Sig:=⟨[(.agg,C3),(.one,(.int .i64)),(.one,(.int .i64))],[],[(.one,(.sl (.int .i64))),(.one,(.int .i64)),(.one,.bool)],[.o]⟩
def Eb (K:Nat) (x0:Am) (x1:Int) (x2:Int):Option ((List Int) × Int × Bool) :=
 (Ce K x0 x1 x2).bind fun r17 =>
 if (!r17.2.2) then
  some (([]:List Int),0,false)
 else
  (Cd K x0 r17.2.1 x2).bind fun r27 =>
  if (!r27.2.2) then
   some (([]:List Int),0,false)
  else
   (Cp K r17.1 r27.1).bind fun r36 =>
   if (!r36.2) then
    some (([]:List Int),0,false)
   else
    (Ch K r36.1).bind fun r43 =>
    (Av K r43.1 r17.1).bind fun r50 =>
    if r50 then
     (Bc K r43.2 r27.1).bind fun r54 =>
     some (r36.1,r27.2.1,r54)
    else
     some (r36.1,r27.2.1,false)
abbrev D7.sg:Sig:=⟨[(.one,(.int .i64)),(.one,(.int .i64)),(.box,C3)],[],[(.one,(.sl (.int .i64))),(.one,(.int .i64)),(.one,.bool)],[.o]⟩
def D7 (K:Nat) (x0:Int) (x1:Int) (x2:Am):Option ((List Int) × Int × Bool × Am) :=
 (Eb K x2 x0 x1).bind fun r11 =>
 some (r11.1,r11.2.1,r11.2.2,x2)
abbrev D0.sg:Sig:=⟨[(.one,(.int .i64))],[],[(.agg,Bw)],[.s,.o]⟩
def D0 (K:Nat) (x0:Int):Option Ab :=
 if x0=x0∧(0:Int)≤x0∧(24:Int)*x0≤281474976710656∧x0≤9223372036854775807 then
 some ((x0,List.replicate x0.toNat ([]:List Int)):Ab)
 else none
abbrev Dp.sg:Sig:=⟨[(.agg,Bw)],[],[(.one,(.int .i64))],[]⟩
def Dp.l1 (K:Nat) (x0:Ab):Nat→Int→Int→Int→Option Int
 | 0,_,_,_=>none
 | k+1,n_10,t_11,t_12 =>
  if decide (t_12<t_11) then
   if (0:Int)≤t_12∧t_12<((x0.Out.length:Nat):Int) then
   Dp.l1 K x0 k (wr .i64 (n_10+(((nth x0.Out t_12).length:Nat):Int))) t_11 (wr .i64 (t_12+1))
   else none
  else
   some n_10
def Dp (K:Nat) (x0:Ab):Option Int :=
 Dp.l1 K x0 K (0:Int) ((x0.Out.length:Nat):Int) (0:Int)
abbrev De.sg:Sig:=⟨[(.agg,Bw)],[],[(.one,.bool)],[]⟩
def De.l1 (K:Nat) (x0:Ab):Nat→Int→Int→Option Bool
 | 0,_,_=>none
 | k+1,t_10,t_11 =>
  if decide (t_11<t_10) then
   if (0:Int)≤t_11∧t_11<((x0.Out.length:Nat):Int) then
   (Dq K (nth x0.Out t_11)).bind fun r29 =>
   if (!r29) then
    some false
   else
    if decide ((((nth x0.Out t_11).length:Nat):Int) > 0) then
     if (0:Int)≤(wr .i64 ((((nth x0.Out t_11).length:Nat):Int)-1))∧(wr .i64 ((((nth x0.Out t_11).length:Nat):Int)-1))<(((nth x0.Out t_11).length:Nat):Int) then
     if decide ((nth (nth x0.Out t_11) (wr .i64 ((((nth x0.Out t_11).length:Nat):Int)-1)))≥x0.N) then
      some false
     else
      De.l1 K x0 k t_10 (wr .i64 (t_11+1))
     else none
    else
     De.l1 K x0 k t_10 (wr .i64 (t_11+1))
   else none
  else
   (Dp K x0).bind fun r49 =>
   some (decide (r49≤120))
def De (K:Nat) (x0:Ab):Option Bool :=
 if decide (x0.N<0) then
  some false
 else
  if decide (x0.N > 16) then
   some false
  else
   if (((x0.Out.length:Nat):Int) != x0.N) then
    some false
   else
    De.l1 K x0 K ((x0.Out.length:Nat):Int) (0:Int)
abbrev Az.sg:Sig:=⟨[(.one,(.int .i64)),(.one,(.int .i64)),(.one,(.int .i64)),(.fn 140 1,.un),(.hid,C3)],[],[(.agg,Bw),(.one,(.int .i64)),(.one,.bool)],[.s,.o]⟩
def Az.l1 (K:Nat) (r17:Ab) (x1:Int):Nat→Int→Int→ByteArray→Int→Int→(List (List Int))→Option (Ab × Int × Bool × Am)
 | 0,_,_,_,_,_,_=>none
 | k+1,at_14,t_11,h_12,h_13,t_10,g_15 =>
  if decide (t_11<x1) then
   (D7 K at_14 t_11 ((h_12,h_13):Am)).bind fun r26 =>
   if (!r26.2.2.1) then
    some (((0,([]:List (List Int))):Ab),0,false,r26.2.2.2)
   else
    if (0:Int)≤t_11∧t_11<((g_15.length:Nat):Int) then
    Az.l1 K r17 x1 k r26.2.1 (wr .i64 (t_11+1)) r26.2.2.2.Data r26.2.2.2.N t_10 ((g_15).set t_11.toNat r26.1)
    else none
  else
   (De K ((r17.N,g_15):Ab)).bind fun r43 =>
   some (((r17.N,g_15):Ab),at_14,r43,((h_12,h_13):Am))
def Az (K:Nat) (x0:Int) (x1:Int) (x2:Int) (x4:Am):Option (Ab × Int × Bool × Am) :=
 (D0 K x0).bind fun r17 =>
 Az.l1 K r17 x1 K x2 (0:Int) x4.Data x4.N (0:Int) r17.Out
abbrev Eo.sg:Sig:=⟨[(.agg,C3)],[],[(.agg,Bw),(.one,.bool)],[.s,.o]⟩
def Eo (K:Nat) (x0:Am):Option (Ab × Bool) :=
 (D5 K x0).bind fun r11 =>
 if (!r11.2.2) then
  some (((0,([]:List (List Int))):Ab),false)
 else
  (Az K r11.1 r11.1 r11.2.1 x0).bind fun r23 =>
  if r23.2.2.1 then
   some (r23.1,(r23.2.1 == r23.2.2.2.N))
  else
   some (r23.1,false)
abbrev Es.sg:Sig:=⟨[(.agg,Bw),(.one,(.int .i64))],[],[(.one,.bool)],[]⟩
def Es (K:Nat) (x0:Ab) (x1:Int):Option Bool :=
 if decide (x1≥0) then
  some (decide (x1<x0.N))
 else
  some false
abbrev Ed.sg:Sig:=⟨[(.agg,Bw),(.one,(.int .i64))],[],[(.one,(.sl (.int .i64)))],[]⟩
def Ed (K:Nat) (x0:Ab) (x1:Int):Option (List Int) :=
 (Es K x0 x1).bind fun r7 =>
 if (!r7) then
  some ([]:List Int)
 else
  if (0:Int)≤x1∧x1<((x0.Out.length:Nat):Int) then
  some (nth x0.Out x1)
  else none
abbrev Bj.sg:Sig:=⟨[(.one,(.sl (.int .i64))),(.one,(.int .i64))],[],[(.one,(.int .i64))],[]⟩
def Bj.l1 (K:Nat) (x0:List Int) (x1:Int):Nat→Int→Int→Option Int
 | 0,_,_=>none
 | k+1,t_10,t_11 =>
  if decide (t_11<t_10) then
   if (0:Int)≤t_11∧t_11<((x0.length:Nat):Int) then
   if (x1 == (nth x0 t_11)) then
    some t_11
   else
    Bj.l1 K x0 x1 k t_10 (wr .i64 (t_11+1))
   else none
  else
   some ((-1):Int)
def Bj (K:Nat) (x0:List Int) (x1:Int):Option Int :=
 Bj.l1 K x0 x1 K ((x0.length:Nat):Int) (0:Int)
abbrev Cq.sg:Sig:=⟨[(.one,(.sl (.int .i64))),(.one,(.int .i64))],[],[(.one,.bool)],[]⟩
def Cq (K:Nat) (x0:List Int) (x1:Int):Option Bool :=
 (Bj K x0 x1).bind fun r7 =>
 some (decide (r7≥0))
abbrev Cb.sg:Sig:=⟨[(.one,(.sl (.int .i64))),(.one,(.sl (.int .i64)))],[],[(.one,(.sl (.int .i64))),(.one,(.sl (.int .i64)))],[.o,.o]⟩
def Cb.l2 (K:Nat) (x0:List Int) (x1:List Int):Nat→Int→Int→(List Int)→(List Int)→Option ((List Int) × (List Int))
 | 0,_,_,_,_=>none
 | k+1,t_13,t_14,blocks_18,rest_17 =>
  if decide (t_14<t_13) then
   if (0:Int)≤t_14∧t_14<((x1.length:Nat):Int) then
   (Cq K x0 (nth x1 t_14)).bind fun r40 =>
   if (!r40) then
    if (rest_17.length+([nth x1 t_14]:List Int).length)*8≤140737488355328 then
    Cb.l2 K x0 x1 k t_13 (wr .i64 (t_14+1)) blocks_18 (rest_17++([nth x1 t_14]:List Int))
    else none
   else
    Cb.l2 K x0 x1 k t_13 (wr .i64 (t_14+1)) blocks_18 rest_17
   else none
  else
   some (blocks_18,rest_17)
def Cb.l1 (K:Nat) (x0:List Int) (x1:List Int):Nat→Bool→Int→Int→Int→(List Int)→Option ((List Int) × (List Int))
 | 0,_,_,_,_,_=>none
 | k+1,in_16,many_10,t_11,t_12,blocks_15 =>
  if decide (t_12<t_11) then
   if (0:Int)≤t_12∧t_12<((x0.length:Nat):Int) then
   (Cq K x1 (nth x0 t_12)).bind fun r20 =>
   if (!(r20 == in_16)) then
    if (blocks_15.length+([many_10]:List Int).length)*8≤140737488355328 then
    Cb.l1 K x0 x1 k (!in_16) (wr .i64 ((0:Int)+1)) t_11 (wr .i64 (t_12+1)) (blocks_15++([many_10]:List Int))
    else none
   else
    Cb.l1 K x0 x1 k in_16 (wr .i64 (many_10+1)) t_11 (wr .i64 (t_12+1)) blocks_15
   else none
  else
   Cb.l2 K x0 x1 K ((x1.length:Nat):Int) (0:Int) blocks_15 ([]:List Int)
def Cb (K:Nat) (x0:List Int) (x1:List Int):Option ((List Int) × (List Int)) :=
 Cb.l1 K x0 x1 K true (0:Int) ((x0.length:Nat):Int) (0:Int) ([]:List Int)
abbrev Bl.sg:Sig:=⟨[(.one,(.sl (.int .i64))),(.one,(.sl (.int .i64))),(.one,(.sl (.int .i64)))],[],[(.one,(.sl (.int .i64))),(.one,.bool)],[.o]⟩
def Bl.j3 (K:Nat) (x0:List Int) (x1:List Int) (x2:List Int) (t_14:List Int):Option ((List Int) × Bool) :=
 if t_14.length<4611686018427387904 then
 (Dq K (sortF t_14)).bind fun r51 =>
 if (!r51) then
  some (([]:List Int),false)
 else
  (Cb K x0 (sortF t_14)).bind fun r56 =>
  (Bc K r56.1 x1).bind fun r62 =>
  if r62 then
   (Bc K r56.2 x2).bind fun r66 =>
   some (sortF t_14,r66)
  else
   some (sortF t_14,false)
 else none
def Bl.j2 (K:Nat) (go_l1:(List Int)→Bool→Int→Int→(List Int)→Option ((List Int) × Bool)) (t_10:Int) (t_11:Int) (t_16:List Int) (t_17:Bool) (x0:List Int) (x1:List Int) (x2:List Int) (t_13:Int) (t_12:List Int):Option ((List Int) × Bool) :=
 if (0:Int)≤t_13∧t_13≤((t_16.length:Nat):Int)∧((t_16.length:Nat):Int)≤((t_16.length:Nat):Int) then
 go_l1 (((t_16).drop t_13.toNat).take (((t_16.length:Nat):Int).toNat-t_13.toNat)) (!t_17) t_10 (wr .i64 (t_11+1)) t_12
 else none
def Bl.l1 (K:Nat) (x0:List Int) (x1:List Int) (x2:List Int):Nat→(List Int)→Bool→Int→Int→(List Int)→Option ((List Int) × Bool)
 | 0,_,_,_,_,_=>none
 | k+1,t_16,t_17,t_10,t_11,t_15 =>
  if decide (t_11<t_10) then
   if (0:Int)≤t_11∧t_11<((x1.length:Nat):Int) then
   if decide ((nth x1 t_11)<0) then
    some (([]:List Int),false)
   else
    if decide ((nth x1 t_11) > ((t_16.length:Nat):Int)) then
     some (([]:List Int),false)
    else
     if t_17 then
      if (0:Int)≤(0:Int)∧(0:Int)≤(nth x1 t_11)∧(nth x1 t_11)≤((t_16.length:Nat):Int) then
      if (t_15.length+(((t_16).drop (0:Int).toNat).take ((nth x1 t_11).toNat-(0:Int).toNat)).length)*8≤140737488355328 then
      Bl.j2 K (Bl.l1 K x0 x1 x2 k) t_10 t_11 t_16 t_17 x0 x1 x2 (nth x1 t_11) (t_15++(((t_16).drop (0:Int).toNat).take ((nth x1 t_11).toNat-(0:Int).toNat)))
      else none
      else none
     else
      Bl.j2 K (Bl.l1 K x0 x1 x2 k) t_10 t_11 t_16 t_17 x0 x1 x2 (nth x1 t_11) t_15
   else none
  else
   if t_17 then
    if (t_15.length+t_16.length)*8≤140737488355328 then
    Bl.j3 K x0 x1 x2 (t_15++t_16)
    else none
   else
    Bl.j3 K x0 x1 x2 t_15
def Bl (K:Nat) (x0:List Int) (x1:List Int) (x2:List Int):Option ((List Int) × Bool) :=
 (Cw K x2).bind fun r16 =>
 Bl.l1 K x0 x1 x2 K x0 true ((x1.length:Nat):Int) (0:Int) r16
abbrev Cs.sg:Sig:=⟨[(.agg,C3),(.one,(.int .i64)),(.one,(.int .i64)),(.one,(.sl (.int .i64)))],[],[(.one,(.sl (.int .i64))),(.one,(.int .i64)),(.one,.bool)],[.o]⟩
def Cs.l1 (K:Nat) (x0:Am) (x2:Int) (x3:List Int):Nat→Int→Int→Int→(List Int)→Option ((List Int) × Int × Bool)
 | 0,_,_,_,_=>none
 | k+1,t_12,t_10,t_11,t_13 =>
  if decide (t_11<t_10) then
   (Cr K x0 t_12 2).bind fun r37 =>
   if (!r37.2.2) then
    some (([]:List Int),0,false)
   else
    if (t_11 == 0) then
     if (t_13.length+([wr .i64 (r37.1-1)]:List Int).length)*8≤140737488355328 then
     Cs.l1 K x0 x2 x3 k r37.2.1 t_10 (wr .i64 (t_11+1)) (t_13++([wr .i64 (r37.1-1)]:List Int))
     else none
    else
     if (t_13.length+([r37.1]:List Int).length)*8≤140737488355328 then
     Cs.l1 K x0 x2 x3 k r37.2.1 t_10 (wr .i64 (t_11+1)) (t_13++([r37.1]:List Int))
     else none
  else
   (Eb K x0 t_12 x2).bind fun r56 =>
   if (!r56.2.2) then
    some (([]:List Int),0,false)
   else
    (Bl K x3 t_13 r56.1).bind fun r66 =>
    some (r66.1,r56.2.1,r66.2)
def Cs (K:Nat) (x0:Am) (x1:Int) (x2:Int) (x3:List Int):Option ((List Int) × Int × Bool) :=
 (Cr K x0 x1 2).bind fun r19 =>
 if (!r19.2.2) then
  some (([]:List Int),0,false)
 else
  if decide (r19.1 > 17) then
   some (([]:List Int),0,false)
  else
   Cs.l1 K x0 x2 x3 K r19.2.1 (wr .i64 (r19.1-1)) (0:Int) ([]:List Int)
abbrev D8.sg:Sig:=⟨[(.one,(.int .i64)),(.one,(.int .i64)),(.box,C3),(.box,Bw)],[],[(.one,(.sl (.int .i64))),(.one,(.int .i64)),(.one,.bool)],[.o]⟩
def D8 (K:Nat) (x0:Int) (x1:Int) (x2:Am) (x3:Ab):Option ((List Int) × Int × Bool × Am × Ab) :=
 (Ed K x3 x1).bind fun r14 =>
 (Cs K x2 x0 x1 r14).bind fun r15 =>
 some (r15.1,r15.2.1,r15.2.2,x2,x3)
abbrev A7.sg:Sig:=⟨[(.one,(.int .i64)),(.one,(.int .i64)),(.one,(.int .i64)),(.fn 159 2,.un),(.hid,C3),(.hid,Bw)],[],[(.agg,Bw),(.one,(.int .i64)),(.one,.bool)],[.s,.o]⟩
def A7.l1 (K:Nat) (r17:Ab) (x1:Int):Nat→Int→Int→ByteArray→Int→Int→(List (List Int))→Int→(List (List Int))→Option (Ab × Int × Bool × Am × Ab)
 | 0,_,_,_,_,_,_,_,_=>none
 | k+1,at_16,t_11,h_12,h_13,h_14,h_15,t_10,g_17 =>
  if decide (t_11<x1) then
   (D8 K at_16 t_11 ((h_12,h_13):Am) ((h_14,h_15):Ab)).bind fun r26 =>
   if (!r26.2.2.1) then
    some (((0,([]:List (List Int))):Ab),0,false,r26.2.2.2.1,r26.2.2.2.2)
   else
    if (0:Int)≤t_11∧t_11<((g_17.length:Nat):Int) then
    A7.l1 K r17 x1 k r26.2.1 (wr .i64 (t_11+1)) r26.2.2.2.1.Data r26.2.2.2.1.N r26.2.2.2.2.N r26.2.2.2.2.Out t_10 ((g_17).set t_11.toNat r26.1)
    else none
  else
   (De K ((r17.N,g_17):Ab)).bind fun r43 =>
   some (((r17.N,g_17):Ab),at_16,r43,((h_12,h_13):Am),((h_14,h_15):Ab))
def A7 (K:Nat) (x0:Int) (x1:Int) (x2:Int) (x4:Am) (x5:Ab):Option (Ab × Int × Bool × Am × Ab) :=
 (D0 K x0).bind fun r17 =>
 A7.l1 K r17 x1 K x2 (0:Int) x4.Data x4.N x5.N x5.Out (0:Int) r17.Out
abbrev Ep.sg:Sig:=⟨[(.agg,Bw),(.agg,C3)],[],[(.agg,Bw),(.one,.bool)],[.s,.o]⟩
def Ep (K:Nat) (x0:Ab) (x1:Am):Option (Ab × Bool) :=
 (D5 K x1).bind fun r13 =>
 if (!r13.2.2) then
  some (((0,([]:List (List Int))):Ab),false)
 else
  (A7 K r13.1 r13.1 r13.2.1 x1 x0).bind fun r25 =>
  if r25.2.2.1 then
   some (r25.1,(r25.2.1 == r25.2.2.2.1.N))
  else
   some (r25.1,false)
abbrev Dt.sg:Sig:=⟨[(.one,(.sl Ap)),(.one,(.int .i64))],[],[(.agg,Bw),(.one,(.int .i64))],[.s,.o]⟩
def Dt.l1 (K:Nat):List Aa→Int→Int→Int→(List (List Int))→Option (Ab × Int)
 | [],t_10,t_11,g_12,g_13 =>
  some (((g_12,g_13):Ab),0)
 | el_21::k,t_10,t_11,g_12,g_13 =>
  if (el_21.Base == 0) then
   (Eo K el_21.Data).bind fun r34 =>
   if (!r34.2) then
    some (((0,([]:List (List Int))):Ab),9)
   else
    Dt.l1 K k t_10 t_11 r34.1.N r34.1.Out
  else
   (Ep K ((g_12,g_13):Ab) el_21.Data).bind fun r41 =>
   if (!r41.2) then
    some (((0,([]:List (List Int))):Ab),9)
   else
    Dt.l1 K k t_10 t_11 r41.1.N r41.1.Out
def Dt (K:Nat) (x0:List Aa) (x1:Int):Option (Ab × Int) :=
 (D2 K x0 x1).bind fun r15 =>
 if (r15.2 != 0) then
  some (((0,([]:List (List Int))):Ab),r15.2)
 else
  (Dl K x0 x1 3).bind fun r24 =>
  if r24.length<4611686018427387904 then
  Dt.l1 K (List.reverse r24) (0:Int) (0:Int) (0:Int) ([]:List (List Int))
  else none
abbrev D4.sg:Sig:=⟨[(.one,(.sl Ap)),(.one,(.int .i64))],[],[(.agg,Bw),(.one,(.int .i64))],[.s,.o]⟩
def D4 (K:Nat) (x0:List Aa) (x1:Int):Option (Ab × Int) :=
 (Cx K x0).bind fun r7 =>
 if (!r7) then
  some (((0,([]:List (List Int))):Ab),1)
 else
  (Dt K x0 x1).bind fun r12 =>
  some (r12.1,r12.2)
abbrev Bg.sg:Sig:=⟨[(.one,(.sl Ap)),(.one,(.int .i64))],[],[(.one,(.int .i64)),(.one,(.int .i64))],[]⟩
def Bg.l1 (K:Nat) (x0:List Aa):Nat→Int→Int→Option (Int × Int)
 | 0,_,_=>none
 | k+1,id_11,n_10 =>
  if (id_11 != 0) then
   if decide ((wr .i64 (n_10+1)) > 3) then
    some (0,2)
   else
    (Bo K x0 id_11).bind fun r20 =>
    if (0:Int)≤r20∧r20<((x0.length:Nat):Int) then
    Bg.l1 K x0 k ((nth x0 r20).Base) (wr .i64 (n_10+1))
    else none
  else
   some (n_10,0)
def Bg (K:Nat) (x0:List Aa) (x1:Int):Option (Int × Int) :=
 (Bo K x0 x1).bind fun r9 =>
 if decide (r9<0) then
  some (0,3)
 else
  Bg.l1 K x0 K x1 (0:Int)
abbrev Cj.sg:Sig:=⟨[(.agg,C3)],[],[(.one,(.sl (.int .u8)))],[.o]⟩
def Cj.l1 (K:Nat) (x0:Am):Nat→Int→(List Int)→Option (List Int)
 | 0,_,_=>none
 | k+1,i_10,l_11 =>
  if decide (i_10<x0.N) then
   (Dj K x0 i_10).bind fun r14 =>
   if (l_11.length+([wr .u8 r14]:List Int).length)*1≤140737488355328 then
   Cj.l1 K x0 k (wr .i64 (i_10+1)) (l_11++([wr .u8 r14]:List Int))
   else none
  else
   some l_11
def Cj (K:Nat) (x0:Am):Option (List Int) :=
 Cj.l1 K x0 K (0:Int) ([]:List Int)
abbrev A4.sg:Sig:=⟨[(.one,(.sl (.int .u8))),(.one,(.int .i64))],[],[(.one,(.int .i64))],[]⟩
def A4.l1 (K:Nat) (x0:List Int) (x1:Int):Nat→Int→Option Int
 | 0,_=>none
 | k+1,i_10 =>
  if decide (i_10<((x0.length:Nat):Int)) then
   if (0:Int)≤i_10∧i_10<((x0.length:Nat):Int) then
   if ((nth x0 i_10) == 1) then
    some (wr .i64 (i_10-x1))
   else
    A4.l1 K x0 x1 k (wr .i64 (i_10+1))
   else none
  else
   some ((-1):Int)
def A4 (K:Nat) (x0:List Int) (x1:Int):Option Int :=
 A4.l1 K x0 x1 K x1
abbrev Ba.sg:Sig:=⟨[(.one,(.sl (.int .u8))),(.one,(.int .i64)),(.one,(.int .i64))],[],[(.one,(.int .i64))],[]⟩
def Ba.l1 (K:Nat) (x0:List Int) (x1:Int) (x2:Int):Nat→Int→Int→Option Int
 | 0,_,_=>none
 | k+1,v_10,i_11 =>
  if decide (i_11<(wr .i64 (x1+x2))) then
   if (0:Int)≤i_11∧i_11<((x0.length:Nat):Int) then
   Ba.l1 K x0 x1 x2 k (wr .i64 ((wr .i64 (2*v_10))+(wr .i64 (nth x0 i_11)))) (wr .i64 (i_11+1))
   else none
  else
   some v_10
def Ba (K:Nat) (x0:List Int) (x1:Int) (x2:Int):Option Int :=
 Ba.l1 K x0 x1 x2 K (0:Int) x1
abbrev A0.sg:Sig:=⟨[(.one,(.int .i64))],[],[(.one,(.int .i64))],[]⟩
def A0.l1 (K:Nat):Nat→Int→Int→Option Int
 | 0,_,_=>none
 | k+1,n_11,k_10 =>
  if decide (n_11 > 1) then
   if (0:Int)≤1 then
   A0.l1 K k (n_11.fdiv (2 ^ min ((1:Int)).toNat 64)) (wr .i64 (k_10+1))
   else none
  else
   some k_10
def A0 (K:Nat) (x0:Int):Option Int :=
 A0.l1 K K x0 (0:Int)
abbrev Dr.sg:Sig:=⟨[(.one,(.int .i64)),(.one,(.int .i64))],[],[(.one,.bool)],[]⟩
def Dr (K:Nat) (x0:Int) (x1:Int):Option Bool :=
 if (x0 == 1) then
  (Cn K x1 1 1000).bind fun r8 =>
  some r8
 else
  (Cn K x0 2 5).bind fun r10 =>
  if r10 then
   (Cn K x1 1 1073741824).bind fun r13 =>
   some r13
  else
   some false
abbrev Ad.sg:Sig:=⟨[(.one,(.sl (.int .u8))),(.one,(.int .i64)),(.one,(.int .i64))],[],[(.one,(.int .i64)),(.one,(.int .i64))],[]⟩
def Ad.j1 (K:Nat) (rec_:(List Int)→Int→Int→Option (Int × Int)) (x2:Int) (t_14:Int) (t_15:Int):Option (Int × Int) :=
 (Dr K x2 t_14).bind fun r161 =>
 if (!r161) then
  some ((-1),0)
 else
  some (t_14,t_15)
def Ad.j3 (K:Nat) (rec_:(List Int)→Int→Int→Option (Int × Int)) (r19:Int) (t_11:Int) (x2:Int) (t_12:Int) (t_13:Int):Option (Int × Int) :=
 if (0:Int)≤(wr .i64 (r19*t_11)) then
 Ad.j1 K rec_ x2 (wr .i64 ((wr .i64 ((1:Int)*2 ^ min ((wr .i64 (r19*t_11))).toNat 64))+t_13)) t_12
 else none
def Ad.j2 (K:Nat) (rec_:(List Int)→Int→Int→Option (Int × Int)) (r19:Int) (x0:List Int) (x2:Int) (t_10:Int) (t_11:Int):Option (Int × Int) :=
 if decide (r19 > 15) then
  some ((-1),0)
 else
  if (0:Int)≤(wr .i64 ((wr .i64 (r19+1))*t_11)) then
  if (0:Int)≤(wr .i64 (r19*t_11)) then
  (A0 K (wr .i64 ((wr .i64 ((wr .i64 ((1:Int)*2 ^ min ((wr .i64 ((wr .i64 (r19+1))*t_11))).toNat 64))-(wr .i64 ((1:Int)*2 ^ min ((wr .i64 (r19*t_11))).toNat 64))))-1))).bind fun r43 =>
  if decide ((wr .i64 ((wr .i64 (t_10+(wr .i64 (r43+1))))-1)) > ((x0.length:Nat):Int)) then
   some ((-1),0)
  else
   (Ba K x0 t_10 (wr .i64 ((wr .i64 (r43+1))-1))).bind fun r56 =>
   if (0:Int)≤(wr .i64 (r43+1)) then
   if decide (r56≥(wr .i64 ((wr .i64 ((1:Int)*2 ^ min ((wr .i64 (r43+1))).toNat 64))-(wr .i64 ((wr .i64 ((1:Int)*2 ^ min ((wr .i64 ((wr .i64 (r19+1))*t_11))).toNat 64))-(wr .i64 ((1:Int)*2 ^ min ((wr .i64 (r19*t_11))).toNat 64))))))) then
    if decide ((wr .i64 ((wr .i64 ((wr .i64 (t_10+(wr .i64 (r43+1))))-1))+1)) > ((x0.length:Nat):Int)) then
     some ((-1),0)
    else
     if (0:Int)≤(wr .i64 ((wr .i64 (t_10+(wr .i64 (r43+1))))-1))∧(wr .i64 ((wr .i64 (t_10+(wr .i64 (r43+1))))-1))<((x0.length:Nat):Int) then
     if (0:Int)≤(wr .i64 (r43+1)) then
     Ad.j3 K rec_ r19 t_11 x2 (wr .i64 ((wr .i64 ((wr .i64 (t_10+(wr .i64 (r43+1))))-1))+1)) (wr .i64 ((wr .i64 ((wr .i64 (2*r56))+(wr .i64 (nth x0 (wr .i64 ((wr .i64 (t_10+(wr .i64 (r43+1))))-1))))))-(wr .i64 ((wr .i64 ((1:Int)*2 ^ min ((wr .i64 (r43+1))).toNat 64))-(wr .i64 ((wr .i64 ((1:Int)*2 ^ min ((wr .i64 ((wr .i64 (r19+1))*t_11))).toNat 64))-(wr .i64 ((1:Int)*2 ^ min ((wr .i64 (r19*t_11))).toNat 64))))))))
     else none
     else none
   else
    Ad.j3 K rec_ r19 t_11 x2 (wr .i64 ((wr .i64 (t_10+(wr .i64 (r43+1))))-1)) r56
   else none
  else none
  else none
def Ad:Nat→(List Int)→Int→Int→Option (Int × Int)
 | 0,_,_,_=>none
 | K+1,x0,x1,x2 =>
  (A4 K x0 x1).bind fun r19 =>
  if decide (r19<0) then
   some ((-1),0)
  else
   if (x2 == 1) then
    Ad.j1 K (Ad K) x2 (wr .i64 (r19+1)) (wr .i64 ((wr .i64 (x1+r19))+1))
   else
    if (x2 == 2) then
     if decide (r19 > 30) then
      some ((-1),0)
     else
      if decide ((wr .i64 ((wr .i64 (x1+(wr .i64 (2*r19))))+1)) > ((x0.length:Nat):Int)) then
       some ((-1),0)
      else
       (Ba K x0 (wr .i64 (x1+r19)) (wr .i64 (r19+1))).bind fun r117 =>
       Ad.j1 K (Ad K) x2 r117 (wr .i64 ((wr .i64 (x1+(wr .i64 (2*r19))))+1))
    else
     if (x2 == 3) then
      ((Ad K) x0 x1 2).bind fun r128 =>
      if decide (r128.1<1) then
       some ((-1),0)
      else
       if decide (r128.1 > 31) then
        some ((-1),0)
       else
        if decide ((wr .i64 ((wr .i64 (r128.2+r128.1))-1)) > ((x0.length:Nat):Int)) then
         some ((-1),0)
        else
         if (0:Int)≤(wr .i64 (r128.1-1)) then
         (Ba K x0 r128.2 (wr .i64 (r128.1-1))).bind fun r153 =>
         Ad.j1 K (Ad K) x2 (wr .i64 ((wr .i64 ((1:Int)*2 ^ min ((wr .i64 (r128.1-1))).toNat 64))+r153)) (wr .i64 ((wr .i64 (r128.2+r128.1))-1))
         else none
     else
      if (x2 == 5) then
       Ad.j2 K (Ad K) r19 x0 x2 (wr .i64 ((wr .i64 (x1+r19))+1)) (3:Int)
      else
       Ad.j2 K (Ad K) r19 x0 x2 (wr .i64 ((wr .i64 (x1+r19))+1)) (2:Int)
abbrev C6.sg:Sig:=⟨[(.one,(.int .i64))],[],[(.agg,Bw)],[.s,.o]⟩
def C6 (K:Nat) (x0:Int):Option Ab :=
 if x0=x0∧(0:Int)≤x0∧(24:Int)*x0≤281474976710656∧x0≤9223372036854775807 then
 some ((x0,List.replicate x0.toNat ([]:List Int)):Ab)
 else none
abbrev C7.sg:Sig:=⟨[(.one,(.int .i64))],[],[(.one,(.int .i64))],[]⟩
def C7 (K:Nat) (x0:Int):Option Int :=
 if (2:Int)≠0 then
 if ((x0.tmod 2) == 0) then
  if (2:Int)≠0 then
  some (wr .i64 (x0.tdiv 2))
  else none
 else
  if (2:Int)≠0 then
  some (wr .i64 ((wr .i64 (0-(wr .i64 (x0+1)))).tdiv 2))
  else none
 else none
abbrev Cz.sg:Sig:=⟨[(.one,(.int .i64))],[],[(.one,.bool)],[]⟩
def Cz (K:Nat) (x0:Int):Option Bool :=
 (C4 K x0 15).bind fun r4 =>
 some r4
abbrev Bq.sg:Sig:=⟨[(.one,(.sl (.int .i64)))],[],[(.one,.bool)],[]⟩
def Bq.l1 (K:Nat) (x0:List Int):Nat→Int→Option Bool
 | 0,_=>none
 | k+1,i_10 =>
  if decide (i_10<((x0.length:Nat):Int)) then
   if decide (i_10≤16) then
    if (0:Int)≤i_10∧i_10<((x0.length:Nat):Int) then
    (Cz K (nth x0 i_10)).bind fun r18 =>
    if (!r18) then
     some false
    else
     if decide (i_10 > 0) then
      if (0:Int)≤(wr .i64 (i_10-1))∧(wr .i64 (i_10-1))<((x0.length:Nat):Int) then
      if (0:Int)≤i_10∧i_10<((x0.length:Nat):Int) then
      if decide ((nth x0 (wr .i64 (i_10-1)))≥(nth x0 i_10)) then
       some false
      else
       Bq.l1 K x0 k (wr .i64 (i_10+1))
      else none
      else none
     else
      Bq.l1 K x0 k (wr .i64 (i_10+1))
    else none
   else
    some (decide (((x0.length:Nat):Int)≤16))
  else
   some (decide (((x0.length:Nat):Int)≤16))
def Bq (K:Nat) (x0:List Int):Option Bool :=
 Bq.l1 K x0 K (0:Int)
abbrev Bi.sg:Sig:=⟨[(.one,(.sl (.int .u8))),(.one,(.int .i64)),(.one,(.int .i64))],[],[(.one,(.sl (.int .i64))),(.one,(.int .i64)),(.one,.bool)],[.o]⟩
def Bi.l1 (K:Nat) (r18:Int × Int) (x0:List Int) (x2:Int):Nat→Int→Int→Int→(List Int)→Option ((List Int) × Int × Bool)
 | 0,_,_,_,_=>none
 | k+1,at_12,last_10,i_11,l_13 =>
  if decide (i_11<(wr .i64 (r18.1-1))) then
   (Ad K x0 at_12 2).bind fun r37 =>
   if decide (r37.1<1) then
    some (([]:List Int),0,false)
   else
    if (i_11 == 0) then
     (C7 K (wr .i64 (r37.1-1))).bind fun r48 =>
     if (l_13.length+([wr .i64 (x2+r48)]:List Int).length)*8≤140737488355328 then
     Bi.l1 K r18 x0 x2 k r37.2 (wr .i64 (x2+r48)) (wr .i64 (i_11+1)) (l_13++([wr .i64 (x2+r48)]:List Int))
     else none
    else
     if (l_13.length+([wr .i64 (last_10+r37.1)]:List Int).length)*8≤140737488355328 then
     Bi.l1 K r18 x0 x2 k r37.2 (wr .i64 (last_10+r37.1)) (wr .i64 (i_11+1)) (l_13++([wr .i64 (last_10+r37.1)]:List Int))
     else none
  else
   (Bq K l_13).bind fun r58 =>
   if (!r58) then
    some (([]:List Int),0,false)
   else
    some (l_13,at_12,true)
def Bi (K:Nat) (x0:List Int) (x1:Int) (x2:Int):Option ((List Int) × Int × Bool) :=
 (Ad K x0 x1 2).bind fun r18 =>
 if decide (r18.1<1) then
  some (([]:List Int),0,false)
 else
  if decide ((wr .i64 (r18.1-1)) > 16) then
   some (([]:List Int),0,false)
  else
   Bi.l1 K r18 x0 x2 K r18.2 (0:Int) (0:Int) ([]:List Int)
abbrev Ai.sg:Sig:=⟨[(.one,(.sl C2)),(.one,(.sl (.int .i64)))],[],[(.one,(.sl (.int .i64))),(.one,.bool)],[.o]⟩
def Ai.l4 (K:Nat):Nat→Int→(List Bool)→(List Int)→Option ((List Int) × Bool)
 | 0,_,_,_=>none
 | k+1,t_16,t_20,t_19 =>
  if decide (t_16<16) then
   if ((0:Int)≤t_16∧t_16<((t_20.length:Nat):Int))∧t_20.length=16 then
   if nth t_20 t_16 then
    if (t_19.length+([t_16]:List Int).length)*8≤140737488355328 then
    Ai.l4 K k (wr .i64 (t_16+1)) t_20 (t_19++([t_16]:List Int))
    else none
   else
    Ai.l4 K k (wr .i64 (t_16+1)) t_20 t_19
   else none
  else
   some (t_19,true)
def Ai.l3 (K:Nat) (x1:List Int):Nat→Int→(List Bool)→Option ((List Int) × Bool)
 | 0,_,_=>none
 | k+1,t_15,t_18 =>
  if decide (t_15<((x1.length:Nat):Int)) then
   if (0:Int)≤t_15∧t_15<((x1.length:Nat):Int) then
   if ((0:Int)≤(nth x1 t_15)∧(nth x1 t_15)<((t_18.length:Nat):Int))∧t_18.length=16 then
   if nth t_18 (nth x1 t_15) then
    some (([]:List Int),false)
   else
    if (0:Int)≤t_15∧t_15<((x1.length:Nat):Int) then
    if ((0:Int)≤(nth x1 t_15)∧(nth x1 t_15)<((t_18.length:Nat):Int))∧t_18.length=16 then
    Ai.l3 K x1 k (wr .i64 (t_15+1)) ((t_18).set (nth x1 t_15).toNat true)
    else none
    else none
   else none
   else none
  else
   Ai.l4 K K (0:Int) t_18 ([]:List Int)
def Ai.l2 (K:Nat) (go_l1:Int→(List Bool)→Option ((List Int) × Bool)) (t_11:Int) (x0:List Aj) (x1:List Int):Nat→Int→(List Bool)→Int→Int→Option ((List Int) × Bool)
 | 0,_,_,_,_=>none
 | k+1,t_14,t_17,t_12,t_13 =>
  if decide (t_14<t_13) then
   if ((0:Int)≤(wr .i64 (t_12+t_14))∧(wr .i64 (t_12+t_14))<((t_17.length:Nat):Int))∧t_17.length=16 then
   Ai.l2 K go_l1 t_11 x0 x1 k (wr .i64 (t_14+1)) ((t_17).set (wr .i64 (t_12+t_14)).toNat true) t_12 t_13
   else none
  else
   go_l1 (wr .i64 (t_11+1)) t_17
def Ai.l1 (K:Nat) (x0:List Aj) (x1:List Int):Nat→Int→(List Bool)→Option ((List Int) × Bool)
 | 0,_,_=>none
 | k+1,t_11,t_10 =>
  if decide (t_11<((x0.length:Nat):Int)) then
   if (0:Int)≤t_11∧t_11<((x0.length:Nat):Int) then
   (Cz K ((nth x0 t_11).At)).bind fun r28 =>
   if (!r28) then
    some (([]:List Int),false)
   else
    if decide (((nth x0 t_11).Len)<3) then
     some (([]:List Int),false)
    else
     if decide (((nth x0 t_11).Len) > (wr .i64 (16-((nth x0 t_11).At)))) then
      some (([]:List Int),false)
     else
      if decide (t_11 > 0) then
       if (0:Int)≤(wr .i64 (t_11-1))∧(wr .i64 (t_11-1))<((x0.length:Nat):Int) then
       if (0:Int)≤(wr .i64 (t_11-1))∧(wr .i64 (t_11-1))<((x0.length:Nat):Int) then
       if decide (((nth x0 t_11).At)≤(wr .i64 (((nth x0 (wr .i64 (t_11-1))).At)+((nth x0 (wr .i64 (t_11-1))).Len)))) then
        some (([]:List Int),false)
       else
        Ai.l2 K (Ai.l1 K x0 x1 k) t_11 x0 x1 K (0:Int) t_10 ((nth x0 t_11).At) ((nth x0 t_11).Len)
       else none
       else none
      else
       Ai.l2 K (Ai.l1 K x0 x1 k) t_11 x0 x1 K (0:Int) t_10 ((nth x0 t_11).At) ((nth x0 t_11).Len)
   else none
  else
   Ai.l3 K x1 K (0:Int) t_10
def Ai (K:Nat) (x0:List Aj) (x1:List Int):Option ((List Int) × Bool) :=
 (Bq K x1).bind fun r14 =>
 if (!r14) then
  some (([]:List Int),false)
 else
  Ai.l1 K x0 x1 K (0:Int) (List.replicate 16 false)
abbrev Aw.sg:Sig:=⟨[(.one,(.sl (.int .i64)))],[],[(.one,(.sl C2)),(.one,(.sl (.int .i64)))],[.o,.o]⟩
def Aw.l2 (K:Nat) (go_l1:Int→(List Aj)→(List Int)→Option ((List Aj) × (List Int))) (i_10:Int) (x0:List Int):Nat→Int→(List Aj)→(List Int)→Option ((List Aj) × (List Int))
 | 0,_,_,_=>none
 | k+1,k_11,r_14,rest_15 =>
  if decide (k_11<((x0.length:Nat):Int)) then
   if (0:Int)≤k_11∧k_11<((x0.length:Nat):Int) then
   if (0:Int)≤(wr .i64 (k_11-1))∧(wr .i64 (k_11-1))<((x0.length:Nat):Int) then
   if ((nth x0 k_11) == (wr .i64 ((nth x0 (wr .i64 (k_11-1)))+1))) then
    Aw.l2 K go_l1 i_10 x0 k (wr .i64 (k_11+1)) r_14 rest_15
   else
    if decide ((wr .i64 (k_11-i_10))≥3) then
     if (0:Int)≤i_10∧i_10<((x0.length:Nat):Int) then
     if (r_14.length+([((nth x0 i_10,wr .i64 (k_11-i_10)):Aj)]:List Aj).length)*16≤140737488355328 then
     go_l1 k_11 (r_14++([((nth x0 i_10,wr .i64 (k_11-i_10)):Aj)]:List Aj)) rest_15
     else none
     else none
    else
     if (0:Int)≤i_10∧i_10≤k_11∧k_11≤((x0.length:Nat):Int) then
     if (rest_15.length+(((x0).drop i_10.toNat).take (k_11.toNat-i_10.toNat)).length)*8≤140737488355328 then
     go_l1 k_11 r_14 (rest_15++(((x0).drop i_10.toNat).take (k_11.toNat-i_10.toNat)))
     else none
     else none
   else none
   else none
  else
   if decide ((wr .i64 (k_11-i_10))≥3) then
    if (0:Int)≤i_10∧i_10<((x0.length:Nat):Int) then
    if (r_14.length+([((nth x0 i_10,wr .i64 (k_11-i_10)):Aj)]:List Aj).length)*16≤140737488355328 then
    go_l1 k_11 (r_14++([((nth x0 i_10,wr .i64 (k_11-i_10)):Aj)]:List Aj)) rest_15
    else none
    else none
   else
    if (0:Int)≤i_10∧i_10≤k_11∧k_11≤((x0.length:Nat):Int) then
    if (rest_15.length+(((x0).drop i_10.toNat).take (k_11.toNat-i_10.toNat)).length)*8≤140737488355328 then
    go_l1 k_11 r_14 (rest_15++(((x0).drop i_10.toNat).take (k_11.toNat-i_10.toNat)))
    else none
    else none
def Aw.l1 (K:Nat) (x0:List Int):Nat→Int→(List Aj)→(List Int)→Option ((List Aj) × (List Int))
 | 0,_,_,_=>none
 | k+1,i_10,r_12,rest_13 =>
  if decide (i_10<((x0.length:Nat):Int)) then
   Aw.l2 K (Aw.l1 K x0 k) i_10 x0 K (wr .i64 (i_10+1)) r_12 rest_13
  else
   some (r_12,rest_13)
def Aw (K:Nat) (x0:List Int):Option ((List Aj) × (List Int)) :=
 Aw.l1 K x0 K (0:Int) ([]:List Aj) ([]:List Int)
abbrev Ak.sg:Sig:=⟨[(.one,(.sl (.int .u8))),(.one,(.int .i64)),(.one,(.int .i64))],[.o],[(.one,(.sl (.int .u8)))],[.o]⟩
def Ak.l1 (K:Nat) (x1:Int):Nat→Int→(List Int)→Option (List Int)
 | 0,_,_=>none
 | k+1,i_10,l_11 =>
  if decide (i_10≥0) then
   if (0:Int)≤i_10 then
   if (l_11.length+([wr .u8 (ib .and .i64 (x1.fdiv (2 ^ min (i_10).toNat 64)) 1)]:List Int).length)*1≤140737488355328 then
   Ak.l1 K x1 k (wr .i64 (i_10-1)) (l_11++([wr .u8 (ib .and .i64 (x1.fdiv (2 ^ min (i_10).toNat 64)) 1)]:List Int))
   else none
   else none
  else
   some l_11
def Ak (K:Nat) (x0:List Int) (x1:Int) (x2:Int):Option (List Int) :=
 Ak.l1 K x1 K (wr .i64 (x2-1)) x0
abbrev Af.sg:Sig:=⟨[(.one,(.sl (.int .u8))),(.one,(.int .i64)),(.one,(.int .i64))],[.o],[(.one,(.sl (.int .u8)))],[.o]⟩
def Af.j2 (K:Nat) (rec_:(List Int)→Int→Int→Option (List Int)) (x0:List Int) (x2:Int) (t_11:Int):Option (List Int) :=
 (A0 K x2).bind fun r56 =>
 if t_11≠0 then
 (Ak K x0 0 (wr .i64 (r56.tdiv t_11))).bind fun r61 =>
 (Ak K r61 1 1).bind fun r62 =>
 if (0:Int)≤(wr .i64 ((wr .i64 (r56.tdiv t_11))*t_11)) then
 if (0:Int)≤(wr .i64 ((wr .i64 ((wr .i64 (r56.tdiv t_11))+1))*t_11)) then
 if (0:Int)≤(wr .i64 ((wr .i64 (r56.tdiv t_11))*t_11)) then
 (A0 K (wr .i64 ((wr .i64 ((wr .i64 ((1:Int)*2 ^ min ((wr .i64 ((wr .i64 ((wr .i64 (r56.tdiv t_11))+1))*t_11))).toNat 64))-(wr .i64 ((1:Int)*2 ^ min ((wr .i64 ((wr .i64 (r56.tdiv t_11))*t_11))).toNat 64))))-1))).bind fun r81 =>
 if (0:Int)≤(wr .i64 (r81+1)) then
 if decide ((wr .i64 (x2-(wr .i64 ((1:Int)*2 ^ min ((wr .i64 ((wr .i64 (r56.tdiv t_11))*t_11))).toNat 64))))<(wr .i64 ((wr .i64 ((1:Int)*2 ^ min ((wr .i64 (r81+1))).toNat 64))-(wr .i64 ((wr .i64 ((1:Int)*2 ^ min ((wr .i64 ((wr .i64 ((wr .i64 (r56.tdiv t_11))+1))*t_11))).toNat 64))-(wr .i64 ((1:Int)*2 ^ min ((wr .i64 ((wr .i64 (r56.tdiv t_11))*t_11))).toNat 64))))))) then
  (Ak K r62 (wr .i64 (x2-(wr .i64 ((1:Int)*2 ^ min ((wr .i64 ((wr .i64 (r56.tdiv t_11))*t_11))).toNat 64)))) (wr .i64 ((wr .i64 (r81+1))-1))).bind fun r93 =>
  some r93
 else
  if (0:Int)≤(wr .i64 (r81+1)) then
  (Ak K r62 (wr .i64 ((wr .i64 ((wr .i64 (x2-(wr .i64 ((1:Int)*2 ^ min ((wr .i64 ((wr .i64 (r56.tdiv t_11))*t_11))).toNat 64))))+(wr .i64 ((1:Int)*2 ^ min ((wr .i64 (r81+1))).toNat 64))))-(wr .i64 ((wr .i64 ((1:Int)*2 ^ min ((wr .i64 ((wr .i64 ((wr .i64 (r56.tdiv t_11))+1))*t_11))).toNat 64))-(wr .i64 ((1:Int)*2 ^ min ((wr .i64 ((wr .i64 (r56.tdiv t_11))*t_11))).toNat 64)))))) (wr .i64 (r81+1))).bind fun r102 =>
  some r102
  else none
 else none
 else none
 else none
 else none
 else none
def Af.l1 (K:Nat) (rec_:(List Int)→Int→Int→Option (List Int)) (x2:Int):Nat→Int→(List Int)→Option (List Int)
 | 0,_,_=>none
 | k+1,t_10,t_12 =>
  if decide (t_10<x2) then
   if (t_12.length+([0]:List Int).length)*1≤140737488355328 then
   Af.l1 K rec_ x2 k (wr .i64 (t_10+1)) (t_12++([0]:List Int))
   else none
  else
   if (t_12.length+([1]:List Int).length)*1≤140737488355328 then
   some (t_12++([1]:List Int))
   else none
def Af:Nat→(List Int)→Int→Int→Option (List Int)
 | 0,_,_,_=>none
 | K+1,x0,x1,x2 =>
  if (x1 == 1) then
   Af.l1 K (Af K) x2 K (1:Int) x0
  else
   if (x1 == 2) then
    (A0 K x2).bind fun r31 =>
    (Ak K x0 0 r31).bind fun r32 =>
    (A0 K x2).bind fun r35 =>
    (Ak K r32 x2 (wr .i64 (r35+1))).bind fun r37 =>
    some r37
   else
    if (x1 == 3) then
     (A0 K x2).bind fun r42 =>
     ((Af K) x0 2 (wr .i64 (r42+1))).bind fun r44 =>
     (A0 K x2).bind fun r47 =>
     if (0:Int)≤r47 then
     (A0 K x2).bind fun r51 =>
     (Ak K r44 (wr .i64 (x2-(wr .i64 ((1:Int)*2 ^ min (r47).toNat 64)))) r51).bind fun r52 =>
     some r52
     else none
    else
     if (x1 == 5) then
      Af.j2 K (Af K) x0 x2 (3:Int)
     else
      Af.j2 K (Af K) x0 x2 (2:Int)
abbrev C8.sg:Sig:=⟨[(.one,(.int .i64))],[],[(.one,(.int .i64))],[]⟩
def C8 (K:Nat) (x0:Int):Option Int :=
 if decide (x0≥0) then
  some (wr .i64 (2*x0))
 else
  some (wr .i64 ((wr .i64 ((-2)*x0))-1))
abbrev Bu.sg:Sig:=⟨[(.one,(.sl (.int .u8))),(.one,(.int .i64)),(.one,(.sl (.int .i64)))],[.o],[(.one,(.sl (.int .u8)))],[.o]⟩
def Bu.l1 (K:Nat) (x1:Int) (x2:List Int):Nat→Int→(List Int)→Option (List Int)
 | 0,_,_=>none
 | k+1,i_10,b_11 =>
  if decide (i_10<((x2.length:Nat):Int)) then
   if (i_10 == 0) then
    if (0:Int)≤(0:Int)∧(0:Int)<((x2.length:Nat):Int) then
    (C8 K (wr .i64 ((nth x2 0)-x1))).bind fun r27 =>
    (Af K b_11 2 (wr .i64 (r27+1))).bind fun r29 =>
    Bu.l1 K x1 x2 k (wr .i64 (i_10+1)) r29
    else none
   else
    if (0:Int)≤i_10∧i_10<((x2.length:Nat):Int) then
    if (0:Int)≤(wr .i64 (i_10-1))∧(wr .i64 (i_10-1))<((x2.length:Nat):Int) then
    (Af K b_11 2 (wr .i64 ((nth x2 i_10)-(nth x2 (wr .i64 (i_10-1)))))).bind fun r41 =>
    Bu.l1 K x1 x2 k (wr .i64 (i_10+1)) r41
    else none
    else none
  else
   some b_11
def Bu (K:Nat) (x0:List Int) (x1:Int) (x2:List Int):Option (List Int) :=
 (Af K x0 2 (wr .i64 (((x2.length:Nat):Int)+1))).bind fun r12 =>
 Bu.l1 K x1 x2 K (0:Int) r12
abbrev Ax.sg:Sig:=⟨[(.one,(.sl (.int .u8))),(.one,(.int .i64)),(.one,(.sl (.int .i64)))],[.o],[(.one,(.sl (.int .u8)))],[.o]⟩
def Ax.j2 (K:Nat) (go_l1:Int→(List Int)→Option (List Int)) (r12:(List Aj) × (List Int)) (t_10:Int) (x1:Int) (t_11:List Int):Option (List Int) :=
 if (0:Int)≤t_10∧t_10<((r12.1.length:Nat):Int) then
 (Af K t_11 2 (wr .i64 ((wr .i64 (((nth r12.1 t_10).Len)-3))+1))).bind fun r67 =>
 go_l1 (wr .i64 (t_10+1)) r67
 else none
def Ax.l1 (K:Nat) (r12:(List Aj) × (List Int)) (x1:Int):Nat→Int→(List Int)→Option (List Int)
 | 0,_,_=>none
 | k+1,t_10,t_12 =>
  if decide (t_10<((r12.1.length:Nat):Int)) then
   if (t_10 == 0) then
    if (0:Int)≤(0:Int)∧(0:Int)<((r12.1.length:Nat):Int) then
    (C8 K (wr .i64 (((nth r12.1 0).At)-x1))).bind fun r35 =>
    (Af K t_12 2 (wr .i64 (r35+1))).bind fun r37 =>
    Ax.j2 K (Ax.l1 K r12 x1 k) r12 t_10 x1 r37
    else none
   else
    if (0:Int)≤t_10∧t_10<((r12.1.length:Nat):Int) then
    if (0:Int)≤(wr .i64 (t_10-1))∧(wr .i64 (t_10-1))<((r12.1.length:Nat):Int) then
    if (0:Int)≤(wr .i64 (t_10-1))∧(wr .i64 (t_10-1))<((r12.1.length:Nat):Int) then
    (Af K t_12 2 (wr .i64 ((wr .i64 (((nth r12.1 t_10).At)-((nth r12.1 (wr .i64 (t_10-1))).At)))-((nth r12.1 (wr .i64 (t_10-1))).Len)))).bind fun r58 =>
    Ax.j2 K (Ax.l1 K r12 x1 k) r12 t_10 x1 r58
    else none
    else none
    else none
  else
   (Bu K t_12 x1 r12.2).bind fun r71 =>
   some r71
def Ax (K:Nat) (x0:List Int) (x1:Int) (x2:List Int):Option (List Int) :=
 (Aw K x2).bind fun r12 =>
 (Af K x0 2 (wr .i64 (((r12.1.length:Nat):Int)+1))).bind fun r19 =>
 Ax.l1 K r12 x1 K (0:Int) r19
abbrev Cc.sg:Sig:=⟨[(.one,(.sl (.int .u8))),(.one,(.int .i64)),(.one,(.sl (.int .u8)))],[],[(.one,.bool)],[]⟩
def Cc.l1 (K:Nat) (x0:List Int) (x1:Int) (x2:List Int):Nat→Int→Option Bool
 | 0,_=>none
 | k+1,i_10 =>
  if decide (i_10<((x2.length:Nat):Int)) then
   if decide ((wr .i64 (x1+i_10))≥((x0.length:Nat):Int)) then
    some false
   else
    if (0:Int)≤(wr .i64 (x1+i_10))∧(wr .i64 (x1+i_10))<((x0.length:Nat):Int) then
    if (0:Int)≤i_10∧i_10<((x2.length:Nat):Int) then
    if ((nth x0 (wr .i64 (x1+i_10))) != (nth x2 i_10)) then
     some false
    else
     Cc.l1 K x0 x1 x2 k (wr .i64 (i_10+1))
    else none
    else none
  else
   some true
def Cc (K:Nat) (x0:List Int) (x1:Int) (x2:List Int):Option Bool :=
 Cc.l1 K x0 x1 x2 K (0:Int)
abbrev As.sg:Sig:=⟨[(.one,(.sl (.int .u8))),(.one,(.int .i64)),(.one,(.sl (.int .i64)))],[.n],[(.one,(.sl (.int .u8)))],[.o]⟩
def As.j2 (K:Nat) (go_l1:Int→(List Int)→Option (List Int)) (r12:(List Aj) × (List Int)) (t_10:Int) (x1:Int) (t_11:List Int):Option (List Int) :=
 if (0:Int)≤t_10∧t_10<((r12.1.length:Nat):Int) then
 (Af K t_11 2 (wr .i64 ((wr .i64 (((nth r12.1 t_10).Len)-3))+1))).bind fun r67 =>
 go_l1 (wr .i64 (t_10+1)) r67
 else none
def As.l1 (K:Nat) (r12:(List Aj) × (List Int)) (x1:Int):Nat→Int→(List Int)→Option (List Int)
 | 0,_,_=>none
 | k+1,t_10,t_12 =>
  if decide (t_10<((r12.1.length:Nat):Int)) then
   if (t_10 == 0) then
    if (0:Int)≤(0:Int)∧(0:Int)<((r12.1.length:Nat):Int) then
    (C8 K (wr .i64 (((nth r12.1 0).At)-x1))).bind fun r35 =>
    (Af K t_12 2 (wr .i64 (r35+1))).bind fun r37 =>
    As.j2 K (As.l1 K r12 x1 k) r12 t_10 x1 r37
    else none
   else
    if (0:Int)≤t_10∧t_10<((r12.1.length:Nat):Int) then
    if (0:Int)≤(wr .i64 (t_10-1))∧(wr .i64 (t_10-1))<((r12.1.length:Nat):Int) then
    if (0:Int)≤(wr .i64 (t_10-1))∧(wr .i64 (t_10-1))<((r12.1.length:Nat):Int) then
    (Af K t_12 2 (wr .i64 ((wr .i64 (((nth r12.1 t_10).At)-((nth r12.1 (wr .i64 (t_10-1))).At)))-((nth r12.1 (wr .i64 (t_10-1))).Len)))).bind fun r58 =>
    As.j2 K (As.l1 K r12 x1 k) r12 t_10 x1 r58
    else none
    else none
    else none
  else
   (Bu K t_12 x1 r12.2).bind fun r71 =>
   some r71
def As (K:Nat) (x0:List Int) (x1:Int) (x2:List Int):Option (List Int) :=
 (Aw K x2).bind fun r12 =>
 (Af K ([]:List Int) 2 (wr .i64 (((r12.1.length:Nat):Int)+1))).bind fun r19 =>
 As.l1 K r12 x1 K (0:Int) r19
abbrev Ao.sg:Sig:=⟨[(.one,(.sl (.int .u8))),(.one,(.int .i64)),(.one,(.int .i64))],[],[(.one,(.sl (.int .i64))),(.one,(.int .i64)),(.one,.bool)],[.o]⟩
def Ao.j2 (K:Nat) (go_l1:Int→Int→Int→(List Aj)→Option ((List Int) × Int × Bool)) (r28:Int × Int) (r55:Int × Int) (t_11:Int) (t_15:List Aj) (x0:List Int) (x1:Int) (x2:Int) (t_12:Int) (t_13:Int):Option ((List Int) × Int × Bool) :=
 if (t_15.length+([((t_12,t_13):Aj)]:List Aj).length)*16≤140737488355328 then
 go_l1 r55.2 (wr .i64 (t_12+t_13)) (wr .i64 (t_11+1)) (t_15++([((t_12,t_13):Aj)]:List Aj))
 else none
def Ao.l1 (K:Nat) (r28:Int × Int) (x0:List Int) (x1:Int) (x2:Int):Nat→Int→Int→Int→(List Aj)→Option ((List Int) × Int × Bool)
 | 0,_,_,_,_=>none
 | k+1,t_14,t_10,t_11,t_15 =>
  if decide (t_11<(wr .i64 (r28.1-1))) then
   (Ad K x0 t_14 2).bind fun r47 =>
   if decide (r47.1<1) then
    some (([]:List Int),0,false)
   else
    (Ad K x0 r47.2 2).bind fun r55 =>
    if decide (r55.1<1) then
     some (([]:List Int),0,false)
    else
     if decide (r55.1 > 16) then
      some (([]:List Int),0,false)
     else
      if (t_11 == 0) then
       (C7 K (wr .i64 (r47.1-1))).bind fun r77 =>
       Ao.j2 K (Ao.l1 K r28 x0 x1 x2 k) r28 r55 t_11 t_15 x0 x1 x2 (wr .i64 (x2+r77)) (wr .i64 ((wr .i64 (r55.1-1))+3))
      else
       Ao.j2 K (Ao.l1 K r28 x0 x1 x2 k) r28 r55 t_11 t_15 x0 x1 x2 (wr .i64 (t_10+r47.1)) (wr .i64 ((wr .i64 (r55.1-1))+3))
  else
   (Bi K x0 t_14 x2).bind fun r93 =>
   if (!r93.2.2) then
    some (([]:List Int),0,false)
   else
    (Ai K t_15 r93.1).bind fun r102 =>
    if (!r102.2) then
     some (([]:List Int),0,false)
    else
     if decide (((r102.1.length:Nat):Int) > 16) then
      some (([]:List Int),0,false)
     else
      (As K ([]:List Int) x2 r102.1).bind fun r114 =>
      if (((r114.length:Nat):Int) != (wr .i64 (r93.2.1-x1))) then
       some (([]:List Int),0,false)
      else
       (Cc K x0 x1 r114).bind fun r125 =>
       if (!r125) then
        some (([]:List Int),0,false)
       else
        some (r102.1,r93.2.1,true)
def Ao (K:Nat) (x0:List Int) (x1:Int) (x2:Int):Option ((List Int) × Int × Bool) :=
 (Ad K x0 x1 2).bind fun r28 =>
 if decide (r28.1<1) then
  some (([]:List Int),0,false)
 else
  if decide ((wr .i64 (r28.1-1)) > 16) then
   some (([]:List Int),0,false)
  else
   Ao.l1 K r28 x0 x1 x2 K r28.2 (0:Int) (0:Int) ([]:List Aj)
abbrev B9.sg:Sig:=⟨[(.agg,Bw)],[],[(.one,(.int .i64))],[]⟩
def B9.l1 (K:Nat) (x0:Ab):Nat→Int→Int→Option Int
 | 0,_,_=>none
 | k+1,n_10,i_11 =>
  if decide (i_11<((x0.Out.length:Nat):Int)) then
   if (0:Int)≤i_11∧i_11<((x0.Out.length:Nat):Int) then
   B9.l1 K x0 k (wr .i64 (n_10+(((nth x0.Out i_11).length:Nat):Int))) (wr .i64 (i_11+1))
   else none
  else
   some n_10
def B9 (K:Nat) (x0:Ab):Option Int :=
 B9.l1 K x0 K (0:Int) (0:Int)
abbrev Bv.sg:Sig:=⟨[(.agg,Bw)],[],[(.one,.bool)],[]⟩
def Bv.l1 (K:Nat) (x0:Ab):Nat→Int→Option Bool
 | 0,_=>none
 | k+1,i_10 =>
  if decide (i_10<x0.N) then
   if (0:Int)≤i_10∧i_10<((x0.Out.length:Nat):Int) then
   (Bq K (nth x0.Out i_10)).bind fun r27 =>
   if (!r27) then
    some false
   else
    if (0:Int)≤i_10∧i_10<((x0.Out.length:Nat):Int) then
    if decide ((((nth x0.Out i_10).length:Nat):Int) > 0) then
     if (0:Int)≤i_10∧i_10<((x0.Out.length:Nat):Int) then
     if (0:Int)≤i_10∧i_10<((x0.Out.length:Nat):Int) then
     if (0:Int)≤(wr .i64 ((((nth x0.Out i_10).length:Nat):Int)-1))∧(wr .i64 ((((nth x0.Out i_10).length:Nat):Int)-1))<(((nth x0.Out i_10).length:Nat):Int) then
     if decide ((nth (nth x0.Out i_10) (wr .i64 ((((nth x0.Out i_10).length:Nat):Int)-1)))≥x0.N) then
      some false
     else
      Bv.l1 K x0 k (wr .i64 (i_10+1))
     else none
     else none
     else none
    else
     Bv.l1 K x0 k (wr .i64 (i_10+1))
    else none
   else none
  else
   (B9 K x0).bind fun r58 =>
   some (decide (r58≤120))
def Bv (K:Nat) (x0:Ab):Option Bool :=
 (C4 K x0.N 16).bind fun r6 =>
 if (!r6) then
  some false
 else
  if (((x0.Out.length:Nat):Int) != x0.N) then
   some false
  else
   Bv.l1 K x0 K (0:Int)
abbrev Bm.sg:Sig:=⟨[(.one,(.sl (.int .u8)))],[],[(.agg,Bw),(.one,.bool)],[.s,.o]⟩
def Bm.l1 (K:Nat) (r26:Ab) (x0:List Int):Nat→Int→Int→Int→(List (List Int))→Option (Ab × Bool)
 | 0,_,_,_,_=>none
 | k+1,at_12,v_11,t_10,g_13 =>
  if decide (v_11<r26.N) then
   (Ao K x0 at_12 v_11).bind fun r37 =>
   if (!r37.2.2) then
    some (((0,([]:List (List Int))):Ab),false)
   else
    if (0:Int)≤v_11∧v_11<((g_13.length:Nat):Int) then
    Bm.l1 K r26 x0 k r37.2.1 (wr .i64 (v_11+1)) t_10 ((g_13).set v_11.toNat r37.1)
    else none
  else
   if (at_12 != ((x0.length:Nat):Int)) then
    some (((0,([]:List (List Int))):Ab),false)
   else
    (Bv K ((r26.N,g_13):Ab)).bind fun r56 =>
    if (!r56) then
     some (((0,([]:List (List Int))):Ab),false)
    else
     some (((r26.N,g_13):Ab),true)
def Bm (K:Nat) (x0:List Int):Option (Ab × Bool) :=
 (Ad K x0 0 2).bind fun r13 =>
 if decide (r13.1<1) then
  some (((0,([]:List (List Int))):Ab),false)
 else
  if decide ((wr .i64 (r13.1-1)) > 16) then
   some (((0,([]:List (List Int))):Ab),false)
  else
   (C6 K (wr .i64 (r13.1-1))).bind fun r26 =>
   Bm.l1 K r26 x0 K r13.2 (0:Int) (0:Int) r26.Out
abbrev Df.sg:Sig:=⟨[(.agg,Bw),(.one,(.int .i64))],[],[(.one,(.sl (.int .i64)))],[]⟩
def Df (K:Nat) (x0:Ab) (x1:Int):Option (List Int) :=
 if decide (x1<x0.N) then
  if (0:Int)≤x1∧x1<((x0.Out.length:Nat):Int) then
  some (nth x0.Out x1)
  else none
 else
  some ([]:List Int)
abbrev Cf.sg:Sig:=⟨[(.one,(.sl (.int .i64))),(.one,(.int .i64))],[],[(.one,(.int .i64))],[]⟩
def Cf.l1 (K:Nat) (x0:List Int) (x1:Int):Nat→Int→Option Int
 | 0,_=>none
 | k+1,i_10 =>
  if decide (i_10<((x0.length:Nat):Int)) then
   if (0:Int)≤i_10∧i_10<((x0.length:Nat):Int) then
   if ((nth x0 i_10) == x1) then
    some i_10
   else
    Cf.l1 K x0 x1 k (wr .i64 (i_10+1))
   else none
  else
   some ((-1):Int)
def Cf (K:Nat) (x0:List Int) (x1:Int):Option Int :=
 Cf.l1 K x0 x1 K (0:Int)
abbrev Au.sg:Sig:=⟨[(.one,(.sl (.int .i64))),(.one,(.sl (.int .i64)))],[],[(.one,(.sl (.int .i64))),(.one,(.sl (.int .i64)))],[.o,.o]⟩
def Au.l2 (K:Nat) (x0:List Int) (x1:List Int):Nat→Int→(List Int)→(List Int)→Option ((List Int) × (List Int))
 | 0,_,_,_=>none
 | k+1,i_12,blocks_16,rest_15 =>
  if decide (i_12<((x1.length:Nat):Int)) then
   if (0:Int)≤i_12∧i_12<((x1.length:Nat):Int) then
   (Cf K x0 (nth x1 i_12)).bind fun r47 =>
   if decide (r47<0) then
    if (0:Int)≤i_12∧i_12<((x1.length:Nat):Int) then
    if (rest_15.length+([nth x1 i_12]:List Int).length)*8≤140737488355328 then
    Au.l2 K x0 x1 k (wr .i64 (i_12+1)) blocks_16 (rest_15++([nth x1 i_12]:List Int))
    else none
    else none
   else
    Au.l2 K x0 x1 k (wr .i64 (i_12+1)) blocks_16 rest_15
   else none
  else
   some (blocks_16,rest_15)
def Au.l1 (K:Nat) (x0:List Int) (x1:List Int):Nat→Bool→Int→Int→(List Int)→Option ((List Int) × (List Int))
 | 0,_,_,_,_=>none
 | k+1,in_14,n_10,i_11,blocks_13 =>
  if decide (i_11<((x0.length:Nat):Int)) then
   if (0:Int)≤i_11∧i_11<((x0.length:Nat):Int) then
   (Cf K x1 (nth x0 i_11)).bind fun r24 =>
   if (!((decide (r24≥0)) == in_14)) then
    if (blocks_13.length+([n_10]:List Int).length)*8≤140737488355328 then
    Au.l1 K x0 x1 k (decide (r24≥0)) (wr .i64 ((0:Int)+1)) (wr .i64 (i_11+1)) (blocks_13++([n_10]:List Int))
    else none
   else
    Au.l1 K x0 x1 k in_14 (wr .i64 (n_10+1)) (wr .i64 (i_11+1)) blocks_13
   else none
  else
   Au.l2 K x0 x1 K (0:Int) blocks_13 ([]:List Int)
def Au (K:Nat) (x0:List Int) (x1:List Int):Option ((List Int) × (List Int)) :=
 Au.l1 K x0 x1 K true (0:Int) (0:Int) ([]:List Int)
abbrev Bd.sg:Sig:=⟨[(.one,(.sl (.int .i64))),(.one,(.sl (.int .i64)))],[],[(.one,.bool)],[]⟩
def Bd.l1 (K:Nat) (x0:List Int) (x1:List Int):Nat→Int→Option Bool
 | 0,_=>none
 | k+1,i_10 =>
  if decide (i_10<((x0.length:Nat):Int)) then
   if (0:Int)≤i_10∧i_10<((x0.length:Nat):Int) then
   if (0:Int)≤i_10∧i_10<((x1.length:Nat):Int) then
   if ((nth x0 i_10) != (nth x1 i_10)) then
    some false
   else
    Bd.l1 K x0 x1 k (wr .i64 (i_10+1))
   else none
   else none
  else
   some true
def Bd (K:Nat) (x0:List Int) (x1:List Int):Option Bool :=
 if (((x0.length:Nat):Int) != ((x1.length:Nat):Int)) then
  some false
 else
  Bd.l1 K x0 x1 K (0:Int)
abbrev Ae.sg:Sig:=⟨[(.one,(.sl (.int .i64))),(.one,(.sl (.int .i64))),(.one,(.sl (.int .i64)))],[],[(.one,(.sl (.int .i64))),(.one,.bool)],[.o]⟩
def Ae.l5 (K:Nat) (x0:List Int) (x1:List Int) (x2:List Int):Nat→Int→(List Bool)→(List Int)→Option ((List Int) × Bool)
 | 0,_,_,_=>none
 | k+1,t_16,t_20,t_19 =>
  if decide (t_16<16) then
   if ((0:Int)≤t_16∧t_16<((t_20.length:Nat):Int))∧t_20.length=16 then
   if nth t_20 t_16 then
    if (t_19.length+([t_16]:List Int).length)*8≤140737488355328 then
    Ae.l5 K x0 x1 x2 k (wr .i64 (t_16+1)) t_20 (t_19++([t_16]:List Int))
    else none
   else
    Ae.l5 K x0 x1 x2 k (wr .i64 (t_16+1)) t_20 t_19
   else none
  else
   (Au K x0 t_19).bind fun r104 =>
   (Bd K r104.1 x1).bind fun r110 =>
   if r110 then
    (Bd K r104.2 x2).bind fun r114 =>
    some (t_19,r114)
   else
    some (t_19,false)
def Ae.l4 (K:Nat) (x0:List Int) (x1:List Int) (x2:List Int):Nat→Int→(List Bool)→Option ((List Int) × Bool)
 | 0,_,_=>none
 | k+1,t_15,t_18 =>
  if decide (t_15<((x2.length:Nat):Int)) then
   if (0:Int)≤t_15∧t_15<((x2.length:Nat):Int) then
   if ((0:Int)≤(nth x2 t_15)∧(nth x2 t_15)<((t_18.length:Nat):Int))∧t_18.length=16 then
   Ae.l4 K x0 x1 x2 k (wr .i64 (t_15+1)) ((t_18).set (nth x2 t_15).toNat true)
   else none
   else none
  else
   Ae.l5 K x0 x1 x2 K (0:Int) t_18 ([]:List Int)
def Ae.l3 (K:Nat) (go_l1:Int→Int→(List Bool)→Option ((List Int) × Bool)) (t_11:Int) (t_12:Int) (t_13:Int) (x0:List Int) (x1:List Int) (x2:List Int):Nat→Int→(List Bool)→Option ((List Int) × Bool)
 | 0,_,_=>none
 | k+1,t_14,t_17 =>
  if decide (t_14<t_13) then
   if (2:Int)≠0 then
   if ((t_12.tmod 2) == 0) then
    if (0:Int)≤(wr .i64 (t_11+t_14))∧(wr .i64 (t_11+t_14))<((x0.length:Nat):Int) then
    if ((0:Int)≤(nth x0 (wr .i64 (t_11+t_14)))∧(nth x0 (wr .i64 (t_11+t_14)))<((t_17.length:Nat):Int))∧t_17.length=16 then
    Ae.l3 K go_l1 t_11 t_12 t_13 x0 x1 x2 k (wr .i64 (t_14+1)) ((t_17).set (nth x0 (wr .i64 (t_11+t_14))).toNat true)
    else none
    else none
   else
    go_l1 (wr .i64 (t_11+t_13)) (wr .i64 (t_12+1)) t_17
   else none
  else
   go_l1 (wr .i64 (t_11+t_13)) (wr .i64 (t_12+1)) t_17
def Ae.j2 (K:Nat) (go_l1:Int→Int→(List Bool)→Option ((List Int) × Bool)) (t_10:List Bool) (t_11:Int) (t_12:Int) (x0:List Int) (x1:List Int) (x2:List Int) (t_13:Int):Option ((List Int) × Bool) :=
 if decide (t_13<0) then
  some (([]:List Int),false)
 else
  if decide (t_13 > (wr .i64 (((x0.length:Nat):Int)-t_11))) then
   some (([]:List Int),false)
  else
   Ae.l3 K go_l1 t_11 t_12 t_13 x0 x1 x2 K (0:Int) t_10
def Ae.l1 (K:Nat) (x0:List Int) (x1:List Int) (x2:List Int):Nat→Int→Int→(List Bool)→Option ((List Int) × Bool)
 | 0,_,_,_=>none
 | k+1,t_11,t_12,t_10 =>
  if decide (t_12≤((x1.length:Nat):Int)) then
   if decide (t_12<((x1.length:Nat):Int)) then
    if (0:Int)≤t_12∧t_12<((x1.length:Nat):Int) then
    Ae.j2 K (Ae.l1 K x0 x1 x2 k) t_10 t_11 t_12 x0 x1 x2 (nth x1 t_12)
    else none
   else
    Ae.j2 K (Ae.l1 K x0 x1 x2 k) t_10 t_11 t_12 x0 x1 x2 (wr .i64 (((x0.length:Nat):Int)-t_11))
  else
   Ae.l4 K x0 x1 x2 K (0:Int) t_10
def Ae (K:Nat) (x0:List Int) (x1:List Int) (x2:List Int):Option ((List Int) × Bool) :=
 (Bq K x0).bind fun r19 =>
 if (!r19) then
  some (([]:List Int),false)
 else
  (Bq K x2).bind fun r23 =>
  if (!r23) then
   some (([]:List Int),false)
  else
   if decide (((x1.length:Nat):Int) > 16) then
    some (([]:List Int),false)
   else
    Ae.l1 K x0 x1 x2 K (0:Int) (0:Int) (List.replicate 16 false)
abbrev Bk.sg:Sig:=⟨[(.one,(.sl (.int .u8))),(.one,(.int .i64)),(.one,(.int .i64)),(.one,(.sl (.int .i64)))],[],[(.one,(.sl (.int .i64))),(.one,(.int .i64)),(.one,.bool)],[.o]⟩
def Bk.l1 (K:Nat) (r23:Int × Int) (x0:List Int) (x2:Int) (x3:List Int):Nat→Int→Int→(List Int)→Option ((List Int) × Int × Bool)
 | 0,_,_,_=>none
 | k+1,t_11,t_10,t_12 =>
  if decide (t_10<(wr .i64 (r23.1-1))) then
   (Ad K x0 t_11 2).bind fun r42 =>
   if decide (r42.1<1) then
    some (([]:List Int),0,false)
   else
    if decide (r42.1 > 17) then
     some (([]:List Int),0,false)
    else
     if (t_10 == 0) then
      if (t_12.length+([wr .i64 (r42.1-1)]:List Int).length)*8≤140737488355328 then
      Bk.l1 K r23 x0 x2 x3 k r42.2 (wr .i64 (t_10+1)) (t_12++([wr .i64 (r42.1-1)]:List Int))
      else none
     else
      if (t_12.length+([r42.1]:List Int).length)*8≤140737488355328 then
      Bk.l1 K r23 x0 x2 x3 k r42.2 (wr .i64 (t_10+1)) (t_12++([r42.1]:List Int))
      else none
  else
   (Ao K x0 t_11 x2).bind fun r64 =>
   if (!r64.2.2) then
    some (([]:List Int),0,false)
   else
    (Ae K x3 t_12 r64.1).bind fun r74 =>
    if (!r74.2) then
     some (([]:List Int),0,false)
    else
     some (r74.1,r64.2.1,true)
def Bk (K:Nat) (x0:List Int) (x1:Int) (x2:Int) (x3:List Int):Option ((List Int) × Int × Bool) :=
 (Ad K x0 x1 2).bind fun r23 =>
 if decide (r23.1<1) then
  some (([]:List Int),0,false)
 else
  if decide ((wr .i64 (r23.1-1)) > 16) then
   some (([]:List Int),0,false)
  else
   Bk.l1 K r23 x0 x2 x3 K r23.2 (0:Int) ([]:List Int)
abbrev Bn.sg:Sig:=⟨[(.agg,Bw),(.one,(.sl (.int .u8)))],[],[(.agg,Bw),(.one,.bool)],[.s,.o]⟩
def Bn.l1 (K:Nat) (r28:Ab) (x0:Ab) (x1:List Int):Nat→Int→Int→Int→(List (List Int))→Option (Ab × Bool)
 | 0,_,_,_,_=>none
 | k+1,t_12,t_11,t_10,t_13 =>
  if decide (t_11<r28.N) then
   (Df K x0 t_11).bind fun r41 =>
   (Bk K x1 t_12 t_11 r41).bind fun r42 =>
   if (!r42.2.2) then
    some (((0,([]:List (List Int))):Ab),false)
   else
    if (0:Int)≤t_11∧t_11<((t_13.length:Nat):Int) then
    Bn.l1 K r28 x0 x1 k r42.2.1 (wr .i64 (t_11+1)) t_10 ((t_13).set t_11.toNat r42.1)
    else none
  else
   if (t_12 != ((x1.length:Nat):Int)) then
    some (((0,([]:List (List Int))):Ab),false)
   else
    (Bv K ((r28.N,t_13):Ab)).bind fun r61 =>
    if (!r61) then
     some (((0,([]:List (List Int))):Ab),false)
    else
     some (((r28.N,t_13):Ab),true)
def Bn (K:Nat) (x0:Ab) (x1:List Int):Option (Ab × Bool) :=
 (Ad K x1 0 2).bind fun r15 =>
 if decide (r15.1<1) then
  some (((0,([]:List (List Int))):Ab),false)
 else
  if decide ((wr .i64 (r15.1-1)) > 16) then
   some (((0,([]:List (List Int))):Ab),false)
  else
   (C6 K (wr .i64 (r15.1-1))).bind fun r28 =>
   Bn.l1 K r28 x0 x1 K r15.2 (0:Int) (0:Int) r28.Out
abbrev Ar.sg:Sig:=⟨[(.one,(.sl Ap)),(.one,(.int .i64))],[],[(.agg,Bw),(.one,(.int .i64))],[.s,.o]⟩
def Ar.j1 (K:Nat) (rec_:(List Aa)→Int→Option (Ab × Int)) (ok_13:Bool) (t_10:Int) (g_11:Int) (g_12:List (List Int)):Option (Ab × Int) :=
 if (!ok_13) then
  some (((0,([]:List (List Int))):Ab),9)
 else
  some (((g_11,g_12):Ab),0)
def Ar:Nat→(List Aa)→Int→Option (Ab × Int)
 | 0,_,_=>none
 | K+1,x0,x1 =>
  (Bg K x0 x1).bind fun r17 =>
  if (r17.2 != 0) then
   some (((0,([]:List (List Int))):Ab),r17.2)
  else
   (Bo K x0 x1).bind fun r27 =>
   if (0:Int)≤r27∧r27<((x0.length:Nat):Int) then
   (Cj K ((nth x0 r27).Data)).bind fun r32 =>
   if (((nth x0 r27).Base) == 0) then
    (Bm K r32).bind fun r38 =>
    Ar.j1 K (Ar K) r38.2 (0:Int) r38.1.N r38.1.Out
   else
    ((Ar K) x0 ((nth x0 r27).Base)).bind fun r45 =>
    if (r45.2 != 0) then
     some (((0,([]:List (List Int))):Ab),r45.2)
    else
     (Bn K r45.1 r32).bind fun r55 =>
     Ar.j1 K (Ar K) r55.2 (0:Int) r55.1.N r55.1.Out
   else none
abbrev A9.sg:Sig:=⟨[(.one,(.sl (.sl (.int .i64)))),(.one,(.sl (.sl (.int .i64))))],[],[(.one,.bool)],[]⟩
def A9.l1 (K:Nat) (x0:List (List Int)) (x1:List (List Int)):Nat→Int→Option Bool
 | 0,_=>none
 | k+1,i_10 =>
  if decide (i_10<((x0.length:Nat):Int)) then
   if (0:Int)≤i_10∧i_10<((x0.length:Nat):Int) then
   if (0:Int)≤i_10∧i_10<((x1.length:Nat):Int) then
   (Bd K (nth x0 i_10) (nth x1 i_10)).bind fun r25 =>
   if (!r25) then
    some false
   else
    A9.l1 K x0 x1 k (wr .i64 (i_10+1))
   else none
   else none
  else
   some true
def A9 (K:Nat) (x0:List (List Int)) (x1:List (List Int)):Option Bool :=
 if (((x0.length:Nat):Int) != ((x1.length:Nat):Int)) then
  some false
 else
  A9.l1 K x0 x1 K (0:Int)
abbrev Dd.sg:Sig:=⟨[(.agg,Bw),(.agg,Bw)],[],[(.one,.bool)],[]⟩
def Dd (K:Nat) (x0:Ab) (x1:Ab):Option Bool :=
 if (x0.N == x1.N) then
  (A9 K x0.Out x1.Out).bind fun r15 =>
  some r15
 else
  some false
abbrev B0.sg:Sig:=⟨[(.one,(.sl (.int .i64)))],[.o],[],[]⟩
def B0.l1 (K:Nat):Nat→Int→(List Int)→Option Unit
 | 0,_,_=>none
 | k+1,i_10,l_11 =>
  if decide (i_10<((l_11.length:Nat):Int)) then
   if (0:Int)≤i_10∧i_10<((l_11.length:Nat):Int) then
   B0.l1 K k (wr .i64 (i_10+1)) ((l_11).set i_10.toNat (-99))
   else none
  else
   some ()
def B0 (K:Nat) (x0:List Int):Option Unit :=
 B0.l1 K K (0:Int) x0
abbrev Ca.sg:Sig:=⟨[(.agg,Bw)],[.s,.o],[],[]⟩
def Ca.l1 (K:Nat):Nat→Int→(List (List Int))→Option Unit
 | 0,_,_=>none
 | k+1,i_10,g_11 =>
  if decide (i_10<((g_11.length:Nat):Int)) then
   if (0:Int)≤i_10∧i_10<((g_11.length:Nat):Int) then
   (B0 K (nth g_11 i_10)).bind fun r15 =>
   if (0:Int)≤i_10∧i_10<((g_11.length:Nat):Int) then
   if i_10=i_10 then
   Ca.l1 K k (wr .i64 (i_10+1)) ((g_11).set i_10.toNat [])
   else none
   else none
   else none
  else
   some ()
def Ca (K:Nat) (x0:Ab):Option Unit :=
 Ca.l1 K K (0:Int) x0.Out
abbrev Cm:Type:=(List Int) × Int
abbrev Et:Ty:=(.pr (.sl (.int .u8)) (.int .i64))
abbrev Cm.data (x:Cm):List Int:=x.1
abbrev Cm.n (x:Cm):Int:=x.2
abbrev Be.sg:Sig:=⟨[(.box,Et),(.one,(.int .i64)),(.one,(.int .i64))],[.o],[],[.o]⟩
def Be.j2 (K:Nat) (go_l1:Int→Int→(List Int)→Option Cm) (h_13:Int) (i_10:Int) (x1:Int) (h_11:List Int):Option Cm :=
 if (8:Int)≠0 then
 if (0:Int)≤(wr .i64 (h_13.tdiv 8))∧(wr .i64 (h_13.tdiv 8))<((h_11.length:Nat):Int) then
 if (0:Int)≤i_10 then
 if (8:Int)≠0 then
 if (0:Int)≤(wr .i64 (7-(h_13.tmod 8))) then
 if (0:Int)≤(wr .i64 (h_13.tdiv 8))∧(wr .i64 (h_13.tdiv 8))<((h_11.length:Nat):Int) then
 go_l1 (wr .i64 (i_10-1)) (wr .i64 (h_13+1)) ((h_11).set (wr .i64 (h_13.tdiv 8)).toNat (ib .or .u8 (nth h_11 (wr .i64 (h_13.tdiv 8))) (wr .u8 ((wr .u8 (ib .and .i64 (x1.fdiv (2 ^ min (i_10).toNat 64)) 1))*2 ^ min ((wr .i64 (7-(h_13.tmod 8)))).toNat 8))))
 else none
 else none
 else none
 else none
 else none
 else none
def Be.l1 (K:Nat) (x1:Int):Nat→Int→Int→(List Int)→Option Cm
 | 0,_,_,_=>none
 | k+1,i_10,h_13,h_12 =>
  if decide (i_10≥0) then
   if (8:Int)≠0 then
   if ((h_13.tmod 8) == 0) then
    if (h_12.length+([0]:List Int).length)*1≤140737488355328 then
    Be.j2 K (Be.l1 K x1 k) h_13 i_10 x1 (h_12++([0]:List Int))
    else none
   else
    Be.j2 K (Be.l1 K x1 k) h_13 i_10 x1 h_12
   else none
  else
   some ((h_12,h_13):Cm)
def Be (K:Nat) (x0:Cm) (x1:Int) (x2:Int):Option Cm :=
 Be.l1 K x1 K (wr .i64 (x2-1)) x0.n x0.data
abbrev D9.sg:Sig:=⟨[(.one,(.int .i64))],[],[(.one,(.int .i64))],[]⟩
def D9 (K:Nat) (x0:Int):Option Int :=
 (D3 K (wr .u64 x0)).bind fun r5 =>
 some (wr .i64 (r5-1))
abbrev C0.sg:Sig:=⟨[(.box,Et),(.one,(.int .i64)),(.one,(.int .i64))],[.o],[],[.o]⟩
def C0:Nat→Cm→Int→Int→Option Cm
 | 0,_,_,_=>none
 | K+1,x0,x1,x2 =>
  if (x1 == 1) then
   (Be K x0 0 (wr .i64 (x2-1))).bind fun r53 =>
   (Be K r53 1 1).bind fun r55 =>
   some r55
  else
   if (x1 == 2) then
    (D9 K x2).bind fun r60 =>
    (Be K x0 0 r60).bind fun r61 =>
    (D9 K x2).bind fun r65 =>
    (Be K r61 x2 (wr .i64 (r65+1))).bind fun r67 =>
    some r67
   else
    if (x1 == 3) then
     (D9 K x2).bind fun r72 =>
     ((C0 K) x0 2 (wr .i64 (r72+1))).bind fun r74 =>
     (D9 K x2).bind fun r78 =>
     (Be K r74 x2 r78).bind fun r79 =>
     some r79
    else
     (D9 K x2).bind fun r14 =>
     (Ei K x1).bind fun r16 =>
     if r16≠0 then
     (Ei K x1).bind fun r20 =>
     (Eq K r20 (wr .i64 (r14.tdiv r16))).bind fun r22 =>
     ((C0 K) x0 1 (wr .i64 ((wr .i64 (r14.tdiv r16))+1))).bind fun r30 =>
     if decide ((wr .i64 (x2-r22.1))<r22.2.2.2) then
      (Be K r30 (wr .i64 (x2-r22.1)) (wr .i64 (r22.2.2.1-1))).bind fun r41 =>
      some r41
     else
      (Be K r30 (wr .i64 ((wr .i64 (x2-r22.1))+r22.2.2.2)) r22.2.2.1).bind fun r47 =>
      some r47
     else none
abbrev D1.sg:Sig:=⟨[(.box,Et)],[.o],[(.one,(.int .i64))],[.s,.o]⟩
def D1 (K:Nat) (x0:Cm):Option (Int × Cm) :=
 some (x0.n,x0)
abbrev Em.sg:Sig:=⟨[(.one,(.int .i64))],[],[(.one,(.int .i64))],[]⟩
def Em (K:Nat) (x0:Int):Option Int :=
 if decide (x0<0) then
  some (wr .i64 ((wr .i64 ((-2)*x0))-1))
 else
  some (wr .i64 (2*x0))
abbrev Dv.sg:Sig:=⟨[(.box,Et),(.one,(.int .i64)),(.one,(.sl (.int .i64)))],[.o],[],[.o]⟩
def Dv.l1 (K:Nat) (x1:Int) (x2:List Int):Nat→Int→Int→Int→(List Int)→Option Cm
 | 0,_,_,_,_=>none
 | k+1,t_10,t_11,h_13,h_12 =>
  if decide (t_11<t_10) then
   if (0:Int)≤t_11∧t_11<((x2.length:Nat):Int) then
   if (t_11 == 0) then
    (Em K (wr .i64 ((nth x2 t_11)-x1))).bind fun r26 =>
    (C0 K ((h_12,h_13):Cm) 2 (wr .i64 (r26+1))).bind fun r28 =>
    Dv.l1 K x1 x2 k t_10 (wr .i64 (t_11+1)) r28.n r28.data
   else
    if (0:Int)≤(wr .i64 (t_11-1))∧(wr .i64 (t_11-1))<((x2.length:Nat):Int) then
    (C0 K ((h_12,h_13):Cm) 2 (wr .i64 ((nth x2 t_11)-(nth x2 (wr .i64 (t_11-1)))))).bind fun r37 =>
    Dv.l1 K x1 x2 k t_10 (wr .i64 (t_11+1)) r37.n r37.data
    else none
   else none
  else
   some ((h_12,h_13):Cm)
def Dv (K:Nat) (x0:Cm) (x1:Int) (x2:List Int):Option Cm :=
 (C0 K x0 2 (wr .i64 (((x2.length:Nat):Int)+1))).bind fun r12 =>
 Dv.l1 K x1 x2 K ((x2.length:Nat):Int) (0:Int) r12.n r12.data
abbrev C1.sg:Sig:=⟨[(.box,Et),(.one,(.int .i64)),(.one,(.sl (.int .i64)))],[.o],[],[.o]⟩
def C1.j2 (K:Nat) (go_l1:Int→Int→Int→Int→(List Int)→Option Cm) (r13:(List Aj) × (List Int)) (t_11:Int) (t_12:Int) (x1:Int) (h_14:Int) (h_13:List Int) (x_15:Int) (x_16:Int):Option Cm :=
 (C0 K ((h_13,h_14):Cm) 2 (wr .i64 ((wr .i64 (x_16-3))+1))).bind fun r49 =>
 go_l1 (wr .i64 (x_15+x_16)) t_11 (wr .i64 (t_12+1)) r49.n r49.data
def C1.l1 (K:Nat) (r13:(List Aj) × (List Int)) (x1:Int):Nat→Int→Int→Int→Int→(List Int)→Option Cm
 | 0,_,_,_,_,_=>none
 | k+1,end_10,t_11,t_12,h_18,h_17 =>
  if decide (t_12<t_11) then
   if (0:Int)≤t_12∧t_12<((r13.1.length:Nat):Int) then
   if (t_12 == 0) then
    (Em K (wr .i64 (((nth r13.1 t_12).At)-x1))).bind fun r35 =>
    (C0 K ((h_17,h_18):Cm) 2 (wr .i64 (r35+1))).bind fun r37 =>
    C1.j2 K (C1.l1 K r13 x1 k) r13 t_11 t_12 x1 r37.n r37.data ((nth r13.1 t_12).At) ((nth r13.1 t_12).Len)
   else
    (C0 K ((h_17,h_18):Cm) 2 (wr .i64 (((nth r13.1 t_12).At)-end_10))).bind fun r43 =>
    C1.j2 K (C1.l1 K r13 x1 k) r13 t_11 t_12 x1 r43.n r43.data ((nth r13.1 t_12).At) ((nth r13.1 t_12).Len)
   else none
  else
   (Dv K ((h_17,h_18):Cm) x1 r13.2).bind fun r59 =>
   some r59
def C1 (K:Nat) (x0:Cm) (x1:Int) (x2:List Int):Option Cm :=
 (Ch K x2).bind fun r13 =>
 (C0 K x0 2 (wr .i64 (((r13.1.length:Nat):Int)+1))).bind fun r20 =>
 C1.l1 K r13 x1 K (0:Int) ((r13.1.length:Nat):Int) (0:Int) r20.n r20.data
abbrev C9.sg:Sig:=⟨[(.agg,Bw)],[],[(.ptr,Et),(.one,(.sl (.int .i64)))],[.o,.s,.o]⟩
def C9.l1 (K:Nat) (x0:Ab):Nat→Int→Int→Int→(List Int)→(List Int)→Option (Cm × (List Int))
 | 0,_,_,_,_,_=>none
 | k+1,t_10,t_11,r_13,r_12,at_14 =>
  if decide (t_11<t_10) then
   if (0:Int)≤t_11∧t_11<((x0.Out.length:Nat):Int) then
   (D1 K ((r_12,r_13):Cm)).bind fun r25 =>
   if (at_14.length+([r25.1]:List Int).length)*8≤140737488355328 then
   (C1 K r25.2 t_11 (nth x0.Out t_11)).bind fun r31 =>
   C9.l1 K x0 k t_10 (wr .i64 (t_11+1)) r31.n r31.data (at_14++([r25.1]:List Int))
   else none
   else none
  else
   some (((r_12,r_13):Cm),at_14)
def C9 (K:Nat) (x0:Ab):Option (Cm × (List Int)) :=
 (C0 K ((([]:List Int),0):Cm) 2 (wr .i64 (x0.N+1))).bind fun r14 =>
 C9.l1 K x0 K ((x0.Out.length:Nat):Int) (0:Int) r14.n r14.data ([]:List Int)
abbrev Dk.sg:Sig:=⟨[(.box,Et)],[.o],[(.agg,C3),(.one,(.int .i64))],[.s,.s,.s,.o]⟩
def Dk (K:Nat) (x0:Cm):Option (Am × Int × Cm) :=
 if decide (x0.n > 6000) then
  some (((ByteArray.empty,0):Am),2,x0)
 else
  some (((bytesOf x0.data,x0.n):Am),0,x0)
abbrev Ee.sg:Sig:=⟨[(.agg,Bw)],[],[(.agg,C3)],[]⟩
def Ee (K:Nat) (x0:Ab):Option Am :=
 (C9 K x0).bind fun r9 =>
 (Dk K r9.1).bind fun r14 =>
 some r14.1
abbrev Ef.sg:Sig:=⟨[(.agg,Ap),(.box,(.int .i64))],[],[(.one,.bool)],[]⟩
def Ef (K:Nat) (x0:Aa) (x1:Int):Option (Bool × Int) :=
 some ((x0.ID == x1),x1)
abbrev Ag.sg:Sig:=⟨[(.one,(.sl Ap)),(.fn 165 1,.un),(.hid,(.int .i64))],[],[(.one,(.int .i64))],[]⟩
def Ag.l1 (K:Nat) (x0:List Aa):Nat→Int→Int→Int→Option (Int × Int)
 | 0,_,_,_=>none
 | k+1,t_10,t_11,h_12 =>
  if decide (t_11<t_10) then
   if (0:Int)≤t_11∧t_11<((x0.length:Nat):Int) then
   (Ef K (nth x0 t_11) h_12).bind fun r16 =>
   if r16.1 then
    some (t_11,r16.2)
   else
    Ag.l1 K x0 k t_10 (wr .i64 (t_11+1)) r16.2
   else none
  else
   some ((-1),h_12)
def Ag (K:Nat) (x0:List Aa) (x2:Int):Option (Int × Int) :=
 Ag.l1 K x0 K ((x0.length:Nat):Int) (0:Int) x2
abbrev Ea.sg:Sig:=⟨[(.one,(.sl Ap)),(.one,(.int .i64)),(.one,(.int .i64))],[],[(.one,(.int .i64))],[]⟩
def Ea (K:Nat) (x0:List Aa) (x1:Int) (x2:Int):Option Int :=
 (Dl K x0 x1 ((x0.length:Nat):Int)).bind fun r11 =>
 (Ag K r11 x2).bind fun r13 =>
 some r13.1
abbrev Dm.sg:Sig:=⟨[(.box,Et),(.one,(.int .i64)),(.one,(.sl (.int .i64))),(.one,(.sl (.int .i64)))],[.o],[],[.o]⟩
def Dm.l1 (K:Nat) (r15:(List Int) × (List Int)) (x1:Int):Nat→Int→Int→Int→(List Int)→Option Cm
 | 0,_,_,_,_=>none
 | k+1,t_10,t_11,h_13,h_12 =>
  if decide (t_11<t_10) then
   if (0:Int)≤t_11∧t_11<((r15.1.length:Nat):Int) then
   if (t_11 == 0) then
    (C0 K ((h_12,h_13):Cm) 2 (wr .i64 ((nth r15.1 t_11)+1))).bind fun r36 =>
    Dm.l1 K r15 x1 k t_10 (wr .i64 (t_11+1)) r36.n r36.data
   else
    (C0 K ((h_12,h_13):Cm) 2 (nth r15.1 t_11)).bind fun r36 =>
    Dm.l1 K r15 x1 k t_10 (wr .i64 (t_11+1)) r36.n r36.data
   else none
  else
   (C1 K ((h_12,h_13):Cm) x1 r15.2).bind fun r41 =>
   some r41
def Dm (K:Nat) (x0:Cm) (x1:Int) (x2:List Int) (x3:List Int):Option Cm :=
 (Cb K x2 x3).bind fun r15 =>
 (C0 K x0 2 (wr .i64 (((r15.1.length:Nat):Int)+1))).bind fun r22 =>
 Dm.l1 K r15 x1 K ((r15.1.length:Nat):Int) (0:Int) r22.n r22.data
abbrev Dc.sg:Sig:=⟨[(.agg,Bw),(.agg,Bw)],[],[(.agg,C3)],[]⟩
def Dc.l1 (K:Nat) (x0:Ab) (x1:Ab):Nat→Int→Int→ByteArray→Int→Int→(List Int)→Option Am
 | 0,_,_,_,_,_,_=>none
 | k+1,t_12,t_13,t_10,t_11,r_15,r_14 =>
  if decide (t_13<t_12) then
   if (0:Int)≤t_13∧t_13<((x1.Out.length:Nat):Int) then
   (Ed K x0 t_13).bind fun r29 =>
   (Dm K ((r_14,r_15):Cm) t_13 r29 (nth x1.Out t_13)).bind fun r31 =>
   Dc.l1 K x0 x1 k t_12 (wr .i64 (t_13+1)) t_10 t_11 r31.n r31.data
   else none
  else
   (Dk K ((r_14,r_15):Cm)).bind fun r35 =>
   some r35.1
def Dc (K:Nat) (x0:Ab) (x1:Ab):Option Am :=
 (C0 K ((([]:List Int),0):Cm) 2 (wr .i64 (x1.N+1))).bind fun r16 =>
 Dc.l1 K x0 x1 K ((x1.Out.length:Nat):Int) (0:Int) ByteArray.empty (0:Int) r16.n r16.data
abbrev Cg.sg:Sig:=⟨[(.one,(.sl Ap))],[],[(.one,(.sl Ap))],[.o]⟩
def Cg (K:Nat) (x0:List Aa):Option (List Aa) :=
 if (([]:List Aa).length+x0.length)*40≤140737488355328 then
 some (([]:List Aa)++x0)
 else none
abbrev Ci.sg:Sig:=⟨[(.one,(.sl Ap)),(.one,(.int .i64)),(.one,(.int .i64))],[],[(.one,(.sl Ap)),(.one,(.int .i64))],[.o]⟩
def Ci.l2 (K:Nat) (t_10:ByteArray) (t_11:Int) (t_12:Int) (x0:List Aa) (x1:Int) (x2:Int):Nat→Int→Int→Option ((List Aa) × Int)
 | 0,_,_=>none
 | k+1,t_13,t_14 =>
  if decide (t_14<t_13) then
   if (0:Int)≤t_14∧t_14<((x0.length:Nat):Int) then
   (Ea K x0 ((nth x0 t_14).ID) x1).bind fun r70 =>
   if decide ((wr .i64 (r70+t_12)) > 3) then
    (Ea K x0 ((nth x0 t_14).ID) x1).bind fun r79 =>
    if decide (r79≥0) then
     some (([]:List Aa),2)
    else
     Ci.l2 K t_10 t_11 t_12 x0 x1 x2 k t_13 (wr .i64 (t_14+1))
   else
    Ci.l2 K t_10 t_11 t_12 x0 x1 x2 k t_13 (wr .i64 (t_14+1))
   else none
  else
   (Cg K x0).bind fun r84 =>
   (Dz K r84 x1).bind fun r87 =>
   if (0:Int)≤r87∧r87<((r84.length:Nat):Int) then
   if (0:Int)≤r87∧r87<((((r84).set r87.toNat (((nth r84 r87).ID,x2,((nth r84 r87).Data)):Aa)).length:Nat):Int) then
   some (((r84).set r87.toNat (((nth r84 r87).ID,x2,((nth r84 r87).Data)):Aa)).set r87.toNat (((nth ((r84).set r87.toNat (((nth r84 r87).ID,x2,((nth r84 r87).Data)):Aa)) r87).ID,(nth ((r84).set r87.toNat (((nth r84 r87).ID,x2,((nth r84 r87).Data)):Aa)) r87).Base,((t_10,t_11):Am)):Aa),0)
   else none
   else none
def Ci.j1 (K:Nat) (x0:List Aa) (x1:Int) (x2:Int) (t_12:Int) (t_10:ByteArray) (t_11:Int):Option ((List Aa) × Int) :=
 Ci.l2 K t_10 t_11 t_12 x0 x1 x2 K ((x0.length:Nat):Int) (0:Int)
def Ci (K:Nat) (x0:List Aa) (x1:Int) (x2:Int):Option ((List Aa) × Int) :=
 (Cx K x0).bind fun r20 =>
 if (!r20) then
  some (([]:List Aa),1)
 else
  (Dt K x0 x1).bind fun r25 =>
  if (r25.2 != 0) then
   some (([]:List Aa),r25.2)
  else
   (Ee K r25.1).bind fun r32 =>
   if (x2 != 0) then
    (Dt K x0 x2).bind fun r38 =>
    if (r38.2 != 0) then
     some (([]:List Aa),r38.2)
    else
     (Ea K x0 x2 x1).bind fun r47 =>
     if decide (r47≥0) then
      some (([]:List Aa),2)
     else
      (D2 K x0 x2).bind fun r52 =>
      (Dc K r38.1 r25.1).bind fun r57 =>
      Ci.j1 K x0 x1 x2 (wr .i64 (r52.1+1)) r57.Data r57.N
   else
    Ci.j1 K x0 x1 x2 (1:Int) r32.Data r32.N
abbrev Al.sg:Sig:=⟨[(.one,(.sl (.int .u8))),(.one,(.int .i64)),(.one,(.int .i64))],[.n],[(.one,(.sl (.int .u8)))],[.o]⟩
def Al.j2 (K:Nat) (x2:Int) (t_11:Int):Option (List Int) :=
 (A0 K x2).bind fun r56 =>
 if t_11≠0 then
 (Ak K ([]:List Int) 0 (wr .i64 (r56.tdiv t_11))).bind fun r61 =>
 (Ak K r61 1 1).bind fun r62 =>
 if (0:Int)≤(wr .i64 ((wr .i64 (r56.tdiv t_11))*t_11)) then
 if (0:Int)≤(wr .i64 ((wr .i64 ((wr .i64 (r56.tdiv t_11))+1))*t_11)) then
 if (0:Int)≤(wr .i64 ((wr .i64 (r56.tdiv t_11))*t_11)) then
 (A0 K (wr .i64 ((wr .i64 ((wr .i64 ((1:Int)*2 ^ min ((wr .i64 ((wr .i64 ((wr .i64 (r56.tdiv t_11))+1))*t_11))).toNat 64))-(wr .i64 ((1:Int)*2 ^ min ((wr .i64 ((wr .i64 (r56.tdiv t_11))*t_11))).toNat 64))))-1))).bind fun r81 =>
 if (0:Int)≤(wr .i64 (r81+1)) then
 if decide ((wr .i64 (x2-(wr .i64 ((1:Int)*2 ^ min ((wr .i64 ((wr .i64 (r56.tdiv t_11))*t_11))).toNat 64))))<(wr .i64 ((wr .i64 ((1:Int)*2 ^ min ((wr .i64 (r81+1))).toNat 64))-(wr .i64 ((wr .i64 ((1:Int)*2 ^ min ((wr .i64 ((wr .i64 ((wr .i64 (r56.tdiv t_11))+1))*t_11))).toNat 64))-(wr .i64 ((1:Int)*2 ^ min ((wr .i64 ((wr .i64 (r56.tdiv t_11))*t_11))).toNat 64))))))) then
  (Ak K r62 (wr .i64 (x2-(wr .i64 ((1:Int)*2 ^ min ((wr .i64 ((wr .i64 (r56.tdiv t_11))*t_11))).toNat 64)))) (wr .i64 ((wr .i64 (r81+1))-1))).bind fun r93 =>
  some r93
 else
  if (0:Int)≤(wr .i64 (r81+1)) then
  (Ak K r62 (wr .i64 ((wr .i64 ((wr .i64 (x2-(wr .i64 ((1:Int)*2 ^ min ((wr .i64 ((wr .i64 (r56.tdiv t_11))*t_11))).toNat 64))))+(wr .i64 ((1:Int)*2 ^ min ((wr .i64 (r81+1))).toNat 64))))-(wr .i64 ((wr .i64 ((1:Int)*2 ^ min ((wr .i64 ((wr .i64 ((wr .i64 (r56.tdiv t_11))+1))*t_11))).toNat 64))-(wr .i64 ((1:Int)*2 ^ min ((wr .i64 ((wr .i64 (r56.tdiv t_11))*t_11))).toNat 64)))))) (wr .i64 (r81+1))).bind fun r102 =>
  some r102
  else none
 else none
 else none
 else none
 else none
 else none
def Al.l1 (K:Nat) (x2:Int):Nat→Int→(List Int)→Option (List Int)
 | 0,_,_=>none
 | k+1,t_10,t_12 =>
  if decide (t_10<x2) then
   if (t_12.length+([0]:List Int).length)*1≤140737488355328 then
   Al.l1 K x2 k (wr .i64 (t_10+1)) (t_12++([0]:List Int))
   else none
  else
   if (t_12.length+([1]:List Int).length)*1≤140737488355328 then
   some (t_12++([1]:List Int))
   else none
def Al (K:Nat) (x0:List Int) (x1:Int) (x2:Int):Option (List Int) :=
 if (x1 == 1) then
  Al.l1 K x2 K (1:Int) ([]:List Int)
 else
  if (x1 == 2) then
   (A0 K x2).bind fun r31 =>
   (Ak K ([]:List Int) 0 r31).bind fun r32 =>
   (A0 K x2).bind fun r35 =>
   (Ak K r32 x2 (wr .i64 (r35+1))).bind fun r37 =>
   some r37
  else
   if (x1 == 3) then
    (A0 K x2).bind fun r42 =>
    (Af K ([]:List Int) 2 (wr .i64 (r42+1))).bind fun r44 =>
    (A0 K x2).bind fun r47 =>
    if (0:Int)≤r47 then
    (A0 K x2).bind fun r51 =>
    (Ak K r44 (wr .i64 (x2-(wr .i64 ((1:Int)*2 ^ min (r47).toNat 64)))) r51).bind fun r52 =>
    some r52
    else none
   else
    if (x1 == 5) then
     Al.j2 K x2 (3:Int)
    else
     Al.j2 K x2 (2:Int)
abbrev Bx.sg:Sig:=⟨[(.agg,Bw)],[],[(.one,(.sl (.int .u8))),(.one,(.sl (.int .i64)))],[.o,.o]⟩
def Bx.l1 (K:Nat) (x0:Ab):Nat→Int→(List Int)→(List Int)→Option ((List Int) × (List Int))
 | 0,_,_,_=>none
 | k+1,v_10,b_11,at_12 =>
  if decide (v_10<x0.N) then
   if (at_12.length+([((b_11.length:Nat):Int)]:List Int).length)*8≤140737488355328 then
   if (0:Int)≤v_10∧v_10<((x0.Out.length:Nat):Int) then
   (Ax K b_11 v_10 (nth x0.Out v_10)).bind fun r29 =>
   Bx.l1 K x0 k (wr .i64 (v_10+1)) r29 (at_12++([((b_11.length:Nat):Int)]:List Int))
   else none
   else none
  else
   some (b_11,at_12)
def Bx (K:Nat) (x0:Ab):Option ((List Int) × (List Int)) :=
 (Al K ([]:List Int) 2 (wr .i64 (x0.N+1))).bind fun r10 =>
 Bx.l1 K x0 K (0:Int) r10 ([]:List Int)
abbrev A6.sg:Sig:=⟨[(.one,(.sl (.int .u8)))],[],[(.agg,C3)],[]⟩
def A6.l1 (K:Nat) (x0:List Int):Nat→Int→ByteArray→Int→(List Int)→Option Am
 | 0,_,_,_,_=>none
 | k+1,i_13,t_10,t_11,x_12 =>
  if decide (i_13<((x0.length:Nat):Int)) then
   if (8:Int)≠0 then
   if (8:Int)≠0 then
   if (0:Int)≤(wr .i64 (i_13.tdiv 8))∧(wr .i64 (i_13.tdiv 8))<((x_12.length:Nat):Int) then
   if (0:Int)≤i_13∧i_13<((x0.length:Nat):Int) then
   if (8:Int)≠0 then
   if (0:Int)≤(wr .i64 (7-(i_13.tmod 8))) then
   if (0:Int)≤(wr .i64 (i_13.tdiv 8))∧(wr .i64 (i_13.tdiv 8))<((x_12.length:Nat):Int) then
   A6.l1 K x0 k (wr .i64 (i_13+1)) t_10 t_11 ((x_12).set (wr .i64 (i_13.tdiv 8)).toNat (ib .or .u8 (nth x_12 (wr .i64 (i_13.tdiv 8))) (wr .u8 ((nth x0 i_13)*2 ^ min ((wr .i64 (7-(i_13.tmod 8)))).toNat 8))))
   else none
   else none
   else none
   else none
   else none
   else none
   else none
  else
   some ((bytesOf x_12,((x0.length:Nat):Int)):Am)
def A6 (K:Nat) (x0:List Int):Option Am :=
 if (8:Int)≠0 then
 if (wr .i64 ((wr .i64 (((x0.length:Nat):Int)+7)).tdiv 8))=(wr .i64 ((wr .i64 (((x0.length:Nat):Int)+7)).tdiv 8))∧(0:Int)≤(wr .i64 ((wr .i64 (((x0.length:Nat):Int)+7)).tdiv 8))∧(1:Int)*(wr .i64 ((wr .i64 (((x0.length:Nat):Int)+7)).tdiv 8))≤281474976710656∧(wr .i64 ((wr .i64 (((x0.length:Nat):Int)+7)).tdiv 8))≤9223372036854775807 then
 A6.l1 K x0 K (0:Int) ByteArray.empty (0:Int) (List.replicate (wr .i64 ((wr .i64 (((x0.length:Nat):Int)+7)).tdiv 8)).toNat (0:Int))
 else none
 else none
abbrev B6.sg:Sig:=⟨[(.one,(.sl (.int .u8))),(.one,(.int .i64)),(.one,(.sl (.int .i64))),(.one,(.sl (.int .i64)))],[.o],[(.one,(.sl (.int .u8)))],[.o]⟩
def B6.l1 (K:Nat) (r16:(List Int) × (List Int)) (x1:Int):Nat→Int→(List Int)→Option (List Int)
 | 0,_,_=>none
 | k+1,i_10,b_11 =>
  if decide (i_10<((r16.1.length:Nat):Int)) then
   if (0:Int)≤i_10∧i_10<((r16.1.length:Nat):Int) then
   if (i_10 == 0) then
    (Af K b_11 2 (wr .i64 ((nth r16.1 i_10)+1))).bind fun r40 =>
    B6.l1 K r16 x1 k (wr .i64 (i_10+1)) r40
   else
    (Af K b_11 2 (nth r16.1 i_10)).bind fun r40 =>
    B6.l1 K r16 x1 k (wr .i64 (i_10+1)) r40
   else none
  else
   (Ax K b_11 x1 r16.2).bind fun r44 =>
   some r44
def B6 (K:Nat) (x0:List Int) (x1:Int) (x2:List Int) (x3:List Int):Option (List Int) :=
 (Au K x2 x3).bind fun r16 =>
 (Af K x0 2 (wr .i64 (((r16.1.length:Nat):Int)+1))).bind fun r23 =>
 B6.l1 K r16 x1 K (0:Int) r23
abbrev Bz.sg:Sig:=⟨[(.agg,Bw),(.agg,Bw)],[],[(.one,(.sl (.int .u8)))],[.o]⟩
def Bz.l1 (K:Nat) (x0:Ab) (x1:Ab):Nat→Int→(List Int)→Option (List Int)
 | 0,_,_=>none
 | k+1,v_10,b_11 =>
  if decide (v_10<x1.N) then
   (Df K x0 v_10).bind fun r21 =>
   if (0:Int)≤v_10∧v_10<((x1.Out.length:Nat):Int) then
   (B6 K b_11 v_10 r21 (nth x1.Out v_10)).bind fun r27 =>
   Bz.l1 K x0 x1 k (wr .i64 (v_10+1)) r27
   else none
  else
   some b_11
def Bz (K:Nat) (x0:Ab) (x1:Ab):Option (List Int) :=
 (Al K ([]:List Int) 2 (wr .i64 (x1.N+1))).bind fun r10 =>
 Bz.l1 K x0 x1 K (0:Int) r10
abbrev Dx.sg:Sig:=⟨[(.one,(.sl Ap)),(.one,(.int .i64)),(.agg,Bw)],[],[(.agg,C3)],[]⟩
def Dx (K:Nat) (x0:List Aa) (x1:Int) (x2:Ab):Option Am :=
 if (x1 == 0) then
  (Bx K x2).bind fun r15 =>
  (A6 K r15.1).bind fun r19 =>
  some r19
 else
  (Ar K x0 x1).bind fun r23 =>
  (Bz K r23.1 x2).bind fun r28 =>
  (A6 K r28).bind fun r29 =>
  some r29
abbrev Aq.sg:Sig:=⟨[(.one,(.sl Ap)),(.one,(.int .i64)),(.one,(.int .i64))],[],[(.one,(.sl Ap)),(.one,(.int .i64))],[.o]⟩
def Aq.l3 (K:Nat) (go_l2:Int→(List Aa)→Option ((List Aa) × Int)) (r21:Ab × Int) (t_10:List Aa) (t_11:Int) (x0:List Aa) (x1:Int) (x2:Int):Nat→Int→Int→Option ((List Aa) × Int)
 | 0,_,_=>none
 | k+1,t_12,t_13 =>
  if (t_12 != 0) then
   if (t_12 != x1) then
    if decide (t_13≤((t_10.length:Nat):Int)) then
     (Bo K t_10 t_12).bind fun r76 =>
     if (0:Int)≤r76∧r76<((t_10.length:Nat):Int) then
     Aq.l3 K go_l2 r21 t_10 t_11 x0 x1 x2 k ((nth t_10 r76).Base) (wr .i64 (t_13+1))
     else none
    else
     if (t_12 != x1) then
      go_l2 (wr .i64 (t_11+1)) t_10
     else
      if (0:Int)≤t_11∧t_11<((t_10.length:Nat):Int) then
      (Bg K t_10 ((nth t_10 t_11).ID)).bind fun r90 =>
      if (r90.2 != 0) then
       some (([]:List Aa),2)
      else
       go_l2 (wr .i64 (t_11+1)) t_10
      else none
   else
    if (t_12 != x1) then
     go_l2 (wr .i64 (t_11+1)) t_10
    else
     if (0:Int)≤t_11∧t_11<((t_10.length:Nat):Int) then
     (Bg K t_10 ((nth t_10 t_11).ID)).bind fun r90 =>
     if (r90.2 != 0) then
      some (([]:List Aa),2)
     else
      go_l2 (wr .i64 (t_11+1)) t_10
     else none
  else
   if (t_12 != x1) then
    go_l2 (wr .i64 (t_11+1)) t_10
   else
    if (0:Int)≤t_11∧t_11<((t_10.length:Nat):Int) then
    (Bg K t_10 ((nth t_10 t_11).ID)).bind fun r90 =>
    if (r90.2 != 0) then
     some (([]:List Aa),2)
    else
     go_l2 (wr .i64 (t_11+1)) t_10
    else none
def Aq.l2 (K:Nat) (r21:Ab × Int) (x0:List Aa) (x1:Int) (x2:Int):Nat→Int→(List Aa)→Option ((List Aa) × Int)
 | 0,_,_=>none
 | k+1,t_11,t_10 =>
  if decide (t_11<((t_10.length:Nat):Int)) then
   if (0:Int)≤t_11∧t_11<((t_10.length:Nat):Int) then
   Aq.l3 K (Aq.l2 K r21 x0 x1 x2 k) r21 t_10 t_11 x0 x1 x2 K ((nth t_10 t_11).ID) (0:Int)
   else none
  else
   (Bo K t_10 x1).bind fun r98 =>
   (Dx K x0 x2 r21.1).bind fun r102 =>
   if (0:Int)≤r98∧r98<((t_10.length:Nat):Int) then
   some ((t_10).set r98.toNat (((nth t_10 r98).ID,(nth t_10 r98).Base,r102):Aa),0)
   else none
def Aq.j1 (K:Nat) (r21:Ab × Int) (x0:List Aa) (x1:Int) (x2:Int):Option ((List Aa) × Int) :=
 (Ay K x0).bind fun r39 =>
 (Bo K r39 x1).bind fun r43 =>
 if (0:Int)≤r43∧r43<((r39.length:Nat):Int) then
 Aq.l2 K r21 x0 x1 x2 K (0:Int) ((r39).set r43.toNat (((nth r39 r43).ID,x2,((nth r39 r43).Data)):Aa))
 else none
def Aq (K:Nat) (x0:List Aa) (x1:Int) (x2:Int):Option ((List Aa) × Int) :=
 (Ar K x0 x1).bind fun r21 =>
 if (r21.2 != 0) then
  some (([]:List Aa),r21.2)
 else
  if (x2 != 0) then
   (Ar K x0 x2).bind fun r32 =>
   if (r32.2 != 0) then
    some (([]:List Aa),r32.2)
   else
    Aq.j1 K r21 x0 x1 x2
  else
   Aq.j1 K r21 x0 x1 x2
abbrev Bh.sg:Sig:=⟨[(.one,(.sl Ap)),(.one,(.sl Ap))],[],[(.one,.bool)],[]⟩
def Bh.l1 (K:Nat) (x0:List Aa) (x1:List Aa):Nat→Int→Option Bool
 | 0,_=>none
 | k+1,i_10 =>
  if decide (i_10<((x0.length:Nat):Int)) then
   if (0:Int)≤i_10∧i_10<((x0.length:Nat):Int) then
   if (0:Int)≤i_10∧i_10<((x1.length:Nat):Int) then
   if (!((((nth x0 i_10).ID) == ((nth x1 i_10).ID)) && ((((nth x0 i_10).Base) == ((nth x1 i_10).Base)) && ((((((nth x0 i_10).Data).Data) == (((nth x1 i_10).Data).Data)) && (((((nth x0 i_10).Data).N) == (((nth x1 i_10).Data).N)) && true)) && true)))) then
    some false
   else
    Bh.l1 K x0 x1 k (wr .i64 (i_10+1))
   else none
   else none
  else
   some true
def Bh (K:Nat) (x0:List Aa) (x1:List Aa):Option Bool :=
 if (((x0.length:Nat):Int) != ((x1.length:Nat):Int)) then
  some false
 else
  Bh.l1 K x0 x1 K (0:Int)
abbrev B4.sg:Sig:=⟨[(.one,(.sl Ap))],[.o],[],[]⟩
def B4.l1 (K:Nat):Nat→Int→(List Aa)→Option Unit
 | 0,_,_=>none
 | k+1,i_10,l_11 =>
  if decide (i_10<((l_11.length:Nat):Int)) then
   if (0:Int)≤i_10∧i_10<((l_11.length:Nat):Int) then
   B4.l1 K k (wr .i64 (i_10+1)) ((l_11).set i_10.toNat (((-9),0,((ByteArray.empty,0):Am)):Aa))
   else none
  else
   some ()
def B4 (K:Nat) (x0:List Aa):Option Unit :=
 B4.l1 K K (0:Int) x0
abbrev Du.sg:Sig:=⟨[(.one,(.sl Ap)),(.one,(.int .i64)),(.agg,Bw)],[],[(.agg,Ap),(.one,(.int .i64))],[]⟩
def Du.j1 (K:Nat) (r24:Am) (x0:List Aa) (x1:Int) (x2:Ab) (t_10:Int) (t_11:Int) (t_12:ByteArray) (t_13:Int) (t_14:Int) (t_15:Int):Option (Aa × Int) :=
 if decide (((x0.length:Nat):Int)≥12) then
  some (((0,0,((ByteArray.empty,0):Am)):Aa),2)
 else
  if decide (t_14 > 1048576) then
   some (((0,0,((ByteArray.empty,0):Am)):Aa),2)
  else
   if (x1 == 0) then
    some (((t_14,t_15,r24):Aa),0)
   else
    (Dt K x0 x1).bind fun r53 =>
    if (r53.2 != 0) then
     some (((0,0,((ByteArray.empty,0):Am)):Aa),r53.2)
    else
     (D2 K x0 x1).bind fun r63 =>
     (Dc K r53.1 x2).bind fun r68 =>
     if decide (r63.1<3) then
      if decide (r68.N<r24.N) then
       some (((t_14,x1,r68):Aa),0)
      else
       some (((t_14,t_15,r24):Aa),0)
     else
      some (((t_14,t_15,r24):Aa),0)
def Du (K:Nat) (x0:List Aa) (x1:Int) (x2:Ab):Option (Aa × Int) :=
 (Cx K x0).bind fun r15 =>
 if (!r15) then
  some (((0,0,((ByteArray.empty,0):Am)):Aa),1)
 else
  (De K x2).bind fun r19 =>
  if (!r19) then
   some (((0,0,((ByteArray.empty,0):Am)):Aa),1)
  else
   (Ee K x2).bind fun r24 =>
   if decide (((x0.length:Nat):Int) > 0) then
    if (0:Int)≤(wr .i64 (((x0.length:Nat):Int)-1))∧(wr .i64 (((x0.length:Nat):Int)-1))<((x0.length:Nat):Int) then
    Du.j1 K r24 x0 x1 x2 (0:Int) (0:Int) ByteArray.empty (0:Int) (wr .i64 (((nth x0 (wr .i64 (((x0.length:Nat):Int)-1))).ID)+1)) (0:Int)
    else none
   else
    Du.j1 K r24 x0 x1 x2 (0:Int) (0:Int) ByteArray.empty (0:Int) (1:Int) (0:Int)
abbrev Da.sg:Sig:=⟨[],[],[(.one,.bool)],[]⟩
def Da (K:Nat):Option Bool :=
 (Du K ([]:List Aa) 0 ((0,([]:List (List Int))):Ab)).bind fun r7 =>
 (D4 K ([r7.1]:List Aa) 1).bind fun r13 =>
 (C5 K r7.2).bind fun r17 =>
 if (r17 == 0) then
  (C5 K r13.2).bind fun r21 =>
  if (r21 == 0) then
   if (r7.1.ID == 1) then
    if (r7.1.Base == 0) then
     if (r13.1.N == 0) then
      some (r7.1.Data.N == 1)
     else
      some false
    else
     some false
   else
    some false
  else
   some false
 else
  some false
abbrev Ac.sg:Sig:=⟨[(.agg,Eu)],[],[(.one,.bool)],[]⟩
def Ac.j5 (K:Nat) (go_l1:Int→Option Bool) (go_l2:Int→Option Bool) (go_l4:Int→Option Bool) (r145:(List Aa) × Int) (r39:List Aa) (r45:Bool) (r54:List Int) (t_10:Int) (t_11:Int) (t_17:Int) (x0:Cv) (t_18:Int) (t_19:List Aa):Option Bool :=
 (C5 K r145.2).bind fun r167 =>
 if (r167 != t_18) then
  some false
 else
  (Bh K r145.1 t_19).bind fun r173 =>
  if (!r173) then
   some false
  else
   if (0:Int)≤t_10∧t_10<((x0.L.length:Nat):Int) then
   (Bh K r39 (nth x0.L t_10)).bind fun r183 =>
   if (!r183) then
    some false
   else
    (B4 K r145.1).bind fun r187 =>
    if (0:Int)≤t_10∧t_10<((x0.L.length:Nat):Int) then
    (Bh K r39 (nth x0.L t_10)).bind fun r194 =>
    if (!r194) then
     some false
    else
     go_l4 (wr .i64 (t_17+1))
    else none
   else none
def Ac.l4 (K:Nat) (go_l1:Int→Option Bool) (go_l2:Int→Option Bool) (r39:List Aa) (r45:Bool) (r54:List Int) (t_10:Int) (t_11:Int) (x0:Cv):Nat→Int→Option Bool
 | 0,_=>none
 | k+1,t_17 =>
  if decide (t_17<((r54.length:Nat):Int)) then
   if (0:Int)≤t_11∧t_11<((r54.length:Nat):Int) then
   if (0:Int)≤t_17∧t_17<((r54.length:Nat):Int) then
   (Ci K r39 (nth r54 t_11) (nth r54 t_17)).bind fun r145 =>
   if r45 then
    if (0:Int)≤t_10∧t_10<((x0.L.length:Nat):Int) then
    if (0:Int)≤t_11∧t_11<((r54.length:Nat):Int) then
    if (0:Int)≤t_17∧t_17<((r54.length:Nat):Int) then
    (Aq K (nth x0.L t_10) (nth r54 t_11) (nth r54 t_17)).bind fun r163 =>
    Ac.j5 K go_l1 go_l2 (Ac.l4 K go_l1 go_l2 r39 r45 r54 t_10 t_11 x0 k) r145 r39 r45 r54 t_10 t_11 t_17 x0 r163.2 r163.1
    else none
    else none
    else none
   else
    Ac.j5 K go_l1 go_l2 (Ac.l4 K go_l1 go_l2 r39 r45 r54 t_10 t_11 x0 k) r145 r39 r45 r54 t_10 t_11 t_17 x0 (1:Int) ([]:List Aa)
   else none
   else none
  else
   go_l2 (wr .i64 (t_11+1))
def Ac.j3 (K:Nat) (go_l1:Int→Option Bool) (go_l2:Int→Option Bool) (r39:List Aa) (r45:Bool) (r54:List Int) (r67:Int × Int) (r76:Ab × Int) (t_10:Int) (t_11:Int) (x0:Cv) (t_12:Int) (t_13:Int) (t_14:Int) (t_15:Int) (t_16:List (List Int)):Option Bool :=
 (C5 K r67.2).bind fun r107 =>
 if (r107 != t_12) then
  some false
 else
  if (r67.1 != t_14) then
   some false
  else
   (C5 K r76.2).bind fun r117 =>
   if (r117 != t_13) then
    some false
   else
    (Dd K r76.1 ((t_15,t_16):Ab)).bind fun r124 =>
    if (!r124) then
     some false
    else
     (Ca K r76.1).bind fun r128 =>
     Ac.l4 K go_l1 go_l2 r39 r45 r54 t_10 t_11 x0 K (0:Int)
def Ac.l2 (K:Nat) (go_l1:Int→Option Bool) (r39:List Aa) (r45:Bool) (r54:List Int) (t_10:Int) (x0:Cv):Nat→Int→Option Bool
 | 0,_=>none
 | k+1,t_11 =>
  if decide (t_11<((r54.length:Nat):Int)) then
   if (0:Int)≤t_11∧t_11<((r54.length:Nat):Int) then
   (Eg K r39 (nth r54 t_11)).bind fun r67 =>
   if (0:Int)≤t_11∧t_11<((r54.length:Nat):Int) then
   (D4 K r39 (nth r54 t_11)).bind fun r76 =>
   if r45 then
    if (0:Int)≤t_10∧t_10<((x0.L.length:Nat):Int) then
    if (0:Int)≤t_11∧t_11<((r54.length:Nat):Int) then
    (Bg K (nth x0.L t_10) (nth r54 t_11)).bind fun r90 =>
    if (0:Int)≤t_10∧t_10<((x0.L.length:Nat):Int) then
    if (0:Int)≤t_11∧t_11<((r54.length:Nat):Int) then
    (Ar K (nth x0.L t_10) (nth r54 t_11)).bind fun r103 =>
    Ac.j3 K go_l1 (Ac.l2 K go_l1 r39 r45 r54 t_10 x0 k) r39 r45 r54 r67 r76 t_10 t_11 x0 r90.2 r103.2 r90.1 r103.1.N r103.1.Out
    else none
    else none
    else none
    else none
   else
    Ac.j3 K go_l1 (Ac.l2 K go_l1 r39 r45 r54 t_10 x0 k) r39 r45 r54 r67 r76 t_10 t_11 x0 (1:Int) (1:Int) (0:Int) (0:Int) ([]:List (List Int))
   else none
   else none
  else
   go_l1 (wr .i64 (t_10+1))
def Ac.l1 (K:Nat) (x0:Cv):Nat→Int→Option Bool
 | 0,_=>none
 | k+1,t_10 =>
  if decide (t_10<((x0.L.length:Nat):Int)) then
   if decide (t_10<4) then
    if (0:Int)≤t_10∧t_10<((x0.L.length:Nat):Int) then
    (Ay K (nth x0.L t_10)).bind fun r39 =>
    if (0:Int)≤t_10∧t_10<((x0.L.length:Nat):Int) then
    (Bb K (nth x0.L t_10)).bind fun r45 =>
    (En K r39).bind fun r47 =>
    (C5 K r47).bind fun r48 =>
    if (!((r48 == 0) == r45)) then
     some false
    else
     (Bf K x0 r39).bind fun r54 =>
     Ac.l2 K (Ac.l1 K x0 k) r39 r45 r54 t_10 x0 K (0:Int)
    else none
    else none
   else
    (Da K).bind fun r196 =>
    some r196
  else
   (Da K).bind fun r196 =>
   some r196
def Ac (K:Nat) (x0:Cv):Option Bool :=
 (Bp K x0).bind fun r22 =>
 if r22 then
  some true
 else
  Ac.l1 K x0 K (0:Int)
end Go.XM
end
