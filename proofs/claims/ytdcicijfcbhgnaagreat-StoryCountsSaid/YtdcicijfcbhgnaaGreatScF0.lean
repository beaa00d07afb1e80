import Derived.Test.YtdcicijfcbhgnaaGreatScH0
set_option linter.all false
section
namespace Go.XM
set_option maxRecDepth 100000
abbrev Av:Type:=ByteArray × Int
abbrev C8:Ty:=(.pr .str (.int .i64))
abbrev Av.Data (x:Av):ByteArray:=x.1
abbrev Av.N (x:Av):Int:=x.2
abbrev Ae:Type:=Int × Int × Av
abbrev Bb:Ty:=(.pr (.int .i64) (.pr (.int .i64) C8))
abbrev Ae.ID (x:Ae):Int:=x.1
abbrev Ae.Base (x:Ae):Int:=x.2.1
abbrev Ae.Data (x:Ae):Av:=x.2.2
abbrev A0.sg:Sig:=⟨[(.one,(.sl Bb))],[],[(.one,(.int .i64))],[]⟩
def A0.l1 (K:Nat) (x0:List Ae):Nat→Int→Int→Option Int
 | 0,_,_=>none
 | k+1,n_10,i_11 =>
  if decide (i_11<((x0.length:Nat):Int)) then
   if decide (n_10<1048576) then
    if (0:Int)≤i_11∧i_11<((x0.length:Nat):Int) then
    if (4:Int)≠0 then
    A0.l1 K x0 k (wr .i64 (n_10+(wr .i64 ((((((nth x0 i_11).Data).Data).size:Nat):Int).tdiv 4)))) (wr .i64 (i_11+1))
    else none
    else none
   else
    some n_10
  else
   some n_10
def A0 (K:Nat) (x0:List Ae):Option Int :=
 A0.l1 K x0 K ((x0.length:Nat):Int) (0:Int)
abbrev Bu.sg:Sig:=⟨[(.one,(.sl (.sl (.int .i64))))],[],[(.one,(.int .i64))],[]⟩
def Bu.l1 (K:Nat) (x0:List (List Int)):Nat→Int→Int→Option Int
 | 0,_,_=>none
 | k+1,n_10,i_11 =>
  if decide (i_11<((x0.length:Nat):Int)) then
   if decide (n_10<1048576) then
    if (0:Int)≤i_11∧i_11<((x0.length:Nat):Int) then
    Bu.l1 K x0 k (wr .i64 (n_10+(((nth x0 i_11).length:Nat):Int))) (wr .i64 (i_11+1))
    else none
   else
    some n_10
  else
   some n_10
def Bu (K:Nat) (x0:List (List Int)):Option Int :=
 Bu.l1 K x0 K ((x0.length:Nat):Int) (0:Int)
abbrev Aa:Type:=Int × (List (List Int))
abbrev Ba:Ty:=(.pr (.int .i64) (.sl (.sl (.int .i64))))
abbrev Aa.N (x:Aa):Int:=x.1
abbrev Aa.Out (x:Aa):List (List Int):=x.2
abbrev A6.sg:Sig:=⟨[(.one,(.sl Ba))],[],[(.one,(.int .i64))],[]⟩
def A6.l1 (K:Nat) (x0:List Aa):Nat→Int→Int→Option Int
 | 0,_,_=>none
 | k+1,n_10,i_11 =>
  if decide (i_11<((x0.length:Nat):Int)) then
   if decide (n_10<1048576) then
    if (0:Int)≤i_11∧i_11<((x0.length:Nat):Int) then
    (Bu K ((nth x0 i_11).Out)).bind fun r23 =>
    A6.l1 K x0 k (wr .i64 (n_10+r23)) (wr .i64 (i_11+1))
    else none
   else
    some n_10
  else
   some n_10
def A6 (K:Nat) (x0:List Aa):Option Int :=
 A6.l1 K x0 K ((x0.length:Nat):Int) (0:Int)
abbrev Dz:Type:=Int × Int × Int
abbrev Dw:Ty:=(.pr (.int .i64) (.pr (.int .i64) (.int .i64)))
abbrev Dz.Do (x:Dz):Int:=x.1
abbrev Dz.A (x:Dz):Int:=x.2.1
abbrev Dz.B (x:Dz):Int:=x.2.2
abbrev Cc:Type:=(List Aa) × (List Dz)
abbrev Ed:Ty:=(.pr (.sl Ba) (.sl Dw))
abbrev Cc.G (x:Cc):List Aa:=x.1
abbrev Cc.A (x:Cc):List Dz:=x.2
abbrev C3.sg:Sig:=⟨[(.agg,Ed)],[],[(.one,.bool)],[]⟩
def C3 (K:Nat) (x0:Cc):Option Bool :=
 (A6 K x0.G).bind fun r5 =>
 some (decide ((wr .i64 (r5+((x0.A.length:Nat):Int))) > 1200))
abbrev Cq:Type:=(List (List Ae)) × Cc × (List Int)
abbrev Ee:Ty:=(.pr (.sl (.sl Bb)) (.pr Ed (.sl (.int .i64))))
abbrev Cq.L (x:Cq):List (List Ae):=x.1
abbrev Cq.G (x:Cq):Cc:=x.2.1
abbrev Cq.N (x:Cq):List Int:=x.2.2
abbrev Bj.sg:Sig:=⟨[(.agg,Ee)],[],[(.one,.bool)],[]⟩
def Bj.l1 (K:Nat) (x0:Cq):Nat→Int→Int→Option Bool
 | 0,_,_=>none
 | k+1,n_10,i_11 =>
  if decide (i_11<((x0.L.length:Nat):Int)) then
   if decide (n_10<1048576) then
    if (0:Int)≤i_11∧i_11<((x0.L.length:Nat):Int) then
    (A0 K (nth x0.L i_11)).bind fun r29 =>
    Bj.l1 K x0 k (wr .i64 (n_10+r29)) (wr .i64 (i_11+1))
    else none
   else
    if decide (n_10 > 700) then
     some true
    else
     (C3 K x0.G).bind fun r36 =>
     some r36
  else
   if decide (n_10 > 700) then
    some true
   else
    (C3 K x0.G).bind fun r36 =>
    some r36
def Bj (K:Nat) (x0:Cq):Option Bool :=
 Bj.l1 K x0 K (wr .i64 (((x0.N.length:Nat):Int)+((x0.L.length:Nat):Int))) (0:Int)
abbrev Dq.sg:Sig:=⟨[(.agg,C8)],[],[(.one,.bool)],[]⟩
def Dq (K:Nat) (x0:Av):Option Bool :=
 if decide (x0.N<0) then
  some false
 else
  if decide (x0.N > 6000) then
   some false
  else
   if (8:Int)≠0 then
   if (((x0.Data.size:Nat):Int) != (wr .i64 ((wr .i64 ((wr .i64 (x0.N+8))-1)).tdiv 8))) then
    some false
   else
    if (8:Int)≠0 then
    if ((x0.N.tmod 8) == 0) then
     some true
    else
     if (0:Int)≤(wr .i64 (((x0.Data.size:Nat):Int)-1))∧(wr .i64 (((x0.Data.size:Nat):Int)-1))<((x0.Data.size:Nat):Int) then
     if (0:Int)≤(x0.N.tmod 8) then
     some ((ib .and .u8 (bt x0.Data (wr .i64 (((x0.Data.size:Nat):Int)-1))) ((255:Int).fdiv (2 ^ min ((x0.N.tmod 8)).toNat 8))) == 0)
     else none
     else none
    else none
   else none
abbrev D1.sg:Sig:=⟨[(.agg,Bb),(.box,(.int .i64))],[],[(.one,.bool)],[]⟩
def D1 (K:Nat) (x0:Ae) (x1:Int):Option (Bool × Int) :=
 some ((x0.ID == x1),x1)
abbrev Ag.sg:Sig:=⟨[(.one,(.sl Bb)),(.fn 166 1,.un),(.hid,(.int .i64))],[],[(.one,(.int .i64))],[]⟩
def Ag.l1 (K:Nat) (x0:List Ae):Nat→Int→Int→Int→Option (Int × Int)
 | 0,_,_,_=>none
 | k+1,t_10,t_11,h_12 =>
  if decide (t_11<t_10) then
   if (0:Int)≤t_11∧t_11<((x0.length:Nat):Int) then
   (D1 K (nth x0 t_11) h_12).bind fun r16 =>
   if r16.1 then
    some (t_11,r16.2)
   else
    Ag.l1 K x0 k t_10 (wr .i64 (t_11+1)) r16.2
   else none
  else
   some ((-1),h_12)
def Ag (K:Nat) (x0:List Ae) (x2:Int):Option (Int × Int) :=
 Ag.l1 K x0 K ((x0.length:Nat):Int) (0:Int) x2
abbrev Dm.sg:Sig:=⟨[(.one,(.sl Bb)),(.one,(.int .i64))],[],[(.one,(.int .i64))],[]⟩
def Dm (K:Nat) (x0:List Ae) (x1:Int):Option Int :=
 (Ag K x0 x1).bind fun r7 =>
 some r7.1
abbrev C6.sg:Sig:=⟨[(.one,(.sl Bb))],[],[(.one,.bool)],[]⟩
def C6.l1 (K:Nat) (x0:List Ae):Nat→Int→Int→Option Bool
 | 0,_,_=>none
 | k+1,t_10,t_11 =>
  if decide (t_11<t_10) then
   if (0:Int)≤t_11∧t_11<((x0.length:Nat):Int) then
   if decide (((nth x0 t_11).ID)<1) then
    some false
   else
    if decide (((nth x0 t_11).ID) > 1048576) then
     some false
    else
     if decide (t_11 > 0) then
      if (0:Int)≤(wr .i64 (t_11-1))∧(wr .i64 (t_11-1))<((x0.length:Nat):Int) then
      if decide (((nth x0 t_11).ID)≤((nth x0 (wr .i64 (t_11-1))).ID)) then
       some false
      else
       (Dq K ((nth x0 t_11).Data)).bind fun r41 =>
       if (!r41) then
        some false
       else
        if (((nth x0 t_11).Base) == ((nth x0 t_11).ID)) then
         some false
        else
         if (((nth x0 t_11).Base) != 0) then
          (Dm K x0 ((nth x0 t_11).Base)).bind fun r57 =>
          if decide (r57<0) then
           some false
          else
           C6.l1 K x0 k t_10 (wr .i64 (t_11+1))
         else
          C6.l1 K x0 k t_10 (wr .i64 (t_11+1))
      else none
     else
      (Dq K ((nth x0 t_11).Data)).bind fun r41 =>
      if (!r41) then
       some false
      else
       if (((nth x0 t_11).Base) == ((nth x0 t_11).ID)) then
        some false
       else
        if (((nth x0 t_11).Base) != 0) then
         (Dm K x0 ((nth x0 t_11).Base)).bind fun r57 =>
         if decide (r57<0) then
          some false
         else
          C6.l1 K x0 k t_10 (wr .i64 (t_11+1))
        else
         C6.l1 K x0 k t_10 (wr .i64 (t_11+1))
   else none
  else
   some true
def C6 (K:Nat) (x0:List Ae):Option Bool :=
 if decide (((x0.length:Nat):Int) > 12) then
  some false
 else
  C6.l1 K x0 K ((x0.length:Nat):Int) (0:Int)
abbrev Dc.sg:Sig:=⟨[(.one,(.sl Bb)),(.one,(.int .i64)),(.one,(.int .i64))],[],[(.one,(.sl Bb))],[.o]⟩
def Dc.l1 (K:Nat) (x0:List Ae) (x2:Int):Nat→Int→(List Ae)→Option (List Ae)
 | 0,_,_=>none
 | k+1,id_10,w_11 =>
  if (id_10 != 0) then
   if decide (((w_11.length:Nat):Int)<x2) then
    (Dm K x0 id_10).bind fun r19 =>
    if (0:Int)≤r19∧r19<((x0.length:Nat):Int) then
    if (w_11.length+([(nth x0 r19)]:List Ae).length)*40≤140737488355328 then
    Dc.l1 K x0 x2 k ((nth x0 r19).Base) (w_11++([(nth x0 r19)]:List Ae))
    else none
    else none
   else
    some w_11
  else
   some w_11
def Dc (K:Nat) (x0:List Ae) (x1:Int) (x2:Int):Option (List Ae) :=
 Dc.l1 K x0 x2 K x1 ([]:List Ae)
abbrev D8.sg:Sig:=⟨[(.one,(.sl Bb)),(.one,(.int .i64))],[],[(.one,(.int .i64)),(.one,(.int .i64))],[]⟩
def D8 (K:Nat) (x0:List Ae) (x1:Int):Option (Int × Int) :=
 (Dm K x0 x1).bind fun r9 =>
 if decide (r9<0) then
  some (0,3)
 else
  (Dc K x0 x1 4).bind fun r13 =>
  if decide (((r13.length:Nat):Int) > 3) then
   some (0,2)
  else
   some (((r13.length:Nat):Int),0)
abbrev D2.sg:Sig:=⟨[(.agg,C8),(.one,(.int .i64))],[],[(.one,(.int .i64))],[]⟩
def D2 (K:Nat) (x0:Av) (x1:Int):Option Int :=
 if (8:Int)≠0 then
 if (0:Int)≤(wr .i64 (x1.tdiv 8))∧(wr .i64 (x1.tdiv 8))<((x0.Data.size:Nat):Int) then
 if (8:Int)≠0 then
 if (0:Int)≤(wr .i64 (7-(x1.tmod 8))) then
 some (ib .and .i64 (wr .i64 ((bt x0.Data (wr .i64 (x1.tdiv 8))).fdiv (2 ^ min ((wr .i64 (7-(x1.tmod 8)))).toNat 8))) 1)
 else none
 else none
 else none
 else none
abbrev C4.sg:Sig:=⟨[(.agg,C8),(.one,(.int .i64))],[],[(.one,(.int .i64))],[]⟩
def C4.l1 (K:Nat) (x0:Av) (x1:Int):Nat→Int→Option Int
 | 0,_=>none
 | k+1,i_10 =>
  if decide (i_10<x0.N) then
   (D2 K x0 i_10).bind fun r15 =>
   if (r15 == 1) then
    some (wr .i64 (i_10-x1))
   else
    C4.l1 K x0 x1 k (wr .i64 (i_10+1))
  else
   some ((-1):Int)
def C4 (K:Nat) (x0:Av) (x1:Int):Option Int :=
 C4.l1 K x0 x1 K x1
abbrev Bw:Type:=Av × Int × Bool
abbrev Eb:Ty:=(.pr C8 (.pr (.int .i64) .bool))
abbrev Bw.b (x:Bw):Av:=x.1
abbrev Bw.at_ (x:Bw):Int:=x.2.1
abbrev Bw.bad (x:Bw):Bool:=x.2.2
abbrev Cy.sg:Sig:=⟨[(.box,Eb),(.one,(.int .i64))],[],[(.one,(.int .i64))],[]⟩
def Cy (K:Nat) (x0:Bw) (x1:Int):Option (Int × Bw) :=
 (C4 K x0.b x0.at_).bind fun r14 =>
 if x0.bad then
  some (0,((x0.b,x0.at_,true):Bw))
 else
  if decide (r14<0) then
   some (0,((x0.b,x0.at_,true):Bw))
  else
   if decide (r14 > x1) then
    some (0,((x0.b,x0.at_,true):Bw))
   else
    some (r14,((x0.b,wr .i64 (x0.at_+r14),x0.bad):Bw))
abbrev C9.sg:Sig:=⟨[(.agg,C8),(.one,(.int .i64)),(.one,(.int .i64))],[],[(.one,(.int .i64)),(.one,.bool)],[]⟩
def C9.l1 (K:Nat) (x0:Av) (x1:Int) (x2:Int):Nat→Int→Int→Option (Int × Bool)
 | 0,_,_=>none
 | k+1,v_10,t_11 =>
  if decide (t_11<x2) then
   if (0:Int)≤1 then
   (D2 K x0 (wr .i64 (x1+t_11))).bind fun r32 =>
   C9.l1 K x0 x1 x2 k (ib .or .i64 (wr .i64 (v_10*2 ^ min ((1:Int)).toNat 64)) r32) (wr .i64 (t_11+1))
   else none
  else
   some (v_10,true)
def C9 (K:Nat) (x0:Av) (x1:Int) (x2:Int):Option (Int × Bool) :=
 if decide (x1 > x0.N) then
  some (0,false)
 else
  if decide (x2 > (wr .i64 (x0.N-x1))) then
   some (0,false)
  else
   C9.l1 K x0 x1 x2 K (0:Int) (0:Int)
abbrev Ce.sg:Sig:=⟨[(.box,Eb),(.one,(.int .i64))],[],[(.one,(.int .i64))],[]⟩
def Ce (K:Nat) (x0:Bw) (x1:Int):Option (Int × Bw) :=
 (C9 K x0.b x0.at_ x1).bind fun r17 =>
 if x0.bad then
  some (0,((x0.b,x0.at_,true):Bw))
 else
  if (!r17.2) then
   some (0,((x0.b,x0.at_,true):Bw))
  else
   some (r17.1,((x0.b,wr .i64 (x0.at_+x1),x0.bad):Bw))
abbrev C5.sg:Sig:=⟨[(.box,Eb),(.one,(.int .i64))],[],[(.one,(.int .i64))],[]⟩
def C5 (K:Nat) (x0:Bw) (x1:Int):Option (Int × Bw) :=
 (Cy K x0 (wr .i64 (x1-1))).bind fun r9 =>
 (Ce K r9.2 1).bind fun r11 =>
 some (wr .i64 (r9.1+1),r11.2)
abbrev Cr.sg:Sig:=⟨[(.box,Eb)],[],[(.one,(.int .i64))],[]⟩
def Cr (K:Nat) (x0:Bw):Option (Int × Bw) :=
 (Cy K x0 30).bind fun r5 =>
 (Ce K r5.2 (wr .i64 (r5.1+1))).bind fun r9 =>
 some (r9.1,r9.2)
abbrev De.sg:Sig:=⟨[(.box,Eb)],[],[(.one,(.int .i64))],[]⟩
def De (K:Nat) (x0:Bw):Option (Int × Bw) :=
 (Cr K x0).bind fun r5 =>
 if r5.2.bad then
  some (0,((r5.2.b,r5.2.at_,true):Bw))
 else
  if decide ((wr .i64 (r5.1-1)) > 30) then
   some (0,((r5.2.b,r5.2.at_,true):Bw))
  else
   if (0:Int)≤(wr .i64 (r5.1-1)) then
   (Ce K r5.2 (wr .i64 (r5.1-1))).bind fun r22 =>
   some (ib .or .i64 (wr .i64 ((1:Int)*2 ^ min ((wr .i64 (r5.1-1))).toNat 64)) r22.1,r22.2)
   else none
abbrev Ea.sg:Sig:=⟨[(.one,(.int .i64))],[],[(.one,(.int .i64))],[]⟩
def Ea (K:Nat) (x0:Int):Option Int :=
 some (wr .i64 ((wr .i64 (x0-4))+2))
abbrev Ck.sg:Sig:=⟨[(.one,(.int .u32))],[],[(.one,(.int .i64))],[]⟩
def Ck.j2 (K:Nat) (x_12:Int) (n_13:Int):Option Int :=
 if (0:Int)≤(wr .u8 x_12)∧(wr .u8 x_12)<(((⟨#[0,1,2,2,3,3,3,3,4,4,4,4,4,4,4,4,5,5,5,5,5,5,5,5,5,5,5,5,5,5,5,5,6,6,6,6,6,6,6,6,6,6,6,6,6,6,6,6,6,6,6,6,6,6,6,6,6,6,6,6,6,6,6,6,7,7,7,7,7,7,7,7,7,7,7,7,7,7,7,7,7,7,7,7,7,7,7,7,7,7,7,7,7,7,7,7,7,7,7,7,7,7,7,7,7,7,7,7,7,7,7,7,7,7,7,7,7,7,7,7,7,7,7,7,7,7,7,7,8,8,8,8,8,8,8,8,8,8,8,8,8,8,8,8,8,8,8,8,8,8,8,8,8,8,8,8,8,8,8,8,8,8,8,8,8,8,8,8,8,8,8,8,8,8,8,8,8,8,8,8,8,8,8,8,8,8,8,8,8,8,8,8,8,8,8,8,8,8,8,8,8,8,8,8,8,8,8,8,8,8,8,8,8,8,8,8,8,8,8,8,8,8,8,8,8,8,8,8,8,8,8,8,8,8,8,8,8,8,8,8,8,8,8,8,8,8,8,8,8,8,8,8,8,8,8,8]⟩:ByteArray).size:Nat):Int) then
 some (wr .i64 (n_13+(wr .i64 (bt (⟨#[0,1,2,2,3,3,3,3,4,4,4,4,4,4,4,4,5,5,5,5,5,5,5,5,5,5,5,5,5,5,5,5,6,6,6,6,6,6,6,6,6,6,6,6,6,6,6,6,6,6,6,6,6,6,6,6,6,6,6,6,6,6,6,6,7,7,7,7,7,7,7,7,7,7,7,7,7,7,7,7,7,7,7,7,7,7,7,7,7,7,7,7,7,7,7,7,7,7,7,7,7,7,7,7,7,7,7,7,7,7,7,7,7,7,7,7,7,7,7,7,7,7,7,7,7,7,7,7,8,8,8,8,8,8,8,8,8,8,8,8,8,8,8,8,8,8,8,8,8,8,8,8,8,8,8,8,8,8,8,8,8,8,8,8,8,8,8,8,8,8,8,8,8,8,8,8,8,8,8,8,8,8,8,8,8,8,8,8,8,8,8,8,8,8,8,8,8,8,8,8,8,8,8,8,8,8,8,8,8,8,8,8,8,8,8,8,8,8,8,8,8,8,8,8,8,8,8,8,8,8,8,8,8,8,8,8,8,8,8,8,8,8,8,8,8,8,8,8,8,8,8,8,8,8,8,8]⟩:ByteArray) (wr .u8 x_12)))))
 else none
def Ck.j1 (K:Nat) (x_10:Int) (n_11:Int):Option Int :=
 if decide (x_10≥256) then
  if (0:Int)≤8 then
  Ck.j2 K (x_10.fdiv (2 ^ min ((8:Int)).toNat 32)) (wr .i64 (n_11+8))
  else none
 else
  Ck.j2 K x_10 n_11
def Ck (K:Nat) (x0:Int):Option Int :=
 if decide (x0≥65536) then
  if (0:Int)≤16 then
  Ck.j1 K (x0.fdiv (2 ^ min ((16:Int)).toNat 32)) (16:Int)
  else none
 else
  Ck.j1 K x0 (0:Int)
abbrev Bx.sg:Sig:=⟨[(.one,(.int .u64))],[],[(.one,(.int .i64))],[]⟩
def Bx.j3 (K:Nat) (x_14:Int) (n_15:Int):Option Int :=
 if (0:Int)≤(wr .u8 x_14)∧(wr .u8 x_14)<(((⟨#[0,1,2,2,3,3,3,3,4,4,4,4,4,4,4,4,5,5,5,5,5,5,5,5,5,5,5,5,5,5,5,5,6,6,6,6,6,6,6,6,6,6,6,6,6,6,6,6,6,6,6,6,6,6,6,6,6,6,6,6,6,6,6,6,7,7,7,7,7,7,7,7,7,7,7,7,7,7,7,7,7,7,7,7,7,7,7,7,7,7,7,7,7,7,7,7,7,7,7,7,7,7,7,7,7,7,7,7,7,7,7,7,7,7,7,7,7,7,7,7,7,7,7,7,7,7,7,7,8,8,8,8,8,8,8,8,8,8,8,8,8,8,8,8,8,8,8,8,8,8,8,8,8,8,8,8,8,8,8,8,8,8,8,8,8,8,8,8,8,8,8,8,8,8,8,8,8,8,8,8,8,8,8,8,8,8,8,8,8,8,8,8,8,8,8,8,8,8,8,8,8,8,8,8,8,8,8,8,8,8,8,8,8,8,8,8,8,8,8,8,8,8,8,8,8,8,8,8,8,8,8,8,8,8,8,8,8,8,8,8,8,8,8,8,8,8,8,8,8,8,8,8,8,8,8,8]⟩:ByteArray).size:Nat):Int) then
 some (wr .i64 (n_15+(wr .i64 (bt (⟨#[0,1,2,2,3,3,3,3,4,4,4,4,4,4,4,4,5,5,5,5,5,5,5,5,5,5,5,5,5,5,5,5,6,6,6,6,6,6,6,6,6,6,6,6,6,6,6,6,6,6,6,6,6,6,6,6,6,6,6,6,6,6,6,6,7,7,7,7,7,7,7,7,7,7,7,7,7,7,7,7,7,7,7,7,7,7,7,7,7,7,7,7,7,7,7,7,7,7,7,7,7,7,7,7,7,7,7,7,7,7,7,7,7,7,7,7,7,7,7,7,7,7,7,7,7,7,7,7,8,8,8,8,8,8,8,8,8,8,8,8,8,8,8,8,8,8,8,8,8,8,8,8,8,8,8,8,8,8,8,8,8,8,8,8,8,8,8,8,8,8,8,8,8,8,8,8,8,8,8,8,8,8,8,8,8,8,8,8,8,8,8,8,8,8,8,8,8,8,8,8,8,8,8,8,8,8,8,8,8,8,8,8,8,8,8,8,8,8,8,8,8,8,8,8,8,8,8,8,8,8,8,8,8,8,8,8,8,8,8,8,8,8,8,8,8,8,8,8,8,8,8,8,8,8,8,8]⟩:ByteArray) (wr .u8 x_14)))))
 else none
def Bx.j2 (K:Nat) (x_12:Int) (n_13:Int):Option Int :=
 if decide (x_12≥256) then
  if (0:Int)≤8 then
  Bx.j3 K (x_12.fdiv (2 ^ min ((8:Int)).toNat 64)) (wr .i64 (n_13+8))
  else none
 else
  Bx.j3 K x_12 n_13
def Bx.j1 (K:Nat) (x_10:Int) (n_11:Int):Option Int :=
 if decide (x_10≥65536) then
  if (0:Int)≤16 then
  Bx.j2 K (x_10.fdiv (2 ^ min ((16:Int)).toNat 64)) (wr .i64 (n_11+16))
  else none
 else
  Bx.j2 K x_10 n_11
def Bx (K:Nat) (x0:Int):Option Int :=
 if decide (x0≥4294967296) then
  if (0:Int)≤32 then
  Bx.j1 K (x0.fdiv (2 ^ min ((32:Int)).toNat 64)) (32:Int)
  else none
 else
  Bx.j1 K x0 (0:Int)
abbrev Dy.sg:Sig:=⟨[(.one,(.int .u64))],[],[(.one,(.int .i64))],[]⟩
def Dy (K:Nat) (x0:Int):Option Int :=
 (Bx K x0).bind fun r7 =>
 some r7
abbrev Ec.sg:Sig:=⟨[(.one,(.int .i64)),(.one,(.int .i64))],[],[(.one,(.int .i64)),(.one,(.int .i64)),(.one,(.int .i64)),(.one,(.int .i64))],[]⟩
def Ec (K:Nat) (x0:Int) (x1:Int):Option (Int × Int × Int × Int) :=
 if (0:Int)≤(wr .i64 (x1*x0)) then
 if (0:Int)≤x0 then
 (Dy K (wr .u64 (wr .i64 ((wr .i64 ((wr .i64 ((wr .i64 ((1:Int)*2 ^ min ((wr .i64 (x1*x0))).toNat 64))*2 ^ min (x0).toNat 64))-(wr .i64 ((1:Int)*2 ^ min ((wr .i64 (x1*x0))).toNat 64))))-1)))).bind fun r20 =>
 if (0:Int)≤r20 then
 some (wr .i64 ((1:Int)*2 ^ min ((wr .i64 (x1*x0))).toNat 64),wr .i64 ((wr .i64 ((wr .i64 ((1:Int)*2 ^ min ((wr .i64 (x1*x0))).toNat 64))*2 ^ min (x0).toNat 64))-(wr .i64 ((1:Int)*2 ^ min ((wr .i64 (x1*x0))).toNat 64))),r20,wr .i64 ((wr .i64 ((1:Int)*2 ^ min (r20).toNat 64))-(wr .i64 ((wr .i64 ((wr .i64 ((1:Int)*2 ^ min ((wr .i64 (x1*x0))).toNat 64))*2 ^ min (x0).toNat 64))-(wr .i64 ((1:Int)*2 ^ min ((wr .i64 (x1*x0))).toNat 64))))))
 else none
 else none
 else none
abbrev Dh.sg:Sig:=⟨[(.box,Eb),(.one,(.int .i64))],[],[(.one,(.int .i64))],[]⟩
def Dh (K:Nat) (x0:Bw) (x1:Int):Option (Int × Bw) :=
 if x1≠0 then
 (C5 K x0 (wr .i64 ((wr .i64 ((30:Int).tdiv x1))+1))).bind fun r15 =>
 if r15.2.bad then
  some (0,r15.2)
 else
  (Ec K x1 (wr .i64 (r15.1-1))).bind fun r24 =>
  (Ce K r15.2 (wr .i64 (r24.2.2.1-1))).bind fun r32 =>
  if decide (r32.1≥r24.2.2.2) then
   if (0:Int)≤1 then
   (Ce K r32.2 1).bind fun r39 =>
   some (wr .i64 (r24.1+(wr .i64 ((wr .i64 ((wr .i64 (r32.1*2 ^ min ((1:Int)).toNat 64))+r39.1))-r24.2.2.2))),r39.2)
   else none
  else
   some (wr .i64 (r24.1+r32.1),r32.2)
 else none
abbrev Ch.sg:Sig:=⟨[(.agg,C8),(.one,(.int .i64)),(.one,(.int .i64))],[],[(.one,(.int .i64)),(.one,(.int .i64)),(.one,.bool)],[]⟩
def Ch.j1 (K:Nat) (n_14:Int) (r_10:ByteArray) (r_11:Int) (r_12:Int) (r_13:Bool):Option (Int × Int × Bool) :=
 if r_13 then
  some (0,0,false)
 else
  if decide (n_14 > 1073741824) then
   some (0,0,false)
  else
   some (n_14,r_12,true)
def Ch (K:Nat) (x0:Av) (x1:Int) (x2:Int):Option (Int × Int × Bool) :=
 if (x2 == 1) then
  (C5 K ((x0,x1,false):Bw) 1000).bind fun r23 =>
  Ch.j1 K r23.1 r23.2.b.Data r23.2.b.N r23.2.at_ r23.2.bad
 else
  if (x2 == 2) then
   (Cr K ((x0,x1,false):Bw)).bind fun r27 =>
   Ch.j1 K r27.1 r27.2.b.Data r27.2.b.N r27.2.at_ r27.2.bad
  else
   if (x2 == 3) then
    (De K ((x0,x1,false):Bw)).bind fun r31 =>
    Ch.j1 K r31.1 r31.2.b.Data r31.2.b.N r31.2.at_ r31.2.bad
   else
    (Ea K x2).bind fun r18 =>
    (Dh K ((x0,x1,false):Bw) r18).bind fun r19 =>
    Ch.j1 K r19.1 r19.2.b.Data r19.2.b.N r19.2.at_ r19.2.bad
abbrev Dp.sg:Sig:=⟨[(.agg,C8)],[],[(.one,(.int .i64)),(.one,(.int .i64)),(.one,.bool)],[]⟩
def Dp (K:Nat) (x0:Av):Option (Int × Int × Bool) :=
 (Ch K x0 0 2).bind fun r7 =>
 if (!r7.2.2) then
  some (0,0,false)
 else
  if decide (r7.1 > 17) then
   some (0,0,false)
  else
   some (wr .i64 (r7.1-1),r7.2.1,true)
abbrev Di.sg:Sig:=⟨[(.one,(.int .i64))],[],[(.one,(.int .i64))],[]⟩
def Di (K:Nat) (x0:Int):Option Int :=
 if (2:Int)≠0 then
 if ((x0.tmod 2) == 1) then
  if (2:Int)≠0 then
  some (wr .i64 ((wr .i64 (0-(wr .i64 (x0+1)))).tdiv 2))
  else none
 else
  if (2:Int)≠0 then
  some (wr .i64 (x0.tdiv 2))
  else none
 else none
abbrev Ak:Type:=Int × Int
abbrev C1:Ty:=(.pr (.int .i64) (.int .i64))
abbrev Ak.At (x:Ak):Int:=x.1
abbrev Ak.Len (x:Ak):Int:=x.2
abbrev B8.sg:Sig:=⟨[(.agg,C8),(.one,(.int .i64)),(.one,(.int .i64))],[],[(.one,(.sl C1)),(.one,(.int .i64)),(.one,.bool)],[.o]⟩
def B8.j2 (K:Nat) (go_l1:Int→Int→Int→Int→(List Ak)→Option ((List Ak) × Int × Bool)) (r48:Int × Int × Bool) (t_10:Int) (t_11:Int) (t_13:List Ak) (t_15:Int) (x0:Av) (t_12:Int):Option ((List Ak) × Int × Bool) :=
 if (t_13.length+([((wr .i64 (t_15+t_12),wr .i64 ((wr .i64 (r48.1-1))+3)):Ak)]:List Ak).length)*16≤140737488355328 then
 go_l1 r48.2.1 (wr .i64 ((wr .i64 (t_15+t_12))+(wr .i64 ((wr .i64 (r48.1-1))+3)))) t_10 (wr .i64 (t_11+1)) (t_13++([((wr .i64 (t_15+t_12),wr .i64 ((wr .i64 (r48.1-1))+3)):Ak)]:List Ak))
 else none
def B8.l1 (K:Nat) (x0:Av):Nat→Int→Int→Int→Int→(List Ak)→Option ((List Ak) × Int × Bool)
 | 0,_,_,_,_,_=>none
 | k+1,t_14,t_15,t_10,t_11,t_13 =>
  if decide (t_11<t_10) then
   (Ch K x0 t_14 2).bind fun r39 =>
   if (!r39.2.2) then
    some (([]:List Ak),0,false)
   else
    (Ch K x0 r39.2.1 2).bind fun r48 =>
    if (!r48.2.2) then
     some (([]:List Ak),0,false)
    else
     if (t_11 == 0) then
      (Di K (wr .i64 (r39.1-1))).bind fun r58 =>
      B8.j2 K (B8.l1 K x0 k) r48 t_10 t_11 t_13 t_15 x0 r58
     else
      B8.j2 K (B8.l1 K x0 k) r48 t_10 t_11 t_13 t_15 x0 r39.1
  else
   some (t_13,t_14,true)
def B8 (K:Nat) (x0:Av) (x1:Int) (x2:Int):Option ((List Ak) × Int × Bool) :=
 (Ch K x0 x1 2).bind fun r20 =>
 if (!r20.2.2) then
  some (([]:List Ak),0,false)
 else
  if decide (r20.1 > 16) then
   some (([]:List Ak),0,false)
  else
   B8.l1 K x0 K r20.2.1 x2 (wr .i64 (r20.1-1)) (0:Int) ([]:List Ak)
abbrev Dn.sg:Sig:=⟨[(.one,(.int .i64))],[],[(.one,.bool)],[]⟩
def Dn (K:Nat) (x0:Int):Option Bool :=
 if decide (x0≥0) then
  some (decide (x0<16))
 else
  some false
abbrev B6.sg:Sig:=⟨[(.agg,C8),(.one,(.int .i64)),(.one,(.int .i64))],[],[(.one,(.sl (.int .i64))),(.one,(.int .i64)),(.one,.bool)],[.o]⟩
def B6.j2 (K:Nat) (go_l1:Int→Int→Int→Int→(List Int)→Option ((List Int) × Int × Bool)) (l_13:List Int) (last_15:Int) (r35:Int × Int × Bool) (t_10:Int) (t_11:Int) (x0:Av) (n_12:Int):Option ((List Int) × Int × Bool) :=
 (Dn K (wr .i64 (last_15+n_12))).bind fun r50 =>
 if (!r50) then
  some (([]:List Int),0,false)
 else
  if (l_13.length+([wr .i64 (last_15+n_12)]:List Int).length)*8≤140737488355328 then
  go_l1 r35.2.1 (wr .i64 (last_15+n_12)) t_10 (wr .i64 (t_11+1)) (l_13++([wr .i64 (last_15+n_12)]:List Int))
  else none
def B6.l1 (K:Nat) (x0:Av):Nat→Int→Int→Int→Int→(List Int)→Option ((List Int) × Int × Bool)
 | 0,_,_,_,_,_=>none
 | k+1,next_14,last_15,t_10,t_11,l_13 =>
  if decide (t_11<t_10) then
   (Ch K x0 next_14 2).bind fun r35 =>
   if (!r35.2.2) then
    some (([]:List Int),0,false)
   else
    if (t_11 == 0) then
     (Di K (wr .i64 (r35.1-1))).bind fun r45 =>
     B6.j2 K (B6.l1 K x0 k) l_13 last_15 r35 t_10 t_11 x0 r45
    else
     B6.j2 K (B6.l1 K x0 k) l_13 last_15 r35 t_10 t_11 x0 r35.1
  else
   some (l_13,next_14,true)
def B6 (K:Nat) (x0:Av) (x1:Int) (x2:Int):Option ((List Int) × Int × Bool) :=
 (Ch K x0 x1 2).bind fun r16 =>
 if (!r16.2.2) then
  some (([]:List Int),0,false)
 else
  if decide (r16.1 > 17) then
   some (([]:List Int),0,false)
  else
   B6.l1 K x0 K r16.2.1 x2 (wr .i64 (r16.1-1)) (0:Int) ([]:List Int)
abbrev Cm.sg:Sig:=⟨[(.one,(.sl (.int .i64)))],[],[(.one,(.sl (.int .i64)))],[.o]⟩
def Cm (K:Nat) (x0:List Int):Option (List Int) :=
 if (([]:List Int).length+x0.length)*8≤140737488355328 then
 some (([]:List Int)++x0)
 else none
abbrev Db.sg:Sig:=⟨[(.one,(.sl (.int .i64)))],[],[(.one,.bool)],[]⟩
def Db.l1 (K:Nat) (x0:List Int):Nat→Int→Int→Option Bool
 | 0,_,_=>none
 | k+1,t_10,t_11 =>
  if decide (t_11<t_10) then
   if (0:Int)≤t_11∧t_11<((x0.length:Nat):Int) then
   (Dn K (nth x0 t_11)).bind fun r13 =>
   if (!r13) then
    some false
   else
    if decide (t_11 > 0) then
     if (0:Int)≤(wr .i64 (t_11-1))∧(wr .i64 (t_11-1))<((x0.length:Nat):Int) then
     if decide ((nth x0 t_11)≤(nth x0 (wr .i64 (t_11-1)))) then
      some false
     else
      Db.l1 K x0 k t_10 (wr .i64 (t_11+1))
     else none
    else
     Db.l1 K x0 k t_10 (wr .i64 (t_11+1))
   else none
  else
   some true
def Db (K:Nat) (x0:List Int):Option Bool :=
 Db.l1 K x0 K ((x0.length:Nat):Int) (0:Int)
abbrev Cf.sg:Sig:=⟨[(.one,(.sl C1)),(.one,(.sl (.int .i64)))],[],[(.one,(.sl (.int .i64))),(.one,.bool)],[.o]⟩
def Cf.l2 (K:Nat) (go_l1:Int→Int→Int→(List Int)→Option ((List Int) × Bool)) (t_11:Int) (t_12:Int) (x0:List Ak) (x1:List Int):Nat→Int→Int→(List Int)→Option ((List Int) × Bool)
 | 0,_,_,_=>none
 | k+1,t_13,t_14,t_15 =>
  if decide (t_14<t_13) then
   if (t_15.length+([t_14]:List Int).length)*8≤140737488355328 then
   Cf.l2 K go_l1 t_11 t_12 x0 x1 k t_13 (wr .i64 (t_14+1)) (t_15++([t_14]:List Int))
   else none
  else
   go_l1 t_13 t_11 (wr .i64 (t_12+1)) t_15
def Cf.l1 (K:Nat) (x0:List Ak) (x1:List Int):Nat→Int→Int→Int→(List Int)→Option ((List Int) × Bool)
 | 0,_,_,_,_=>none
 | k+1,t_10,t_11,t_12,t_16 =>
  if decide (t_12<t_11) then
   if (0:Int)≤t_12∧t_12<((x0.length:Nat):Int) then
   if decide (((nth x0 t_12).Len)<3) then
    some (([]:List Int),false)
   else
    if decide (((nth x0 t_12).Len) > 16) then
     some (([]:List Int),false)
    else
     if decide (((nth x0 t_12).At)≤t_10) then
      some (([]:List Int),false)
     else
      (Dn K ((nth x0 t_12).At)).bind fun r36 =>
      if (!r36) then
       some (([]:List Int),false)
      else
       (Dn K (wr .i64 ((wr .i64 (((nth x0 t_12).At)+((nth x0 t_12).Len)))-1))).bind fun r46 =>
       if (!r46) then
        some (([]:List Int),false)
       else
        Cf.l2 K (Cf.l1 K x0 x1 k) t_11 t_12 x0 x1 K (wr .i64 (((nth x0 t_12).At)+((nth x0 t_12).Len))) ((nth x0 t_12).At) t_16
   else none
  else
   if t_16.length<4611686018427387904 then
   (Db K x1).bind fun r70 =>
   if r70 then
    (Db K (sortF t_16)).bind fun r73 =>
    some (sortF t_16,r73)
   else
    some (sortF t_16,false)
   else none
def Cf (K:Nat) (x0:List Ak) (x1:List Int):Option ((List Int) × Bool) :=
 (Cm K x1).bind fun r12 =>
 Cf.l1 K x0 x1 K ((-1):Int) ((x0.length:Nat):Int) (0:Int) r12
abbrev Cj.sg:Sig:=⟨[(.one,(.sl (.int .i64)))],[],[(.one,(.sl C1)),(.one,(.sl (.int .i64)))],[.o,.o]⟩
def Cj.l2 (K:Nat) (go_l1:Int→(List Ak)→(List Int)→Option ((List Ak) × (List Int))) (i_10:Int) (x0:List Int):Nat→Int→(List Ak)→(List Int)→Option ((List Ak) × (List Int))
 | 0,_,_,_=>none
 | k+1,k_11,r_14,rest_15 =>
  if decide (k_11<((x0.length:Nat):Int)) then
   if (0:Int)≤k_11∧k_11<((x0.length:Nat):Int) then
   if (0:Int)≤(wr .i64 (k_11-1))∧(wr .i64 (k_11-1))<((x0.length:Nat):Int) then
   if ((nth x0 k_11) == (wr .i64 ((nth x0 (wr .i64 (k_11-1)))+1))) then
    Cj.l2 K go_l1 i_10 x0 k (wr .i64 (k_11+1)) r_14 rest_15
   else
    if decide ((wr .i64 (k_11-i_10))≥3) then
     if (0:Int)≤i_10∧i_10<((x0.length:Nat):Int) then
     if (r_14.length+([((nth x0 i_10,wr .i64 (k_11-i_10)):Ak)]:List Ak).length)*16≤140737488355328 then
     go_l1 k_11 (r_14++([((nth x0 i_10,wr .i64 (k_11-i_10)):Ak)]:List Ak)) rest_15
     else none
     else none
    else
     if (0:Int)≤i_10∧i_10≤k_11∧k_11≤((x0.length:Nat):Int) then
     if (rest_15.length+(((x0).drop i_10.toNat).take (k_11.toNat-i_10.toNat)).length)*8≤140737488355328 then
     go_l1 k_11 r_14 (rest_15++(((x0).drop i_10.toNat).take (k_11.toNat-i_10.toNat)))
     else none
     else none
   else none
   else none
  else
   if decide ((wr .i64 (k_11-i_10))≥3) then
    if (0:Int)≤i_10∧i_10<((x0.length:Nat):Int) then
    if (r_14.length+([((nth x0 i_10,wr .i64 (k_11-i_10)):Ak)]:List Ak).length)*16≤140737488355328 then
    go_l1 k_11 (r_14++([((nth x0 i_10,wr .i64 (k_11-i_10)):Ak)]:List Ak)) rest_15
    else none
    else none
   else
    if (0:Int)≤i_10∧i_10≤k_11∧k_11≤((x0.length:Nat):Int) then
    if (rest_15.length+(((x0).drop i_10.toNat).take (k_11.toNat-i_10.toNat)).length)*8≤140737488355328 then
    go_l1 k_11 r_14 (rest_15++(((x0).drop i_10.toNat).take (k_11.toNat-i_10.toNat)))
    else none
    else none
def Cj.l1 (K:Nat) (x0:List Int):Nat→Int→(List Ak)→(List Int)→Option ((List Ak) × (List Int))
 | 0,_,_,_=>none
 | k+1,i_10,r_12,rest_13 =>
  if decide (i_10<((x0.length:Nat):Int)) then
   Cj.l2 K (Cj.l1 K x0 k) i_10 x0 K (wr .i64 (i_10+1)) r_12 rest_13
  else
   some (r_12,rest_13)
def Cj (K:Nat) (x0:List Int):Option ((List Ak) × (List Int)) :=
 Cj.l1 K x0 K (0:Int) ([]:List Ak) ([]:List Int)
abbrev Ar.sg:Sig:=⟨[(.one,(.sl C1)),(.one,(.sl C1))],[],[(.one,.bool)],[]⟩
def Ar.l1 (K:Nat) (x0:List Ak) (x1:List Ak):Nat→Int→Int→Option Bool
 | 0,_,_=>none
 | k+1,t_10,t_11 =>
  if decide (t_11<t_10) then
   if (0:Int)≤t_11∧t_11<((x0.length:Nat):Int) then
   if (0:Int)≤t_11∧t_11<((x1.length:Nat):Int) then
   if (!((((nth x0 t_11).At) == ((nth x1 t_11).At)) && ((((nth x0 t_11).Len) == ((nth x1 t_11).Len)) && true))) then
    some false
   else
    Ar.l1 K x0 x1 k t_10 (wr .i64 (t_11+1))
   else none
   else none
  else
   some true
def Ar (K:Nat) (x0:List Ak) (x1:List Ak):Option Bool :=
 if (((x0.length:Nat):Int) != ((x1.length:Nat):Int)) then
  some false
 else
  Ar.l1 K x0 x1 K ((x0.length:Nat):Int) (0:Int)
abbrev A8.sg:Sig:=⟨[(.one,(.sl (.int .i64))),(.one,(.sl (.int .i64)))],[],[(.one,.bool)],[]⟩
def A8.l1 (K:Nat) (x0:List Int) (x1:List Int):Nat→Int→Int→Option Bool
 | 0,_,_=>none
 | k+1,t_10,t_11 =>
  if decide (t_11<t_10) then
   if (0:Int)≤t_11∧t_11<((x0.length:Nat):Int) then
   if (0:Int)≤t_11∧t_11<((x1.length:Nat):Int) then
   if ((nth x0 t_11) != (nth x1 t_11)) then
    some false
   else
    A8.l1 K x0 x1 k t_10 (wr .i64 (t_11+1))
   else none
   else none
  else
   some true
def A8 (K:Nat) (x0:List Int) (x1:List Int):Option Bool :=
 if (((x0.length:Nat):Int) != ((x1.length:Nat):Int)) then
  some false
 else
  A8.l1 K x0 x1 K ((x0.length:Nat):Int) (0:Int)
abbrev Dv.sg:Sig:=⟨[(.agg,C8),(.one,(.int .i64)),(.one,(.int .i64))],[],[(.one,(.sl (.int .i64))),(.one,(.int .i64)),(.one,.bool)],[.o]⟩
def Dv (K:Nat) (x0:Av) (x1:Int) (x2:Int):Option ((List Int) × Int × Bool) :=
 (B8 K x0 x1 x2).bind fun r17 =>
 if (!r17.2.2) then
  some (([]:List Int),0,false)
 else
  (B6 K x0 r17.2.1 x2).bind fun r27 =>
  if (!r27.2.2) then
   some (([]:List Int),0,false)
  else
   (Cf K r17.1 r27.1).bind fun r36 =>
   if (!r36.2) then
    some (([]:List Int),0,false)
   else
    (Cj K r36.1).bind fun r43 =>
    (Ar K r43.1 r17.1).bind fun r50 =>
    if r50 then
     (A8 K r43.2 r27.1).bind fun r54 =>
     some (r36.1,r27.2.1,r54)
    else
     some (r36.1,r27.2.1,false)
abbrev Dr.sg:Sig:=⟨[(.one,(.int .i64)),(.one,(.int .i64)),(.box,C8)],[],[(.one,(.sl (.int .i64))),(.one,(.int .i64)),(.one,.bool)],[.o]⟩
def Dr (K:Nat) (x0:Int) (x1:Int) (x2:Av):Option ((List Int) × Int × Bool × Av) :=
 (Dv K x2 x0 x1).bind fun r11 =>
 some (r11.1,r11.2.1,r11.2.2,x2)
abbrev Dl.sg:Sig:=⟨[(.one,(.int .i64))],[],[(.agg,Ba)],[.s,.o]⟩
def Dl (K:Nat) (x0:Int):Option Aa :=
 if x0=x0∧(0:Int)≤x0∧(24:Int)*x0≤281474976710656∧x0≤9223372036854775807 then
 some ((x0,List.replicate x0.toNat ([]:List Int)):Aa)
 else none
abbrev Da.sg:Sig:=⟨[(.agg,Ba)],[],[(.one,(.int .i64))],[]⟩
def Da.l1 (K:Nat) (x0:Aa):Nat→Int→Int→Int→Option Int
 | 0,_,_,_=>none
 | k+1,n_10,t_11,t_12 =>
  if decide (t_12<t_11) then
   if (0:Int)≤t_12∧t_12<((x0.Out.length:Nat):Int) then
   Da.l1 K x0 k (wr .i64 (n_10+(((nth x0.Out t_12).length:Nat):Int))) t_11 (wr .i64 (t_12+1))
   else none
  else
   some n_10
def Da (K:Nat) (x0:Aa):Option Int :=
 Da.l1 K x0 K (0:Int) ((x0.Out.length:Nat):Int) (0:Int)
abbrev C0.sg:Sig:=⟨[(.agg,Ba)],[],[(.one,.bool)],[]⟩
def C0.l1 (K:Nat) (x0:Aa):Nat→Int→Int→Option Bool
 | 0,_,_=>none
 | k+1,t_10,t_11 =>
  if decide (t_11<t_10) then
   if (0:Int)≤t_11∧t_11<((x0.Out.length:Nat):Int) then
   (Db K (nth x0.Out t_11)).bind fun r29 =>
   if (!r29) then
    some false
   else
    if decide ((((nth x0.Out t_11).length:Nat):Int) > 0) then
     if (0:Int)≤(wr .i64 ((((nth x0.Out t_11).length:Nat):Int)-1))∧(wr .i64 ((((nth x0.Out t_11).length:Nat):Int)-1))<(((nth x0.Out t_11).length:Nat):Int) then
     if decide ((nth (nth x0.Out t_11) (wr .i64 ((((nth x0.Out t_11).length:Nat):Int)-1)))≥x0.N) then
      some false
     else
      C0.l1 K x0 k t_10 (wr .i64 (t_11+1))
     else none
    else
     C0.l1 K x0 k t_10 (wr .i64 (t_11+1))
   else none
  else
   (Da K x0).bind fun r49 =>
   some (decide (r49≤120))
def C0 (K:Nat) (x0:Aa):Option Bool :=
 if decide (x0.N<0) then
  some false
 else
  if decide (x0.N > 16) then
   some false
  else
   if (((x0.Out.length:Nat):Int) != x0.N) then
    some false
   else
    C0.l1 K x0 K ((x0.Out.length:Nat):Int) (0:Int)
abbrev Aw.sg:Sig:=⟨[(.one,(.int .i64)),(.one,(.int .i64)),(.one,(.int .i64)),(.fn 140 1,.un),(.hid,C8)],[],[(.agg,Ba),(.one,(.int .i64)),(.one,.bool)],[.s,.o]⟩
def Aw.l1 (K:Nat) (r17:Aa) (x1:Int):Nat→Int→Int→ByteArray→Int→Int→(List (List Int))→Option (Aa × Int × Bool × Av)
 | 0,_,_,_,_,_,_=>none
 | k+1,at_14,t_11,h_12,h_13,t_10,g_15 =>
  if decide (t_11<x1) then
   (Dr K at_14 t_11 ((h_12,h_13):Av)).bind fun r26 =>
   if (!r26.2.2.1) then
    some (((0,([]:List (List Int))):Aa),0,false,r26.2.2.2)
   else
    if (0:Int)≤t_11∧t_11<((g_15.length:Nat):Int) then
    Aw.l1 K r17 x1 k r26.2.1 (wr .i64 (t_11+1)) r26.2.2.2.Data r26.2.2.2.N t_10 ((g_15).set t_11.toNat r26.1)
    else none
  else
   (C0 K ((r17.N,g_15):Aa)).bind fun r43 =>
   some (((r17.N,g_15):Aa),at_14,r43,((h_12,h_13):Av))
def Aw (K:Nat) (x0:Int) (x1:Int) (x2:Int) (x4:Av):Option (Aa × Int × Bool × Av) :=
 (Dl K x0).bind fun r17 =>
 Aw.l1 K r17 x1 K x2 (0:Int) x4.Data x4.N (0:Int) r17.Out
abbrev D4.sg:Sig:=⟨[(.agg,C8)],[],[(.agg,Ba),(.one,.bool)],[.s,.o]⟩
def D4 (K:Nat) (x0:Av):Option (Aa × Bool) :=
 (Dp K x0).bind fun r11 =>
 if (!r11.2.2) then
  some (((0,([]:List (List Int))):Aa),false)
 else
  (Aw K r11.1 r11.1 r11.2.1 x0).bind fun r23 =>
  if r23.2.2.1 then
   some (r23.1,(r23.2.1 == r23.2.2.2.N))
  else
   some (r23.1,false)
abbrev Dx.sg:Sig:=⟨[(.agg,Ba),(.one,(.int .i64))],[],[(.one,.bool)],[]⟩
def Dx (K:Nat) (x0:Aa) (x1:Int):Option Bool :=
 if decide (x1≥0) then
  some (decide (x1<x0.N))
 else
  some false
abbrev D5.sg:Sig:=⟨[(.agg,Ba),(.one,(.int .i64))],[],[(.one,(.sl (.int .i64)))],[]⟩
def D5 (K:Nat) (x0:Aa) (x1:Int):Option (List Int) :=
 (Dx K x0 x1).bind fun r7 =>
 if (!r7) then
  some ([]:List Int)
 else
  if (0:Int)≤x1∧x1<((x0.Out.length:Nat):Int) then
  some (nth x0.Out x1)
  else none
abbrev Bd.sg:Sig:=⟨[(.one,(.sl (.int .i64))),(.one,(.int .i64))],[],[(.one,(.int .i64))],[]⟩
def Bd.l1 (K:Nat) (x0:List Int) (x1:Int):Nat→Int→Int→Option Int
 | 0,_,_=>none
 | k+1,t_10,t_11 =>
  if decide (t_11<t_10) then
   if (0:Int)≤t_11∧t_11<((x0.length:Nat):Int) then
   if (x1 == (nth x0 t_11)) then
    some t_11
   else
    Bd.l1 K x0 x1 k t_10 (wr .i64 (t_11+1))
   else none
  else
   some ((-1):Int)
def Bd (K:Nat) (x0:List Int) (x1:Int):Option Int :=
 Bd.l1 K x0 x1 K ((x0.length:Nat):Int) (0:Int)
abbrev Bz.sg:Sig:=⟨[(.one,(.sl (.int .i64))),(.one,(.int .i64))],[],[(.one,.bool)],[]⟩
def Bz (K:Nat) (x0:List Int) (x1:Int):Option Bool :=
 (Bd K x0 x1).bind fun r7 =>
 some (decide (r7≥0))
abbrev B7.sg:Sig:=⟨[(.one,(.sl (.int .i64))),(.one,(.sl (.int .i64)))],[],[(.one,(.sl (.int .i64))),(.one,(.sl (.int .i64)))],[.o,.o]⟩
def B7.l2 (K:Nat) (x0:List Int) (x1:List Int):Nat→Int→Int→(List Int)→(List Int)→Option ((List Int) × (List Int))
 | 0,_,_,_,_=>none
 | k+1,t_13,t_14,blocks_18,rest_17 =>
  if decide (t_14<t_13) then
   if (0:Int)≤t_14∧t_14<((x1.length:Nat):Int) then
   (Bz K x0 (nth x1 t_14)).bind fun r40 =>
   if (!r40) then
    if (rest_17.length+([nth x1 t_14]:List Int).length)*8≤140737488355328 then
    B7.l2 K x0 x1 k t_13 (wr .i64 (t_14+1)) blocks_18 (rest_17++([nth x1 t_14]:List Int))
    else none
   else
    B7.l2 K x0 x1 k t_13 (wr .i64 (t_14+1)) blocks_18 rest_17
   else none
  else
   some (blocks_18,rest_17)
def B7.l1 (K:Nat) (x0:List Int) (x1:List Int):Nat→Bool→Int→Int→Int→(List Int)→Option ((List Int) × (List Int))
 | 0,_,_,_,_,_=>none
 | k+1,in_16,many_10,t_11,t_12,blocks_15 =>
  if decide (t_12<t_11) then
   if (0:Int)≤t_12∧t_12<((x0.length:Nat):Int) then
   (Bz K x1 (nth x0 t_12)).bind fun r20 =>
   if (!(r20 == in_16)) then
    if (blocks_15.length+([many_10]:List Int).length)*8≤140737488355328 then
    B7.l1 K x0 x1 k (!in_16) (wr .i64 ((0:Int)+1)) t_11 (wr .i64 (t_12+1)) (blocks_15++([many_10]:List Int))
    else none
   else
    B7.l1 K x0 x1 k in_16 (wr .i64 (many_10+1)) t_11 (wr .i64 (t_12+1)) blocks_15
   else none
  else
   B7.l2 K x0 x1 K ((x1.length:Nat):Int) (0:Int) blocks_15 ([]:List Int)
def B7 (K:Nat) (x0:List Int) (x1:List Int):Option ((List Int) × (List Int)) :=
 B7.l1 K x0 x1 K true (0:Int) ((x0.length:Nat):Int) (0:Int) ([]:List Int)
abbrev Bf.sg:Sig:=⟨[(.one,(.sl (.int .i64))),(.one,(.sl (.int .i64))),(.one,(.sl (.int .i64)))],[],[(.one,(.sl (.int .i64))),(.one,.bool)],[.o]⟩
def Bf.j3 (K:Nat) (x0:List Int) (x1:List Int) (x2:List Int) (t_14:List Int):Option ((List Int) × Bool) :=
 if t_14.length<4611686018427387904 then
 (Db K (sortF t_14)).bind fun r51 =>
 if (!r51) then
  some (([]:List Int),false)
 else
  (B7 K x0 (sortF t_14)).bind fun r56 =>
  (A8 K r56.1 x1).bind fun r62 =>
  if r62 then
   (A8 K r56.2 x2).bind fun r66 =>
   some (sortF t_14,r66)
  else
   some (sortF t_14,false)
 else none
def Bf.j2 (K:Nat) (go_l1:(List Int)→Bool→Int→Int→(List Int)→Option ((List Int) × Bool)) (t_10:Int) (t_11:Int) (t_16:List Int) (t_17:Bool) (x0:List Int) (x1:List Int) (x2:List Int) (t_13:Int) (t_12:List Int):Option ((List Int) × Bool) :=
 if (0:Int)≤t_13∧t_13≤((t_16.length:Nat):Int)∧((t_16.length:Nat):Int)≤((t_16.length:Nat):Int) then
 go_l1 (((t_16).drop t_13.toNat).take (((t_16.length:Nat):Int).toNat-t_13.toNat)) (!t_17) t_10 (wr .i64 (t_11+1)) t_12
 else none
def Bf.l1 (K:Nat) (x0:List Int) (x1:List Int) (x2:List Int):Nat→(List Int)→Bool→Int→Int→(List Int)→Option ((List Int) × Bool)
 | 0,_,_,_,_,_=>none
 | k+1,t_16,t_17,t_10,t_11,t_15 =>
  if decide (t_11<t_10) then
   if (0:Int)≤t_11∧t_11<((x1.length:Nat):Int) then
   if decide ((nth x1 t_11)<0) then
    some (([]:List Int),false)
   else
    if decide ((nth x1 t_11) > ((t_16.length:Nat):Int)) then
     some (([]:List Int),false)
    else
     if t_17 then
      if (0:Int)≤(0:Int)∧(0:Int)≤(nth x1 t_11)∧(nth x1 t_11)≤((t_16.length:Nat):Int) then
      if (t_15.length+(((t_16).drop (0:Int).toNat).take ((nth x1 t_11).toNat-(0:Int).toNat)).length)*8≤140737488355328 then
      Bf.j2 K (Bf.l1 K x0 x1 x2 k) t_10 t_11 t_16 t_17 x0 x1 x2 (nth x1 t_11) (t_15++(((t_16).drop (0:Int).toNat).take ((nth x1 t_11).toNat-(0:Int).toNat)))
      else none
      else none
     else
      Bf.j2 K (Bf.l1 K x0 x1 x2 k) t_10 t_11 t_16 t_17 x0 x1 x2 (nth x1 t_11) t_15
   else none
  else
   if t_17 then
    if (t_15.length+t_16.length)*8≤140737488355328 then
    Bf.j3 K x0 x1 x2 (t_15++t_16)
    else none
   else
    Bf.j3 K x0 x1 x2 t_15
def Bf (K:Nat) (x0:List Int) (x1:List Int) (x2:List Int):Option ((List Int) × Bool) :=
 (Cm K x2).bind fun r16 =>
 Bf.l1 K x0 x1 x2 K x0 true ((x1.length:Nat):Int) (0:Int) r16
abbrev Ci.sg:Sig:=⟨[(.agg,C8),(.one,(.int .i64)),(.one,(.int .i64)),(.one,(.sl (.int .i64)))],[],[(.one,(.sl (.int .i64))),(.one,(.int .i64)),(.one,.bool)],[.o]⟩
def Ci.l1 (K:Nat) (x0:Av) (x2:Int) (x3:List Int):Nat→Int→Int→Int→(List Int)→Option ((List Int) × Int × Bool)
 | 0,_,_,_,_=>none
 | k+1,t_12,t_10,t_11,t_13 =>
  if decide (t_11<t_10) then
   (Ch K x0 t_12 2).bind fun r37 =>
   if (!r37.2.2) then
    some (([]:List Int),0,false)
   else
    if (t_11 == 0) then
     if (t_13.length+([wr .i64 (r37.1-1)]:List Int).length)*8≤140737488355328 then
     Ci.l1 K x0 x2 x3 k r37.2.1 t_10 (wr .i64 (t_11+1)) (t_13++([wr .i64 (r37.1-1)]:List Int))
     else none
    else
     if (t_13.length+([r37.1]:List Int).length)*8≤140737488355328 then
     Ci.l1 K x0 x2 x3 k r37.2.1 t_10 (wr .i64 (t_11+1)) (t_13++([r37.1]:List Int))
     else none
  else
   (Dv K x0 t_12 x2).bind fun r56 =>
   if (!r56.2.2) then
    some (([]:List Int),0,false)
   else
    (Bf K x3 t_13 r56.1).bind fun r66 =>
    some (r66.1,r56.2.1,r66.2)
def Ci (K:Nat) (x0:Av) (x1:Int) (x2:Int) (x3:List Int):Option ((List Int) × Int × Bool) :=
 (Ch K x0 x1 2).bind fun r19 =>
 if (!r19.2.2) then
  some (([]:List Int),0,false)
 else
  if decide (r19.1 > 17) then
   some (([]:List Int),0,false)
  else
   Ci.l1 K x0 x2 x3 K r19.2.1 (wr .i64 (r19.1-1)) (0:Int) ([]:List Int)
abbrev Ds.sg:Sig:=⟨[(.one,(.int .i64)),(.one,(.int .i64)),(.box,C8),(.box,Ba)],[],[(.one,(.sl (.int .i64))),(.one,(.int .i64)),(.one,.bool)],[.o]⟩
def Ds (K:Nat) (x0:Int) (x1:Int) (x2:Av) (x3:Aa):Option ((List Int) × Int × Bool × Av × Aa) :=
 (D5 K x3 x1).bind fun r14 =>
 (Ci K x2 x0 x1 r14).bind fun r15 =>
 some (r15.1,r15.2.1,r15.2.2,x2,x3)
abbrev A5.sg:Sig:=⟨[(.one,(.int .i64)),(.one,(.int .i64)),(.one,(.int .i64)),(.fn 159 2,.un),(.hid,C8),(.hid,Ba)],[],[(.agg,Ba),(.one,(.int .i64)),(.one,.bool)],[.s,.o]⟩
def A5.l1 (K:Nat) (r17:Aa) (x1:Int):Nat→Int→Int→ByteArray→Int→Int→(List (List Int))→Int→(List (List Int))→Option (Aa × Int × Bool × Av × Aa)
 | 0,_,_,_,_,_,_,_,_=>none
 | k+1,at_16,t_11,h_12,h_13,h_14,h_15,t_10,g_17 =>
  if decide (t_11<x1) then
   (Ds K at_16 t_11 ((h_12,h_13):Av) ((h_14,h_15):Aa)).bind fun r26 =>
   if (!r26.2.2.1) then
    some (((0,([]:List (List Int))):Aa),0,false,r26.2.2.2.1,r26.2.2.2.2)
   else
    if (0:Int)≤t_11∧t_11<((g_17.length:Nat):Int) then
    A5.l1 K r17 x1 k r26.2.1 (wr .i64 (t_11+1)) r26.2.2.2.1.Data r26.2.2.2.1.N r26.2.2.2.2.N r26.2.2.2.2.Out t_10 ((g_17).set t_11.toNat r26.1)
    else none
  else
   (C0 K ((r17.N,g_17):Aa)).bind fun r43 =>
   some (((r17.N,g_17):Aa),at_16,r43,((h_12,h_13):Av),((h_14,h_15):Aa))
def A5 (K:Nat) (x0:Int) (x1:Int) (x2:Int) (x4:Av) (x5:Aa):Option (Aa × Int × Bool × Av × Aa) :=
 (Dl K x0).bind fun r17 =>
 A5.l1 K r17 x1 K x2 (0:Int) x4.Data x4.N x5.N x5.Out (0:Int) r17.Out
abbrev D6.sg:Sig:=⟨[(.agg,Ba),(.agg,C8)],[],[(.agg,Ba),(.one,.bool)],[.s,.o]⟩
def D6 (K:Nat) (x0:Aa) (x1:Av):Option (Aa × Bool) :=
 (Dp K x1).bind fun r13 =>
 if (!r13.2.2) then
  some (((0,([]:List (List Int))):Aa),false)
 else
  (A5 K r13.1 r13.1 r13.2.1 x1 x0).bind fun r25 =>
  if r25.2.2.1 then
   some (r25.1,(r25.2.1 == r25.2.2.2.1.N))
  else
   some (r25.1,false)
abbrev Dj.sg:Sig:=⟨[(.one,(.sl Bb)),(.one,(.int .i64))],[],[(.agg,Ba),(.one,(.int .i64))],[.s,.o]⟩
def Dj.l1 (K:Nat):List Ae→Int→Int→Int→(List (List Int))→Option (Aa × Int)
 | [],t_10,t_11,g_12,g_13 =>
  some (((g_12,g_13):Aa),0)
 | el_21::k,t_10,t_11,g_12,g_13 =>
  if (el_21.Base == 0) then
   (D4 K el_21.Data).bind fun r34 =>
   if (!r34.2) then
    some (((0,([]:List (List Int))):Aa),9)
   else
    Dj.l1 K k t_10 t_11 r34.1.N r34.1.Out
  else
   (D6 K ((g_12,g_13):Aa) el_21.Data).bind fun r41 =>
   if (!r41.2) then
    some (((0,([]:List (List Int))):Aa),9)
   else
    Dj.l1 K k t_10 t_11 r41.1.N r41.1.Out
def Dj (K:Nat) (x0:List Ae) (x1:Int):Option (Aa × Int) :=
 (D8 K x0 x1).bind fun r15 =>
 if (r15.2 != 0) then
  some (((0,([]:List (List Int))):Aa),r15.2)
 else
  (Dc K x0 x1 3).bind fun r24 =>
  if r24.length<4611686018427387904 then
  Dj.l1 K (List.reverse r24) (0:Int) (0:Int) (0:Int) ([]:List (List Int))
  else none
abbrev Ca.sg:Sig:=⟨[(.one,(.sl Bb))],[],[(.one,(.sl Ba)),(.one,(.int .i64))],[.o1]⟩
def Ca.l1 (K:Nat) (x0:List Ae):Nat→Int→Int→(List Aa)→Option ((List Aa) × Int)
 | 0,_,_,_=>none
 | k+1,t_10,t_11,all_12 =>
  if decide (t_11<t_10) then
   if (0:Int)≤t_11∧t_11<((x0.length:Nat):Int) then
   (Dj K x0 ((nth x0 t_11).ID)).bind fun r22 =>
   if (r22.2 != 0) then
    some (([]:List Aa),r22.2)
   else
    if (all_12.length+([r22.1]:List Aa).length)*32≤140737488355328 then
    Ca.l1 K x0 k t_10 (wr .i64 (t_11+1)) (all_12++([r22.1]:List Aa))
    else none
   else none
  else
   some (all_12,0)
def Ca (K:Nat) (x0:List Ae):Option ((List Aa) × Int) :=
 (C6 K x0).bind fun r10 =>
 if (!r10) then
  some (([]:List Aa),1)
 else
  Ca.l1 K x0 K ((x0.length:Nat):Int) (0:Int) ([]:List Aa)
abbrev Br:Type:=Int × Int
abbrev Dg:Ty:=(.pr (.int .i64) (.int .i64))
abbrev Br.A (x:Br):Int:=x.1
abbrev Br.B (x:Br):Int:=x.2
abbrev Cd.sg:Sig:=⟨[(.agg,Ba)],[],[(.one,(.sl Dg))],[.o]⟩
def Cd.l2 (K:Nat) (go_l1:Int→Int→(List Br)→Option (List Br)) (t_10:Int) (t_11:Int) (x0:Aa):Nat→(List Int)→Int→Int→(List Br)→Option (List Br)
 | 0,_,_,_,_=>none
 | k+1,t_12,t_13,t_14,l_15 =>
  if decide (t_14<t_13) then
   if (0:Int)≤t_14∧t_14<((t_12.length:Nat):Int) then
   if (l_15.length+([((t_11,nth t_12 t_14):Br)]:List Br).length)*16≤140737488355328 then
   Cd.l2 K go_l1 t_10 t_11 x0 k t_12 t_13 (wr .i64 (t_14+1)) (l_15++([((t_11,nth t_12 t_14):Br)]:List Br))
   else none
   else none
  else
   go_l1 t_10 (wr .i64 (t_11+1)) l_15
def Cd.l1 (K:Nat) (x0:Aa):Nat→Int→Int→(List Br)→Option (List Br)
 | 0,_,_,_=>none
 | k+1,t_10,t_11,l_16 =>
  if decide (t_11<t_10) then
   if (0:Int)≤t_11∧t_11<((x0.Out.length:Nat):Int) then
   Cd.l2 K (Cd.l1 K x0 k) t_10 t_11 x0 K (nth x0.Out t_11) (((nth x0.Out t_11).length:Nat):Int) (0:Int) l_16
   else none
  else
   some l_16
def Cd (K:Nat) (x0:Aa):Option (List Br) :=
 Cd.l1 K x0 K ((x0.Out.length:Nat):Int) (0:Int) ([]:List Br)
abbrev Co.sg:Sig:=⟨[(.one,(.sl Bb))],[],[(.one,(.sl (.int .i64))),(.one,(.int .i64))],[.o]⟩
def Co.l1 (K:Nat) (r11:(List Aa) × Int):Nat→Int→Int→(List Int)→Option ((List Int) × Int)
 | 0,_,_,_=>none
 | k+1,t_10,t_11,n_12 =>
  if decide (t_11<t_10) then
   if (0:Int)≤t_11∧t_11<((r11.1.length:Nat):Int) then
   (Cd K (nth r11.1 t_11)).bind fun r25 =>
   if (n_12.length+([((r25.length:Nat):Int)]:List Int).length)*8≤140737488355328 then
   Co.l1 K r11 k t_10 (wr .i64 (t_11+1)) (n_12++([((r25.length:Nat):Int)]:List Int))
   else none
   else none
  else
   some (n_12,0)
def Co (K:Nat) (x0:List Ae):Option ((List Int) × Int) :=
 (Ca K x0).bind fun r11 =>
 if (r11.2 != 0) then
  some (([]:List Int),r11.2)
 else
  Co.l1 K r11 K ((r11.1.length:Nat):Int) (0:Int) ([]:List Int)
abbrev Cp.sg:Sig:=⟨[(.one,(.int .i64))],[],[(.one,(.int .i64))],[]⟩
def Cp (K:Nat) (x0:Int):Option Int :=
 some x0
abbrev Cg.sg:Sig:=⟨[(.one,(.sl Bb)),(.one,(.int .i64)),(.one,(.int .i64))],[],[(.one,(.sl (.int .i64))),(.one,(.int .i64))],[.o]⟩
def Cg.j2 (K:Nat) (go_l1:Int→Int→(List Int)→Option ((List Int) × Int)) (ids_13:List Int) (r23:(List Aa) × Int) (t_10:Int) (t_11:Int) (x0:List Ae) (x1:Int) (x2:Int) (t_12:Bool):Option ((List Int) × Int) :=
 if t_12 then
  if (0:Int)≤t_11∧t_11<((x0.length:Nat):Int) then
  if (ids_13.length+([(nth x0 t_11).ID]:List Int).length)*8≤140737488355328 then
  go_l1 t_10 (wr .i64 (t_11+1)) (ids_13++([(nth x0 t_11).ID]:List Int))
  else none
  else none
 else
  go_l1 t_10 (wr .i64 (t_11+1)) ids_13
def Cg.l1 (K:Nat) (r23:(List Aa) × Int) (x0:List Ae) (x1:Int) (x2:Int):Nat→Int→Int→(List Int)→Option ((List Int) × Int)
 | 0,_,_,_=>none
 | k+1,t_10,t_11,ids_13 =>
  if decide (t_11<t_10) then
   if (0:Int)≤t_11∧t_11<((r23.1.length:Nat):Int) then
   (Dx K (nth r23.1 t_11) x1).bind fun r38 =>
   if r38 then
    if (0:Int)≤x1∧x1<((((nth r23.1 t_11).Out).length:Nat):Int) then
    (Bz K (nth ((nth r23.1 t_11).Out) x1) x2).bind fun r46 =>
    Cg.j2 K (Cg.l1 K r23 x0 x1 x2 k) ids_13 r23 t_10 t_11 x0 x1 x2 r46
    else none
   else
    Cg.j2 K (Cg.l1 K r23 x0 x1 x2 k) ids_13 r23 t_10 t_11 x0 x1 x2 false
   else none
  else
   some (ids_13,0)
def Cg (K:Nat) (x0:List Ae) (x1:Int) (x2:Int):Option ((List Int) × Int) :=
 (Dn K x1).bind fun r14 =>
 if (!r14) then
  some (([]:List Int),1)
 else
  (Dn K x2).bind fun r18 =>
  if (!r18) then
   some (([]:List Int),1)
  else
   (Ca K x0).bind fun r23 =>
   if (r23.2 != 0) then
    some (([]:List Int),r23.2)
   else
    Cg.l1 K r23 x0 x1 x2 K ((r23.1.length:Nat):Int) (0:Int) ([]:List Int)
abbrev Du.sg:Sig:=⟨[(.one,(.sl Bb)),(.one,(.int .i64))],[],[(.agg,Ba),(.one,(.int .i64))],[.s,.o]⟩
def Du (K:Nat) (x0:List Ae) (x1:Int):Option (Aa × Int) :=
 (C6 K x0).bind fun r7 =>
 if (!r7) then
  some (((0,([]:List (List Int))):Aa),1)
 else
  (Dj K x0 x1).bind fun r12 =>
  some (r12.1,r12.2)
abbrev D3.sg:Sig:=⟨[(.agg,Ba),(.agg,Dg)],[],[(.one,.bool)],[]⟩
def D3 (K:Nat) (x0:Aa) (x1:Br):Option Bool :=
 (Dx K x0 x1.A).bind fun r8 =>
 if r8 then
  if (0:Int)≤x1.A∧x1.A<((x0.Out.length:Nat):Int) then
  (Bz K (nth x0.Out x1.A) x1.B).bind fun r18 =>
  some r18
  else none
 else
  some false
abbrev Dt.sg:Sig:=⟨[(.agg,Dg),(.ro,Ba)],[],[(.one,.bool)],[]⟩
def Dt (K:Nat) (x0:Br) (x1:Aa):Option Bool :=
 (D3 K x1 x0).bind fun r6 =>
 some r6
abbrev Ai.sg:Sig:=⟨[(.one,(.sl Dg)),(.fr 181,Ba)],[],[(.one,(.int .i64))],[]⟩
def Ai.l1 (K:Nat) (x0:List Br):Nat→Aa→Int→Int→Option Int
 | 0,_,_,_=>none
 | k+1,f_10,t_11,t_12 =>
  if decide (t_12<t_11) then
   if (0:Int)≤t_12∧t_12<((x0.length:Nat):Int) then
   (Dt K (nth x0 t_12) f_10).bind fun r16 =>
   if r16 then
    some t_12
   else
    Ai.l1 K x0 k f_10 t_11 (wr .i64 (t_12+1))
   else none
  else
   some ((-1):Int)
def Ai (K:Nat) (x0:List Br) (x1:Aa):Option Int :=
 Ai.l1 K x0 K x1 ((x0.length:Nat):Int) (0:Int)
abbrev Ah.sg:Sig:=⟨[(.one,(.sl Dg)),(.fr 181,Ba)],[.o],[(.one,(.sl Dg))],[.o]⟩
def Ah.l1 (K:Nat):Nat→Aa→Int→Int→(List Br)→Option (List Br)
 | 0,_,_,_,_=>none
 | k+1,del_10,i_13,j_11,s_12 =>
  if decide (j_11<((s_12.length:Nat):Int)) then
   if (0:Int)≤j_11∧j_11<((s_12.length:Nat):Int) then
   (Dt K (nth s_12 j_11) del_10).bind fun r28 =>
   if (!r28) then
    if (0:Int)≤i_13∧i_13<((s_12.length:Nat):Int) then
    Ah.l1 K k del_10 (wr .i64 (i_13+1)) (wr .i64 (j_11+1)) ((s_12).set i_13.toNat (nth s_12 j_11))
    else none
   else
    Ah.l1 K k del_10 i_13 (wr .i64 (j_11+1)) s_12
   else none
  else
   if (0:Int)≤i_13∧i_13≤((s_12.length:Nat):Int)∧((s_12.length:Nat):Int)≤((s_12.length:Nat):Int) then
   if (0:Int)≤i_13∧i_13≤(((ovp s_12 (0+i_13.toNat) (List.replicate (((s_12.length:Nat):Int).toNat-i_13.toNat) ((0,0):Br))).length:Nat):Int) then
   some ((ovp s_12 (0+i_13.toNat) (List.replicate (((s_12.length:Nat):Int).toNat-i_13.toNat) ((0,0):Br))).take i_13.toNat)
   else none
   else none
def Ah (K:Nat) (x0:List Br) (x1:Aa):Option (List Br) :=
 (Ai K x0 x1).bind fun r10 =>
 if (r10 == (-1)) then
  some x0
 else
  Ah.l1 K K x1 r10 (wr .i64 (r10+1)) x0
abbrev D7.sg:Sig:=⟨[(.agg,Ba),(.agg,Ba)],[],[(.one,(.sl Dg))],[.o]⟩
def D7 (K:Nat) (x0:Aa) (x1:Aa):Option (List Br) :=
 (Cd K x1).bind fun r6 =>
 (Ah K r6 x0).bind fun r8 =>
 some r8
abbrev D9.sg:Sig:=⟨[(.agg,Ba),(.agg,Ba)],[],[(.one,(.sl Dg)),(.one,(.sl Dg)),(.one,(.int .i64))],[.o,.o]⟩
def D9 (K:Nat) (x0:Aa) (x1:Aa):Option ((List Br) × (List Br) × Int) :=
 (C0 K x0).bind fun r8 =>
 if (!r8) then
  some (([]:List Br),([]:List Br),1)
 else
  (C0 K x1).bind fun r12 =>
  if (!r12) then
   some (([]:List Br),([]:List Br),1)
  else
   (D7 K x0 x1).bind fun r17 =>
   (D7 K x1 x0).bind fun r20 =>
   some (r17,r20,0)
abbrev D0.sg:Sig:=⟨[(.one,(.sl Bb)),(.one,(.int .i64)),(.one,(.int .i64))],[],[(.one,(.sl Dg)),(.one,(.sl Dg)),(.one,(.int .i64))],[.o,.o]⟩
def D0 (K:Nat) (x0:List Ae) (x1:Int) (x2:Int):Option ((List Br) × (List Br) × Int) :=
 (Du K x0 x1).bind fun r14 =>
 if (r14.2 != 0) then
  some (([]:List Br),([]:List Br),r14.2)
 else
  (Du K x0 x2).bind fun r23 =>
  if (r23.2 != 0) then
   some (([]:List Br),([]:List Br),r23.2)
  else
   (D9 K r14.1 r23.1).bind fun r31 =>
   some (r31.1,r31.2.1,r31.2.2)
abbrev Bn.sg:Sig:=⟨[(.one,(.sl Dg)),(.one,(.sl Dg))],[],[(.one,.bool)],[]⟩
def Bn.l1 (K:Nat) (x0:List Br) (x1:List Br):Nat→Int→Option Bool
 | 0,_=>none
 | k+1,i_10 =>
  if decide (i_10<((x0.length:Nat):Int)) then
   if (0:Int)≤i_10∧i_10<((x0.length:Nat):Int) then
   if (0:Int)≤i_10∧i_10<((x1.length:Nat):Int) then
   if (!((((nth x0 i_10).A) == ((nth x1 i_10).A)) && ((((nth x0 i_10).B) == ((nth x1 i_10).B)) && true))) then
    some false
   else
    Bn.l1 K x0 x1 k (wr .i64 (i_10+1))
   else none
   else none
  else
   some true
def Bn (K:Nat) (x0:List Br) (x1:List Br):Option Bool :=
 if (((x0.length:Nat):Int) != ((x1.length:Nat):Int)) then
  some false
 else
  Bn.l1 K x0 x1 K (0:Int)
abbrev B5.sg:Sig:=⟨[(.one,(.sl Bb)),(.one,(.int .i64))],[],[(.one,(.int .i64))],[]⟩
def B5.l1 (K:Nat) (x0:List Ae) (x1:Int):Nat→Int→Option Int
 | 0,_=>none
 | k+1,i_10 =>
  if decide (i_10<((x0.length:Nat):Int)) then
   if (0:Int)≤i_10∧i_10<((x0.length:Nat):Int) then
   if (((nth x0 i_10).ID) == x1) then
    some i_10
   else
    B5.l1 K x0 x1 k (wr .i64 (i_10+1))
   else none
  else
   some ((-1):Int)
def B5 (K:Nat) (x0:List Ae) (x1:Int):Option Int :=
 B5.l1 K x0 x1 K (0:Int)
abbrev Bp.sg:Sig:=⟨[(.one,(.sl Bb)),(.one,(.int .i64))],[],[(.one,(.int .i64)),(.one,(.int .i64))],[]⟩
def Bp.l1 (K:Nat) (x0:List Ae):Nat→Int→Int→Option (Int × Int)
 | 0,_,_=>none
 | k+1,id_11,n_10 =>
  if (id_11 != 0) then
   if decide ((wr .i64 (n_10+1)) > 3) then
    some (0,2)
   else
    (B5 K x0 id_11).bind fun r20 =>
    if (0:Int)≤r20∧r20<((x0.length:Nat):Int) then
    Bp.l1 K x0 k ((nth x0 r20).Base) (wr .i64 (n_10+1))
    else none
  else
   some (n_10,0)
def Bp (K:Nat) (x0:List Ae) (x1:Int):Option (Int × Int) :=
 (B5 K x0 x1).bind fun r9 =>
 if decide (r9<0) then
  some (0,3)
 else
  Bp.l1 K x0 K x1 (0:Int)
abbrev Df.sg:Sig:=⟨[(.agg,C8),(.one,(.int .i64))],[],[(.one,(.int .i64))],[]⟩
def Df (K:Nat) (x0:Av) (x1:Int):Option Int :=
 if (8:Int)≠0 then
 if (0:Int)≤(wr .i64 (x1.tdiv 8))∧(wr .i64 (x1.tdiv 8))<((x0.Data.size:Nat):Int) then
 if (8:Int)≠0 then
 if (0:Int)≤(wr .i64 (7-(x1.tmod 8))) then
 some (ib .and .i64 ((wr .i64 (bt x0.Data (wr .i64 (x1.tdiv 8)))).fdiv (2 ^ min ((wr .i64 (7-(x1.tmod 8)))).toNat 64)) 1)
 else none
 else none
 else none
 else none
abbrev Cb.sg:Sig:=⟨[(.agg,C8)],[],[(.one,(.sl (.int .u8)))],[.o]⟩
def Cb.l1 (K:Nat) (x0:Av):Nat→Int→(List Int)→Option (List Int)
 | 0,_,_=>none
 | k+1,i_10,l_11 =>
  if decide (i_10<x0.N) then
   (Df K x0 i_10).bind fun r14 =>
   if (l_11.length+([wr .u8 r14]:List Int).length)*1≤140737488355328 then
   Cb.l1 K x0 k (wr .i64 (i_10+1)) (l_11++([wr .u8 r14]:List Int))
   else none
  else
   some l_11
def Cb (K:Nat) (x0:Av):Option (List Int) :=
 Cb.l1 K x0 K (0:Int) ([]:List Int)
abbrev Az.sg:Sig:=⟨[(.one,(.sl (.int .u8))),(.one,(.int .i64))],[],[(.one,(.int .i64))],[]⟩
def Az.l1 (K:Nat) (x0:List Int) (x1:Int):Nat→Int→Option Int
 | 0,_=>none
 | k+1,i_10 =>
  if decide (i_10<((x0.length:Nat):Int)) then
   if (0:Int)≤i_10∧i_10<((x0.length:Nat):Int) then
   if ((nth x0 i_10) == 1) then
    some (wr .i64 (i_10-x1))
   else
    Az.l1 K x0 x1 k (wr .i64 (i_10+1))
   else none
  else
   some ((-1):Int)
def Az (K:Nat) (x0:List Int) (x1:Int):Option Int :=
 Az.l1 K x0 x1 K x1
abbrev A7.sg:Sig:=⟨[(.one,(.sl (.int .u8))),(.one,(.int .i64)),(.one,(.int .i64))],[],[(.one,(.int .i64))],[]⟩
def A7.l1 (K:Nat) (x0:List Int) (x1:Int) (x2:Int):Nat→Int→Int→Option Int
 | 0,_,_=>none
 | k+1,v_10,i_11 =>
  if decide (i_11<(wr .i64 (x1+x2))) then
   if (0:Int)≤i_11∧i_11<((x0.length:Nat):Int) then
   A7.l1 K x0 x1 x2 k (wr .i64 ((wr .i64 (2*v_10))+(wr .i64 (nth x0 i_11)))) (wr .i64 (i_11+1))
   else none
  else
   some v_10
def A7 (K:Nat) (x0:List Int) (x1:Int) (x2:Int):Option Int :=
 A7.l1 K x0 x1 x2 K (0:Int) x1
abbrev Ax.sg:Sig:=⟨[(.one,(.int .i64))],[],[(.one,(.int .i64))],[]⟩
def Ax.l1 (K:Nat):Nat→Int→Int→Option Int
 | 0,_,_=>none
 | k+1,n_11,k_10 =>
  if decide (n_11 > 1) then
   if (0:Int)≤1 then
   Ax.l1 K k (n_11.fdiv (2 ^ min ((1:Int)).toNat 64)) (wr .i64 (k_10+1))
   else none
  else
   some k_10
def Ax (K:Nat) (x0:Int):Option Int :=
 Ax.l1 K K x0 (0:Int)
abbrev Cn.sg:Sig:=⟨[(.one,(.int .i64)),(.one,(.int .i64)),(.one,(.int .i64))],[],[(.one,.bool)],[]⟩
def Cn (K:Nat) (x0:Int) (x1:Int) (x2:Int):Option Bool :=
 if decide (x0≥x1) then
  some (decide (x0≤x2))
 else
  some false
abbrev Dd.sg:Sig:=⟨[(.one,(.int .i64)),(.one,(.int .i64))],[],[(.one,.bool)],[]⟩
def Dd (K:Nat) (x0:Int) (x1:Int):Option Bool :=
 if (x0 == 1) then
  (Cn K x1 1 1000).bind fun r8 =>
  some r8
 else
  (Cn K x0 2 5).bind fun r10 =>
  if r10 then
   (Cn K x1 1 1073741824).bind fun r13 =>
   some r13
  else
   some false
abbrev Ac.sg:Sig:=⟨[(.one,(.sl (.int .u8))),(.one,(.int .i64)),(.one,(.int .i64))],[],[(.one,(.int .i64)),(.one,(.int .i64))],[]⟩
def Ac.j1 (K:Nat) (rec_:(List Int)→Int→Int→Option (Int × Int)) (x2:Int) (t_14:Int) (t_15:Int):Option (Int × Int) :=
 (Dd K x2 t_14).bind fun r161 =>
 if (!r161) then
  some ((-1),0)
 else
  some (t_14,t_15)
def Ac.j3 (K:Nat) (rec_:(List Int)→Int→Int→Option (Int × Int)) (r19:Int) (t_11:Int) (x2:Int) (t_12:Int) (t_13:Int):Option (Int × Int) :=
 if (0:Int)≤(wr .i64 (r19*t_11)) then
 Ac.j1 K rec_ x2 (wr .i64 ((wr .i64 ((1:Int)*2 ^ min ((wr .i64 (r19*t_11))).toNat 64))+t_13)) t_12
 else none
def Ac.j2 (K:Nat) (rec_:(List Int)→Int→Int→Option (Int × Int)) (r19:Int) (x0:List Int) (x2:Int) (t_10:Int) (t_11:Int):Option (Int × Int) :=
 if decide (r19 > 15) then
  some ((-1),0)
 else
  if (0:Int)≤(wr .i64 ((wr .i64 (r19+1))*t_11)) then
  if (0:Int)≤(wr .i64 (r19*t_11)) then
  (Ax K (wr .i64 ((wr .i64 ((wr .i64 ((1:Int)*2 ^ min ((wr .i64 ((wr .i64 (r19+1))*t_11))).toNat 64))-(wr .i64 ((1:Int)*2 ^ min ((wr .i64 (r19*t_11))).toNat 64))))-1))).bind fun r43 =>
  if decide ((wr .i64 ((wr .i64 (t_10+(wr .i64 (r43+1))))-1)) > ((x0.length:Nat):Int)) then
   some ((-1),0)
  else
   (A7 K x0 t_10 (wr .i64 ((wr .i64 (r43+1))-1))).bind fun r56 =>
   if (0:Int)≤(wr .i64 (r43+1)) then
   if decide (r56≥(wr .i64 ((wr .i64 ((1:Int)*2 ^ min ((wr .i64 (r43+1))).toNat 64))-(wr .i64 ((wr .i64 ((1:Int)*2 ^ min ((wr .i64 ((wr .i64 (r19+1))*t_11))).toNat 64))-(wr .i64 ((1:Int)*2 ^ min ((wr .i64 (r19*t_11))).toNat 64))))))) then
    if decide ((wr .i64 ((wr .i64 ((wr .i64 (t_10+(wr .i64 (r43+1))))-1))+1)) > ((x0.length:Nat):Int)) then
     some ((-1),0)
    else
     if (0:Int)≤(wr .i64 ((wr .i64 (t_10+(wr .i64 (r43+1))))-1))∧(wr .i64 ((wr .i64 (t_10+(wr .i64 (r43+1))))-1))<((x0.length:Nat):Int) then
     if (0:Int)≤(wr .i64 (r43+1)) then
     Ac.j3 K rec_ r19 t_11 x2 (wr .i64 ((wr .i64 ((wr .i64 (t_10+(wr .i64 (r43+1))))-1))+1)) (wr .i64 ((wr .i64 ((wr .i64 (2*r56))+(wr .i64 (nth x0 (wr .i64 ((wr .i64 (t_10+(wr .i64 (r43+1))))-1))))))-(wr .i64 ((wr .i64 ((1:Int)*2 ^ min ((wr .i64 (r43+1))).toNat 64))-(wr .i64 ((wr .i64 ((1:Int)*2 ^ min ((wr .i64 ((wr .i64 (r19+1))*t_11))).toNat 64))-(wr .i64 ((1:Int)*2 ^ min ((wr .i64 (r19*t_11))).toNat 64))))))))
     else none
     else none
   else
    Ac.j3 K rec_ r19 t_11 x2 (wr .i64 ((wr .i64 (t_10+(wr .i64 (r43+1))))-1)) r56
   else none
  else none
  else none
def Ac:Nat→(List Int)→Int→Int→Option (Int × Int)
 | 0,_,_,_=>none
 | K+1,x0,x1,x2 =>
  (Az K x0 x1).bind fun r19 =>
  if decide (r19<0) then
   some ((-1),0)
  else
   if (x2 == 1) then
    Ac.j1 K (Ac K) x2 (wr .i64 (r19+1)) (wr .i64 ((wr .i64 (x1+r19))+1))
   else
    if (x2 == 2) then
     if decide (r19 > 30) then
      some ((-1),0)
     else
      if decide ((wr .i64 ((wr .i64 (x1+(wr .i64 (2*r19))))+1)) > ((x0.length:Nat):Int)) then
       some ((-1),0)
      else
       (A7 K x0 (wr .i64 (x1+r19)) (wr .i64 (r19+1))).bind fun r117 =>
       Ac.j1 K (Ac K) x2 r117 (wr .i64 ((wr .i64 (x1+(wr .i64 (2*r19))))+1))
    else
     if (x2 == 3) then
      ((Ac K) x0 x1 2).bind fun r128 =>
      if decide (r128.1<1) then
       some ((-1),0)
      else
       if decide (r128.1 > 31) then
        some ((-1),0)
       else
        if decide ((wr .i64 ((wr .i64 (r128.2+r128.1))-1)) > ((x0.length:Nat):Int)) then
         some ((-1),0)
        else
         if (0:Int)≤(wr .i64 (r128.1-1)) then
         (A7 K x0 r128.2 (wr .i64 (r128.1-1))).bind fun r153 =>
         Ac.j1 K (Ac K) x2 (wr .i64 ((wr .i64 ((1:Int)*2 ^ min ((wr .i64 (r128.1-1))).toNat 64))+r153)) (wr .i64 ((wr .i64 (r128.2+r128.1))-1))
         else none
     else
      if (x2 == 5) then
       Ac.j2 K (Ac K) r19 x0 x2 (wr .i64 ((wr .i64 (x1+r19))+1)) (3:Int)
      else
       Ac.j2 K (Ac K) r19 x0 x2 (wr .i64 ((wr .i64 (x1+r19))+1)) (2:Int)
abbrev Cu.sg:Sig:=⟨[(.one,(.int .i64))],[],[(.agg,Ba)],[.s,.o]⟩
def Cu (K:Nat) (x0:Int):Option Aa :=
 if x0=x0∧(0:Int)≤x0∧(24:Int)*x0≤281474976710656∧x0≤9223372036854775807 then
 some ((x0,List.replicate x0.toNat ([]:List Int)):Aa)
 else none
abbrev Cv.sg:Sig:=⟨[(.one,(.int .i64))],[],[(.one,(.int .i64))],[]⟩
def Cv (K:Nat) (x0:Int):Option Int :=
 if (2:Int)≠0 then
 if ((x0.tmod 2) == 0) then
  if (2:Int)≠0 then
  some (wr .i64 (x0.tdiv 2))
  else none
 else
  if (2:Int)≠0 then
  some (wr .i64 ((wr .i64 (0-(wr .i64 (x0+1)))).tdiv 2))
  else none
 else none
abbrev Cw.sg:Sig:=⟨[(.one,(.int .i64)),(.one,(.int .i64))],[],[(.one,.bool)],[]⟩
def Cw (K:Nat) (x0:Int) (x1:Int):Option Bool :=
 if decide (x0≥0) then
  some (decide (x0≤x1))
 else
  some false
abbrev Cs.sg:Sig:=⟨[(.one,(.int .i64))],[],[(.one,.bool)],[]⟩
def Cs (K:Nat) (x0:Int):Option Bool :=
 (Cw K x0 15).bind fun r4 =>
 some r4
abbrev Bk.sg:Sig:=⟨[(.one,(.sl (.int .i64)))],[],[(.one,.bool)],[]⟩
def Bk.l1 (K:Nat) (x0:List Int):Nat→Int→Option Bool
 | 0,_=>none
 | k+1,i_10 =>
  if decide (i_10<((x0.length:Nat):Int)) then
   if decide (i_10≤16) then
    if (0:Int)≤i_10∧i_10<((x0.length:Nat):Int) then
    (Cs K (nth x0 i_10)).bind fun r18 =>
    if (!r18) then
     some false
    else
     if decide (i_10 > 0) then
      if (0:Int)≤(wr .i64 (i_10-1))∧(wr .i64 (i_10-1))<((x0.length:Nat):Int) then
      if (0:Int)≤i_10∧i_10<((x0.length:Nat):Int) then
      if decide ((nth x0 (wr .i64 (i_10-1)))≥(nth x0 i_10)) then
       some false
      else
       Bk.l1 K x0 k (wr .i64 (i_10+1))
      else none
      else none
     else
      Bk.l1 K x0 k (wr .i64 (i_10+1))
    else none
   else
    some (decide (((x0.length:Nat):Int)≤16))
  else
   some (decide (((x0.length:Nat):Int)≤16))
def Bk (K:Nat) (x0:List Int):Option Bool :=
 Bk.l1 K x0 K (0:Int)
abbrev Bc.sg:Sig:=⟨[(.one,(.sl (.int .u8))),(.one,(.int .i64)),(.one,(.int .i64))],[],[(.one,(.sl (.int .i64))),(.one,(.int .i64)),(.one,.bool)],[.o]⟩
def Bc.l1 (K:Nat) (r18:Int × Int) (x0:List Int) (x2:Int):Nat→Int→Int→Int→(List Int)→Option ((List Int) × Int × Bool)
 | 0,_,_,_,_=>none
 | k+1,at_12,last_10,i_11,l_13 =>
  if decide (i_11<(wr .i64 (r18.1-1))) then
   (Ac K x0 at_12 2).bind fun r37 =>
   if decide (r37.1<1) then
    some (([]:List Int),0,false)
   else
    if (i_11 == 0) then
     (Cv K (wr .i64 (r37.1-1))).bind fun r48 =>
     if (l_13.length+([wr .i64 (x2+r48)]:List Int).length)*8≤140737488355328 then
     Bc.l1 K r18 x0 x2 k r37.2 (wr .i64 (x2+r48)) (wr .i64 (i_11+1)) (l_13++([wr .i64 (x2+r48)]:List Int))
     else none
    else
     if (l_13.length+([wr .i64 (last_10+r37.1)]:List Int).length)*8≤140737488355328 then
     Bc.l1 K r18 x0 x2 k r37.2 (wr .i64 (last_10+r37.1)) (wr .i64 (i_11+1)) (l_13++([wr .i64 (last_10+r37.1)]:List Int))
     else none
  else
   (Bk K l_13).bind fun r58 =>
   if (!r58) then
    some (([]:List Int),0,false)
   else
    some (l_13,at_12,true)
def Bc (K:Nat) (x0:List Int) (x1:Int) (x2:Int):Option ((List Int) × Int × Bool) :=
 (Ac K x0 x1 2).bind fun r18 =>
 if decide (r18.1<1) then
  some (([]:List Int),0,false)
 else
  if decide ((wr .i64 (r18.1-1)) > 16) then
   some (([]:List Int),0,false)
  else
   Bc.l1 K r18 x0 x2 K r18.2 (0:Int) (0:Int) ([]:List Int)
abbrev Aj.sg:Sig:=⟨[(.one,(.sl C1)),(.one,(.sl (.int .i64)))],[],[(.one,(.sl (.int .i64))),(.one,.bool)],[.o]⟩
def Aj.l4 (K:Nat):Nat→Int→(List Bool)→(List Int)→Option ((List Int) × Bool)
 | 0,_,_,_=>none
 | k+1,t_16,t_20,t_19 =>
  if decide (t_16<16) then
   if ((0:Int)≤t_16∧t_16<((t_20.length:Nat):Int))∧t_20.length=16 then
   if nth t_20 t_16 then
    if (t_19.length+([t_16]:List Int).length)*8≤140737488355328 then
    Aj.l4 K k (wr .i64 (t_16+1)) t_20 (t_19++([t_16]:List Int))
    else none
   else
    Aj.l4 K k (wr .i64 (t_16+1)) t_20 t_19
   else none
  else
   some (t_19,true)
def Aj.l3 (K:Nat) (x1:List Int):Nat→Int→(List Bool)→Option ((List Int) × Bool)
 | 0,_,_=>none
 | k+1,t_15,t_18 =>
  if decide (t_15<((x1.length:Nat):Int)) then
   if (0:Int)≤t_15∧t_15<((x1.length:Nat):Int) then
   if ((0:Int)≤(nth x1 t_15)∧(nth x1 t_15)<((t_18.length:Nat):Int))∧t_18.length=16 then
   if nth t_18 (nth x1 t_15) then
    some (([]:List Int),false)
   else
    if (0:Int)≤t_15∧t_15<((x1.length:Nat):Int) then
    if ((0:Int)≤(nth x1 t_15)∧(nth x1 t_15)<((t_18.length:Nat):Int))∧t_18.length=16 then
    Aj.l3 K x1 k (wr .i64 (t_15+1)) ((t_18).set (nth x1 t_15).toNat true)
    else none
    else none
   else none
   else none
  else
   Aj.l4 K K (0:Int) t_18 ([]:List Int)
def Aj.l2 (K:Nat) (go_l1:Int→(List Bool)→Option ((List Int) × Bool)) (t_11:Int) (x0:List Ak) (x1:List Int):Nat→Int→(List Bool)→Int→Int→Option ((List Int) × Bool)
 | 0,_,_,_,_=>none
 | k+1,t_14,t_17,t_12,t_13 =>
  if decide (t_14<t_13) then
   if ((0:Int)≤(wr .i64 (t_12+t_14))∧(wr .i64 (t_12+t_14))<((t_17.length:Nat):Int))∧t_17.length=16 then
   Aj.l2 K go_l1 t_11 x0 x1 k (wr .i64 (t_14+1)) ((t_17).set (wr .i64 (t_12+t_14)).toNat true) t_12 t_13
   else none
  else
   go_l1 (wr .i64 (t_11+1)) t_17
def Aj.l1 (K:Nat) (x0:List Ak) (x1:List Int):Nat→Int→(List Bool)→Option ((List Int) × Bool)
 | 0,_,_=>none
 | k+1,t_11,t_10 =>
  if decide (t_11<((x0.length:Nat):Int)) then
   if (0:Int)≤t_11∧t_11<((x0.length:Nat):Int) then
   (Cs K ((nth x0 t_11).At)).bind fun r28 =>
   if (!r28) then
    some (([]:List Int),false)
   else
    if decide (((nth x0 t_11).Len)<3) then
     some (([]:List Int),false)
    else
     if decide (((nth x0 t_11).Len) > (wr .i64 (16-((nth x0 t_11).At)))) then
      some (([]:List Int),false)
     else
      if decide (t_11 > 0) then
       if (0:Int)≤(wr .i64 (t_11-1))∧(wr .i64 (t_11-1))<((x0.length:Nat):Int) then
       if (0:Int)≤(wr .i64 (t_11-1))∧(wr .i64 (t_11-1))<((x0.length:Nat):Int) then
       if decide (((nth x0 t_11).At)≤(wr .i64 (((nth x0 (wr .i64 (t_11-1))).At)+((nth x0 (wr .i64 (t_11-1))).Len)))) then
        some (([]:List Int),false)
       else
        Aj.l2 K (Aj.l1 K x0 x1 k) t_11 x0 x1 K (0:Int) t_10 ((nth x0 t_11).At) ((nth x0 t_11).Len)
       else none
       else none
      else
       Aj.l2 K (Aj.l1 K x0 x1 k) t_11 x0 x1 K (0:Int) t_10 ((nth x0 t_11).At) ((nth x0 t_11).Len)
   else none
  else
   Aj.l3 K x1 K (0:Int) t_10
def Aj (K:Nat) (x0:List Ak) (x1:List Int):Option ((List Int) × Bool) :=
 (Bk K x1).bind fun r14 =>
 if (!r14) then
  some (([]:List Int),false)
 else
  Aj.l1 K x0 x1 K (0:Int) (List.replicate 16 false)
abbrev As.sg:Sig:=⟨[(.one,(.sl (.int .i64)))],[],[(.one,(.sl C1)),(.one,(.sl (.int .i64)))],[.o,.o]⟩
def As.l2 (K:Nat) (go_l1:Int→(List Ak)→(List Int)→Option ((List Ak) × (List Int))) (i_10:Int) (x0:List Int):Nat→Int→(List Ak)→(List Int)→Option ((List Ak) × (List Int))
 | 0,_,_,_=>none
 | k+1,k_11,r_14,rest_15 =>
  if decide (k_11<((x0.length:Nat):Int)) then
   if (0:Int)≤k_11∧k_11<((x0.length:Nat):Int) then
   if (0:Int)≤(wr .i64 (k_11-1))∧(wr .i64 (k_11-1))<((x0.length:Nat):Int) then
   if ((nth x0 k_11) == (wr .i64 ((nth x0 (wr .i64 (k_11-1)))+1))) then
    As.l2 K go_l1 i_10 x0 k (wr .i64 (k_11+1)) r_14 rest_15
   else
    if decide ((wr .i64 (k_11-i_10))≥3) then
     if (0:Int)≤i_10∧i_10<((x0.length:Nat):Int) then
     if (r_14.length+([((nth x0 i_10,wr .i64 (k_11-i_10)):Ak)]:List Ak).length)*16≤140737488355328 then
     go_l1 k_11 (r_14++([((nth x0 i_10,wr .i64 (k_11-i_10)):Ak)]:List Ak)) rest_15
     else none
     else none
    else
     if (0:Int)≤i_10∧i_10≤k_11∧k_11≤((x0.length:Nat):Int) then
     if (rest_15.length+(((x0).drop i_10.toNat).take (k_11.toNat-i_10.toNat)).length)*8≤140737488355328 then
     go_l1 k_11 r_14 (rest_15++(((x0).drop i_10.toNat).take (k_11.toNat-i_10.toNat)))
     else none
     else none
   else none
   else none
  else
   if decide ((wr .i64 (k_11-i_10))≥3) then
    if (0:Int)≤i_10∧i_10<((x0.length:Nat):Int) then
    if (r_14.length+([((nth x0 i_10,wr .i64 (k_11-i_10)):Ak)]:List Ak).length)*16≤140737488355328 then
    go_l1 k_11 (r_14++([((nth x0 i_10,wr .i64 (k_11-i_10)):Ak)]:List Ak)) rest_15
    else none
    else none
   else
    if (0:Int)≤i_10∧i_10≤k_11∧k_11≤((x0.length:Nat):Int) then
    if (rest_15.length+(((x0).drop i_10.toNat).take (k_11.toNat-i_10.toNat)).length)*8≤140737488355328 then
    go_l1 k_11 r_14 (rest_15++(((x0).drop i_10.toNat).take (k_11.toNat-i_10.toNat)))
    else none
    else none
def As.l1 (K:Nat) (x0:List Int):Nat→Int→(List Ak)→(List Int)→Option ((List Ak) × (List Int))
 | 0,_,_,_=>none
 | k+1,i_10,r_12,rest_13 =>
  if decide (i_10<((x0.length:Nat):Int)) then
   As.l2 K (As.l1 K x0 k) i_10 x0 K (wr .i64 (i_10+1)) r_12 rest_13
  else
   some (r_12,rest_13)
def As (K:Nat) (x0:List Int):Option ((List Ak) × (List Int)) :=
 As.l1 K x0 K (0:Int) ([]:List Ak) ([]:List Int)
abbrev Al.sg:Sig:=⟨[(.one,(.sl (.int .u8))),(.one,(.int .i64)),(.one,(.int .i64))],[.o],[(.one,(.sl (.int .u8)))],[.o]⟩
def Al.l1 (K:Nat) (x1:Int):Nat→Int→(List Int)→Option (List Int)
 | 0,_,_=>none
 | k+1,i_10,l_11 =>
  if decide (i_10≥0) then
   if (0:Int)≤i_10 then
   if (l_11.length+([wr .u8 (ib .and .i64 (x1.fdiv (2 ^ min (i_10).toNat 64)) 1)]:List Int).length)*1≤140737488355328 then
   Al.l1 K x1 k (wr .i64 (i_10-1)) (l_11++([wr .u8 (ib .and .i64 (x1.fdiv (2 ^ min (i_10).toNat 64)) 1)]:List Int))
   else none
   else none
  else
   some l_11
def Al (K:Nat) (x0:List Int) (x1:Int) (x2:Int):Option (List Int) :=
 Al.l1 K x1 K (wr .i64 (x2-1)) x0
abbrev Af.sg:Sig:=⟨[(.one,(.sl (.int .u8))),(.one,(.int .i64)),(.one,(.int .i64))],[.o],[(.one,(.sl (.int .u8)))],[.o]⟩
def Af.j2 (K:Nat) (rec_:(List Int)→Int→Int→Option (List Int)) (x0:List Int) (x2:Int) (t_11:Int):Option (List Int) :=
 (Ax K x2).bind fun r56 =>
 if t_11≠0 then
 (Al K x0 0 (wr .i64 (r56.tdiv t_11))).bind fun r61 =>
 (Al K r61 1 1).bind fun r62 =>
 if (0:Int)≤(wr .i64 ((wr .i64 (r56.tdiv t_11))*t_11)) then
 if (0:Int)≤(wr .i64 ((wr .i64 ((wr .i64 (r56.tdiv t_11))+1))*t_11)) then
 if (0:Int)≤(wr .i64 ((wr .i64 (r56.tdiv t_11))*t_11)) then
 (Ax K (wr .i64 ((wr .i64 ((wr .i64 ((1:Int)*2 ^ min ((wr .i64 ((wr .i64 ((wr .i64 (r56.tdiv t_11))+1))*t_11))).toNat 64))-(wr .i64 ((1:Int)*2 ^ min ((wr .i64 ((wr .i64 (r56.tdiv t_11))*t_11))).toNat 64))))-1))).bind fun r81 =>
 if (0:Int)≤(wr .i64 (r81+1)) then
 if decide ((wr .i64 (x2-(wr .i64 ((1:Int)*2 ^ min ((wr .i64 ((wr .i64 (r56.tdiv t_11))*t_11))).toNat 64))))<(wr .i64 ((wr .i64 ((1:Int)*2 ^ min ((wr .i64 (r81+1))).toNat 64))-(wr .i64 ((wr .i64 ((1:Int)*2 ^ min ((wr .i64 ((wr .i64 ((wr .i64 (r56.tdiv t_11))+1))*t_11))).toNat 64))-(wr .i64 ((1:Int)*2 ^ min ((wr .i64 ((wr .i64 (r56.tdiv t_11))*t_11))).toNat 64))))))) then
  (Al K r62 (wr .i64 (x2-(wr .i64 ((1:Int)*2 ^ min ((wr .i64 ((wr .i64 (r56.tdiv t_11))*t_11))).toNat 64)))) (wr .i64 ((wr .i64 (r81+1))-1))).bind fun r93 =>
  some r93
 else
  if (0:Int)≤(wr .i64 (r81+1)) then
  (Al K r62 (wr .i64 ((wr .i64 ((wr .i64 (x2-(wr .i64 ((1:Int)*2 ^ min ((wr .i64 ((wr .i64 (r56.tdiv t_11))*t_11))).toNat 64))))+(wr .i64 ((1:Int)*2 ^ min ((wr .i64 (r81+1))).toNat 64))))-(wr .i64 ((wr .i64 ((1:Int)*2 ^ min ((wr .i64 ((wr .i64 ((wr .i64 (r56.tdiv t_11))+1))*t_11))).toNat 64))-(wr .i64 ((1:Int)*2 ^ min ((wr .i64 ((wr .i64 (r56.tdiv t_11))*t_11))).toNat 64)))))) (wr .i64 (r81+1))).bind fun r102 =>
  some r102
  else none
 else none
 else none
 else none
 else none
 else none
def Af.l1 (K:Nat) (rec_:(List Int)→Int→Int→Option (List Int)) (x2:Int):Nat→Int→(List Int)→Option (List Int)
 | 0,_,_=>none
 | k+1,t_10,t_12 =>
  if decide (t_10<x2) then
   if (t_12.length+([0]:List Int).length)*1≤140737488355328 then
   Af.l1 K rec_ x2 k (wr .i64 (t_10+1)) (t_12++([0]:List Int))
   else none
  else
   if (t_12.length+([1]:List Int).length)*1≤140737488355328 then
   some (t_12++([1]:List Int))
   else none
def Af:Nat→(List Int)→Int→Int→Option (List Int)
 | 0,_,_,_=>none
 | K+1,x0,x1,x2 =>
  if (x1 == 1) then
   Af.l1 K (Af K) x2 K (1:Int) x0
  else
   if (x1 == 2) then
    (Ax K x2).bind fun r31 =>
    (Al K x0 0 r31).bind fun r32 =>
    (Ax K x2).bind fun r35 =>
    (Al K r32 x2 (wr .i64 (r35+1))).bind fun r37 =>
    some r37
   else
    if (x1 == 3) then
     (Ax K x2).bind fun r42 =>
     ((Af K) x0 2 (wr .i64 (r42+1))).bind fun r44 =>
     (Ax K x2).bind fun r47 =>
     if (0:Int)≤r47 then
     (Ax K x2).bind fun r51 =>
     (Al K r44 (wr .i64 (x2-(wr .i64 ((1:Int)*2 ^ min (r47).toNat 64)))) r51).bind fun r52 =>
     some r52
     else none
    else
     if (x1 == 5) then
      Af.j2 K (Af K) x0 x2 (3:Int)
     else
      Af.j2 K (Af K) x0 x2 (2:Int)
abbrev Cx.sg:Sig:=⟨[(.one,(.int .i64))],[],[(.one,(.int .i64))],[]⟩
def Cx (K:Nat) (x0:Int):Option Int :=
 if decide (x0≥0) then
  some (wr .i64 (2*x0))
 else
  some (wr .i64 ((wr .i64 ((-2)*x0))-1))
abbrev Bo.sg:Sig:=⟨[(.one,(.sl (.int .u8))),(.one,(.int .i64)),(.one,(.sl (.int .i64)))],[.o],[(.one,(.sl (.int .u8)))],[.o]⟩
def Bo.l1 (K:Nat) (x1:Int) (x2:List Int):Nat→Int→(List Int)→Option (List Int)
 | 0,_,_=>none
 | k+1,i_10,b_11 =>
  if decide (i_10<((x2.length:Nat):Int)) then
   if (i_10 == 0) then
    if (0:Int)≤(0:Int)∧(0:Int)<((x2.length:Nat):Int) then
    (Cx K (wr .i64 ((nth x2 0)-x1))).bind fun r27 =>
    (Af K b_11 2 (wr .i64 (r27+1))).bind fun r29 =>
    Bo.l1 K x1 x2 k (wr .i64 (i_10+1)) r29
    else none
   else
    if (0:Int)≤i_10∧i_10<((x2.length:Nat):Int) then
    if (0:Int)≤(wr .i64 (i_10-1))∧(wr .i64 (i_10-1))<((x2.length:Nat):Int) then
    (Af K b_11 2 (wr .i64 ((nth x2 i_10)-(nth x2 (wr .i64 (i_10-1)))))).bind fun r41 =>
    Bo.l1 K x1 x2 k (wr .i64 (i_10+1)) r41
    else none
    else none
  else
   some b_11
def Bo (K:Nat) (x0:List Int) (x1:Int) (x2:List Int):Option (List Int) :=
 (Af K x0 2 (wr .i64 (((x2.length:Nat):Int)+1))).bind fun r12 =>
 Bo.l1 K x1 x2 K (0:Int) r12
abbrev Au.sg:Sig:=⟨[(.one,(.sl (.int .u8))),(.one,(.int .i64)),(.one,(.sl (.int .i64)))],[.o],[(.one,(.sl (.int .u8)))],[.o]⟩
def Au.j2 (K:Nat) (go_l1:Int→(List Int)→Option (List Int)) (r12:(List Ak) × (List Int)) (t_10:Int) (x1:Int) (t_11:List Int):Option (List Int) :=
 if (0:Int)≤t_10∧t_10<((r12.1.length:Nat):Int) then
 (Af K t_11 2 (wr .i64 ((wr .i64 (((nth r12.1 t_10).Len)-3))+1))).bind fun r67 =>
 go_l1 (wr .i64 (t_10+1)) r67
 else none
def Au.l1 (K:Nat) (r12:(List Ak) × (List Int)) (x1:Int):Nat→Int→(List Int)→Option (List Int)
 | 0,_,_=>none
 | k+1,t_10,t_12 =>
  if decide (t_10<((r12.1.length:Nat):Int)) then
   if (t_10 == 0) then
    if (0:Int)≤(0:Int)∧(0:Int)<((r12.1.length:Nat):Int) then
    (Cx K (wr .i64 (((nth r12.1 0).At)-x1))).bind fun r35 =>
    (Af K t_12 2 (wr .i64 (r35+1))).bind fun r37 =>
    Au.j2 K (Au.l1 K r12 x1 k) r12 t_10 x1 r37
    else none
   else
    if (0:Int)≤t_10∧t_10<((r12.1.length:Nat):Int) then
    if (0:Int)≤(wr .i64 (t_10-1))∧(wr .i64 (t_10-1))<((r12.1.length:Nat):Int) then
    if (0:Int)≤(wr .i64 (t_10-1))∧(wr .i64 (t_10-1))<((r12.1.length:Nat):Int) then
    (Af K t_12 2 (wr .i64 ((wr .i64 (((nth r12.1 t_10).At)-((nth r12.1 (wr .i64 (t_10-1))).At)))-((nth r12.1 (wr .i64 (t_10-1))).Len)))).bind fun r58 =>
    Au.j2 K (Au.l1 K r12 x1 k) r12 t_10 x1 r58
    else none
    else none
    else none
  else
   (Bo K t_12 x1 r12.2).bind fun r71 =>
   some r71
def Au (K:Nat) (x0:List Int) (x1:Int) (x2:List Int):Option (List Int) :=
 (As K x2).bind fun r12 =>
 (Af K x0 2 (wr .i64 (((r12.1.length:Nat):Int)+1))).bind fun r19 =>
 Au.l1 K r12 x1 K (0:Int) r19
abbrev B4.sg:Sig:=⟨[(.one,(.sl (.int .u8))),(.one,(.int .i64)),(.one,(.sl (.int .u8)))],[],[(.one,.bool)],[]⟩
def B4.l1 (K:Nat) (x0:List Int) (x1:Int) (x2:List Int):Nat→Int→Option Bool
 | 0,_=>none
 | k+1,i_10 =>
  if decide (i_10<((x2.length:Nat):Int)) then
   if decide ((wr .i64 (x1+i_10))≥((x0.length:Nat):Int)) then
    some false
   else
    if (0:Int)≤(wr .i64 (x1+i_10))∧(wr .i64 (x1+i_10))<((x0.length:Nat):Int) then
    if (0:Int)≤i_10∧i_10<((x2.length:Nat):Int) then
    if ((nth x0 (wr .i64 (x1+i_10))) != (nth x2 i_10)) then
     some false
    else
     B4.l1 K x0 x1 x2 k (wr .i64 (i_10+1))
    else none
    else none
  else
   some true
def B4 (K:Nat) (x0:List Int) (x1:Int) (x2:List Int):Option Bool :=
 B4.l1 K x0 x1 x2 K (0:Int)
abbrev Ap.sg:Sig:=⟨[(.one,(.sl (.int .u8))),(.one,(.int .i64)),(.one,(.sl (.int .i64)))],[.n],[(.one,(.sl (.int .u8)))],[.o]⟩
def Ap.j2 (K:Nat) (go_l1:Int→(List Int)→Option (List Int)) (r12:(List Ak) × (List Int)) (t_10:Int) (x1:Int) (t_11:List Int):Option (List Int) :=
 if (0:Int)≤t_10∧t_10<((r12.1.length:Nat):Int) then
 (Af K t_11 2 (wr .i64 ((wr .i64 (((nth r12.1 t_10).Len)-3))+1))).bind fun r67 =>
 go_l1 (wr .i64 (t_10+1)) r67
 else none
def Ap.l1 (K:Nat) (r12:(List Ak) × (List Int)) (x1:Int):Nat→Int→(List Int)→Option (List Int)
 | 0,_,_=>none
 | k+1,t_10,t_12 =>
  if decide (t_10<((r12.1.length:Nat):Int)) then
   if (t_10 == 0) then
    if (0:Int)≤(0:Int)∧(0:Int)<((r12.1.length:Nat):Int) then
    (Cx K (wr .i64 (((nth r12.1 0).At)-x1))).bind fun r35 =>
    (Af K t_12 2 (wr .i64 (r35+1))).bind fun r37 =>
    Ap.j2 K (Ap.l1 K r12 x1 k) r12 t_10 x1 r37
    else none
   else
    if (0:Int)≤t_10∧t_10<((r12.1.length:Nat):Int) then
    if (0:Int)≤(wr .i64 (t_10-1))∧(wr .i64 (t_10-1))<((r12.1.length:Nat):Int) then
    if (0:Int)≤(wr .i64 (t_10-1))∧(wr .i64 (t_10-1))<((r12.1.length:Nat):Int) then
    (Af K t_12 2 (wr .i64 ((wr .i64 (((nth r12.1 t_10).At)-((nth r12.1 (wr .i64 (t_10-1))).At)))-((nth r12.1 (wr .i64 (t_10-1))).Len)))).bind fun r58 =>
    Ap.j2 K (Ap.l1 K r12 x1 k) r12 t_10 x1 r58
    else none
    else none
    else none
  else
   (Bo K t_12 x1 r12.2).bind fun r71 =>
   some r71
def Ap (K:Nat) (x0:List Int) (x1:Int) (x2:List Int):Option (List Int) :=
 (As K x2).bind fun r12 =>
 (Af K ([]:List Int) 2 (wr .i64 (((r12.1.length:Nat):Int)+1))).bind fun r19 =>
 Ap.l1 K r12 x1 K (0:Int) r19
abbrev Ao.sg:Sig:=⟨[(.one,(.sl (.int .u8))),(.one,(.int .i64)),(.one,(.int .i64))],[],[(.one,(.sl (.int .i64))),(.one,(.int .i64)),(.one,.bool)],[.o]⟩
def Ao.j2 (K:Nat) (go_l1:Int→Int→Int→(List Ak)→Option ((List Int) × Int × Bool)) (r28:Int × Int) (r55:Int × Int) (t_11:Int) (t_15:List Ak) (x0:List Int) (x1:Int) (x2:Int) (t_12:Int) (t_13:Int):Option ((List Int) × Int × Bool) :=
 if (t_15.length+([((t_12,t_13):Ak)]:List Ak).length)*16≤140737488355328 then
 go_l1 r55.2 (wr .i64 (t_12+t_13)) (wr .i64 (t_11+1)) (t_15++([((t_12,t_13):Ak)]:List Ak))
 else none
def Ao.l1 (K:Nat) (r28:Int × Int) (x0:List Int) (x1:Int) (x2:Int):Nat→Int→Int→Int→(List Ak)→Option ((List Int) × Int × Bool)
 | 0,_,_,_,_=>none
 | k+1,t_14,t_10,t_11,t_15 =>
  if decide (t_11<(wr .i64 (r28.1-1))) then
   (Ac K x0 t_14 2).bind fun r47 =>
   if decide (r47.1<1) then
    some (([]:List Int),0,false)
   else
    (Ac K x0 r47.2 2).bind fun r55 =>
    if decide (r55.1<1) then
     some (([]:List Int),0,false)
    else
     if decide (r55.1 > 16) then
      some (([]:List Int),0,false)
     else
      if (t_11 == 0) then
       (Cv K (wr .i64 (r47.1-1))).bind fun r77 =>
       Ao.j2 K (Ao.l1 K r28 x0 x1 x2 k) r28 r55 t_11 t_15 x0 x1 x2 (wr .i64 (x2+r77)) (wr .i64 ((wr .i64 (r55.1-1))+3))
      else
       Ao.j2 K (Ao.l1 K r28 x0 x1 x2 k) r28 r55 t_11 t_15 x0 x1 x2 (wr .i64 (t_10+r47.1)) (wr .i64 ((wr .i64 (r55.1-1))+3))
  else
   (Bc K x0 t_14 x2).bind fun r93 =>
   if (!r93.2.2) then
    some (([]:List Int),0,false)
   else
    (Aj K t_15 r93.1).bind fun r102 =>
    if (!r102.2) then
     some (([]:List Int),0,false)
    else
     if decide (((r102.1.length:Nat):Int) > 16) then
      some (([]:List Int),0,false)
     else
      (Ap K ([]:List Int) x2 r102.1).bind fun r114 =>
      if (((r114.length:Nat):Int) != (wr .i64 (r93.2.1-x1))) then
       some (([]:List Int),0,false)
      else
       (B4 K x0 x1 r114).bind fun r125 =>
       if (!r125) then
        some (([]:List Int),0,false)
       else
        some (r102.1,r93.2.1,true)
def Ao (K:Nat) (x0:List Int) (x1:Int) (x2:Int):Option ((List Int) × Int × Bool) :=
 (Ac K x0 x1 2).bind fun r28 =>
 if decide (r28.1<1) then
  some (([]:List Int),0,false)
 else
  if decide ((wr .i64 (r28.1-1)) > 16) then
   some (([]:List Int),0,false)
  else
   Ao.l1 K r28 x0 x1 x2 K r28.2 (0:Int) (0:Int) ([]:List Ak)
abbrev B0.sg:Sig:=⟨[(.agg,Ba)],[],[(.one,(.int .i64))],[]⟩
def B0.l1 (K:Nat) (x0:Aa):Nat→Int→Int→Option Int
 | 0,_,_=>none
 | k+1,n_10,i_11 =>
  if decide (i_11<((x0.Out.length:Nat):Int)) then
   if (0:Int)≤i_11∧i_11<((x0.Out.length:Nat):Int) then
   B0.l1 K x0 k (wr .i64 (n_10+(((nth x0.Out i_11).length:Nat):Int))) (wr .i64 (i_11+1))
   else none
  else
   some n_10
def B0 (K:Nat) (x0:Aa):Option Int :=
 B0.l1 K x0 K (0:Int) (0:Int)
abbrev Bq.sg:Sig:=⟨[(.agg,Ba)],[],[(.one,.bool)],[]⟩
def Bq.l1 (K:Nat) (x0:Aa):Nat→Int→Option Bool
 | 0,_=>none
 | k+1,i_10 =>
  if decide (i_10<x0.N) then
   if (0:Int)≤i_10∧i_10<((x0.Out.length:Nat):Int) then
   (Bk K (nth x0.Out i_10)).bind fun r27 =>
   if (!r27) then
    some false
   else
    if (0:Int)≤i_10∧i_10<((x0.Out.length:Nat):Int) then
    if decide ((((nth x0.Out i_10).length:Nat):Int) > 0) then
     if (0:Int)≤i_10∧i_10<((x0.Out.length:Nat):Int) then
     if (0:Int)≤i_10∧i_10<((x0.Out.length:Nat):Int) then
     if (0:Int)≤(wr .i64 ((((nth x0.Out i_10).length:Nat):Int)-1))∧(wr .i64 ((((nth x0.Out i_10).length:Nat):Int)-1))<(((nth x0.Out i_10).length:Nat):Int) then
     if decide ((nth (nth x0.Out i_10) (wr .i64 ((((nth x0.Out i_10).length:Nat):Int)-1)))≥x0.N) then
      some false
     else
      Bq.l1 K x0 k (wr .i64 (i_10+1))
     else none
     else none
     else none
    else
     Bq.l1 K x0 k (wr .i64 (i_10+1))
    else none
   else none
  else
   (B0 K x0).bind fun r58 =>
   some (decide (r58≤120))
def Bq (K:Nat) (x0:Aa):Option Bool :=
 (Cw K x0.N 16).bind fun r6 =>
 if (!r6) then
  some false
 else
  if (((x0.Out.length:Nat):Int) != x0.N) then
   some false
  else
   Bq.l1 K x0 K (0:Int)
abbrev Bh.sg:Sig:=⟨[(.one,(.sl (.int .u8)))],[],[(.agg,Ba),(.one,.bool)],[.s,.o]⟩
def Bh.l1 (K:Nat) (r26:Aa) (x0:List Int):Nat→Int→Int→Int→(List (List Int))→Option (Aa × Bool)
 | 0,_,_,_,_=>none
 | k+1,at_12,v_11,t_10,g_13 =>
  if decide (v_11<r26.N) then
   (Ao K x0 at_12 v_11).bind fun r37 =>
   if (!r37.2.2) then
    some (((0,([]:List (List Int))):Aa),false)
   else
    if (0:Int)≤v_11∧v_11<((g_13.length:Nat):Int) then
    Bh.l1 K r26 x0 k r37.2.1 (wr .i64 (v_11+1)) t_10 ((g_13).set v_11.toNat r37.1)
    else none
  else
   if (at_12 != ((x0.length:Nat):Int)) then
    some (((0,([]:List (List Int))):Aa),false)
   else
    (Bq K ((r26.N,g_13):Aa)).bind fun r56 =>
    if (!r56) then
     some (((0,([]:List (List Int))):Aa),false)
    else
     some (((r26.N,g_13):Aa),true)
def Bh (K:Nat) (x0:List Int):Option (Aa × Bool) :=
 (Ac K x0 0 2).bind fun r13 =>
 if decide (r13.1<1) then
  some (((0,([]:List (List Int))):Aa),false)
 else
  if decide ((wr .i64 (r13.1-1)) > 16) then
   some (((0,([]:List (List Int))):Aa),false)
  else
   (Cu K (wr .i64 (r13.1-1))).bind fun r26 =>
   Bh.l1 K r26 x0 K r13.2 (0:Int) (0:Int) r26.Out
abbrev C2.sg:Sig:=⟨[(.agg,Ba),(.one,(.int .i64))],[],[(.one,(.sl (.int .i64)))],[]⟩
def C2 (K:Nat) (x0:Aa) (x1:Int):Option (List Int) :=
 if decide (x1<x0.N) then
  if (0:Int)≤x1∧x1<((x0.Out.length:Nat):Int) then
  some (nth x0.Out x1)
  else none
 else
  some ([]:List Int)
abbrev B9.sg:Sig:=⟨[(.one,(.sl (.int .i64))),(.one,(.int .i64))],[],[(.one,(.int .i64))],[]⟩
def B9.l1 (K:Nat) (x0:List Int) (x1:Int):Nat→Int→Option Int
 | 0,_=>none
 | k+1,i_10 =>
  if decide (i_10<((x0.length:Nat):Int)) then
   if (0:Int)≤i_10∧i_10<((x0.length:Nat):Int) then
   if ((nth x0 i_10) == x1) then
    some i_10
   else
    B9.l1 K x0 x1 k (wr .i64 (i_10+1))
   else none
  else
   some ((-1):Int)
def B9 (K:Nat) (x0:List Int) (x1:Int):Option Int :=
 B9.l1 K x0 x1 K (0:Int)
abbrev Aq.sg:Sig:=⟨[(.one,(.sl (.int .i64))),(.one,(.sl (.int .i64)))],[],[(.one,(.sl (.int .i64))),(.one,(.sl (.int .i64)))],[.o,.o]⟩
def Aq.l2 (K:Nat) (x0:List Int) (x1:List Int):Nat→Int→(List Int)→(List Int)→Option ((List Int) × (List Int))
 | 0,_,_,_=>none
 | k+1,i_12,blocks_16,rest_15 =>
  if decide (i_12<((x1.length:Nat):Int)) then
   if (0:Int)≤i_12∧i_12<((x1.length:Nat):Int) then
   (B9 K x0 (nth x1 i_12)).bind fun r47 =>
   if decide (r47<0) then
    if (0:Int)≤i_12∧i_12<((x1.length:Nat):Int) then
    if (rest_15.length+([nth x1 i_12]:List Int).length)*8≤140737488355328 then
    Aq.l2 K x0 x1 k (wr .i64 (i_12+1)) blocks_16 (rest_15++([nth x1 i_12]:List Int))
    else none
    else none
   else
    Aq.l2 K x0 x1 k (wr .i64 (i_12+1)) blocks_16 rest_15
   else none
  else
   some (blocks_16,rest_15)
def Aq.l1 (K:Nat) (x0:List Int) (x1:List Int):Nat→Bool→Int→Int→(List Int)→Option ((List Int) × (List Int))
 | 0,_,_,_,_=>none
 | k+1,in_14,n_10,i_11,blocks_13 =>
  if decide (i_11<((x0.length:Nat):Int)) then
   if (0:Int)≤i_11∧i_11<((x0.length:Nat):Int) then
   (B9 K x1 (nth x0 i_11)).bind fun r24 =>
   if (!((decide (r24≥0)) == in_14)) then
    if (blocks_13.length+([n_10]:List Int).length)*8≤140737488355328 then
    Aq.l1 K x0 x1 k (decide (r24≥0)) (wr .i64 ((0:Int)+1)) (wr .i64 (i_11+1)) (blocks_13++([n_10]:List Int))
    else none
   else
    Aq.l1 K x0 x1 k in_14 (wr .i64 (n_10+1)) (wr .i64 (i_11+1)) blocks_13
   else none
  else
   Aq.l2 K x0 x1 K (0:Int) blocks_13 ([]:List Int)
def Aq (K:Nat) (x0:List Int) (x1:List Int):Option ((List Int) × (List Int)) :=
 Aq.l1 K x0 x1 K true (0:Int) (0:Int) ([]:List Int)
abbrev A9.sg:Sig:=⟨[(.one,(.sl (.int .i64))),(.one,(.sl (.int .i64)))],[],[(.one,.bool)],[]⟩
def A9.l1 (K:Nat) (x0:List Int) (x1:List Int):Nat→Int→Option Bool
 | 0,_=>none
 | k+1,i_10 =>
  if decide (i_10<((x0.length:Nat):Int)) then
   if (0:Int)≤i_10∧i_10<((x0.length:Nat):Int) then
   if (0:Int)≤i_10∧i_10<((x1.length:Nat):Int) then
   if ((nth x0 i_10) != (nth x1 i_10)) then
    some false
   else
    A9.l1 K x0 x1 k (wr .i64 (i_10+1))
   else none
   else none
  else
   some true
def A9 (K:Nat) (x0:List Int) (x1:List Int):Option Bool :=
 if (((x0.length:Nat):Int) != ((x1.length:Nat):Int)) then
  some false
 else
  A9.l1 K x0 x1 K (0:Int)
abbrev Ad.sg:Sig:=⟨[(.one,(.sl (.int .i64))),(.one,(.sl (.int .i64))),(.one,(.sl (.int .i64)))],[],[(.one,(.sl (.int .i64))),(.one,.bool)],[.o]⟩
def Ad.l5 (K:Nat) (x0:List Int) (x1:List Int) (x2:List Int):Nat→Int→(List Bool)→(List Int)→Option ((List Int) × Bool)
 | 0,_,_,_=>none
 | k+1,t_16,t_20,t_19 =>
  if decide (t_16<16) then
   if ((0:Int)≤t_16∧t_16<((t_20.length:Nat):Int))∧t_20.length=16 then
   if nth t_20 t_16 then
    if (t_19.length+([t_16]:List Int).length)*8≤140737488355328 then
    Ad.l5 K x0 x1 x2 k (wr .i64 (t_16+1)) t_20 (t_19++([t_16]:List Int))
    else none
   else
    Ad.l5 K x0 x1 x2 k (wr .i64 (t_16+1)) t_20 t_19
   else none
  else
   (Aq K x0 t_19).bind fun r104 =>
   (A9 K r104.1 x1).bind fun r110 =>
   if r110 then
    (A9 K r104.2 x2).bind fun r114 =>
    some (t_19,r114)
   else
    some (t_19,false)
def Ad.l4 (K:Nat) (x0:List Int) (x1:List Int) (x2:List Int):Nat→Int→(List Bool)→Option ((List Int) × Bool)
 | 0,_,_=>none
 | k+1,t_15,t_18 =>
  if decide (t_15<((x2.length:Nat):Int)) then
   if (0:Int)≤t_15∧t_15<((x2.length:Nat):Int) then
   if ((0:Int)≤(nth x2 t_15)∧(nth x2 t_15)<((t_18.length:Nat):Int))∧t_18.length=16 then
   Ad.l4 K x0 x1 x2 k (wr .i64 (t_15+1)) ((t_18).set (nth x2 t_15).toNat true)
   else none
   else none
  else
   Ad.l5 K x0 x1 x2 K (0:Int) t_18 ([]:List Int)
def Ad.l3 (K:Nat) (go_l1:Int→Int→(List Bool)→Option ((List Int) × Bool)) (t_11:Int) (t_12:Int) (t_13:Int) (x0:List Int) (x1:List Int) (x2:List Int):Nat→Int→(List Bool)→Option ((List Int) × Bool)
 | 0,_,_=>none
 | k+1,t_14,t_17 =>
  if decide (t_14<t_13) then
   if (2:Int)≠0 then
   if ((t_12.tmod 2) == 0) then
    if (0:Int)≤(wr .i64 (t_11+t_14))∧(wr .i64 (t_11+t_14))<((x0.length:Nat):Int) then
    if ((0:Int)≤(nth x0 (wr .i64 (t_11+t_14)))∧(nth x0 (wr .i64 (t_11+t_14)))<((t_17.length:Nat):Int))∧t_17.length=16 then
    Ad.l3 K go_l1 t_11 t_12 t_13 x0 x1 x2 k (wr .i64 (t_14+1)) ((t_17).set (nth x0 (wr .i64 (t_11+t_14))).toNat true)
    else none
    else none
   else
    go_l1 (wr .i64 (t_11+t_13)) (wr .i64 (t_12+1)) t_17
   else none
  else
   go_l1 (wr .i64 (t_11+t_13)) (wr .i64 (t_12+1)) t_17
def Ad.j2 (K:Nat) (go_l1:Int→Int→(List Bool)→Option ((List Int) × Bool)) (t_10:List Bool) (t_11:Int) (t_12:Int) (x0:List Int) (x1:List Int) (x2:List Int) (t_13:Int):Option ((List Int) × Bool) :=
 if decide (t_13<0) then
  some (([]:List Int),false)
 else
  if decide (t_13 > (wr .i64 (((x0.length:Nat):Int)-t_11))) then
   some (([]:List Int),false)
  else
   Ad.l3 K go_l1 t_11 t_12 t_13 x0 x1 x2 K (0:Int) t_10
def Ad.l1 (K:Nat) (x0:List Int) (x1:List Int) (x2:List Int):Nat→Int→Int→(List Bool)→Option ((List Int) × Bool)
 | 0,_,_,_=>none
 | k+1,t_11,t_12,t_10 =>
  if decide (t_12≤((x1.length:Nat):Int)) then
   if decide (t_12<((x1.length:Nat):Int)) then
    if (0:Int)≤t_12∧t_12<((x1.length:Nat):Int) then
    Ad.j2 K (Ad.l1 K x0 x1 x2 k) t_10 t_11 t_12 x0 x1 x2 (nth x1 t_12)
    else none
   else
    Ad.j2 K (Ad.l1 K x0 x1 x2 k) t_10 t_11 t_12 x0 x1 x2 (wr .i64 (((x0.length:Nat):Int)-t_11))
  else
   Ad.l4 K x0 x1 x2 K (0:Int) t_10
def Ad (K:Nat) (x0:List Int) (x1:List Int) (x2:List Int):Option ((List Int) × Bool) :=
 (Bk K x0).bind fun r19 =>
 if (!r19) then
  some (([]:List Int),false)
 else
  (Bk K x2).bind fun r23 =>
  if (!r23) then
   some (([]:List Int),false)
  else
   if decide (((x1.length:Nat):Int) > 16) then
    some (([]:List Int),false)
   else
    Ad.l1 K x0 x1 x2 K (0:Int) (0:Int) (List.replicate 16 false)
abbrev Be.sg:Sig:=⟨[(.one,(.sl (.int .u8))),(.one,(.int .i64)),(.one,(.int .i64)),(.one,(.sl (.int .i64)))],[],[(.one,(.sl (.int .i64))),(.one,(.int .i64)),(.one,.bool)],[.o]⟩
def Be.l1 (K:Nat) (r23:Int × Int) (x0:List Int) (x2:Int) (x3:List Int):Nat→Int→Int→(List Int)→Option ((List Int) × Int × Bool)
 | 0,_,_,_=>none
 | k+1,t_11,t_10,t_12 =>
  if decide (t_10<(wr .i64 (r23.1-1))) then
   (Ac K x0 t_11 2).bind fun r42 =>
   if decide (r42.1<1) then
    some (([]:List Int),0,false)
   else
    if decide (r42.1 > 17) then
     some (([]:List Int),0,false)
    else
     if (t_10 == 0) then
      if (t_12.length+([wr .i64 (r42.1-1)]:List Int).length)*8≤140737488355328 then
      Be.l1 K r23 x0 x2 x3 k r42.2 (wr .i64 (t_10+1)) (t_12++([wr .i64 (r42.1-1)]:List Int))
      else none
     else
      if (t_12.length+([r42.1]:List Int).length)*8≤140737488355328 then
      Be.l1 K r23 x0 x2 x3 k r42.2 (wr .i64 (t_10+1)) (t_12++([r42.1]:List Int))
      else none
  else
   (Ao K x0 t_11 x2).bind fun r64 =>
   if (!r64.2.2) then
    some (([]:List Int),0,false)
   else
    (Ad K x3 t_12 r64.1).bind fun r74 =>
    if (!r74.2) then
     some (([]:List Int),0,false)
    else
     some (r74.1,r64.2.1,true)
def Be (K:Nat) (x0:List Int) (x1:Int) (x2:Int) (x3:List Int):Option ((List Int) × Int × Bool) :=
 (Ac K x0 x1 2).bind fun r23 =>
 if decide (r23.1<1) then
  some (([]:List Int),0,false)
 else
  if decide ((wr .i64 (r23.1-1)) > 16) then
   some (([]:List Int),0,false)
  else
   Be.l1 K r23 x0 x2 x3 K r23.2 (0:Int) ([]:List Int)
abbrev Bi.sg:Sig:=⟨[(.agg,Ba),(.one,(.sl (.int .u8)))],[],[(.agg,Ba),(.one,.bool)],[.s,.o]⟩
def Bi.l1 (K:Nat) (r28:Aa) (x0:Aa) (x1:List Int):Nat→Int→Int→Int→(List (List Int))→Option (Aa × Bool)
 | 0,_,_,_,_=>none
 | k+1,t_12,t_11,t_10,t_13 =>
  if decide (t_11<r28.N) then
   (C2 K x0 t_11).bind fun r41 =>
   (Be K x1 t_12 t_11 r41).bind fun r42 =>
   if (!r42.2.2) then
    some (((0,([]:List (List Int))):Aa),false)
   else
    if (0:Int)≤t_11∧t_11<((t_13.length:Nat):Int) then
    Bi.l1 K r28 x0 x1 k r42.2.1 (wr .i64 (t_11+1)) t_10 ((t_13).set t_11.toNat r42.1)
    else none
  else
   if (t_12 != ((x1.length:Nat):Int)) then
    some (((0,([]:List (List Int))):Aa),false)
   else
    (Bq K ((r28.N,t_13):Aa)).bind fun r61 =>
    if (!r61) then
     some (((0,([]:List (List Int))):Aa),false)
    else
     some (((r28.N,t_13):Aa),true)
def Bi (K:Nat) (x0:Aa) (x1:List Int):Option (Aa × Bool) :=
 (Ac K x1 0 2).bind fun r15 =>
 if decide (r15.1<1) then
  some (((0,([]:List (List Int))):Aa),false)
 else
  if decide ((wr .i64 (r15.1-1)) > 16) then
   some (((0,([]:List (List Int))):Aa),false)
  else
   (Cu K (wr .i64 (r15.1-1))).bind fun r28 =>
   Bi.l1 K r28 x0 x1 K r15.2 (0:Int) (0:Int) r28.Out
abbrev Ay.sg:Sig:=⟨[(.one,(.sl Bb)),(.one,(.int .i64))],[],[(.agg,Ba),(.one,(.int .i64))],[.s,.o]⟩
def Ay.j1 (K:Nat) (rec_:(List Ae)→Int→Option (Aa × Int)) (ok_13:Bool) (t_10:Int) (g_11:Int) (g_12:List (List Int)):Option (Aa × Int) :=
 if (!ok_13) then
  some (((0,([]:List (List Int))):Aa),9)
 else
  some (((g_11,g_12):Aa),0)
def Ay:Nat→(List Ae)→Int→Option (Aa × Int)
 | 0,_,_=>none
 | K+1,x0,x1 =>
  (Bp K x0 x1).bind fun r17 =>
  if (r17.2 != 0) then
   some (((0,([]:List (List Int))):Aa),r17.2)
  else
   (B5 K x0 x1).bind fun r27 =>
   if (0:Int)≤r27∧r27<((x0.length:Nat):Int) then
   (Cb K ((nth x0 r27).Data)).bind fun r32 =>
   if (((nth x0 r27).Base) == 0) then
    (Bh K r32).bind fun r38 =>
    Ay.j1 K (Ay K) r38.2 (0:Int) r38.1.N r38.1.Out
   else
    ((Ay K) x0 ((nth x0 r27).Base)).bind fun r45 =>
    if (r45.2 != 0) then
     some (((0,([]:List (List Int))):Aa),r45.2)
    else
     (Bi K r45.1 r32).bind fun r55 =>
     Ay.j1 K (Ay K) r55.2 (0:Int) r55.1.N r55.1.Out
   else none
abbrev Am.sg:Sig:=⟨[(.one,(.sl (.int .u8))),(.one,(.int .i64)),(.one,(.int .i64))],[.n],[(.one,(.sl (.int .u8)))],[.o]⟩
def Am.j2 (K:Nat) (x2:Int) (t_11:Int):Option (List Int) :=
 (Ax K x2).bind fun r56 =>
 if t_11≠0 then
 (Al K ([]:List Int) 0 (wr .i64 (r56.tdiv t_11))).bind fun r61 =>
 (Al K r61 1 1).bind fun r62 =>
 if (0:Int)≤(wr .i64 ((wr .i64 (r56.tdiv t_11))*t_11)) then
 if (0:Int)≤(wr .i64 ((wr .i64 ((wr .i64 (r56.tdiv t_11))+1))*t_11)) then
 if (0:Int)≤(wr .i64 ((wr .i64 (r56.tdiv t_11))*t_11)) then
 (Ax K (wr .i64 ((wr .i64 ((wr .i64 ((1:Int)*2 ^ min ((wr .i64 ((wr .i64 ((wr .i64 (r56.tdiv t_11))+1))*t_11))).toNat 64))-(wr .i64 ((1:Int)*2 ^ min ((wr .i64 ((wr .i64 (r56.tdiv t_11))*t_11))).toNat 64))))-1))).bind fun r81 =>
 if (0:Int)≤(wr .i64 (r81+1)) then
 if decide ((wr .i64 (x2-(wr .i64 ((1:Int)*2 ^ min ((wr .i64 ((wr .i64 (r56.tdiv t_11))*t_11))).toNat 64))))<(wr .i64 ((wr .i64 ((1:Int)*2 ^ min ((wr .i64 (r81+1))).toNat 64))-(wr .i64 ((wr .i64 ((1:Int)*2 ^ min ((wr .i64 ((wr .i64 ((wr .i64 (r56.tdiv t_11))+1))*t_11))).toNat 64))-(wr .i64 ((1:Int)*2 ^ min ((wr .i64 ((wr .i64 (r56.tdiv t_11))*t_11))).toNat 64))))))) then
  (Al K r62 (wr .i64 (x2-(wr .i64 ((1:Int)*2 ^ min ((wr .i64 ((wr .i64 (r56.tdiv t_11))*t_11))).toNat 64)))) (wr .i64 ((wr .i64 (r81+1))-1))).bind fun r93 =>
  some r93
 else
  if (0:Int)≤(wr .i64 (r81+1)) then
  (Al K r62 (wr .i64 ((wr .i64 ((wr .i64 (x2-(wr .i64 ((1:Int)*2 ^ min ((wr .i64 ((wr .i64 (r56.tdiv t_11))*t_11))).toNat 64))))+(wr .i64 ((1:Int)*2 ^ min ((wr .i64 (r81+1))).toNat 64))))-(wr .i64 ((wr .i64 ((1:Int)*2 ^ min ((wr .i64 ((wr .i64 ((wr .i64 (r56.tdiv t_11))+1))*t_11))).toNat 64))-(wr .i64 ((1:Int)*2 ^ min ((wr .i64 ((wr .i64 (r56.tdiv t_11))*t_11))).toNat 64)))))) (wr .i64 (r81+1))).bind fun r102 =>
  some r102
  else none
 else none
 else none
 else none
 else none
 else none
def Am.l1 (K:Nat) (x2:Int):Nat→Int→(List Int)→Option (List Int)
 | 0,_,_=>none
 | k+1,t_10,t_12 =>
  if decide (t_10<x2) then
   if (t_12.length+([0]:List Int).length)*1≤140737488355328 then
   Am.l1 K x2 k (wr .i64 (t_10+1)) (t_12++([0]:List Int))
   else none
  else
   if (t_12.length+([1]:List Int).length)*1≤140737488355328 then
   some (t_12++([1]:List Int))
   else none
def Am (K:Nat) (x0:List Int) (x1:Int) (x2:Int):Option (List Int) :=
 if (x1 == 1) then
  Am.l1 K x2 K (1:Int) ([]:List Int)
 else
  if (x1 == 2) then
   (Ax K x2).bind fun r31 =>
   (Al K ([]:List Int) 0 r31).bind fun r32 =>
   (Ax K x2).bind fun r35 =>
   (Al K r32 x2 (wr .i64 (r35+1))).bind fun r37 =>
   some r37
  else
   if (x1 == 3) then
    (Ax K x2).bind fun r42 =>
    (Af K ([]:List Int) 2 (wr .i64 (r42+1))).bind fun r44 =>
    (Ax K x2).bind fun r47 =>
    if (0:Int)≤r47 then
    (Ax K x2).bind fun r51 =>
    (Al K r44 (wr .i64 (x2-(wr .i64 ((1:Int)*2 ^ min (r47).toNat 64)))) r51).bind fun r52 =>
    some r52
    else none
   else
    if (x1 == 5) then
     Am.j2 K x2 (3:Int)
    else
     Am.j2 K x2 (2:Int)
abbrev Bl.sg:Sig:=⟨[(.agg,Ba)],[],[(.one,(.sl (.int .u8))),(.one,(.sl (.int .i64)))],[.o,.o]⟩
def Bl.l1 (K:Nat) (x0:Aa):Nat→Int→(List Int)→(List Int)→Option ((List Int) × (List Int))
 | 0,_,_,_=>none
 | k+1,v_10,b_11,at_12 =>
  if decide (v_10<x0.N) then
   if (at_12.length+([((b_11.length:Nat):Int)]:List Int).length)*8≤140737488355328 then
   if (0:Int)≤v_10∧v_10<((x0.Out.length:Nat):Int) then
   (Au K b_11 v_10 (nth x0.Out v_10)).bind fun r29 =>
   Bl.l1 K x0 k (wr .i64 (v_10+1)) r29 (at_12++([((b_11.length:Nat):Int)]:List Int))
   else none
   else none
  else
   some (b_11,at_12)
def Bl (K:Nat) (x0:Aa):Option ((List Int) × (List Int)) :=
 (Am K ([]:List Int) 2 (wr .i64 (x0.N+1))).bind fun r10 =>
 Bl.l1 K x0 K (0:Int) r10 ([]:List Int)
abbrev Bv.sg:Sig:=⟨[(.one,(.sl (.int .u8))),(.one,(.int .i64)),(.one,(.sl (.int .i64))),(.one,(.sl (.int .i64)))],[.o],[(.one,(.sl (.int .u8)))],[.o]⟩
def Bv.l1 (K:Nat) (r16:(List Int) × (List Int)) (x1:Int):Nat→Int→(List Int)→Option (List Int)
 | 0,_,_=>none
 | k+1,i_10,b_11 =>
  if decide (i_10<((r16.1.length:Nat):Int)) then
   if (0:Int)≤i_10∧i_10<((r16.1.length:Nat):Int) then
   if (i_10 == 0) then
    (Af K b_11 2 (wr .i64 ((nth r16.1 i_10)+1))).bind fun r40 =>
    Bv.l1 K r16 x1 k (wr .i64 (i_10+1)) r40
   else
    (Af K b_11 2 (nth r16.1 i_10)).bind fun r40 =>
    Bv.l1 K r16 x1 k (wr .i64 (i_10+1)) r40
   else none
  else
   (Au K b_11 x1 r16.2).bind fun r44 =>
   some r44
def Bv (K:Nat) (x0:List Int) (x1:Int) (x2:List Int) (x3:List Int):Option (List Int) :=
 (Aq K x2 x3).bind fun r16 =>
 (Af K x0 2 (wr .i64 (((r16.1.length:Nat):Int)+1))).bind fun r23 =>
 Bv.l1 K r16 x1 K (0:Int) r23
abbrev Bm.sg:Sig:=⟨[(.agg,Ba),(.agg,Ba)],[],[(.one,(.sl (.int .u8)))],[.o]⟩
def Bm.l1 (K:Nat) (x0:Aa) (x1:Aa):Nat→Int→(List Int)→Option (List Int)
 | 0,_,_=>none
 | k+1,v_10,b_11 =>
  if decide (v_10<x1.N) then
   (C2 K x0 v_10).bind fun r21 =>
   if (0:Int)≤v_10∧v_10<((x1.Out.length:Nat):Int) then
   (Bv K b_11 v_10 r21 (nth x1.Out v_10)).bind fun r27 =>
   Bm.l1 K x0 x1 k (wr .i64 (v_10+1)) r27
   else none
  else
   some b_11
def Bm (K:Nat) (x0:Aa) (x1:Aa):Option (List Int) :=
 (Am K ([]:List Int) 2 (wr .i64 (x1.N+1))).bind fun r10 =>
 Bm.l1 K x0 x1 K (0:Int) r10
abbrev C7.sg:Sig:=⟨[(.agg,Ba),(.agg,Ba)],[],[(.one,.bool)],[]⟩
def C7 (K:Nat) (x0:Aa) (x1:Aa):Option Bool :=
 (Bl K x1).bind fun r9 =>
 (Bm K x0 x1).bind fun r14 =>
 some (decide (((r14.length:Nat):Int)<((r9.1.length:Nat):Int)))
abbrev A4.sg:Sig:=⟨[(.one,(.sl (.int .u8)))],[],[(.agg,C8)],[]⟩
def A4.l1 (K:Nat) (x0:List Int):Nat→Int→ByteArray→Int→(List Int)→Option Av
 | 0,_,_,_,_=>none
 | k+1,i_13,t_10,t_11,x_12 =>
  if decide (i_13<((x0.length:Nat):Int)) then
   if (8:Int)≠0 then
   if (8:Int)≠0 then
   if (0:Int)≤(wr .i64 (i_13.tdiv 8))∧(wr .i64 (i_13.tdiv 8))<((x_12.length:Nat):Int) then
   if (0:Int)≤i_13∧i_13<((x0.length:Nat):Int) then
   if (8:Int)≠0 then
   if (0:Int)≤(wr .i64 (7-(i_13.tmod 8))) then
   if (0:Int)≤(wr .i64 (i_13.tdiv 8))∧(wr .i64 (i_13.tdiv 8))<((x_12.length:Nat):Int) then
   A4.l1 K x0 k (wr .i64 (i_13+1)) t_10 t_11 ((x_12).set (wr .i64 (i_13.tdiv 8)).toNat (ib .or .u8 (nth x_12 (wr .i64 (i_13.tdiv 8))) (wr .u8 ((nth x0 i_13)*2 ^ min ((wr .i64 (7-(i_13.tmod 8)))).toNat 8))))
   else none
   else none
   else none
   else none
   else none
   else none
   else none
  else
   some ((bytesOf x_12,((x0.length:Nat):Int)):Av)
def A4 (K:Nat) (x0:List Int):Option Av :=
 if (8:Int)≠0 then
 if (wr .i64 ((wr .i64 (((x0.length:Nat):Int)+7)).tdiv 8))=(wr .i64 ((wr .i64 (((x0.length:Nat):Int)+7)).tdiv 8))∧(0:Int)≤(wr .i64 ((wr .i64 (((x0.length:Nat):Int)+7)).tdiv 8))∧(1:Int)*(wr .i64 ((wr .i64 (((x0.length:Nat):Int)+7)).tdiv 8))≤281474976710656∧(wr .i64 ((wr .i64 (((x0.length:Nat):Int)+7)).tdiv 8))≤9223372036854775807 then
 A4.l1 K x0 K (0:Int) ByteArray.empty (0:Int) (List.replicate (wr .i64 ((wr .i64 (((x0.length:Nat):Int)+7)).tdiv 8)).toNat (0:Int))
 else none
 else none
abbrev Dk.sg:Sig:=⟨[(.one,(.sl Bb)),(.one,(.int .i64)),(.agg,Ba)],[],[(.agg,C8)],[]⟩
def Dk (K:Nat) (x0:List Ae) (x1:Int) (x2:Aa):Option Av :=
 if (x1 == 0) then
  (Bl K x2).bind fun r15 =>
  (A4 K r15.1).bind fun r19 =>
  some r19
 else
  (Ay K x0 x1).bind fun r23 =>
  (Bm K r23.1 x2).bind fun r28 =>
  (A4 K r28).bind fun r29 =>
  some r29
abbrev Bg.sg:Sig:=⟨[(.one,(.sl Bb)),(.one,(.int .i64)),(.agg,Ba)],[],[(.agg,Bb),(.one,(.int .i64))],[]⟩
def Bg.j2 (K:Nat) (t_14:Int) (x0:List Ae) (x2:Aa) (t_15:Int) (t_16:ByteArray) (t_17:Int):Option (Ae × Int) :=
 (Dk K x0 t_15 x2).bind fun r66 =>
 some (((t_14,t_15,r66):Ae),0)
def Bg.j1 (K:Nat) (x0:List Ae) (x1:Int) (x2:Aa) (t_14:Int) (t_10:Int) (t_11:Int) (t_12:ByteArray) (t_13:Int):Option (Ae × Int) :=
 if decide (((x0.length:Nat):Int)≥12) then
  some (((0,0,((ByteArray.empty,0):Av)):Ae),2)
 else
  if decide (t_14 > 1048576) then
   some (((0,0,((ByteArray.empty,0):Av)):Ae),2)
  else
   if (x1 != 0) then
    (Ay K x0 x1).bind fun r40 =>
    if (r40.2 != 0) then
     some (((0,0,((ByteArray.empty,0):Av)):Ae),r40.2)
    else
     (Bp K x0 x1).bind fun r50 =>
     if decide (r50.1<3) then
      (C7 K r40.1 x2).bind fun r58 =>
      if r58 then
       Bg.j2 K t_14 x0 x2 x1 ByteArray.empty (0:Int)
      else
       Bg.j2 K t_14 x0 x2 (0:Int) ByteArray.empty (0:Int)
     else
      Bg.j2 K t_14 x0 x2 (0:Int) ByteArray.empty (0:Int)
   else
    Bg.j2 K t_14 x0 x2 (0:Int) ByteArray.empty (0:Int)
def Bg (K:Nat) (x0:List Ae) (x1:Int) (x2:Aa):Option (Ae × Int) :=
 if decide (((x0.length:Nat):Int) > 0) then
  if (0:Int)≤(wr .i64 (((x0.length:Nat):Int)-1))∧(wr .i64 (((x0.length:Nat):Int)-1))<((x0.length:Nat):Int) then
  Bg.j1 K x0 x1 x2 (wr .i64 (((nth x0 (wr .i64 (((x0.length:Nat):Int)-1))).ID)+1)) (0:Int) (0:Int) ByteArray.empty (0:Int)
  else none
 else
  Bg.j1 K x0 x1 x2 (1:Int) (0:Int) (0:Int) ByteArray.empty (0:Int)
abbrev Cz.sg:Sig:=⟨[],[],[(.one,.bool)],[]⟩
def Cz (K:Nat):Option Bool :=
 (Co K ([]:List Ae)).bind fun r8 =>
 (Bg K ([]:List Ae) 0 ((1,([([0]:List Int)]:List (List Int))):Aa)).bind fun r15 =>
 (Cg K ([r15.1]:List Ae) 0 0).bind fun r21 =>
 (Cp K r8.2).bind fun r25 =>
 if (r25 == 0) then
  (Cp K r21.2).bind fun r29 =>
  if (r29 == 0) then
   if (((r8.1.length:Nat):Int) == 0) then
    (A9 K r21.1 ([1]:List Int)).bind fun r40 =>
    some r40
   else
    some false
  else
   some false
 else
  some false
abbrev Ab.sg:Sig:=⟨[(.agg,Ee)],[],[(.one,.bool)],[]⟩
def Ab.l5 (K:Nat) (go_l1:Int→Option Bool) (r44:(List Int) × Int) (t_10:Int) (t_11:List Ae) (x0:Cq):Nat→Int→Option Bool
 | 0,_=>none
 | k+1,t_17 =>
  if decide ((wr .i64 (t_17+1))<((t_11.length:Nat):Int)) then
   if (0:Int)≤t_17∧t_17<((t_11.length:Nat):Int) then
   if (0:Int)≤(wr .i64 (t_17+1))∧(wr .i64 (t_17+1))<((t_11.length:Nat):Int) then
   (D0 K t_11 ((nth t_11 t_17).ID) ((nth t_11 (wr .i64 (t_17+1))).ID)).bind fun r114 =>
   if (0:Int)≤(wr .i64 (t_17+1))∧(wr .i64 (t_17+1))<((t_11.length:Nat):Int) then
   if (0:Int)≤t_17∧t_17<((t_11.length:Nat):Int) then
   (D0 K t_11 ((nth t_11 (wr .i64 (t_17+1))).ID) ((nth t_11 t_17).ID)).bind fun r131 =>
   if (0:Int)≤t_17∧t_17<((t_11.length:Nat):Int) then
   if (0:Int)≤t_17∧t_17<((t_11.length:Nat):Int) then
   (D0 K t_11 ((nth t_11 t_17).ID) ((nth t_11 t_17).ID)).bind fun r147 =>
   (Cp K r114.2.2).bind fun r152 =>
   (Cp K r131.2.2).bind fun r154 =>
   (Cp K r147.2.2).bind fun r157 =>
   if ((wr .i64 ((wr .i64 (r152+r154))+r157)) != 0) then
    some false
   else
    (Bn K r114.1 r131.2.1).bind fun r163 =>
    if (!r163) then
     some false
    else
     (Bn K r114.2.1 r131.1).bind fun r169 =>
     if (!r169) then
      some false
     else
      if (((r147.1.length:Nat):Int) != 0) then
       some false
      else
       if (((r147.2.1.length:Nat):Int) != 0) then
        some false
       else
        if (0:Int)≤t_17∧t_17<((r44.1.length:Nat):Int) then
        if (0:Int)≤(wr .i64 (t_17+1))∧(wr .i64 (t_17+1))<((r44.1.length:Nat):Int) then
        if ((wr .i64 ((wr .i64 ((nth r44.1 t_17)+((r114.1.length:Nat):Int)))-((r114.2.1.length:Nat):Int))) != (nth r44.1 (wr .i64 (t_17+1)))) then
         some false
        else
         Ab.l5 K go_l1 r44 t_10 t_11 x0 k (wr .i64 (t_17+1))
        else none
        else none
   else none
   else none
   else none
   else none
   else none
   else none
  else
   go_l1 (wr .i64 (t_10+1))
def Ab.l4 (K:Nat) (go_l1:Int→Option Bool) (go_l3:Int→Int→Option Bool) (r44:(List Int) × Int) (t_10:Int) (t_11:List Ae) (t_12:Int) (t_15:Int) (x0:Cq):Nat→Int→Int→Option Bool
 | 0,_,_=>none
 | k+1,t_18,t_16 =>
  if decide (t_16<16) then
   (Cg K t_11 t_15 t_16).bind fun r74 =>
   (Cp K r74.2).bind fun r78 =>
   if (r78 != 0) then
    some false
   else
    Ab.l4 K go_l1 go_l3 r44 t_10 t_11 t_12 t_15 x0 k (wr .i64 (t_18+((r74.1.length:Nat):Int))) (wr .i64 (t_16+1))
  else
   go_l3 t_18 (wr .i64 (t_15+1))
def Ab.l3 (K:Nat) (go_l1:Int→Option Bool) (r44:(List Int) × Int) (t_10:Int) (t_11:List Ae) (t_12:Int) (x0:Cq):Nat→Int→Int→Option Bool
 | 0,_,_=>none
 | k+1,t_19,t_15 =>
  if decide (t_15<16) then
   Ab.l4 K go_l1 (Ab.l3 K go_l1 r44 t_10 t_11 t_12 x0 k) r44 t_10 t_11 t_12 t_15 x0 K t_19 (0:Int)
  else
   if (t_12 != t_19) then
    some false
   else
    if (((r44.1.length:Nat):Int) != ((t_11.length:Nat):Int)) then
     some false
    else
     Ab.l5 K go_l1 r44 t_10 t_11 x0 K (0:Int)
def Ab.l2 (K:Nat) (go_l1:Int→Option Bool) (r44:(List Int) × Int) (t_10:Int) (x0:Cq):Nat→(List Ae)→Int→Int→Int→Option Bool
 | 0,_,_,_,_=>none
 | k+1,t_11,t_12,t_13,t_14 =>
  if decide (t_14<((r44.1.length:Nat):Int)) then
   if (0:Int)≤t_14∧t_14<((r44.1.length:Nat):Int) then
   Ab.l2 K go_l1 r44 t_10 x0 k t_11 (wr .i64 (t_12+(nth r44.1 t_14))) t_13 (wr .i64 (t_14+1))
   else none
  else
   Ab.l3 K go_l1 r44 t_10 t_11 t_12 x0 K t_13 (0:Int)
def Ab.l1 (K:Nat) (x0:Cq):Nat→Int→Option Bool
 | 0,_=>none
 | k+1,t_10 =>
  if decide (t_10<((x0.L.length:Nat):Int)) then
   if decide (t_10<2) then
    if (0:Int)≤t_10∧t_10<((x0.L.length:Nat):Int) then
    (Co K (nth x0.L t_10)).bind fun r44 =>
    (Cp K r44.2).bind fun r48 =>
    if (r48 != 0) then
     Ab.l1 K x0 k (wr .i64 (t_10+1))
    else
     Ab.l2 K (Ab.l1 K x0 k) r44 t_10 x0 K (nth x0.L t_10) (0:Int) (0:Int) (0:Int)
    else none
   else
    (Cz K).bind fun r200 =>
    some r200
  else
   (Cz K).bind fun r200 =>
   some r200
def Ab (K:Nat) (x0:Cq):Option Bool :=
 (Bj K x0).bind fun r25 =>
 if r25 then
  some true
 else
  Ab.l1 K x0 K (0:Int)
end Go.XM
end
