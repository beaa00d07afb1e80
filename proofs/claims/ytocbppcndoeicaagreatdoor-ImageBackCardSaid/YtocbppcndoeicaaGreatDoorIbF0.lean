import Derived.Test.YtocbppcndoeicaaGreatDoorIbH0
set_option linter.all false
section
namespace Go.XM
set_option maxRecDepth 100000
abbrev Bv.sg:Sig:=⟨[(.one,(.sl (.sl (.int .i64))))],[],[(.one,(.int .i64))],[]⟩
def Bv.l1 (K:Nat) (x0:List (List Int)):Nat→Int→Int→Option Int
 | 0,_,_=>none
 | k+1,n_10,i_11 =>
  if decide (i_11<((x0.length:Nat):Int)) then
   if decide (n_10<1048576) then
    if (0:Int)≤i_11∧i_11<((x0.length:Nat):Int) then
    Bv.l1 K x0 k (wr .i64 (n_10+(((nth x0 i_11).length:Nat):Int))) (wr .i64 (i_11+1))
    else none
   else
    some n_10
  else
   some n_10
def Bv (K:Nat) (x0:List (List Int)):Option Int :=
 Bv.l1 K x0 K ((x0.length:Nat):Int) (0:Int)
abbrev Ac:Type:=Int × Int × Int × Bool × (List Int) × (List Int)
abbrev Dq:Ty:=(.pr (.int .i64) (.pr (.int .i64) (.pr (.int .i64) (.pr .bool (.pr (.sl (.int .i64)) (.sl (.int .i64)))))))
abbrev Ac.Kind (x:Ac):Int:=x.1
abbrev Ac.A (x:Ac):Int:=x.2.1
abbrev Ac.At (x:Ac):Int:=x.2.2.1
abbrev Ac.Move (x:Ac):Bool:=x.2.2.2.1
abbrev Ac.List_ (x:Ac):List Int:=x.2.2.2.2.1
abbrev Ac.Out (x:Ac):List Int:=x.2.2.2.2.2
abbrev Es.sg:Sig:=⟨[(.agg,Dq)],[],[(.one,(.int .i64))],[]⟩
def Es (K:Nat) (x0:Ac):Option Int :=
 some (wr .i64 (((x0.List_.length:Nat):Int)+((x0.Out.length:Nat):Int)))
abbrev Ap:Type:=ByteArray × Int
abbrev Cz:Ty:=(.pr .str (.int .i64))
abbrev Ap.Data (x:Ap):ByteArray:=x.1
abbrev Ap.N (x:Ap):Int:=x.2
abbrev Ak:Type:=Int × Int × Int × Ap × Int × Bool × Bool
abbrev Br:Ty:=(.pr (.int .i64) (.pr (.int .i64) (.pr (.int .i64) (.pr Cz (.pr (.int .i64) (.pr .bool .bool))))))
abbrev Ak.ID (x:Ak):Int:=x.1
abbrev Ak.Parent (x:Ak):Int:=x.2.1
abbrev Ak.Base (x:Ak):Int:=x.2.2.1
abbrev Ak.Data (x:Ak):Ap:=x.2.2.2.1
abbrev Ak.At (x:Ak):Int:=x.2.2.2.2.1
abbrev Ak.Tag (x:Ak):Bool:=x.2.2.2.2.2.1
abbrev Ak.Gone (x:Ak):Bool:=x.2.2.2.2.2.2
abbrev Aa:Type:=Int × (List (List Int))
abbrev Bh:Ty:=(.pr (.int .i64) (.sl (.sl (.int .i64))))
abbrev Aa.N (x:Aa):Int:=x.1
abbrev Aa.Out (x:Aa):List (List Int):=x.2
abbrev Aq:Type:=Bool × Int × Bool × Int × Aa × Ac
abbrev Bu:Ty:=(.pr .bool (.pr (.int .i64) (.pr .bool (.pr (.int .i64) (.pr Bh Dq)))))
abbrev Aq.Open (x:Aq):Bool:=x.1
abbrev Aq.Pin (x:Aq):Int:=x.2.1
abbrev Aq.On (x:Aq):Bool:=x.2.2.1
abbrev Aq.From (x:Aq):Int:=x.2.2.2.1
abbrev Aq.Stage (x:Aq):Aa:=x.2.2.2.2.1
abbrev Aq.Job (x:Aq):Ac:=x.2.2.2.2.2
abbrev Ai:Type:=Int × Int × (List Ak) × (List Aq)
abbrev Ck:Ty:=(.pr (.int .i64) (.pr (.int .i64) (.pr (.sl Br) (.sl Bu))))
abbrev Ai.Keep (x:Ai):Int:=x.1
abbrev Ai.Blocks (x:Ai):Int:=x.2.1
abbrev Ai.Versions (x:Ai):List Ak:=x.2.2.1
abbrev Ai.Sessions (x:Ai):List Aq:=x.2.2.2
abbrev Aj.sg:Sig:=⟨[(.agg,Ck)],[],[(.one,(.int .i64))],[]⟩
def Aj.l2 (K:Nat) (x0:Ai):Nat→Int→Int→Option Int
 | 0,_,_=>none
 | k+1,t_13,t_12 =>
  if decide (t_12<((x0.Sessions.length:Nat):Int)) then
   if decide (t_13<1048576) then
    if (0:Int)≤t_12∧t_12<((x0.Sessions.length:Nat):Int) then
    (Bv K (((nth x0.Sessions t_12).Stage).Out)).bind fun r54 =>
    if (0:Int)≤t_12∧t_12<((x0.Sessions.length:Nat):Int) then
    (Es K ((nth x0.Sessions t_12).Job)).bind fun r62 =>
    Aj.l2 K x0 k (wr .i64 ((wr .i64 (t_13+r54))+r62)) (wr .i64 (t_12+1))
    else none
    else none
   else
    some t_13
  else
   some t_13
def Aj.l1 (K:Nat) (x0:Ai):Nat→Int→Int→Option Int
 | 0,_,_=>none
 | k+1,t_10,t_11 =>
  if decide (t_11<((x0.Versions.length:Nat):Int)) then
   if decide (t_10<1048576) then
    if (0:Int)≤t_11∧t_11<((x0.Versions.length:Nat):Int) then
    if (4:Int)≠0 then
    Aj.l1 K x0 k (wr .i64 (t_10+(wr .i64 ((((((nth x0.Versions t_11).Data).Data).size:Nat):Int).tdiv 4)))) (wr .i64 (t_11+1))
    else none
    else none
   else
    Aj.l2 K x0 K t_10 (0:Int)
  else
   Aj.l2 K x0 K t_10 (0:Int)
def Aj (K:Nat) (x0:Ai):Option Int :=
 Aj.l1 K x0 K (wr .i64 (((x0.Versions.length:Nat):Int)+((x0.Sessions.length:Nat):Int))) (0:Int)
abbrev Al:Type:=Int × Int × Ap
abbrev Ci:Ty:=(.pr (.int .i64) (.pr (.int .i64) Cz))
abbrev Al.ID (x:Al):Int:=x.1
abbrev Al.Base (x:Al):Int:=x.2.1
abbrev Al.Data (x:Al):Ap:=x.2.2
abbrev A7.sg:Sig:=⟨[(.one,(.sl Ci))],[],[(.one,(.int .i64))],[]⟩
def A7.l1 (K:Nat) (x0:List Al):Nat→Int→Int→Option Int
 | 0,_,_=>none
 | k+1,n_10,i_11 =>
  if decide (i_11<((x0.length:Nat):Int)) then
   if decide (n_10<1048576) then
    if (0:Int)≤i_11∧i_11<((x0.length:Nat):Int) then
    if (4:Int)≠0 then
    A7.l1 K x0 k (wr .i64 (n_10+(wr .i64 ((((((nth x0 i_11).Data).Data).size:Nat):Int).tdiv 4)))) (wr .i64 (i_11+1))
    else none
    else none
   else
    some n_10
  else
   some n_10
def A7 (K:Nat) (x0:List Al):Option Int :=
 A7.l1 K x0 K ((x0.length:Nat):Int) (0:Int)
abbrev A9.sg:Sig:=⟨[(.one,(.sl Bh))],[],[(.one,(.int .i64))],[]⟩
def A9.l1 (K:Nat) (x0:List Aa):Nat→Int→Int→Option Int
 | 0,_,_=>none
 | k+1,n_10,i_11 =>
  if decide (i_11<((x0.length:Nat):Int)) then
   if decide (n_10<1048576) then
    if (0:Int)≤i_11∧i_11<((x0.length:Nat):Int) then
    (Bv K ((nth x0 i_11).Out)).bind fun r23 =>
    A9.l1 K x0 k (wr .i64 (n_10+r23)) (wr .i64 (i_11+1))
    else none
   else
    some n_10
  else
   some n_10
def A9 (K:Nat) (x0:List Aa):Option Int :=
 A9.l1 K x0 K ((x0.length:Nat):Int) (0:Int)
abbrev Eu:Type:=Int × Int × Int
abbrev E5:Ty:=(.pr (.int .i64) (.pr (.int .i64) (.int .i64)))
abbrev Eu.Do (x:Eu):Int:=x.1
abbrev Eu.A (x:Eu):Int:=x.2.1
abbrev Eu.B (x:Eu):Int:=x.2.2
abbrev Dh:Type:=(List Aa) × (List Eu)
abbrev Gz:Ty:=(.pr (.sl Bh) (.sl E5))
abbrev Dh.G (x:Dh):List Aa:=x.1
abbrev Dh.A (x:Dh):List Eu:=x.2
abbrev Ec.sg:Sig:=⟨[(.agg,Gz)],[],[(.one,.bool)],[]⟩
def Ec (K:Nat) (x0:Dh):Option Bool :=
 (A9 K x0.G).bind fun r5 =>
 some (decide ((wr .i64 (r5+((x0.A.length:Nat):Int))) > 1200))
abbrev D8:Type:=(List (List Al)) × Dh × (List Int)
abbrev G7:Ty:=(.pr (.sl (.sl Ci)) (.pr Gz (.sl (.int .i64))))
abbrev D8.L (x:D8):List (List Al):=x.1
abbrev D8.G (x:D8):Dh:=x.2.1
abbrev D8.N (x:D8):List Int:=x.2.2
abbrev Bd.sg:Sig:=⟨[(.agg,G7)],[],[(.one,.bool)],[]⟩
def Bd.l1 (K:Nat) (x0:D8):Nat→Int→Int→Option Bool
 | 0,_,_=>none
 | k+1,n_10,i_11 =>
  if decide (i_11<((x0.L.length:Nat):Int)) then
   if decide (n_10<1048576) then
    if (0:Int)≤i_11∧i_11<((x0.L.length:Nat):Int) then
    (A7 K (nth x0.L i_11)).bind fun r29 =>
    Bd.l1 K x0 k (wr .i64 (n_10+r29)) (wr .i64 (i_11+1))
    else none
   else
    if decide (n_10 > 700) then
     some true
    else
     (Ec K x0.G).bind fun r36 =>
     some r36
  else
   if decide (n_10 > 700) then
    some true
   else
    (Ec K x0.G).bind fun r36 =>
    some r36
def Bd (K:Nat) (x0:D8):Option Bool :=
 Bd.l1 K x0 K (wr .i64 (((x0.N.length:Nat):Int)+((x0.L.length:Nat):Int))) (0:Int)
abbrev C8:Type:=(List Ai) × D8
abbrev G5:Ty:=(.pr (.sl Ck) G7)
abbrev C8.S (x:C8):List Ai:=x.1
abbrev C8.O (x:C8):D8:=x.2
abbrev Bz.sg:Sig:=⟨[(.agg,G5)],[],[(.one,.bool)],[]⟩
def Bz.l1 (K:Nat) (x0:C8):Nat→Int→Int→Option Bool
 | 0,_,_=>none
 | k+1,n_10,i_11 =>
  if decide (i_11<((x0.S.length:Nat):Int)) then
   if decide (n_10<1048576) then
    if (0:Int)≤i_11∧i_11<((x0.S.length:Nat):Int) then
    (Aj K (nth x0.S i_11)).bind fun r25 =>
    Bz.l1 K x0 k (wr .i64 (n_10+r25)) (wr .i64 (i_11+1))
    else none
   else
    if decide (n_10 > 1500) then
     some true
    else
     (Bd K x0.O).bind fun r32 =>
     some r32
  else
   if decide (n_10 > 1500) then
    some true
   else
    (Bd K x0.O).bind fun r32 =>
    some r32
def Bz (K:Nat) (x0:C8):Option Bool :=
 Bz.l1 K x0 K ((x0.S.length:Nat):Int) (0:Int)
abbrev D6.sg:Sig:=⟨[(.agg,Ck)],[],[(.one,(.sl Ci))],[.o]⟩
def D6.l1 (K:Nat) (x0:Ai):Nat→Int→Int→(List Al)→Option (List Al)
 | 0,_,_,_=>none
 | k+1,t_10,t_11,l_12 =>
  if decide (t_11<t_10) then
   if (0:Int)≤t_11∧t_11<((x0.Versions.length:Nat):Int) then
   if (l_12.length+([(((nth x0.Versions t_11).ID,(nth x0.Versions t_11).Base,((nth x0.Versions t_11).Data)):Al)]:List Al).length)*40≤140737488355328 then
   D6.l1 K x0 k t_10 (wr .i64 (t_11+1)) (l_12++([(((nth x0.Versions t_11).ID,(nth x0.Versions t_11).Base,((nth x0.Versions t_11).Data)):Al)]:List Al))
   else none
   else none
  else
   some l_12
def D6 (K:Nat) (x0:Ai):Option (List Al) :=
 D6.l1 K x0 K ((x0.Versions.length:Nat):Int) (0:Int) ([]:List Al)
abbrev Fg.sg:Sig:=⟨[(.agg,Cz)],[],[(.one,.bool)],[]⟩
def Fg (K:Nat) (x0:Ap):Option Bool :=
 if decide (x0.N<0) then
  some false
 else
  if decide (x0.N > 6000) then
   some false
  else
   if (8:Int)≠0 then
   if (((x0.Data.size:Nat):Int) != (wr .i64 ((wr .i64 ((wr .i64 (x0.N+8))-1)).tdiv 8))) then
    some false
   else
    if (8:Int)≠0 then
    if ((x0.N.tmod 8) == 0) then
     some true
    else
     if (0:Int)≤(wr .i64 (((x0.Data.size:Nat):Int)-1))∧(wr .i64 (((x0.Data.size:Nat):Int)-1))<((x0.Data.size:Nat):Int) then
     if (0:Int)≤(x0.N.tmod 8) then
     some ((ib .and .u8 (bt x0.Data (wr .i64 (((x0.Data.size:Nat):Int)-1))) ((255:Int).fdiv (2 ^ min ((x0.N.tmod 8)).toNat 8))) == 0)
     else none
     else none
    else none
   else none
abbrev Gh.sg:Sig:=⟨[(.agg,Ci),(.box,(.int .i64))],[],[(.one,.bool)],[]⟩
def Gh (K:Nat) (x0:Al) (x1:Int):Option (Bool × Int) :=
 some ((x0.ID == x1),x1)
abbrev Af.sg:Sig:=⟨[(.one,(.sl Ci)),(.fn 283 1,.un),(.hid,(.int .i64))],[],[(.one,(.int .i64))],[]⟩
def Af.l1 (K:Nat) (x0:List Al):Nat→Int→Int→Int→Option (Int × Int)
 | 0,_,_,_=>none
 | k+1,t_10,t_11,h_12 =>
  if decide (t_11<t_10) then
   if (0:Int)≤t_11∧t_11<((x0.length:Nat):Int) then
   (Gh K (nth x0 t_11) h_12).bind fun r16 =>
   if r16.1 then
    some (t_11,r16.2)
   else
    Af.l1 K x0 k t_10 (wr .i64 (t_11+1)) r16.2
   else none
  else
   some ((-1),h_12)
def Af (K:Nat) (x0:List Al) (x2:Int):Option (Int × Int) :=
 Af.l1 K x0 K ((x0.length:Nat):Int) (0:Int) x2
abbrev E8.sg:Sig:=⟨[(.one,(.sl Ci)),(.one,(.int .i64))],[],[(.one,(.int .i64))],[]⟩
def E8 (K:Nat) (x0:List Al) (x1:Int):Option Int :=
 (Af K x0 x1).bind fun r7 =>
 some r7.1
abbrev Dv.sg:Sig:=⟨[(.one,(.sl Ci))],[],[(.one,.bool)],[]⟩
def Dv.l1 (K:Nat) (x0:List Al):Nat→Int→Int→Option Bool
 | 0,_,_=>none
 | k+1,t_10,t_11 =>
  if decide (t_11<t_10) then
   if (0:Int)≤t_11∧t_11<((x0.length:Nat):Int) then
   if decide (((nth x0 t_11).ID)<1) then
    some false
   else
    if decide (((nth x0 t_11).ID) > 1048576) then
     some false
    else
     if decide (t_11 > 0) then
      if (0:Int)≤(wr .i64 (t_11-1))∧(wr .i64 (t_11-1))<((x0.length:Nat):Int) then
      if decide (((nth x0 t_11).ID)≤((nth x0 (wr .i64 (t_11-1))).ID)) then
       some false
      else
       (Fg K ((nth x0 t_11).Data)).bind fun r41 =>
       if (!r41) then
        some false
       else
        if (((nth x0 t_11).Base) == ((nth x0 t_11).ID)) then
         some false
        else
         if (((nth x0 t_11).Base) != 0) then
          (E8 K x0 ((nth x0 t_11).Base)).bind fun r57 =>
          if decide (r57<0) then
           some false
          else
           Dv.l1 K x0 k t_10 (wr .i64 (t_11+1))
         else
          Dv.l1 K x0 k t_10 (wr .i64 (t_11+1))
      else none
     else
      (Fg K ((nth x0 t_11).Data)).bind fun r41 =>
      if (!r41) then
       some false
      else
       if (((nth x0 t_11).Base) == ((nth x0 t_11).ID)) then
        some false
       else
        if (((nth x0 t_11).Base) != 0) then
         (E8 K x0 ((nth x0 t_11).Base)).bind fun r57 =>
         if decide (r57<0) then
          some false
         else
          Dv.l1 K x0 k t_10 (wr .i64 (t_11+1))
        else
         Dv.l1 K x0 k t_10 (wr .i64 (t_11+1))
   else none
  else
   some true
def Dv (K:Nat) (x0:List Al):Option Bool :=
 if decide (((x0.length:Nat):Int) > 12) then
  some false
 else
  Dv.l1 K x0 K ((x0.length:Nat):Int) (0:Int)
abbrev Dj.sg:Sig:=⟨[(.agg,Ck)],[],[(.one,.bool)],[]⟩
def Dj.l1 (K:Nat) (x0:Ai):Nat→Int→Int→Option Bool
 | 0,_,_=>none
 | k+1,t_10,t_11 =>
  if decide (t_11<t_10) then
   if (0:Int)≤t_11∧t_11<((x0.Versions.length:Nat):Int) then
   if decide (((nth x0.Versions t_11).Parent)<0) then
    some false
   else
    if decide (((nth x0.Versions t_11).Parent)≥((nth x0.Versions t_11).ID)) then
     some false
    else
     if (nth x0.Versions t_11).Tag then
      if (nth x0.Versions t_11).Gone then
       some false
      else
       if (nth x0.Versions t_11).Gone then
        if (t_11 == (wr .i64 (((x0.Versions.length:Nat):Int)-1))) then
         some false
        else
         Dj.l1 K x0 k t_10 (wr .i64 (t_11+1))
       else
        Dj.l1 K x0 k t_10 (wr .i64 (t_11+1))
     else
      if (nth x0.Versions t_11).Gone then
       if (t_11 == (wr .i64 (((x0.Versions.length:Nat):Int)-1))) then
        some false
       else
        Dj.l1 K x0 k t_10 (wr .i64 (t_11+1))
      else
       Dj.l1 K x0 k t_10 (wr .i64 (t_11+1))
   else none
  else
   (D6 K x0).bind fun r63 =>
   (Dv K r63).bind fun r64 =>
   some r64
def Dj (K:Nat) (x0:Ai):Option Bool :=
 if decide (x0.Keep<1) then
  some false
 else
  if decide (x0.Keep > 8) then
   some false
  else
   if decide (x0.Blocks<1) then
    some false
   else
    if decide (x0.Blocks > 100) then
     some false
    else
     Dj.l1 K x0 K ((x0.Versions.length:Nat):Int) (0:Int)
abbrev D7.sg:Sig:=⟨[(.one,(.sl Ci)),(.one,(.int .i64)),(.one,(.int .i64))],[],[(.one,(.sl Ci))],[.o]⟩
def D7.l1 (K:Nat) (x0:List Al) (x2:Int):Nat→Int→(List Al)→Option (List Al)
 | 0,_,_=>none
 | k+1,id_10,w_11 =>
  if (id_10 != 0) then
   if decide (((w_11.length:Nat):Int)<x2) then
    (E8 K x0 id_10).bind fun r19 =>
    if (0:Int)≤r19∧r19<((x0.length:Nat):Int) then
    if (w_11.length+([(nth x0 r19)]:List Al).length)*40≤140737488355328 then
    D7.l1 K x0 x2 k ((nth x0 r19).Base) (w_11++([(nth x0 r19)]:List Al))
    else none
    else none
   else
    some w_11
  else
   some w_11
def D7 (K:Nat) (x0:List Al) (x1:Int) (x2:Int):Option (List Al) :=
 D7.l1 K x0 x2 K x1 ([]:List Al)
abbrev Gl.sg:Sig:=⟨[(.one,(.sl Ci)),(.one,(.int .i64))],[],[(.one,(.int .i64)),(.one,(.int .i64))],[]⟩
def Gl (K:Nat) (x0:List Al) (x1:Int):Option (Int × Int) :=
 (E8 K x0 x1).bind fun r9 =>
 if decide (r9<0) then
  some (0,3)
 else
  (D7 K x0 x1 4).bind fun r13 =>
  if decide (((r13.length:Nat):Int) > 3) then
   some (0,2)
  else
   some (((r13.length:Nat):Int),0)
abbrev F3.sg:Sig:=⟨[(.agg,Cz),(.one,(.int .i64))],[],[(.one,(.int .i64))],[]⟩
def F3 (K:Nat) (x0:Ap) (x1:Int):Option Int :=
 if (8:Int)≠0 then
 if (0:Int)≤(wr .i64 (x1.tdiv 8))∧(wr .i64 (x1.tdiv 8))<((x0.Data.size:Nat):Int) then
 if (8:Int)≠0 then
 if (0:Int)≤(wr .i64 (7-(x1.tmod 8))) then
 some (ib .and .i64 (wr .i64 ((bt x0.Data (wr .i64 (x1.tdiv 8))).fdiv (2 ^ min ((wr .i64 (7-(x1.tmod 8)))).toNat 8))) 1)
 else none
 else none
 else none
 else none
abbrev Dm.sg:Sig:=⟨[(.agg,Cz),(.one,(.int .i64))],[],[(.one,(.int .i64))],[]⟩
def Dm.l1 (K:Nat) (x0:Ap) (x1:Int):Nat→Int→Option Int
 | 0,_=>none
 | k+1,i_10 =>
  if decide (i_10<x0.N) then
   (F3 K x0 i_10).bind fun r15 =>
   if (r15 == 1) then
    some (wr .i64 (i_10-x1))
   else
    Dm.l1 K x0 x1 k (wr .i64 (i_10+1))
  else
   some ((-1):Int)
def Dm (K:Nat) (x0:Ap) (x1:Int):Option Int :=
 Dm.l1 K x0 x1 K x1
abbrev Bi:Type:=Ap × Int × Bool
abbrev Fq:Ty:=(.pr Cz (.pr (.int .i64) .bool))
abbrev Bi.b (x:Bi):Ap:=x.1
abbrev Bi.at_ (x:Bi):Int:=x.2.1
abbrev Bi.bad (x:Bi):Bool:=x.2.2
abbrev D9.sg:Sig:=⟨[(.box,Fq),(.one,(.int .i64))],[],[(.one,(.int .i64))],[]⟩
def D9 (K:Nat) (x0:Bi) (x1:Int):Option (Int × Bi) :=
 (Dm K x0.b x0.at_).bind fun r14 =>
 if x0.bad then
  some (0,((x0.b,x0.at_,true):Bi))
 else
  if decide (r14<0) then
   some (0,((x0.b,x0.at_,true):Bi))
  else
   if decide (r14 > x1) then
    some (0,((x0.b,x0.at_,true):Bi))
   else
    some (r14,((x0.b,wr .i64 (x0.at_+r14),x0.bad):Bi))
abbrev Dw.sg:Sig:=⟨[(.agg,Cz),(.one,(.int .i64)),(.one,(.int .i64))],[],[(.one,(.int .i64)),(.one,.bool)],[]⟩
def Dw.l1 (K:Nat) (x0:Ap) (x1:Int) (x2:Int):Nat→Int→Int→Option (Int × Bool)
 | 0,_,_=>none
 | k+1,v_10,t_11 =>
  if decide (t_11<x2) then
   if (0:Int)≤1 then
   (F3 K x0 (wr .i64 (x1+t_11))).bind fun r32 =>
   Dw.l1 K x0 x1 x2 k (ib .or .i64 (wr .i64 (v_10*2 ^ min ((1:Int)).toNat 64)) r32) (wr .i64 (t_11+1))
   else none
  else
   some (v_10,true)
def Dw (K:Nat) (x0:Ap) (x1:Int) (x2:Int):Option (Int × Bool) :=
 if decide (x1 > x0.N) then
  some (0,false)
 else
  if decide (x2 > (wr .i64 (x0.N-x1))) then
   some (0,false)
  else
   Dw.l1 K x0 x1 x2 K (0:Int) (0:Int)
abbrev Cw.sg:Sig:=⟨[(.box,Fq),(.one,(.int .i64))],[],[(.one,(.int .i64))],[]⟩
def Cw (K:Nat) (x0:Bi) (x1:Int):Option (Int × Bi) :=
 (Dw K x0.b x0.at_ x1).bind fun r17 =>
 if x0.bad then
  some (0,((x0.b,x0.at_,true):Bi))
 else
  if (!r17.2) then
   some (0,((x0.b,x0.at_,true):Bi))
  else
   some (r17.1,((x0.b,wr .i64 (x0.at_+x1),x0.bad):Bi))
abbrev Ei.sg:Sig:=⟨[(.box,Fq),(.one,(.int .i64))],[],[(.one,(.int .i64))],[]⟩
def Ei (K:Nat) (x0:Bi) (x1:Int):Option (Int × Bi) :=
 (D9 K x0 (wr .i64 (x1-1))).bind fun r9 =>
 (Cw K r9.2 1).bind fun r11 =>
 some (wr .i64 (r9.1+1),r11.2)
abbrev Dr.sg:Sig:=⟨[(.box,Fq)],[],[(.one,(.int .i64))],[]⟩
def Dr (K:Nat) (x0:Bi):Option (Int × Bi) :=
 (D9 K x0 30).bind fun r5 =>
 (Cw K r5.2 (wr .i64 (r5.1+1))).bind fun r9 =>
 some (r9.1,r9.2)
abbrev E9.sg:Sig:=⟨[(.box,Fq)],[],[(.one,(.int .i64))],[]⟩
def E9 (K:Nat) (x0:Bi):Option (Int × Bi) :=
 (Dr K x0).bind fun r5 =>
 if r5.2.bad then
  some (0,((r5.2.b,r5.2.at_,true):Bi))
 else
  if decide ((wr .i64 (r5.1-1)) > 30) then
   some (0,((r5.2.b,r5.2.at_,true):Bi))
  else
   if (0:Int)≤(wr .i64 (r5.1-1)) then
   (Cw K r5.2 (wr .i64 (r5.1-1))).bind fun r22 =>
   some (ib .or .i64 (wr .i64 ((1:Int)*2 ^ min ((wr .i64 (r5.1-1))).toNat 64)) r22.1,r22.2)
   else none
abbrev Gx.sg:Sig:=⟨[(.one,(.int .i64))],[],[(.one,(.int .i64))],[]⟩
def Gx (K:Nat) (x0:Int):Option Int :=
 some (wr .i64 ((wr .i64 (x0-4))+2))
abbrev Cx.sg:Sig:=⟨[(.one,(.int .u32))],[],[(.one,(.int .i64))],[]⟩
def Cx.j2 (K:Nat) (x_12:Int) (n_13:Int):Option Int :=
 if (0:Int)≤(wr .u8 x_12)∧(wr .u8 x_12)<(((⟨#[0,1,2,2,3,3,3,3,4,4,4,4,4,4,4,4,5,5,5,5,5,5,5,5,5,5,5,5,5,5,5,5,6,6,6,6,6,6,6,6,6,6,6,6,6,6,6,6,6,6,6,6,6,6,6,6,6,6,6,6,6,6,6,6,7,7,7,7,7,7,7,7,7,7,7,7,7,7,7,7,7,7,7,7,7,7,7,7,7,7,7,7,7,7,7,7,7,7,7,7,7,7,7,7,7,7,7,7,7,7,7,7,7,7,7,7,7,7,7,7,7,7,7,7,7,7,7,7,8,8,8,8,8,8,8,8,8,8,8,8,8,8,8,8,8,8,8,8,8,8,8,8,8,8,8,8,8,8,8,8,8,8,8,8,8,8,8,8,8,8,8,8,8,8,8,8,8,8,8,8,8,8,8,8,8,8,8,8,8,8,8,8,8,8,8,8,8,8,8,8,8,8,8,8,8,8,8,8,8,8,8,8,8,8,8,8,8,8,8,8,8,8,8,8,8,8,8,8,8,8,8,8,8,8,8,8,8,8,8,8,8,8,8,8,8,8,8,8,8,8,8,8,8,8,8,8]⟩:ByteArray).size:Nat):Int) then
 some (wr .i64 (n_13+(wr .i64 (bt (⟨#[0,1,2,2,3,3,3,3,4,4,4,4,4,4,4,4,5,5,5,5,5,5,5,5,5,5,5,5,5,5,5,5,6,6,6,6,6,6,6,6,6,6,6,6,6,6,6,6,6,6,6,6,6,6,6,6,6,6,6,6,6,6,6,6,7,7,7,7,7,7,7,7,7,7,7,7,7,7,7,7,7,7,7,7,7,7,7,7,7,7,7,7,7,7,7,7,7,7,7,7,7,7,7,7,7,7,7,7,7,7,7,7,7,7,7,7,7,7,7,7,7,7,7,7,7,7,7,7,8,8,8,8,8,8,8,8,8,8,8,8,8,8,8,8,8,8,8,8,8,8,8,8,8,8,8,8,8,8,8,8,8,8,8,8,8,8,8,8,8,8,8,8,8,8,8,8,8,8,8,8,8,8,8,8,8,8,8,8,8,8,8,8,8,8,8,8,8,8,8,8,8,8,8,8,8,8,8,8,8,8,8,8,8,8,8,8,8,8,8,8,8,8,8,8,8,8,8,8,8,8,8,8,8,8,8,8,8,8,8,8,8,8,8,8,8,8,8,8,8,8,8,8,8,8,8,8]⟩:ByteArray) (wr .u8 x_12)))))
 else none
def Cx.j1 (K:Nat) (x_10:Int) (n_11:Int):Option Int :=
 if decide (x_10≥256) then
  if (0:Int)≤8 then
  Cx.j2 K (x_10.fdiv (2 ^ min ((8:Int)).toNat 32)) (wr .i64 (n_11+8))
  else none
 else
  Cx.j2 K x_10 n_11
def Cx (K:Nat) (x0:Int):Option Int :=
 if decide (x0≥65536) then
  if (0:Int)≤16 then
  Cx.j1 K (x0.fdiv (2 ^ min ((16:Int)).toNat 32)) (16:Int)
  else none
 else
  Cx.j1 K x0 (0:Int)
abbrev Cb.sg:Sig:=⟨[(.one,(.int .u64))],[],[(.one,(.int .i64))],[]⟩
def Cb.j3 (K:Nat) (x_14:Int) (n_15:Int):Option Int :=
 if (0:Int)≤(wr .u8 x_14)∧(wr .u8 x_14)<(((⟨#[0,1,2,2,3,3,3,3,4,4,4,4,4,4,4,4,5,5,5,5,5,5,5,5,5,5,5,5,5,5,5,5,6,6,6,6,6,6,6,6,6,6,6,6,6,6,6,6,6,6,6,6,6,6,6,6,6,6,6,6,6,6,6,6,7,7,7,7,7,7,7,7,7,7,7,7,7,7,7,7,7,7,7,7,7,7,7,7,7,7,7,7,7,7,7,7,7,7,7,7,7,7,7,7,7,7,7,7,7,7,7,7,7,7,7,7,7,7,7,7,7,7,7,7,7,7,7,7,8,8,8,8,8,8,8,8,8,8,8,8,8,8,8,8,8,8,8,8,8,8,8,8,8,8,8,8,8,8,8,8,8,8,8,8,8,8,8,8,8,8,8,8,8,8,8,8,8,8,8,8,8,8,8,8,8,8,8,8,8,8,8,8,8,8,8,8,8,8,8,8,8,8,8,8,8,8,8,8,8,8,8,8,8,8,8,8,8,8,8,8,8,8,8,8,8,8,8,8,8,8,8,8,8,8,8,8,8,8,8,8,8,8,8,8,8,8,8,8,8,8,8,8,8,8,8,8]⟩:ByteArray).size:Nat):Int) then
 some (wr .i64 (n_15+(wr .i64 (bt (⟨#[0,1,2,2,3,3,3,3,4,4,4,4,4,4,4,4,5,5,5,5,5,5,5,5,5,5,5,5,5,5,5,5,6,6,6,6,6,6,6,6,6,6,6,6,6,6,6,6,6,6,6,6,6,6,6,6,6,6,6,6,6,6,6,6,7,7,7,7,7,7,7,7,7,7,7,7,7,7,7,7,7,7,7,7,7,7,7,7,7,7,7,7,7,7,7,7,7,7,7,7,7,7,7,7,7,7,7,7,7,7,7,7,7,7,7,7,7,7,7,7,7,7,7,7,7,7,7,7,8,8,8,8,8,8,8,8,8,8,8,8,8,8,8,8,8,8,8,8,8,8,8,8,8,8,8,8,8,8,8,8,8,8,8,8,8,8,8,8,8,8,8,8,8,8,8,8,8,8,8,8,8,8,8,8,8,8,8,8,8,8,8,8,8,8,8,8,8,8,8,8,8,8,8,8,8,8,8,8,8,8,8,8,8,8,8,8,8,8,8,8,8,8,8,8,8,8,8,8,8,8,8,8,8,8,8,8,8,8,8,8,8,8,8,8,8,8,8,8,8,8,8,8,8,8,8,8]⟩:ByteArray) (wr .u8 x_14)))))
 else none
def Cb.j2 (K:Nat) (x_12:Int) (n_13:Int):Option Int :=
 if decide (x_12≥256) then
  if (0:Int)≤8 then
  Cb.j3 K (x_12.fdiv (2 ^ min ((8:Int)).toNat 64)) (wr .i64 (n_13+8))
  else none
 else
  Cb.j3 K x_12 n_13
def Cb.j1 (K:Nat) (x_10:Int) (n_11:Int):Option Int :=
 if decide (x_10≥65536) then
  if (0:Int)≤16 then
  Cb.j2 K (x_10.fdiv (2 ^ min ((16:Int)).toNat 64)) (wr .i64 (n_11+16))
  else none
 else
  Cb.j2 K x_10 n_11
def Cb (K:Nat) (x0:Int):Option Int :=
 if decide (x0≥4294967296) then
  if (0:Int)≤32 then
  Cb.j1 K (x0.fdiv (2 ^ min ((32:Int)).toNat 64)) (32:Int)
  else none
 else
  Cb.j1 K x0 (0:Int)
abbrev Gc.sg:Sig:=⟨[(.one,(.int .u64))],[],[(.one,(.int .i64))],[]⟩
def Gc (K:Nat) (x0:Int):Option Int :=
 (Cb K x0).bind fun r7 =>
 some r7
abbrev G6.sg:Sig:=⟨[(.one,(.int .i64)),(.one,(.int .i64))],[],[(.one,(.int .i64)),(.one,(.int .i64)),(.one,(.int .i64)),(.one,(.int .i64))],[]⟩
def G6 (K:Nat) (x0:Int) (x1:Int):Option (Int × Int × Int × Int) :=
 if (0:Int)≤(wr .i64 (x1*x0)) then
 if (0:Int)≤x0 then
 (Gc K (wr .u64 (wr .i64 ((wr .i64 ((wr .i64 ((wr .i64 ((1:Int)*2 ^ min ((wr .i64 (x1*x0))).toNat 64))*2 ^ min (x0).toNat 64))-(wr .i64 ((1:Int)*2 ^ min ((wr .i64 (x1*x0))).toNat 64))))-1)))).bind fun r20 =>
 if (0:Int)≤r20 then
 some (wr .i64 ((1:Int)*2 ^ min ((wr .i64 (x1*x0))).toNat 64),wr .i64 ((wr .i64 ((wr .i64 ((1:Int)*2 ^ min ((wr .i64 (x1*x0))).toNat 64))*2 ^ min (x0).toNat 64))-(wr .i64 ((1:Int)*2 ^ min ((wr .i64 (x1*x0))).toNat 64))),r20,wr .i64 ((wr .i64 ((1:Int)*2 ^ min (r20).toNat 64))-(wr .i64 ((wr .i64 ((wr .i64 ((1:Int)*2 ^ min ((wr .i64 (x1*x0))).toNat 64))*2 ^ min (x0).toNat 64))-(wr .i64 ((1:Int)*2 ^ min ((wr .i64 (x1*x0))).toNat 64))))))
 else none
 else none
 else none
abbrev Fa.sg:Sig:=⟨[(.box,Fq),(.one,(.int .i64))],[],[(.one,(.int .i64))],[]⟩
def Fa (K:Nat) (x0:Bi) (x1:Int):Option (Int × Bi) :=
 if x1≠0 then
 (Ei K x0 (wr .i64 ((wr .i64 ((30:Int).tdiv x1))+1))).bind fun r15 =>
 if r15.2.bad then
  some (0,r15.2)
 else
  (G6 K x1 (wr .i64 (r15.1-1))).bind fun r24 =>
  (Cw K r15.2 (wr .i64 (r24.2.2.1-1))).bind fun r32 =>
  if decide (r32.1≥r24.2.2.2) then
   if (0:Int)≤1 then
   (Cw K r32.2 1).bind fun r39 =>
   some (wr .i64 (r24.1+(wr .i64 ((wr .i64 ((wr .i64 (r32.1*2 ^ min ((1:Int)).toNat 64))+r39.1))-r24.2.2.2))),r39.2)
   else none
  else
   some (wr .i64 (r24.1+r32.1),r32.2)
 else none
abbrev Cs.sg:Sig:=⟨[(.agg,Cz),(.one,(.int .i64)),(.one,(.int .i64))],[],[(.one,(.int .i64)),(.one,(.int .i64)),(.one,.bool)],[]⟩
def Cs.j1 (K:Nat) (n_14:Int) (r_10:ByteArray) (r_11:Int) (r_12:Int) (r_13:Bool):Option (Int × Int × Bool) :=
 if r_13 then
  some (0,0,false)
 else
  if decide (n_14 > 1073741824) then
   some (0,0,false)
  else
   some (n_14,r_12,true)
def Cs (K:Nat) (x0:Ap) (x1:Int) (x2:Int):Option (Int × Int × Bool) :=
 if (x2 == 1) then
  (Ei K ((x0,x1,false):Bi) 1000).bind fun r23 =>
  Cs.j1 K r23.1 r23.2.b.Data r23.2.b.N r23.2.at_ r23.2.bad
 else
  if (x2 == 2) then
   (Dr K ((x0,x1,false):Bi)).bind fun r27 =>
   Cs.j1 K r27.1 r27.2.b.Data r27.2.b.N r27.2.at_ r27.2.bad
  else
   if (x2 == 3) then
    (E9 K ((x0,x1,false):Bi)).bind fun r31 =>
    Cs.j1 K r31.1 r31.2.b.Data r31.2.b.N r31.2.at_ r31.2.bad
   else
    (Gx K x2).bind fun r18 =>
    (Fa K ((x0,x1,false):Bi) r18).bind fun r19 =>
    Cs.j1 K r19.1 r19.2.b.Data r19.2.b.N r19.2.at_ r19.2.bad
abbrev F6.sg:Sig:=⟨[(.agg,Cz)],[],[(.one,(.int .i64)),(.one,(.int .i64)),(.one,.bool)],[]⟩
def F6 (K:Nat) (x0:Ap):Option (Int × Int × Bool) :=
 (Cs K x0 0 2).bind fun r7 =>
 if (!r7.2.2) then
  some (0,0,false)
 else
  if decide (r7.1 > 17) then
   some (0,0,false)
  else
   some (wr .i64 (r7.1-1),r7.2.1,true)
abbrev Eo.sg:Sig:=⟨[(.one,(.int .i64))],[],[(.one,(.int .i64))],[]⟩
def Eo (K:Nat) (x0:Int):Option Int :=
 if (2:Int)≠0 then
 if ((x0.tmod 2) == 1) then
  if (2:Int)≠0 then
  some (wr .i64 ((wr .i64 (0-(wr .i64 (x0+1)))).tdiv 2))
  else none
 else
  if (2:Int)≠0 then
  some (wr .i64 (x0.tdiv 2))
  else none
 else none
abbrev Ao:Type:=Int × Int
abbrev Dt:Ty:=(.pr (.int .i64) (.int .i64))
abbrev Ao.At (x:Ao):Int:=x.1
abbrev Ao.Len (x:Ao):Int:=x.2
abbrev Cf.sg:Sig:=⟨[(.agg,Cz),(.one,(.int .i64)),(.one,(.int .i64))],[],[(.one,(.sl Dt)),(.one,(.int .i64)),(.one,.bool)],[.o]⟩
def Cf.j2 (K:Nat) (go_l1:Int→Int→Int→Int→(List Ao)→Option ((List Ao) × Int × Bool)) (r48:Int × Int × Bool) (t_10:Int) (t_11:Int) (t_13:List Ao) (t_15:Int) (x0:Ap) (t_12:Int):Option ((List Ao) × Int × Bool) :=
 if (t_13.length+([((wr .i64 (t_15+t_12),wr .i64 ((wr .i64 (r48.1-1))+3)):Ao)]:List Ao).length)*16≤140737488355328 then
 go_l1 r48.2.1 (wr .i64 ((wr .i64 (t_15+t_12))+(wr .i64 ((wr .i64 (r48.1-1))+3)))) t_10 (wr .i64 (t_11+1)) (t_13++([((wr .i64 (t_15+t_12),wr .i64 ((wr .i64 (r48.1-1))+3)):Ao)]:List Ao))
 else none
def Cf.l1 (K:Nat) (x0:Ap):Nat→Int→Int→Int→Int→(List Ao)→Option ((List Ao) × Int × Bool)
 | 0,_,_,_,_,_=>none
 | k+1,t_14,t_15,t_10,t_11,t_13 =>
  if decide (t_11<t_10) then
   (Cs K x0 t_14 2).bind fun r39 =>
   if (!r39.2.2) then
    some (([]:List Ao),0,false)
   else
    (Cs K x0 r39.2.1 2).bind fun r48 =>
    if (!r48.2.2) then
     some (([]:List Ao),0,false)
    else
     if (t_11 == 0) then
      (Eo K (wr .i64 (r39.1-1))).bind fun r58 =>
      Cf.j2 K (Cf.l1 K x0 k) r48 t_10 t_11 t_13 t_15 x0 r58
     else
      Cf.j2 K (Cf.l1 K x0 k) r48 t_10 t_11 t_13 t_15 x0 r39.1
  else
   some (t_13,t_14,true)
def Cf (K:Nat) (x0:Ap) (x1:Int) (x2:Int):Option ((List Ao) × Int × Bool) :=
 (Cs K x0 x1 2).bind fun r20 =>
 if (!r20.2.2) then
  some (([]:List Ao),0,false)
 else
  if decide (r20.1 > 16) then
   some (([]:List Ao),0,false)
  else
   Cf.l1 K x0 K r20.2.1 x2 (wr .i64 (r20.1-1)) (0:Int) ([]:List Ao)
abbrev Fs.sg:Sig:=⟨[(.one,(.int .i64))],[],[(.one,.bool)],[]⟩
def Fs (K:Nat) (x0:Int):Option Bool :=
 if decide (x0≥0) then
  some (decide (x0<16))
 else
  some false
abbrev Ce.sg:Sig:=⟨[(.agg,Cz),(.one,(.int .i64)),(.one,(.int .i64))],[],[(.one,(.sl (.int .i64))),(.one,(.int .i64)),(.one,.bool)],[.o]⟩
def Ce.j2 (K:Nat) (go_l1:Int→Int→Int→Int→(List Int)→Option ((List Int) × Int × Bool)) (l_13:List Int) (last_15:Int) (r35:Int × Int × Bool) (t_10:Int) (t_11:Int) (x0:Ap) (n_12:Int):Option ((List Int) × Int × Bool) :=
 (Fs K (wr .i64 (last_15+n_12))).bind fun r50 =>
 if (!r50) then
  some (([]:List Int),0,false)
 else
  if (l_13.length+([wr .i64 (last_15+n_12)]:List Int).length)*8≤140737488355328 then
  go_l1 r35.2.1 (wr .i64 (last_15+n_12)) t_10 (wr .i64 (t_11+1)) (l_13++([wr .i64 (last_15+n_12)]:List Int))
  else none
def Ce.l1 (K:Nat) (x0:Ap):Nat→Int→Int→Int→Int→(List Int)→Option ((List Int) × Int × Bool)
 | 0,_,_,_,_,_=>none
 | k+1,next_14,last_15,t_10,t_11,l_13 =>
  if decide (t_11<t_10) then
   (Cs K x0 next_14 2).bind fun r35 =>
   if (!r35.2.2) then
    some (([]:List Int),0,false)
   else
    if (t_11 == 0) then
     (Eo K (wr .i64 (r35.1-1))).bind fun r45 =>
     Ce.j2 K (Ce.l1 K x0 k) l_13 last_15 r35 t_10 t_11 x0 r45
    else
     Ce.j2 K (Ce.l1 K x0 k) l_13 last_15 r35 t_10 t_11 x0 r35.1
  else
   some (l_13,next_14,true)
def Ce (K:Nat) (x0:Ap) (x1:Int) (x2:Int):Option ((List Int) × Int × Bool) :=
 (Cs K x0 x1 2).bind fun r16 =>
 if (!r16.2.2) then
  some (([]:List Int),0,false)
 else
  if decide (r16.1 > 17) then
   some (([]:List Int),0,false)
  else
   Ce.l1 K x0 K r16.2.1 x2 (wr .i64 (r16.1-1)) (0:Int) ([]:List Int)
abbrev Cm.sg:Sig:=⟨[(.one,(.sl (.int .i64)))],[],[(.one,(.sl (.int .i64)))],[.o]⟩
def Cm (K:Nat) (x0:List Int):Option (List Int) :=
 if (([]:List Int).length+x0.length)*8≤140737488355328 then
 some (([]:List Int)++x0)
 else none
abbrev Dx.sg:Sig:=⟨[(.one,(.sl (.int .i64)))],[],[(.one,.bool)],[]⟩
def Dx.l1 (K:Nat) (x0:List Int):Nat→Int→Int→Option Bool
 | 0,_,_=>none
 | k+1,t_10,t_11 =>
  if decide (t_11<t_10) then
   if (0:Int)≤t_11∧t_11<((x0.length:Nat):Int) then
   (Fs K (nth x0 t_11)).bind fun r13 =>
   if (!r13) then
    some false
   else
    if decide (t_11 > 0) then
     if (0:Int)≤(wr .i64 (t_11-1))∧(wr .i64 (t_11-1))<((x0.length:Nat):Int) then
     if decide ((nth x0 t_11)≤(nth x0 (wr .i64 (t_11-1)))) then
      some false
     else
      Dx.l1 K x0 k t_10 (wr .i64 (t_11+1))
     else none
    else
     Dx.l1 K x0 k t_10 (wr .i64 (t_11+1))
   else none
  else
   some true
def Dx (K:Nat) (x0:List Int):Option Bool :=
 Dx.l1 K x0 K ((x0.length:Nat):Int) (0:Int)
abbrev Cn.sg:Sig:=⟨[(.one,(.sl Dt)),(.one,(.sl (.int .i64)))],[],[(.one,(.sl (.int .i64))),(.one,.bool)],[.o]⟩
def Cn.l2 (K:Nat) (go_l1:Int→Int→Int→(List Int)→Option ((List Int) × Bool)) (t_11:Int) (t_12:Int) (x0:List Ao) (x1:List Int):Nat→Int→Int→(List Int)→Option ((List Int) × Bool)
 | 0,_,_,_=>none
 | k+1,t_13,t_14,t_15 =>
  if decide (t_14<t_13) then
   if (t_15.length+([t_14]:List Int).length)*8≤140737488355328 then
   Cn.l2 K go_l1 t_11 t_12 x0 x1 k t_13 (wr .i64 (t_14+1)) (t_15++([t_14]:List Int))
   else none
  else
   go_l1 t_13 t_11 (wr .i64 (t_12+1)) t_15
def Cn.l1 (K:Nat) (x0:List Ao) (x1:List Int):Nat→Int→Int→Int→(List Int)→Option ((List Int) × Bool)
 | 0,_,_,_,_=>none
 | k+1,t_10,t_11,t_12,t_16 =>
  if decide (t_12<t_11) then
   if (0:Int)≤t_12∧t_12<((x0.length:Nat):Int) then
   if decide (((nth x0 t_12).Len)<3) then
    some (([]:List Int),false)
   else
    if decide (((nth x0 t_12).Len) > 16) then
     some (([]:List Int),false)
    else
     if decide (((nth x0 t_12).At)≤t_10) then
      some (([]:List Int),false)
     else
      (Fs K ((nth x0 t_12).At)).bind fun r36 =>
      if (!r36) then
       some (([]:List Int),false)
      else
       (Fs K (wr .i64 ((wr .i64 (((nth x0 t_12).At)+((nth x0 t_12).Len)))-1))).bind fun r46 =>
       if (!r46) then
        some (([]:List Int),false)
       else
        Cn.l2 K (Cn.l1 K x0 x1 k) t_11 t_12 x0 x1 K (wr .i64 (((nth x0 t_12).At)+((nth x0 t_12).Len))) ((nth x0 t_12).At) t_16
   else none
  else
   if t_16.length<4611686018427387904 then
   (Dx K x1).bind fun r70 =>
   if r70 then
    (Dx K (sortF t_16)).bind fun r73 =>
    some (sortF t_16,r73)
   else
    some (sortF t_16,false)
   else none
def Cn (K:Nat) (x0:List Ao) (x1:List Int):Option ((List Int) × Bool) :=
 (Cm K x1).bind fun r12 =>
 Cn.l1 K x0 x1 K ((-1):Int) ((x0.length:Nat):Int) (0:Int) r12
abbrev Cq.sg:Sig:=⟨[(.one,(.sl (.int .i64)))],[],[(.one,(.sl Dt)),(.one,(.sl (.int .i64)))],[.o,.o]⟩
def Cq.l2 (K:Nat) (go_l1:Int→(List Ao)→(List Int)→Option ((List Ao) × (List Int))) (i_10:Int) (x0:List Int):Nat→Int→(List Ao)→(List Int)→Option ((List Ao) × (List Int))
 | 0,_,_,_=>none
 | k+1,k_11,r_14,rest_15 =>
  if decide (k_11<((x0.length:Nat):Int)) then
   if (0:Int)≤k_11∧k_11<((x0.length:Nat):Int) then
   if (0:Int)≤(wr .i64 (k_11-1))∧(wr .i64 (k_11-1))<((x0.length:Nat):Int) then
   if ((nth x0 k_11) == (wr .i64 ((nth x0 (wr .i64 (k_11-1)))+1))) then
    Cq.l2 K go_l1 i_10 x0 k (wr .i64 (k_11+1)) r_14 rest_15
   else
    if decide ((wr .i64 (k_11-i_10))≥3) then
     if (0:Int)≤i_10∧i_10<((x0.length:Nat):Int) then
     if (r_14.length+([((nth x0 i_10,wr .i64 (k_11-i_10)):Ao)]:List Ao).length)*16≤140737488355328 then
     go_l1 k_11 (r_14++([((nth x0 i_10,wr .i64 (k_11-i_10)):Ao)]:List Ao)) rest_15
     else none
     else none
    else
     if (0:Int)≤i_10∧i_10≤k_11∧k_11≤((x0.length:Nat):Int) then
     if (rest_15.length+(((x0).drop i_10.toNat).take (k_11.toNat-i_10.toNat)).length)*8≤140737488355328 then
     go_l1 k_11 r_14 (rest_15++(((x0).drop i_10.toNat).take (k_11.toNat-i_10.toNat)))
     else none
     else none
   else none
   else none
  else
   if decide ((wr .i64 (k_11-i_10))≥3) then
    if (0:Int)≤i_10∧i_10<((x0.length:Nat):Int) then
    if (r_14.length+([((nth x0 i_10,wr .i64 (k_11-i_10)):Ao)]:List Ao).length)*16≤140737488355328 then
    go_l1 k_11 (r_14++([((nth x0 i_10,wr .i64 (k_11-i_10)):Ao)]:List Ao)) rest_15
    else none
    else none
   else
    if (0:Int)≤i_10∧i_10≤k_11∧k_11≤((x0.length:Nat):Int) then
    if (rest_15.length+(((x0).drop i_10.toNat).take (k_11.toNat-i_10.toNat)).length)*8≤140737488355328 then
    go_l1 k_11 r_14 (rest_15++(((x0).drop i_10.toNat).take (k_11.toNat-i_10.toNat)))
    else none
    else none
def Cq.l1 (K:Nat) (x0:List Int):Nat→Int→(List Ao)→(List Int)→Option ((List Ao) × (List Int))
 | 0,_,_,_=>none
 | k+1,i_10,r_12,rest_13 =>
  if decide (i_10<((x0.length:Nat):Int)) then
   Cq.l2 K (Cq.l1 K x0 k) i_10 x0 K (wr .i64 (i_10+1)) r_12 rest_13
  else
   some (r_12,rest_13)
def Cq (K:Nat) (x0:List Int):Option ((List Ao) × (List Int)) :=
 Cq.l1 K x0 K (0:Int) ([]:List Ao) ([]:List Int)
abbrev Au.sg:Sig:=⟨[(.one,(.sl Dt)),(.one,(.sl Dt))],[],[(.one,.bool)],[]⟩
def Au.l1 (K:Nat) (x0:List Ao) (x1:List Ao):Nat→Int→Int→Option Bool
 | 0,_,_=>none
 | k+1,t_10,t_11 =>
  if decide (t_11<t_10) then
   if (0:Int)≤t_11∧t_11<((x0.length:Nat):Int) then
   if (0:Int)≤t_11∧t_11<((x1.length:Nat):Int) then
   if (!((((nth x0 t_11).At) == ((nth x1 t_11).At)) && ((((nth x0 t_11).Len) == ((nth x1 t_11).Len)) && true))) then
    some false
   else
    Au.l1 K x0 x1 k t_10 (wr .i64 (t_11+1))
   else none
   else none
  else
   some true
def Au (K:Nat) (x0:List Ao) (x1:List Ao):Option Bool :=
 if (((x0.length:Nat):Int) != ((x1.length:Nat):Int)) then
  some false
 else
  Au.l1 K x0 x1 K ((x0.length:Nat):Int) (0:Int)
abbrev Ay.sg:Sig:=⟨[(.one,(.sl (.int .i64))),(.one,(.sl (.int .i64)))],[],[(.one,.bool)],[]⟩
def Ay.l1 (K:Nat) (x0:List Int) (x1:List Int):Nat→Int→Int→Option Bool
 | 0,_,_=>none
 | k+1,t_10,t_11 =>
  if decide (t_11<t_10) then
   if (0:Int)≤t_11∧t_11<((x0.length:Nat):Int) then
   if (0:Int)≤t_11∧t_11<((x1.length:Nat):Int) then
   if ((nth x0 t_11) != (nth x1 t_11)) then
    some false
   else
    Ay.l1 K x0 x1 k t_10 (wr .i64 (t_11+1))
   else none
   else none
  else
   some true
def Ay (K:Nat) (x0:List Int) (x1:List Int):Option Bool :=
 if (((x0.length:Nat):Int) != ((x1.length:Nat):Int)) then
  some false
 else
  Ay.l1 K x0 x1 K ((x0.length:Nat):Int) (0:Int)
abbrev Fv.sg:Sig:=⟨[(.agg,Cz),(.one,(.int .i64)),(.one,(.int .i64))],[],[(.one,(.sl (.int .i64))),(.one,(.int .i64)),(.one,.bool)],[.o]⟩
def Fv (K:Nat) (x0:Ap) (x1:Int) (x2:Int):Option ((List Int) × Int × Bool) :=
 (Cf K x0 x1 x2).bind fun r17 =>
 if (!r17.2.2) then
  some (([]:List Int),0,false)
 else
  (Ce K x0 r17.2.1 x2).bind fun r27 =>
  if (!r27.2.2) then
   some (([]:List Int),0,false)
  else
   (Cn K r17.1 r27.1).bind fun r36 =>
   if (!r36.2) then
    some (([]:List Int),0,false)
   else
    (Cq K r36.1).bind fun r43 =>
    (Au K r43.1 r17.1).bind fun r50 =>
    if r50 then
     (Ay K r43.2 r27.1).bind fun r54 =>
     some (r36.1,r27.2.1,r54)
    else
     some (r36.1,r27.2.1,false)
abbrev F9.sg:Sig:=⟨[(.one,(.int .i64)),(.one,(.int .i64)),(.box,Cz)],[],[(.one,(.sl (.int .i64))),(.one,(.int .i64)),(.one,.bool)],[.o]⟩
def F9 (K:Nat) (x0:Int) (x1:Int) (x2:Ap):Option ((List Int) × Int × Bool × Ap) :=
 (Fv K x2 x0 x1).bind fun r11 =>
 some (r11.1,r11.2.1,r11.2.2,x2)
abbrev Ep.sg:Sig:=⟨[(.one,(.int .i64))],[],[(.agg,Bh)],[.s,.o]⟩
def Ep (K:Nat) (x0:Int):Option Aa :=
 if x0=x0∧(0:Int)≤x0∧(24:Int)*x0≤281474976710656∧x0≤9223372036854775807 then
 some ((x0,List.replicate x0.toNat ([]:List Int)):Aa)
 else none
abbrev Dy.sg:Sig:=⟨[(.agg,Bh)],[],[(.one,(.int .i64))],[]⟩
def Dy.l1 (K:Nat) (x0:Aa):Nat→Int→Int→Int→Option Int
 | 0,_,_,_=>none
 | k+1,n_10,t_11,t_12 =>
  if decide (t_12<t_11) then
   if (0:Int)≤t_12∧t_12<((x0.Out.length:Nat):Int) then
   Dy.l1 K x0 k (wr .i64 (n_10+(((nth x0.Out t_12).length:Nat):Int))) t_11 (wr .i64 (t_12+1))
   else none
  else
   some n_10
def Dy (K:Nat) (x0:Aa):Option Int :=
 Dy.l1 K x0 K (0:Int) ((x0.Out.length:Nat):Int) (0:Int)
abbrev C9.sg:Sig:=⟨[(.agg,Bh)],[],[(.one,.bool)],[]⟩
def C9.l1 (K:Nat) (x0:Aa):Nat→Int→Int→Option Bool
 | 0,_,_=>none
 | k+1,t_10,t_11 =>
  if decide (t_11<t_10) then
   if (0:Int)≤t_11∧t_11<((x0.Out.length:Nat):Int) then
   (Dx K (nth x0.Out t_11)).bind fun r29 =>
   if (!r29) then
    some false
   else
    if decide ((((nth x0.Out t_11).length:Nat):Int) > 0) then
     if (0:Int)≤(wr .i64 ((((nth x0.Out t_11).length:Nat):Int)-1))∧(wr .i64 ((((nth x0.Out t_11).length:Nat):Int)-1))<(((nth x0.Out t_11).length:Nat):Int) then
     if decide ((nth (nth x0.Out t_11) (wr .i64 ((((nth x0.Out t_11).length:Nat):Int)-1)))≥x0.N) then
      some false
     else
      C9.l1 K x0 k t_10 (wr .i64 (t_11+1))
     else none
    else
     C9.l1 K x0 k t_10 (wr .i64 (t_11+1))
   else none
  else
   (Dy K x0).bind fun r49 =>
   some (decide (r49≤120))
def C9 (K:Nat) (x0:Aa):Option Bool :=
 if decide (x0.N<0) then
  some false
 else
  if decide (x0.N > 16) then
   some false
  else
   if (((x0.Out.length:Nat):Int) != x0.N) then
    some false
   else
    C9.l1 K x0 K ((x0.Out.length:Nat):Int) (0:Int)
abbrev Bn.sg:Sig:=⟨[(.one,(.int .i64)),(.one,(.int .i64)),(.one,(.int .i64)),(.fn 270 1,.un),(.hid,Cz)],[],[(.agg,Bh),(.one,(.int .i64)),(.one,.bool)],[.s,.o]⟩
def Bn.l1 (K:Nat) (r17:Aa) (x1:Int):Nat→Int→Int→ByteArray→Int→Int→(List (List Int))→Option (Aa × Int × Bool × Ap)
 | 0,_,_,_,_,_,_=>none
 | k+1,at_14,t_11,h_12,h_13,t_10,g_15 =>
  if decide (t_11<x1) then
   (F9 K at_14 t_11 ((h_12,h_13):Ap)).bind fun r26 =>
   if (!r26.2.2.1) then
    some (((0,([]:List (List Int))):Aa),0,false,r26.2.2.2)
   else
    if (0:Int)≤t_11∧t_11<((g_15.length:Nat):Int) then
    Bn.l1 K r17 x1 k r26.2.1 (wr .i64 (t_11+1)) r26.2.2.2.Data r26.2.2.2.N t_10 ((g_15).set t_11.toNat r26.1)
    else none
  else
   (C9 K ((r17.N,g_15):Aa)).bind fun r43 =>
   some (((r17.N,g_15):Aa),at_14,r43,((h_12,h_13):Ap))
def Bn (K:Nat) (x0:Int) (x1:Int) (x2:Int) (x4:Ap):Option (Aa × Int × Bool × Ap) :=
 (Ep K x0).bind fun r17 =>
 Bn.l1 K r17 x1 K x2 (0:Int) x4.Data x4.N (0:Int) r17.Out
abbrev Gm.sg:Sig:=⟨[(.agg,Cz)],[],[(.agg,Bh),(.one,.bool)],[.s,.o]⟩
def Gm (K:Nat) (x0:Ap):Option (Aa × Bool) :=
 (F6 K x0).bind fun r11 =>
 if (!r11.2.2) then
  some (((0,([]:List (List Int))):Aa),false)
 else
  (Bn K r11.1 r11.1 r11.2.1 x0).bind fun r23 =>
  if r23.2.2.1 then
   some (r23.1,(r23.2.1 == r23.2.2.2.N))
  else
   some (r23.1,false)
abbrev F4.sg:Sig:=⟨[(.agg,Bh),(.one,(.int .i64))],[],[(.one,.bool)],[]⟩
def F4 (K:Nat) (x0:Aa) (x1:Int):Option Bool :=
 if decide (x1≥0) then
  some (decide (x1<x0.N))
 else
  some false
abbrev Gd.sg:Sig:=⟨[(.agg,Bh),(.one,(.int .i64))],[],[(.one,(.sl (.int .i64)))],[]⟩
def Gd (K:Nat) (x0:Aa) (x1:Int):Option (List Int) :=
 (F4 K x0 x1).bind fun r7 =>
 if (!r7) then
  some ([]:List Int)
 else
  if (0:Int)≤x1∧x1<((x0.Out.length:Nat):Int) then
  some (nth x0.Out x1)
  else none
abbrev Bj.sg:Sig:=⟨[(.one,(.sl (.int .i64))),(.one,(.int .i64))],[],[(.one,(.int .i64))],[]⟩
def Bj.l1 (K:Nat) (x0:List Int) (x1:Int):Nat→Int→Int→Option Int
 | 0,_,_=>none
 | k+1,t_10,t_11 =>
  if decide (t_11<t_10) then
   if (0:Int)≤t_11∧t_11<((x0.length:Nat):Int) then
   if (x1 == (nth x0 t_11)) then
    some t_11
   else
    Bj.l1 K x0 x1 k t_10 (wr .i64 (t_11+1))
   else none
  else
   some ((-1):Int)
def Bj (K:Nat) (x0:List Int) (x1:Int):Option Int :=
 Bj.l1 K x0 x1 K ((x0.length:Nat):Int) (0:Int)
abbrev Cv.sg:Sig:=⟨[(.one,(.sl (.int .i64))),(.one,(.int .i64))],[],[(.one,.bool)],[]⟩
def Cv (K:Nat) (x0:List Int) (x1:Int):Option Bool :=
 (Bj K x0 x1).bind fun r7 =>
 some (decide (r7≥0))
abbrev Cg.sg:Sig:=⟨[(.one,(.sl (.int .i64))),(.one,(.sl (.int .i64)))],[],[(.one,(.sl (.int .i64))),(.one,(.sl (.int .i64)))],[.o,.o]⟩
def Cg.l2 (K:Nat) (x0:List Int) (x1:List Int):Nat→Int→Int→(List Int)→(List Int)→Option ((List Int) × (List Int))
 | 0,_,_,_,_=>none
 | k+1,t_13,t_14,blocks_18,rest_17 =>
  if decide (t_14<t_13) then
   if (0:Int)≤t_14∧t_14<((x1.length:Nat):Int) then
   (Cv K x0 (nth x1 t_14)).bind fun r40 =>
   if (!r40) then
    if (rest_17.length+([nth x1 t_14]:List Int).length)*8≤140737488355328 then
    Cg.l2 K x0 x1 k t_13 (wr .i64 (t_14+1)) blocks_18 (rest_17++([nth x1 t_14]:List Int))
    else none
   else
    Cg.l2 K x0 x1 k t_13 (wr .i64 (t_14+1)) blocks_18 rest_17
   else none
  else
   some (blocks_18,rest_17)
def Cg.l1 (K:Nat) (x0:List Int) (x1:List Int):Nat→Bool→Int→Int→Int→(List Int)→Option ((List Int) × (List Int))
 | 0,_,_,_,_,_=>none
 | k+1,in_16,many_10,t_11,t_12,blocks_15 =>
  if decide (t_12<t_11) then
   if (0:Int)≤t_12∧t_12<((x0.length:Nat):Int) then
   (Cv K x1 (nth x0 t_12)).bind fun r20 =>
   if (!(r20 == in_16)) then
    if (blocks_15.length+([many_10]:List Int).length)*8≤140737488355328 then
    Cg.l1 K x0 x1 k (!in_16) (wr .i64 ((0:Int)+1)) t_11 (wr .i64 (t_12+1)) (blocks_15++([many_10]:List Int))
    else none
   else
    Cg.l1 K x0 x1 k in_16 (wr .i64 (many_10+1)) t_11 (wr .i64 (t_12+1)) blocks_15
   else none
  else
   Cg.l2 K x0 x1 K ((x1.length:Nat):Int) (0:Int) blocks_15 ([]:List Int)
def Cg (K:Nat) (x0:List Int) (x1:List Int):Option ((List Int) × (List Int)) :=
 Cg.l1 K x0 x1 K true (0:Int) ((x0.length:Nat):Int) (0:Int) ([]:List Int)
abbrev Bc.sg:Sig:=⟨[(.one,(.sl (.int .i64))),(.one,(.sl (.int .i64))),(.one,(.sl (.int .i64)))],[],[(.one,(.sl (.int .i64))),(.one,.bool)],[.o]⟩
def Bc.j3 (K:Nat) (x0:List Int) (x1:List Int) (x2:List Int) (t_14:List Int):Option ((List Int) × Bool) :=
 if t_14.length<4611686018427387904 then
 (Dx K (sortF t_14)).bind fun r51 =>
 if (!r51) then
  some (([]:List Int),false)
 else
  (Cg K x0 (sortF t_14)).bind fun r56 =>
  (Ay K r56.1 x1).bind fun r62 =>
  if r62 then
   (Ay K r56.2 x2).bind fun r66 =>
   some (sortF t_14,r66)
  else
   some (sortF t_14,false)
 else none
def Bc.j2 (K:Nat) (go_l1:(List Int)→Bool→Int→Int→(List Int)→Option ((List Int) × Bool)) (t_10:Int) (t_11:Int) (t_16:List Int) (t_17:Bool) (x0:List Int) (x1:List Int) (x2:List Int) (t_13:Int) (t_12:List Int):Option ((List Int) × Bool) :=
 if (0:Int)≤t_13∧t_13≤((t_16.length:Nat):Int)∧((t_16.length:Nat):Int)≤((t_16.length:Nat):Int) then
 go_l1 (((t_16).drop t_13.toNat).take (((t_16.length:Nat):Int).toNat-t_13.toNat)) (!t_17) t_10 (wr .i64 (t_11+1)) t_12
 else none
def Bc.l1 (K:Nat) (x0:List Int) (x1:List Int) (x2:List Int):Nat→(List Int)→Bool→Int→Int→(List Int)→Option ((List Int) × Bool)
 | 0,_,_,_,_,_=>none
 | k+1,t_16,t_17,t_10,t_11,t_15 =>
  if decide (t_11<t_10) then
   if (0:Int)≤t_11∧t_11<((x1.length:Nat):Int) then
   if decide ((nth x1 t_11)<0) then
    some (([]:List Int),false)
   else
    if decide ((nth x1 t_11) > ((t_16.length:Nat):Int)) then
     some (([]:List Int),false)
    else
     if t_17 then
      if (0:Int)≤(0:Int)∧(0:Int)≤(nth x1 t_11)∧(nth x1 t_11)≤((t_16.length:Nat):Int) then
      if (t_15.length+(((t_16).drop (0:Int).toNat).take ((nth x1 t_11).toNat-(0:Int).toNat)).length)*8≤140737488355328 then
      Bc.j2 K (Bc.l1 K x0 x1 x2 k) t_10 t_11 t_16 t_17 x0 x1 x2 (nth x1 t_11) (t_15++(((t_16).drop (0:Int).toNat).take ((nth x1 t_11).toNat-(0:Int).toNat)))
      else none
      else none
     else
      Bc.j2 K (Bc.l1 K x0 x1 x2 k) t_10 t_11 t_16 t_17 x0 x1 x2 (nth x1 t_11) t_15
   else none
  else
   if t_17 then
    if (t_15.length+t_16.length)*8≤140737488355328 then
    Bc.j3 K x0 x1 x2 (t_15++t_16)
    else none
   else
    Bc.j3 K x0 x1 x2 t_15
def Bc (K:Nat) (x0:List Int) (x1:List Int) (x2:List Int):Option ((List Int) × Bool) :=
 (Cm K x2).bind fun r16 =>
 Bc.l1 K x0 x1 x2 K x0 true ((x1.length:Nat):Int) (0:Int) r16
abbrev Cu.sg:Sig:=⟨[(.agg,Cz),(.one,(.int .i64)),(.one,(.int .i64)),(.one,(.sl (.int .i64)))],[],[(.one,(.sl (.int .i64))),(.one,(.int .i64)),(.one,.bool)],[.o]⟩
def Cu.l1 (K:Nat) (x0:Ap) (x2:Int) (x3:List Int):Nat→Int→Int→Int→(List Int)→Option ((List Int) × Int × Bool)
 | 0,_,_,_,_=>none
 | k+1,t_12,t_10,t_11,t_13 =>
  if decide (t_11<t_10) then
   (Cs K x0 t_12 2).bind fun r37 =>
   if (!r37.2.2) then
    some (([]:List Int),0,false)
   else
    if (t_11 == 0) then
     if (t_13.length+([wr .i64 (r37.1-1)]:List Int).length)*8≤140737488355328 then
     Cu.l1 K x0 x2 x3 k r37.2.1 t_10 (wr .i64 (t_11+1)) (t_13++([wr .i64 (r37.1-1)]:List Int))
     else none
    else
     if (t_13.length+([r37.1]:List Int).length)*8≤140737488355328 then
     Cu.l1 K x0 x2 x3 k r37.2.1 t_10 (wr .i64 (t_11+1)) (t_13++([r37.1]:List Int))
     else none
  else
   (Fv K x0 t_12 x2).bind fun r56 =>
   if (!r56.2.2) then
    some (([]:List Int),0,false)
   else
    (Bc K x3 t_13 r56.1).bind fun r66 =>
    some (r66.1,r56.2.1,r66.2)
def Cu (K:Nat) (x0:Ap) (x1:Int) (x2:Int) (x3:List Int):Option ((List Int) × Int × Bool) :=
 (Cs K x0 x1 2).bind fun r19 =>
 if (!r19.2.2) then
  some (([]:List Int),0,false)
 else
  if decide (r19.1 > 17) then
   some (([]:List Int),0,false)
  else
   Cu.l1 K x0 x2 x3 K r19.2.1 (wr .i64 (r19.1-1)) (0:Int) ([]:List Int)
abbrev Ga.sg:Sig:=⟨[(.one,(.int .i64)),(.one,(.int .i64)),(.box,Cz),(.box,Bh)],[],[(.one,(.sl (.int .i64))),(.one,(.int .i64)),(.one,.bool)],[.o]⟩
def Ga (K:Nat) (x0:Int) (x1:Int) (x2:Ap) (x3:Aa):Option ((List Int) × Int × Bool × Ap × Aa) :=
 (Gd K x3 x1).bind fun r14 =>
 (Cu K x2 x0 x1 r14).bind fun r15 =>
 some (r15.1,r15.2.1,r15.2.2,x2,x3)
abbrev Bo.sg:Sig:=⟨[(.one,(.int .i64)),(.one,(.int .i64)),(.one,(.int .i64)),(.fn 272 2,.un),(.hid,Cz),(.hid,Bh)],[],[(.agg,Bh),(.one,(.int .i64)),(.one,.bool)],[.s,.o]⟩
def Bo.l1 (K:Nat) (r17:Aa) (x1:Int):Nat→Int→Int→ByteArray→Int→Int→(List (List Int))→Int→(List (List Int))→Option (Aa × Int × Bool × Ap × Aa)
 | 0,_,_,_,_,_,_,_,_=>none
 | k+1,at_16,t_11,h_12,h_13,h_14,h_15,t_10,g_17 =>
  if decide (t_11<x1) then
   (Ga K at_16 t_11 ((h_12,h_13):Ap) ((h_14,h_15):Aa)).bind fun r26 =>
   if (!r26.2.2.1) then
    some (((0,([]:List (List Int))):Aa),0,false,r26.2.2.2.1,r26.2.2.2.2)
   else
    if (0:Int)≤t_11∧t_11<((g_17.length:Nat):Int) then
    Bo.l1 K r17 x1 k r26.2.1 (wr .i64 (t_11+1)) r26.2.2.2.1.Data r26.2.2.2.1.N r26.2.2.2.2.N r26.2.2.2.2.Out t_10 ((g_17).set t_11.toNat r26.1)
    else none
  else
   (C9 K ((r17.N,g_17):Aa)).bind fun r43 =>
   some (((r17.N,g_17):Aa),at_16,r43,((h_12,h_13):Ap),((h_14,h_15):Aa))
def Bo (K:Nat) (x0:Int) (x1:Int) (x2:Int) (x4:Ap) (x5:Aa):Option (Aa × Int × Bool × Ap × Aa) :=
 (Ep K x0).bind fun r17 =>
 Bo.l1 K r17 x1 K x2 (0:Int) x4.Data x4.N x5.N x5.Out (0:Int) r17.Out
abbrev Gn.sg:Sig:=⟨[(.agg,Bh),(.agg,Cz)],[],[(.agg,Bh),(.one,.bool)],[.s,.o]⟩
def Gn (K:Nat) (x0:Aa) (x1:Ap):Option (Aa × Bool) :=
 (F6 K x1).bind fun r13 =>
 if (!r13.2.2) then
  some (((0,([]:List (List Int))):Aa),false)
 else
  (Bo K r13.1 r13.1 r13.2.1 x1 x0).bind fun r25 =>
  if r25.2.2.1 then
   some (r25.1,(r25.2.1 == r25.2.2.2.1.N))
  else
   some (r25.1,false)
abbrev Eb.sg:Sig:=⟨[(.one,(.sl Ci)),(.one,(.int .i64))],[],[(.agg,Bh),(.one,(.int .i64))],[.s,.o]⟩
def Eb.l1 (K:Nat):List Al→Int→Int→Int→(List (List Int))→Option (Aa × Int)
 | [],t_10,t_11,g_12,g_13 =>
  some (((g_12,g_13):Aa),0)
 | el_21::k,t_10,t_11,g_12,g_13 =>
  if (el_21.Base == 0) then
   (Gm K el_21.Data).bind fun r34 =>
   if (!r34.2) then
    some (((0,([]:List (List Int))):Aa),9)
   else
    Eb.l1 K k t_10 t_11 r34.1.N r34.1.Out
  else
   (Gn K ((g_12,g_13):Aa) el_21.Data).bind fun r41 =>
   if (!r41.2) then
    some (((0,([]:List (List Int))):Aa),9)
   else
    Eb.l1 K k t_10 t_11 r41.1.N r41.1.Out
def Eb (K:Nat) (x0:List Al) (x1:Int):Option (Aa × Int) :=
 (Gl K x0 x1).bind fun r15 =>
 if (r15.2 != 0) then
  some (((0,([]:List (List Int))):Aa),r15.2)
 else
  (D7 K x0 x1 3).bind fun r24 =>
  if r24.length<4611686018427387904 then
  Eb.l1 K (List.reverse r24) (0:Int) (0:Int) (0:Int) ([]:List (List Int))
  else none
abbrev Gp.sg:Sig:=⟨[(.agg,Bh)],[],[(.one,.bool)],[]⟩
def Gp (K:Nat) (x0:Aa):Option Bool :=
 if (x0.N == 0) then
  some (((x0.Out.length:Nat):Int) == 0)
 else
  some false
abbrev Gq.sg:Sig:=⟨[(.agg,Dq)],[],[(.one,.bool)],[]⟩
def Gq (K:Nat) (x0:Ac):Option Bool :=
 if (x0.Kind == 0) then
  if (x0.A == 0) then
   if (x0.At == 0) then
    if (!x0.Move) then
     some ((wr .i64 (((x0.List_.length:Nat):Int)+((x0.Out.length:Nat):Int))) == 0)
    else
     some false
   else
    some false
  else
   some false
 else
  some false
abbrev Gt.sg:Sig:=⟨[(.agg,Br),(.box,(.int .i64))],[],[(.one,.bool)],[]⟩
def Gt (K:Nat) (x0:Ak) (x1:Int):Option (Bool × Int) :=
 some ((x0.ID == x1),x1)
abbrev Ae.sg:Sig:=⟨[(.one,(.sl Br)),(.fn 275 1,.un),(.hid,(.int .i64))],[],[(.one,(.int .i64))],[]⟩
def Ae.l1 (K:Nat) (x0:List Ak):Nat→Int→Int→Int→Option (Int × Int)
 | 0,_,_,_=>none
 | k+1,t_10,t_11,h_12 =>
  if decide (t_11<t_10) then
   if (0:Int)≤t_11∧t_11<((x0.length:Nat):Int) then
   (Gt K (nth x0 t_11) h_12).bind fun r16 =>
   if r16.1 then
    some (t_11,r16.2)
   else
    Ae.l1 K x0 k t_10 (wr .i64 (t_11+1)) r16.2
   else none
  else
   some ((-1),h_12)
def Ae (K:Nat) (x0:List Ak) (x2:Int):Option (Int × Int) :=
 Ae.l1 K x0 K ((x0.length:Nat):Int) (0:Int) x2
abbrev Gv.sg:Sig:=⟨[(.agg,Ck),(.one,(.int .i64))],[],[(.one,(.int .i64))],[]⟩
def Gv (K:Nat) (x0:Ai) (x1:Int):Option Int :=
 (Ae K x0.Versions x1).bind fun r8 =>
 some r8.1
abbrev Gw.sg:Sig:=⟨[(.agg,Ck)],[],[(.one,(.int .i64))],[]⟩
def Gw (K:Nat) (x0:Ai):Option Int :=
 if (((x0.Versions.length:Nat):Int) == 0) then
  some (0:Int)
 else
  if (0:Int)≤(wr .i64 (((x0.Versions.length:Nat):Int)-1))∧(wr .i64 (((x0.Versions.length:Nat):Int)-1))<((x0.Versions.length:Nat):Int) then
  some ((nth x0.Versions (wr .i64 (((x0.Versions.length:Nat):Int)-1))).ID)
  else none
abbrev Hd.sg:Sig:=⟨[(.agg,Ck),(.one,(.int .i64))],[],[(.agg,Bh)],[.s,.o]⟩
def Hd (K:Nat) (x0:Ai) (x1:Int):Option Aa :=
 if (x1 == 0) then
  (Ep K 0).bind fun r9 =>
  some r9
 else
  (D6 K x0).bind fun r12 =>
  (Eb K r12 x1).bind fun r14 =>
  some r14.1
abbrev Fb.sg:Sig:=⟨[(.one,(.int .i64))],[],[(.one,.bool)],[]⟩
def Fb (K:Nat) (x0:Int):Option Bool :=
 if (x0 == 1) then
  some true
 else
  if (x0 == 2) then
   some true
  else
   some (x0 == 4)
abbrev Df.sg:Sig:=⟨[(.agg,Bh),(.one,(.int .i64)),(.one,(.int .i64))],[],[(.one,(.int .i64))],[]⟩
def Df.j1 (K:Nat) (x0:Aa) (x1:Int) (x2:Int) (t_10:Bool):Option Int :=
 if t_10 then
  some (1:Int)
 else
  (Fb K x1).bind fun r21 =>
  if r21 then
   (F4 K x0 x2).bind fun r25 =>
   if (!r25) then
    some (3:Int)
   else
    some (0:Int)
  else
   some (0:Int)
def Df (K:Nat) (x0:Aa) (x1:Int) (x2:Int):Option Int :=
 (C9 K x0).bind fun r9 =>
 if (!r9) then
  Df.j1 K x0 x1 x2 true
 else
  if decide (x1<1) then
   Df.j1 K x0 x1 x2 true
  else
   Df.j1 K x0 x1 x2 (decide (x1 > 6))
abbrev Gu.sg:Sig:=⟨[(.one,(.int .u32)),(.one,(.int .u32))],[],[(.one,(.int .u32)),(.one,(.int .u32))],[]⟩
def Gu (K:Nat) (x0:Int) (x1:Int):Option (Int × Int) :=
 if (0:Int)≤32 then
 some (wr .u32 ((wr .u64 ((wr .u64 x0)*(wr .u64 x1))).fdiv (2 ^ min ((32:Int)).toNat 64)),wr .u32 (wr .u64 ((wr .u64 x0)*(wr .u64 x1))))
 else none
abbrev Fy.sg:Sig:=⟨[(.one,(.int .u64)),(.one,(.int .u64))],[],[(.one,(.int .u64)),(.one,(.int .u64))],[]⟩
def Fy (K:Nat) (x0:Int) (x1:Int):Option (Int × Int) :=
 if (0:Int)≤32 then
 if (0:Int)≤32 then
 if (0:Int)≤32 then
 if (0:Int)≤32 then
 if (0:Int)≤32 then
 some (wr .u64 ((wr .u64 ((wr .u64 ((x0.fdiv (2 ^ min ((32:Int)).toNat 64))*(x1.fdiv (2 ^ min ((32:Int)).toNat 64))))+((wr .u64 ((wr .u64 ((x0.fdiv (2 ^ min ((32:Int)).toNat 64))*(ib .and .u64 x1 4294967295)))+((wr .u64 ((ib .and .u64 x0 4294967295)*(ib .and .u64 x1 4294967295))).fdiv (2 ^ min ((32:Int)).toNat 64)))).fdiv (2 ^ min ((32:Int)).toNat 64))))+((wr .u64 ((ib .and .u64 (wr .u64 ((wr .u64 ((x0.fdiv (2 ^ min ((32:Int)).toNat 64))*(ib .and .u64 x1 4294967295)))+((wr .u64 ((ib .and .u64 x0 4294967295)*(ib .and .u64 x1 4294967295))).fdiv (2 ^ min ((32:Int)).toNat 64)))) 4294967295)+(wr .u64 ((ib .and .u64 x0 4294967295)*(x1.fdiv (2 ^ min ((32:Int)).toNat 64)))))).fdiv (2 ^ min ((32:Int)).toNat 64))),wr .u64 (x0*x1))
 else none
 else none
 else none
 else none
 else none
abbrev F5.sg:Sig:=⟨[(.one,(.int .u64)),(.one,(.int .u64))],[],[(.one,(.int .u64)),(.one,(.int .u64))],[]⟩
def F5 (K:Nat) (x0:Int) (x1:Int):Option (Int × Int) :=
 (Fy K x0 x1).bind fun r25 =>
 some (r25.1,r25.2)
abbrev Ar.sg:Sig:=⟨[(.one,(.sl (.int .i64))),(.one,(.int .i64))],[],[(.one,(.sl (.int .i64)))],[.o]⟩
def Ar.l3 (K:Nat):Nat→Int→(List Int)→Option (List Int)
 | 0,_,_=>none
 | k+1,n_11,newslice_10 =>
  if decide (n_11<((newslice_10.length:Nat):Int)) then
   if (0:Int)≤n_11∧n_11≤((newslice_10.length:Nat):Int)∧((newslice_10.length:Nat):Int)≤((newslice_10.length:Nat):Int) then
   if (0:Int)≤(0:Int)∧(0:Int)≤n_11∧n_11≤((newslice_10.length:Nat):Int) then
   Ar.l3 K k (wr .i64 (n_11+((min (((newslice_10).drop (0+(0:Int).toNat)).take (n_11.toNat-(0:Int).toNat)).length (((newslice_10.length:Nat):Int).toNat-n_11.toNat):Nat):Int))) (ovp newslice_10 (0+n_11.toNat) (List.take (((newslice_10.length:Nat):Int).toNat-n_11.toNat) (((newslice_10).drop (0+(0:Int).toNat)).take (n_11.toNat-(0:Int).toNat))))
   else none
   else none
  else
   some newslice_10
def Ar.j2 (K:Nat) (r18:Int × Int) (x0:List Int):Option (List Int) :=
 if (wr .i64 r18.2)=(wr .i64 r18.2)∧(0:Int)≤(wr .i64 r18.2)∧(8:Int)*(wr .i64 r18.2)≤281474976710656∧(wr .i64 r18.2)≤9223372036854775807 then
 Ar.l3 K K ((min x0.length ((List.replicate (wr .i64 r18.2).toNat (0:Int)).length):Nat):Int) (ovp (List.replicate (wr .i64 r18.2).toNat (0:Int)) 0 (List.take ((List.replicate (wr .i64 r18.2).toNat (0:Int)).length) x0))
 else none
def Ar.j1 (K:Nat) (x0:List Int) (x1:Int):Option (List Int) :=
 (F5 K (wr .u64 ((x0.length:Nat):Int)) (wr .u64 x1)).bind fun r18 =>
 if decide (r18.1 > 0) then
  none
 else
  if decide (r18.2 > 9223372036854775807) then
   none
  else
   Ar.j2 K r18 x0
def Ar (K:Nat) (x0:List Int) (x1:Int):Option (List Int) :=
 if decide (x1<0) then
  none
 else
  Ar.j1 K x0 x1
abbrev Cy.sg:Sig:=⟨[(.agg,Bh),(.one,(.int .i64)),(.one,(.int .i64))],[],[(.agg,Dq)],[.s,.s,.s,.s,.o,.o]⟩
def Cy.l2 (K:Nat) (j_13:Int) (j_14:Int) (x0:Aa) (x1:Int):Nat→Int→(List Int)→Option Ac
 | 0,_,_=>none
 | k+1,t_15,j_16 =>
  if decide (t_15<x0.N) then
   if (j_16.length+([t_15]:List Int).length)*8≤140737488355328 then
   Cy.l2 K j_13 j_14 x0 x1 k (wr .i64 (t_15+1)) (j_16++([t_15]:List Int))
   else none
  else
   some ((x1,j_13,j_14,false,([]:List Int),j_16):Ac)
def Cy.j1 (K:Nat) (x0:Aa) (x1:Int) (x2:Int) (t_10:Int) (t_11:Int) (t_12:Int) (j_13:Int) (j_14:Int):Option Ac :=
 if (x1 == 4) then
  (Ar K ([(-1)]:List Int) x0.N).bind fun r23 =>
  if (0:Int)≤x2∧x2<((r23.length:Nat):Int) then
  some ((x1,j_13,j_14,false,([x2]:List Int),(r23).set x2.toNat 0):Ac)
  else none
 else
  if (x1 == 5) then
   Cy.l2 K j_13 j_14 x0 x1 K (0:Int) ([]:List Int)
  else
   some ((x1,j_13,j_14,false,([]:List Int),([]:List Int)):Ac)
def Cy (K:Nat) (x0:Aa) (x1:Int) (x2:Int):Option Ac :=
 (Fb K x1).bind fun r12 =>
 if r12 then
  Cy.j1 K x0 x1 x2 (0:Int) (0:Int) (0:Int) x2 (0:Int)
 else
  Cy.j1 K x0 x1 x2 (0:Int) (0:Int) (0:Int) (0:Int) (0:Int)
abbrev Ff.sg:Sig:=⟨[(.agg,Bh),(.one,(.int .i64)),(.one,(.int .i64))],[],[(.agg,Dq),(.one,(.int .i64))],[.s,.s,.s,.s,.o,.o]⟩
def Ff (K:Nat) (x0:Aa) (x1:Int) (x2:Int):Option (Ac × Int) :=
 (Df K x0 x1 x2).bind fun r12 =>
 if (r12 != 0) then
  some (((0,0,0,false,([]:List Int),([]:List Int)):Ac),r12)
 else
  (Cy K x0 x1 x2).bind fun r20 =>
  some (r20,0)
abbrev Gi.sg:Sig:=⟨[(.agg,Dq),(.agg,Dq)],[],[(.one,.bool)],[]⟩
def Gi (K:Nat) (x0:Ac) (x1:Ac):Option Bool :=
 if (x0.Kind == x1.Kind) then
  if (x0.A == x1.A) then
   if (x0.At == x1.At) then
    if (x0.Move == x1.Move) then
     (Ay K x0.List_ x1.List_).bind fun r36 =>
     if r36 then
      (Ay K x0.Out x1.Out).bind fun r43 =>
      some r43
     else
      some false
    else
     some false
   else
    some false
  else
   some false
 else
  some false
abbrev F8.sg:Sig:=⟨[(.agg,Bh),(.agg,Dq)],[],[(.one,.bool)],[]⟩
def F8 (K:Nat) (x0:Aa) (x1:Ac):Option Bool :=
 if (x1.Kind == 1) then
  some (decide (x1.At≥1))
 else
  if (x1.Kind == 4) then
   some (decide (x1.At≥((x1.List_.length:Nat):Int)))
  else
   some (decide (x1.At≥x0.N))
abbrev Cj.sg:Sig:=⟨[(.agg,Bh),(.box,Dq)],[.s,.s,.s,.s,.s,.s,.o,.o],[],[.s,.s,.s,.s,.o,.o]⟩
def Cj.j3 (K:Nat) (h_18:Bool) (h_19:List Int) (x1:Ac) (t_17:Bool) (h_16:Int):Option Ac :=
 if t_17 then
  some ((x1.Kind,x1.A,0,false,x1.List_,h_19):Ac)
 else
  some ((x1.Kind,x1.A,h_16,h_18,x1.List_,h_19):Ac)
def Cj.j2 (K:Nat) (go_l1:(List Int)→Int→Int→Bool→(List Int)→Option Ac) (h_19:List Int) (t_10:List Int) (t_11:Int) (t_12:Int) (x0:Aa) (x1:Ac) (t_14:Int) (t_15:Int) (h_13:Bool):Option Ac :=
 if (0:Int)≤x1.At∧x1.At<((h_19.length:Nat):Int) then
 if (0:Int)≤t_14∧t_14<((((h_19).set x1.At.toNat t_15).length:Nat):Int) then
 go_l1 t_10 t_11 (wr .i64 (t_12+1)) h_13 (((h_19).set x1.At.toNat t_15).set t_14.toNat t_15)
 else none
 else none
def Cj.l1 (K:Nat) (x0:Aa) (x1:Ac):Nat→(List Int)→Int→Int→Bool→(List Int)→Option Ac
 | 0,_,_,_,_,_=>none
 | k+1,t_10,t_11,t_12,h_18,h_19 =>
  if decide (t_12<t_11) then
   if (0:Int)≤t_12∧t_12<((t_10.length:Nat):Int) then
   if (0:Int)≤x1.At∧x1.At<((h_19.length:Nat):Int) then
   if (0:Int)≤(nth t_10 t_12)∧(nth t_10 t_12)<((h_19.length:Nat):Int) then
   if h_18 then
    Cj.j2 K (Cj.l1 K x0 x1 k) h_19 t_10 t_11 t_12 x0 x1 (nth t_10 t_12) (if (nth h_19 (nth t_10 t_12))<(nth h_19 x1.At) then (nth h_19 (nth t_10 t_12)) else (nth h_19 x1.At)) true
   else
    if (0:Int)≤x1.At∧x1.At<((h_19.length:Nat):Int) then
    if (0:Int)≤(nth t_10 t_12)∧(nth t_10 t_12)<((h_19.length:Nat):Int) then
    Cj.j2 K (Cj.l1 K x0 x1 k) h_19 t_10 t_11 t_12 x0 x1 (nth t_10 t_12) (if (nth h_19 (nth t_10 t_12))<(nth h_19 x1.At) then (nth h_19 (nth t_10 t_12)) else (nth h_19 x1.At)) ((nth h_19 x1.At) != (nth h_19 (nth t_10 t_12)))
    else none
    else none
   else none
   else none
   else none
  else
   if ((wr .i64 (x1.At+1)) == x0.N) then
    Cj.j3 K h_18 h_19 x1 h_18 (wr .i64 (x1.At+1))
   else
    Cj.j3 K h_18 h_19 x1 false (wr .i64 (x1.At+1))
def Cj (K:Nat) (x0:Aa) (x1:Ac):Option Ac :=
 if (0:Int)≤x1.At∧x1.At<((x0.Out.length:Nat):Int) then
 Cj.l1 K x0 x1 K (nth x0.Out x1.At) (((nth x0.Out x1.At).length:Nat):Int) (0:Int) x1.Move x1.Out
 else none
abbrev Bq.sg:Sig:=⟨[(.agg,Bh),(.box,Dq)],[.s,.s,.s,.s,.s,.s,.o,.o],[],[.s,.s,.s,.s,.o,.o]⟩
def Bq.l3 (K:Nat) (x1:Ac):Nat→(List Int)→Int→Int→Int→(List Int)→Option Ac
 | 0,_,_,_,_,_=>none
 | k+1,t_17,t_18,t_19,h_16,h_23 =>
  if decide (t_19<t_18) then
   if (0:Int)≤t_19∧t_19<((t_17.length:Nat):Int) then
   if (h_23.length+([x1.At,nth t_17 t_19]:List Int).length)*8≤140737488355328 then
   Bq.l3 K x1 k t_17 t_18 (wr .i64 (t_19+1)) h_16 (h_23++([x1.At,nth t_17 t_19]:List Int))
   else none
   else none
  else
   some ((x1.Kind,x1.A,h_16,x1.Move,x1.List_,h_23):Ac)
def Bq.l2 (K:Nat) (x1:Ac):Nat→Int→(List Int)→Int→Int→Int→(List Int)→(List Int)→Option Ac
 | 0,_,_,_,_,_,_,_=>none
 | k+1,t_12,t_13,t_14,t_15,h_11,h_21,h_22 =>
  if decide (t_15<t_14) then
   if (0:Int)≤t_15∧t_15<((t_13.length:Nat):Int) then
   if (0:Int)≤(nth t_13 t_15)∧(nth t_13 t_15)<((h_22.length:Nat):Int) then
   if decide ((nth h_22 (nth t_13 t_15))<0) then
    if (0:Int)≤t_12∧t_12<((h_22.length:Nat):Int) then
    if (h_21.length+([nth t_13 t_15]:List Int).length)*8≤140737488355328 then
    if (0:Int)≤(nth t_13 t_15)∧(nth t_13 t_15)<((h_22.length:Nat):Int) then
    Bq.l2 K x1 k t_12 t_13 t_14 (wr .i64 (t_15+1)) h_11 (h_21++([nth t_13 t_15]:List Int)) ((h_22).set (nth t_13 t_15).toNat (wr .i64 ((nth h_22 t_12)+1)))
    else none
    else none
    else none
   else
    Bq.l2 K x1 k t_12 t_13 t_14 (wr .i64 (t_15+1)) h_11 h_21 h_22
   else none
   else none
  else
   some ((x1.Kind,x1.A,h_11,x1.Move,h_21,h_22):Ac)
def Bq.l1 (K:Nat) (x0:Aa) (x1:Ac):Nat→Int→(List Int)→Option Ac
 | 0,_,_=>none
 | k+1,h_10,h_20 =>
  if (0:Int)≤x1.At∧x1.At<((x0.Out.length:Nat):Int) then
  if decide (((h_20.length:Nat):Int)≤(((nth x0.Out x1.At).length:Nat):Int)) then
   if (h_20.length+([0]:List Int).length)*8≤140737488355328 then
   Bq.l1 K x0 x1 k h_10 (h_20++([0]:List Int))
   else none
  else
   if (0:Int)≤x1.At∧x1.At<((x0.Out.length:Nat):Int) then
   if (0:Int)≤(((nth x0.Out x1.At).length:Nat):Int)∧(((nth x0.Out x1.At).length:Nat):Int)<((h_20.length:Nat):Int) then
   if (0:Int)≤(((nth x0.Out x1.At).length:Nat):Int)∧(((nth x0.Out x1.At).length:Nat):Int)<((h_20.length:Nat):Int) then
   some ((x1.Kind,x1.A,h_10,x1.Move,x1.List_,(h_20).set (((nth x0.Out x1.At).length:Nat):Int).toNat (wr .i64 ((nth h_20 (((nth x0.Out x1.At).length:Nat):Int))+1))):Ac)
   else none
   else none
   else none
  else none
def Bq (K:Nat) (x0:Aa) (x1:Ac):Option Ac :=
 if (x1.Kind == 5) then
  (Cj K x0 x1).bind fun r16 =>
  some r16
 else
  if (x1.Kind == 1) then
   if (0:Int)≤x1.A∧x1.A<((x0.Out.length:Nat):Int) then
   (Cm K (nth x0.Out x1.A)).bind fun r43 =>
   some ((x1.Kind,x1.A,wr .i64 (x1.At+1),x1.Move,x1.List_,r43):Ac)
   else none
  else
   if (x1.Kind == 2) then
    if (0:Int)≤x1.At∧x1.At<((x0.Out.length:Nat):Int) then
    (Cv K (nth x0.Out x1.At) x1.A).bind fun r57 =>
    if r57 then
     if (x1.Out.length+([x1.At]:List Int).length)*8≤140737488355328 then
     some ((x1.Kind,x1.A,wr .i64 (x1.At+1),x1.Move,x1.List_,x1.Out++([x1.At]:List Int)):Ac)
     else none
    else
     some ((x1.Kind,x1.A,wr .i64 (x1.At+1),x1.Move,x1.List_,x1.Out):Ac)
    else none
   else
    if (x1.Kind == 3) then
     Bq.l1 K x0 x1 K (wr .i64 (x1.At+1)) x1.Out
    else
     if (x1.Kind == 4) then
      if (0:Int)≤x1.At∧x1.At<((x1.List_.length:Nat):Int) then
      if (0:Int)≤(nth x1.List_ x1.At)∧(nth x1.List_ x1.At)<((x0.Out.length:Nat):Int) then
      Bq.l2 K x1 K (nth x1.List_ x1.At) (nth x0.Out (nth x1.List_ x1.At)) (((nth x0.Out (nth x1.List_ x1.At)).length:Nat):Int) (0:Int) (wr .i64 (x1.At+1)) x1.List_ x1.Out
      else none
      else none
     else
      if (x1.Kind == 6) then
       if (0:Int)≤x1.At∧x1.At<((x0.Out.length:Nat):Int) then
       Bq.l3 K x1 K (nth x0.Out x1.At) (((nth x0.Out x1.At).length:Nat):Int) (0:Int) (wr .i64 (x1.At+1)) x1.Out
       else none
      else
       some ((x1.Kind,x1.A,wr .i64 (x1.At+1),x1.Move,x1.List_,x1.Out):Ac)
abbrev Dc.sg:Sig:=⟨[(.agg,Bh),(.agg,Dq)],[],[(.one,.bool)],[]⟩
def Dc.l1 (K:Nat) (x0:Aa) (x1:Ac):Nat→Int→Int→Int→Bool→(List Int)→(List Int)→Option Bool
 | 0,_,_,_,_,_,_=>none
 | k+1,x_10,x_11,x_12,x_13,x_14,x_15 =>
  (Gi K ((x_10,x_11,x_12,x_13,x_14,x_15):Ac) x1).bind fun r21 =>
  if r21 then
   some true
  else
   (F8 K x0 ((x_10,x_11,x_12,x_13,x_14,x_15):Ac)).bind fun r25 =>
   if r25 then
    some false
   else
    (Bq K x0 ((x_10,x_11,x_12,x_13,x_14,x_15):Ac)).bind fun r27 =>
    Dc.l1 K x0 x1 k r27.Kind r27.A r27.At r27.Move r27.List_ r27.Out
def Dc (K:Nat) (x0:Aa) (x1:Ac):Option Bool :=
 (Ff K x0 x1.Kind x1.A).bind fun r13 =>
 if (r13.2 != 0) then
  some false
 else
  Dc.l1 K x0 x1 K r13.1.Kind r13.1.A r13.1.At r13.1.Move r13.1.List_ r13.1.Out
abbrev Bl.sg:Sig:=⟨[(.agg,Ck),(.agg,Bu)],[],[(.one,.bool)],[]⟩
def Bl.j3 (K:Nat) (x0:Ai) (x1:Aq) (t_12:Bool):Option Bool :=
 if t_12 then
  some false
 else
  (Gq K x1.Job).bind fun r83 =>
  if r83 then
   some true
  else
   if (x1.Pin == 0) then
    some false
   else
    (Hd K x0 x1.Pin).bind fun r91 =>
    (Dc K r91 x1.Job).bind fun r95 =>
    if r95 then
     (F8 K r91 x1.Job).bind fun r100 =>
     some (!r100)
    else
     some false
def Bl.j2 (K:Nat) (x0:Ai) (x1:Aq) (t_11:Bool):Option Bool :=
 if t_11 then
  some false
 else
  if (!x1.On) then
   if (x1.From != 0) then
    Bl.j3 K x0 x1 true
   else
    (Gp K x1.Stage).bind fun r76 =>
    Bl.j3 K x0 x1 (!r76)
  else
   Bl.j3 K x0 x1 false
def Bl.j1 (K:Nat) (x0:Ai) (x1:Aq) (t_10:Bool):Option Bool :=
 if t_10 then
  some false
 else
  if x1.On then
   if decide (x1.From<0) then
    Bl.j2 K x0 x1 true
   else
    (Gw K x0).bind fun r55 =>
    if decide (x1.From > r55) then
     Bl.j2 K x0 x1 true
    else
     (C9 K x1.Stage).bind fun r61 =>
     Bl.j2 K x0 x1 (!r61)
  else
   Bl.j2 K x0 x1 false
def Bl (K:Nat) (x0:Ai) (x1:Aq):Option Bool :=
 if (!x1.Open) then
  if (x1.Pin == 0) then
   if (!x1.On) then
    if (x1.From == 0) then
     (Gp K x1.Stage).bind fun r26 =>
     if r26 then
      (Gq K x1.Job).bind fun r31 =>
      some r31
     else
      some false
    else
     some false
   else
    some false
  else
   some false
 else
  if (x1.Pin != 0) then
   (Gv K x0 x1.Pin).bind fun r41 =>
   Bl.j1 K x0 x1 (decide (r41<0))
  else
   Bl.j1 K x0 x1 false
abbrev Gy.sg:Sig:=⟨[(.agg,Bu),(.box,Ck)],[],[(.one,.bool)],[]⟩
def Gy (K:Nat) (x0:Aq) (x1:Ai):Option (Bool × Ai) :=
 (Bl K x1 x0).bind fun r6 =>
 some ((!r6),x1)
abbrev Ad.sg:Sig:=⟨[(.one,(.sl Bu)),(.fn 183 1,.un),(.hid,Ck)],[],[(.one,(.int .i64))],[]⟩
def Ad.l1 (K:Nat) (x0:List Aq):Nat→Int→Int→Int→Int→(List Ak)→(List Aq)→Option (Int × Ai)
 | 0,_,_,_,_,_,_=>none
 | k+1,t_10,t_11,h_12,h_13,h_14,h_15 =>
  if decide (t_11<t_10) then
   if (0:Int)≤t_11∧t_11<((x0.length:Nat):Int) then
   (Gy K (nth x0 t_11) ((h_12,h_13,h_14,h_15):Ai)).bind fun r16 =>
   if r16.1 then
    some (t_11,r16.2)
   else
    Ad.l1 K x0 k t_10 (wr .i64 (t_11+1)) r16.2.Keep r16.2.Blocks r16.2.Versions r16.2.Sessions
   else none
  else
   some ((-1),((h_12,h_13,h_14,h_15):Ai))
def Ad (K:Nat) (x0:List Aq) (x2:Ai):Option (Int × Ai) :=
 Ad.l1 K x0 K ((x0.length:Nat):Int) (0:Int) x2.Keep x2.Blocks x2.Versions x2.Sessions
abbrev Bw.sg:Sig:=⟨[(.one,(.sl Bu)),(.fn 183 1,.un),(.hid,Ck)],[],[(.one,.bool)],[]⟩
def Bw (K:Nat) (x0:List Aq) (x2:Ai):Option (Bool × Ai) :=
 (Ad K x0 x2).bind fun r7 =>
 some (decide (r7.1≥0),r7.2)
abbrev En.sg:Sig:=⟨[(.agg,Ck)],[],[(.one,.bool)],[]⟩
def En.l1 (K:Nat) (r18:List Al) (x0:Ai):Nat→Int→Int→Option Bool
 | 0,_,_=>none
 | k+1,t_10,t_11 =>
  if decide (t_11<t_10) then
   if (0:Int)≤t_11∧t_11<((r18.length:Nat):Int) then
   (Eb K r18 ((nth r18 t_11).ID)).bind fun r29 =>
   if (r29.2 != 0) then
    some false
   else
    En.l1 K r18 x0 k t_10 (wr .i64 (t_11+1))
   else none
  else
   (Bw K x0.Sessions x0).bind fun r38 =>
   some (!r38.1)
def En (K:Nat) (x0:Ai):Option Bool :=
 (Dj K x0).bind fun r9 =>
 if (!r9) then
  some false
 else
  if (((x0.Sessions.length:Nat):Int) != 3) then
   some false
  else
   (D6 K x0).bind fun r18 =>
   En.l1 K r18 x0 K ((r18.length:Nat):Int) (0:Int)
abbrev Fw.sg:Sig:=⟨[(.agg,Cz)],[],[(.one,(.int .i64))],[]⟩
def Fw (K:Nat) (x0:Ap):Option Int :=
 if (60:Int)≠0 then
 some (wr .i64 ((wr .i64 ((wr .i64 ((wr .i64 (4+((x0.Data.size:Nat):Int)))+60))-1)).tdiv 60))
 else none
abbrev Dn.sg:Sig:=⟨[(.agg,Ck)],[],[(.one,(.sl Dt))],[.o]⟩
def Dn.l1 (K:Nat) (x0:Ai):Nat→Int→Int→(List Ao)→Option (List Ao)
 | 0,_,_,_=>none
 | k+1,t_10,t_11,l_12 =>
  if decide (t_11<t_10) then
   if (0:Int)≤t_11∧t_11<((x0.Versions.length:Nat):Int) then
   (Fw K ((nth x0.Versions t_11).Data)).bind fun r17 =>
   if (l_12.length+([(((nth x0.Versions t_11).At,r17):Ao)]:List Ao).length)*16≤140737488355328 then
   Dn.l1 K x0 k t_10 (wr .i64 (t_11+1)) (l_12++([(((nth x0.Versions t_11).At,r17):Ao)]:List Ao))
   else none
   else none
  else
   some l_12
def Dn (K:Nat) (x0:Ai):Option (List Ao) :=
 Dn.l1 K x0 K ((x0.Versions.length:Nat):Int) (0:Int) ([]:List Ao)
abbrev Fx.sg:Sig:=⟨[(.one,(.int .i64))],[],[(.one,.bool)],[]⟩
def Fx (K:Nat) (x0:Int):Option Bool :=
 if decide (x0≥1) then
  some (decide (x0≤100))
 else
  some false
abbrev Cc.sg:Sig:=⟨[(.one,(.sl Dt)),(.one,(.int .i64))],[],[(.one,(.sl .bool)),(.one,.bool)],[.o]⟩
def Cc.l2 (K:Nat) (go_l1:Int→Int→(List Bool)→Option ((List Bool) × Bool)) (t_11:Int) (t_12:Int) (x0:List Ao) (x1:Int):Nat→Int→(List Bool)→Int→Int→Option ((List Bool) × Bool)
 | 0,_,_,_,_=>none
 | k+1,t_15,t_16,t_13,t_14 =>
  if decide (t_15<(wr .i64 (t_13+t_14))) then
   if (0:Int)≤t_15∧t_15<((t_16.length:Nat):Int) then
   if nth t_16 t_15 then
    some (([]:List Bool),false)
   else
    if (0:Int)≤t_15∧t_15<((t_16.length:Nat):Int) then
    Cc.l2 K go_l1 t_11 t_12 x0 x1 k (wr .i64 (t_15+1)) ((t_16).set t_15.toNat true) t_13 t_14
    else none
   else none
  else
   go_l1 t_11 (wr .i64 (t_12+1)) t_16
def Cc.l1 (K:Nat) (x0:List Ao) (x1:Int):Nat→Int→Int→(List Bool)→Option ((List Bool) × Bool)
 | 0,_,_,_=>none
 | k+1,t_11,t_12,t_10 =>
  if decide (t_12<t_11) then
   if (0:Int)≤t_12∧t_12<((x0.length:Nat):Int) then
   if decide (((nth x0 t_12).Len)<1) then
    some (([]:List Bool),false)
   else
    if decide (((nth x0 t_12).At)<0) then
     some (([]:List Bool),false)
    else
     if decide (((nth x0 t_12).At)≥x1) then
      some (([]:List Bool),false)
     else
      if decide (((nth x0 t_12).Len) > (wr .i64 (x1-((nth x0 t_12).At)))) then
       some (([]:List Bool),false)
      else
       Cc.l2 K (Cc.l1 K x0 x1 k) t_11 t_12 x0 x1 K ((nth x0 t_12).At) t_10 ((nth x0 t_12).At) ((nth x0 t_12).Len)
   else none
  else
   some (t_10,true)
def Cc (K:Nat) (x0:List Ao) (x1:Int):Option ((List Bool) × Bool) :=
 (Fx K x1).bind fun r11 =>
 if (!r11) then
  some (([]:List Bool),false)
 else
  if decide (((x0.length:Nat):Int) > 13) then
   some (([]:List Bool),false)
  else
   if x1=x1∧(0:Int)≤x1∧(1:Int)*x1≤281474976710656∧x1≤9223372036854775807 then
   Cc.l1 K x0 x1 K ((x0.length:Nat):Int) (0:Int) (List.replicate x1.toNat false)
   else none
abbrev Gf.sg:Sig:=⟨[(.one,(.sl Dt)),(.one,(.int .i64))],[],[(.one,.bool)],[]⟩
def Gf (K:Nat) (x0:List Ao) (x1:Int):Option Bool :=
 (Cc K x0 x1).bind fun r10 =>
 some r10.2
abbrev G9.sg:Sig:=⟨[(.agg,Ck)],[],[(.one,.bool)],[]⟩
def G9 (K:Nat) (x0:Ai):Option Bool :=
 (En K x0).bind fun r4 =>
 if r4 then
  (Dn K x0).bind fun r7 =>
  (Gf K r7 x0.Blocks).bind fun r10 =>
  some r10
 else
  some false
abbrev Cr.sg:Sig:=⟨[(.one,.str),(.one,(.sl (.int .i64)))],[],[(.one,.str)],[]⟩
def Cr.l1 (K:Nat) (x1:List Int):Nat→Int→Int→(List Int)→Option ByteArray
 | 0,_,_,_=>none
 | k+1,t_11,t_12,b_10 =>
  if decide (t_12<t_11) then
   if (0:Int)≤t_12∧t_12<((x1.length:Nat):Int) then
   if (0:Int)≤24 then
   if (0:Int)≤16 then
   if (0:Int)≤8 then
   if (b_10.length+([wr .u8 ((nth x1 t_12).fdiv (2 ^ min ((24:Int)).toNat 64)),wr .u8 ((nth x1 t_12).fdiv (2 ^ min ((16:Int)).toNat 64)),wr .u8 ((nth x1 t_12).fdiv (2 ^ min ((8:Int)).toNat 64)),wr .u8 (nth x1 t_12)]:List Int).length)*1≤140737488355328 then
   Cr.l1 K x1 k t_11 (wr .i64 (t_12+1)) (b_10++([wr .u8 ((nth x1 t_12).fdiv (2 ^ min ((24:Int)).toNat 64)),wr .u8 ((nth x1 t_12).fdiv (2 ^ min ((16:Int)).toNat 64)),wr .u8 ((nth x1 t_12).fdiv (2 ^ min ((8:Int)).toNat 64)),wr .u8 (nth x1 t_12)]:List Int))
   else none
   else none
   else none
   else none
   else none
  else
   some (bytesOf b_10)
def Cr (K:Nat) (x0:ByteArray) (x1:List Int):Option ByteArray :=
 Cr.l1 K x1 K ((x1.length:Nat):Int) (0:Int) (bytesL x0)
abbrev Gg.sg:Sig:=⟨[(.agg,Br)],[],[(.one,(.int .i64))],[]⟩
def Gg (K:Nat) (x0:Ak):Option Int :=
 if x0.Tag then
  some (1:Int)
 else
  if x0.Gone then
   some (2:Int)
  else
   some (0:Int)
abbrev Dk.sg:Sig:=⟨[(.agg,Ck)],[],[(.one,.str)],[]⟩
def Dk.l1 (K:Nat) (x0:Ai):Nat→ByteArray→Int→Int→Option ByteArray
 | 0,_,_,_=>none
 | k+1,b_12,t_10,t_11 =>
  if decide (t_11<t_10) then
   if (0:Int)≤t_11∧t_11<((x0.Versions.length:Nat):Int) then
   (Gg K (nth x0.Versions t_11)).bind fun r35 =>
   (Cr K b_12 ([(nth x0.Versions t_11).ID,(nth x0.Versions t_11).Parent,(nth x0.Versions t_11).Base,((nth x0.Versions t_11).Data).N,(nth x0.Versions t_11).At,r35]:List Int)).bind fun r37 =>
   Dk.l1 K x0 k r37 t_10 (wr .i64 (t_11+1))
   else none
  else
   some b_12
def Dk (K:Nat) (x0:Ai):Option ByteArray :=
 (Cr K (⟨#[72,69,82,66]⟩:ByteArray) ([x0.Keep,x0.Blocks,((x0.Versions.length:Nat):Int)]:List Int)).bind fun r14 =>
 Dk.l1 K x0 K r14 ((x0.Versions.length:Nat):Int) (0:Int)
abbrev Fe.sg:Sig:=⟨[(.agg,Ck)],[],[(.one,.str),(.one,(.int .i64))],[]⟩
def Fe (K:Nat) (x0:Ai):Option (ByteArray × Int) :=
 (G9 K x0).bind fun r5 =>
 if (!r5) then
  some (ByteArray.empty,1)
 else
  (Dk K x0).bind fun r8 =>
  some (r8,0)
abbrev Dg.sg:Sig:=⟨[(.one,(.int .i64))],[],[(.one,(.int .i64))],[]⟩
def Dg (K:Nat) (x0:Int):Option Int :=
 some x0
abbrev Di.sg:Sig:=⟨[(.one,.str),(.one,.str)],[],[(.one,.bool)],[]⟩
def Di (K:Nat) (x0:ByteArray) (x1:ByteArray):Option Bool :=
 if decide (((x0.size:Nat):Int)≥((x1.size:Nat):Int)) then
  if (0:Int)≤(0:Int)∧(0:Int)≤((x1.size:Nat):Int)∧((x1.size:Nat):Int)≤((x0.size:Nat):Int) then
  some ((x0.extract (0:Int).toNat ((x1.size:Nat):Int).toNat).toList == x1.toList)
  else none
 else
  some false
abbrev Ew.sg:Sig:=⟨[(.one,.str),(.one,.str)],[],[(.one,.bool)],[]⟩
def Ew (K:Nat) (x0:ByteArray) (x1:ByteArray):Option Bool :=
 (Di K x0 x1).bind fun r7 =>
 some r7
abbrev Am:Type:=ByteArray × Bool
abbrev G8:Ty:=(.pr .str .bool)
abbrev Am.S (x:Am):ByteArray:=x.1
abbrev Am.Bad (x:Am):Bool:=x.2
abbrev Ag.sg:Sig:=⟨[(.box,G8)],[],[(.one,(.int .i64))],[]⟩
def Ag.l1 (K:Nat) (x0:Am):Nat→Int→Int→Int→(List Int)→Option (Int × Am)
 | 0,_,_,_,_=>none
 | k+1,n_10,t_12,t_13,t_11 =>
  if decide (t_13<t_12) then
   if (0:Int)≤t_13∧t_13<((t_11.length:Nat):Int) then
   if (0:Int)≤8 then
   Ag.l1 K x0 k (ib .or .i64 (wr .i64 (n_10*2 ^ min ((8:Int)).toNat 64)) (wr .i64 (nth t_11 t_13))) t_12 (wr .i64 (t_13+1)) t_11
   else none
   else none
  else
   if (0:Int)≤(4:Int)∧(4:Int)≤((x0.S.size:Nat):Int)∧((x0.S.size:Nat):Int)≤((x0.S.size:Nat):Int) then
   some (n_10,((x0.S.extract (4:Int).toNat ((x0.S.size:Nat):Int).toNat,x0.Bad):Am))
   else none
def Ag (K:Nat) (x0:Am):Option (Int × Am) :=
 if x0.Bad then
  some (0,((x0.S,true):Am))
 else
  if decide (((x0.S.size:Nat):Int)<4) then
   some (0,((x0.S,true):Am))
  else
   if (0:Int)≤(0:Int)∧(0:Int)≤(4:Int)∧(4:Int)≤((x0.S.size:Nat):Int) then
   Ag.l1 K x0 K (0:Int) (((bytesL (x0.S.extract (0:Int).toNat (4:Int).toNat)).length:Nat):Int) (0:Int) (bytesL (x0.S.extract (0:Int).toNat (4:Int).toNat))
   else none
abbrev Et.sg:Sig:=sgRep
def Et (K:Nat) (x0:ByteArray) (x1:Int):Option ByteArray:=repF x0 x1
abbrev Fu.sg:Sig:=⟨[(.one,(.int .i64))],[],[(.agg,Cz)],[]⟩
def Fu (K:Nat) (x0:Int):Option Ap :=
 if (8:Int)≠0 then
 (Et K (⟨#[0]⟩:ByteArray) (wr .i64 ((wr .i64 ((wr .i64 (x0+8))-1)).tdiv 8))).bind fun r7 =>
 some ((r7,x0):Ap)
 else none
abbrev De.sg:Sig:=⟨[(.box,G8)],[],[(.agg,Br)],[]⟩
def De (K:Nat) (x0:Am):Option (Ak × Am) :=
 (Ag K x0).bind fun r7 =>
 (Ag K r7.2).bind fun r9 =>
 (Ag K r9.2).bind fun r11 =>
 (Ag K r11.2).bind fun r14 =>
 if r14.2.Bad then
  some (((r7.1,r9.1,r11.1,((ByteArray.empty,0):Ap),0,false,false):Ak),((r14.2.S,true):Am))
 else
  if decide (r14.1 > 6000) then
   some (((r7.1,r9.1,r11.1,((ByteArray.empty,0):Ap),0,false,false):Ak),((r14.2.S,true):Am))
  else
   (Fu K r14.1).bind fun r28 =>
   (Ag K r14.2).bind fun r30 =>
   (Ag K r30.2).bind fun r34 =>
   if r34.2.Bad then
    some (((r7.1,r9.1,r11.1,r28,r30.1,(r34.1 == 1),(r34.1 == 2)):Ak),((r34.2.S,true):Am))
   else
    some (((r7.1,r9.1,r11.1,r28,r30.1,(r34.1 == 1),(r34.1 == 2)):Ak),((r34.2.S,decide (r34.1 > 2)):Am))
abbrev Da.sg:Sig:=⟨[(.one,.str)],[],[(.agg,Ck),(.one,.bool)],[.s,.s,.o,.o]⟩
def Da.l1 (K:Nat) (r16:Int × Am) (r18:Int × Am) (r22:Int × Am):Nat→Int→Int→Int→ByteArray→Bool→(List Ak)→(List Aq)→Option (Ai × Bool)
 | 0,_,_,_,_,_,_,_=>none
 | k+1,t_13,t_10,t_11,t_14,t_15,t_16,t_12 =>
  if decide (t_13<r22.1) then
   (De K ((t_14,t_15):Am)).bind fun r38 =>
   if (t_16.length+([r38.1]:List Ak).length)*64≤140737488355328 then
   Da.l1 K r16 r18 r22 k (wr .i64 (t_13+1)) t_10 t_11 r38.2.S r38.2.Bad (t_16++([r38.1]:List Ak)) t_12
   else none
  else
   if t_15 then
    some (((0,0,([]:List Ak),([]:List Aq)):Ai),false)
   else
    if (!(t_14.toList == ByteArray.empty.toList)) then
     some (((0,0,([]:List Ak),([]:List Aq)):Ai),false)
    else
     (Dj K ((r16.1,r18.1,t_16,t_12):Ai)).bind fun r56 =>
     if (!r56) then
      some (((0,0,([]:List Ak),([]:List Aq)):Ai),false)
     else
      (Dn K ((r16.1,r18.1,t_16,t_12):Ai)).bind fun r61 =>
      (Gf K r61 r18.1).bind fun r64 =>
      if (!r64) then
       some (((0,0,([]:List Ak),([]:List Aq)):Ai),false)
      else
       some (((r16.1,r18.1,t_16,t_12):Ai),true)
def Da (K:Nat) (x0:ByteArray):Option (Ai × Bool) :=
 (Ew K x0 (⟨#[72,69,82,66]⟩:ByteArray)).bind fun r8 =>
 if (!r8) then
  some (((0,0,([]:List Ak),([]:List Aq)):Ai),false)
 else
  if (0:Int)≤(4:Int)∧(4:Int)≤((x0.size:Nat):Int)∧((x0.size:Nat):Int)≤((x0.size:Nat):Int) then
  (Ag K ((x0.extract (4:Int).toNat ((x0.size:Nat):Int).toNat,false):Am)).bind fun r16 =>
  (Ag K r16.2).bind fun r18 =>
  if (3:Int)=(3:Int)∧(0:Int)≤(3:Int)∧(144:Int)*(3:Int)≤281474976710656∧(3:Int)≤9223372036854775807 then
  (Ag K r18.2).bind fun r22 =>
  if r22.2.Bad then
   some (((0,0,([]:List Ak),([]:List Aq)):Ai),false)
  else
   if decide (r22.1 > 12) then
    some (((0,0,([]:List Ak),([]:List Aq)):Ai),false)
   else
    Da.l1 K r16 r18 r22 K (0:Int) (0:Int) (0:Int) r22.2.S r22.2.Bad ([]:List Ak) (List.replicate (3:Int).toNat ((false,0,false,0,((0,[]):Aa),((0,0,0,false,[],[]):Ac)):Aq))
  else none
  else none
abbrev Fj.sg:Sig:=⟨[(.one,.str)],[],[(.agg,Ck),(.one,(.int .i64))],[.s,.s,.o,.o]⟩
def Fj (K:Nat) (x0:ByteArray):Option (Ai × Int) :=
 (Da K x0).bind fun r8 =>
 if (!r8.2) then
  some (((0,0,([]:List Ak),([]:List Aq)):Ai),9)
 else
  some (r8.1,0)
abbrev Bf.sg:Sig:=⟨[(.one,(.sl Br))],[],[(.one,(.sl Br))],[.o]⟩
def Bf.l1 (K:Nat) (x0:List Ak):Nat→Int→(List Ak)→Option (List Ak)
 | 0,_,_=>none
 | k+1,i_10,m_11 =>
  if decide (i_10<((x0.length:Nat):Int)) then
   if (0:Int)≤i_10∧i_10<((x0.length:Nat):Int) then
   if (m_11.length+([(nth x0 i_10)]:List Ak).length)*64≤140737488355328 then
   Bf.l1 K x0 k (wr .i64 (i_10+1)) (m_11++([(nth x0 i_10)]:List Ak))
   else none
   else none
  else
   some m_11
def Bf (K:Nat) (x0:List Ak):Option (List Ak) :=
 Bf.l1 K x0 K (0:Int) ([]:List Ak)
abbrev Aw.sg:Sig:=⟨[(.one,(.sl (.int .i64)))],[],[(.one,(.sl (.int .i64)))],[.o]⟩
def Aw.l1 (K:Nat) (x0:List Int):Nat→Int→(List Int)→Option (List Int)
 | 0,_,_=>none
 | k+1,i_10,m_11 =>
  if decide (i_10<((x0.length:Nat):Int)) then
   if (0:Int)≤i_10∧i_10<((x0.length:Nat):Int) then
   if (m_11.length+([nth x0 i_10]:List Int).length)*8≤140737488355328 then
   Aw.l1 K x0 k (wr .i64 (i_10+1)) (m_11++([nth x0 i_10]:List Int))
   else none
   else none
  else
   some m_11
def Aw (K:Nat) (x0:List Int):Option (List Int) :=
 Aw.l1 K x0 K (0:Int) ([]:List Int)
abbrev Az.sg:Sig:=⟨[(.one,(.sl (.sl (.int .i64))))],[],[(.one,(.sl (.sl (.int .i64))))],[.o1]⟩
def Az.l1 (K:Nat) (x0:List (List Int)):Nat→Int→(List (List Int))→Option (List (List Int))
 | 0,_,_=>none
 | k+1,i_10,l_11 =>
  if decide (i_10<((x0.length:Nat):Int)) then
   if (0:Int)≤i_10∧i_10<((x0.length:Nat):Int) then
   (Aw K (nth x0 i_10)).bind fun r16 =>
   if (l_11.length+([r16]:List (List Int)).length)*24≤140737488355328 then
   Az.l1 K x0 k (wr .i64 (i_10+1)) (l_11++([r16]:List (List Int)))
   else none
   else none
  else
   some l_11
def Az (K:Nat) (x0:List (List Int)):Option (List (List Int)) :=
 Az.l1 K x0 K (0:Int) ([]:List (List Int))
abbrev Ef.sg:Sig:=⟨[(.agg,Bh)],[],[(.agg,Bh)],[.s,.o1]⟩
def Ef (K:Nat) (x0:Aa):Option Aa :=
 (Az K x0.Out).bind fun r7 =>
 some ((x0.N,r7):Aa)
abbrev Co.sg:Sig:=⟨[(.agg,Dq)],[],[(.agg,Dq)],[.s,.s,.s,.s,.o,.o]⟩
def Co (K:Nat) (x0:Ac):Option Ac :=
 (Aw K x0.List_).bind fun r7 =>
 (Aw K x0.Out).bind fun r11 =>
 some ((x0.Kind,x0.A,x0.At,x0.Move,r7,r11):Ac)
abbrev El.sg:Sig:=⟨[(.agg,Bu)],[],[(.agg,Bu)],[.s,.s,.s,.s,.s,.o1,.s,.s,.s,.s,.o,.o]⟩
def El (K:Nat) (x0:Aq):Option Aq :=
 (Ef K x0.Stage).bind fun r7 =>
 (Co K x0.Job).bind fun r11 =>
 some ((x0.Open,x0.Pin,x0.On,x0.From,r7,r11):Aq)
abbrev Bg.sg:Sig:=⟨[(.one,(.sl Bu))],[],[(.one,(.sl Bu))],[.o1]⟩
def Bg.l1 (K:Nat) (x0:List Aq):Nat→Int→(List Aq)→Option (List Aq)
 | 0,_,_=>none
 | k+1,i_10,l_11 =>
  if decide (i_10<((x0.length:Nat):Int)) then
   if (0:Int)≤i_10∧i_10<((x0.length:Nat):Int) then
   (El K (nth x0 i_10)).bind fun r16 =>
   if (l_11.length+([r16]:List Aq).length)*144≤140737488355328 then
   Bg.l1 K x0 k (wr .i64 (i_10+1)) (l_11++([r16]:List Aq))
   else none
   else none
  else
   some l_11
def Bg (K:Nat) (x0:List Aq):Option (List Aq) :=
 Bg.l1 K x0 K (0:Int) ([]:List Aq)
abbrev Dp.sg:Sig:=⟨[(.agg,Ck)],[],[(.agg,Ck)],[.s,.s,.o,.o1]⟩
def Dp (K:Nat) (x0:Ai):Option Ai :=
 (Bf K x0.Versions).bind fun r7 =>
 (Bg K x0.Sessions).bind fun r11 =>
 some ((x0.Keep,x0.Blocks,r7,r11):Ai)
abbrev Em.sg:Sig:=⟨[(.one,(.int .i64))],[],[(.one,.str)],[]⟩
def Em (K:Nat) (x0:Int):Option ByteArray :=
 if x0=x0∧(0:Int)≤x0∧(1:Int)*x0≤281474976710656∧x0≤9223372036854775807 then
 some (bytesOf (List.replicate x0.toNat (0:Int)))
 else none
abbrev Bp.sg:Sig:=⟨[(.one,(.sl Br)),(.one,(.sl Br))],[],[(.one,.bool)],[]⟩
def Bp.l1 (K:Nat) (x0:List Ak) (x1:List Ak):Nat→Int→Option Bool
 | 0,_=>none
 | k+1,i_10 =>
  if decide (i_10<((x0.length:Nat):Int)) then
   if (0:Int)≤i_10∧i_10<((x0.length:Nat):Int) then
   if (0:Int)≤i_10∧i_10<((x1.length:Nat):Int) then
   if (!((((nth x0 i_10).ID) == ((nth x1 i_10).ID)) && ((((nth x0 i_10).Parent) == ((nth x1 i_10).Parent)) && ((((nth x0 i_10).Base) == ((nth x1 i_10).Base)) && ((((((nth x0 i_10).Data).Data) == (((nth x1 i_10).Data).Data)) && (((((nth x0 i_10).Data).N) == (((nth x1 i_10).Data).N)) && true)) && ((((nth x0 i_10).At) == ((nth x1 i_10).At)) && ((((nth x0 i_10).Tag) == ((nth x1 i_10).Tag)) && ((((nth x0 i_10).Gone) == ((nth x1 i_10).Gone)) && true)))))))) then
    some false
   else
    Bp.l1 K x0 x1 k (wr .i64 (i_10+1))
   else none
   else none
  else
   some true
def Bp (K:Nat) (x0:List Ak) (x1:List Ak):Option Bool :=
 if (((x0.length:Nat):Int) != ((x1.length:Nat):Int)) then
  some false
 else
  Bp.l1 K x0 x1 K (0:Int)
abbrev A8.sg:Sig:=⟨[(.one,(.sl (.int .i64))),(.one,(.sl (.int .i64)))],[],[(.one,.bool)],[]⟩
def A8.l1 (K:Nat) (x0:List Int) (x1:List Int):Nat→Int→Option Bool
 | 0,_=>none
 | k+1,i_10 =>
  if decide (i_10<((x0.length:Nat):Int)) then
   if (0:Int)≤i_10∧i_10<((x0.length:Nat):Int) then
   if (0:Int)≤i_10∧i_10<((x1.length:Nat):Int) then
   if ((nth x0 i_10) != (nth x1 i_10)) then
    some false
   else
    A8.l1 K x0 x1 k (wr .i64 (i_10+1))
   else none
   else none
  else
   some true
def A8 (K:Nat) (x0:List Int) (x1:List Int):Option Bool :=
 if (((x0.length:Nat):Int) != ((x1.length:Nat):Int)) then
  some false
 else
  A8.l1 K x0 x1 K (0:Int)
abbrev Ba.sg:Sig:=⟨[(.one,(.sl (.sl (.int .i64)))),(.one,(.sl (.sl (.int .i64))))],[],[(.one,.bool)],[]⟩
def Ba.l1 (K:Nat) (x0:List (List Int)) (x1:List (List Int)):Nat→Int→Option Bool
 | 0,_=>none
 | k+1,i_10 =>
  if decide (i_10<((x0.length:Nat):Int)) then
   if (0:Int)≤i_10∧i_10<((x0.length:Nat):Int) then
   if (0:Int)≤i_10∧i_10<((x1.length:Nat):Int) then
   (A8 K (nth x0 i_10) (nth x1 i_10)).bind fun r25 =>
   if (!r25) then
    some false
   else
    Ba.l1 K x0 x1 k (wr .i64 (i_10+1))
   else none
   else none
  else
   some true
def Ba (K:Nat) (x0:List (List Int)) (x1:List (List Int)):Option Bool :=
 if (((x0.length:Nat):Int) != ((x1.length:Nat):Int)) then
  some false
 else
  Ba.l1 K x0 x1 K (0:Int)
abbrev Ed.sg:Sig:=⟨[(.agg,Bh),(.agg,Bh)],[],[(.one,.bool)],[]⟩
def Ed (K:Nat) (x0:Aa) (x1:Aa):Option Bool :=
 if (x0.N == x1.N) then
  (Ba K x0.Out x1.Out).bind fun r15 =>
  some r15
 else
  some false
abbrev Dz.sg:Sig:=⟨[(.agg,Dq),(.agg,Dq)],[],[(.one,.bool)],[]⟩
def Dz (K:Nat) (x0:Ac) (x1:Ac):Option Bool :=
 if (x0.Kind == x1.Kind) then
  if (x0.A == x1.A) then
   if (x0.At == x1.At) then
    if (x0.Move == x1.Move) then
     (A8 K x0.List_ x1.List_).bind fun r36 =>
     if r36 then
      (A8 K x0.Out x1.Out).bind fun r43 =>
      some r43
     else
      some false
    else
     some false
   else
    some false
  else
   some false
 else
  some false
abbrev Eg.sg:Sig:=⟨[(.agg,Bu),(.agg,Bu)],[],[(.one,.bool)],[]⟩
def Eg (K:Nat) (x0:Aq) (x1:Aq):Option Bool :=
 if (x0.Open == x1.Open) then
  if (x0.Pin == x1.Pin) then
   if (x0.On == x1.On) then
    if (x0.From == x1.From) then
     (Ed K x0.Stage x1.Stage).bind fun r36 =>
     if r36 then
      (Dz K x0.Job x1.Job).bind fun r43 =>
      some r43
     else
      some false
    else
     some false
   else
    some false
  else
   some false
 else
  some false
abbrev Be.sg:Sig:=⟨[(.one,(.sl Bu)),(.one,(.sl Bu))],[],[(.one,.bool)],[]⟩
def Be.l1 (K:Nat) (x0:List Aq) (x1:List Aq):Nat→Int→Option Bool
 | 0,_=>none
 | k+1,i_10 =>
  if decide (i_10<((x0.length:Nat):Int)) then
   if (0:Int)≤i_10∧i_10<((x0.length:Nat):Int) then
   if (0:Int)≤i_10∧i_10<((x1.length:Nat):Int) then
   (Eg K (nth x0 i_10) (nth x1 i_10)).bind fun r25 =>
   if (!r25) then
    some false
   else
    Be.l1 K x0 x1 k (wr .i64 (i_10+1))
   else none
   else none
  else
   some true
def Be (K:Nat) (x0:List Aq) (x1:List Aq):Option Bool :=
 if (((x0.length:Nat):Int) != ((x1.length:Nat):Int)) then
  some false
 else
  Be.l1 K x0 x1 K (0:Int)
abbrev Dl.sg:Sig:=⟨[(.agg,Ck),(.agg,Ck)],[],[(.one,.bool)],[]⟩
def Dl (K:Nat) (x0:Ai) (x1:Ai):Option Bool :=
 if (x0.Keep == x1.Keep) then
  if (x0.Blocks == x1.Blocks) then
   (Bp K x0.Versions x1.Versions).bind fun r22 =>
   if r22 then
    (Be K x0.Sessions x1.Sessions).bind fun r29 =>
    some r29
   else
    some false
  else
   some false
 else
  some false
abbrev Ey.sg:Sig:=⟨[(.one,.str)],[],[(.one,(.int .u32))],[]⟩
def Ey.l1 (K:Nat) (x0:ByteArray):Nat→Int→Int→Int→Int→Option Int
 | 0,_,_,_,_=>none
 | k+1,a_10,b_11,t_12,t_13 =>
  if decide (t_13<t_12) then
   if (0:Int)≤t_13∧t_13<((x0.size:Nat):Int) then
   if (65521:Int)≠0 then
   if (65521:Int)≠0 then
   Ey.l1 K x0 k ((wr .u32 (a_10+(wr .u32 (bt x0 t_13)))).tmod 65521) ((wr .u32 (b_11+((wr .u32 (a_10+(wr .u32 (bt x0 t_13)))).tmod 65521))).tmod 65521) t_12 (wr .i64 (t_13+1))
   else none
   else none
   else none
  else
   if (0:Int)≤16 then
   some (ib .or .u32 (wr .u32 (b_11*2 ^ min ((16:Int)).toNat 32)) a_10)
   else none
def Ey (K:Nat) (x0:ByteArray):Option Int :=
 Ey.l1 K x0 K (1:Int) (0:Int) ((x0.size:Nat):Int) (0:Int)
abbrev F7.sg:Sig:=⟨[(.one,.str)],[],[(.one,.str)],[]⟩
def F7 (K:Nat) (x0:ByteArray):Option ByteArray :=
 (Ey K x0).bind fun r5 =>
 if (0:Int)≤24 then
 if (0:Int)≤16 then
 if (0:Int)≤8 then
 some (bytesOf ([wr .u8 (r5.fdiv (2 ^ min ((24:Int)).toNat 32)),wr .u8 (r5.fdiv (2 ^ min ((16:Int)).toNat 32)),wr .u8 (r5.fdiv (2 ^ min ((8:Int)).toNat 32)),wr .u8 r5]:List Int))
 else none
 else none
 else none
abbrev Gr.sg:Sig:=⟨[(.one,.str)],[],[(.one,.str)],[]⟩
def Gr (K:Nat) (x0:ByteArray):Option ByteArray :=
 if (0:Int)≤(0:Int)∧(0:Int)≤(if (60:Int)<((x0.size:Nat):Int) then (60:Int) else ((x0.size:Nat):Int))∧(if (60:Int)<((x0.size:Nat):Int) then (60:Int) else ((x0.size:Nat):Int))≤((x0.size:Nat):Int) then
 (Et K (⟨#[0]⟩:ByteArray) (wr .i64 (60-(((x0.extract (0:Int).toNat (if (60:Int)<((x0.size:Nat):Int) then (60:Int) else ((x0.size:Nat):Int)).toNat).size:Nat):Int)))).bind fun r12 =>
 if (((x0.extract (0:Int).toNat (if (60:Int)<((x0.size:Nat):Int) then (60:Int) else ((x0.size:Nat):Int)).toNat).size+r12.size:Nat):Int)≤9223372036854775807 then
 (F7 K ((x0.extract (0:Int).toNat (if (60:Int)<((x0.size:Nat):Int) then (60:Int) else ((x0.size:Nat):Int)).toNat)++r12)).bind fun r16 =>
 if ((((x0.extract (0:Int).toNat (if (60:Int)<((x0.size:Nat):Int) then (60:Int) else ((x0.size:Nat):Int)).toNat)++r12).size+r16.size:Nat):Int)≤9223372036854775807 then
 some (((x0.extract (0:Int).toNat (if (60:Int)<((x0.size:Nat):Int) then (60:Int) else ((x0.size:Nat):Int)).toNat)++r12)++r16)
 else none
 else none
 else none
abbrev D5.sg:Sig:=⟨[(.one,.str)],[],[(.one,(.sl .str))],[.o]⟩
def D5.l1 (K:Nat):Nat→ByteArray→(List ByteArray)→Option (List ByteArray)
 | 0,_,_=>none
 | k+1,s_10,l_11 =>
  if (!(s_10.toList == ByteArray.empty.toList)) then
   if (0:Int)≤(0:Int)∧(0:Int)≤(if (60:Int)<((s_10.size:Nat):Int) then (60:Int) else ((s_10.size:Nat):Int))∧(if (60:Int)<((s_10.size:Nat):Int) then (60:Int) else ((s_10.size:Nat):Int))≤((s_10.size:Nat):Int) then
   (Gr K (s_10.extract (0:Int).toNat (if (60:Int)<((s_10.size:Nat):Int) then (60:Int) else ((s_10.size:Nat):Int)).toNat)).bind fun r13 =>
   if (l_11.length+([r13]:List ByteArray).length)*16≤140737488355328 then
   if (0:Int)≤(if (60:Int)<((s_10.size:Nat):Int) then (60:Int) else ((s_10.size:Nat):Int))∧(if (60:Int)<((s_10.size:Nat):Int) then (60:Int) else ((s_10.size:Nat):Int))≤((s_10.size:Nat):Int)∧((s_10.size:Nat):Int)≤((s_10.size:Nat):Int) then
   D5.l1 K k (s_10.extract (if (60:Int)<((s_10.size:Nat):Int) then (60:Int) else ((s_10.size:Nat):Int)).toNat ((s_10.size:Nat):Int).toNat) (l_11++([r13]:List ByteArray))
   else none
   else none
   else none
  else
   some l_11
def D5 (K:Nat) (x0:ByteArray):Option (List ByteArray) :=
 D5.l1 K K x0 ([]:List ByteArray)
abbrev Gj.sg:Sig:=⟨[(.one,.str)],[],[(.one,.str),(.one,.bool)],[]⟩
def Gj (K:Nat) (x0:ByteArray):Option (ByteArray × Bool) :=
 if (((x0.size:Nat):Int) != 64) then
  some (ByteArray.empty,false)
 else
  if (0:Int)≤(0:Int)∧(0:Int)≤(60:Int)∧(60:Int)≤((x0.size:Nat):Int) then
  (F7 K (x0.extract (0:Int).toNat (60:Int).toNat)).bind fun r10 =>
  if (0:Int)≤(60:Int)∧(60:Int)≤((x0.size:Nat):Int)∧((x0.size:Nat):Int)≤((x0.size:Nat):Int) then
  if (!(r10.toList == (x0.extract (60:Int).toNat ((x0.size:Nat):Int).toNat).toList)) then
   some (ByteArray.empty,false)
  else
   if (0:Int)≤(0:Int)∧(0:Int)≤(60:Int)∧(60:Int)≤((x0.size:Nat):Int) then
   some (x0.extract (0:Int).toNat (60:Int).toNat,true)
   else none
  else none
  else none
abbrev Du.sg:Sig:=⟨[(.one,(.sl .str))],[],[(.one,.str),(.one,(.int .i64))],[]⟩
def Du.l1 (K:Nat) (x0:List ByteArray):Nat→ByteArray→Int→Int→Option (ByteArray × Int)
 | 0,_,_,_=>none
 | k+1,s_10,t_11,t_12 =>
  if decide (t_12<t_11) then
   if (0:Int)≤t_12∧t_12<((x0.length:Nat):Int) then
   (Gj K (nth x0 t_12)).bind fun r17 =>
   if (!r17.2) then
    some (ByteArray.empty,9)
   else
    if ((s_10.size+r17.1.size:Nat):Int)≤9223372036854775807 then
    Du.l1 K x0 k (s_10++r17.1) t_11 (wr .i64 (t_12+1))
    else none
   else none
  else
   some (s_10,0)
def Du (K:Nat) (x0:List ByteArray):Option (ByteArray × Int) :=
 Du.l1 K x0 K ByteArray.empty ((x0.length:Nat):Int) (0:Int)
abbrev Gs.sg:Sig:=⟨[(.agg,Cz)],[],[(.one,.str)],[]⟩
def Gs (K:Nat) (x0:Ap):Option ByteArray :=
 (Cr K ByteArray.empty ([x0.N]:List Int)).bind fun r6 =>
 if ((r6.size+x0.Data.size:Nat):Int)≤9223372036854775807 then
 some (r6++x0.Data)
 else none
abbrev Gb.sg:Sig:=⟨[(.agg,Cz)],[],[(.one,.str),(.one,(.int .i64))],[]⟩
def Gb (K:Nat) (x0:Ap):Option (ByteArray × Int) :=
 (Fg K x0).bind fun r5 =>
 if (!r5) then
  some (ByteArray.empty,1)
 else
  (Gs K x0).bind fun r8 =>
  some (r8,0)
abbrev Fp.sg:Sig:=sgTrim
def Fp (K:Nat) (x0:ByteArray) (x1:ByteArray):Option ByteArray:=trimF x0 x1
abbrev Ez.sg:Sig:=⟨[(.one,.str),(.one,(.int .i64))],[],[(.agg,Cz),(.one,(.int .i64))],[]⟩
def Ez (K:Nat) (x0:ByteArray) (x1:Int):Option (Ap × Int) :=
 (Ag K ((x0,false):Am)).bind fun r14 =>
 if r14.2.Bad then
  some (((ByteArray.empty,0):Ap),9)
 else
  if (r14.1 != x1) then
   some (((ByteArray.empty,0):Ap),9)
  else
   if decide (x1 > 6000) then
    some (((ByteArray.empty,0):Ap),9)
   else
    (Fu K x1).bind fun r30 =>
    if decide (((r14.2.S.size:Nat):Int)<((r30.Data.size:Nat):Int)) then
     some (((ByteArray.empty,0):Ap),9)
    else
     if (0:Int)≤(0:Int)∧(0:Int)≤((r30.Data.size:Nat):Int)∧((r30.Data.size:Nat):Int)≤((r14.2.S.size:Nat):Int) then
     (Fg K ((r14.2.S.extract (0:Int).toNat ((r30.Data.size:Nat):Int).toNat,x1):Ap)).bind fun r50 =>
     if (!r50) then
      some (((ByteArray.empty,0):Ap),9)
     else
      if (0:Int)≤((r30.Data.size:Nat):Int)∧((r30.Data.size:Nat):Int)≤((r14.2.S.size:Nat):Int)∧((r14.2.S.size:Nat):Int)≤((r14.2.S.size:Nat):Int) then
      (Fp K (r14.2.S.extract ((r30.Data.size:Nat):Int).toNat ((r14.2.S.size:Nat):Int).toNat) (⟨#[0]⟩:ByteArray)).bind fun r59 =>
      if (!(r59.toList == ByteArray.empty.toList)) then
       some (((ByteArray.empty,0):Ap),9)
      else
       some (((r14.2.S.extract (0:Int).toNat ((r30.Data.size:Nat):Int).toNat,x1):Ap),0)
      else none
     else none
abbrev Fh.sg:Sig:=⟨[(.one,(.int .i64)),(.one,(.int .i64))],[],[(.agg,Ck)],[.s,.s,.o,.o]⟩
def Fh (K:Nat) (x0:Int) (x1:Int):Option Ai :=
 if (3:Int)=(3:Int)∧(0:Int)≤(3:Int)∧(144:Int)*(3:Int)≤281474976710656∧(3:Int)≤9223372036854775807 then
 some ((x1,x0,([]:List Ak),List.replicate (3:Int).toNat ((false,0,false,0,((0,[]):Aa),((0,0,0,false,[],[]):Ac)):Aq)):Ai)
 else none
abbrev Ea.sg:Sig:=⟨[],[],[(.one,.bool)],[]⟩
def Ea (K:Nat):Option Bool :=
 (Fh K 9 2).bind fun r6 =>
 (Fe K r6).bind fun r7 =>
 (Fj K r7.1).bind fun r12 =>
 (Dg K r7.2).bind fun r16 =>
 if (r16 == 0) then
  (Dg K r12.2).bind fun r20 =>
  if (r20 == 0) then
   if (((r7.1.size:Nat):Int) == 16) then
    if (r12.1.Keep == 2) then
     some (r12.1.Blocks == 9)
    else
     some false
   else
    some false
  else
   some false
 else
  some false
abbrev Ah.sg:Sig:=⟨[(.agg,G5)],[],[(.one,.bool)],[]⟩
def Ah.l3 (K:Nat) (go_l1:Int→Option Bool) (t_10:Int) (x0:C8):Nat→Int→(List Ak)→(List Aq)→Option Bool
 | 0,_,_,_=>none
 | k+1,t_13,t_15,t_12 =>
  if decide (t_13<((t_15.length:Nat):Int)) then
   if (0:Int)≤t_10∧t_10<((x0.S.length:Nat):Int) then
   if (0:Int)≤t_13∧t_13<((((nth x0.S t_10).Versions).length:Nat):Int) then
   (Gb K ((nth ((nth x0.S t_10).Versions) t_13).Data)).bind fun r130 =>
   (Ez K r130.1 (((nth ((nth x0.S t_10).Versions) t_13).Data).N)).bind fun r138 =>
   (Dg K r130.2).bind fun r142 =>
   if (r142 != 0) then
    some false
   else
    (Dg K r138.2).bind fun r146 =>
    if (r146 != 0) then
     some false
    else
     if (!((r138.1.Data == (((nth ((nth x0.S t_10).Versions) t_13).Data).Data)) && ((r138.1.N == (((nth ((nth x0.S t_10).Versions) t_13).Data).N)) && true))) then
      some false
     else
      Ah.l3 K go_l1 t_10 x0 k (wr .i64 (t_13+1)) t_15 t_12
   else none
   else none
  else
   go_l1 (wr .i64 (t_10+1))
def Ah.l2 (K:Nat) (go_l1:Int→Option Bool) (r37:ByteArray × Int) (r45:Ai × Int) (r53:Ai) (t_10:Int) (x0:C8):Nat→Int→(List Ak)→Option Bool
 | 0,_,_=>none
 | k+1,t_11,t_14 =>
  if decide (t_11<((t_14.length:Nat):Int)) then
   if (0:Int)≤t_11∧t_11<((t_14.length:Nat):Int) then
   (Em K (((((nth t_14 t_11).Data).Data).size:Nat):Int)).bind fun r72 =>
   if (0:Int)≤t_11∧t_11<((t_14.length:Nat):Int) then
   Ah.l2 K go_l1 r37 r45 r53 t_10 x0 k (wr .i64 (t_11+1)) ((t_14).set t_11.toNat (((nth t_14 t_11).ID,(nth t_14 t_11).Parent,(nth t_14 t_11).Base,((r72,((nth t_14 t_11).Data).N):Ap),(nth t_14 t_11).At,(nth t_14 t_11).Tag,(nth t_14 t_11).Gone):Ak))
   else none
   else none
  else
   if (3:Int)=(3:Int)∧(0:Int)≤(3:Int)∧(144:Int)*(3:Int)≤281474976710656∧(3:Int)≤9223372036854775807 then
   (Dg K r45.2).bind fun r79 =>
   if (r79 != 0) then
    some false
   else
    (Dl K r45.1 ((r53.Keep,r53.Blocks,t_14,List.replicate (3:Int).toNat ((false,0,false,0,((0,[]):Aa),((0,0,0,false,[],[]):Ac)):Aq)):Ai)).bind fun r84 =>
    if (!r84) then
     some false
    else
     (D5 K r37.1).bind fun r89 =>
     (Du K r89).bind fun r90 =>
     (Dg K r90.2).bind fun r94 =>
     if (r94 != 0) then
      some false
     else
      if decide (((r90.1.size:Nat):Int)<((r37.1.size:Nat):Int)) then
       some false
      else
       if (0:Int)≤(0:Int)∧(0:Int)≤((r37.1.size:Nat):Int)∧((r37.1.size:Nat):Int)≤((r90.1.size:Nat):Int) then
       if (!((r90.1.extract (0:Int).toNat ((r37.1.size:Nat):Int).toNat).toList == r37.1.toList)) then
        some false
       else
        Ah.l3 K go_l1 t_10 x0 K (0:Int) t_14 (List.replicate (3:Int).toNat ((false,0,false,0,((0,[]):Aa),((0,0,0,false,[],[]):Ac)):Aq))
       else none
   else none
def Ah.l1 (K:Nat) (x0:C8):Nat→Int→Option Bool
 | 0,_=>none
 | k+1,t_10 =>
  if decide (t_10<((x0.S.length:Nat):Int)) then
   if decide (t_10<4) then
    if (0:Int)≤t_10∧t_10<((x0.S.length:Nat):Int) then
    (Fe K (nth x0.S t_10)).bind fun r37 =>
    (Dg K r37.2).bind fun r41 =>
    if (r41 != 0) then
     Ah.l1 K x0 k (wr .i64 (t_10+1))
    else
     (Fj K r37.1).bind fun r45 =>
     if (0:Int)≤t_10∧t_10<((x0.S.length:Nat):Int) then
     (Dp K (nth x0.S t_10)).bind fun r53 =>
     Ah.l2 K (Ah.l1 K x0 k) r37 r45 r53 t_10 x0 K (0:Int) r53.Versions
     else none
    else none
   else
    (Ea K).bind fun r155 =>
    some r155
  else
   (Ea K).bind fun r155 =>
   some r155
def Ah (K:Nat) (x0:C8):Option Bool :=
 (Bz K x0).bind fun r19 =>
 if r19 then
  some true
 else
  Ah.l1 K x0 K (0:Int)
abbrev Ee.sg:Sig:=⟨[(.one,(.int .i64)),(.one,(.int .i64)),(.one,(.int .i64))],[],[(.one,.bool)],[]⟩
def Ee (K:Nat) (x0:Int) (x1:Int) (x2:Int):Option Bool :=
 if decide (x0≥x1) then
  some (decide (x0≤x2))
 else
  some false
abbrev Db.sg:Sig:=⟨[(.one,(.int .i64))],[],[(.one,.bool)],[]⟩
def Db (K:Nat) (x0:Int):Option Bool :=
 if (x0 == 1) then
  some true
 else
  if (x0 == 2) then
   some true
  else
   some (x0 == 4)
abbrev Ex.sg:Sig:=⟨[(.one,(.int .i64)),(.one,(.int .i64))],[],[(.one,.bool)],[]⟩
def Ex (K:Nat) (x0:Int) (x1:Int):Option Bool :=
 if decide (x0≥0) then
  some (decide (x0≤x1))
 else
  some false
abbrev Er.sg:Sig:=⟨[(.agg,Bh),(.one,(.int .i64)),(.one,(.int .i64))],[],[(.one,(.int .i64))],[]⟩
def Er (K:Nat) (x0:Aa) (x1:Int) (x2:Int):Option Int :=
 (Ee K x1 1 6).bind fun r8 =>
 if (!r8) then
  some (1:Int)
 else
  (Db K x1).bind fun r11 =>
  if r11 then
   (Ex K x2 (wr .i64 (x0.N-1))).bind fun r17 =>
   if (!r17) then
    some (3:Int)
   else
    some (0:Int)
  else
   some (0:Int)
abbrev Av.sg:Sig:=⟨[(.agg,Bh),(.one,(.int .i64)),(.one,(.int .i64))],[],[(.agg,Dq)],[.s,.s,.s,.s,.o,.o]⟩
def Av.l2 (K:Nat) (j_13:Int) (j_14:Int) (x0:Aa) (x1:Int) (x2:Int):Nat→Int→(List Int)→Option Ac
 | 0,_,_=>none
 | k+1,v_15,j_16 =>
  if decide (v_15<x0.N) then
   if (x1 == 4) then
    if (j_16.length+([(-1)]:List Int).length)*8≤140737488355328 then
    Av.l2 K j_13 j_14 x0 x1 x2 k (wr .i64 (v_15+1)) (j_16++([(-1)]:List Int))
    else none
   else
    if (x1 == 5) then
     if (j_16.length+([v_15]:List Int).length)*8≤140737488355328 then
     Av.l2 K j_13 j_14 x0 x1 x2 k (wr .i64 (v_15+1)) (j_16++([v_15]:List Int))
     else none
    else
     Av.l2 K j_13 j_14 x0 x1 x2 k (wr .i64 (v_15+1)) j_16
  else
   if (x1 == 4) then
    if (0:Int)≤x2∧x2<((j_16.length:Nat):Int) then
    some ((x1,j_13,j_14,false,([x2]:List Int),(j_16).set x2.toNat 0):Ac)
    else none
   else
    some ((x1,j_13,j_14,false,([]:List Int),j_16):Ac)
def Av.j1 (K:Nat) (x0:Aa) (x1:Int) (x2:Int) (t_10:Int) (t_11:Int) (t_12:Int) (j_13:Int) (j_14:Int):Option Ac :=
 Av.l2 K j_13 j_14 x0 x1 x2 K (0:Int) ([]:List Int)
def Av (K:Nat) (x0:Aa) (x1:Int) (x2:Int):Option Ac :=
 (Db K x1).bind fun r12 =>
 if r12 then
  Av.j1 K x0 x1 x2 (0:Int) (0:Int) (0:Int) x2 (0:Int)
 else
  Av.j1 K x0 x1 x2 (0:Int) (0:Int) (0:Int) (0:Int) (0:Int)
abbrev Ej.sg:Sig:=⟨[(.agg,Bh),(.agg,Dq)],[],[(.one,.bool)],[]⟩
def Ej (K:Nat) (x0:Aa) (x1:Ac):Option Bool :=
 if (x1.Kind == 1) then
  some (decide (x1.At≥1))
 else
  if (x1.Kind == 4) then
   some (decide (x1.At≥((x1.List_.length:Nat):Int)))
  else
   some (decide (x1.At≥x0.N))
abbrev Ch.sg:Sig:=⟨[(.one,(.sl (.int .i64))),(.one,(.int .i64))],[],[(.one,(.int .i64))],[]⟩
def Ch.l1 (K:Nat) (x0:List Int) (x1:Int):Nat→Int→Option Int
 | 0,_=>none
 | k+1,i_10 =>
  if decide (i_10<((x0.length:Nat):Int)) then
   if (0:Int)≤i_10∧i_10<((x0.length:Nat):Int) then
   if ((nth x0 i_10) == x1) then
    some i_10
   else
    Ch.l1 K x0 x1 k (wr .i64 (i_10+1))
   else none
  else
   some ((-1):Int)
def Ch (K:Nat) (x0:List Int) (x1:Int):Option Int :=
 Ch.l1 K x0 x1 K (0:Int)
abbrev Ab.sg:Sig:=⟨[(.agg,Bh),(.agg,Dq)],[],[(.agg,Dq)],[.s,.s,.s,.s,.o,.o]⟩
def Ab.j5 (K:Nat) (go_l4:Int→Int→Bool→(List Int)→Int→Int→Int→Option Ac) (r13:Ac) (t_25:Int) (t_26:Int) (t_27:Int) (t_28:Int) (t_29:Int) (t_37:List Int) (x0:Aa) (t_31:Int) (t_30:Bool):Option Ac :=
 if (0:Int)≤r13.At∧r13.At<((t_37.length:Nat):Int) then
 if (0:Int)≤t_31∧t_31<((t_37.length:Nat):Int) then
 if (0:Int)≤r13.At∧r13.At<((t_37.length:Nat):Int) then
 if (0:Int)≤t_31∧t_31<((((t_37).set r13.At.toNat (if (nth t_37 t_31)<(nth t_37 r13.At) then (nth t_37 t_31) else (nth t_37 r13.At))).length:Nat):Int) then
 go_l4 (wr .i64 (t_29+1)) t_25 t_30 (((t_37).set r13.At.toNat (if (nth t_37 t_31)<(nth t_37 r13.At) then (nth t_37 t_31) else (nth t_37 r13.At))).set t_31.toNat (if (nth t_37 t_31)<(nth t_37 r13.At) then (nth t_37 t_31) else (nth t_37 r13.At))) t_26 t_27 t_28
 else none
 else none
 else none
 else none
def Ab.l4 (K:Nat) (r13:Ac) (x0:Aa):Nat→Int→Int→Bool→(List Int)→Int→Int→Int→Option Ac
 | 0,_,_,_,_,_,_,_=>none
 | k+1,t_29,t_25,t_36,t_37,t_26,t_27,t_28 =>
  if (0:Int)≤r13.At∧r13.At<((x0.Out.length:Nat):Int) then
  if decide (t_29<(((nth x0.Out r13.At).length:Nat):Int)) then
   if (0:Int)≤r13.At∧r13.At<((x0.Out.length:Nat):Int) then
   if (0:Int)≤t_29∧t_29<(((nth x0.Out r13.At).length:Nat):Int) then
   if t_36 then
    Ab.j5 K (Ab.l4 K r13 x0 k) r13 t_25 t_26 t_27 t_28 t_29 t_37 x0 (nth (nth x0.Out r13.At) t_29) true
   else
    if (0:Int)≤r13.At∧r13.At<((t_37.length:Nat):Int) then
    if (0:Int)≤(nth (nth x0.Out r13.At) t_29)∧(nth (nth x0.Out r13.At) t_29)<((t_37.length:Nat):Int) then
    Ab.j5 K (Ab.l4 K r13 x0 k) r13 t_25 t_26 t_27 t_28 t_29 t_37 x0 (nth (nth x0.Out r13.At) t_29) ((nth t_37 r13.At) != (nth t_37 (nth (nth x0.Out r13.At) t_29)))
    else none
    else none
   else none
   else none
  else
   if decide (t_25≥x0.N) then
    if t_36 then
     some ((r13.Kind,r13.A,0,false,r13.List_,t_37):Ac)
    else
     some ((r13.Kind,r13.A,t_25,t_36,r13.List_,t_37):Ac)
   else
    some ((r13.Kind,r13.A,t_25,t_36,r13.List_,t_37):Ac)
  else none
def Ab.l3 (K:Nat) (r13:Ac) (x0:Aa):Nat→Int→Int→Int→(List Int)→(List Int)→Int→Int→Int→Option Ac
 | 0,_,_,_,_,_,_,_,_=>none
 | k+1,t_23,t_24,t_19,t_34,t_35,t_20,t_21,t_22 =>
  if (0:Int)≤t_23∧t_23<((x0.Out.length:Nat):Int) then
  if decide (t_24<(((nth x0.Out t_23).length:Nat):Int)) then
   if (0:Int)≤t_23∧t_23<((x0.Out.length:Nat):Int) then
   if (0:Int)≤t_24∧t_24<(((nth x0.Out t_23).length:Nat):Int) then
   if (0:Int)≤(nth (nth x0.Out t_23) t_24)∧(nth (nth x0.Out t_23) t_24)<((t_35.length:Nat):Int) then
   if decide ((nth t_35 (nth (nth x0.Out t_23) t_24))<0) then
    if (0:Int)≤t_23∧t_23<((t_35.length:Nat):Int) then
    if (0:Int)≤(nth (nth x0.Out t_23) t_24)∧(nth (nth x0.Out t_23) t_24)<((t_35.length:Nat):Int) then
    if (t_34.length+([nth (nth x0.Out t_23) t_24]:List Int).length)*8≤140737488355328 then
    Ab.l3 K r13 x0 k t_23 (wr .i64 (t_24+1)) t_19 (t_34++([nth (nth x0.Out t_23) t_24]:List Int)) ((t_35).set (nth (nth x0.Out t_23) t_24).toNat (wr .i64 ((nth t_35 t_23)+1))) t_20 t_21 t_22
    else none
    else none
    else none
   else
    Ab.l3 K r13 x0 k t_23 (wr .i64 (t_24+1)) t_19 t_34 t_35 t_20 t_21 t_22
   else none
   else none
   else none
  else
   some ((r13.Kind,r13.A,t_19,r13.Move,t_34,t_35):Ac)
  else none
def Ab.l2 (K:Nat) (r13:Ac) (x0:Aa):Nat→Int→Int→(List Int)→Int→Int→Int→Option Ac
 | 0,_,_,_,_,_,_=>none
 | k+1,t_18,t_14,t_33,t_15,t_16,t_17 =>
  if (0:Int)≤r13.At∧r13.At<((x0.Out.length:Nat):Int) then
  if decide (t_18<(((nth x0.Out r13.At).length:Nat):Int)) then
   if (0:Int)≤r13.At∧r13.At<((x0.Out.length:Nat):Int) then
   if (0:Int)≤t_18∧t_18<(((nth x0.Out r13.At).length:Nat):Int) then
   if (t_33.length+([r13.At,nth (nth x0.Out r13.At) t_18]:List Int).length)*8≤140737488355328 then
   Ab.l2 K r13 x0 k (wr .i64 (t_18+1)) t_14 (t_33++([r13.At,nth (nth x0.Out r13.At) t_18]:List Int)) t_15 t_16 t_17
   else none
   else none
   else none
  else
   some ((r13.Kind,r13.A,t_14,r13.Move,r13.List_,t_33):Ac)
  else none
def Ab.l1 (K:Nat) (r13:Ac) (x0:Aa):Nat→Int→(List Int)→Int→Int→Int→Option Ac
 | 0,_,_,_,_,_=>none
 | k+1,t_10,t_32,t_11,t_12,t_13 =>
  if (0:Int)≤r13.At∧r13.At<((x0.Out.length:Nat):Int) then
  if decide (((t_32.length:Nat):Int)≤(((nth x0.Out r13.At).length:Nat):Int)) then
   if (t_32.length+([0]:List Int).length)*8≤140737488355328 then
   Ab.l1 K r13 x0 k t_10 (t_32++([0]:List Int)) t_11 t_12 t_13
   else none
  else
   if (0:Int)≤r13.At∧r13.At<((x0.Out.length:Nat):Int) then
   if (0:Int)≤(((nth x0.Out r13.At).length:Nat):Int)∧(((nth x0.Out r13.At).length:Nat):Int)<((t_32.length:Nat):Int) then
   if (0:Int)≤(((nth x0.Out r13.At).length:Nat):Int)∧(((nth x0.Out r13.At).length:Nat):Int)<((t_32.length:Nat):Int) then
   some ((r13.Kind,r13.A,t_10,r13.Move,r13.List_,(t_32).set (((nth x0.Out r13.At).length:Nat):Int).toNat (wr .i64 ((nth t_32 (((nth x0.Out r13.At).length:Nat):Int))+1))):Ac)
   else none
   else none
   else none
  else none
def Ab (K:Nat) (x0:Aa) (x1:Ac):Option Ac :=
 (Co K x1).bind fun r13 =>
 if (r13.Kind == 1) then
  if (0:Int)≤r13.A∧r13.A<((x0.Out.length:Nat):Int) then
  (Aw K (nth x0.Out r13.A)).bind fun r96 =>
  some ((r13.Kind,r13.A,wr .i64 (r13.At+1),r13.Move,r13.List_,r96):Ac)
  else none
 else
  if (r13.Kind == 2) then
   if (0:Int)≤r13.At∧r13.At<((x0.Out.length:Nat):Int) then
   (Ch K (nth x0.Out r13.At) r13.A).bind fun r107 =>
   if decide (r107≥0) then
    if (r13.Out.length+([r13.At]:List Int).length)*8≤140737488355328 then
    some ((r13.Kind,r13.A,wr .i64 (r13.At+1),r13.Move,r13.List_,r13.Out++([r13.At]:List Int)):Ac)
    else none
   else
    some ((r13.Kind,r13.A,wr .i64 (r13.At+1),r13.Move,r13.List_,r13.Out):Ac)
   else none
  else
   if (r13.Kind == 3) then
    Ab.l1 K r13 x0 K (wr .i64 (r13.At+1)) r13.Out (0:Int) (0:Int) (0:Int)
   else
    if (r13.Kind == 6) then
     Ab.l2 K r13 x0 K (0:Int) (wr .i64 (r13.At+1)) r13.Out (0:Int) (0:Int) (0:Int)
    else
     if (r13.Kind == 4) then
      if (0:Int)≤r13.At∧r13.At<((r13.List_.length:Nat):Int) then
      Ab.l3 K r13 x0 K (nth r13.List_ r13.At) (0:Int) (wr .i64 (r13.At+1)) r13.List_ r13.Out (0:Int) (0:Int) (0:Int)
      else none
     else
      Ab.l4 K r13 x0 K (0:Int) (wr .i64 (r13.At+1)) r13.Move r13.Out (0:Int) (0:Int) (0:Int)
abbrev Bb.sg:Sig:=⟨[(.agg,Bh),(.agg,Dq)],[],[(.one,.bool)],[]⟩
def Bb.l1 (K:Nat) (x0:Aa) (x1:Ac):Nat→Int→Int→Int→Bool→(List Int)→(List Int)→Option Bool
 | 0,_,_,_,_,_,_=>none
 | k+1,x_10,x_11,x_12,x_13,x_14,x_15 =>
  (Dz K ((x_10,x_11,x_12,x_13,x_14,x_15):Ac) x1).bind fun r32 =>
  if (!r32) then
   (Ej K x0 ((x_10,x_11,x_12,x_13,x_14,x_15):Ac)).bind fun r36 =>
   if r36 then
    some false
   else
    (Ab K x0 ((x_10,x_11,x_12,x_13,x_14,x_15):Ac)).bind fun r39 =>
    Bb.l1 K x0 x1 k r39.Kind r39.A r39.At r39.Move r39.List_ r39.Out
  else
   some true
def Bb (K:Nat) (x0:Aa) (x1:Ac):Option Bool :=
 (Er K x0 x1.Kind x1.A).bind fun r11 =>
 if (r11 != 0) then
  some false
 else
  (Db K x1.Kind).bind fun r16 =>
  if (!r16) then
   if (x1.A != 0) then
    some false
   else
    (Av K x0 x1.Kind x1.A).bind fun r29 =>
    Bb.l1 K x0 x1 K r29.Kind r29.A r29.At r29.Move r29.List_ r29.Out
  else
   (Av K x0 x1.Kind x1.A).bind fun r29 =>
   Bb.l1 K x0 x1 K r29.Kind r29.A r29.At r29.Move r29.List_ r29.Out
abbrev Eh:Type:=Int × Int
abbrev Ha:Ty:=(.pr (.int .i64) (.int .i64))
abbrev Eh.A (x:Eh):Int:=x.1
abbrev Eh.B (x:Eh):Int:=x.2
abbrev Ca.sg:Sig:=⟨[(.agg,Bh)],[],[(.one,(.sl Ha))],[.o]⟩
def Ca.l2 (K:Nat) (go_l1:Int→(List Eh)→Option (List Eh)) (i_10:Int) (x0:Aa):Nat→Int→(List Eh)→Option (List Eh)
 | 0,_,_=>none
 | k+1,k_11,l_12 =>
  if (0:Int)≤i_10∧i_10<((x0.Out.length:Nat):Int) then
  if decide (k_11<(((nth x0.Out i_10).length:Nat):Int)) then
   if (0:Int)≤i_10∧i_10<((x0.Out.length:Nat):Int) then
   if (0:Int)≤k_11∧k_11<(((nth x0.Out i_10).length:Nat):Int) then
   if (l_12.length+([((i_10,nth (nth x0.Out i_10) k_11):Eh)]:List Eh).length)*16≤140737488355328 then
   Ca.l2 K go_l1 i_10 x0 k (wr .i64 (k_11+1)) (l_12++([((i_10,nth (nth x0.Out i_10) k_11):Eh)]:List Eh))
   else none
   else none
   else none
  else
   go_l1 (wr .i64 (i_10+1)) l_12
  else none
def Ca.l1 (K:Nat) (x0:Aa):Nat→Int→(List Eh)→Option (List Eh)
 | 0,_,_=>none
 | k+1,i_10,l_13 =>
  if decide (i_10<x0.N) then
   Ca.l2 K (Ca.l1 K x0 k) i_10 x0 K (0:Int) l_13
  else
   some l_13
def Ca (K:Nat) (x0:Aa):Option (List Eh) :=
 Ca.l1 K x0 K (0:Int) ([]:List Eh)
end Go.XM
end
