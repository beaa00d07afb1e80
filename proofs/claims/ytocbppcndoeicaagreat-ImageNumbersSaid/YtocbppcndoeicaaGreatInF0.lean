import Derived.Test.YtocbppcndoeicaaGreatInH0
set_option linter.all false
section
namespace Go.XM
set_option maxRecDepth 100000
abbrev Co.sg:Sig:=⟨[(.one,(.sl (.sl (.int .i64))))],[],[(.one,(.int .i64))],[]⟩
def Co.l1 (K:Nat) (x0:List (List Int)):Nat→Int→Int→Option Int
 | 0,_,_=>none
 | k+1,n_10,i_11 =>
  if decide (i_11<((x0.length:Nat):Int)) then
   if decide (n_10<1048576) then
    if (0:Int)≤i_11∧i_11<((x0.length:Nat):Int) then
    Co.l1 K x0 k (wr .i64 (n_10+(((nth x0 i_11).length:Nat):Int))) (wr .i64 (i_11+1))
    else none
   else
    some n_10
  else
   some n_10
def Co (K:Nat) (x0:List (List Int)):Option Int :=
 Co.l1 K x0 K ((x0.length:Nat):Int) (0:Int)
abbrev Ai:Type:=Int × Int × Int × Bool × (List Int) × (List Int)
abbrev Fv:Ty:=(.pr (.int .i64) (.pr (.int .i64) (.pr (.int .i64) (.pr .bool (.pr (.sl (.int .i64)) (.sl (.int .i64)))))))
abbrev Ai.Kind (x:Ai):Int:=x.1
abbrev Ai.A (x:Ai):Int:=x.2.1
abbrev Ai.At (x:Ai):Int:=x.2.2.1
abbrev Ai.Move (x:Ai):Bool:=x.2.2.2.1
abbrev Ai.List_ (x:Ai):List Int:=x.2.2.2.2.1
abbrev Ai.Out (x:Ai):List Int:=x.2.2.2.2.2
abbrev Fe.sg:Sig:=⟨[(.agg,Fv)],[],[(.one,(.int .i64))],[]⟩
def Fe (K:Nat) (x0:Ai):Option Int :=
 some (wr .i64 (((x0.List_.length:Nat):Int)+((x0.Out.length:Nat):Int)))
abbrev Cu:Type:=ByteArray × Int
abbrev Fy:Ty:=(.pr .str (.int .i64))
abbrev Cu.Data (x:Cu):ByteArray:=x.1
abbrev Cu.N (x:Cu):Int:=x.2
abbrev Ao:Type:=Int × Int × Int × Cu × Int × Bool × Bool
abbrev Bw:Ty:=(.pr (.int .i64) (.pr (.int .i64) (.pr (.int .i64) (.pr Fy (.pr (.int .i64) (.pr .bool .bool))))))
abbrev Ao.ID (x:Ao):Int:=x.1
abbrev Ao.Parent (x:Ao):Int:=x.2.1
abbrev Ao.Base (x:Ao):Int:=x.2.2.1
abbrev Ao.Data (x:Ao):Cu:=x.2.2.2.1
abbrev Ao.At (x:Ao):Int:=x.2.2.2.2.1
abbrev Ao.Tag (x:Ao):Bool:=x.2.2.2.2.2.1
abbrev Ao.Gone (x:Ao):Bool:=x.2.2.2.2.2.2
abbrev Ac:Type:=Int × (List (List Int))
abbrev Di:Ty:=(.pr (.int .i64) (.sl (.sl (.int .i64))))
abbrev Ac.N (x:Ac):Int:=x.1
abbrev Ac.Out (x:Ac):List (List Int):=x.2
abbrev A9:Type:=Bool × Int × Bool × Int × Ac × Ai
abbrev Ce:Ty:=(.pr .bool (.pr (.int .i64) (.pr .bool (.pr (.int .i64) (.pr Di Fv)))))
abbrev A9.Open (x:A9):Bool:=x.1
abbrev A9.Pin (x:A9):Int:=x.2.1
abbrev A9.On (x:A9):Bool:=x.2.2.1
abbrev A9.From (x:A9):Int:=x.2.2.2.1
abbrev A9.Stage (x:A9):Ac:=x.2.2.2.2.1
abbrev A9.Job (x:A9):Ai:=x.2.2.2.2.2
abbrev Ag:Type:=Int × Int × (List Ao) × (List A9)
abbrev Cy:Ty:=(.pr (.int .i64) (.pr (.int .i64) (.pr (.sl Bw) (.sl Ce))))
abbrev Ag.Keep (x:Ag):Int:=x.1
abbrev Ag.Blocks (x:Ag):Int:=x.2.1
abbrev Ag.Versions (x:Ag):List Ao:=x.2.2.1
abbrev Ag.Sessions (x:Ag):List A9:=x.2.2.2
abbrev Aw.sg:Sig:=⟨[(.agg,Cy)],[],[(.one,(.int .i64))],[]⟩
def Aw.l2 (K:Nat) (x0:Ag):Nat→Int→Int→Option Int
 | 0,_,_=>none
 | k+1,t_13,t_12 =>
  if decide (t_12<((x0.Sessions.length:Nat):Int)) then
   if decide (t_13<1048576) then
    if (0:Int)≤t_12∧t_12<((x0.Sessions.length:Nat):Int) then
    (Co K (((nth x0.Sessions t_12).Stage).Out)).bind fun r54 =>
    if (0:Int)≤t_12∧t_12<((x0.Sessions.length:Nat):Int) then
    (Fe K ((nth x0.Sessions t_12).Job)).bind fun r62 =>
    Aw.l2 K x0 k (wr .i64 ((wr .i64 (t_13+r54))+r62)) (wr .i64 (t_12+1))
    else none
    else none
   else
    some t_13
  else
   some t_13
def Aw.l1 (K:Nat) (x0:Ag):Nat→Int→Int→Option Int
 | 0,_,_=>none
 | k+1,t_10,t_11 =>
  if decide (t_11<((x0.Versions.length:Nat):Int)) then
   if decide (t_10<1048576) then
    if (0:Int)≤t_11∧t_11<((x0.Versions.length:Nat):Int) then
    if (4:Int)≠0 then
    Aw.l1 K x0 k (wr .i64 (t_10+(wr .i64 ((((((nth x0.Versions t_11).Data).Data).size:Nat):Int).tdiv 4)))) (wr .i64 (t_11+1))
    else none
    else none
   else
    Aw.l2 K x0 K t_10 (0:Int)
  else
   Aw.l2 K x0 K t_10 (0:Int)
def Aw (K:Nat) (x0:Ag):Option Int :=
 Aw.l1 K x0 K (wr .i64 (((x0.Versions.length:Nat):Int)+((x0.Sessions.length:Nat):Int))) (0:Int)
abbrev Am:Type:=Int × Int × Cu
abbrev Da:Ty:=(.pr (.int .i64) (.pr (.int .i64) Fy))
abbrev Am.ID (x:Am):Int:=x.1
abbrev Am.Base (x:Am):Int:=x.2.1
abbrev Am.Data (x:Am):Cu:=x.2.2
abbrev Bn.sg:Sig:=⟨[(.one,(.sl Da))],[],[(.one,(.int .i64))],[]⟩
def Bn.l1 (K:Nat) (x0:List Am):Nat→Int→Int→Option Int
 | 0,_,_=>none
 | k+1,n_10,i_11 =>
  if decide (i_11<((x0.length:Nat):Int)) then
   if decide (n_10<1048576) then
    if (0:Int)≤i_11∧i_11<((x0.length:Nat):Int) then
    if (4:Int)≠0 then
    Bn.l1 K x0 k (wr .i64 (n_10+(wr .i64 ((((((nth x0 i_11).Data).Data).size:Nat):Int).tdiv 4)))) (wr .i64 (i_11+1))
    else none
    else none
   else
    some n_10
  else
   some n_10
def Bn (K:Nat) (x0:List Am):Option Int :=
 Bn.l1 K x0 K ((x0.length:Nat):Int) (0:Int)
abbrev Bq.sg:Sig:=⟨[(.one,(.sl Di))],[],[(.one,(.int .i64))],[]⟩
def Bq.l1 (K:Nat) (x0:List Ac):Nat→Int→Int→Option Int
 | 0,_,_=>none
 | k+1,n_10,i_11 =>
  if decide (i_11<((x0.length:Nat):Int)) then
   if decide (n_10<1048576) then
    if (0:Int)≤i_11∧i_11<((x0.length:Nat):Int) then
    (Co K ((nth x0 i_11).Out)).bind fun r23 =>
    Bq.l1 K x0 k (wr .i64 (n_10+r23)) (wr .i64 (i_11+1))
    else none
   else
    some n_10
  else
   some n_10
def Bq (K:Nat) (x0:List Ac):Option Int :=
 Bq.l1 K x0 K ((x0.length:Nat):Int) (0:Int)
abbrev Fg:Type:=Int × Int × Int
abbrev Fw:Ty:=(.pr (.int .i64) (.pr (.int .i64) (.int .i64)))
abbrev Fg.Do (x:Fg):Int:=x.1
abbrev Fg.A (x:Fg):Int:=x.2.1
abbrev Fg.B (x:Fg):Int:=x.2.2
abbrev Ef:Type:=(List Ac) × (List Fg)
abbrev Gw:Ty:=(.pr (.sl Di) (.sl Fw))
abbrev Ef.G (x:Ef):List Ac:=x.1
abbrev Ef.A (x:Ef):List Fg:=x.2
abbrev Es.sg:Sig:=⟨[(.agg,Gw)],[],[(.one,.bool)],[]⟩
def Es (K:Nat) (x0:Ef):Option Bool :=
 (Bq K x0.G).bind fun r5 =>
 some (decide ((wr .i64 (r5+((x0.A.length:Nat):Int))) > 1200))
abbrev Em:Type:=(List (List Am)) × Ef × (List Int)
abbrev G6:Ty:=(.pr (.sl (.sl Da)) (.pr Gw (.sl (.int .i64))))
abbrev Em.L (x:Em):List (List Am):=x.1
abbrev Em.G (x:Em):Ef:=x.2.1
abbrev Em.N (x:Em):List Int:=x.2.2
abbrev Bz.sg:Sig:=⟨[(.agg,G6)],[],[(.one,.bool)],[]⟩
def Bz.l1 (K:Nat) (x0:Em):Nat→Int→Int→Option Bool
 | 0,_,_=>none
 | k+1,n_10,i_11 =>
  if decide (i_11<((x0.L.length:Nat):Int)) then
   if decide (n_10<1048576) then
    if (0:Int)≤i_11∧i_11<((x0.L.length:Nat):Int) then
    (Bn K (nth x0.L i_11)).bind fun r29 =>
    Bz.l1 K x0 k (wr .i64 (n_10+r29)) (wr .i64 (i_11+1))
    else none
   else
    if decide (n_10 > 700) then
     some true
    else
     (Es K x0.G).bind fun r36 =>
     some r36
  else
   if decide (n_10 > 700) then
    some true
   else
    (Es K x0.G).bind fun r36 =>
    some r36
def Bz (K:Nat) (x0:Em):Option Bool :=
 Bz.l1 K x0 K (wr .i64 (((x0.N.length:Nat):Int)+((x0.L.length:Nat):Int))) (0:Int)
abbrev Dr:Type:=(List Ag) × Em
abbrev Gz:Ty:=(.pr (.sl Cy) G6)
abbrev Dr.S (x:Dr):List Ag:=x.1
abbrev Dr.O (x:Dr):Em:=x.2
abbrev Cv.sg:Sig:=⟨[(.agg,Gz)],[],[(.one,.bool)],[]⟩
def Cv.l1 (K:Nat) (x0:Dr):Nat→Int→Int→Option Bool
 | 0,_,_=>none
 | k+1,n_10,i_11 =>
  if decide (i_11<((x0.S.length:Nat):Int)) then
   if decide (n_10<1048576) then
    if (0:Int)≤i_11∧i_11<((x0.S.length:Nat):Int) then
    (Aw K (nth x0.S i_11)).bind fun r25 =>
    Cv.l1 K x0 k (wr .i64 (n_10+r25)) (wr .i64 (i_11+1))
    else none
   else
    if decide (n_10 > 1500) then
     some true
    else
     (Bz K x0.O).bind fun r32 =>
     some r32
  else
   if decide (n_10 > 1500) then
    some true
   else
    (Bz K x0.O).bind fun r32 =>
    some r32
def Cv (K:Nat) (x0:Dr):Option Bool :=
 Cv.l1 K x0 K ((x0.S.length:Nat):Int) (0:Int)
abbrev Bo.sg:Sig:=⟨[(.one,(.int .i64)),(.one,(.int .i64)),(.one,(.int .i64))],[],[(.one,.bool)],[]⟩
def Bo (K:Nat) (x0:Int) (x1:Int) (x2:Int):Option Bool :=
 if decide (x0≥x1) then
  some (decide (x0≤x2))
 else
  some false
abbrev Br.sg:Sig:=⟨[(.agg,Cy)],[],[(.one,(.sl Da))],[.o]⟩
def Br.l1 (K:Nat) (x0:Ag):Nat→Int→(List Am)→Option (List Am)
 | 0,_,_=>none
 | k+1,i_10,l_11 =>
  if decide (i_10<((x0.Versions.length:Nat):Int)) then
   if (0:Int)≤i_10∧i_10<((x0.Versions.length:Nat):Int) then
   if (l_11.length+([(((nth x0.Versions i_10).ID,(nth x0.Versions i_10).Base,((nth x0.Versions i_10).Data)):Am)]:List Am).length)*40≤140737488355328 then
   Br.l1 K x0 k (wr .i64 (i_10+1)) (l_11++([(((nth x0.Versions i_10).ID,(nth x0.Versions i_10).Base,((nth x0.Versions i_10).Data)):Am)]:List Am))
   else none
   else none
  else
   some l_11
def Br (K:Nat) (x0:Ag):Option (List Am) :=
 Br.l1 K x0 K (0:Int) ([]:List Am)
abbrev Cs.sg:Sig:=⟨[(.one,(.sl Da)),(.one,(.int .i64))],[],[(.one,(.int .i64))],[]⟩
def Cs.l1 (K:Nat) (x0:List Am) (x1:Int):Nat→Int→Option Int
 | 0,_=>none
 | k+1,i_10 =>
  if decide (i_10<((x0.length:Nat):Int)) then
   if (0:Int)≤i_10∧i_10<((x0.length:Nat):Int) then
   if (((nth x0 i_10).ID) == x1) then
    some i_10
   else
    Cs.l1 K x0 x1 k (wr .i64 (i_10+1))
   else none
  else
   some ((-1):Int)
def Cs (K:Nat) (x0:List Am) (x1:Int):Option Int :=
 Cs.l1 K x0 x1 K (0:Int)
abbrev Cx.sg:Sig:=⟨[(.one,(.int .i64)),(.one,(.int .i64))],[],[(.one,.bool)],[]⟩
def Cx (K:Nat) (x0:Int) (x1:Int):Option Bool :=
 if decide (x0≥0) then
  some (decide (x0≤x1))
 else
  some false
abbrev Et.sg:Sig:=⟨[(.agg,Fy),(.one,(.int .i64))],[],[(.one,(.int .i64))],[]⟩
def Et (K:Nat) (x0:Cu) (x1:Int):Option Int :=
 if (8:Int)≠0 then
 if (0:Int)≤(wr .i64 (x1.tdiv 8))∧(wr .i64 (x1.tdiv 8))<((x0.Data.size:Nat):Int) then
 if (8:Int)≠0 then
 if (0:Int)≤(wr .i64 (7-(x1.tmod 8))) then
 some (ib .and .i64 ((wr .i64 (bt x0.Data (wr .i64 (x1.tdiv 8)))).fdiv (2 ^ min ((wr .i64 (7-(x1.tmod 8)))).toNat 64)) 1)
 else none
 else none
 else none
 else none
abbrev Cj.sg:Sig:=⟨[(.agg,Fy)],[],[(.one,.bool)],[]⟩
def Cj.l1 (K:Nat) (x0:Cu):Nat→Int→Option Bool
 | 0,_=>none
 | k+1,i_10 =>
  if decide (i_10<(wr .i64 (8*((x0.Data.size:Nat):Int)))) then
   (Et K x0 i_10).bind fun r30 =>
   if (r30 != 0) then
    some false
   else
    Cj.l1 K x0 k (wr .i64 (i_10+1))
  else
   some true
def Cj (K:Nat) (x0:Cu):Option Bool :=
 (Cx K x0.N 6000).bind fun r6 =>
 if (!r6) then
  some false
 else
  if (8:Int)≠0 then
  if (((x0.Data.size:Nat):Int) != (wr .i64 ((wr .i64 (x0.N+7)).tdiv 8))) then
   some false
  else
   Cj.l1 K x0 K x0.N
  else none
abbrev Bv.sg:Sig:=⟨[(.one,(.sl Da))],[],[(.one,.bool)],[]⟩
def Bv.l1 (K:Nat) (x0:List Am):Nat→Int→Option Bool
 | 0,_=>none
 | k+1,i_10 =>
  if decide (i_10<((x0.length:Nat):Int)) then
   if (0:Int)≤i_10∧i_10<((x0.length:Nat):Int) then
   (Bo K ((nth x0 i_10).ID) 1 1048576).bind fun r20 =>
   if (!r20) then
    some false
   else
    if decide (i_10 > 0) then
     if (0:Int)≤(wr .i64 (i_10-1))∧(wr .i64 (i_10-1))<((x0.length:Nat):Int) then
     if decide (((nth x0 (wr .i64 (i_10-1))).ID)≥((nth x0 i_10).ID)) then
      some false
     else
      if (((nth x0 i_10).Base) == ((nth x0 i_10).ID)) then
       some false
      else
       if (((nth x0 i_10).Base) != 0) then
        (Cs K x0 ((nth x0 i_10).Base)).bind fun r52 =>
        if decide (r52<0) then
         some false
        else
         (Cj K ((nth x0 i_10).Data)).bind fun r59 =>
         if (!r59) then
          some false
         else
          Bv.l1 K x0 k (wr .i64 (i_10+1))
       else
        (Cj K ((nth x0 i_10).Data)).bind fun r59 =>
        if (!r59) then
         some false
        else
         Bv.l1 K x0 k (wr .i64 (i_10+1))
     else none
    else
     if (((nth x0 i_10).Base) == ((nth x0 i_10).ID)) then
      some false
     else
      if (((nth x0 i_10).Base) != 0) then
       (Cs K x0 ((nth x0 i_10).Base)).bind fun r52 =>
       if decide (r52<0) then
        some false
       else
        (Cj K ((nth x0 i_10).Data)).bind fun r59 =>
        if (!r59) then
         some false
        else
         Bv.l1 K x0 k (wr .i64 (i_10+1))
      else
       (Cj K ((nth x0 i_10).Data)).bind fun r59 =>
       if (!r59) then
        some false
       else
        Bv.l1 K x0 k (wr .i64 (i_10+1))
   else none
  else
   some true
def Bv (K:Nat) (x0:List Am):Option Bool :=
 if decide (((x0.length:Nat):Int) > 12) then
  some false
 else
  Bv.l1 K x0 K (0:Int)
abbrev Ew.sg:Sig:=⟨[(.agg,Fy)],[],[(.one,(.int .i64))],[]⟩
def Ew (K:Nat) (x0:Cu):Option Int :=
 if (60:Int)≠0 then
 some (wr .i64 ((wr .i64 ((wr .i64 ((wr .i64 (4+((x0.Data.size:Nat):Int)))+60))-1)).tdiv 60))
 else none
abbrev Ah:Type:=Int × Int
abbrev Du:Ty:=(.pr (.int .i64) (.int .i64))
abbrev Ah.At (x:Ah):Int:=x.1
abbrev Ah.Len (x:Ah):Int:=x.2
abbrev Cq.sg:Sig:=⟨[(.agg,Cy)],[],[(.one,(.sl Du))],[.o]⟩
def Cq.l1 (K:Nat) (x0:Ag):Nat→Int→(List Ah)→Option (List Ah)
 | 0,_,_=>none
 | k+1,i_10,l_11 =>
  if decide (i_10<((x0.Versions.length:Nat):Int)) then
   if (0:Int)≤i_10∧i_10<((x0.Versions.length:Nat):Int) then
   if (0:Int)≤i_10∧i_10<((x0.Versions.length:Nat):Int) then
   (Ew K ((nth x0.Versions i_10).Data)).bind fun r25 =>
   if (l_11.length+([(((nth x0.Versions i_10).At,r25):Ah)]:List Ah).length)*16≤140737488355328 then
   Cq.l1 K x0 k (wr .i64 (i_10+1)) (l_11++([(((nth x0.Versions i_10).At,r25):Ah)]:List Ah))
   else none
   else none
   else none
  else
   some l_11
def Cq (K:Nat) (x0:Ag):Option (List Ah) :=
 Cq.l1 K x0 K (0:Int) ([]:List Ah)
abbrev A8.sg:Sig:=⟨[(.one,(.sl Du)),(.one,(.int .i64))],[],[(.one,.bool)],[]⟩
def A8.l2 (K:Nat) (go_l1:Int→Option Bool) (t_10:Int) (x0:List Ah) (x1:Int):Nat→Int→Option Bool
 | 0,_=>none
 | k+1,t_11 =>
  if decide (t_11<t_10) then
   if (0:Int)≤t_10∧t_10<((x0.length:Nat):Int) then
   if (0:Int)≤t_11∧t_11<((x0.length:Nat):Int) then
   if (0:Int)≤t_11∧t_11<((x0.length:Nat):Int) then
   if decide (((nth x0 t_10).At)<(wr .i64 (((nth x0 t_11).At)+((nth x0 t_11).Len)))) then
    if (0:Int)≤t_11∧t_11<((x0.length:Nat):Int) then
    if (0:Int)≤t_10∧t_10<((x0.length:Nat):Int) then
    if (0:Int)≤t_10∧t_10<((x0.length:Nat):Int) then
    if decide (((nth x0 t_11).At)<(wr .i64 (((nth x0 t_10).At)+((nth x0 t_10).Len)))) then
     some false
    else
     A8.l2 K go_l1 t_10 x0 x1 k (wr .i64 (t_11+1))
    else none
    else none
    else none
   else
    A8.l2 K go_l1 t_10 x0 x1 k (wr .i64 (t_11+1))
   else none
   else none
   else none
  else
   go_l1 (wr .i64 (t_10+1))
def A8.l1 (K:Nat) (x0:List Ah) (x1:Int):Nat→Int→Option Bool
 | 0,_=>none
 | k+1,t_10 =>
  if decide (t_10<((x0.length:Nat):Int)) then
   if (0:Int)≤t_10∧t_10<((x0.length:Nat):Int) then
   if decide (((nth x0 t_10).At)<0) then
    some false
   else
    if (0:Int)≤t_10∧t_10<((x0.length:Nat):Int) then
    if decide (((nth x0 t_10).Len)<1) then
     some false
    else
     if (0:Int)≤t_10∧t_10<((x0.length:Nat):Int) then
     if decide (((nth x0 t_10).At) > x1) then
      some false
     else
      if (0:Int)≤t_10∧t_10<((x0.length:Nat):Int) then
      if (0:Int)≤t_10∧t_10<((x0.length:Nat):Int) then
      if decide (((nth x0 t_10).Len) > (wr .i64 (x1-((nth x0 t_10).At)))) then
       some false
      else
       A8.l2 K (A8.l1 K x0 x1 k) t_10 x0 x1 K (0:Int)
      else none
      else none
     else none
    else none
   else none
  else
   some true
def A8 (K:Nat) (x0:List Ah) (x1:Int):Option Bool :=
 (Bo K x1 1 100).bind fun r8 =>
 if (!r8) then
  some false
 else
  if decide (((x0.length:Nat):Int) > 13) then
   some false
  else
   A8.l1 K x0 x1 K (0:Int)
abbrev C8.sg:Sig:=⟨[(.one,(.sl Da)),(.one,(.int .i64))],[],[(.one,(.int .i64)),(.one,(.int .i64))],[]⟩
def C8.l1 (K:Nat) (x0:List Am):Nat→Int→Int→Option (Int × Int)
 | 0,_,_=>none
 | k+1,id_11,n_10 =>
  if (id_11 != 0) then
   if decide ((wr .i64 (n_10+1)) > 3) then
    some (0,2)
   else
    (Cs K x0 id_11).bind fun r20 =>
    if (0:Int)≤r20∧r20<((x0.length:Nat):Int) then
    C8.l1 K x0 k ((nth x0 r20).Base) (wr .i64 (n_10+1))
    else none
  else
   some (n_10,0)
def C8 (K:Nat) (x0:List Am) (x1:Int):Option (Int × Int) :=
 (Cs K x0 x1).bind fun r9 =>
 if decide (r9<0) then
  some (0,3)
 else
  C8.l1 K x0 K x1 (0:Int)
abbrev Dk.sg:Sig:=⟨[(.agg,Fy)],[],[(.one,(.sl (.int .u8)))],[.o]⟩
def Dk.l1 (K:Nat) (x0:Cu):Nat→Int→(List Int)→Option (List Int)
 | 0,_,_=>none
 | k+1,i_10,l_11 =>
  if decide (i_10<x0.N) then
   (Et K x0 i_10).bind fun r14 =>
   if (l_11.length+([wr .u8 r14]:List Int).length)*1≤140737488355328 then
   Dk.l1 K x0 k (wr .i64 (i_10+1)) (l_11++([wr .u8 r14]:List Int))
   else none
  else
   some l_11
def Dk (K:Nat) (x0:Cu):Option (List Int) :=
 Dk.l1 K x0 K (0:Int) ([]:List Int)
abbrev Bi.sg:Sig:=⟨[(.one,(.sl (.int .u8))),(.one,(.int .i64))],[],[(.one,(.int .i64))],[]⟩
def Bi.l1 (K:Nat) (x0:List Int) (x1:Int):Nat→Int→Option Int
 | 0,_=>none
 | k+1,i_10 =>
  if decide (i_10<((x0.length:Nat):Int)) then
   if (0:Int)≤i_10∧i_10<((x0.length:Nat):Int) then
   if ((nth x0 i_10) == 1) then
    some (wr .i64 (i_10-x1))
   else
    Bi.l1 K x0 x1 k (wr .i64 (i_10+1))
   else none
  else
   some ((-1):Int)
def Bi (K:Nat) (x0:List Int) (x1:Int):Option Int :=
 Bi.l1 K x0 x1 K x1
abbrev Bp.sg:Sig:=⟨[(.one,(.sl (.int .u8))),(.one,(.int .i64)),(.one,(.int .i64))],[],[(.one,(.int .i64))],[]⟩
def Bp.l1 (K:Nat) (x0:List Int) (x1:Int) (x2:Int):Nat→Int→Int→Option Int
 | 0,_,_=>none
 | k+1,v_10,i_11 =>
  if decide (i_11<(wr .i64 (x1+x2))) then
   if (0:Int)≤i_11∧i_11<((x0.length:Nat):Int) then
   Bp.l1 K x0 x1 x2 k (wr .i64 ((wr .i64 (2*v_10))+(wr .i64 (nth x0 i_11)))) (wr .i64 (i_11+1))
   else none
  else
   some v_10
def Bp (K:Nat) (x0:List Int) (x1:Int) (x2:Int):Option Int :=
 Bp.l1 K x0 x1 x2 K (0:Int) x1
abbrev Cf.sg:Sig:=⟨[(.one,(.int .i64))],[],[(.one,(.int .i64))],[]⟩
def Cf.l1 (K:Nat):Nat→Int→Int→Option Int
 | 0,_,_=>none
 | k+1,n_11,k_10 =>
  if decide (n_11 > 1) then
   if (0:Int)≤1 then
   Cf.l1 K k (n_11.fdiv (2 ^ min ((1:Int)).toNat 64)) (wr .i64 (k_10+1))
   else none
  else
   some k_10
def Cf (K:Nat) (x0:Int):Option Int :=
 Cf.l1 K K x0 (0:Int)
abbrev E8.sg:Sig:=⟨[(.one,(.int .i64)),(.one,(.int .i64))],[],[(.one,.bool)],[]⟩
def E8 (K:Nat) (x0:Int) (x1:Int):Option Bool :=
 if (x0 == 1) then
  (Bo K x1 1 1000).bind fun r8 =>
  some r8
 else
  (Bo K x0 2 5).bind fun r10 =>
  if r10 then
   (Bo K x1 1 1073741824).bind fun r13 =>
   some r13
  else
   some false
abbrev Aa.sg:Sig:=⟨[(.one,(.sl (.int .u8))),(.one,(.int .i64)),(.one,(.int .i64))],[],[(.one,(.int .i64)),(.one,(.int .i64))],[]⟩
def Aa.j1 (K:Nat) (rec_:(List Int)→Int→Int→Option (Int × Int)) (x2:Int) (t_14:Int) (t_15:Int):Option (Int × Int) :=
 (E8 K x2 t_14).bind fun r161 =>
 if (!r161) then
  some ((-1),0)
 else
  some (t_14,t_15)
def Aa.j3 (K:Nat) (rec_:(List Int)→Int→Int→Option (Int × Int)) (r19:Int) (t_11:Int) (x2:Int) (t_12:Int) (t_13:Int):Option (Int × Int) :=
 if (0:Int)≤(wr .i64 (r19*t_11)) then
 Aa.j1 K rec_ x2 (wr .i64 ((wr .i64 ((1:Int)*2 ^ min ((wr .i64 (r19*t_11))).toNat 64))+t_13)) t_12
 else none
def Aa.j2 (K:Nat) (rec_:(List Int)→Int→Int→Option (Int × Int)) (r19:Int) (x0:List Int) (x2:Int) (t_10:Int) (t_11:Int):Option (Int × Int) :=
 if decide (r19 > 15) then
  some ((-1),0)
 else
  if (0:Int)≤(wr .i64 ((wr .i64 (r19+1))*t_11)) then
  if (0:Int)≤(wr .i64 (r19*t_11)) then
  (Cf K (wr .i64 ((wr .i64 ((wr .i64 ((1:Int)*2 ^ min ((wr .i64 ((wr .i64 (r19+1))*t_11))).toNat 64))-(wr .i64 ((1:Int)*2 ^ min ((wr .i64 (r19*t_11))).toNat 64))))-1))).bind fun r43 =>
  if decide ((wr .i64 ((wr .i64 (t_10+(wr .i64 (r43+1))))-1)) > ((x0.length:Nat):Int)) then
   some ((-1),0)
  else
   (Bp K x0 t_10 (wr .i64 ((wr .i64 (r43+1))-1))).bind fun r56 =>
   if (0:Int)≤(wr .i64 (r43+1)) then
   if decide (r56≥(wr .i64 ((wr .i64 ((1:Int)*2 ^ min ((wr .i64 (r43+1))).toNat 64))-(wr .i64 ((wr .i64 ((1:Int)*2 ^ min ((wr .i64 ((wr .i64 (r19+1))*t_11))).toNat 64))-(wr .i64 ((1:Int)*2 ^ min ((wr .i64 (r19*t_11))).toNat 64))))))) then
    if decide ((wr .i64 ((wr .i64 ((wr .i64 (t_10+(wr .i64 (r43+1))))-1))+1)) > ((x0.length:Nat):Int)) then
     some ((-1),0)
    else
     if (0:Int)≤(wr .i64 ((wr .i64 (t_10+(wr .i64 (r43+1))))-1))∧(wr .i64 ((wr .i64 (t_10+(wr .i64 (r43+1))))-1))<((x0.length:Nat):Int) then
     if (0:Int)≤(wr .i64 (r43+1)) then
     Aa.j3 K rec_ r19 t_11 x2 (wr .i64 ((wr .i64 ((wr .i64 (t_10+(wr .i64 (r43+1))))-1))+1)) (wr .i64 ((wr .i64 ((wr .i64 (2*r56))+(wr .i64 (nth x0 (wr .i64 ((wr .i64 (t_10+(wr .i64 (r43+1))))-1))))))-(wr .i64 ((wr .i64 ((1:Int)*2 ^ min ((wr .i64 (r43+1))).toNat 64))-(wr .i64 ((wr .i64 ((1:Int)*2 ^ min ((wr .i64 ((wr .i64 (r19+1))*t_11))).toNat 64))-(wr .i64 ((1:Int)*2 ^ min ((wr .i64 (r19*t_11))).toNat 64))))))))
     else none
     else none
   else
    Aa.j3 K rec_ r19 t_11 x2 (wr .i64 ((wr .i64 (t_10+(wr .i64 (r43+1))))-1)) r56
   else none
  else none
  else none
def Aa:Nat→(List Int)→Int→Int→Option (Int × Int)
 | 0,_,_,_=>none
 | K+1,x0,x1,x2 =>
  (Bi K x0 x1).bind fun r19 =>
  if decide (r19<0) then
   some ((-1),0)
  else
   if (x2 == 1) then
    Aa.j1 K (Aa K) x2 (wr .i64 (r19+1)) (wr .i64 ((wr .i64 (x1+r19))+1))
   else
    if (x2 == 2) then
     if decide (r19 > 30) then
      some ((-1),0)
     else
      if decide ((wr .i64 ((wr .i64 (x1+(wr .i64 (2*r19))))+1)) > ((x0.length:Nat):Int)) then
       some ((-1),0)
      else
       (Bp K x0 (wr .i64 (x1+r19)) (wr .i64 (r19+1))).bind fun r117 =>
       Aa.j1 K (Aa K) x2 r117 (wr .i64 ((wr .i64 (x1+(wr .i64 (2*r19))))+1))
    else
     if (x2 == 3) then
      ((Aa K) x0 x1 2).bind fun r128 =>
      if decide (r128.1<1) then
       some ((-1),0)
      else
       if decide (r128.1 > 31) then
        some ((-1),0)
       else
        if decide ((wr .i64 ((wr .i64 (r128.2+r128.1))-1)) > ((x0.length:Nat):Int)) then
         some ((-1),0)
        else
         if (0:Int)≤(wr .i64 (r128.1-1)) then
         (Bp K x0 r128.2 (wr .i64 (r128.1-1))).bind fun r153 =>
         Aa.j1 K (Aa K) x2 (wr .i64 ((wr .i64 ((1:Int)*2 ^ min ((wr .i64 (r128.1-1))).toNat 64))+r153)) (wr .i64 ((wr .i64 (r128.2+r128.1))-1))
         else none
     else
      if (x2 == 5) then
       Aa.j2 K (Aa K) r19 x0 x2 (wr .i64 ((wr .i64 (x1+r19))+1)) (3:Int)
      else
       Aa.j2 K (Aa K) r19 x0 x2 (wr .i64 ((wr .i64 (x1+r19))+1)) (2:Int)
abbrev Ec.sg:Sig:=⟨[(.one,(.int .i64))],[],[(.agg,Di)],[.s,.o]⟩
def Ec (K:Nat) (x0:Int):Option Ac :=
 if x0=x0∧(0:Int)≤x0∧(24:Int)*x0≤281474976710656∧x0≤9223372036854775807 then
 some ((x0,List.replicate x0.toNat ([]:List Int)):Ac)
 else none
abbrev Ed.sg:Sig:=⟨[(.one,(.int .i64))],[],[(.one,(.int .i64))],[]⟩
def Ed (K:Nat) (x0:Int):Option Int :=
 if (2:Int)≠0 then
 if ((x0.tmod 2) == 0) then
  if (2:Int)≠0 then
  some (wr .i64 (x0.tdiv 2))
  else none
 else
  if (2:Int)≠0 then
  some (wr .i64 ((wr .i64 (0-(wr .i64 (x0+1)))).tdiv 2))
  else none
 else none
abbrev Eg.sg:Sig:=⟨[(.one,(.int .i64))],[],[(.one,.bool)],[]⟩
def Eg (K:Nat) (x0:Int):Option Bool :=
 (Cx K x0 15).bind fun r4 =>
 some r4
abbrev Ci.sg:Sig:=⟨[(.one,(.sl (.int .i64)))],[],[(.one,.bool)],[]⟩
def Ci.l1 (K:Nat) (x0:List Int):Nat→Int→Option Bool
 | 0,_=>none
 | k+1,i_10 =>
  if decide (i_10<((x0.length:Nat):Int)) then
   if decide (i_10≤16) then
    if (0:Int)≤i_10∧i_10<((x0.length:Nat):Int) then
    (Eg K (nth x0 i_10)).bind fun r18 =>
    if (!r18) then
     some false
    else
     if decide (i_10 > 0) then
      if (0:Int)≤(wr .i64 (i_10-1))∧(wr .i64 (i_10-1))<((x0.length:Nat):Int) then
      if (0:Int)≤i_10∧i_10<((x0.length:Nat):Int) then
      if decide ((nth x0 (wr .i64 (i_10-1)))≥(nth x0 i_10)) then
       some false
      else
       Ci.l1 K x0 k (wr .i64 (i_10+1))
      else none
      else none
     else
      Ci.l1 K x0 k (wr .i64 (i_10+1))
    else none
   else
    some (decide (((x0.length:Nat):Int)≤16))
  else
   some (decide (((x0.length:Nat):Int)≤16))
def Ci (K:Nat) (x0:List Int):Option Bool :=
 Ci.l1 K x0 K (0:Int)
abbrev Ca.sg:Sig:=⟨[(.one,(.sl (.int .u8))),(.one,(.int .i64)),(.one,(.int .i64))],[],[(.one,(.sl (.int .i64))),(.one,(.int .i64)),(.one,.bool)],[.o]⟩
def Ca.l1 (K:Nat) (r18:Int × Int) (x0:List Int) (x2:Int):Nat→Int→Int→Int→(List Int)→Option ((List Int) × Int × Bool)
 | 0,_,_,_,_=>none
 | k+1,at_12,last_10,i_11,l_13 =>
  if decide (i_11<(wr .i64 (r18.1-1))) then
   (Aa K x0 at_12 2).bind fun r37 =>
   if decide (r37.1<1) then
    some (([]:List Int),0,false)
   else
    if (i_11 == 0) then
     (Ed K (wr .i64 (r37.1-1))).bind fun r48 =>
     if (l_13.length+([wr .i64 (x2+r48)]:List Int).length)*8≤140737488355328 then
     Ca.l1 K r18 x0 x2 k r37.2 (wr .i64 (x2+r48)) (wr .i64 (i_11+1)) (l_13++([wr .i64 (x2+r48)]:List Int))
     else none
    else
     if (l_13.length+([wr .i64 (last_10+r37.1)]:List Int).length)*8≤140737488355328 then
     Ca.l1 K r18 x0 x2 k r37.2 (wr .i64 (last_10+r37.1)) (wr .i64 (i_11+1)) (l_13++([wr .i64 (last_10+r37.1)]:List Int))
     else none
  else
   (Ci K l_13).bind fun r58 =>
   if (!r58) then
    some (([]:List Int),0,false)
   else
    some (l_13,at_12,true)
def Ca (K:Nat) (x0:List Int) (x1:Int) (x2:Int):Option ((List Int) × Int × Bool) :=
 (Aa K x0 x1 2).bind fun r18 =>
 if decide (r18.1<1) then
  some (([]:List Int),0,false)
 else
  if decide ((wr .i64 (r18.1-1)) > 16) then
   some (([]:List Int),0,false)
  else
   Ca.l1 K r18 x0 x2 K r18.2 (0:Int) (0:Int) ([]:List Int)
abbrev Ak.sg:Sig:=⟨[(.one,(.sl Du)),(.one,(.sl (.int .i64)))],[],[(.one,(.sl (.int .i64))),(.one,.bool)],[.o]⟩
def Ak.l4 (K:Nat):Nat→Int→(List Bool)→(List Int)→Option ((List Int) × Bool)
 | 0,_,_,_=>none
 | k+1,t_16,t_20,t_19 =>
  if decide (t_16<16) then
   if ((0:Int)≤t_16∧t_16<((t_20.length:Nat):Int))∧t_20.length=16 then
   if nth t_20 t_16 then
    if (t_19.length+([t_16]:List Int).length)*8≤140737488355328 then
    Ak.l4 K k (wr .i64 (t_16+1)) t_20 (t_19++([t_16]:List Int))
    else none
   else
    Ak.l4 K k (wr .i64 (t_16+1)) t_20 t_19
   else none
  else
   some (t_19,true)
def Ak.l3 (K:Nat) (x1:List Int):Nat→Int→(List Bool)→Option ((List Int) × Bool)
 | 0,_,_=>none
 | k+1,t_15,t_18 =>
  if decide (t_15<((x1.length:Nat):Int)) then
   if (0:Int)≤t_15∧t_15<((x1.length:Nat):Int) then
   if ((0:Int)≤(nth x1 t_15)∧(nth x1 t_15)<((t_18.length:Nat):Int))∧t_18.length=16 then
   if nth t_18 (nth x1 t_15) then
    some (([]:List Int),false)
   else
    if (0:Int)≤t_15∧t_15<((x1.length:Nat):Int) then
    if ((0:Int)≤(nth x1 t_15)∧(nth x1 t_15)<((t_18.length:Nat):Int))∧t_18.length=16 then
    Ak.l3 K x1 k (wr .i64 (t_15+1)) ((t_18).set (nth x1 t_15).toNat true)
    else none
    else none
   else none
   else none
  else
   Ak.l4 K K (0:Int) t_18 ([]:List Int)
def Ak.l2 (K:Nat) (go_l1:Int→(List Bool)→Option ((List Int) × Bool)) (t_11:Int) (x0:List Ah) (x1:List Int):Nat→Int→(List Bool)→Int→Int→Option ((List Int) × Bool)
 | 0,_,_,_,_=>none
 | k+1,t_14,t_17,t_12,t_13 =>
  if decide (t_14<t_13) then
   if ((0:Int)≤(wr .i64 (t_12+t_14))∧(wr .i64 (t_12+t_14))<((t_17.length:Nat):Int))∧t_17.length=16 then
   Ak.l2 K go_l1 t_11 x0 x1 k (wr .i64 (t_14+1)) ((t_17).set (wr .i64 (t_12+t_14)).toNat true) t_12 t_13
   else none
  else
   go_l1 (wr .i64 (t_11+1)) t_17
def Ak.l1 (K:Nat) (x0:List Ah) (x1:List Int):Nat→Int→(List Bool)→Option ((List Int) × Bool)
 | 0,_,_=>none
 | k+1,t_11,t_10 =>
  if decide (t_11<((x0.length:Nat):Int)) then
   if (0:Int)≤t_11∧t_11<((x0.length:Nat):Int) then
   (Eg K ((nth x0 t_11).At)).bind fun r28 =>
   if (!r28) then
    some (([]:List Int),false)
   else
    if decide (((nth x0 t_11).Len)<3) then
     some (([]:List Int),false)
    else
     if decide (((nth x0 t_11).Len) > (wr .i64 (16-((nth x0 t_11).At)))) then
      some (([]:List Int),false)
     else
      if decide (t_11 > 0) then
       if (0:Int)≤(wr .i64 (t_11-1))∧(wr .i64 (t_11-1))<((x0.length:Nat):Int) then
       if (0:Int)≤(wr .i64 (t_11-1))∧(wr .i64 (t_11-1))<((x0.length:Nat):Int) then
       if decide (((nth x0 t_11).At)≤(wr .i64 (((nth x0 (wr .i64 (t_11-1))).At)+((nth x0 (wr .i64 (t_11-1))).Len)))) then
        some (([]:List Int),false)
       else
        Ak.l2 K (Ak.l1 K x0 x1 k) t_11 x0 x1 K (0:Int) t_10 ((nth x0 t_11).At) ((nth x0 t_11).Len)
       else none
       else none
      else
       Ak.l2 K (Ak.l1 K x0 x1 k) t_11 x0 x1 K (0:Int) t_10 ((nth x0 t_11).At) ((nth x0 t_11).Len)
   else none
  else
   Ak.l3 K x1 K (0:Int) t_10
def Ak (K:Nat) (x0:List Ah) (x1:List Int):Option ((List Int) × Bool) :=
 (Ci K x1).bind fun r14 =>
 if (!r14) then
  some (([]:List Int),false)
 else
  Ak.l1 K x0 x1 K (0:Int) (List.replicate 16 false)
abbrev Ba.sg:Sig:=⟨[(.one,(.sl (.int .i64)))],[],[(.one,(.sl Du)),(.one,(.sl (.int .i64)))],[.o,.o]⟩
def Ba.l2 (K:Nat) (go_l1:Int→(List Ah)→(List Int)→Option ((List Ah) × (List Int))) (i_10:Int) (x0:List Int):Nat→Int→(List Ah)→(List Int)→Option ((List Ah) × (List Int))
 | 0,_,_,_=>none
 | k+1,k_11,r_14,rest_15 =>
  if decide (k_11<((x0.length:Nat):Int)) then
   if (0:Int)≤k_11∧k_11<((x0.length:Nat):Int) then
   if (0:Int)≤(wr .i64 (k_11-1))∧(wr .i64 (k_11-1))<((x0.length:Nat):Int) then
   if ((nth x0 k_11) == (wr .i64 ((nth x0 (wr .i64 (k_11-1)))+1))) then
    Ba.l2 K go_l1 i_10 x0 k (wr .i64 (k_11+1)) r_14 rest_15
   else
    if decide ((wr .i64 (k_11-i_10))≥3) then
     if (0:Int)≤i_10∧i_10<((x0.length:Nat):Int) then
     if (r_14.length+([((nth x0 i_10,wr .i64 (k_11-i_10)):Ah)]:List Ah).length)*16≤140737488355328 then
     go_l1 k_11 (r_14++([((nth x0 i_10,wr .i64 (k_11-i_10)):Ah)]:List Ah)) rest_15
     else none
     else none
    else
     if (0:Int)≤i_10∧i_10≤k_11∧k_11≤((x0.length:Nat):Int) then
     if (rest_15.length+(((x0).drop i_10.toNat).take (k_11.toNat-i_10.toNat)).length)*8≤140737488355328 then
     go_l1 k_11 r_14 (rest_15++(((x0).drop i_10.toNat).take (k_11.toNat-i_10.toNat)))
     else none
     else none
   else none
   else none
  else
   if decide ((wr .i64 (k_11-i_10))≥3) then
    if (0:Int)≤i_10∧i_10<((x0.length:Nat):Int) then
    if (r_14.length+([((nth x0 i_10,wr .i64 (k_11-i_10)):Ah)]:List Ah).length)*16≤140737488355328 then
    go_l1 k_11 (r_14++([((nth x0 i_10,wr .i64 (k_11-i_10)):Ah)]:List Ah)) rest_15
    else none
    else none
   else
    if (0:Int)≤i_10∧i_10≤k_11∧k_11≤((x0.length:Nat):Int) then
    if (rest_15.length+(((x0).drop i_10.toNat).take (k_11.toNat-i_10.toNat)).length)*8≤140737488355328 then
    go_l1 k_11 r_14 (rest_15++(((x0).drop i_10.toNat).take (k_11.toNat-i_10.toNat)))
    else none
    else none
def Ba.l1 (K:Nat) (x0:List Int):Nat→Int→(List Ah)→(List Int)→Option ((List Ah) × (List Int))
 | 0,_,_,_=>none
 | k+1,i_10,r_12,rest_13 =>
  if decide (i_10<((x0.length:Nat):Int)) then
   Ba.l2 K (Ba.l1 K x0 k) i_10 x0 K (wr .i64 (i_10+1)) r_12 rest_13
  else
   some (r_12,rest_13)
def Ba (K:Nat) (x0:List Int):Option ((List Ah) × (List Int)) :=
 Ba.l1 K x0 K (0:Int) ([]:List Ah) ([]:List Int)
abbrev Bc.sg:Sig:=⟨[(.one,(.sl (.int .u8))),(.one,(.int .i64)),(.one,(.int .i64))],[.o],[(.one,(.sl (.int .u8)))],[.o]⟩
def Bc.l1 (K:Nat) (x1:Int):Nat→Int→(List Int)→Option (List Int)
 | 0,_,_=>none
 | k+1,i_10,l_11 =>
  if decide (i_10≥0) then
   if (0:Int)≤i_10 then
   if (l_11.length+([wr .u8 (ib .and .i64 (x1.fdiv (2 ^ min (i_10).toNat 64)) 1)]:List Int).length)*1≤140737488355328 then
   Bc.l1 K x1 k (wr .i64 (i_10-1)) (l_11++([wr .u8 (ib .and .i64 (x1.fdiv (2 ^ min (i_10).toNat 64)) 1)]:List Int))
   else none
   else none
  else
   some l_11
def Bc (K:Nat) (x0:List Int) (x1:Int) (x2:Int):Option (List Int) :=
 Bc.l1 K x1 K (wr .i64 (x2-1)) x0
abbrev Ae.sg:Sig:=⟨[(.one,(.sl (.int .u8))),(.one,(.int .i64)),(.one,(.int .i64))],[.o],[(.one,(.sl (.int .u8)))],[.o]⟩
def Ae.j2 (K:Nat) (rec_:(List Int)→Int→Int→Option (List Int)) (x0:List Int) (x2:Int) (t_11:Int):Option (List Int) :=
 (Cf K x2).bind fun r56 =>
 if t_11≠0 then
 (Bc K x0 0 (wr .i64 (r56.tdiv t_11))).bind fun r61 =>
 (Bc K r61 1 1).bind fun r62 =>
 if (0:Int)≤(wr .i64 ((wr .i64 (r56.tdiv t_11))*t_11)) then
 if (0:Int)≤(wr .i64 ((wr .i64 ((wr .i64 (r56.tdiv t_11))+1))*t_11)) then
 if (0:Int)≤(wr .i64 ((wr .i64 (r56.tdiv t_11))*t_11)) then
 (Cf K (wr .i64 ((wr .i64 ((wr .i64 ((1:Int)*2 ^ min ((wr .i64 ((wr .i64 ((wr .i64 (r56.tdiv t_11))+1))*t_11))).toNat 64))-(wr .i64 ((1:Int)*2 ^ min ((wr .i64 ((wr .i64 (r56.tdiv t_11))*t_11))).toNat 64))))-1))).bind fun r81 =>
 if (0:Int)≤(wr .i64 (r81+1)) then
 if decide ((wr .i64 (x2-(wr .i64 ((1:Int)*2 ^ min ((wr .i64 ((wr .i64 (r56.tdiv t_11))*t_11))).toNat 64))))<(wr .i64 ((wr .i64 ((1:Int)*2 ^ min ((wr .i64 (r81+1))).toNat 64))-(wr .i64 ((wr .i64 ((1:Int)*2 ^ min ((wr .i64 ((wr .i64 ((wr .i64 (r56.tdiv t_11))+1))*t_11))).toNat 64))-(wr .i64 ((1:Int)*2 ^ min ((wr .i64 ((wr .i64 (r56.tdiv t_11))*t_11))).toNat 64))))))) then
  (Bc K r62 (wr .i64 (x2-(wr .i64 ((1:Int)*2 ^ min ((wr .i64 ((wr .i64 (r56.tdiv t_11))*t_11))).toNat 64)))) (wr .i64 ((wr .i64 (r81+1))-1))).bind fun r93 =>
  some r93
 else
  if (0:Int)≤(wr .i64 (r81+1)) then
  (Bc K r62 (wr .i64 ((wr .i64 ((wr .i64 (x2-(wr .i64 ((1:Int)*2 ^ min ((wr .i64 ((wr .i64 (r56.tdiv t_11))*t_11))).toNat 64))))+(wr .i64 ((1:Int)*2 ^ min ((wr .i64 (r81+1))).toNat 64))))-(wr .i64 ((wr .i64 ((1:Int)*2 ^ min ((wr .i64 ((wr .i64 ((wr .i64 (r56.tdiv t_11))+1))*t_11))).toNat 64))-(wr .i64 ((1:Int)*2 ^ min ((wr .i64 ((wr .i64 (r56.tdiv t_11))*t_11))).toNat 64)))))) (wr .i64 (r81+1))).bind fun r102 =>
  some r102
  else none
 else none
 else none
 else none
 else none
 else none
def Ae.l1 (K:Nat) (rec_:(List Int)→Int→Int→Option (List Int)) (x2:Int):Nat→Int→(List Int)→Option (List Int)
 | 0,_,_=>none
 | k+1,t_10,t_12 =>
  if decide (t_10<x2) then
   if (t_12.length+([0]:List Int).length)*1≤140737488355328 then
   Ae.l1 K rec_ x2 k (wr .i64 (t_10+1)) (t_12++([0]:List Int))
   else none
  else
   if (t_12.length+([1]:List Int).length)*1≤140737488355328 then
   some (t_12++([1]:List Int))
   else none
def Ae:Nat→(List Int)→Int→Int→Option (List Int)
 | 0,_,_,_=>none
 | K+1,x0,x1,x2 =>
  if (x1 == 1) then
   Ae.l1 K (Ae K) x2 K (1:Int) x0
  else
   if (x1 == 2) then
    (Cf K x2).bind fun r31 =>
    (Bc K x0 0 r31).bind fun r32 =>
    (Cf K x2).bind fun r35 =>
    (Bc K r32 x2 (wr .i64 (r35+1))).bind fun r37 =>
    some r37
   else
    if (x1 == 3) then
     (Cf K x2).bind fun r42 =>
     ((Ae K) x0 2 (wr .i64 (r42+1))).bind fun r44 =>
     (Cf K x2).bind fun r47 =>
     if (0:Int)≤r47 then
     (Cf K x2).bind fun r51 =>
     (Bc K r44 (wr .i64 (x2-(wr .i64 ((1:Int)*2 ^ min (r47).toNat 64)))) r51).bind fun r52 =>
     some r52
     else none
    else
     if (x1 == 5) then
      Ae.j2 K (Ae K) x0 x2 (3:Int)
     else
      Ae.j2 K (Ae K) x0 x2 (2:Int)
abbrev Ee.sg:Sig:=⟨[(.one,(.int .i64))],[],[(.one,(.int .i64))],[]⟩
def Ee (K:Nat) (x0:Int):Option Int :=
 if decide (x0≥0) then
  some (wr .i64 (2*x0))
 else
  some (wr .i64 ((wr .i64 ((-2)*x0))-1))
abbrev Cn.sg:Sig:=⟨[(.one,(.sl (.int .u8))),(.one,(.int .i64)),(.one,(.sl (.int .i64)))],[.o],[(.one,(.sl (.int .u8)))],[.o]⟩
def Cn.l1 (K:Nat) (x1:Int) (x2:List Int):Nat→Int→(List Int)→Option (List Int)
 | 0,_,_=>none
 | k+1,i_10,b_11 =>
  if decide (i_10<((x2.length:Nat):Int)) then
   if (i_10 == 0) then
    if (0:Int)≤(0:Int)∧(0:Int)<((x2.length:Nat):Int) then
    (Ee K (wr .i64 ((nth x2 0)-x1))).bind fun r27 =>
    (Ae K b_11 2 (wr .i64 (r27+1))).bind fun r29 =>
    Cn.l1 K x1 x2 k (wr .i64 (i_10+1)) r29
    else none
   else
    if (0:Int)≤i_10∧i_10<((x2.length:Nat):Int) then
    if (0:Int)≤(wr .i64 (i_10-1))∧(wr .i64 (i_10-1))<((x2.length:Nat):Int) then
    (Ae K b_11 2 (wr .i64 ((nth x2 i_10)-(nth x2 (wr .i64 (i_10-1)))))).bind fun r41 =>
    Cn.l1 K x1 x2 k (wr .i64 (i_10+1)) r41
    else none
    else none
  else
   some b_11
def Cn (K:Nat) (x0:List Int) (x1:Int) (x2:List Int):Option (List Int) :=
 (Ae K x0 2 (wr .i64 (((x2.length:Nat):Int)+1))).bind fun r12 =>
 Cn.l1 K x1 x2 K (0:Int) r12
abbrev Bf.sg:Sig:=⟨[(.one,(.sl (.int .u8))),(.one,(.int .i64)),(.one,(.sl (.int .i64)))],[.o],[(.one,(.sl (.int .u8)))],[.o]⟩
def Bf.j2 (K:Nat) (go_l1:Int→(List Int)→Option (List Int)) (r12:(List Ah) × (List Int)) (t_10:Int) (x1:Int) (t_11:List Int):Option (List Int) :=
 if (0:Int)≤t_10∧t_10<((r12.1.length:Nat):Int) then
 (Ae K t_11 2 (wr .i64 ((wr .i64 (((nth r12.1 t_10).Len)-3))+1))).bind fun r67 =>
 go_l1 (wr .i64 (t_10+1)) r67
 else none
def Bf.l1 (K:Nat) (r12:(List Ah) × (List Int)) (x1:Int):Nat→Int→(List Int)→Option (List Int)
 | 0,_,_=>none
 | k+1,t_10,t_12 =>
  if decide (t_10<((r12.1.length:Nat):Int)) then
   if (t_10 == 0) then
    if (0:Int)≤(0:Int)∧(0:Int)<((r12.1.length:Nat):Int) then
    (Ee K (wr .i64 (((nth r12.1 0).At)-x1))).bind fun r35 =>
    (Ae K t_12 2 (wr .i64 (r35+1))).bind fun r37 =>
    Bf.j2 K (Bf.l1 K r12 x1 k) r12 t_10 x1 r37
    else none
   else
    if (0:Int)≤t_10∧t_10<((r12.1.length:Nat):Int) then
    if (0:Int)≤(wr .i64 (t_10-1))∧(wr .i64 (t_10-1))<((r12.1.length:Nat):Int) then
    if (0:Int)≤(wr .i64 (t_10-1))∧(wr .i64 (t_10-1))<((r12.1.length:Nat):Int) then
    (Ae K t_12 2 (wr .i64 ((wr .i64 (((nth r12.1 t_10).At)-((nth r12.1 (wr .i64 (t_10-1))).At)))-((nth r12.1 (wr .i64 (t_10-1))).Len)))).bind fun r58 =>
    Bf.j2 K (Bf.l1 K r12 x1 k) r12 t_10 x1 r58
    else none
    else none
    else none
  else
   (Cn K t_12 x1 r12.2).bind fun r71 =>
   some r71
def Bf (K:Nat) (x0:List Int) (x1:Int) (x2:List Int):Option (List Int) :=
 (Ba K x2).bind fun r12 =>
 (Ae K x0 2 (wr .i64 (((r12.1.length:Nat):Int)+1))).bind fun r19 =>
 Bf.l1 K r12 x1 K (0:Int) r19
abbrev Df.sg:Sig:=⟨[(.one,(.sl (.int .u8))),(.one,(.int .i64)),(.one,(.sl (.int .u8)))],[],[(.one,.bool)],[]⟩
def Df.l1 (K:Nat) (x0:List Int) (x1:Int) (x2:List Int):Nat→Int→Option Bool
 | 0,_=>none
 | k+1,i_10 =>
  if decide (i_10<((x2.length:Nat):Int)) then
   if decide ((wr .i64 (x1+i_10))≥((x0.length:Nat):Int)) then
    some false
   else
    if (0:Int)≤(wr .i64 (x1+i_10))∧(wr .i64 (x1+i_10))<((x0.length:Nat):Int) then
    if (0:Int)≤i_10∧i_10<((x2.length:Nat):Int) then
    if ((nth x0 (wr .i64 (x1+i_10))) != (nth x2 i_10)) then
     some false
    else
     Df.l1 K x0 x1 x2 k (wr .i64 (i_10+1))
    else none
    else none
  else
   some true
def Df (K:Nat) (x0:List Int) (x1:Int) (x2:List Int):Option Bool :=
 Df.l1 K x0 x1 x2 K (0:Int)
abbrev A7.sg:Sig:=⟨[(.one,(.sl (.int .u8))),(.one,(.int .i64)),(.one,(.sl (.int .i64)))],[.n],[(.one,(.sl (.int .u8)))],[.o]⟩
def A7.j2 (K:Nat) (go_l1:Int→(List Int)→Option (List Int)) (r12:(List Ah) × (List Int)) (t_10:Int) (x1:Int) (t_11:List Int):Option (List Int) :=
 if (0:Int)≤t_10∧t_10<((r12.1.length:Nat):Int) then
 (Ae K t_11 2 (wr .i64 ((wr .i64 (((nth r12.1 t_10).Len)-3))+1))).bind fun r67 =>
 go_l1 (wr .i64 (t_10+1)) r67
 else none
def A7.l1 (K:Nat) (r12:(List Ah) × (List Int)) (x1:Int):Nat→Int→(List Int)→Option (List Int)
 | 0,_,_=>none
 | k+1,t_10,t_12 =>
  if decide (t_10<((r12.1.length:Nat):Int)) then
   if (t_10 == 0) then
    if (0:Int)≤(0:Int)∧(0:Int)<((r12.1.length:Nat):Int) then
    (Ee K (wr .i64 (((nth r12.1 0).At)-x1))).bind fun r35 =>
    (Ae K t_12 2 (wr .i64 (r35+1))).bind fun r37 =>
    A7.j2 K (A7.l1 K r12 x1 k) r12 t_10 x1 r37
    else none
   else
    if (0:Int)≤t_10∧t_10<((r12.1.length:Nat):Int) then
    if (0:Int)≤(wr .i64 (t_10-1))∧(wr .i64 (t_10-1))<((r12.1.length:Nat):Int) then
    if (0:Int)≤(wr .i64 (t_10-1))∧(wr .i64 (t_10-1))<((r12.1.length:Nat):Int) then
    (Ae K t_12 2 (wr .i64 ((wr .i64 (((nth r12.1 t_10).At)-((nth r12.1 (wr .i64 (t_10-1))).At)))-((nth r12.1 (wr .i64 (t_10-1))).Len)))).bind fun r58 =>
    A7.j2 K (A7.l1 K r12 x1 k) r12 t_10 x1 r58
    else none
    else none
    else none
  else
   (Cn K t_12 x1 r12.2).bind fun r71 =>
   some r71
def A7 (K:Nat) (x0:List Int) (x1:Int) (x2:List Int):Option (List Int) :=
 (Ba K x2).bind fun r12 =>
 (Ae K ([]:List Int) 2 (wr .i64 (((r12.1.length:Nat):Int)+1))).bind fun r19 =>
 A7.l1 K r12 x1 K (0:Int) r19
abbrev Au.sg:Sig:=⟨[(.one,(.sl (.int .u8))),(.one,(.int .i64)),(.one,(.int .i64))],[],[(.one,(.sl (.int .i64))),(.one,(.int .i64)),(.one,.bool)],[.o]⟩
def Au.j2 (K:Nat) (go_l1:Int→Int→Int→(List Ah)→Option ((List Int) × Int × Bool)) (r28:Int × Int) (r55:Int × Int) (t_11:Int) (t_15:List Ah) (x0:List Int) (x1:Int) (x2:Int) (t_12:Int) (t_13:Int):Option ((List Int) × Int × Bool) :=
 if (t_15.length+([((t_12,t_13):Ah)]:List Ah).length)*16≤140737488355328 then
 go_l1 r55.2 (wr .i64 (t_12+t_13)) (wr .i64 (t_11+1)) (t_15++([((t_12,t_13):Ah)]:List Ah))
 else none
def Au.l1 (K:Nat) (r28:Int × Int) (x0:List Int) (x1:Int) (x2:Int):Nat→Int→Int→Int→(List Ah)→Option ((List Int) × Int × Bool)
 | 0,_,_,_,_=>none
 | k+1,t_14,t_10,t_11,t_15 =>
  if decide (t_11<(wr .i64 (r28.1-1))) then
   (Aa K x0 t_14 2).bind fun r47 =>
   if decide (r47.1<1) then
    some (([]:List Int),0,false)
   else
    (Aa K x0 r47.2 2).bind fun r55 =>
    if decide (r55.1<1) then
     some (([]:List Int),0,false)
    else
     if decide (r55.1 > 16) then
      some (([]:List Int),0,false)
     else
      if (t_11 == 0) then
       (Ed K (wr .i64 (r47.1-1))).bind fun r77 =>
       Au.j2 K (Au.l1 K r28 x0 x1 x2 k) r28 r55 t_11 t_15 x0 x1 x2 (wr .i64 (x2+r77)) (wr .i64 ((wr .i64 (r55.1-1))+3))
      else
       Au.j2 K (Au.l1 K r28 x0 x1 x2 k) r28 r55 t_11 t_15 x0 x1 x2 (wr .i64 (t_10+r47.1)) (wr .i64 ((wr .i64 (r55.1-1))+3))
  else
   (Ca K x0 t_14 x2).bind fun r93 =>
   if (!r93.2.2) then
    some (([]:List Int),0,false)
   else
    (Ak K t_15 r93.1).bind fun r102 =>
    if (!r102.2) then
     some (([]:List Int),0,false)
    else
     if decide (((r102.1.length:Nat):Int) > 16) then
      some (([]:List Int),0,false)
     else
      (A7 K ([]:List Int) x2 r102.1).bind fun r114 =>
      if (((r114.length:Nat):Int) != (wr .i64 (r93.2.1-x1))) then
       some (([]:List Int),0,false)
      else
       (Df K x0 x1 r114).bind fun r125 =>
       if (!r125) then
        some (([]:List Int),0,false)
       else
        some (r102.1,r93.2.1,true)
def Au (K:Nat) (x0:List Int) (x1:Int) (x2:Int):Option ((List Int) × Int × Bool) :=
 (Aa K x0 x1 2).bind fun r28 =>
 if decide (r28.1<1) then
  some (([]:List Int),0,false)
 else
  if decide ((wr .i64 (r28.1-1)) > 16) then
   some (([]:List Int),0,false)
  else
   Au.l1 K r28 x0 x1 x2 K r28.2 (0:Int) (0:Int) ([]:List Ah)
abbrev Dc.sg:Sig:=⟨[(.agg,Di)],[],[(.one,(.int .i64))],[]⟩
def Dc.l1 (K:Nat) (x0:Ac):Nat→Int→Int→Option Int
 | 0,_,_=>none
 | k+1,n_10,i_11 =>
  if decide (i_11<((x0.Out.length:Nat):Int)) then
   if (0:Int)≤i_11∧i_11<((x0.Out.length:Nat):Int) then
   Dc.l1 K x0 k (wr .i64 (n_10+(((nth x0.Out i_11).length:Nat):Int))) (wr .i64 (i_11+1))
   else none
  else
   some n_10
def Dc (K:Nat) (x0:Ac):Option Int :=
 Dc.l1 K x0 K (0:Int) (0:Int)
abbrev Bu.sg:Sig:=⟨[(.agg,Di)],[],[(.one,.bool)],[]⟩
def Bu.l1 (K:Nat) (x0:Ac):Nat→Int→Option Bool
 | 0,_=>none
 | k+1,i_10 =>
  if decide (i_10<x0.N) then
   if (0:Int)≤i_10∧i_10<((x0.Out.length:Nat):Int) then
   (Ci K (nth x0.Out i_10)).bind fun r27 =>
   if (!r27) then
    some false
   else
    if (0:Int)≤i_10∧i_10<((x0.Out.length:Nat):Int) then
    if decide ((((nth x0.Out i_10).length:Nat):Int) > 0) then
     if (0:Int)≤i_10∧i_10<((x0.Out.length:Nat):Int) then
     if (0:Int)≤i_10∧i_10<((x0.Out.length:Nat):Int) then
     if (0:Int)≤(wr .i64 ((((nth x0.Out i_10).length:Nat):Int)-1))∧(wr .i64 ((((nth x0.Out i_10).length:Nat):Int)-1))<(((nth x0.Out i_10).length:Nat):Int) then
     if decide ((nth (nth x0.Out i_10) (wr .i64 ((((nth x0.Out i_10).length:Nat):Int)-1)))≥x0.N) then
      some false
     else
      Bu.l1 K x0 k (wr .i64 (i_10+1))
     else none
     else none
     else none
    else
     Bu.l1 K x0 k (wr .i64 (i_10+1))
    else none
   else none
  else
   (Dc K x0).bind fun r58 =>
   some (decide (r58≤120))
def Bu (K:Nat) (x0:Ac):Option Bool :=
 (Cx K x0.N 16).bind fun r6 =>
 if (!r6) then
  some false
 else
  if (((x0.Out.length:Nat):Int) != x0.N) then
   some false
  else
   Bu.l1 K x0 K (0:Int)
abbrev Ck.sg:Sig:=⟨[(.one,(.sl (.int .u8)))],[],[(.agg,Di),(.one,.bool)],[.s,.o]⟩
def Ck.l1 (K:Nat) (r26:Ac) (x0:List Int):Nat→Int→Int→Int→(List (List Int))→Option (Ac × Bool)
 | 0,_,_,_,_=>none
 | k+1,at_12,v_11,t_10,g_13 =>
  if decide (v_11<r26.N) then
   (Au K x0 at_12 v_11).bind fun r37 =>
   if (!r37.2.2) then
    some (((0,([]:List (List Int))):Ac),false)
   else
    if (0:Int)≤v_11∧v_11<((g_13.length:Nat):Int) then
    Ck.l1 K r26 x0 k r37.2.1 (wr .i64 (v_11+1)) t_10 ((g_13).set v_11.toNat r37.1)
    else none
  else
   if (at_12 != ((x0.length:Nat):Int)) then
    some (((0,([]:List (List Int))):Ac),false)
   else
    (Bu K ((r26.N,g_13):Ac)).bind fun r56 =>
    if (!r56) then
     some (((0,([]:List (List Int))):Ac),false)
    else
     some (((r26.N,g_13):Ac),true)
def Ck (K:Nat) (x0:List Int):Option (Ac × Bool) :=
 (Aa K x0 0 2).bind fun r13 =>
 if decide (r13.1<1) then
  some (((0,([]:List (List Int))):Ac),false)
 else
  if decide ((wr .i64 (r13.1-1)) > 16) then
   some (((0,([]:List (List Int))):Ac),false)
  else
   (Ec K (wr .i64 (r13.1-1))).bind fun r26 =>
   Ck.l1 K r26 x0 K r13.2 (0:Int) (0:Int) r26.Out
abbrev E9.sg:Sig:=⟨[(.agg,Di),(.one,(.int .i64))],[],[(.one,(.sl (.int .i64)))],[]⟩
def E9 (K:Nat) (x0:Ac) (x1:Int):Option (List Int) :=
 if decide (x1<x0.N) then
  if (0:Int)≤x1∧x1<((x0.Out.length:Nat):Int) then
  some (nth x0.Out x1)
  else none
 else
  some ([]:List Int)
abbrev Db.sg:Sig:=⟨[(.one,(.sl (.int .i64))),(.one,(.int .i64))],[],[(.one,(.int .i64))],[]⟩
def Db.l1 (K:Nat) (x0:List Int) (x1:Int):Nat→Int→Option Int
 | 0,_=>none
 | k+1,i_10 =>
  if decide (i_10<((x0.length:Nat):Int)) then
   if (0:Int)≤i_10∧i_10<((x0.length:Nat):Int) then
   if ((nth x0 i_10) == x1) then
    some i_10
   else
    Db.l1 K x0 x1 k (wr .i64 (i_10+1))
   else none
  else
   some ((-1):Int)
def Db (K:Nat) (x0:List Int) (x1:Int):Option Int :=
 Db.l1 K x0 x1 K (0:Int)
abbrev Bg.sg:Sig:=⟨[(.one,(.sl (.int .i64))),(.one,(.sl (.int .i64)))],[],[(.one,(.sl (.int .i64))),(.one,(.sl (.int .i64)))],[.o,.o]⟩
def Bg.l2 (K:Nat) (x0:List Int) (x1:List Int):Nat→Int→(List Int)→(List Int)→Option ((List Int) × (List Int))
 | 0,_,_,_=>none
 | k+1,i_12,blocks_16,rest_15 =>
  if decide (i_12<((x1.length:Nat):Int)) then
   if (0:Int)≤i_12∧i_12<((x1.length:Nat):Int) then
   (Db K x0 (nth x1 i_12)).bind fun r47 =>
   if decide (r47<0) then
    if (0:Int)≤i_12∧i_12<((x1.length:Nat):Int) then
    if (rest_15.length+([nth x1 i_12]:List Int).length)*8≤140737488355328 then
    Bg.l2 K x0 x1 k (wr .i64 (i_12+1)) blocks_16 (rest_15++([nth x1 i_12]:List Int))
    else none
    else none
   else
    Bg.l2 K x0 x1 k (wr .i64 (i_12+1)) blocks_16 rest_15
   else none
  else
   some (blocks_16,rest_15)
def Bg.l1 (K:Nat) (x0:List Int) (x1:List Int):Nat→Bool→Int→Int→(List Int)→Option ((List Int) × (List Int))
 | 0,_,_,_,_=>none
 | k+1,in_14,n_10,i_11,blocks_13 =>
  if decide (i_11<((x0.length:Nat):Int)) then
   if (0:Int)≤i_11∧i_11<((x0.length:Nat):Int) then
   (Db K x1 (nth x0 i_11)).bind fun r24 =>
   if (!((decide (r24≥0)) == in_14)) then
    if (blocks_13.length+([n_10]:List Int).length)*8≤140737488355328 then
    Bg.l1 K x0 x1 k (decide (r24≥0)) (wr .i64 ((0:Int)+1)) (wr .i64 (i_11+1)) (blocks_13++([n_10]:List Int))
    else none
   else
    Bg.l1 K x0 x1 k in_14 (wr .i64 (n_10+1)) (wr .i64 (i_11+1)) blocks_13
   else none
  else
   Bg.l2 K x0 x1 K (0:Int) blocks_13 ([]:List Int)
def Bg (K:Nat) (x0:List Int) (x1:List Int):Option ((List Int) × (List Int)) :=
 Bg.l1 K x0 x1 K true (0:Int) (0:Int) ([]:List Int)
abbrev Bh.sg:Sig:=⟨[(.one,(.sl (.int .i64))),(.one,(.sl (.int .i64)))],[],[(.one,.bool)],[]⟩
def Bh.l1 (K:Nat) (x0:List Int) (x1:List Int):Nat→Int→Option Bool
 | 0,_=>none
 | k+1,i_10 =>
  if decide (i_10<((x0.length:Nat):Int)) then
   if (0:Int)≤i_10∧i_10<((x0.length:Nat):Int) then
   if (0:Int)≤i_10∧i_10<((x1.length:Nat):Int) then
   if ((nth x0 i_10) != (nth x1 i_10)) then
    some false
   else
    Bh.l1 K x0 x1 k (wr .i64 (i_10+1))
   else none
   else none
  else
   some true
def Bh (K:Nat) (x0:List Int) (x1:List Int):Option Bool :=
 if (((x0.length:Nat):Int) != ((x1.length:Nat):Int)) then
  some false
 else
  Bh.l1 K x0 x1 K (0:Int)
abbrev Ab.sg:Sig:=⟨[(.one,(.sl (.int .i64))),(.one,(.sl (.int .i64))),(.one,(.sl (.int .i64)))],[],[(.one,(.sl (.int .i64))),(.one,.bool)],[.o]⟩
def Ab.l5 (K:Nat) (x0:List Int) (x1:List Int) (x2:List Int):Nat→Int→(List Bool)→(List Int)→Option ((List Int) × Bool)
 | 0,_,_,_=>none
 | k+1,t_16,t_20,t_19 =>
  if decide (t_16<16) then
   if ((0:Int)≤t_16∧t_16<((t_20.length:Nat):Int))∧t_20.length=16 then
   if nth t_20 t_16 then
    if (t_19.length+([t_16]:List Int).length)*8≤140737488355328 then
    Ab.l5 K x0 x1 x2 k (wr .i64 (t_16+1)) t_20 (t_19++([t_16]:List Int))
    else none
   else
    Ab.l5 K x0 x1 x2 k (wr .i64 (t_16+1)) t_20 t_19
   else none
  else
   (Bg K x0 t_19).bind fun r104 =>
   (Bh K r104.1 x1).bind fun r110 =>
   if r110 then
    (Bh K r104.2 x2).bind fun r114 =>
    some (t_19,r114)
   else
    some (t_19,false)
def Ab.l4 (K:Nat) (x0:List Int) (x1:List Int) (x2:List Int):Nat→Int→(List Bool)→Option ((List Int) × Bool)
 | 0,_,_=>none
 | k+1,t_15,t_18 =>
  if decide (t_15<((x2.length:Nat):Int)) then
   if (0:Int)≤t_15∧t_15<((x2.length:Nat):Int) then
   if ((0:Int)≤(nth x2 t_15)∧(nth x2 t_15)<((t_18.length:Nat):Int))∧t_18.length=16 then
   Ab.l4 K x0 x1 x2 k (wr .i64 (t_15+1)) ((t_18).set (nth x2 t_15).toNat true)
   else none
   else none
  else
   Ab.l5 K x0 x1 x2 K (0:Int) t_18 ([]:List Int)
def Ab.l3 (K:Nat) (go_l1:Int→Int→(List Bool)→Option ((List Int) × Bool)) (t_11:Int) (t_12:Int) (t_13:Int) (x0:List Int) (x1:List Int) (x2:List Int):Nat→Int→(List Bool)→Option ((List Int) × Bool)
 | 0,_,_=>none
 | k+1,t_14,t_17 =>
  if decide (t_14<t_13) then
   if (2:Int)≠0 then
   if ((t_12.tmod 2) == 0) then
    if (0:Int)≤(wr .i64 (t_11+t_14))∧(wr .i64 (t_11+t_14))<((x0.length:Nat):Int) then
    if ((0:Int)≤(nth x0 (wr .i64 (t_11+t_14)))∧(nth x0 (wr .i64 (t_11+t_14)))<((t_17.length:Nat):Int))∧t_17.length=16 then
    Ab.l3 K go_l1 t_11 t_12 t_13 x0 x1 x2 k (wr .i64 (t_14+1)) ((t_17).set (nth x0 (wr .i64 (t_11+t_14))).toNat true)
    else none
    else none
   else
    go_l1 (wr .i64 (t_11+t_13)) (wr .i64 (t_12+1)) t_17
   else none
  else
   go_l1 (wr .i64 (t_11+t_13)) (wr .i64 (t_12+1)) t_17
def Ab.j2 (K:Nat) (go_l1:Int→Int→(List Bool)→Option ((List Int) × Bool)) (t_10:List Bool) (t_11:Int) (t_12:Int) (x0:List Int) (x1:List Int) (x2:List Int) (t_13:Int):Option ((List Int) × Bool) :=
 if decide (t_13<0) then
  some (([]:List Int),false)
 else
  if decide (t_13 > (wr .i64 (((x0.length:Nat):Int)-t_11))) then
   some (([]:List Int),false)
  else
   Ab.l3 K go_l1 t_11 t_12 t_13 x0 x1 x2 K (0:Int) t_10
def Ab.l1 (K:Nat) (x0:List Int) (x1:List Int) (x2:List Int):Nat→Int→Int→(List Bool)→Option ((List Int) × Bool)
 | 0,_,_,_=>none
 | k+1,t_11,t_12,t_10 =>
  if decide (t_12≤((x1.length:Nat):Int)) then
   if decide (t_12<((x1.length:Nat):Int)) then
    if (0:Int)≤t_12∧t_12<((x1.length:Nat):Int) then
    Ab.j2 K (Ab.l1 K x0 x1 x2 k) t_10 t_11 t_12 x0 x1 x2 (nth x1 t_12)
    else none
   else
    Ab.j2 K (Ab.l1 K x0 x1 x2 k) t_10 t_11 t_12 x0 x1 x2 (wr .i64 (((x0.length:Nat):Int)-t_11))
  else
   Ab.l4 K x0 x1 x2 K (0:Int) t_10
def Ab (K:Nat) (x0:List Int) (x1:List Int) (x2:List Int):Option ((List Int) × Bool) :=
 (Ci K x0).bind fun r19 =>
 if (!r19) then
  some (([]:List Int),false)
 else
  (Ci K x2).bind fun r23 =>
  if (!r23) then
   some (([]:List Int),false)
  else
   if decide (((x1.length:Nat):Int) > 16) then
    some (([]:List Int),false)
   else
    Ab.l1 K x0 x1 x2 K (0:Int) (0:Int) (List.replicate 16 false)
abbrev Cc.sg:Sig:=⟨[(.one,(.sl (.int .u8))),(.one,(.int .i64)),(.one,(.int .i64)),(.one,(.sl (.int .i64)))],[],[(.one,(.sl (.int .i64))),(.one,(.int .i64)),(.one,.bool)],[.o]⟩
def Cc.l1 (K:Nat) (r23:Int × Int) (x0:List Int) (x2:Int) (x3:List Int):Nat→Int→Int→(List Int)→Option ((List Int) × Int × Bool)
 | 0,_,_,_=>none
 | k+1,t_11,t_10,t_12 =>
  if decide (t_10<(wr .i64 (r23.1-1))) then
   (Aa K x0 t_11 2).bind fun r42 =>
   if decide (r42.1<1) then
    some (([]:List Int),0,false)
   else
    if decide (r42.1 > 17) then
     some (([]:List Int),0,false)
    else
     if (t_10 == 0) then
      if (t_12.length+([wr .i64 (r42.1-1)]:List Int).length)*8≤140737488355328 then
      Cc.l1 K r23 x0 x2 x3 k r42.2 (wr .i64 (t_10+1)) (t_12++([wr .i64 (r42.1-1)]:List Int))
      else none
     else
      if (t_12.length+([r42.1]:List Int).length)*8≤140737488355328 then
      Cc.l1 K r23 x0 x2 x3 k r42.2 (wr .i64 (t_10+1)) (t_12++([r42.1]:List Int))
      else none
  else
   (Au K x0 t_11 x2).bind fun r64 =>
   if (!r64.2.2) then
    some (([]:List Int),0,false)
   else
    (Ab K x3 t_12 r64.1).bind fun r74 =>
    if (!r74.2) then
     some (([]:List Int),0,false)
    else
     some (r74.1,r64.2.1,true)
def Cc (K:Nat) (x0:List Int) (x1:Int) (x2:Int) (x3:List Int):Option ((List Int) × Int × Bool) :=
 (Aa K x0 x1 2).bind fun r23 =>
 if decide (r23.1<1) then
  some (([]:List Int),0,false)
 else
  if decide ((wr .i64 (r23.1-1)) > 16) then
   some (([]:List Int),0,false)
  else
   Cc.l1 K r23 x0 x2 x3 K r23.2 (0:Int) ([]:List Int)
abbrev Cm.sg:Sig:=⟨[(.agg,Di),(.one,(.sl (.int .u8)))],[],[(.agg,Di),(.one,.bool)],[.s,.o]⟩
def Cm.l1 (K:Nat) (r28:Ac) (x0:Ac) (x1:List Int):Nat→Int→Int→Int→(List (List Int))→Option (Ac × Bool)
 | 0,_,_,_,_=>none
 | k+1,t_12,t_11,t_10,t_13 =>
  if decide (t_11<r28.N) then
   (E9 K x0 t_11).bind fun r41 =>
   (Cc K x1 t_12 t_11 r41).bind fun r42 =>
   if (!r42.2.2) then
    some (((0,([]:List (List Int))):Ac),false)
   else
    if (0:Int)≤t_11∧t_11<((t_13.length:Nat):Int) then
    Cm.l1 K r28 x0 x1 k r42.2.1 (wr .i64 (t_11+1)) t_10 ((t_13).set t_11.toNat r42.1)
    else none
  else
   if (t_12 != ((x1.length:Nat):Int)) then
    some (((0,([]:List (List Int))):Ac),false)
   else
    (Bu K ((r28.N,t_13):Ac)).bind fun r61 =>
    if (!r61) then
     some (((0,([]:List (List Int))):Ac),false)
    else
     some (((r28.N,t_13):Ac),true)
def Cm (K:Nat) (x0:Ac) (x1:List Int):Option (Ac × Bool) :=
 (Aa K x1 0 2).bind fun r15 =>
 if decide (r15.1<1) then
  some (((0,([]:List (List Int))):Ac),false)
 else
  if decide ((wr .i64 (r15.1-1)) > 16) then
   some (((0,([]:List (List Int))):Ac),false)
  else
   (Ec K (wr .i64 (r15.1-1))).bind fun r28 =>
   Cm.l1 K r28 x0 x1 K r15.2 (0:Int) (0:Int) r28.Out
abbrev Ar.sg:Sig:=⟨[(.one,(.sl Da)),(.one,(.int .i64))],[],[(.agg,Di),(.one,(.int .i64))],[.s,.o]⟩
def Ar.j1 (K:Nat) (rec_:(List Am)→Int→Option (Ac × Int)) (ok_13:Bool) (t_10:Int) (g_11:Int) (g_12:List (List Int)):Option (Ac × Int) :=
 if (!ok_13) then
  some (((0,([]:List (List Int))):Ac),9)
 else
  some (((g_11,g_12):Ac),0)
def Ar:Nat→(List Am)→Int→Option (Ac × Int)
 | 0,_,_=>none
 | K+1,x0,x1 =>
  (C8 K x0 x1).bind fun r17 =>
  if (r17.2 != 0) then
   some (((0,([]:List (List Int))):Ac),r17.2)
  else
   (Cs K x0 x1).bind fun r27 =>
   if (0:Int)≤r27∧r27<((x0.length:Nat):Int) then
   (Dk K ((nth x0 r27).Data)).bind fun r32 =>
   if (((nth x0 r27).Base) == 0) then
    (Ck K r32).bind fun r38 =>
    Ar.j1 K (Ar K) r38.2 (0:Int) r38.1.N r38.1.Out
   else
    ((Ar K) x0 ((nth x0 r27).Base)).bind fun r45 =>
    if (r45.2 != 0) then
     some (((0,([]:List (List Int))):Ac),r45.2)
    else
     (Cm K r45.1 r32).bind fun r55 =>
     Ar.j1 K (Ar K) r55.2 (0:Int) r55.1.N r55.1.Out
   else none
abbrev Bj.sg:Sig:=⟨[(.one,(.sl (.sl (.int .i64)))),(.one,(.sl (.sl (.int .i64))))],[],[(.one,.bool)],[]⟩
def Bj.l1 (K:Nat) (x0:List (List Int)) (x1:List (List Int)):Nat→Int→Option Bool
 | 0,_=>none
 | k+1,i_10 =>
  if decide (i_10<((x0.length:Nat):Int)) then
   if (0:Int)≤i_10∧i_10<((x0.length:Nat):Int) then
   if (0:Int)≤i_10∧i_10<((x1.length:Nat):Int) then
   (Bh K (nth x0 i_10) (nth x1 i_10)).bind fun r25 =>
   if (!r25) then
    some false
   else
    Bj.l1 K x0 x1 k (wr .i64 (i_10+1))
   else none
   else none
  else
   some true
def Bj (K:Nat) (x0:List (List Int)) (x1:List (List Int)):Option Bool :=
 if (((x0.length:Nat):Int) != ((x1.length:Nat):Int)) then
  some false
 else
  Bj.l1 K x0 x1 K (0:Int)
abbrev Dl.sg:Sig:=⟨[(.agg,Di),(.agg,Di)],[],[(.one,.bool)],[]⟩
def Dl (K:Nat) (x0:Ac) (x1:Ac):Option Bool :=
 if (x0.N == x1.N) then
  (Bj K x0.Out x1.Out).bind fun r15 =>
  some r15
 else
  some false
abbrev Cw.sg:Sig:=⟨[(.agg,Fv),(.agg,Fv)],[],[(.one,.bool)],[]⟩
def Cw (K:Nat) (x0:Ai) (x1:Ai):Option Bool :=
 if (x0.Kind == x1.Kind) then
  if (x0.A == x1.A) then
   if (x0.At == x1.At) then
    if (x0.Move == x1.Move) then
     (Bh K x0.List_ x1.List_).bind fun r36 =>
     if r36 then
      (Bh K x0.Out x1.Out).bind fun r43 =>
      some r43
     else
      some false
    else
     some false
   else
    some false
  else
   some false
 else
  some false
abbrev Dx.sg:Sig:=⟨[(.agg,Ce),(.agg,Ce)],[],[(.one,.bool)],[]⟩
def Dx (K:Nat) (x0:A9) (x1:A9):Option Bool :=
 if (x0.Open == x1.Open) then
  if (x0.Pin == x1.Pin) then
   if (x0.On == x1.On) then
    if (x0.From == x1.From) then
     (Dl K x0.Stage x1.Stage).bind fun r36 =>
     if r36 then
      (Cw K x0.Job x1.Job).bind fun r43 =>
      some r43
     else
      some false
    else
     some false
   else
    some false
  else
   some false
 else
  some false
abbrev Dj.sg:Sig:=⟨[(.agg,Cy),(.one,(.int .i64))],[],[(.one,(.int .i64))],[]⟩
def Dj.l1 (K:Nat) (x0:Ag) (x1:Int):Nat→Int→Option Int
 | 0,_=>none
 | k+1,i_10 =>
  if decide (i_10<((x0.Versions.length:Nat):Int)) then
   if (0:Int)≤i_10∧i_10<((x0.Versions.length:Nat):Int) then
   if (((nth x0.Versions i_10).ID) == x1) then
    some i_10
   else
    Dj.l1 K x0 x1 k (wr .i64 (i_10+1))
   else none
  else
   some ((-1):Int)
def Dj (K:Nat) (x0:Ag) (x1:Int):Option Int :=
 Dj.l1 K x0 x1 K (0:Int)
abbrev Dz.sg:Sig:=⟨[(.agg,Cy)],[],[(.one,(.int .i64))],[]⟩
def Dz (K:Nat) (x0:Ag):Option Int :=
 if (((x0.Versions.length:Nat):Int) == 0) then
  some (0:Int)
 else
  if (0:Int)≤(wr .i64 (((x0.Versions.length:Nat):Int)-1))∧(wr .i64 (((x0.Versions.length:Nat):Int)-1))<((x0.Versions.length:Nat):Int) then
  some ((nth x0.Versions (wr .i64 (((x0.Versions.length:Nat):Int)-1))).ID)
  else none
abbrev Dv.sg:Sig:=⟨[(.one,(.int .i64))],[],[(.one,.bool)],[]⟩
def Dv (K:Nat) (x0:Int):Option Bool :=
 if (x0 == 1) then
  some true
 else
  if (x0 == 2) then
   some true
  else
   some (x0 == 4)
abbrev Fa.sg:Sig:=⟨[(.agg,Di),(.one,(.int .i64)),(.one,(.int .i64))],[],[(.one,(.int .i64))],[]⟩
def Fa (K:Nat) (x0:Ac) (x1:Int) (x2:Int):Option Int :=
 (Bo K x1 1 6).bind fun r8 =>
 if (!r8) then
  some (1:Int)
 else
  (Dv K x1).bind fun r11 =>
  if r11 then
   (Cx K x2 (wr .i64 (x0.N-1))).bind fun r17 =>
   if (!r17) then
    some (3:Int)
   else
    some (0:Int)
  else
   some (0:Int)
abbrev Bd.sg:Sig:=⟨[(.agg,Di),(.one,(.int .i64)),(.one,(.int .i64))],[],[(.agg,Fv)],[.s,.s,.s,.s,.o,.o]⟩
def Bd.l2 (K:Nat) (j_13:Int) (j_14:Int) (x0:Ac) (x1:Int) (x2:Int):Nat→Int→(List Int)→Option Ai
 | 0,_,_=>none
 | k+1,v_15,j_16 =>
  if decide (v_15<x0.N) then
   if (x1 == 4) then
    if (j_16.length+([(-1)]:List Int).length)*8≤140737488355328 then
    Bd.l2 K j_13 j_14 x0 x1 x2 k (wr .i64 (v_15+1)) (j_16++([(-1)]:List Int))
    else none
   else
    if (x1 == 5) then
     if (j_16.length+([v_15]:List Int).length)*8≤140737488355328 then
     Bd.l2 K j_13 j_14 x0 x1 x2 k (wr .i64 (v_15+1)) (j_16++([v_15]:List Int))
     else none
    else
     Bd.l2 K j_13 j_14 x0 x1 x2 k (wr .i64 (v_15+1)) j_16
  else
   if (x1 == 4) then
    if (0:Int)≤x2∧x2<((j_16.length:Nat):Int) then
    some ((x1,j_13,j_14,false,([x2]:List Int),(j_16).set x2.toNat 0):Ai)
    else none
   else
    some ((x1,j_13,j_14,false,([]:List Int),j_16):Ai)
def Bd.j1 (K:Nat) (x0:Ac) (x1:Int) (x2:Int) (t_10:Int) (t_11:Int) (t_12:Int) (j_13:Int) (j_14:Int):Option Ai :=
 Bd.l2 K j_13 j_14 x0 x1 x2 K (0:Int) ([]:List Int)
def Bd (K:Nat) (x0:Ac) (x1:Int) (x2:Int):Option Ai :=
 (Dv K x1).bind fun r12 =>
 if r12 then
  Bd.j1 K x0 x1 x2 (0:Int) (0:Int) (0:Int) x2 (0:Int)
 else
  Bd.j1 K x0 x1 x2 (0:Int) (0:Int) (0:Int) (0:Int) (0:Int)
abbrev Cz.sg:Sig:=⟨[(.agg,Di),(.agg,Fv)],[],[(.one,.bool)],[]⟩
def Cz (K:Nat) (x0:Ac) (x1:Ai):Option Bool :=
 if (x1.Kind == 1) then
  some (decide (x1.At≥1))
 else
  if (x1.Kind == 4) then
   some (decide (x1.At≥((x1.List_.length:Nat):Int)))
  else
   some (decide (x1.At≥x0.N))
abbrev Bl.sg:Sig:=⟨[(.one,(.sl (.int .i64)))],[],[(.one,(.sl (.int .i64)))],[.o]⟩
def Bl.l1 (K:Nat) (x0:List Int):Nat→Int→(List Int)→Option (List Int)
 | 0,_,_=>none
 | k+1,i_10,m_11 =>
  if decide (i_10<((x0.length:Nat):Int)) then
   if (0:Int)≤i_10∧i_10<((x0.length:Nat):Int) then
   if (m_11.length+([nth x0 i_10]:List Int).length)*8≤140737488355328 then
   Bl.l1 K x0 k (wr .i64 (i_10+1)) (m_11++([nth x0 i_10]:List Int))
   else none
   else none
  else
   some m_11
def Bl (K:Nat) (x0:List Int):Option (List Int) :=
 Bl.l1 K x0 K (0:Int) ([]:List Int)
abbrev Dn.sg:Sig:=⟨[(.agg,Fv)],[],[(.agg,Fv)],[.s,.s,.s,.s,.o,.o]⟩
def Dn (K:Nat) (x0:Ai):Option Ai :=
 (Bl K x0.List_).bind fun r7 =>
 (Bl K x0.Out).bind fun r11 =>
 some ((x0.Kind,x0.A,x0.At,x0.Move,r7,r11):Ai)
abbrev Ad.sg:Sig:=⟨[(.agg,Di),(.agg,Fv)],[],[(.agg,Fv)],[.s,.s,.s,.s,.o,.o]⟩
def Ad.j5 (K:Nat) (go_l4:Int→Int→Bool→(List Int)→Int→Int→Int→Option Ai) (r13:Ai) (t_25:Int) (t_26:Int) (t_27:Int) (t_28:Int) (t_29:Int) (t_37:List Int) (x0:Ac) (t_31:Int) (t_30:Bool):Option Ai :=
 if (0:Int)≤r13.At∧r13.At<((t_37.length:Nat):Int) then
 if (0:Int)≤t_31∧t_31<((t_37.length:Nat):Int) then
 if (0:Int)≤r13.At∧r13.At<((t_37.length:Nat):Int) then
 if (0:Int)≤t_31∧t_31<((((t_37).set r13.At.toNat (if (nth t_37 t_31)<(nth t_37 r13.At) then (nth t_37 t_31) else (nth t_37 r13.At))).length:Nat):Int) then
 go_l4 (wr .i64 (t_29+1)) t_25 t_30 (((t_37).set r13.At.toNat (if (nth t_37 t_31)<(nth t_37 r13.At) then (nth t_37 t_31) else (nth t_37 r13.At))).set t_31.toNat (if (nth t_37 t_31)<(nth t_37 r13.At) then (nth t_37 t_31) else (nth t_37 r13.At))) t_26 t_27 t_28
 else none
 else none
 else none
 else none
def Ad.l4 (K:Nat) (r13:Ai) (x0:Ac):Nat→Int→Int→Bool→(List Int)→Int→Int→Int→Option Ai
 | 0,_,_,_,_,_,_,_=>none
 | k+1,t_29,t_25,t_36,t_37,t_26,t_27,t_28 =>
  if (0:Int)≤r13.At∧r13.At<((x0.Out.length:Nat):Int) then
  if decide (t_29<(((nth x0.Out r13.At).length:Nat):Int)) then
   if (0:Int)≤r13.At∧r13.At<((x0.Out.length:Nat):Int) then
   if (0:Int)≤t_29∧t_29<(((nth x0.Out r13.At).length:Nat):Int) then
   if t_36 then
    Ad.j5 K (Ad.l4 K r13 x0 k) r13 t_25 t_26 t_27 t_28 t_29 t_37 x0 (nth (nth x0.Out r13.At) t_29) true
   else
    if (0:Int)≤r13.At∧r13.At<((t_37.length:Nat):Int) then
    if (0:Int)≤(nth (nth x0.Out r13.At) t_29)∧(nth (nth x0.Out r13.At) t_29)<((t_37.length:Nat):Int) then
    Ad.j5 K (Ad.l4 K r13 x0 k) r13 t_25 t_26 t_27 t_28 t_29 t_37 x0 (nth (nth x0.Out r13.At) t_29) ((nth t_37 r13.At) != (nth t_37 (nth (nth x0.Out r13.At) t_29)))
    else none
    else none
   else none
   else none
  else
   if decide (t_25≥x0.N) then
    if t_36 then
     some ((r13.Kind,r13.A,0,false,r13.List_,t_37):Ai)
    else
     some ((r13.Kind,r13.A,t_25,t_36,r13.List_,t_37):Ai)
   else
    some ((r13.Kind,r13.A,t_25,t_36,r13.List_,t_37):Ai)
  else none
def Ad.l3 (K:Nat) (r13:Ai) (x0:Ac):Nat→Int→Int→Int→(List Int)→(List Int)→Int→Int→Int→Option Ai
 | 0,_,_,_,_,_,_,_,_=>none
 | k+1,t_23,t_24,t_19,t_34,t_35,t_20,t_21,t_22 =>
  if (0:Int)≤t_23∧t_23<((x0.Out.length:Nat):Int) then
  if decide (t_24<(((nth x0.Out t_23).length:Nat):Int)) then
   if (0:Int)≤t_23∧t_23<((x0.Out.length:Nat):Int) then
   if (0:Int)≤t_24∧t_24<(((nth x0.Out t_23).length:Nat):Int) then
   if (0:Int)≤(nth (nth x0.Out t_23) t_24)∧(nth (nth x0.Out t_23) t_24)<((t_35.length:Nat):Int) then
   if decide ((nth t_35 (nth (nth x0.Out t_23) t_24))<0) then
    if (0:Int)≤t_23∧t_23<((t_35.length:Nat):Int) then
    if (0:Int)≤(nth (nth x0.Out t_23) t_24)∧(nth (nth x0.Out t_23) t_24)<((t_35.length:Nat):Int) then
    if (t_34.length+([nth (nth x0.Out t_23) t_24]:List Int).length)*8≤140737488355328 then
    Ad.l3 K r13 x0 k t_23 (wr .i64 (t_24+1)) t_19 (t_34++([nth (nth x0.Out t_23) t_24]:List Int)) ((t_35).set (nth (nth x0.Out t_23) t_24).toNat (wr .i64 ((nth t_35 t_23)+1))) t_20 t_21 t_22
    else none
    else none
    else none
   else
    Ad.l3 K r13 x0 k t_23 (wr .i64 (t_24+1)) t_19 t_34 t_35 t_20 t_21 t_22
   else none
   else none
   else none
  else
   some ((r13.Kind,r13.A,t_19,r13.Move,t_34,t_35):Ai)
  else none
def Ad.l2 (K:Nat) (r13:Ai) (x0:Ac):Nat→Int→Int→(List Int)→Int→Int→Int→Option Ai
 | 0,_,_,_,_,_,_=>none
 | k+1,t_18,t_14,t_33,t_15,t_16,t_17 =>
  if (0:Int)≤r13.At∧r13.At<((x0.Out.length:Nat):Int) then
  if decide (t_18<(((nth x0.Out r13.At).length:Nat):Int)) then
   if (0:Int)≤r13.At∧r13.At<((x0.Out.length:Nat):Int) then
   if (0:Int)≤t_18∧t_18<(((nth x0.Out r13.At).length:Nat):Int) then
   if (t_33.length+([r13.At,nth (nth x0.Out r13.At) t_18]:List Int).length)*8≤140737488355328 then
   Ad.l2 K r13 x0 k (wr .i64 (t_18+1)) t_14 (t_33++([r13.At,nth (nth x0.Out r13.At) t_18]:List Int)) t_15 t_16 t_17
   else none
   else none
   else none
  else
   some ((r13.Kind,r13.A,t_14,r13.Move,r13.List_,t_33):Ai)
  else none
def Ad.l1 (K:Nat) (r13:Ai) (x0:Ac):Nat→Int→(List Int)→Int→Int→Int→Option Ai
 | 0,_,_,_,_,_=>none
 | k+1,t_10,t_32,t_11,t_12,t_13 =>
  if (0:Int)≤r13.At∧r13.At<((x0.Out.length:Nat):Int) then
  if decide (((t_32.length:Nat):Int)≤(((nth x0.Out r13.At).length:Nat):Int)) then
   if (t_32.length+([0]:List Int).length)*8≤140737488355328 then
   Ad.l1 K r13 x0 k t_10 (t_32++([0]:List Int)) t_11 t_12 t_13
   else none
  else
   if (0:Int)≤r13.At∧r13.At<((x0.Out.length:Nat):Int) then
   if (0:Int)≤(((nth x0.Out r13.At).length:Nat):Int)∧(((nth x0.Out r13.At).length:Nat):Int)<((t_32.length:Nat):Int) then
   if (0:Int)≤(((nth x0.Out r13.At).length:Nat):Int)∧(((nth x0.Out r13.At).length:Nat):Int)<((t_32.length:Nat):Int) then
   some ((r13.Kind,r13.A,t_10,r13.Move,r13.List_,(t_32).set (((nth x0.Out r13.At).length:Nat):Int).toNat (wr .i64 ((nth t_32 (((nth x0.Out r13.At).length:Nat):Int))+1))):Ai)
   else none
   else none
   else none
  else none
def Ad (K:Nat) (x0:Ac) (x1:Ai):Option Ai :=
 (Dn K x1).bind fun r13 =>
 if (r13.Kind == 1) then
  if (0:Int)≤r13.A∧r13.A<((x0.Out.length:Nat):Int) then
  (Bl K (nth x0.Out r13.A)).bind fun r96 =>
  some ((r13.Kind,r13.A,wr .i64 (r13.At+1),r13.Move,r13.List_,r96):Ai)
  else none
 else
  if (r13.Kind == 2) then
   if (0:Int)≤r13.At∧r13.At<((x0.Out.length:Nat):Int) then
   (Db K (nth x0.Out r13.At) r13.A).bind fun r107 =>
   if decide (r107≥0) then
    if (r13.Out.length+([r13.At]:List Int).length)*8≤140737488355328 then
    some ((r13.Kind,r13.A,wr .i64 (r13.At+1),r13.Move,r13.List_,r13.Out++([r13.At]:List Int)):Ai)
    else none
   else
    some ((r13.Kind,r13.A,wr .i64 (r13.At+1),r13.Move,r13.List_,r13.Out):Ai)
   else none
  else
   if (r13.Kind == 3) then
    Ad.l1 K r13 x0 K (wr .i64 (r13.At+1)) r13.Out (0:Int) (0:Int) (0:Int)
   else
    if (r13.Kind == 6) then
     Ad.l2 K r13 x0 K (0:Int) (wr .i64 (r13.At+1)) r13.Out (0:Int) (0:Int) (0:Int)
    else
     if (r13.Kind == 4) then
      if (0:Int)≤r13.At∧r13.At<((r13.List_.length:Nat):Int) then
      Ad.l3 K r13 x0 K (nth r13.List_ r13.At) (0:Int) (wr .i64 (r13.At+1)) r13.List_ r13.Out (0:Int) (0:Int) (0:Int)
      else none
     else
      Ad.l4 K r13 x0 K (0:Int) (wr .i64 (r13.At+1)) r13.Move r13.Out (0:Int) (0:Int) (0:Int)
abbrev Az.sg:Sig:=⟨[(.agg,Di),(.agg,Fv)],[],[(.one,.bool)],[]⟩
def Az.l1 (K:Nat) (x0:Ac) (x1:Ai):Nat→Int→Int→Int→Bool→(List Int)→(List Int)→Option Bool
 | 0,_,_,_,_,_,_=>none
 | k+1,x_10,x_11,x_12,x_13,x_14,x_15 =>
  (Cw K ((x_10,x_11,x_12,x_13,x_14,x_15):Ai) x1).bind fun r32 =>
  if (!r32) then
   (Cz K x0 ((x_10,x_11,x_12,x_13,x_14,x_15):Ai)).bind fun r36 =>
   if r36 then
    some false
   else
    (Ad K x0 ((x_10,x_11,x_12,x_13,x_14,x_15):Ai)).bind fun r39 =>
    Az.l1 K x0 x1 k r39.Kind r39.A r39.At r39.Move r39.List_ r39.Out
  else
   some true
def Az (K:Nat) (x0:Ac) (x1:Ai):Option Bool :=
 (Fa K x0 x1.Kind x1.A).bind fun r11 =>
 if (r11 != 0) then
  some false
 else
  (Dv K x1.Kind).bind fun r16 =>
  if (!r16) then
   if (x1.A != 0) then
    some false
   else
    (Bd K x0 x1.Kind x1.A).bind fun r29 =>
    Az.l1 K x0 x1 K r29.Kind r29.A r29.At r29.Move r29.List_ r29.Out
  else
   (Bd K x0 x1.Kind x1.A).bind fun r29 =>
   Az.l1 K x0 x1 K r29.Kind r29.A r29.At r29.Move r29.List_ r29.Out
abbrev Eo.sg:Sig:=⟨[(.agg,Cy),(.one,(.sl Da)),(.agg,Ce)],[],[(.one,.bool)],[]⟩
def Eo (K:Nat) (x0:Ag) (x1:List Am) (x2:A9):Option Bool :=
 if (!x2.Open) then
  (Dx K x2 ((false,0,false,0,((0,([]:List (List Int))):Ac),((0,0,0,false,([]:List Int),([]:List Int)):Ai)):A9)).bind fun r14 =>
  some r14
 else
  if (x2.Pin != 0) then
   (Dj K x0 x2.Pin).bind fun r22 =>
   if decide (r22<0) then
    some false
   else
    if (!x2.On) then
     if (x2.From != 0) then
      some false
     else
      (Dl K x2.Stage ((0,([]:List (List Int))):Ac)).bind fun r36 =>
      if (!r36) then
       some false
      else
       if x2.On then
        (Dz K x0).bind fun r47 =>
        (Cx K x2.From r47).bind fun r48 =>
        if (!r48) then
         some false
        else
         (Bu K x2.Stage).bind fun r53 =>
         if (!r53) then
          some false
         else
          (Cw K x2.Job ((0,0,0,false,([]:List Int),([]:List Int)):Ai)).bind fun r61 =>
          if r61 then
           some true
          else
           if (x2.Pin == 0) then
            some false
           else
            (Ar K x1 x2.Pin).bind fun r69 =>
            (Az K r69.1 x2.Job).bind fun r75 =>
            if r75 then
             (Cz K r69.1 x2.Job).bind fun r80 =>
             some (!r80)
            else
             some false
       else
        (Cw K x2.Job ((0,0,0,false,([]:List Int),([]:List Int)):Ai)).bind fun r61 =>
        if r61 then
         some true
        else
         if (x2.Pin == 0) then
          some false
         else
          (Ar K x1 x2.Pin).bind fun r69 =>
          (Az K r69.1 x2.Job).bind fun r75 =>
          if r75 then
           (Cz K r69.1 x2.Job).bind fun r80 =>
           some (!r80)
          else
           some false
    else
     if x2.On then
      (Dz K x0).bind fun r47 =>
      (Cx K x2.From r47).bind fun r48 =>
      if (!r48) then
       some false
      else
       (Bu K x2.Stage).bind fun r53 =>
       if (!r53) then
        some false
       else
        (Cw K x2.Job ((0,0,0,false,([]:List Int),([]:List Int)):Ai)).bind fun r61 =>
        if r61 then
         some true
        else
         if (x2.Pin == 0) then
          some false
         else
          (Ar K x1 x2.Pin).bind fun r69 =>
          (Az K r69.1 x2.Job).bind fun r75 =>
          if r75 then
           (Cz K r69.1 x2.Job).bind fun r80 =>
           some (!r80)
          else
           some false
     else
      (Cw K x2.Job ((0,0,0,false,([]:List Int),([]:List Int)):Ai)).bind fun r61 =>
      if r61 then
       some true
      else
       if (x2.Pin == 0) then
        some false
       else
        (Ar K x1 x2.Pin).bind fun r69 =>
        (Az K r69.1 x2.Job).bind fun r75 =>
        if r75 then
         (Cz K r69.1 x2.Job).bind fun r80 =>
         some (!r80)
        else
         some false
  else
   if (!x2.On) then
    if (x2.From != 0) then
     some false
    else
     (Dl K x2.Stage ((0,([]:List (List Int))):Ac)).bind fun r36 =>
     if (!r36) then
      some false
     else
      if x2.On then
       (Dz K x0).bind fun r47 =>
       (Cx K x2.From r47).bind fun r48 =>
       if (!r48) then
        some false
       else
        (Bu K x2.Stage).bind fun r53 =>
        if (!r53) then
         some false
        else
         (Cw K x2.Job ((0,0,0,false,([]:List Int),([]:List Int)):Ai)).bind fun r61 =>
         if r61 then
          some true
         else
          if (x2.Pin == 0) then
           some false
          else
           (Ar K x1 x2.Pin).bind fun r69 =>
           (Az K r69.1 x2.Job).bind fun r75 =>
           if r75 then
            (Cz K r69.1 x2.Job).bind fun r80 =>
            some (!r80)
           else
            some false
      else
       (Cw K x2.Job ((0,0,0,false,([]:List Int),([]:List Int)):Ai)).bind fun r61 =>
       if r61 then
        some true
       else
        if (x2.Pin == 0) then
         some false
        else
         (Ar K x1 x2.Pin).bind fun r69 =>
         (Az K r69.1 x2.Job).bind fun r75 =>
         if r75 then
          (Cz K r69.1 x2.Job).bind fun r80 =>
          some (!r80)
         else
          some false
   else
    if x2.On then
     (Dz K x0).bind fun r47 =>
     (Cx K x2.From r47).bind fun r48 =>
     if (!r48) then
      some false
     else
      (Bu K x2.Stage).bind fun r53 =>
      if (!r53) then
       some false
      else
       (Cw K x2.Job ((0,0,0,false,([]:List Int),([]:List Int)):Ai)).bind fun r61 =>
       if r61 then
        some true
       else
        if (x2.Pin == 0) then
         some false
        else
         (Ar K x1 x2.Pin).bind fun r69 =>
         (Az K r69.1 x2.Job).bind fun r75 =>
         if r75 then
          (Cz K r69.1 x2.Job).bind fun r80 =>
          some (!r80)
         else
          some false
    else
     (Cw K x2.Job ((0,0,0,false,([]:List Int),([]:List Int)):Ai)).bind fun r61 =>
     if r61 then
      some true
     else
      if (x2.Pin == 0) then
       some false
      else
       (Ar K x1 x2.Pin).bind fun r69 =>
       (Az K r69.1 x2.Job).bind fun r75 =>
       if r75 then
        (Cz K r69.1 x2.Job).bind fun r80 =>
        some (!r80)
       else
        some false
abbrev Be.sg:Sig:=⟨[(.agg,Cy)],[],[(.one,.bool)],[]⟩
def Be.l2 (K:Nat) (r32:List Am) (x0:Ag):Nat→Int→Option Bool
 | 0,_=>none
 | k+1,t_11 =>
  if decide (t_11<((x0.Sessions.length:Nat):Int)) then
   if (0:Int)≤t_11∧t_11<((x0.Sessions.length:Nat):Int) then
   (Eo K x0 r32 (nth x0.Sessions t_11)).bind fun r108 =>
   if (!r108) then
    some false
   else
    Be.l2 K r32 x0 k (wr .i64 (t_11+1))
   else none
  else
   some true
def Be.l1 (K:Nat) (r32:List Am) (x0:Ag):Nat→Int→Option Bool
 | 0,_=>none
 | k+1,t_10 =>
  if decide (t_10<((x0.Versions.length:Nat):Int)) then
   if (0:Int)≤t_10∧t_10<((x0.Versions.length:Nat):Int) then
   (Ar K r32 ((nth x0.Versions t_10).ID)).bind fun r60 =>
   if (r60.2 != 0) then
    some false
   else
    (Cx K ((nth x0.Versions t_10).Parent) (wr .i64 (((nth x0.Versions t_10).ID)-1))).bind fun r71 =>
    if (!r71) then
     some false
    else
     if (nth x0.Versions t_10).Tag then
      if (nth x0.Versions t_10).Gone then
       some false
      else
       if (nth x0.Versions t_10).Gone then
        if (t_10 == (wr .i64 (((x0.Versions.length:Nat):Int)-1))) then
         some false
        else
         Be.l1 K r32 x0 k (wr .i64 (t_10+1))
       else
        Be.l1 K r32 x0 k (wr .i64 (t_10+1))
     else
      if (nth x0.Versions t_10).Gone then
       if (t_10 == (wr .i64 (((x0.Versions.length:Nat):Int)-1))) then
        some false
       else
        Be.l1 K r32 x0 k (wr .i64 (t_10+1))
      else
       Be.l1 K r32 x0 k (wr .i64 (t_10+1))
   else none
  else
   Be.l2 K r32 x0 K (0:Int)
def Be (K:Nat) (x0:Ag):Option Bool :=
 (Bo K x0.Keep 1 8).bind fun r11 =>
 if (!r11) then
  some false
 else
  (Bo K x0.Blocks 1 100).bind fun r16 =>
  if (!r16) then
   some false
  else
   if decide (((x0.Versions.length:Nat):Int) > 12) then
    some false
   else
    if (((x0.Sessions.length:Nat):Int) != 3) then
     some false
    else
     (Br K x0).bind fun r32 =>
     (Bv K r32).bind fun r34 =>
     if (!r34) then
      some false
     else
      (Cq K x0).bind fun r38 =>
      (A8 K r38 x0.Blocks).bind fun r41 =>
      if (!r41) then
       some false
      else
       Be.l1 K r32 x0 K (0:Int)
abbrev Dg.sg:Sig:=⟨[(.one,(.int .i64))],[],[(.one,.str)],[]⟩
def Dg (K:Nat) (x0:Int):Option ByteArray :=
 if (0:Int)≤24 then
 if (0:Int)≤16 then
 if (0:Int)≤8 then
 some (bytesOf ([wr .u8 (x0.fdiv (2 ^ min ((24:Int)).toNat 64)),wr .u8 (x0.fdiv (2 ^ min ((16:Int)).toNat 64)),wr .u8 (x0.fdiv (2 ^ min ((8:Int)).toNat 64)),wr .u8 x0]:List Int))
 else none
 else none
 else none
abbrev Av.sg:Sig:=⟨[(.agg,Cy)],[],[(.one,.str)],[]⟩
def Av.j3 (K:Nat) (go_l1:ByteArray→Int→Option ByteArray) (b_10:ByteArray) (i_11:Int) (v_12:Int) (v_13:Int) (v_14:Int) (v_16:Int) (v_17:Int) (x0:Ag) (flags_21:Int):Option ByteArray :=
 (Dg K v_12).bind fun r41 =>
 if ((b_10.size+r41.size:Nat):Int)≤9223372036854775807 then
 (Dg K v_13).bind fun r45 =>
 if (((b_10++r41).size+r45.size:Nat):Int)≤9223372036854775807 then
 (Dg K v_14).bind fun r49 =>
 if ((((b_10++r41)++r45).size+r49.size:Nat):Int)≤9223372036854775807 then
 (Dg K v_16).bind fun r54 =>
 if (((((b_10++r41)++r45)++r49).size+r54.size:Nat):Int)≤9223372036854775807 then
 (Dg K v_17).bind fun r58 =>
 if ((((((b_10++r41)++r45)++r49)++r54).size+r58.size:Nat):Int)≤9223372036854775807 then
 (Dg K flags_21).bind fun r61 =>
 if (((((((b_10++r41)++r45)++r49)++r54)++r58).size+r61.size:Nat):Int)≤9223372036854775807 then
 go_l1 ((((((b_10++r41)++r45)++r49)++r54)++r58)++r61) (wr .i64 (i_11+1))
 else none
 else none
 else none
 else none
 else none
 else none
def Av.j2 (K:Nat) (go_l1:ByteArray→Int→Option ByteArray) (b_10:ByteArray) (i_11:Int) (x0:Ag) (flags_20:Int) (v_12:Int) (v_13:Int) (v_14:Int) (v_15:ByteArray) (v_16:Int) (v_17:Int) (v_18:Bool) (v_19:Bool):Option ByteArray :=
 if v_19 then
  Av.j3 K go_l1 b_10 i_11 v_12 v_13 v_14 v_16 v_17 x0 (wr .i64 (flags_20+2))
 else
  Av.j3 K go_l1 b_10 i_11 v_12 v_13 v_14 v_16 v_17 x0 flags_20
def Av.l1 (K:Nat) (x0:Ag):Nat→ByteArray→Int→Option ByteArray
 | 0,_,_=>none
 | k+1,b_10,i_11 =>
  if decide (i_11<((x0.Versions.length:Nat):Int)) then
   if (0:Int)≤i_11∧i_11<((x0.Versions.length:Nat):Int) then
   if (nth x0.Versions i_11).Tag then
    Av.j2 K (Av.l1 K x0 k) b_10 i_11 x0 (1:Int) ((nth x0.Versions i_11).ID) ((nth x0.Versions i_11).Parent) ((nth x0.Versions i_11).Base) (((nth x0.Versions i_11).Data).Data) (((nth x0.Versions i_11).Data).N) ((nth x0.Versions i_11).At) ((nth x0.Versions i_11).Tag) ((nth x0.Versions i_11).Gone)
   else
    Av.j2 K (Av.l1 K x0 k) b_10 i_11 x0 (0:Int) ((nth x0.Versions i_11).ID) ((nth x0.Versions i_11).Parent) ((nth x0.Versions i_11).Base) (((nth x0.Versions i_11).Data).Data) (((nth x0.Versions i_11).Data).N) ((nth x0.Versions i_11).At) ((nth x0.Versions i_11).Tag) ((nth x0.Versions i_11).Gone)
   else none
  else
   some b_10
def Av (K:Nat) (x0:Ag):Option ByteArray :=
 (Dg K x0.Keep).bind fun r9 =>
 if (((⟨#[72,69,82,66]⟩:ByteArray).size+r9.size:Nat):Int)≤9223372036854775807 then
 (Dg K x0.Blocks).bind fun r13 =>
 if ((((⟨#[72,69,82,66]⟩:ByteArray)++r9).size+r13.size:Nat):Int)≤9223372036854775807 then
 (Dg K ((x0.Versions.length:Nat):Int)).bind fun r18 =>
 if (((((⟨#[72,69,82,66]⟩:ByteArray)++r9)++r13).size+r18.size:Nat):Int)≤9223372036854775807 then
 Av.l1 K x0 K ((((⟨#[72,69,82,66]⟩:ByteArray)++r9)++r13)++r18) (0:Int)
 else none
 else none
 else none
abbrev D5.sg:Sig:=⟨[(.one,.str),(.one,.str)],[],[(.one,.bool)],[]⟩
def D5 (K:Nat) (x0:ByteArray) (x1:ByteArray):Option Bool :=
 if decide (((x0.size:Nat):Int)≥((x1.size:Nat):Int)) then
  if (0:Int)≤(0:Int)∧(0:Int)≤((x1.size:Nat):Int)∧((x1.size:Nat):Int)≤((x0.size:Nat):Int) then
  some ((x0.extract (0:Int).toNat ((x1.size:Nat):Int).toNat).toList == x1.toList)
  else none
 else
  some false
abbrev Fh.sg:Sig:=⟨[(.one,.str),(.one,.str)],[],[(.one,.bool)],[]⟩
def Fh (K:Nat) (x0:ByteArray) (x1:ByteArray):Option Bool :=
 (D5 K x0 x1).bind fun r7 =>
 some r7
abbrev Ay:Type:=ByteArray × Bool
abbrev G7:Ty:=(.pr .str .bool)
abbrev Ay.S (x:Ay):ByteArray:=x.1
abbrev Ay.Bad (x:Ay):Bool:=x.2
abbrev Al.sg:Sig:=⟨[(.box,G7)],[],[(.one,(.int .i64))],[]⟩
def Al.l1 (K:Nat) (x0:Ay):Nat→Int→Int→Int→(List Int)→Option (Int × Ay)
 | 0,_,_,_,_=>none
 | k+1,n_10,t_12,t_13,t_11 =>
  if decide (t_13<t_12) then
   if (0:Int)≤t_13∧t_13<((t_11.length:Nat):Int) then
   if (0:Int)≤8 then
   Al.l1 K x0 k (ib .or .i64 (wr .i64 (n_10*2 ^ min ((8:Int)).toNat 64)) (wr .i64 (nth t_11 t_13))) t_12 (wr .i64 (t_13+1)) t_11
   else none
   else none
  else
   if (0:Int)≤(4:Int)∧(4:Int)≤((x0.S.size:Nat):Int)∧((x0.S.size:Nat):Int)≤((x0.S.size:Nat):Int) then
   some (n_10,((x0.S.extract (4:Int).toNat ((x0.S.size:Nat):Int).toNat,x0.Bad):Ay))
   else none
def Al (K:Nat) (x0:Ay):Option (Int × Ay) :=
 if x0.Bad then
  some (0,((x0.S,true):Ay))
 else
  if decide (((x0.S.size:Nat):Int)<4) then
   some (0,((x0.S,true):Ay))
  else
   if (0:Int)≤(0:Int)∧(0:Int)≤(4:Int)∧(4:Int)≤((x0.S.size:Nat):Int) then
   Al.l1 K x0 K (0:Int) (((bytesL (x0.S.extract (0:Int).toNat (4:Int).toNat)).length:Nat):Int) (0:Int) (bytesL (x0.S.extract (0:Int).toNat (4:Int).toNat))
   else none
abbrev F4.sg:Sig:=sgRep
def F4 (K:Nat) (x0:ByteArray) (x1:Int):Option ByteArray:=repF x0 x1
abbrev Gi.sg:Sig:=⟨[(.one,(.int .i64))],[],[(.agg,Fy)],[]⟩
def Gi (K:Nat) (x0:Int):Option Cu :=
 if (8:Int)≠0 then
 (F4 K (⟨#[0]⟩:ByteArray) (wr .i64 ((wr .i64 ((wr .i64 (x0+8))-1)).tdiv 8))).bind fun r7 =>
 some ((r7,x0):Cu)
 else none
abbrev Dy.sg:Sig:=⟨[(.box,G7)],[],[(.agg,Bw)],[]⟩
def Dy (K:Nat) (x0:Ay):Option (Ao × Ay) :=
 (Al K x0).bind fun r7 =>
 (Al K r7.2).bind fun r9 =>
 (Al K r9.2).bind fun r11 =>
 (Al K r11.2).bind fun r14 =>
 if r14.2.Bad then
  some (((r7.1,r9.1,r11.1,((ByteArray.empty,0):Cu),0,false,false):Ao),((r14.2.S,true):Ay))
 else
  if decide (r14.1 > 6000) then
   some (((r7.1,r9.1,r11.1,((ByteArray.empty,0):Cu),0,false,false):Ao),((r14.2.S,true):Ay))
  else
   (Gi K r14.1).bind fun r28 =>
   (Al K r14.2).bind fun r30 =>
   (Al K r30.2).bind fun r34 =>
   if r34.2.Bad then
    some (((r7.1,r9.1,r11.1,r28,r30.1,(r34.1 == 1),(r34.1 == 2)):Ao),((r34.2.S,true):Ay))
   else
    some (((r7.1,r9.1,r11.1,r28,r30.1,(r34.1 == 1),(r34.1 == 2)):Ao),((r34.2.S,decide (r34.1 > 2)):Ay))
abbrev El.sg:Sig:=⟨[(.agg,Cy)],[],[(.one,(.sl Da))],[.o]⟩
def El.l1 (K:Nat) (x0:Ag):Nat→Int→Int→(List Am)→Option (List Am)
 | 0,_,_,_=>none
 | k+1,t_10,t_11,l_12 =>
  if decide (t_11<t_10) then
   if (0:Int)≤t_11∧t_11<((x0.Versions.length:Nat):Int) then
   if (l_12.length+([(((nth x0.Versions t_11).ID,(nth x0.Versions t_11).Base,((nth x0.Versions t_11).Data)):Am)]:List Am).length)*40≤140737488355328 then
   El.l1 K x0 k t_10 (wr .i64 (t_11+1)) (l_12++([(((nth x0.Versions t_11).ID,(nth x0.Versions t_11).Base,((nth x0.Versions t_11).Data)):Am)]:List Am))
   else none
   else none
  else
   some l_12
def El (K:Nat) (x0:Ag):Option (List Am) :=
 El.l1 K x0 K ((x0.Versions.length:Nat):Int) (0:Int) ([]:List Am)
abbrev Gl.sg:Sig:=⟨[(.agg,Fy)],[],[(.one,.bool)],[]⟩
def Gl (K:Nat) (x0:Cu):Option Bool :=
 if decide (x0.N<0) then
  some false
 else
  if decide (x0.N > 6000) then
   some false
  else
   if (8:Int)≠0 then
   if (((x0.Data.size:Nat):Int) != (wr .i64 ((wr .i64 ((wr .i64 (x0.N+8))-1)).tdiv 8))) then
    some false
   else
    if (8:Int)≠0 then
    if ((x0.N.tmod 8) == 0) then
     some true
    else
     if (0:Int)≤(wr .i64 (((x0.Data.size:Nat):Int)-1))∧(wr .i64 (((x0.Data.size:Nat):Int)-1))<((x0.Data.size:Nat):Int) then
     if (0:Int)≤(x0.N.tmod 8) then
     some ((ib .and .u8 (bt x0.Data (wr .i64 (((x0.Data.size:Nat):Int)-1))) ((255:Int).fdiv (2 ^ min ((x0.N.tmod 8)).toNat 8))) == 0)
     else none
     else none
    else none
   else none
abbrev Gm.sg:Sig:=⟨[(.agg,Da),(.box,(.int .i64))],[],[(.one,.bool)],[]⟩
def Gm (K:Nat) (x0:Am) (x1:Int):Option (Bool × Int) :=
 some ((x0.ID == x1),x1)
abbrev Aj.sg:Sig:=⟨[(.one,(.sl Da)),(.fn 157 1,.un),(.hid,(.int .i64))],[],[(.one,(.int .i64))],[]⟩
def Aj.l1 (K:Nat) (x0:List Am):Nat→Int→Int→Int→Option (Int × Int)
 | 0,_,_,_=>none
 | k+1,t_10,t_11,h_12 =>
  if decide (t_11<t_10) then
   if (0:Int)≤t_11∧t_11<((x0.length:Nat):Int) then
   (Gm K (nth x0 t_11) h_12).bind fun r16 =>
   if r16.1 then
    some (t_11,r16.2)
   else
    Aj.l1 K x0 k t_10 (wr .i64 (t_11+1)) r16.2
   else none
  else
   some ((-1),h_12)
def Aj (K:Nat) (x0:List Am) (x2:Int):Option (Int × Int) :=
 Aj.l1 K x0 K ((x0.length:Nat):Int) (0:Int) x2
abbrev Gf.sg:Sig:=⟨[(.one,(.sl Da)),(.one,(.int .i64))],[],[(.one,(.int .i64))],[]⟩
def Gf (K:Nat) (x0:List Am) (x1:Int):Option Int :=
 (Aj K x0 x1).bind fun r7 =>
 some r7.1
abbrev Eh.sg:Sig:=⟨[(.one,(.sl Da))],[],[(.one,.bool)],[]⟩
def Eh.l1 (K:Nat) (x0:List Am):Nat→Int→Int→Option Bool
 | 0,_,_=>none
 | k+1,t_10,t_11 =>
  if decide (t_11<t_10) then
   if (0:Int)≤t_11∧t_11<((x0.length:Nat):Int) then
   if decide (((nth x0 t_11).ID)<1) then
    some false
   else
    if decide (((nth x0 t_11).ID) > 1048576) then
     some false
    else
     if decide (t_11 > 0) then
      if (0:Int)≤(wr .i64 (t_11-1))∧(wr .i64 (t_11-1))<((x0.length:Nat):Int) then
      if decide (((nth x0 t_11).ID)≤((nth x0 (wr .i64 (t_11-1))).ID)) then
       some false
      else
       (Gl K ((nth x0 t_11).Data)).bind fun r41 =>
       if (!r41) then
        some false
       else
        if (((nth x0 t_11).Base) == ((nth x0 t_11).ID)) then
         some false
        else
         if (((nth x0 t_11).Base) != 0) then
          (Gf K x0 ((nth x0 t_11).Base)).bind fun r57 =>
          if decide (r57<0) then
           some false
          else
           Eh.l1 K x0 k t_10 (wr .i64 (t_11+1))
         else
          Eh.l1 K x0 k t_10 (wr .i64 (t_11+1))
      else none
     else
      (Gl K ((nth x0 t_11).Data)).bind fun r41 =>
      if (!r41) then
       some false
      else
       if (((nth x0 t_11).Base) == ((nth x0 t_11).ID)) then
        some false
       else
        if (((nth x0 t_11).Base) != 0) then
         (Gf K x0 ((nth x0 t_11).Base)).bind fun r57 =>
         if decide (r57<0) then
          some false
         else
          Eh.l1 K x0 k t_10 (wr .i64 (t_11+1))
        else
         Eh.l1 K x0 k t_10 (wr .i64 (t_11+1))
   else none
  else
   some true
def Eh (K:Nat) (x0:List Am):Option Bool :=
 if decide (((x0.length:Nat):Int) > 12) then
  some false
 else
  Eh.l1 K x0 K ((x0.length:Nat):Int) (0:Int)
abbrev D6.sg:Sig:=⟨[(.agg,Cy)],[],[(.one,.bool)],[]⟩
def D6.l1 (K:Nat) (x0:Ag):Nat→Int→Int→Option Bool
 | 0,_,_=>none
 | k+1,t_10,t_11 =>
  if decide (t_11<t_10) then
   if (0:Int)≤t_11∧t_11<((x0.Versions.length:Nat):Int) then
   if decide (((nth x0.Versions t_11).Parent)<0) then
    some false
   else
    if decide (((nth x0.Versions t_11).Parent)≥((nth x0.Versions t_11).ID)) then
     some false
    else
     if (nth x0.Versions t_11).Tag then
      if (nth x0.Versions t_11).Gone then
       some false
      else
       if (nth x0.Versions t_11).Gone then
        if (t_11 == (wr .i64 (((x0.Versions.length:Nat):Int)-1))) then
         some false
        else
         D6.l1 K x0 k t_10 (wr .i64 (t_11+1))
       else
        D6.l1 K x0 k t_10 (wr .i64 (t_11+1))
     else
      if (nth x0.Versions t_11).Gone then
       if (t_11 == (wr .i64 (((x0.Versions.length:Nat):Int)-1))) then
        some false
       else
        D6.l1 K x0 k t_10 (wr .i64 (t_11+1))
      else
       D6.l1 K x0 k t_10 (wr .i64 (t_11+1))
   else none
  else
   (El K x0).bind fun r63 =>
   (Eh K r63).bind fun r64 =>
   some r64
def D6 (K:Nat) (x0:Ag):Option Bool :=
 if decide (x0.Keep<1) then
  some false
 else
  if decide (x0.Keep > 8) then
   some false
  else
   if decide (x0.Blocks<1) then
    some false
   else
    if decide (x0.Blocks > 100) then
     some false
    else
     D6.l1 K x0 K ((x0.Versions.length:Nat):Int) (0:Int)
abbrev F9.sg:Sig:=⟨[(.agg,Fy)],[],[(.one,(.int .i64))],[]⟩
def F9 (K:Nat) (x0:Cu):Option Int :=
 if (60:Int)≠0 then
 some (wr .i64 ((wr .i64 ((wr .i64 ((wr .i64 (4+((x0.Data.size:Nat):Int)))+60))-1)).tdiv 60))
 else none
abbrev Ea.sg:Sig:=⟨[(.agg,Cy)],[],[(.one,(.sl Du))],[.o]⟩
def Ea.l1 (K:Nat) (x0:Ag):Nat→Int→Int→(List Ah)→Option (List Ah)
 | 0,_,_,_=>none
 | k+1,t_10,t_11,l_12 =>
  if decide (t_11<t_10) then
   if (0:Int)≤t_11∧t_11<((x0.Versions.length:Nat):Int) then
   (F9 K ((nth x0.Versions t_11).Data)).bind fun r17 =>
   if (l_12.length+([(((nth x0.Versions t_11).At,r17):Ah)]:List Ah).length)*16≤140737488355328 then
   Ea.l1 K x0 k t_10 (wr .i64 (t_11+1)) (l_12++([(((nth x0.Versions t_11).At,r17):Ah)]:List Ah))
   else none
   else none
  else
   some l_12
def Ea (K:Nat) (x0:Ag):Option (List Ah) :=
 Ea.l1 K x0 K ((x0.Versions.length:Nat):Int) (0:Int) ([]:List Ah)
abbrev Ga.sg:Sig:=⟨[(.one,(.int .i64))],[],[(.one,.bool)],[]⟩
def Ga (K:Nat) (x0:Int):Option Bool :=
 if decide (x0≥1) then
  some (decide (x0≤100))
 else
  some false
abbrev C9.sg:Sig:=⟨[(.one,(.sl Du)),(.one,(.int .i64))],[],[(.one,(.sl .bool)),(.one,.bool)],[.o]⟩
def C9.l2 (K:Nat) (go_l1:Int→Int→(List Bool)→Option ((List Bool) × Bool)) (t_11:Int) (t_12:Int) (x0:List Ah) (x1:Int):Nat→Int→(List Bool)→Int→Int→Option ((List Bool) × Bool)
 | 0,_,_,_,_=>none
 | k+1,t_15,t_16,t_13,t_14 =>
  if decide (t_15<(wr .i64 (t_13+t_14))) then
   if (0:Int)≤t_15∧t_15<((t_16.length:Nat):Int) then
   if nth t_16 t_15 then
    some (([]:List Bool),false)
   else
    if (0:Int)≤t_15∧t_15<((t_16.length:Nat):Int) then
    C9.l2 K go_l1 t_11 t_12 x0 x1 k (wr .i64 (t_15+1)) ((t_16).set t_15.toNat true) t_13 t_14
    else none
   else none
  else
   go_l1 t_11 (wr .i64 (t_12+1)) t_16
def C9.l1 (K:Nat) (x0:List Ah) (x1:Int):Nat→Int→Int→(List Bool)→Option ((List Bool) × Bool)
 | 0,_,_,_=>none
 | k+1,t_11,t_12,t_10 =>
  if decide (t_12<t_11) then
   if (0:Int)≤t_12∧t_12<((x0.length:Nat):Int) then
   if decide (((nth x0 t_12).Len)<1) then
    some (([]:List Bool),false)
   else
    if decide (((nth x0 t_12).At)<0) then
     some (([]:List Bool),false)
    else
     if decide (((nth x0 t_12).At)≥x1) then
      some (([]:List Bool),false)
     else
      if decide (((nth x0 t_12).Len) > (wr .i64 (x1-((nth x0 t_12).At)))) then
       some (([]:List Bool),false)
      else
       C9.l2 K (C9.l1 K x0 x1 k) t_11 t_12 x0 x1 K ((nth x0 t_12).At) t_10 ((nth x0 t_12).At) ((nth x0 t_12).Len)
   else none
  else
   some (t_10,true)
def C9 (K:Nat) (x0:List Ah) (x1:Int):Option ((List Bool) × Bool) :=
 (Ga K x1).bind fun r11 =>
 if (!r11) then
  some (([]:List Bool),false)
 else
  if decide (((x0.length:Nat):Int) > 13) then
   some (([]:List Bool),false)
  else
   if x1=x1∧(0:Int)≤x1∧(1:Int)*x1≤281474976710656∧x1≤9223372036854775807 then
   C9.l1 K x0 x1 K ((x0.length:Nat):Int) (0:Int) (List.replicate x1.toNat false)
   else none
abbrev Gj.sg:Sig:=⟨[(.one,(.sl Du)),(.one,(.int .i64))],[],[(.one,.bool)],[]⟩
def Gj (K:Nat) (x0:List Ah) (x1:Int):Option Bool :=
 (C9 K x0 x1).bind fun r10 =>
 some r10.2
abbrev Dw.sg:Sig:=⟨[(.one,.str)],[],[(.agg,Cy),(.one,.bool)],[.s,.s,.o,.o]⟩
def Dw.l1 (K:Nat) (r16:Int × Ay) (r18:Int × Ay) (r22:Int × Ay):Nat→Int→Int→Int→ByteArray→Bool→(List Ao)→(List A9)→Option (Ag × Bool)
 | 0,_,_,_,_,_,_,_=>none
 | k+1,t_13,t_10,t_11,t_14,t_15,t_16,t_12 =>
  if decide (t_13<r22.1) then
   (Dy K ((t_14,t_15):Ay)).bind fun r38 =>
   if (t_16.length+([r38.1]:List Ao).length)*64≤140737488355328 then
   Dw.l1 K r16 r18 r22 k (wr .i64 (t_13+1)) t_10 t_11 r38.2.S r38.2.Bad (t_16++([r38.1]:List Ao)) t_12
   else none
  else
   if t_15 then
    some (((0,0,([]:List Ao),([]:List A9)):Ag),false)
   else
    if (!(t_14.toList == ByteArray.empty.toList)) then
     some (((0,0,([]:List Ao),([]:List A9)):Ag),false)
    else
     (D6 K ((r16.1,r18.1,t_16,t_12):Ag)).bind fun r56 =>
     if (!r56) then
      some (((0,0,([]:List Ao),([]:List A9)):Ag),false)
     else
      (Ea K ((r16.1,r18.1,t_16,t_12):Ag)).bind fun r61 =>
      (Gj K r61 r18.1).bind fun r64 =>
      if (!r64) then
       some (((0,0,([]:List Ao),([]:List A9)):Ag),false)
      else
       some (((r16.1,r18.1,t_16,t_12):Ag),true)
def Dw (K:Nat) (x0:ByteArray):Option (Ag × Bool) :=
 (Fh K x0 (⟨#[72,69,82,66]⟩:ByteArray)).bind fun r8 =>
 if (!r8) then
  some (((0,0,([]:List Ao),([]:List A9)):Ag),false)
 else
  if (0:Int)≤(4:Int)∧(4:Int)≤((x0.size:Nat):Int)∧((x0.size:Nat):Int)≤((x0.size:Nat):Int) then
  (Al K ((x0.extract (4:Int).toNat ((x0.size:Nat):Int).toNat,false):Ay)).bind fun r16 =>
  (Al K r16.2).bind fun r18 =>
  if (3:Int)=(3:Int)∧(0:Int)≤(3:Int)∧(144:Int)*(3:Int)≤281474976710656∧(3:Int)≤9223372036854775807 then
  (Al K r18.2).bind fun r22 =>
  if r22.2.Bad then
   some (((0,0,([]:List Ao),([]:List A9)):Ag),false)
  else
   if decide (r22.1 > 12) then
    some (((0,0,([]:List Ao),([]:List A9)):Ag),false)
   else
    Dw.l1 K r16 r18 r22 K (0:Int) (0:Int) (0:Int) r22.2.S r22.2.Bad ([]:List Ao) (List.replicate (3:Int).toNat ((false,0,false,0,((0,[]):Ac),((0,0,0,false,[],[]):Ai)):A9))
  else none
  else none
abbrev F6.sg:Sig:=⟨[(.one,.str)],[],[(.agg,Cy),(.one,(.int .i64))],[.s,.s,.o,.o]⟩
def F6 (K:Nat) (x0:ByteArray):Option (Ag × Int) :=
 (Dw K x0).bind fun r8 =>
 if (!r8.2) then
  some (((0,0,([]:List Ao),([]:List A9)):Ag),9)
 else
  some (r8.1,0)
abbrev Cr.sg:Sig:=⟨[(.one,.str)],[],[(.one,(.int .i64))],[]⟩
def Cr (K:Nat) (x0:ByteArray):Option Int :=
 if (0:Int)≤(0:Int)∧(0:Int)<((x0.size:Nat):Int) then
 if (0:Int)≤24 then
 if (0:Int)≤(1:Int)∧(1:Int)<((x0.size:Nat):Int) then
 if (0:Int)≤16 then
 if (0:Int)≤(2:Int)∧(2:Int)<((x0.size:Nat):Int) then
 if (0:Int)≤8 then
 if (0:Int)≤(3:Int)∧(3:Int)<((x0.size:Nat):Int) then
 some (ib .or .i64 (ib .or .i64 (ib .or .i64 (wr .i64 ((wr .i64 (bt x0 0))*2 ^ min ((24:Int)).toNat 64)) (wr .i64 ((wr .i64 (bt x0 1))*2 ^ min ((16:Int)).toNat 64))) (wr .i64 ((wr .i64 (bt x0 2))*2 ^ min ((8:Int)).toNat 64))) (wr .i64 (bt x0 3)))
 else none
 else none
 else none
 else none
 else none
 else none
 else none
abbrev D7.sg:Sig:=⟨[(.one,(.int .i64)),(.one,(.int .i64))],[],[(.agg,Cy)],[.s,.s,.o,.o]⟩
def D7 (K:Nat) (x0:Int) (x1:Int):Option Ag :=
 if (3:Int)=(3:Int)∧(0:Int)≤(3:Int)∧(144:Int)*(3:Int)≤281474976710656∧(3:Int)≤9223372036854775807 then
 some ((x1,x0,([]:List Ao),List.replicate (3:Int).toNat ((false,0,false,0,((0,[]):Ac),((0,0,0,false,[],[]):Ai)):A9)):Ag)
 else none
abbrev Ex.sg:Sig:=⟨[(.one,(.int .i64))],[],[(.one,.str)],[]⟩
def Ex (K:Nat) (x0:Int):Option ByteArray :=
 if x0=x0∧(0:Int)≤x0∧(1:Int)*x0≤281474976710656∧x0≤9223372036854775807 then
 some (bytesOf (List.replicate x0.toNat (0:Int)))
 else none
abbrev Ey.sg:Sig:=⟨[(.one,(.int .i64))],[],[(.agg,Fy)],[]⟩
def Ey (K:Nat) (x0:Int):Option Cu :=
 if (8:Int)≠0 then
 (Ex K (wr .i64 ((wr .i64 (x0+7)).tdiv 8))).bind fun r6 =>
 some ((r6,x0):Cu)
 else none
abbrev Bb.sg:Sig:=⟨[(.one,.str)],[],[(.agg,Cy),(.one,.bool)],[.s,.s,.o,.o]⟩
def Bb.l2 (K:Nat) (r25:Ag) (r28:Int):Nat→Int→(List Ao)→Option (Ag × Bool)
 | 0,_,_=>none
 | k+1,t_13,t_15 =>
  if decide (t_13<r28) then
   if (0:Int)≤t_13∧t_13<((t_15.length:Nat):Int) then
   if (0:Int)≤t_13∧t_13<((t_15.length:Nat):Int) then
   (Cx K ((nth t_15 t_13).Parent) (wr .i64 (((nth t_15 t_13).ID)-1))).bind fun r130 =>
   if (!r130) then
    some (((0,0,([]:List Ao),([]:List A9)):Ag),false)
   else
    if (0:Int)≤t_13∧t_13<((t_15.length:Nat):Int) then
    if (nth t_15 t_13).Gone then
     if (t_13 == (wr .i64 (r28-1))) then
      some (((0,0,([]:List Ao),([]:List A9)):Ag),false)
     else
      Bb.l2 K r25 r28 k (wr .i64 (t_13+1)) t_15
    else
     Bb.l2 K r25 r28 k (wr .i64 (t_13+1)) t_15
    else none
   else none
   else none
  else
   some (((r25.Keep,r25.Blocks,t_15,r25.Sessions):Ag),true)
def Bb.l1 (K:Nat) (r25:Ag) (r28:Int) (x0:ByteArray):Nat→Int→Int→Int→(List Ao)→Option (Ag × Bool)
 | 0,_,_,_,_=>none
 | k+1,t_12,t_10,t_11,t_14 =>
  if decide (t_12<r28) then
   if (0:Int)≤(wr .i64 (16+(wr .i64 (24*t_12))))∧(wr .i64 (16+(wr .i64 (24*t_12))))≤((x0.size:Nat):Int)∧((x0.size:Nat):Int)≤((x0.size:Nat):Int) then
   if (0:Int)≤(20:Int)∧(20:Int)≤(((x0.extract (wr .i64 (16+(wr .i64 (24*t_12)))).toNat ((x0.size:Nat):Int).toNat).size:Nat):Int)∧(((x0.extract (wr .i64 (16+(wr .i64 (24*t_12)))).toNat ((x0.size:Nat):Int).toNat).size:Nat):Int)≤(((x0.extract (wr .i64 (16+(wr .i64 (24*t_12)))).toNat ((x0.size:Nat):Int).toNat).size:Nat):Int) then
   (Cr K ((x0.extract (wr .i64 (16+(wr .i64 (24*t_12)))).toNat ((x0.size:Nat):Int).toNat).extract (20:Int).toNat (((x0.extract (wr .i64 (16+(wr .i64 (24*t_12)))).toNat ((x0.size:Nat):Int).toNat).size:Nat):Int).toNat)).bind fun r64 =>
   if decide (r64 > 2) then
    some (((0,0,([]:List Ao),([]:List A9)):Ag),false)
   else
    if (0:Int)≤(12:Int)∧(12:Int)≤(((x0.extract (wr .i64 (16+(wr .i64 (24*t_12)))).toNat ((x0.size:Nat):Int).toNat).size:Nat):Int)∧(((x0.extract (wr .i64 (16+(wr .i64 (24*t_12)))).toNat ((x0.size:Nat):Int).toNat).size:Nat):Int)≤(((x0.extract (wr .i64 (16+(wr .i64 (24*t_12)))).toNat ((x0.size:Nat):Int).toNat).size:Nat):Int) then
    (Cr K ((x0.extract (wr .i64 (16+(wr .i64 (24*t_12)))).toNat ((x0.size:Nat):Int).toNat).extract (12:Int).toNat (((x0.extract (wr .i64 (16+(wr .i64 (24*t_12)))).toNat ((x0.size:Nat):Int).toNat).size:Nat):Int).toNat)).bind fun r70 =>
    if decide (r70 > 6000) then
     some (((0,0,([]:List Ao),([]:List A9)):Ag),false)
    else
     (Cr K (x0.extract (wr .i64 (16+(wr .i64 (24*t_12)))).toNat ((x0.size:Nat):Int).toNat)).bind fun r77 =>
     if (0:Int)≤(4:Int)∧(4:Int)≤(((x0.extract (wr .i64 (16+(wr .i64 (24*t_12)))).toNat ((x0.size:Nat):Int).toNat).size:Nat):Int)∧(((x0.extract (wr .i64 (16+(wr .i64 (24*t_12)))).toNat ((x0.size:Nat):Int).toNat).size:Nat):Int)≤(((x0.extract (wr .i64 (16+(wr .i64 (24*t_12)))).toNat ((x0.size:Nat):Int).toNat).size:Nat):Int) then
     (Cr K ((x0.extract (wr .i64 (16+(wr .i64 (24*t_12)))).toNat ((x0.size:Nat):Int).toNat).extract (4:Int).toNat (((x0.extract (wr .i64 (16+(wr .i64 (24*t_12)))).toNat ((x0.size:Nat):Int).toNat).size:Nat):Int).toNat)).bind fun r80 =>
     if (0:Int)≤(8:Int)∧(8:Int)≤(((x0.extract (wr .i64 (16+(wr .i64 (24*t_12)))).toNat ((x0.size:Nat):Int).toNat).size:Nat):Int)∧(((x0.extract (wr .i64 (16+(wr .i64 (24*t_12)))).toNat ((x0.size:Nat):Int).toNat).size:Nat):Int)≤(((x0.extract (wr .i64 (16+(wr .i64 (24*t_12)))).toNat ((x0.size:Nat):Int).toNat).size:Nat):Int) then
     (Cr K ((x0.extract (wr .i64 (16+(wr .i64 (24*t_12)))).toNat ((x0.size:Nat):Int).toNat).extract (8:Int).toNat (((x0.extract (wr .i64 (16+(wr .i64 (24*t_12)))).toNat ((x0.size:Nat):Int).toNat).size:Nat):Int).toNat)).bind fun r83 =>
     if (0:Int)≤(12:Int)∧(12:Int)≤(((x0.extract (wr .i64 (16+(wr .i64 (24*t_12)))).toNat ((x0.size:Nat):Int).toNat).size:Nat):Int)∧(((x0.extract (wr .i64 (16+(wr .i64 (24*t_12)))).toNat ((x0.size:Nat):Int).toNat).size:Nat):Int)≤(((x0.extract (wr .i64 (16+(wr .i64 (24*t_12)))).toNat ((x0.size:Nat):Int).toNat).size:Nat):Int) then
     (Cr K ((x0.extract (wr .i64 (16+(wr .i64 (24*t_12)))).toNat ((x0.size:Nat):Int).toNat).extract (12:Int).toNat (((x0.extract (wr .i64 (16+(wr .i64 (24*t_12)))).toNat ((x0.size:Nat):Int).toNat).size:Nat):Int).toNat)).bind fun r86 =>
     (Ey K r86).bind fun r87 =>
     if (0:Int)≤(16:Int)∧(16:Int)≤(((x0.extract (wr .i64 (16+(wr .i64 (24*t_12)))).toNat ((x0.size:Nat):Int).toNat).size:Nat):Int)∧(((x0.extract (wr .i64 (16+(wr .i64 (24*t_12)))).toNat ((x0.size:Nat):Int).toNat).size:Nat):Int)≤(((x0.extract (wr .i64 (16+(wr .i64 (24*t_12)))).toNat ((x0.size:Nat):Int).toNat).size:Nat):Int) then
     (Cr K ((x0.extract (wr .i64 (16+(wr .i64 (24*t_12)))).toNat ((x0.size:Nat):Int).toNat).extract (16:Int).toNat (((x0.extract (wr .i64 (16+(wr .i64 (24*t_12)))).toNat ((x0.size:Nat):Int).toNat).size:Nat):Int).toNat)).bind fun r90 =>
     if (t_14.length+([((r77,r80,r83,r87,r90,(r64 == 1),(r64 == 2)):Ao)]:List Ao).length)*64≤140737488355328 then
     Bb.l1 K r25 r28 x0 k (wr .i64 (t_12+1)) t_10 t_11 (t_14++([((r77,r80,r83,r87,r90,(r64 == 1),(r64 == 2)):Ao)]:List Ao))
     else none
     else none
     else none
     else none
     else none
    else none
   else none
   else none
  else
   (Br K ((r25.Keep,r25.Blocks,t_14,r25.Sessions):Ag)).bind fun r100 =>
   (Bv K r100).bind fun r101 =>
   if (!r101) then
    some (((0,0,([]:List Ao),([]:List A9)):Ag),false)
   else
    (Cq K ((r25.Keep,r25.Blocks,t_14,r25.Sessions):Ag)).bind fun r105 =>
    (A8 K r105 r25.Blocks).bind fun r108 =>
    if (!r108) then
     some (((0,0,([]:List Ao),([]:List A9)):Ag),false)
    else
     Bb.l2 K r25 r28 K (0:Int) t_14
def Bb (K:Nat) (x0:ByteArray):Option (Ag × Bool) :=
 if decide (((x0.size:Nat):Int)<16) then
  some (((0,0,([]:List Ao),([]:List A9)):Ag),false)
 else
  if (0:Int)≤(0:Int)∧(0:Int)≤(4:Int)∧(4:Int)≤((x0.size:Nat):Int) then
  if (!((x0.extract (0:Int).toNat (4:Int).toNat).toList == (⟨#[72,69,82,66]⟩:ByteArray).toList)) then
   some (((0,0,([]:List Ao),([]:List A9)):Ag),false)
  else
   if (0:Int)≤(8:Int)∧(8:Int)≤((x0.size:Nat):Int)∧((x0.size:Nat):Int)≤((x0.size:Nat):Int) then
   (Cr K (x0.extract (8:Int).toNat ((x0.size:Nat):Int).toNat)).bind fun r21 =>
   if (0:Int)≤(4:Int)∧(4:Int)≤((x0.size:Nat):Int)∧((x0.size:Nat):Int)≤((x0.size:Nat):Int) then
   (Cr K (x0.extract (4:Int).toNat ((x0.size:Nat):Int).toNat)).bind fun r24 =>
   (D7 K r21 r24).bind fun r25 =>
   if (0:Int)≤(12:Int)∧(12:Int)≤((x0.size:Nat):Int)∧((x0.size:Nat):Int)≤((x0.size:Nat):Int) then
   (Cr K (x0.extract (12:Int).toNat ((x0.size:Nat):Int).toNat)).bind fun r28 =>
   (Bo K r25.Keep 1 8).bind fun r31 =>
   if (!r31) then
    some (((0,0,([]:List Ao),([]:List A9)):Ag),false)
   else
    (Bo K r25.Blocks 1 100).bind fun r36 =>
    if (!r36) then
     some (((0,0,([]:List Ao),([]:List A9)):Ag),false)
    else
     if decide (r28 > 12) then
      some (((0,0,([]:List Ao),([]:List A9)):Ag),false)
     else
      if (((x0.size:Nat):Int) != (wr .i64 (16+(wr .i64 (24*r28))))) then
       some (((0,0,([]:List Ao),([]:List A9)):Ag),false)
      else
       Bb.l1 K r25 r28 x0 K (0:Int) (0:Int) (0:Int) r25.Versions
   else none
   else none
   else none
  else none
abbrev Ep.sg:Sig:=⟨[(.one,(.int .i64))],[],[(.one,(.int .i64))],[]⟩
def Ep (K:Nat) (x0:Int):Option Int :=
 some x0
abbrev Ch.sg:Sig:=⟨[(.one,(.sl Bw)),(.one,(.sl Bw))],[],[(.one,.bool)],[]⟩
def Ch.l1 (K:Nat) (x0:List Ao) (x1:List Ao):Nat→Int→Option Bool
 | 0,_=>none
 | k+1,i_10 =>
  if decide (i_10<((x0.length:Nat):Int)) then
   if (0:Int)≤i_10∧i_10<((x0.length:Nat):Int) then
   if (0:Int)≤i_10∧i_10<((x1.length:Nat):Int) then
   if (!((((nth x0 i_10).ID) == ((nth x1 i_10).ID)) && ((((nth x0 i_10).Parent) == ((nth x1 i_10).Parent)) && ((((nth x0 i_10).Base) == ((nth x1 i_10).Base)) && ((((((nth x0 i_10).Data).Data) == (((nth x1 i_10).Data).Data)) && (((((nth x0 i_10).Data).N) == (((nth x1 i_10).Data).N)) && true)) && ((((nth x0 i_10).At) == ((nth x1 i_10).At)) && ((((nth x0 i_10).Tag) == ((nth x1 i_10).Tag)) && ((((nth x0 i_10).Gone) == ((nth x1 i_10).Gone)) && true)))))))) then
    some false
   else
    Ch.l1 K x0 x1 k (wr .i64 (i_10+1))
   else none
   else none
  else
   some true
def Ch (K:Nat) (x0:List Ao) (x1:List Ao):Option Bool :=
 if (((x0.length:Nat):Int) != ((x1.length:Nat):Int)) then
  some false
 else
  Ch.l1 K x0 x1 K (0:Int)
abbrev Cb.sg:Sig:=⟨[(.one,(.sl Ce)),(.one,(.sl Ce))],[],[(.one,.bool)],[]⟩
def Cb.l1 (K:Nat) (x0:List A9) (x1:List A9):Nat→Int→Option Bool
 | 0,_=>none
 | k+1,i_10 =>
  if decide (i_10<((x0.length:Nat):Int)) then
   if (0:Int)≤i_10∧i_10<((x0.length:Nat):Int) then
   if (0:Int)≤i_10∧i_10<((x1.length:Nat):Int) then
   (Dx K (nth x0 i_10) (nth x1 i_10)).bind fun r25 =>
   if (!r25) then
    some false
   else
    Cb.l1 K x0 x1 k (wr .i64 (i_10+1))
   else none
   else none
  else
   some true
def Cb (K:Nat) (x0:List A9) (x1:List A9):Option Bool :=
 if (((x0.length:Nat):Int) != ((x1.length:Nat):Int)) then
  some false
 else
  Cb.l1 K x0 x1 K (0:Int)
abbrev D9.sg:Sig:=⟨[(.agg,Cy),(.agg,Cy)],[],[(.one,.bool)],[]⟩
def D9 (K:Nat) (x0:Ag) (x1:Ag):Option Bool :=
 if (x0.Keep == x1.Keep) then
  if (x0.Blocks == x1.Blocks) then
   (Ch K x0.Versions x1.Versions).bind fun r22 =>
   if r22 then
    (Cb K x0.Sessions x1.Sessions).bind fun r29 =>
    some r29
   else
    some false
  else
   some false
 else
  some false
abbrev Gx.sg:Sig:=⟨[(.agg,Di)],[],[(.one,.bool)],[]⟩
def Gx (K:Nat) (x0:Ac):Option Bool :=
 if (x0.N == 0) then
  some (((x0.Out.length:Nat):Int) == 0)
 else
  some false
abbrev Gy.sg:Sig:=⟨[(.agg,Fv)],[],[(.one,.bool)],[]⟩
def Gy (K:Nat) (x0:Ai):Option Bool :=
 if (x0.Kind == 0) then
  if (x0.A == 0) then
   if (x0.At == 0) then
    if (!x0.Move) then
     some ((wr .i64 (((x0.List_.length:Nat):Int)+((x0.Out.length:Nat):Int))) == 0)
    else
     some false
   else
    some false
  else
   some false
 else
  some false
abbrev Gq.sg:Sig:=⟨[(.agg,Bw),(.box,(.int .i64))],[],[(.one,.bool)],[]⟩
def Gq (K:Nat) (x0:Ao) (x1:Int):Option (Bool × Int) :=
 some ((x0.ID == x1),x1)
abbrev Ap.sg:Sig:=⟨[(.one,(.sl Bw)),(.fn 139 1,.un),(.hid,(.int .i64))],[],[(.one,(.int .i64))],[]⟩
def Ap.l1 (K:Nat) (x0:List Ao):Nat→Int→Int→Int→Option (Int × Int)
 | 0,_,_,_=>none
 | k+1,t_10,t_11,h_12 =>
  if decide (t_11<t_10) then
   if (0:Int)≤t_11∧t_11<((x0.length:Nat):Int) then
   (Gq K (nth x0 t_11) h_12).bind fun r16 =>
   if r16.1 then
    some (t_11,r16.2)
   else
    Ap.l1 K x0 k t_10 (wr .i64 (t_11+1)) r16.2
   else none
  else
   some ((-1),h_12)
def Ap (K:Nat) (x0:List Ao) (x2:Int):Option (Int × Int) :=
 Ap.l1 K x0 K ((x0.length:Nat):Int) (0:Int) x2
abbrev G5.sg:Sig:=⟨[(.agg,Cy),(.one,(.int .i64))],[],[(.one,(.int .i64))],[]⟩
def G5 (K:Nat) (x0:Ag) (x1:Int):Option Int :=
 (Ap K x0.Versions x1).bind fun r8 =>
 some r8.1
abbrev Ha.sg:Sig:=⟨[(.agg,Cy)],[],[(.one,(.int .i64))],[]⟩
def Ha (K:Nat) (x0:Ag):Option Int :=
 if (((x0.Versions.length:Nat):Int) == 0) then
  some (0:Int)
 else
  if (0:Int)≤(wr .i64 (((x0.Versions.length:Nat):Int)-1))∧(wr .i64 (((x0.Versions.length:Nat):Int)-1))<((x0.Versions.length:Nat):Int) then
  some ((nth x0.Versions (wr .i64 (((x0.Versions.length:Nat):Int)-1))).ID)
  else none
abbrev Gh.sg:Sig:=⟨[(.one,(.int .i64))],[],[(.one,.bool)],[]⟩
def Gh (K:Nat) (x0:Int):Option Bool :=
 if decide (x0≥0) then
  some (decide (x0<16))
 else
  some false
abbrev Er.sg:Sig:=⟨[(.one,(.sl (.int .i64)))],[],[(.one,.bool)],[]⟩
def Er.l1 (K:Nat) (x0:List Int):Nat→Int→Int→Option Bool
 | 0,_,_=>none
 | k+1,t_10,t_11 =>
  if decide (t_11<t_10) then
   if (0:Int)≤t_11∧t_11<((x0.length:Nat):Int) then
   (Gh K (nth x0 t_11)).bind fun r13 =>
   if (!r13) then
    some false
   else
    if decide (t_11 > 0) then
     if (0:Int)≤(wr .i64 (t_11-1))∧(wr .i64 (t_11-1))<((x0.length:Nat):Int) then
     if decide ((nth x0 t_11)≤(nth x0 (wr .i64 (t_11-1)))) then
      some false
     else
      Er.l1 K x0 k t_10 (wr .i64 (t_11+1))
     else none
    else
     Er.l1 K x0 k t_10 (wr .i64 (t_11+1))
   else none
  else
   some true
def Er (K:Nat) (x0:List Int):Option Bool :=
 Er.l1 K x0 K ((x0.length:Nat):Int) (0:Int)
abbrev Ej.sg:Sig:=⟨[(.agg,Di)],[],[(.one,(.int .i64))],[]⟩
def Ej.l1 (K:Nat) (x0:Ac):Nat→Int→Int→Int→Option Int
 | 0,_,_,_=>none
 | k+1,n_10,t_11,t_12 =>
  if decide (t_12<t_11) then
   if (0:Int)≤t_12∧t_12<((x0.Out.length:Nat):Int) then
   Ej.l1 K x0 k (wr .i64 (n_10+(((nth x0.Out t_12).length:Nat):Int))) t_11 (wr .i64 (t_12+1))
   else none
  else
   some n_10
def Ej (K:Nat) (x0:Ac):Option Int :=
 Ej.l1 K x0 K (0:Int) ((x0.Out.length:Nat):Int) (0:Int)
abbrev Ei.sg:Sig:=⟨[(.agg,Di)],[],[(.one,.bool)],[]⟩
def Ei.l1 (K:Nat) (x0:Ac):Nat→Int→Int→Option Bool
 | 0,_,_=>none
 | k+1,t_10,t_11 =>
  if decide (t_11<t_10) then
   if (0:Int)≤t_11∧t_11<((x0.Out.length:Nat):Int) then
   (Er K (nth x0.Out t_11)).bind fun r29 =>
   if (!r29) then
    some false
   else
    if decide ((((nth x0.Out t_11).length:Nat):Int) > 0) then
     if (0:Int)≤(wr .i64 ((((nth x0.Out t_11).length:Nat):Int)-1))∧(wr .i64 ((((nth x0.Out t_11).length:Nat):Int)-1))<(((nth x0.Out t_11).length:Nat):Int) then
     if decide ((nth (nth x0.Out t_11) (wr .i64 ((((nth x0.Out t_11).length:Nat):Int)-1)))≥x0.N) then
      some false
     else
      Ei.l1 K x0 k t_10 (wr .i64 (t_11+1))
     else none
    else
     Ei.l1 K x0 k t_10 (wr .i64 (t_11+1))
   else none
  else
   (Ej K x0).bind fun r49 =>
   some (decide (r49≤120))
def Ei (K:Nat) (x0:Ac):Option Bool :=
 if decide (x0.N<0) then
  some false
 else
  if decide (x0.N > 16) then
   some false
  else
   if (((x0.Out.length:Nat):Int) != x0.N) then
    some false
   else
    Ei.l1 K x0 K ((x0.Out.length:Nat):Int) (0:Int)
abbrev Gr.sg:Sig:=⟨[(.one,(.int .i64))],[],[(.agg,Di)],[.s,.o]⟩
def Gr (K:Nat) (x0:Int):Option Ac :=
 if x0=x0∧(0:Int)≤x0∧(24:Int)*x0≤281474976710656∧x0≤9223372036854775807 then
 some ((x0,List.replicate x0.toNat ([]:List Int)):Ac)
 else none
abbrev Hf.sg:Sig:=⟨[(.agg,Cy),(.one,(.int .i64))],[],[(.agg,Di)],[.s,.o]⟩
def Hf (K:Nat) (x0:Ag) (x1:Int):Option Ac :=
 if (x1 == 0) then
  (Gr K 0).bind fun r9 =>
  some r9
 else
  (El K x0).bind fun r12 =>
  none
abbrev Dh.sg:Sig:=⟨[(.agg,Cy),(.agg,Ce)],[],[(.one,.bool)],[]⟩
def Dh.j3 (K:Nat) (x0:Ag) (x1:A9) (t_12:Bool):Option Bool :=
 if t_12 then
  some false
 else
  (Gy K x1.Job).bind fun r83 =>
  if r83 then
   some true
  else
   if (x1.Pin == 0) then
    some false
   else
    (Hf K x0 x1.Pin).bind fun r91 =>
    none
def Dh.j2 (K:Nat) (x0:Ag) (x1:A9) (t_11:Bool):Option Bool :=
 if t_11 then
  some false
 else
  if (!x1.On) then
   if (x1.From != 0) then
    Dh.j3 K x0 x1 true
   else
    (Gx K x1.Stage).bind fun r76 =>
    Dh.j3 K x0 x1 (!r76)
  else
   Dh.j3 K x0 x1 false
def Dh.j1 (K:Nat) (x0:Ag) (x1:A9) (t_10:Bool):Option Bool :=
 if t_10 then
  some false
 else
  if x1.On then
   if decide (x1.From<0) then
    Dh.j2 K x0 x1 true
   else
    (Ha K x0).bind fun r55 =>
    if decide (x1.From > r55) then
     Dh.j2 K x0 x1 true
    else
     (Ei K x1.Stage).bind fun r61 =>
     Dh.j2 K x0 x1 (!r61)
  else
   Dh.j2 K x0 x1 false
def Dh (K:Nat) (x0:Ag) (x1:A9):Option Bool :=
 if (!x1.Open) then
  if (x1.Pin == 0) then
   if (!x1.On) then
    if (x1.From == 0) then
     (Gx K x1.Stage).bind fun r26 =>
     if r26 then
      (Gy K x1.Job).bind fun r31 =>
      some r31
     else
      some false
    else
     some false
   else
    some false
  else
   some false
 else
  if (x1.Pin != 0) then
   (G5 K x0 x1.Pin).bind fun r41 =>
   Dh.j1 K x0 x1 (decide (r41<0))
  else
   Dh.j1 K x0 x1 false
abbrev Gu.sg:Sig:=⟨[(.agg,Ce),(.box,Cy)],[],[(.one,.bool)],[]⟩
def Gu (K:Nat) (x0:A9) (x1:Ag):Option (Bool × Ag) :=
 (Dh K x1 x0).bind fun r6 =>
 some ((!r6),x1)
abbrev Aq.sg:Sig:=⟨[(.one,(.sl Ce)),(.fn 77 1,.un),(.hid,Cy)],[],[(.one,(.int .i64))],[]⟩
def Aq.l1 (K:Nat) (x0:List A9):Nat→Int→Int→Int→Int→(List Ao)→(List A9)→Option (Int × Ag)
 | 0,_,_,_,_,_,_=>none
 | k+1,t_10,t_11,h_12,h_13,h_14,h_15 =>
  if decide (t_11<t_10) then
   if (0:Int)≤t_11∧t_11<((x0.length:Nat):Int) then
   (Gu K (nth x0 t_11) ((h_12,h_13,h_14,h_15):Ag)).bind fun r16 =>
   if r16.1 then
    some (t_11,r16.2)
   else
    Aq.l1 K x0 k t_10 (wr .i64 (t_11+1)) r16.2.Keep r16.2.Blocks r16.2.Versions r16.2.Sessions
   else none
  else
   some ((-1),((h_12,h_13,h_14,h_15):Ag))
def Aq (K:Nat) (x0:List A9) (x2:Ag):Option (Int × Ag) :=
 Aq.l1 K x0 K ((x0.length:Nat):Int) (0:Int) x2.Keep x2.Blocks x2.Versions x2.Sessions
abbrev De.sg:Sig:=⟨[(.one,(.sl Ce)),(.fn 77 1,.un),(.hid,Cy)],[],[(.one,.bool)],[]⟩
def De (K:Nat) (x0:List A9) (x2:Ag):Option (Bool × Ag) :=
 (Aq K x0 x2).bind fun r7 =>
 some (decide (r7.1≥0),r7.2)
abbrev F3.sg:Sig:=⟨[(.agg,Cy)],[],[(.one,.bool)],[]⟩
def F3.l1 (K:Nat) (r18:List Am) (x0:Ag):Nat→Int→Int→Option Bool
 | 0,_,_=>none
 | k+1,t_10,t_11 =>
  if decide (t_11<t_10) then
   if (0:Int)≤t_11∧t_11<((r18.length:Nat):Int) then
   none
   else none
  else
   (De K x0.Sessions x0).bind fun r38 =>
   some (!r38.1)
def F3 (K:Nat) (x0:Ag):Option Bool :=
 (D6 K x0).bind fun r9 =>
 if (!r9) then
  some false
 else
  if (((x0.Sessions.length:Nat):Int) != 3) then
   some false
  else
   (El K x0).bind fun r18 =>
   F3.l1 K r18 x0 K ((r18.length:Nat):Int) (0:Int)
abbrev He.sg:Sig:=⟨[(.agg,Cy)],[],[(.one,.bool)],[]⟩
def He (K:Nat) (x0:Ag):Option Bool :=
 (F3 K x0).bind fun r4 =>
 if r4 then
  (Ea K x0).bind fun r7 =>
  (Gj K r7 x0.Blocks).bind fun r10 =>
  some r10
 else
  some false
abbrev D8.sg:Sig:=⟨[(.one,.str),(.one,(.sl (.int .i64)))],[],[(.one,.str)],[]⟩
def D8.l1 (K:Nat) (x1:List Int):Nat→Int→Int→(List Int)→Option ByteArray
 | 0,_,_,_=>none
 | k+1,t_11,t_12,b_10 =>
  if decide (t_12<t_11) then
   if (0:Int)≤t_12∧t_12<((x1.length:Nat):Int) then
   if (0:Int)≤24 then
   if (0:Int)≤16 then
   if (0:Int)≤8 then
   if (b_10.length+([wr .u8 ((nth x1 t_12).fdiv (2 ^ min ((24:Int)).toNat 64)),wr .u8 ((nth x1 t_12).fdiv (2 ^ min ((16:Int)).toNat 64)),wr .u8 ((nth x1 t_12).fdiv (2 ^ min ((8:Int)).toNat 64)),wr .u8 (nth x1 t_12)]:List Int).length)*1≤140737488355328 then
   D8.l1 K x1 k t_11 (wr .i64 (t_12+1)) (b_10++([wr .u8 ((nth x1 t_12).fdiv (2 ^ min ((24:Int)).toNat 64)),wr .u8 ((nth x1 t_12).fdiv (2 ^ min ((16:Int)).toNat 64)),wr .u8 ((nth x1 t_12).fdiv (2 ^ min ((8:Int)).toNat 64)),wr .u8 (nth x1 t_12)]:List Int))
   else none
   else none
   else none
   else none
   else none
  else
   some (bytesOf b_10)
def D8 (K:Nat) (x0:ByteArray) (x1:List Int):Option ByteArray :=
 D8.l1 K x1 K ((x1.length:Nat):Int) (0:Int) (bytesL x0)
abbrev Gv.sg:Sig:=⟨[(.agg,Bw)],[],[(.one,(.int .i64))],[]⟩
def Gv (K:Nat) (x0:Ao):Option Int :=
 if x0.Tag then
  some (1:Int)
 else
  if x0.Gone then
   some (2:Int)
  else
   some (0:Int)
abbrev Eu.sg:Sig:=⟨[(.agg,Cy)],[],[(.one,.str)],[]⟩
def Eu.l1 (K:Nat) (x0:Ag):Nat→ByteArray→Int→Int→Option ByteArray
 | 0,_,_,_=>none
 | k+1,b_12,t_10,t_11 =>
  if decide (t_11<t_10) then
   if (0:Int)≤t_11∧t_11<((x0.Versions.length:Nat):Int) then
   (Gv K (nth x0.Versions t_11)).bind fun r35 =>
   (D8 K b_12 ([(nth x0.Versions t_11).ID,(nth x0.Versions t_11).Parent,(nth x0.Versions t_11).Base,((nth x0.Versions t_11).Data).N,(nth x0.Versions t_11).At,r35]:List Int)).bind fun r37 =>
   Eu.l1 K x0 k r37 t_10 (wr .i64 (t_11+1))
   else none
  else
   some b_12
def Eu (K:Nat) (x0:Ag):Option ByteArray :=
 (D8 K (⟨#[72,69,82,66]⟩:ByteArray) ([x0.Keep,x0.Blocks,((x0.Versions.length:Nat):Int)]:List Int)).bind fun r14 =>
 Eu.l1 K x0 K r14 ((x0.Versions.length:Nat):Int) (0:Int)
abbrev Gs.sg:Sig:=⟨[(.agg,Cy)],[],[(.one,.str),(.one,(.int .i64))],[]⟩
def Gs (K:Nat) (x0:Ag):Option (ByteArray × Int) :=
 (He K x0).bind fun r5 =>
 if (!r5) then
  some (ByteArray.empty,1)
 else
  (Eu K x0).bind fun r8 =>
  some (r8,0)
abbrev En.sg:Sig:=⟨[],[],[(.one,.bool)],[]⟩
def En (K:Nat):Option Bool :=
 (D7 K 9 2).bind fun r6 =>
 (Gs K r6).bind fun r7 =>
 (F6 K r7.1).bind fun r12 =>
 (Ep K r7.2).bind fun r16 =>
 if (r16 == 0) then
  (Ep K r12.2).bind fun r20 =>
  if (r20 == 0) then
   if (((r7.1.size:Nat):Int) == 16) then
    if (r12.1.Keep == 2) then
     some (r12.1.Blocks == 9)
    else
     some false
   else
    some false
  else
   some false
 else
  some false
abbrev Af.sg:Sig:=⟨[(.agg,Gz)],[],[(.one,.bool)],[]⟩
def Af.l3 (K:Nat) (go_l1:Int→Option Bool) (go_l2:Int→Option Bool) (r38:ByteArray) (t_10:Int) (t_11:Int) (x0:Dr):Nat→Int→Option Bool
 | 0,_=>none
 | k+1,t_12 =>
  if decide (t_12<6) then
   if (0:Int)≤t_12∧t_12<((([(⟨#[0,0,0,0]⟩:ByteArray),(⟨#[0,0,0,1]⟩:ByteArray),(⟨#[0,0,0,3]⟩:ByteArray),(⟨#[0,16,0,1]⟩:ByteArray),(⟨#[255,255,255,255]⟩:ByteArray),(⟨#[0,0,0,8]⟩:ByteArray)]:List ByteArray).length:Nat):Int) then
   if (0:Int)≤(0:Int)∧(0:Int)≤t_11∧t_11≤((r38.size:Nat):Int) then
   if (((r38.extract (0:Int).toNat t_11.toNat).size+(nth ([(⟨#[0,0,0,0]⟩:ByteArray),(⟨#[0,0,0,1]⟩:ByteArray),(⟨#[0,0,0,3]⟩:ByteArray),(⟨#[0,16,0,1]⟩:ByteArray),(⟨#[255,255,255,255]⟩:ByteArray),(⟨#[0,0,0,8]⟩:ByteArray)]:List ByteArray) t_12).size:Nat):Int)≤9223372036854775807 then
   if (0:Int)≤(wr .i64 (t_11+4))∧(wr .i64 (t_11+4))≤((r38.size:Nat):Int)∧((r38.size:Nat):Int)≤((r38.size:Nat):Int) then
   if ((((r38.extract (0:Int).toNat t_11.toNat)++(nth ([(⟨#[0,0,0,0]⟩:ByteArray),(⟨#[0,0,0,1]⟩:ByteArray),(⟨#[0,0,0,3]⟩:ByteArray),(⟨#[0,16,0,1]⟩:ByteArray),(⟨#[255,255,255,255]⟩:ByteArray),(⟨#[0,0,0,8]⟩:ByteArray)]:List ByteArray) t_12)).size+(r38.extract (wr .i64 (t_11+4)).toNat ((r38.size:Nat):Int).toNat).size:Nat):Int)≤9223372036854775807 then
   (F6 K (((r38.extract (0:Int).toNat t_11.toNat)++(nth ([(⟨#[0,0,0,0]⟩:ByteArray),(⟨#[0,0,0,1]⟩:ByteArray),(⟨#[0,0,0,3]⟩:ByteArray),(⟨#[0,16,0,1]⟩:ByteArray),(⟨#[255,255,255,255]⟩:ByteArray),(⟨#[0,0,0,8]⟩:ByteArray)]:List ByteArray) t_12))++(r38.extract (wr .i64 (t_11+4)).toNat ((r38.size:Nat):Int).toNat))).bind fun r66 =>
   (Bb K (((r38.extract (0:Int).toNat t_11.toNat)++(nth ([(⟨#[0,0,0,0]⟩:ByteArray),(⟨#[0,0,0,1]⟩:ByteArray),(⟨#[0,0,0,3]⟩:ByteArray),(⟨#[0,16,0,1]⟩:ByteArray),(⟨#[255,255,255,255]⟩:ByteArray),(⟨#[0,0,0,8]⟩:ByteArray)]:List ByteArray) t_12))++(r38.extract (wr .i64 (t_11+4)).toNat ((r38.size:Nat):Int).toNat))).bind fun r71 =>
   (Ep K r66.2).bind fun r76 =>
   if (!(r71.2 == (r76 == 0))) then
    some false
   else
    if (!r71.2) then
     (Ep K r66.2).bind fun r84 =>
     if (r84 != 9) then
      some false
     else
      (D9 K r66.1 r71.1).bind fun r91 =>
      if (!r91) then
       some false
      else
       Af.l3 K go_l1 go_l2 r38 t_10 t_11 x0 k (wr .i64 (t_12+1))
    else
     (D9 K r66.1 r71.1).bind fun r91 =>
     if (!r91) then
      some false
     else
      Af.l3 K go_l1 go_l2 r38 t_10 t_11 x0 k (wr .i64 (t_12+1))
   else none
   else none
   else none
   else none
   else none
  else
   go_l2 (wr .i64 (t_11+4))
def Af.l2 (K:Nat) (go_l1:Int→Option Bool) (r38:ByteArray) (t_10:Int) (x0:Dr):Nat→Int→Option Bool
 | 0,_=>none
 | k+1,t_11 =>
  if decide ((wr .i64 (t_11+4))≤((r38.size:Nat):Int)) then
   Af.l3 K go_l1 (Af.l2 K go_l1 r38 t_10 x0 k) r38 t_10 t_11 x0 K (0:Int)
  else
   go_l1 (wr .i64 (t_10+1))
def Af.l1 (K:Nat) (x0:Dr):Nat→Int→Option Bool
 | 0,_=>none
 | k+1,t_10 =>
  if decide (t_10<((x0.S.length:Nat):Int)) then
   if decide (t_10<2) then
    if (0:Int)≤t_10∧t_10<((x0.S.length:Nat):Int) then
    (Be K (nth x0.S t_10)).bind fun r31 =>
    if (!r31) then
     Af.l1 K x0 k (wr .i64 (t_10+1))
    else
     if (0:Int)≤t_10∧t_10<((x0.S.length:Nat):Int) then
     (Av K (nth x0.S t_10)).bind fun r38 =>
     Af.l2 K (Af.l1 K x0 k) r38 t_10 x0 K (4:Int)
     else none
    else none
   else
    (En K).bind fun r94 =>
    some r94
  else
   (En K).bind fun r94 =>
   some r94
def Af (K:Nat) (x0:Dr):Option Bool :=
 (Cv K x0).bind fun r14 =>
 if r14 then
  some true
 else
  Af.l1 K x0 K (0:Int)
abbrev sortF (xs:List Int):List Int:=xs.mergeSort fun x y=>decide (x≤y)
def Hd (K:Nat) (x0:Cu) (x1:Int):Option Int :=
 if (8:Int)≠0 then
 if (0:Int)≤(wr .i64 (x1.tdiv 8))∧(wr .i64 (x1.tdiv 8))<((x0.Data.size:Nat):Int) then
 if (8:Int)≠0 then
 if (0:Int)≤(wr .i64 (7-(x1.tmod 8))) then
 some (ib .and .i64 (wr .i64 ((bt x0.Data (wr .i64 (x1.tdiv 8))).fdiv (2 ^ min ((wr .i64 (7-(x1.tmod 8)))).toNat 8))) 1)
 else none
 else none
 else none
 else none
def F8.l1 (K:Nat) (x0:Cu) (x1:Int):Nat→Int→Option Int
 | 0,_=>none
 | k+1,i_10 =>
  if decide (i_10<x0.N) then
   (Hd K x0 i_10).bind fun r15 =>
   if (r15 == 1) then
    some (wr .i64 (i_10-x1))
   else
    F8.l1 K x0 x1 k (wr .i64 (i_10+1))
  else
   some ((-1):Int)
def F8 (K:Nat) (x0:Cu) (x1:Int):Option Int :=
 F8.l1 K x0 x1 K x1
abbrev Cg:Type:=Cu × Int × Bool
abbrev Cg.b (x:Cg):Cu:=x.1
abbrev Cg.at_ (x:Cg):Int:=x.2.1
abbrev Cg.bad (x:Cg):Bool:=x.2.2
def Gn (K:Nat) (x0:Cg) (x1:Int):Option (Int × Cg) :=
 (F8 K x0.b x0.at_).bind fun r14 =>
 if x0.bad then
  some (0,((x0.b,x0.at_,true):Cg))
 else
  if decide (r14<0) then
   some (0,((x0.b,x0.at_,true):Cg))
  else
   if decide (r14 > x1) then
    some (0,((x0.b,x0.at_,true):Cg))
   else
    some (r14,((x0.b,wr .i64 (x0.at_+r14),x0.bad):Cg))
def Gb.l1 (K:Nat) (x0:Cu) (x1:Int) (x2:Int):Nat→Int→Int→Option (Int × Bool)
 | 0,_,_=>none
 | k+1,v_10,t_11 =>
  if decide (t_11<x2) then
   if (0:Int)≤1 then
   (Hd K x0 (wr .i64 (x1+t_11))).bind fun r32 =>
   Gb.l1 K x0 x1 x2 k (ib .or .i64 (wr .i64 (v_10*2 ^ min ((1:Int)).toNat 64)) r32) (wr .i64 (t_11+1))
   else none
  else
   some (v_10,true)
def Gb (K:Nat) (x0:Cu) (x1:Int) (x2:Int):Option (Int × Bool) :=
 if decide (x1 > x0.N) then
  some (0,false)
 else
  if decide (x2 > (wr .i64 (x0.N-x1))) then
   some (0,false)
  else
   Gb.l1 K x0 x1 x2 K (0:Int) (0:Int)
def Fq (K:Nat) (x0:Cg) (x1:Int):Option (Int × Cg) :=
 (Gb K x0.b x0.at_ x1).bind fun r17 =>
 if x0.bad then
  some (0,((x0.b,x0.at_,true):Cg))
 else
  if (!r17.2) then
   some (0,((x0.b,x0.at_,true):Cg))
  else
   some (r17.1,((x0.b,wr .i64 (x0.at_+x1),x0.bad):Cg))
def G8 (K:Nat) (x0:Cg) (x1:Int):Option (Int × Cg) :=
 (Gn K x0 (wr .i64 (x1-1))).bind fun r9 =>
 (Fq K r9.2 1).bind fun r11 =>
 some (wr .i64 (r9.1+1),r11.2)
def Gg (K:Nat) (x0:Cg):Option (Int × Cg) :=
 (Gn K x0 30).bind fun r5 =>
 (Fq K r5.2 (wr .i64 (r5.1+1))).bind fun r9 =>
 some (r9.1,r9.2)
def Hg (K:Nat) (x0:Cg):Option (Int × Cg) :=
 (Gg K x0).bind fun r5 =>
 if r5.2.bad then
  some (0,((r5.2.b,r5.2.at_,true):Cg))
 else
  if decide ((wr .i64 (r5.1-1)) > 30) then
   some (0,((r5.2.b,r5.2.at_,true):Cg))
  else
   if (0:Int)≤(wr .i64 (r5.1-1)) then
   (Fq K r5.2 (wr .i64 (r5.1-1))).bind fun r22 =>
   some (ib .or .i64 (wr .i64 ((1:Int)*2 ^ min ((wr .i64 (r5.1-1))).toNat 64)) r22.1,r22.2)
   else none
def Hy (K:Nat) (x0:Int):Option Int :=
 some (wr .i64 ((wr .i64 (x0-4))+2))
def E5.j3 (K:Nat) (x_14:Int) (n_15:Int):Option Int :=
 if (0:Int)≤(wr .u8 x_14)∧(wr .u8 x_14)<(((⟨#[0,1,2,2,3,3,3,3,4,4,4,4,4,4,4,4,5,5,5,5,5,5,5,5,5,5,5,5,5,5,5,5,6,6,6,6,6,6,6,6,6,6,6,6,6,6,6,6,6,6,6,6,6,6,6,6,6,6,6,6,6,6,6,6,7,7,7,7,7,7,7,7,7,7,7,7,7,7,7,7,7,7,7,7,7,7,7,7,7,7,7,7,7,7,7,7,7,7,7,7,7,7,7,7,7,7,7,7,7,7,7,7,7,7,7,7,7,7,7,7,7,7,7,7,7,7,7,7,8,8,8,8,8,8,8,8,8,8,8,8,8,8,8,8,8,8,8,8,8,8,8,8,8,8,8,8,8,8,8,8,8,8,8,8,8,8,8,8,8,8,8,8,8,8,8,8,8,8,8,8,8,8,8,8,8,8,8,8,8,8,8,8,8,8,8,8,8,8,8,8,8,8,8,8,8,8,8,8,8,8,8,8,8,8,8,8,8,8,8,8,8,8,8,8,8,8,8,8,8,8,8,8,8,8,8,8,8,8,8,8,8,8,8,8,8,8,8,8,8,8,8,8,8,8,8,8]⟩:ByteArray).size:Nat):Int) then
 some (wr .i64 (n_15+(wr .i64 (bt (⟨#[0,1,2,2,3,3,3,3,4,4,4,4,4,4,4,4,5,5,5,5,5,5,5,5,5,5,5,5,5,5,5,5,6,6,6,6,6,6,6,6,6,6,6,6,6,6,6,6,6,6,6,6,6,6,6,6,6,6,6,6,6,6,6,6,7,7,7,7,7,7,7,7,7,7,7,7,7,7,7,7,7,7,7,7,7,7,7,7,7,7,7,7,7,7,7,7,7,7,7,7,7,7,7,7,7,7,7,7,7,7,7,7,7,7,7,7,7,7,7,7,7,7,7,7,7,7,7,7,8,8,8,8,8,8,8,8,8,8,8,8,8,8,8,8,8,8,8,8,8,8,8,8,8,8,8,8,8,8,8,8,8,8,8,8,8,8,8,8,8,8,8,8,8,8,8,8,8,8,8,8,8,8,8,8,8,8,8,8,8,8,8,8,8,8,8,8,8,8,8,8,8,8,8,8,8,8,8,8,8,8,8,8,8,8,8,8,8,8,8,8,8,8,8,8,8,8,8,8,8,8,8,8,8,8,8,8,8,8,8,8,8,8,8,8,8,8,8,8,8,8,8,8,8,8,8,8]⟩:ByteArray) (wr .u8 x_14)))))
 else none
def E5.j2 (K:Nat) (x_12:Int) (n_13:Int):Option Int :=
 if decide (x_12≥256) then
  if (0:Int)≤8 then
  E5.j3 K (x_12.fdiv (2 ^ min ((8:Int)).toNat 64)) (wr .i64 (n_13+8))
  else none
 else
  E5.j3 K x_12 n_13
def E5.j1 (K:Nat) (x_10:Int) (n_11:Int):Option Int :=
 if decide (x_10≥65536) then
  if (0:Int)≤16 then
  E5.j2 K (x_10.fdiv (2 ^ min ((16:Int)).toNat 64)) (wr .i64 (n_11+16))
  else none
 else
  E5.j2 K x_10 n_11
def E5 (K:Nat) (x0:Int):Option Int :=
 if decide (x0≥4294967296) then
  if (0:Int)≤32 then
  E5.j1 K (x0.fdiv (2 ^ min ((32:Int)).toNat 64)) (32:Int)
  else none
 else
  E5.j1 K x0 (0:Int)
def Hu (K:Nat) (x0:Int):Option Int :=
 (E5 K x0).bind fun r7 =>
 some r7
def Hz (K:Nat) (x0:Int) (x1:Int):Option (Int × Int × Int × Int) :=
 if (0:Int)≤(wr .i64 (x1*x0)) then
 if (0:Int)≤x0 then
 (Hu K (wr .u64 (wr .i64 ((wr .i64 ((wr .i64 ((wr .i64 ((1:Int)*2 ^ min ((wr .i64 (x1*x0))).toNat 64))*2 ^ min (x0).toNat 64))-(wr .i64 ((1:Int)*2 ^ min ((wr .i64 (x1*x0))).toNat 64))))-1)))).bind fun r20 =>
 if (0:Int)≤r20 then
 some (wr .i64 ((1:Int)*2 ^ min ((wr .i64 (x1*x0))).toNat 64),wr .i64 ((wr .i64 ((wr .i64 ((1:Int)*2 ^ min ((wr .i64 (x1*x0))).toNat 64))*2 ^ min (x0).toNat 64))-(wr .i64 ((1:Int)*2 ^ min ((wr .i64 (x1*x0))).toNat 64))),r20,wr .i64 ((wr .i64 ((1:Int)*2 ^ min (r20).toNat 64))-(wr .i64 ((wr .i64 ((wr .i64 ((1:Int)*2 ^ min ((wr .i64 (x1*x0))).toNat 64))*2 ^ min (x0).toNat 64))-(wr .i64 ((1:Int)*2 ^ min ((wr .i64 (x1*x0))).toNat 64))))))
 else none
 else none
 else none
def Hl (K:Nat) (x0:Cg) (x1:Int):Option (Int × Cg) :=
 if x1≠0 then
 (G8 K x0 (wr .i64 ((wr .i64 ((30:Int).tdiv x1))+1))).bind fun r15 =>
 if r15.2.bad then
  some (0,r15.2)
 else
  (Hz K x1 (wr .i64 (r15.1-1))).bind fun r24 =>
  (Fq K r15.2 (wr .i64 (r24.2.2.1-1))).bind fun r32 =>
  if decide (r32.1≥r24.2.2.2) then
   if (0:Int)≤1 then
   (Fq K r32.2 1).bind fun r39 =>
   some (wr .i64 (r24.1+(wr .i64 ((wr .i64 ((wr .i64 (r32.1*2 ^ min ((1:Int)).toNat 64))+r39.1))-r24.2.2.2))),r39.2)
   else none
  else
   some (wr .i64 (r24.1+r32.1),r32.2)
 else none
def Fj.j1 (K:Nat) (n_14:Int) (r_10:ByteArray) (r_11:Int) (r_12:Int) (r_13:Bool):Option (Int × Int × Bool) :=
 if r_13 then
  some (0,0,false)
 else
  if decide (n_14 > 1073741824) then
   some (0,0,false)
  else
   some (n_14,r_12,true)
def Fj (K:Nat) (x0:Cu) (x1:Int) (x2:Int):Option (Int × Int × Bool) :=
 if (x2 == 1) then
  (G8 K ((x0,x1,false):Cg) 1000).bind fun r23 =>
  Fj.j1 K r23.1 r23.2.b.Data r23.2.b.N r23.2.at_ r23.2.bad
 else
  if (x2 == 2) then
   (Gg K ((x0,x1,false):Cg)).bind fun r27 =>
   Fj.j1 K r27.1 r27.2.b.Data r27.2.b.N r27.2.at_ r27.2.bad
  else
   if (x2 == 3) then
    (Hg K ((x0,x1,false):Cg)).bind fun r31 =>
    Fj.j1 K r31.1 r31.2.b.Data r31.2.b.N r31.2.at_ r31.2.bad
   else
    (Hy K x2).bind fun r18 =>
    (Hl K ((x0,x1,false):Cg) r18).bind fun r19 =>
    Fj.j1 K r19.1 r19.2.b.Data r19.2.b.N r19.2.at_ r19.2.bad
def Gt (K:Nat) (x0:Int):Option Int :=
 if (2:Int)≠0 then
 if ((x0.tmod 2) == 1) then
  if (2:Int)≠0 then
  some (wr .i64 ((wr .i64 (0-(wr .i64 (x0+1)))).tdiv 2))
  else none
 else
  if (2:Int)≠0 then
  some (wr .i64 (x0.tdiv 2))
  else none
 else none
def Fs.j2 (K:Nat) (go_l1:Int→Int→Int→Int→(List Ah)→Option ((List Ah) × Int × Bool)) (r48:Int × Int × Bool) (t_10:Int) (t_11:Int) (t_13:List Ah) (t_15:Int) (x0:Cu) (t_12:Int):Option ((List Ah) × Int × Bool) :=
 if (t_13.length+([((wr .i64 (t_15+t_12),wr .i64 ((wr .i64 (r48.1-1))+3)):Ah)]:List Ah).length)*16≤140737488355328 then
 go_l1 r48.2.1 (wr .i64 ((wr .i64 (t_15+t_12))+(wr .i64 ((wr .i64 (r48.1-1))+3)))) t_10 (wr .i64 (t_11+1)) (t_13++([((wr .i64 (t_15+t_12),wr .i64 ((wr .i64 (r48.1-1))+3)):Ah)]:List Ah))
 else none
def Fs.l1 (K:Nat) (x0:Cu):Nat→Int→Int→Int→Int→(List Ah)→Option ((List Ah) × Int × Bool)
 | 0,_,_,_,_,_=>none
 | k+1,t_14,t_15,t_10,t_11,t_13 =>
  if decide (t_11<t_10) then
   (Fj K x0 t_14 2).bind fun r39 =>
   if (!r39.2.2) then
    some (([]:List Ah),0,false)
   else
    (Fj K x0 r39.2.1 2).bind fun r48 =>
    if (!r48.2.2) then
     some (([]:List Ah),0,false)
    else
     if (t_11 == 0) then
      (Gt K (wr .i64 (r39.1-1))).bind fun r58 =>
      Fs.j2 K (Fs.l1 K x0 k) r48 t_10 t_11 t_13 t_15 x0 r58
     else
      Fs.j2 K (Fs.l1 K x0 k) r48 t_10 t_11 t_13 t_15 x0 r39.1
  else
   some (t_13,t_14,true)
def Fs (K:Nat) (x0:Cu) (x1:Int) (x2:Int):Option ((List Ah) × Int × Bool) :=
 (Fj K x0 x1 2).bind fun r20 =>
 if (!r20.2.2) then
  some (([]:List Ah),0,false)
 else
  if decide (r20.1 > 16) then
   some (([]:List Ah),0,false)
  else
   Fs.l1 K x0 K r20.2.1 x2 (wr .i64 (r20.1-1)) (0:Int) ([]:List Ah)
def Fp.j2 (K:Nat) (go_l1:Int→Int→Int→Int→(List Int)→Option ((List Int) × Int × Bool)) (l_13:List Int) (last_15:Int) (r35:Int × Int × Bool) (t_10:Int) (t_11:Int) (x0:Cu) (n_12:Int):Option ((List Int) × Int × Bool) :=
 (Gh K (wr .i64 (last_15+n_12))).bind fun r50 =>
 if (!r50) then
  some (([]:List Int),0,false)
 else
  if (l_13.length+([wr .i64 (last_15+n_12)]:List Int).length)*8≤140737488355328 then
  go_l1 r35.2.1 (wr .i64 (last_15+n_12)) t_10 (wr .i64 (t_11+1)) (l_13++([wr .i64 (last_15+n_12)]:List Int))
  else none
def Fp.l1 (K:Nat) (x0:Cu):Nat→Int→Int→Int→Int→(List Int)→Option ((List Int) × Int × Bool)
 | 0,_,_,_,_,_=>none
 | k+1,next_14,last_15,t_10,t_11,l_13 =>
  if decide (t_11<t_10) then
   (Fj K x0 next_14 2).bind fun r35 =>
   if (!r35.2.2) then
    some (([]:List Int),0,false)
   else
    if (t_11 == 0) then
     (Gt K (wr .i64 (r35.1-1))).bind fun r45 =>
     Fp.j2 K (Fp.l1 K x0 k) l_13 last_15 r35 t_10 t_11 x0 r45
    else
     Fp.j2 K (Fp.l1 K x0 k) l_13 last_15 r35 t_10 t_11 x0 r35.1
  else
   some (l_13,next_14,true)
def Fp (K:Nat) (x0:Cu) (x1:Int) (x2:Int):Option ((List Int) × Int × Bool) :=
 (Fj K x0 x1 2).bind fun r16 =>
 if (!r16.2.2) then
  some (([]:List Int),0,false)
 else
  if decide (r16.1 > 17) then
   some (([]:List Int),0,false)
  else
   Fp.l1 K x0 K r16.2.1 x2 (wr .i64 (r16.1-1)) (0:Int) ([]:List Int)
def F7 (K:Nat) (x0:List Int):Option (List Int) :=
 if (([]:List Int).length+x0.length)*8≤140737488355328 then
 some (([]:List Int)++x0)
 else none
def Ez.l2 (K:Nat) (go_l1:Int→Int→Int→(List Int)→Option ((List Int) × Bool)) (t_11:Int) (t_12:Int) (x0:List Ah) (x1:List Int):Nat→Int→Int→(List Int)→Option ((List Int) × Bool)
 | 0,_,_,_=>none
 | k+1,t_13,t_14,t_15 =>
  if decide (t_14<t_13) then
   if (t_15.length+([t_14]:List Int).length)*8≤140737488355328 then
   Ez.l2 K go_l1 t_11 t_12 x0 x1 k t_13 (wr .i64 (t_14+1)) (t_15++([t_14]:List Int))
   else none
  else
   go_l1 t_13 t_11 (wr .i64 (t_12+1)) t_15
def Ez.l1 (K:Nat) (x0:List Ah) (x1:List Int):Nat→Int→Int→Int→(List Int)→Option ((List Int) × Bool)
 | 0,_,_,_,_=>none
 | k+1,t_10,t_11,t_12,t_16 =>
  if decide (t_12<t_11) then
   if (0:Int)≤t_12∧t_12<((x0.length:Nat):Int) then
   if decide (((nth x0 t_12).Len)<3) then
    some (([]:List Int),false)
   else
    if decide (((nth x0 t_12).Len) > 16) then
     some (([]:List Int),false)
    else
     if decide (((nth x0 t_12).At)≤t_10) then
      some (([]:List Int),false)
     else
      (Gh K ((nth x0 t_12).At)).bind fun r36 =>
      if (!r36) then
       some (([]:List Int),false)
      else
       (Gh K (wr .i64 ((wr .i64 (((nth x0 t_12).At)+((nth x0 t_12).Len)))-1))).bind fun r46 =>
       if (!r46) then
        some (([]:List Int),false)
       else
        Ez.l2 K (Ez.l1 K x0 x1 k) t_11 t_12 x0 x1 K (wr .i64 (((nth x0 t_12).At)+((nth x0 t_12).Len))) ((nth x0 t_12).At) t_16
   else none
  else
   if t_16.length<4611686018427387904 then
   (Er K x1).bind fun r70 =>
   if r70 then
    (Er K (sortF t_16)).bind fun r73 =>
    some (sortF t_16,r73)
   else
    some (sortF t_16,false)
   else none
def Ez (K:Nat) (x0:List Ah) (x1:List Int):Option ((List Int) × Bool) :=
 (F7 K x1).bind fun r12 =>
 Ez.l1 K x0 x1 K ((-1):Int) ((x0.length:Nat):Int) (0:Int) r12
def Ff.l2 (K:Nat) (go_l1:Int→(List Ah)→(List Int)→Option ((List Ah) × (List Int))) (i_10:Int) (x0:List Int):Nat→Int→(List Ah)→(List Int)→Option ((List Ah) × (List Int))
 | 0,_,_,_=>none
 | k+1,k_11,r_14,rest_15 =>
  if decide (k_11<((x0.length:Nat):Int)) then
   if (0:Int)≤k_11∧k_11<((x0.length:Nat):Int) then
   if (0:Int)≤(wr .i64 (k_11-1))∧(wr .i64 (k_11-1))<((x0.length:Nat):Int) then
   if ((nth x0 k_11) == (wr .i64 ((nth x0 (wr .i64 (k_11-1)))+1))) then
    Ff.l2 K go_l1 i_10 x0 k (wr .i64 (k_11+1)) r_14 rest_15
   else
    if decide ((wr .i64 (k_11-i_10))≥3) then
     if (0:Int)≤i_10∧i_10<((x0.length:Nat):Int) then
     if (r_14.length+([((nth x0 i_10,wr .i64 (k_11-i_10)):Ah)]:List Ah).length)*16≤140737488355328 then
     go_l1 k_11 (r_14++([((nth x0 i_10,wr .i64 (k_11-i_10)):Ah)]:List Ah)) rest_15
     else none
     else none
    else
     if (0:Int)≤i_10∧i_10≤k_11∧k_11≤((x0.length:Nat):Int) then
     if (rest_15.length+(((x0).drop i_10.toNat).take (k_11.toNat-i_10.toNat)).length)*8≤140737488355328 then
     go_l1 k_11 r_14 (rest_15++(((x0).drop i_10.toNat).take (k_11.toNat-i_10.toNat)))
     else none
     else none
   else none
   else none
  else
   if decide ((wr .i64 (k_11-i_10))≥3) then
    if (0:Int)≤i_10∧i_10<((x0.length:Nat):Int) then
    if (r_14.length+([((nth x0 i_10,wr .i64 (k_11-i_10)):Ah)]:List Ah).length)*16≤140737488355328 then
    go_l1 k_11 (r_14++([((nth x0 i_10,wr .i64 (k_11-i_10)):Ah)]:List Ah)) rest_15
    else none
    else none
   else
    if (0:Int)≤i_10∧i_10≤k_11∧k_11≤((x0.length:Nat):Int) then
    if (rest_15.length+(((x0).drop i_10.toNat).take (k_11.toNat-i_10.toNat)).length)*8≤140737488355328 then
    go_l1 k_11 r_14 (rest_15++(((x0).drop i_10.toNat).take (k_11.toNat-i_10.toNat)))
    else none
    else none
def Ff.l1 (K:Nat) (x0:List Int):Nat→Int→(List Ah)→(List Int)→Option ((List Ah) × (List Int))
 | 0,_,_,_=>none
 | k+1,i_10,r_12,rest_13 =>
  if decide (i_10<((x0.length:Nat):Int)) then
   Ff.l2 K (Ff.l1 K x0 k) i_10 x0 K (wr .i64 (i_10+1)) r_12 rest_13
  else
   some (r_12,rest_13)
def Ff (K:Nat) (x0:List Int):Option ((List Ah) × (List Int)) :=
 Ff.l1 K x0 K (0:Int) ([]:List Ah) ([]:List Int)
def Dm.l1 (K:Nat) (x0:List Ah) (x1:List Ah):Nat→Int→Int→Option Bool
 | 0,_,_=>none
 | k+1,t_10,t_11 =>
  if decide (t_11<t_10) then
   if (0:Int)≤t_11∧t_11<((x0.length:Nat):Int) then
   if (0:Int)≤t_11∧t_11<((x1.length:Nat):Int) then
   if (!((((nth x0 t_11).At) == ((nth x1 t_11).At)) && ((((nth x0 t_11).Len) == ((nth x1 t_11).Len)) && true))) then
    some false
   else
    Dm.l1 K x0 x1 k t_10 (wr .i64 (t_11+1))
   else none
   else none
  else
   some true
def Dm (K:Nat) (x0:List Ah) (x1:List Ah):Option Bool :=
 if (((x0.length:Nat):Int) != ((x1.length:Nat):Int)) then
  some false
 else
  Dm.l1 K x0 x1 K ((x0.length:Nat):Int) (0:Int)
def Dq.l1 (K:Nat) (x0:List Int) (x1:List Int):Nat→Int→Int→Option Bool
 | 0,_,_=>none
 | k+1,t_10,t_11 =>
  if decide (t_11<t_10) then
   if (0:Int)≤t_11∧t_11<((x0.length:Nat):Int) then
   if (0:Int)≤t_11∧t_11<((x1.length:Nat):Int) then
   if ((nth x0 t_11) != (nth x1 t_11)) then
    some false
   else
    Dq.l1 K x0 x1 k t_10 (wr .i64 (t_11+1))
   else none
   else none
  else
   some true
def Dq (K:Nat) (x0:List Int) (x1:List Int):Option Bool :=
 if (((x0.length:Nat):Int) != ((x1.length:Nat):Int)) then
  some false
 else
  Dq.l1 K x0 x1 K ((x0.length:Nat):Int) (0:Int)
def Ht (K:Nat) (x0:Cu) (x1:Int) (x2:Int):Option ((List Int) × Int × Bool) :=
 (Fs K x0 x1 x2).bind fun r17 =>
 if (!r17.2.2) then
  some (([]:List Int),0,false)
 else
  (Fp K x0 r17.2.1 x2).bind fun r27 =>
  if (!r27.2.2) then
   some (([]:List Int),0,false)
  else
   (Ez K r17.1 r27.1).bind fun r36 =>
   if (!r36.2) then
    some (([]:List Int),0,false)
   else
    (Ff K r36.1).bind fun r43 =>
    (Dm K r43.1 r17.1).bind fun r50 =>
    if r50 then
     (Dq K r43.2 r27.1).bind fun r54 =>
     some (r36.1,r27.2.1,r54)
    else
     some (r36.1,r27.2.1,false)
def Hq (K:Nat) (x0:Ac) (x1:Int):Option Bool :=
 if decide (x1≥0) then
  some (decide (x1<x0.N))
 else
  some false
def Eb.l1 (K:Nat) (x0:List Int) (x1:Int):Nat→Int→Int→Option Int
 | 0,_,_=>none
 | k+1,t_10,t_11 =>
  if decide (t_11<t_10) then
   if (0:Int)≤t_11∧t_11<((x0.length:Nat):Int) then
   if (x1 == (nth x0 t_11)) then
    some t_11
   else
    Eb.l1 K x0 x1 k t_10 (wr .i64 (t_11+1))
   else none
  else
   some ((-1):Int)
def Eb (K:Nat) (x0:List Int) (x1:Int):Option Int :=
 Eb.l1 K x0 x1 K ((x0.length:Nat):Int) (0:Int)
def Gd (K:Nat) (x0:List Int) (x1:Int):Option Bool :=
 (Eb K x0 x1).bind fun r7 =>
 some (decide (r7≥0))
def G9 (K:Nat) (x0:Int):Option Bool :=
 if (x0 == 1) then
  some true
 else
  if (x0 == 2) then
   some true
  else
   some (x0 == 4)
def Gc.j1 (K:Nat) (x0:Ac) (x1:Int) (x2:Int) (t_10:Bool):Option Int :=
 if t_10 then
  some (1:Int)
 else
  (G9 K x1).bind fun r21 =>
  if r21 then
   (Hq K x0 x2).bind fun r25 =>
   if (!r25) then
    some (3:Int)
   else
    some (0:Int)
  else
   some (0:Int)
def Gc (K:Nat) (x0:Ac) (x1:Int) (x2:Int):Option Int :=
 (Ei K x0).bind fun r9 =>
 if (!r9) then
  Gc.j1 K x0 x1 x2 true
 else
  if decide (x1<1) then
   Gc.j1 K x0 x1 x2 true
  else
   Gc.j1 K x0 x1 x2 (decide (x1 > 6))
def Hr (K:Nat) (x0:Int) (x1:Int):Option (Int × Int) :=
 if (0:Int)≤32 then
 if (0:Int)≤32 then
 if (0:Int)≤32 then
 if (0:Int)≤32 then
 if (0:Int)≤32 then
 some (wr .u64 ((wr .u64 ((wr .u64 ((x0.fdiv (2 ^ min ((32:Int)).toNat 64))*(x1.fdiv (2 ^ min ((32:Int)).toNat 64))))+((wr .u64 ((wr .u64 ((x0.fdiv (2 ^ min ((32:Int)).toNat 64))*(ib .and .u64 x1 4294967295)))+((wr .u64 ((ib .and .u64 x0 4294967295)*(ib .and .u64 x1 4294967295))).fdiv (2 ^ min ((32:Int)).toNat 64)))).fdiv (2 ^ min ((32:Int)).toNat 64))))+((wr .u64 ((ib .and .u64 (wr .u64 ((wr .u64 ((x0.fdiv (2 ^ min ((32:Int)).toNat 64))*(ib .and .u64 x1 4294967295)))+((wr .u64 ((ib .and .u64 x0 4294967295)*(ib .and .u64 x1 4294967295))).fdiv (2 ^ min ((32:Int)).toNat 64)))) 4294967295)+(wr .u64 ((ib .and .u64 x0 4294967295)*(x1.fdiv (2 ^ min ((32:Int)).toNat 64)))))).fdiv (2 ^ min ((32:Int)).toNat 64))),wr .u64 (x0*x1))
 else none
 else none
 else none
 else none
 else none
def Hw (K:Nat) (x0:Int) (x1:Int):Option (Int × Int) :=
 (Hr K x0 x1).bind fun r25 =>
 some (r25.1,r25.2)
def Dt.l3 (K:Nat):Nat→Int→(List Int)→Option (List Int)
 | 0,_,_=>none
 | k+1,n_11,newslice_10 =>
  if decide (n_11<((newslice_10.length:Nat):Int)) then
   if (0:Int)≤n_11∧n_11≤((newslice_10.length:Nat):Int)∧((newslice_10.length:Nat):Int)≤((newslice_10.length:Nat):Int) then
   if (0:Int)≤(0:Int)∧(0:Int)≤n_11∧n_11≤((newslice_10.length:Nat):Int) then
   Dt.l3 K k (wr .i64 (n_11+((min (((newslice_10).drop (0+(0:Int).toNat)).take (n_11.toNat-(0:Int).toNat)).length (((newslice_10.length:Nat):Int).toNat-n_11.toNat):Nat):Int))) (ovp newslice_10 (0+n_11.toNat) (List.take (((newslice_10.length:Nat):Int).toNat-n_11.toNat) (((newslice_10).drop (0+(0:Int).toNat)).take (n_11.toNat-(0:Int).toNat))))
   else none
   else none
  else
   some newslice_10
def Dt.j2 (K:Nat) (r18:Int × Int) (x0:List Int):Option (List Int) :=
 if (wr .i64 r18.2)=(wr .i64 r18.2)∧(0:Int)≤(wr .i64 r18.2)∧(8:Int)*(wr .i64 r18.2)≤281474976710656∧(wr .i64 r18.2)≤9223372036854775807 then
 Dt.l3 K K ((min x0.length ((List.replicate (wr .i64 r18.2).toNat (0:Int)).length):Nat):Int) (ovp (List.replicate (wr .i64 r18.2).toNat (0:Int)) 0 (List.take ((List.replicate (wr .i64 r18.2).toNat (0:Int)).length) x0))
 else none
def Dt.j1 (K:Nat) (x0:List Int) (x1:Int):Option (List Int) :=
 (Hw K (wr .u64 ((x0.length:Nat):Int)) (wr .u64 x1)).bind fun r18 =>
 if decide (r18.1 > 0) then
  none
 else
  if decide (r18.2 > 9223372036854775807) then
   none
  else
   Dt.j2 K r18 x0
def Dt (K:Nat) (x0:List Int) (x1:Int):Option (List Int) :=
 if decide (x1<0) then
  none
 else
  Dt.j1 K x0 x1
def Fx.l2 (K:Nat) (j_13:Int) (j_14:Int) (x0:Ac) (x1:Int):Nat→Int→(List Int)→Option Ai
 | 0,_,_=>none
 | k+1,t_15,j_16 =>
  if decide (t_15<x0.N) then
   if (j_16.length+([t_15]:List Int).length)*8≤140737488355328 then
   Fx.l2 K j_13 j_14 x0 x1 k (wr .i64 (t_15+1)) (j_16++([t_15]:List Int))
   else none
  else
   some ((x1,j_13,j_14,false,([]:List Int),j_16):Ai)
def Fx.j1 (K:Nat) (x0:Ac) (x1:Int) (x2:Int) (t_10:Int) (t_11:Int) (t_12:Int) (j_13:Int) (j_14:Int):Option Ai :=
 if (x1 == 4) then
  (Dt K ([(-1)]:List Int) x0.N).bind fun r23 =>
  if (0:Int)≤x2∧x2<((r23.length:Nat):Int) then
  some ((x1,j_13,j_14,false,([x2]:List Int),(r23).set x2.toNat 0):Ai)
  else none
 else
  if (x1 == 5) then
   Fx.l2 K j_13 j_14 x0 x1 K (0:Int) ([]:List Int)
  else
   some ((x1,j_13,j_14,false,([]:List Int),([]:List Int)):Ai)
def Fx (K:Nat) (x0:Ac) (x1:Int) (x2:Int):Option Ai :=
 (G9 K x1).bind fun r12 =>
 if r12 then
  Fx.j1 K x0 x1 x2 (0:Int) (0:Int) (0:Int) x2 (0:Int)
 else
  Fx.j1 K x0 x1 x2 (0:Int) (0:Int) (0:Int) (0:Int) (0:Int)
def Gp (K:Nat) (x0:Ac) (x1:Int) (x2:Int):Option (Ai × Int) :=
 (Gc K x0 x1 x2).bind fun r12 =>
 if (r12 != 0) then
  some (((0,0,0,false,([]:List Int),([]:List Int)):Ai),r12)
 else
  (Fx K x0 x1 x2).bind fun r20 =>
  some (r20,0)
def Hm (K:Nat) (x0:Ai) (x1:Ai):Option Bool :=
 if (x0.Kind == x1.Kind) then
  if (x0.A == x1.A) then
   if (x0.At == x1.At) then
    if (x0.Move == x1.Move) then
     (Dq K x0.List_ x1.List_).bind fun r36 =>
     if r36 then
      (Dq K x0.Out x1.Out).bind fun r43 =>
      some r43
     else
      some false
    else
     some false
   else
    some false
  else
   some false
 else
  some false
def Ho (K:Nat) (x0:Ac) (x1:Ai):Option Bool :=
 if (x1.Kind == 1) then
  some (decide (x1.At≥1))
 else
  if (x1.Kind == 4) then
   some (decide (x1.At≥((x1.List_.length:Nat):Int)))
  else
   some (decide (x1.At≥x0.N))
def Fb.j3 (K:Nat) (h_18:Bool) (h_19:List Int) (x1:Ai) (t_17:Bool) (h_16:Int):Option Ai :=
 if t_17 then
  some ((x1.Kind,x1.A,0,false,x1.List_,h_19):Ai)
 else
  some ((x1.Kind,x1.A,h_16,h_18,x1.List_,h_19):Ai)
def Fb.j2 (K:Nat) (go_l1:(List Int)→Int→Int→Bool→(List Int)→Option Ai) (h_19:List Int) (t_10:List Int) (t_11:Int) (t_12:Int) (x0:Ac) (x1:Ai) (t_14:Int) (t_15:Int) (h_13:Bool):Option Ai :=
 if (0:Int)≤x1.At∧x1.At<((h_19.length:Nat):Int) then
 if (0:Int)≤t_14∧t_14<((((h_19).set x1.At.toNat t_15).length:Nat):Int) then
 go_l1 t_10 t_11 (wr .i64 (t_12+1)) h_13 (((h_19).set x1.At.toNat t_15).set t_14.toNat t_15)
 else none
 else none
def Fb.l1 (K:Nat) (x0:Ac) (x1:Ai):Nat→(List Int)→Int→Int→Bool→(List Int)→Option Ai
 | 0,_,_,_,_,_=>none
 | k+1,t_10,t_11,t_12,h_18,h_19 =>
  if decide (t_12<t_11) then
   if (0:Int)≤t_12∧t_12<((t_10.length:Nat):Int) then
   if (0:Int)≤x1.At∧x1.At<((h_19.length:Nat):Int) then
   if (0:Int)≤(nth t_10 t_12)∧(nth t_10 t_12)<((h_19.length:Nat):Int) then
   if h_18 then
    Fb.j2 K (Fb.l1 K x0 x1 k) h_19 t_10 t_11 t_12 x0 x1 (nth t_10 t_12) (if (nth h_19 (nth t_10 t_12))<(nth h_19 x1.At) then (nth h_19 (nth t_10 t_12)) else (nth h_19 x1.At)) true
   else
    if (0:Int)≤x1.At∧x1.At<((h_19.length:Nat):Int) then
    if (0:Int)≤(nth t_10 t_12)∧(nth t_10 t_12)<((h_19.length:Nat):Int) then
    Fb.j2 K (Fb.l1 K x0 x1 k) h_19 t_10 t_11 t_12 x0 x1 (nth t_10 t_12) (if (nth h_19 (nth t_10 t_12))<(nth h_19 x1.At) then (nth h_19 (nth t_10 t_12)) else (nth h_19 x1.At)) ((nth h_19 x1.At) != (nth h_19 (nth t_10 t_12)))
    else none
    else none
   else none
   else none
   else none
  else
   if ((wr .i64 (x1.At+1)) == x0.N) then
    Fb.j3 K h_18 h_19 x1 h_18 (wr .i64 (x1.At+1))
   else
    Fb.j3 K h_18 h_19 x1 false (wr .i64 (x1.At+1))
def Fb (K:Nat) (x0:Ac) (x1:Ai):Option Ai :=
 if (0:Int)≤x1.At∧x1.At<((x0.Out.length:Nat):Int) then
 Fb.l1 K x0 x1 K (nth x0.Out x1.At) (((nth x0.Out x1.At).length:Nat):Int) (0:Int) x1.Move x1.Out
 else none
def Dp.l3 (K:Nat) (x1:Ai):Nat→(List Int)→Int→Int→Int→(List Int)→Option Ai
 | 0,_,_,_,_,_=>none
 | k+1,t_17,t_18,t_19,h_16,h_23 =>
  if decide (t_19<t_18) then
   if (0:Int)≤t_19∧t_19<((t_17.length:Nat):Int) then
   if (h_23.length+([x1.At,nth t_17 t_19]:List Int).length)*8≤140737488355328 then
   Dp.l3 K x1 k t_17 t_18 (wr .i64 (t_19+1)) h_16 (h_23++([x1.At,nth t_17 t_19]:List Int))
   else none
   else none
  else
   some ((x1.Kind,x1.A,h_16,x1.Move,x1.List_,h_23):Ai)
def Dp.l2 (K:Nat) (x1:Ai):Nat→Int→(List Int)→Int→Int→Int→(List Int)→(List Int)→Option Ai
 | 0,_,_,_,_,_,_,_=>none
 | k+1,t_12,t_13,t_14,t_15,h_11,h_21,h_22 =>
  if decide (t_15<t_14) then
   if (0:Int)≤t_15∧t_15<((t_13.length:Nat):Int) then
   if (0:Int)≤(nth t_13 t_15)∧(nth t_13 t_15)<((h_22.length:Nat):Int) then
   if decide ((nth h_22 (nth t_13 t_15))<0) then
    if (0:Int)≤t_12∧t_12<((h_22.length:Nat):Int) then
    if (h_21.length+([nth t_13 t_15]:List Int).length)*8≤140737488355328 then
    if (0:Int)≤(nth t_13 t_15)∧(nth t_13 t_15)<((h_22.length:Nat):Int) then
    Dp.l2 K x1 k t_12 t_13 t_14 (wr .i64 (t_15+1)) h_11 (h_21++([nth t_13 t_15]:List Int)) ((h_22).set (nth t_13 t_15).toNat (wr .i64 ((nth h_22 t_12)+1)))
    else none
    else none
    else none
   else
    Dp.l2 K x1 k t_12 t_13 t_14 (wr .i64 (t_15+1)) h_11 h_21 h_22
   else none
   else none
  else
   some ((x1.Kind,x1.A,h_11,x1.Move,h_21,h_22):Ai)
def Dp.l1 (K:Nat) (x0:Ac) (x1:Ai):Nat→Int→(List Int)→Option Ai
 | 0,_,_=>none
 | k+1,h_10,h_20 =>
  if (0:Int)≤x1.At∧x1.At<((x0.Out.length:Nat):Int) then
  if decide (((h_20.length:Nat):Int)≤(((nth x0.Out x1.At).length:Nat):Int)) then
   if (h_20.length+([0]:List Int).length)*8≤140737488355328 then
   Dp.l1 K x0 x1 k h_10 (h_20++([0]:List Int))
   else none
  else
   if (0:Int)≤x1.At∧x1.At<((x0.Out.length:Nat):Int) then
   if (0:Int)≤(((nth x0.Out x1.At).length:Nat):Int)∧(((nth x0.Out x1.At).length:Nat):Int)<((h_20.length:Nat):Int) then
   if (0:Int)≤(((nth x0.Out x1.At).length:Nat):Int)∧(((nth x0.Out x1.At).length:Nat):Int)<((h_20.length:Nat):Int) then
   some ((x1.Kind,x1.A,h_10,x1.Move,x1.List_,(h_20).set (((nth x0.Out x1.At).length:Nat):Int).toNat (wr .i64 ((nth h_20 (((nth x0.Out x1.At).length:Nat):Int))+1))):Ai)
   else none
   else none
   else none
  else none
def Dp (K:Nat) (x0:Ac) (x1:Ai):Option Ai :=
 if (x1.Kind == 5) then
  (Fb K x0 x1).bind fun r16 =>
  some r16
 else
  if (x1.Kind == 1) then
   if (0:Int)≤x1.A∧x1.A<((x0.Out.length:Nat):Int) then
   (F7 K (nth x0.Out x1.A)).bind fun r43 =>
   some ((x1.Kind,x1.A,wr .i64 (x1.At+1),x1.Move,x1.List_,r43):Ai)
   else none
  else
   if (x1.Kind == 2) then
    if (0:Int)≤x1.At∧x1.At<((x0.Out.length:Nat):Int) then
    (Gd K (nth x0.Out x1.At) x1.A).bind fun r57 =>
    if r57 then
     if (x1.Out.length+([x1.At]:List Int).length)*8≤140737488355328 then
     some ((x1.Kind,x1.A,wr .i64 (x1.At+1),x1.Move,x1.List_,x1.Out++([x1.At]:List Int)):Ai)
     else none
    else
     some ((x1.Kind,x1.A,wr .i64 (x1.At+1),x1.Move,x1.List_,x1.Out):Ai)
    else none
   else
    if (x1.Kind == 3) then
     Dp.l1 K x0 x1 K (wr .i64 (x1.At+1)) x1.Out
    else
     if (x1.Kind == 4) then
      if (0:Int)≤x1.At∧x1.At<((x1.List_.length:Nat):Int) then
      if (0:Int)≤(nth x1.List_ x1.At)∧(nth x1.List_ x1.At)<((x0.Out.length:Nat):Int) then
      Dp.l2 K x1 K (nth x1.List_ x1.At) (nth x0.Out (nth x1.List_ x1.At)) (((nth x0.Out (nth x1.List_ x1.At)).length:Nat):Int) (0:Int) (wr .i64 (x1.At+1)) x1.List_ x1.Out
      else none
      else none
     else
      if (x1.Kind == 6) then
       if (0:Int)≤x1.At∧x1.At<((x0.Out.length:Nat):Int) then
       Dp.l3 K x1 K (nth x0.Out x1.At) (((nth x0.Out x1.At).length:Nat):Int) (0:Int) (wr .i64 (x1.At+1)) x1.Out
       else none
      else
       some ((x1.Kind,x1.A,wr .i64 (x1.At+1),x1.Move,x1.List_,x1.Out):Ai)
def Fu.l1 (K:Nat) (x0:Ac) (x1:Ai):Nat→Int→Int→Int→Bool→(List Int)→(List Int)→Option Bool
 | 0,_,_,_,_,_,_=>none
 | k+1,x_10,x_11,x_12,x_13,x_14,x_15 =>
  (Hm K ((x_10,x_11,x_12,x_13,x_14,x_15):Ai) x1).bind fun r21 =>
  if r21 then
   some true
  else
   (Ho K x0 ((x_10,x_11,x_12,x_13,x_14,x_15):Ai)).bind fun r25 =>
   if r25 then
    some false
   else
    (Dp K x0 ((x_10,x_11,x_12,x_13,x_14,x_15):Ai)).bind fun r27 =>
    Fu.l1 K x0 x1 k r27.Kind r27.A r27.At r27.Move r27.List_ r27.Out
def Fu (K:Nat) (x0:Ac) (x1:Ai):Option Bool :=
 (Gp K x0 x1.Kind x1.A).bind fun r13 =>
 if (r13.2 != 0) then
  some false
 else
  Fu.l1 K x0 x1 K r13.1.Kind r13.1.A r13.1.At r13.1.Move r13.1.List_ r13.1.Out
end Go.XM
end
