/- Functions. -/
import Derived.Test.YtdhboohobflflaaGreatDoorXqFK0
set_option linter.all false
set_option maxRecDepth 100000
set_option maxHeartbeats 4000000
namespace Go.Proofs.Qq
open Go Tryz
@[go_sem] def fT (v22:List (List Int))(v23 next_0:Int)(h1152 h1153 props:List Int)(g_0:List ah)(g_1:List GTie)(g_2:Int):(Int × (List (ByteArray × Bool)))→St
 | (v24,h10001)=>⟨[(0,.ptr 10000 0 0 0),(7,.ptr 448 1 0 0),(8,.ref 1154 1 0 props.length),(22,.sl (ab (eLS eI) v22)),(23,.lit (.int .i64 v23)),(24,.lit (.int .i64 v24))],[(10000,0,.var [.sl (ab ah.encS g_0),.sl (ab GTie.enc g_1),.lit (.int .i64 g_2),.mp 10001 0]),(10001,0,.map (eM h10001)),(448,1,.var [.lit (.int .i64 next_0),.ref 1152 1 0 h1152.length,.ref 1153 1 0 h1153.length]),(1152,1,.row true (ab eI h1152)),(1153,1,.row true (ab eI h1153)),(1154,1,.tree (ab eI props))],2⟩
@[go_sem] def hi107_1:DT:=.i2 0 (.i1 1 (.i1 2 (.i1 3 (.i1 4 (.i2 5 (.fork (.i2 6 (.i2 7 (.i2 8 (.i2 9 (.i0 10 [1,2,3,4] (.i2 11 (.i2 12 .nil))))))) (.i0 10 [1,2,3,4] (.i2 6 (.i2 7 (.i2 8 (.i2 9 (.i2 11 (.i2 12 .nil)))))))))))))
def zS:Hint where
 acts:=fun _=>[]
 draws:=fun
  | 1=>⟨hi107_1,[[],[0],[0,1],[0,1,2],[],[],.range 6,.range 7,.range 8,.range 8,[],[0,1,2,3,4,5,6,7,8,10],.range 12],[0,1,2,3,4,5,6,7,8,11,9,10,12]⟩
  | _=>⟨.nil,[],[]⟩
theorem Fv (i:Nat):zS.acts i=[]:=rfl
attribute[go_sem] Fv ntmps107 results107
@[go_sem] theorem Ii:(zS.draws 1).order=hi107_1:=rfl
theorem ja {rec:GShow→(List (ByteArray × Bool))→GState→Option (Bool × (List (ByteArray × Bool)))}(hrec:∀ {g_s:GShow} {g_known:List (ByteArray × Bool)} {v1:GState} {res:Bool × (List (ByteArray × Bool))},rec g_s g_known v1=some res→aj prog 169 [.ptr 10000 0 0 0,.agg (GState.encS v1)] [(10000,0,.var [.sl (ab ah.encS g_s.nodes),.sl (ab GTie.enc g_s.ties),.lit (.int .i64 g_s.horizon),.mp 10001 0]),(10001,0,.map (eM g_known))] (.lit (.bool res.1)) [(10000,0,.var [.sl (ab ah.encS g_s.nodes),.sl (ab GTie.enc g_s.ties),.lit (.int .i64 g_s.horizon),.mp 10001 0]),(10001,0,.map (eM res.2))]){g_s:GShow}{g_known:List (ByteArray × Bool)}{v1:GState}{nodes:List Int}{res:Bool × (List (ByteArray × Bool))}(h:di rec g_s g_known v1 nodes=some res):aj prog 107 [.ptr 10000 0 0 0,.agg (GState.encS v1),.sl (ab eI nodes)] [(10000,0,.var [.sl (ab ah.encS g_s.nodes),.sl (ab GTie.enc g_s.ties),.lit (.int .i64 g_s.horizon),.mp 10001 0]),(10001,0,.map (eM g_known))] (.lit (.bool res.1)) [(10000,0,.var [.sl (ab ah.encS g_s.nodes),.sl (ab GTie.enc g_s.ties),.lit (.int .i64 g_s.horizon),.mp 10001 0]),(10001,0,.map (eM res.2))]:=by
 refine co (hi:=zS) func107 rfl rfl ?_
 unfold di at h
 try simp(config:=cS)only[go_sem]
 refine bR ?_ ?_
 ·obtain⟨r01,g1,h⟩:=ae h
  simp(config:=cS)only[go_sem]
  have g1:=ctr g1
  refine af g1 ?_
  obtain⟨r02,g2,h⟩:=ae h
  simp(config:=cS)only[go_sem]
  have g2:=ctr g2
  refine af g2 ?_
  obtain⟨q06,l3,h⟩:=ae h
  simp(config:=cS)only[go_sem]
  refine ak (m1:=.mk) (m2:=.mk) [.nf [0,7,8,22,23,24] [10000,10001,448,1152,1153,1154]] (fT r02 (r02.length:Int) r01.1.now r01.1.times r01.1.values r01.2 g_s.nodes g_s.ties g_s.horizon) l3 ?_ ?_
  ·simp(config:=cS)only[go_sem]
  intro nb4 sb4 bb4 b4 gb4
  obtain⟨v24_1,h10001_1⟩:=sb4
  unfold eu at b4
  try dsimp only at b4
  obtain⟨h5,b4⟩|⟨h5,b4⟩:=aO b4
  ·obtain⟨x03,g6,b4⟩:=ae b4
   obtain⟨h7,h8,h9⟩:=bC g6
   obtain⟨r04,g10,b4⟩:=ae b4
   simp(config:=cS)only[go_sem,eqT h5,h7,h8,h9]
   have g10:=ctr g10
   refine af g10 ?_
   obtain⟨r05,g11,b4⟩:=ae b4
   simp(config:=cS)only[go_sem,eqT h5,h7,h8,h9]
   refine af (hrec g11) ?_
   obtain⟨h12,b4⟩|⟨h12,b4⟩:=aO b4
   ·cases b4
    simp(config:=cS)only[go_sem,eqT h5,h7,h8,h9,eZt h12]
    refine cE gb4 ?_
    simp(config:=cS)only[go_sem,eqT h5,h7,h8,h9,eZt h12]
   cases b4
   obtain rfl:=(aI gb4).symm
   try dsimp only at h
   cases h
   simp(config:=cS)only[go_sem,eqT h5,h7,h8,h9,eZf h12]
  cases b4
  obtain rfl:=(aI gb4).symm
  try dsimp only at h
  cases h
  simp(config:=cS)only[go_sem,eqF h5]
 obtain⟨r07,g15,h⟩:=ae h
 simp(config:=cS)only[go_sem]
 have g15:=ctr g15
 refine af g15 ?_
 obtain⟨r08,g16,h⟩:=ae h
 simp(config:=cS)only[go_sem]
 have g16:=ctr g16
 refine af g16 ?_
 obtain⟨q12,l17,h⟩:=ae h
 simp(config:=cS)only[go_sem]
 refine ak (m1:=.mk) (m2:=.mk) [.nf [0,7,8,22,23,24] [10000,10001,448,1152,1153,1154]] (fT r08 (r08.length:Int) r07.1.now r07.1.times r07.1.values r07.2 g_s.nodes g_s.ties g_s.horizon) l17 ?_ ?_
 ·simp(config:=cS)only[go_sem]
 intro nb18 sb18 bb18 b18 gb18
 obtain⟨v24_2,h10001_2⟩:=sb18
 unfold eu at b18
 try dsimp only at b18
 obtain⟨h19,b18⟩|⟨h19,b18⟩:=aO b18
 ·obtain⟨x09,g20,b18⟩:=ae b18
  obtain⟨h21,h22,h23⟩:=bC g20
  obtain⟨r10,g24,b18⟩:=ae b18
  simp(config:=cS)only[go_sem,eqT h19,h21,h22,h23]
  have g24:=ctr g24
  refine af g24 ?_
  obtain⟨r11,g25,b18⟩:=ae b18
  simp(config:=cS)only[go_sem,eqT h19,h21,h22,h23]
  refine af (hrec g25) ?_
  obtain⟨h26,b18⟩|⟨h26,b18⟩:=aO b18
  ·cases b18
   simp(config:=cS)only[go_sem,eqT h19,h21,h22,h23,eZt h26]
   refine cE gb18 ?_
   simp(config:=cS)only[go_sem,eqT h19,h21,h22,h23,eZt h26]
  cases b18
  obtain rfl:=(aI gb18).symm
  try dsimp only at h
  cases h
  simp(config:=cS)only[go_sem,eqT h19,h21,h22,h23,eZf h26]
 cases b18
 obtain rfl:=(aI gb18).symm
 try dsimp only at h
 cases h
 simp(config:=cS)only[go_sem,eqF h19]
@[go_sem] def mD (v14 v3_0:Int)(v3_1 v3_2:List Int)(v13:List (List Int))(g_0:List ah)(g_1:List GTie)(g_2:Int):(Int × (List (ByteArray × Bool)))→St
 | (v15,h10001)=>⟨[(0,.ptr 10000 0 0 0),(3,.ptr 192 1 0 0),(13,.ref 832 1 0 v13.length),(14,.lit (.int .i64 v14)),(15,.lit (.int .i64 v15))],[(10000,0,.var [.sl (ab ah.encS g_0),.sl (ab GTie.enc g_1),.lit (.int .i64 g_2),.mp 10001 0]),(10001,0,.map (eM h10001)),(192,1,.var [.lit (.int .i64 v3_0),.sl (ab eI v3_1),.sl (ab eI v3_2)]),(832,1,.tree (ab (eLS eI) v13))],2⟩
@[go_sem] def hi101_1:DT:=.r2 0 5 (.i2 7 (.i2 5 (.i2 6 .nil)))
def zT:Hint where
 acts:=fun _=>[]
 draws:=fun
  | 1=>⟨hi101_1,[[],[0],[0,1],[0,1,2],[],.range 5,.range 6,[]],.range 8⟩
  | _=>⟨.nil,[],[]⟩
@[go_sem] theorem Je (i:Nat):zT.acts i=[]:=rfl
attribute[go_sem] ntmps101 results101 ntmps162 results162 ntmps170 results170 ntmps111 results111 ntmps102 results102 ntmps100 results100 ntmps161 results161 ntmps56 results56 ntmps98 results98 ntmps97 results97 ntmps59 results59 ntmps55 results55 ntmps123 results123 ntmps124 results124 ntmps38 results38 ntmps264 results264 ntmps297 results297 ntmps287 results287 ntmps289 results289 ntmps288 results288 ntmps267 results267 ntmps229 results229 ntmps276 results276 ntmps292 results292 ntmps309 results309 ntmps300 results300 ntmps291 results291 ntmps301 results301 ntmps293 results293 ntmps272 results272 ntmps270 results270 ntmps308 results308 ntmps307 results307 ntmps290 results290 ntmps268 results268 ntmps269 results269 ntmps230 results230 ntmps172 results172 ntmps134 results134 ntmps75 results75 ntmps63 results63 ntmps62 results62 ntmps37 results37 ntmps23 results23 ntmps12 results12 ntmps6 results6 ntmps9 results9 ntmps3 results3
@[go_sem] theorem Ij:(zT.draws 1).order=hi101_1:=rfl
theorem js {rec:GShow→(List (ByteArray × Bool))→GState→Option (Bool × (List (ByteArray × Bool)))}(hrec:∀ {g_s:GShow} {g_known:List (ByteArray × Bool)} {v1:GState} {res:Bool × (List (ByteArray × Bool))},rec g_s g_known v1=some res→aj prog 169 [.ptr 10000 0 0 0,.agg (GState.encS v1)] [(10000,0,.var [.sl (ab ah.encS g_s.nodes),.sl (ab GTie.enc g_s.ties),.lit (.int .i64 g_s.horizon),.mp 10001 0]),(10001,0,.map (eM g_known))] (.lit (.bool res.1)) [(10000,0,.var [.sl (ab ah.encS g_s.nodes),.sl (ab GTie.enc g_s.ties),.lit (.int .i64 g_s.horizon),.mp 10001 0]),(10001,0,.map (eM res.2))]){g_s:GShow}{g_known:List (ByteArray × Bool)}{v1:GState}{res:(List Int) × Bool × (List (ByteArray × Bool))}(h:dz rec g_s g_known v1=some res):aj prog 101 [.ptr 10000 0 0 0,.agg (GState.encS v1)] [(10000,0,.var [.sl (ab ah.encS g_s.nodes),.sl (ab GTie.enc g_s.ties),.lit (.int .i64 g_s.horizon),.mp 10001 0]),(10001,0,.map (eM g_known))] (.tup [.sl (ab eI res.1),.lit (.bool res.2.1)]) [(10000,0,.var [.sl (ab ah.encS g_s.nodes),.sl (ab GTie.enc g_s.ties),.lit (.int .i64 g_s.horizon),.mp 10001 0]),(10001,0,.map (eM res.2.2))]:=by
 refine az (ra:=[.nilSl 4]) (md:=mdT) hT (hi:=zT) func101 rfl rfl (by decide +kernel) (by simp) ?_
 unfold dz at h
 obtain⟨r01,g1,h⟩:=ae h
 simp(config:=cS)only[go_sem]
 have g1:=ctr g1
 refine af g1 ?_
 obtain⟨q04,l2,h⟩:=ae h
 simp(config:=cS)only[go_sem]
 refine ak (m1:=.mk) (m2:=.mk) [.freeze [832],.nf [0,3,13,14,15] [10000,10001,192,832]] (mD (r01.length:Int) v1.now v1.times v1.values r01 g_s.nodes g_s.ties g_s.horizon) l2 ?_ ?_
 ·simp(config:=cS)only[go_sem]
 intro nb3 sb3 bb3 b3 gb3
 obtain⟨v15_1,h10001_1⟩:=sb3
 unfold jf at b3
 try dsimp only at b3
 obtain⟨h4,b3⟩|⟨h4,b3⟩:=aO b3
 ·obtain⟨x02,g5,b3⟩:=ae b3
  obtain⟨h6,h7,h8⟩:=bC g5
  obtain⟨r03,g9,b3⟩:=ae b3
  simp(config:=cS)only[go_sem,eqT h4,h6,h7,h8]
  refine af (ja @hrec g9) ?_
  obtain⟨h10,b3⟩|⟨h10,b3⟩:=aO b3
  ·cases b3
   obtain rfl:=(aI gb3).symm
   try dsimp only at h
   cases h
   simp(config:=cS)only[go_sem,eqT h4,h6,h7,h8,eZt h10]
  cases b3
  simp(config:=cS)only[go_sem,eqT h4,h6,h7,h8,eZf h10]
  refine cE gb3 ?_
  simp(config:=cS)only[go_sem,eqT h4,h6,h7,h8,eZf h10]
 cases b3
 obtain rfl:=(aI gb3).symm
 try dsimp only at h
 cases h
 simp(config:=cS)only[go_sem,eqF h4]
@[go_sem] def nj (k:ByteArray)(v45:List (List Int))(v46 v3_0:Int)(v3_1 v3_2:List Int)(g_0:List ah)(g_1:List GTie)(g_2:Int):(Int × (List (ByteArray × Bool)))→St
 | (v47,h10001)=>⟨[(0,.ptr 10000 0 0 0),(3,.ptr 192 1 0 0),(5,.lit (.string k)),(8,.lit (.bool true)),(45,.sl (ab (eLS eI) v45)),(46,.lit (.int .i64 v46)),(47,.lit (.int .i64 v47))],[(10000,0,.var [.sl (ab ah.encS g_0),.sl (ab GTie.enc g_1),.lit (.int .i64 g_2),.mp 10001 0]),(10001,0,.map (eM h10001)),(192,1,.var [.lit (.int .i64 v3_0),.sl (ab eI v3_1),.sl (ab eI v3_2)])],2⟩
@[go_sem] def hi169_13:DT:=.r2 0 14 .nil
@[go_sem] def hi169_10:DT:=.r2 0 5 (.i2 7 (.i2 5 (.i2 6 .nil)))
@[go_sem] def hi169_3:DT:=.r2 0 7 .nil
@[go_sem] def hi169_1:DT:=.r2 0 7 .nil
def qP:Hint where
 acts:=fun _=>[]
 draws:=fun
  | 1=>⟨hi169_1,[[],[0],[0,1],[0,1,2],[],.range 5,.range 6],.range 7⟩
  | 3=>⟨hi169_3,[[],[0],[0,1],[0,1,2],[],.range 5,.range 6],.range 7⟩
  | 10=>⟨hi169_10,[[],[0],[0,1],[0,1,2],[],.range 5,.range 6,[]],.range 8⟩
  | 13=>⟨hi169_13,[[],[],[1],[1,2],[1,2,3],[],[],[1,2,3,4,5,6],.range 8,.range 9,.range 10,.range 10,.range 11,.range 13],[0,1,2,3,4,5,6,7,8,9,10,12,11,13]⟩
  | _=>⟨.nil,[],[]⟩
theorem Fw (i:Nat):qP.acts i=[]:=rfl
attribute[go_sem] Fw ntmps169 results169
@[go_sem] theorem Ik:(qP.draws 1).order=hi169_1:=rfl
@[go_sem] theorem Il:(qP.draws 3).order=hi169_3:=rfl
@[go_sem] theorem Ho:(qP.draws 10).order=hi169_10:=rfl
@[go_sem] theorem Hq:(qP.draws 13).order=hi169_13:=rfl
theorem pC {rec:GShow→(List (ByteArray × Bool))→GState→Option (Bool × (List (ByteArray × Bool)))}(hrec:∀ {g_s:GShow} {g_known:List (ByteArray × Bool)} {v1:GState} {res:Bool × (List (ByteArray × Bool))},rec g_s g_known v1=some res→aj prog 169 [.ptr 10000 0 0 0,.agg (GState.encS v1)] [(10000,0,.var [.sl (ab ah.encS g_s.nodes),.sl (ab GTie.enc g_s.ties),.lit (.int .i64 g_s.horizon),.mp 10001 0]),(10001,0,.map (eM g_known))] (.lit (.bool res.1)) [(10000,0,.var [.sl (ab ah.encS g_s.nodes),.sl (ab GTie.enc g_s.ties),.lit (.int .i64 g_s.horizon),.mp 10001 0]),(10001,0,.map (eM res.2))]){g_s:GShow}{g_known:List (ByteArray × Bool)}{v1:GState}{res:Bool × (List (ByteArray × Bool))}(h:gi rec g_s g_known v1=some res):aj prog 169 [.ptr 10000 0 0 0,.agg (GState.encS v1)] [(10000,0,.var [.sl (ab ah.encS g_s.nodes),.sl (ab GTie.enc g_s.ties),.lit (.int .i64 g_s.horizon),.mp 10001 0]),(10001,0,.map (eM g_known))] (.lit (.bool res.1)) [(10000,0,.var [.sl (ab ah.encS g_s.nodes),.sl (ab GTie.enc g_s.ties),.lit (.int .i64 g_s.horizon),.mp 10001 0]),(10001,0,.map (eM res.2))]:=by
 refine co (hi:=qP) func169 rfl rfl ?_
 unfold gi at h
 obtain⟨r01,g1,h⟩:=ae h
 simp(config:=cS)only[go_sem]
 have g1:=ctr g1
 refine af g1 ?_
 obtain⟨h2,h⟩|⟨h2,h⟩:=aO h
 ·cases h
  simp(config:=cS)only[go_sem,eZt h2]
 obtain⟨r02,g3,h⟩:=ae h
 simp(config:=cS)only[go_sem,eZf h2]
 have g3:=ctr g3
 refine af g3 ?_
 obtain⟨h4,h⟩|⟨h4,h⟩:=aO h
 ·cases h
  simp(config:=cS)only[go_sem,eZf h2,eZt h4]
 obtain⟨r03,g5,h⟩:=ae h
 simp(config:=cS)only[go_sem,eZf h2,eZf h4]
 have g5:=ctr g5
 refine af g5 ?_
 obtain⟨x04,g6,h8⟩|⟨g7,h8⟩:=tS h
 ·cases h8
  simp(config:=cS)only[go_sem,eZf h2,eZf h4,g6]
 obtain⟨r05,g9,h8⟩:=ae h8
 simp(config:=cS)only[go_sem,eZf h2,eZf h4,g7]
 have g9:=ctr g9
 refine af g9 ?_
 obtain⟨q09,l10,h8⟩:=ae h8
 simp(config:=cS)only[go_sem,eZf h2,eZf h4,g7]
 refine ak (m1:=.mk) (m2:=.mk) [.nf [0,3,5,8,45,46,47] [10000,10001,192]] (nj r03 r05 (r05.length:Int) v1.now v1.times v1.values g_s.nodes g_s.ties g_s.horizon) l10 ?_ ?_
 ·simp(config:=cS)only[go_sem,eZf h2,eZf h4,g7]
 intro nb11 sb11 bb11 b11 gb11
 obtain⟨v47_1,h10001_1⟩:=sb11
 unfold jy at b11
 try dsimp only at b11
 obtain⟨h12,b11⟩|⟨h12,b11⟩:=aO b11
 ·obtain⟨x06,g13,b11⟩:=ae b11
  obtain⟨h14,h15,h16⟩:=bC g13
  obtain⟨r07,g17,b11⟩:=ae b11
  simp(config:=cS)only[go_sem,eZf h2,eZf h4,g7,eqT h12,h14,h15,h16]
  have g17:=ctr g17
  refine af g17 ?_
  obtain⟨r08,g18,b11⟩:=ae b11
  simp(config:=cS)only[go_sem,eZf h2,eZf h4,g7,eqT h12,h14,h15,h16]
  refine af (js @hrec g18) ?_
  obtain⟨h19,b11⟩|⟨h19,b11⟩:=aO b11
  ·cases b11
   simp(config:=cS)only[go_sem,eZf h2,eZf h4,g7,eqT h12,h14,h15,h16,eZt h19]
   refine cE gb11 ?_
   simp(config:=cS)only[go_sem,eZf h2,eZf h4,g7,eqT h12,h14,h15,h16,eZt h19]
  cases b11
  obtain rfl:=(aI gb11).symm
  try dsimp only at h8
  cases h8
  simp(config:=cS)only[go_sem,eZf h2,eZf h4,g7,eqT h12,h14,h15,h16,eZf h19]
 cases b11
 obtain rfl:=(aI gb11).symm
 try dsimp only at h8
 cases h8
 simp(config:=cS)only[go_sem,eZf h2,eZf h4,g7,eqF h12]
theorem nI (fu:Nat):∀ {g_s:GShow} {g_known:List (ByteArray × Bool)} {v1:GState} {res:Bool × (List (ByteArray × Bool))},ev fu g_s g_known v1=some res→aj prog 169 [.ptr 10000 0 0 0,.agg (GState.encS v1)] [(10000,0,.var [.sl (ab ah.encS g_s.nodes),.sl (ab GTie.enc g_s.ties),.lit (.int .i64 g_s.horizon),.mp 10001 0]),(10001,0,.map (eM g_known))] (.lit (.bool res.1)) [(10000,0,.var [.sl (ab ah.encS g_s.nodes),.sl (ab GTie.enc g_s.ties),.lit (.int .i64 g_s.horizon),.mp 10001 0]),(10001,0,.map (eM res.2))]:=by
 induction fu with
 | zero=>intro _ _ _ _ h;cases h
 | succ fu ih=>intro _ _ _ _ h;exact pC (@ih) h
theorem me {g_s:GShow}{g_known:List (ByteArray × Bool)}{v1:GState}{res:Bool × (List (ByteArray × Bool))}(h:ir g_s g_known v1=some res):aj prog 169 [.ptr 10000 0 0 0,.agg (GState.encS v1)] [(10000,0,.var [.sl (ab ah.encS g_s.nodes),.sl (ab GTie.enc g_s.ties),.lit (.int .i64 g_s.horizon),.mp 10001 0]),(10001,0,.map (eM g_known))] (.lit (.bool res.1)) [(10000,0,.var [.sl (ab ah.encS g_s.nodes),.sl (ab GTie.enc g_s.ties),.lit (.int .i64 g_s.horizon),.mp 10001 0]),(10001,0,.map (eM res.2))]:=nI 40 h
theorem pD {g_s:GShow}{g_known:List (ByteArray × Bool)}{v1:GState}{nodes:List Int}{res:Bool × (List (ByteArray × Bool))}(h:kz g_s g_known v1 nodes=some res):aj prog 107 [.ptr 10000 0 0 0,.agg (GState.encS v1),.sl (ab eI nodes)] [(10000,0,.var [.sl (ab ah.encS g_s.nodes),.sl (ab GTie.enc g_s.ties),.lit (.int .i64 g_s.horizon),.mp 10001 0]),(10001,0,.map (eM g_known))] (.lit (.bool res.1)) [(10000,0,.var [.sl (ab ah.encS g_s.nodes),.sl (ab GTie.enc g_s.ties),.lit (.int .i64 g_s.horizon),.mp 10001 0]),(10001,0,.map (eM res.2))]:=ja (@me) h
theorem qR {g_s:GShow}{g_known:List (ByteArray × Bool)}{v1:GState}{res:(List Int) × Bool × (List (ByteArray × Bool))}(h:ln g_s g_known v1=some res):aj prog 101 [.ptr 10000 0 0 0,.agg (GState.encS v1)] [(10000,0,.var [.sl (ab ah.encS g_s.nodes),.sl (ab GTie.enc g_s.ties),.lit (.int .i64 g_s.horizon),.mp 10001 0]),(10001,0,.map (eM g_known))] (.tup [.sl (ab eI res.1),.lit (.bool res.2.1)]) [(10000,0,.var [.sl (ab ah.encS g_s.nodes),.sl (ab GTie.enc g_s.ties),.lit (.int .i64 g_s.horizon),.mp 10001 0]),(10001,0,.map (eM res.2.2))]:=js (@me) h
instance k162 {nodes:List Int} {g_s:GShow} {g_known:List (ByteArray × Bool)} {v2:GState}:Ctr (dA nodes g_s g_known v2) (fun (res:Bool × (List (ByteArray × Bool)))=>aj prog 162 [.sl (ab eI nodes),.ptr 10000 0 0 0,.ptr 10003 0 0 0] [(10000,0,.var [.ptr 10001 0 0 0]),(10001,0,.var [.sl (ab ah.encS g_s.nodes),.sl (ab GTie.enc g_s.ties),.lit (.int .i64 g_s.horizon),.mp 10002 0]),(10002,0,.map (eM g_known)),(10003,0,.var [.lit (.int .i64 v2.now),.sl (ab eI v2.times),.sl (ab eI v2.values)])] (.lit (.bool res.1)) [(10000,0,.var [.ptr 10001 0 0 0]),(10001,0,.var [.sl (ab ah.encS g_s.nodes),.sl (ab GTie.enc g_s.ties),.lit (.int .i64 g_s.horizon),.mp 10002 0]),(10002,0,.map (eM res.2)),(10003,0,.var [.lit (.int .i64 v2.now),.sl (ab eI v2.times),.sl (ab eI v2.values)])]):=⟨by
 intro res h0
 refine co (hi:=hi00) func162 rfl rfl ?_
 unfold dA at h0
 obtain⟨r01,g0,h0⟩:=ae h0
 simp(config:=cS)only[go_sem, *]
 refine af (pD g0) ?_
 exact run⟩
@[go_sem] def dq (zb0:Bool)(v7:Int)(v0:List (List Int))(h10002_0:List ah)(h10002_1:List GTie)(h10002_2 h10004_0:Int)(h10004_1 h10004_2:List Int):(Int × (List (ByteArray × Bool)))→St
 | (v8,h10003)=>⟨[(0,.ref 10000 0 0 v0.length),(1,.fn 162 [.ptr 10001 0 0 0,.ptr 10004 0 0 0]),(7,.lit (.int .i64 v7)),(8,.lit (.int .i64 v8))],[(10000,0,.row zb0 (ab (eLS eI) v0)),(10001,0,.var [.ptr 10002 0 0 0]),(10002,0,.var [.sl (ab ah.encS h10002_0),.sl (ab GTie.enc h10002_1),.lit (.int .i64 h10002_2),.mp 10003 0]),(10003,0,.map (eM h10003)),(10004,0,.var [.lit (.int .i64 h10004_0),.sl (ab eI h10004_1),.sl (ab eI h10004_2)])],2⟩
theorem dX {v0:List (List Int)}{g_s:GShow}{g_known:List (ByteArray × Bool)}{cap1:GState}{zb0:Bool}{res:Int × (List (List Int)) × (List (ByteArray × Bool))}(h0:bi v0 g_s g_known cap1=some res):aj prog 170 [.ref 10000 0 0 v0.length,.fn 162 [.ptr 10001 0 0 0,.ptr 10004 0 0 0]] [(10000,0,.row zb0 (ab (eLS eI) v0)),(10001,0,.var [.ptr 10002 0 0 0]),(10002,0,.var [.sl (ab ah.encS g_s.nodes),.sl (ab GTie.enc g_s.ties),.lit (.int .i64 g_s.horizon),.mp 10003 0]),(10003,0,.map (eM g_known)),(10004,0,.var [.lit (.int .i64 cap1.now),.sl (ab eI cap1.times),.sl (ab eI cap1.values)])] (.lit (.int .i64 res.1)) [(10000,0,.row zb0 (ab (eLS eI) res.2.1)),(10001,0,.var [.ptr 10002 0 0 0]),(10002,0,.var [.sl (ab ah.encS g_s.nodes),.sl (ab GTie.enc g_s.ties),.lit (.int .i64 g_s.horizon),.mp 10003 0]),(10003,0,.map (eM res.2.2)),(10004,0,.var [.lit (.int .i64 cap1.now),.sl (ab eI cap1.times),.sl (ab eI cap1.values)])]:=by
 refine co (hi:=hi00) func170 rfl rfl ?_
 unfold bi at h0
 obtain⟨q03,l0,h0⟩:=ae h0
 simp(config:=cS)only[go_sem, *]
 refine ak (m1:=.mk) (m2:=.mk) [.nf [0,1,7,8] [10000,10001,10002,10003,10004]] (dq zb0 (v0.length:Int) v0 g_s.nodes g_s.ties g_s.horizon cap1.now cap1.times cap1.values) l0 ?_ ?_
 ·simp(config:=cS)only[go_sem, *]
 have k0:=h0
 clear h0 l0
 intro _ s0 _ h0 gb0
 obtain⟨v8_1,h10003_1⟩:=s0
 unfold bN at h0
 try dsimp only at h0
 exact run
@[go_sem] def dh (zb0:Bool)(v0_n:Nat)(h10002_0:List ah)(h10002_1:List GTie)(h10002_2 h10004_0:Int)(h10004_1 h10004_2:List Int):(Int × Int × (List (List Int)) × (List (ByteArray × Bool)))→St
 | (v5,v6,v0,h10003)=>⟨[(0,.ref 10000 0 0 v0_n),(1,.fn 162 [.ptr 10001 0 0 0,.ptr 10004 0 0 0]),(5,.lit (.int .i64 v5)),(6,.lit (.int .i64 v6))],[(10000,0,.row zb0 (ab (eLS eI) v0)),(10001,0,.var [.ptr 10002 0 0 0]),(10002,0,.var [.sl (ab ah.encS h10002_0),.sl (ab GTie.enc h10002_1),.lit (.int .i64 h10002_2),.mp 10003 0]),(10003,0,.map (eM h10003)),(10004,0,.var [.lit (.int .i64 h10004_0),.sl (ab eI h10004_1),.sl (ab eI h10004_2)])],2⟩
def bA:Hint where
 acts:=fun i=>match i with|0=>[.frIn 10000]|_=>[]
 draws:=fun
  | _=>⟨.nil,[],[]⟩
@[go_sem] theorem Fx:bA.acts 0=[.frIn 10000]:=rfl
@[go_sem] theorem Fy:bA.acts 1=[]:=rfl
@[go_sem] theorem Fz:bA.acts 2=[]:=rfl
@[go_sem] theorem FA:bA.acts 3=[]:=rfl
@[go_sem] theorem FB:bA.acts 4=[]:=rfl
@[go_sem] theorem FC:bA.acts 5=[]:=rfl
@[go_sem] theorem FD:bA.acts 7=[]:=rfl
@[go_sem] theorem FE:bA.acts 8=[]:=rfl
@[go_sem] theorem FF:bA.acts 9=[]:=rfl
@[go_sem] theorem En:bA.acts 10=[]:=rfl
@[go_sem] theorem FG:bA.acts 6=[]:=rfl
@[go_sem] theorem Eo:bA.acts 11=[]:=rfl
@[go_sem] theorem Ep:bA.acts 12=[]:=rfl
theorem dQ {v0:List (List Int)}{g_s:GShow}{g_known:List (ByteArray × Bool)}{cap1:GState}{zb0:Bool}{res:(List (List Int)) × (List (ByteArray × Bool))}(h0:bh v0 g_s g_known cap1=some res):aj prog 111 [.ref 10000 0 0 v0.length,.fn 162 [.ptr 10001 0 0 0,.ptr 10004 0 0 0]] [(10000,0,.row zb0 (ab (eLO eI) v0)),(10001,0,.var [.ptr 10002 0 0 0]),(10002,0,.var [.sl (ab ah.encS g_s.nodes),.sl (ab GTie.enc g_s.ties),.lit (.int .i64 g_s.horizon),.mp 10003 0]),(10003,0,.map (eM g_known)),(10004,0,.var [.lit (.int .i64 cap1.now),.sl (ab eI cap1.times),.sl (ab eI cap1.values)])] (.ref 10000 0 0 res.1.length) [(10000,0,.row false (ab (eLS eI) res.1)),(10001,0,.var [.ptr 10002 0 0 0]),(10002,0,.var [.sl (ab ah.encS g_s.nodes),.sl (ab GTie.enc g_s.ties),.lit (.int .i64 g_s.horizon),.mp 10003 0]),(10003,0,.map (eM res.2)),(10004,0,.var [.lit (.int .i64 cap1.now),.sl (ab eI cap1.times),.sl (ab eI cap1.values)])]:=by
 refine az (ra:=[.home 4,.trim 4]) (md:=mdT) hT (hi:=bA) func111 rfl rfl (by decide +kernel) (by simp) ?_
 unfold bh at h0
 obtain⟨r01,g0,h0⟩:=ae h0
 simp(config:=cS)only[go_sem, *]
 refine af (dX g0) ?_
 obtain⟨_,h0⟩|⟨_,h0⟩:=itP h0
 ·exact run
 obtain⟨q05,l0,h0⟩:=ae h0
 simp(config:=cS)only[go_sem, *]
 refine ak (m1:=.mk) (m2:=.mk) [.nf [0,1,5,6] [10000,10001,10002,10003,10004]] (dh zb0 v0.length g_s.nodes g_s.ties g_s.horizon cap1.now cap1.times cap1.values) l0 ?_ ?_
 ·simp(config:=cS)only[go_sem, *]
 have k0:=h0
 clear h0 l0
 intro _ s0 _ h0 gb0
 obtain⟨v5_1,v6_1,v0_1,h10003_1⟩:=s0
 unfold bJ at h0
 try dsimp only at h0
 exact run
@[go_sem] def hi103_1:DT:=.r2 0 5 (.i2 6 (.i2 5 (.i2 7 (.i2 8 .nil))))
def zU:Hint where
 acts:=fun _=>[]
 draws:=fun
  | 1=>⟨hi103_1,[[],[0],[0,1],[0,1,2],[],.range 5,[],.range 7,.range 8],.range 9⟩
  | _=>⟨.nil,[],[]⟩
theorem FH (i:Nat):zU.acts i=[]:=rfl
attribute[go_sem] FH ntmps103 results103
@[go_sem] theorem Im:(zU.draws 1).order=hi103_1:=rfl
instance k103 {g_s:GShow} {g_known:List (ByteArray × Bool)} {v1:GState}:Ctr (iu g_s g_known v1) (fun (res:(List (List Int)) × (List (ByteArray × Bool)))=>aj prog 103 [.ptr 10000 0 0 0,.agg (GState.encS v1)] [(10000,0,.var [.sl (ab ah.encS g_s.nodes),.sl (ab GTie.enc g_s.ties),.lit (.int .i64 g_s.horizon),.mp 10001 0]),(10001,0,.map (eM g_known))] (.ref 20000 1 0 res.1.length) [(10000,0,.var [.sl (ab ah.encS g_s.nodes),.sl (ab GTie.enc g_s.ties),.lit (.int .i64 g_s.horizon),.mp 10001 0]),(10001,0,.map (eM res.2)),(20000,1,.row false (ab (eLS eI) res.1))]):=⟨by
 intro res h0
 refine az (ra:=[.home 4,.trim 4]) (md:=mdT) hT (hi:=zU) func103 rfl rfl (by decide +kernel) (by simp) ?_
 unfold iu at h0
 obtain⟨r01,g0,h0⟩:=ae h0
 simp(config:=cS)only[go_sem, *]
 have g0:=ctr g0
 refine af g0 ?_
 obtain⟨r02,g0,h0⟩:=ae h0
 simp(config:=cS)only[go_sem, *]
 refine af (dQ g0) ?_
 exact run⟩
instance k102 {list:List (List Int)} {lazy:Bool}:Ctr (mv list lazy) (fun (res:(List Int) × Bool)=>aj prog 102 [.sl (ab (eLS eI) list),.lit (.bool lazy)] [] (.tup [.sl (ab eI res.1),.lit (.bool res.2)]) []):=⟨by
 intro res h0
 refine az (ra:=[.nilSl 4]) (md:=mdT) hT (hi:=hi00) func102 rfl rfl (by decide +kernel) (by simp) ?_
 unfold mv at h0
 obtain⟨_,h0⟩|⟨_,h0⟩:=itP h0
 ·exact run
 obtain⟨_,h0⟩|⟨_,h0⟩:=itB h0
 ·exact run
 obtain⟨x02,g1,h0⟩:=ae h0
 have:=aM (k:=0) g1
 exact run⟩
instance k100 {g_s:GShow} {g_known:List (ByteArray × Bool)} {v1:GState} {d:GDesk}:Ctr (gj g_s g_known v1 d) (fun (res:(List Int) × Bool × (List (ByteArray × Bool)))=>aj prog 100 [.ptr 10000 0 0 0,.agg (GState.encS v1),.loc [.sl (ab ah.encS d.show_.nodes),.sl (ab GTie.enc d.show_.ties),.lit (.int .i64 d.show_.horizon),.lit (.int .i64 d.state.now),.sl (ab eI d.state.times),.sl (ab eI d.state.values),.lit (.bool d.lazy),.sl (ab al.encS d.log)]] [(10000,0,.var [.sl (ab ah.encS g_s.nodes),.sl (ab GTie.enc g_s.ties),.lit (.int .i64 g_s.horizon),.mp 10001 0]),(10001,0,.map (eM g_known))] (.tup [.sl (ab eI res.1),.lit (.bool res.2.1)]) [(10000,0,.var [.sl (ab ah.encS g_s.nodes),.sl (ab GTie.enc g_s.ties),.lit (.int .i64 g_s.horizon),.mp 10001 0]),(10001,0,.map (eM res.2.2))]):=⟨by
 intro res h0
 refine az (ra:=[.home 5]) (md:=mdT) hT (hi:=hi00) func100 rfl rfl (by decide +kernel) (by simp) ?_
 unfold gj at h0
 obtain⟨_,h0⟩|⟨_,h0⟩:=itB h0
 ·exact run
 obtain⟨r03,g0,h0⟩:=ae h0
 simp(config:=cS)only[go_sem, *]
 refine af (qR g0) ?_
 exact run⟩
@[go_sem] def nJ (values v8:List Int)(v9:Int):(Int × (List Int))→St
 | (v10,out)=>⟨[(1,.sl (ab eI values)),(5,.ref 383 1 0 out.length),(8,.sl (ab eI v8)),(9,.lit (.int .i64 v9)),(10,.lit (.int .i64 v10))],[(383,1,.row true (ab eI out))],2⟩
instance k161 {props:List Int} {values:List Int}:Ctr (jg props values) (fun (res:List Int)=>aj prog 161 [.sl (ab eI props),.sl (ab eI values)] [] (.ref 20000 1 0 res.length) [(20000,1,.row true (ab eI res))]):=⟨by
 intro res h0
 refine az (ra:=[.home 4]) (md:=mdT) hT (hi:=hi00) func161 rfl rfl (by decide +kernel) (by simp) ?_
 unfold jg at h0
 obtain⟨q03,l0,h0⟩:=ae h0
 simp(config:=cS)only[go_sem, *]
 refine ak (m1:=.mk) (m2:=.mk) [.home 5,.nf [1,5,8,9,10] [383]] (nJ values props (props.length:Int)) l0 ?_ ?_
 ·simp(config:=cS)only[go_sem, *]
 have k0:=h0
 clear h0 l0
 intro _ s0 _ h0 gb0
 obtain⟨v10_1,out_1⟩:=s0
 unfold kA at h0
 try dsimp only at h0
 exact run⟩
@[go_sem] def bX (ties values nodes:List Int)(v90 out_2 out_3:Int)(out_6:Bool)(v15_0:Int)(v15_1 v15_2:List Int)(next_0:Int)(h1600:List ah)(h1601:List GTie)(h1602 h1603:List Int)(h1604:List al)(h5504 h5505 v89:List Int):(Int × (List Int))→St
 | (v91,seen)=>⟨[(1,.sl (ab eI ties)),(2,.sl (ab eI values)),(10,.ptr 640 1 0 0),(13,.ptr 832 1 0 0),(15,.ptr 960 1 0 0),(17,.sl (ab eI nodes)),(19,.ptr 1216 1 0 0),(20,.ref 5506 1 0 v89.length),(21,.ref 1407 1 0 seen.length),(89,.ref 5506 1 0 v89.length),(90,.lit (.int .i64 v90)),(91,.lit (.int .i64 v91))],[(640,1,.var [.lit (.slice none 0 0),.lit (.slice none 0 0),.lit (.int .i64 0),.lit (.int .i64 0),.lit (.slice none 0 0),.lit (.slice none 0 0),.lit (.bool false),.lit (.slice none 0 0)]),(832,1,.var [.ref 1600 1 0 h1600.length,.ref 1601 1 0 h1601.length,.lit (.int .i64 out_2),.lit (.int .i64 out_3),.ref 1602 1 0 h1602.length,.ref 1603 1 0 h1603.length,.lit (.bool out_6),.ref 1604 1 0 h1604.length]),(1600,1,.row true (ab ah.encO h1600)),(1601,1,.row true (ab GTie.enc h1601)),(1602,1,.row true (ab eI h1602)),(1603,1,.row true (ab eI h1603)),(1604,1,.row true (ab al.encO h1604)),(960,1,.var [.lit (.int .i64 v15_0),.sl (ab eI v15_1),.sl (ab eI v15_2)]),(1216,1,.var [.lit (.int .i64 next_0),.ref 5504 1 0 h5504.length,.ref 5505 1 0 h5505.length]),(5504,1,.row true (ab eI h5504)),(5505,1,.row true (ab eI h5505)),(5506,1,.row true (ab eI v89)),(1407,1,.row true (ab eI seen))],2⟩
@[go_sem] def hi99_s100_22:DT:=.i1 0 (.i2 1 (.i0 2 [0] (.r2 3 3 .nil)))
@[go_sem] def hi99_s100_21:DT:=.i1 0 (.i1 1 (.i1 2 (.i1 3 (.i2 4 (.i2 6 (.i2 8 (.i2 9 (.i0 5 [0,1,2,3] (.i0 7 [0,1,2,3] (.i0 10 [0,1,2,3] (.i2 11 (.i0 12 [0,1] (.r2 13 3 .nil)))))))))))))
@[go_sem] def hi99_s100_10:DT:=.i2 0 (.i2 1 (.i1 3 (.i0 2 [3] (.r2 4 6 .nil))))
@[go_sem] def hi99_s100_4:DT:=.i1 0 (.i1 1 (.i1 2 (.i1 3 (.fork (.i0 4 [0,1,2,3] (.i0 5 [0,1,2,3] (.i0 6 [2,3] (.i2 7 .nil)))) (.i0 5 [0,1,2,3] (.i0 4 [0,1,2,3] (.i0 6 [2,3] (.i2 7 .nil))))))))
def iD:Hint where
 acts:=fun _=>[]
 draws:=fun
  | 4=>⟨hi99_s100_4,[[],[0],[],[2],[],[],[0,1,4,5],.range 7],[0,1,5,6,2,3,4,7]⟩
  | 10=>⟨hi99_s100_10,[[],[],[1],[],[0,1,2,3],.range 5,.range 6,.range 6,.range 7,.range 9],[0,1,2,3,4,5,6,8,7,9]⟩
  | 21=>⟨hi99_s100_21,[[],[0],[],[2],[],[4],[],[4,5,6],[],[],[4,5,6,7,8,9],[2,3,4,5,6,7,8,9,10],[2,3,4,5,6,7,8,9,10,11],.range 13,.range 14,.range 15],.range 16⟩
  | 22=>⟨hi99_s100_22,[[],[],[1],[0,1,2],[0,1,2,3],.range 5],.range 6⟩
  | _=>⟨.nil,[],[]⟩
theorem zV (i:Nat):iD.acts i=[]:=rfl
attribute[go_sem] zV ntmps99 results99
@[go_sem] theorem GA:(iD.draws 4).order=hi99_s100_4:=rfl
@[go_sem] theorem FI:(iD.draws 10).order=hi99_s100_10:=rfl
@[go_sem] theorem FJ:(iD.draws 21).order=hi99_s100_21:=rfl
@[go_sem] theorem FK:(iD.draws 22).order=hi99_s100_22:=rfl
instance k99_s100 {d:GDesk} {ties:List Int} {values:List Int} {refused:Int} {d':GDesk}:Ctr (bL d ties values refused d') (fun (res:GDesk × (List Int) × Int)=>aj prog 99 [.agg (GDesk.encS d),.sl (ab eI ties),.sl (ab eI values),.lit (.int .i64 refused),.fn 100 [.loc [.sl (ab ah.encS d'.show_.nodes),.sl (ab GTie.enc d'.show_.ties),.lit (.int .i64 d'.show_.horizon),.lit (.int .i64 d'.state.now),.sl (ab eI d'.state.times),.sl (ab eI d'.state.values),.lit (.bool d'.lazy),.sl (ab al.encS d'.log)]]] [] (.tup [.agg [.ref 20000 1 0 res.1.show_.nodes.length,.ref 20001 1 0 res.1.show_.ties.length,.lit (.int .i64 res.1.show_.horizon),.lit (.int .i64 res.1.state.now),.ref 20002 1 0 res.1.state.times.length,.ref 20003 1 0 res.1.state.values.length,.lit (.bool res.1.lazy),.ref 20004 1 0 res.1.log.length],.ref 20005 1 0 res.2.1.length,.lit (.int .i64 res.2.2)]) [(20000,1,.row true (ab ah.encO res.1.show_.nodes)),(20001,1,.row true (ab GTie.enc res.1.show_.ties)),(20002,1,.row true (ab eI res.1.state.times)),(20003,1,.row true (ab eI res.1.state.values)),(20004,1,.row true (ab al.encO res.1.log)),(20005,1,.row true (ab eI res.2.1))]):=⟨by
 intro res h0
 refine az (ra:=[.homeCell 640 0,.homeCell 640 1,.homeCell 640 4,.homeCell 640 5,.homeCell 640 7,.home 11]) (md:=mdT) hT (hi:=iD) func99 rfl rfl (by decide +kernel) (by simp) ?_
 unfold bL at h0
 obtain⟨r01,g0,h0⟩:=ae h0
 simp(config:=cS)only[go_sem, *]
 have g0:=ctr g0
 refine af g0 ?_
 obtain⟨r02,g0,h0⟩:=ae h0
 simp(config:=cS)only[go_sem, *]
 have g0:=ctr g0
 refine af g0 ?_
 obtain⟨_,h0⟩|⟨_,h0⟩:=itB h0
 ·obtain⟨_,h0⟩|⟨_,h0⟩:=itP h0
  ·obtain⟨r03,g0,h0⟩:=ae h0
   simp(config:=cS)only[go_sem, *]
   refine af (bz (by exact fun _ _ hr=>by have q:=ctr hr;exact q) (by refine⟨fun _=>?_,fun _=>?_⟩ <;> simp only[go_sem]) (fun _=>rfl) rfl g0) ?_
   obtain⟨_,h0⟩|⟨_,h0⟩:=itB h0
   ·exact run
   try simp(config:=cS)only[go_sem, *]
   refine bR ?_ ?_
   ·obtain⟨r04,g0,h0⟩:=ae h0
    simp(config:=cS)only[go_sem, *]
    have g0:=ctr g0
    refine af g0 ?_
    obtain⟨_,h0⟩|⟨_,h0⟩:=itB h0
    ·exact run
    obtain⟨r05,g0,h0⟩:=ae h0
    simp(config:=cS)only[go_sem, *]
    have g0:=ctr g0
    refine af g0 ?_
    obtain⟨_,h0⟩|⟨_,h0⟩:=itB h0
    ·exact run
    obtain⟨_,h0⟩|⟨_,h0⟩:=itP h0
    ·exact run
    obtain⟨r06,g0,h0⟩:=ae h0
    simp(config:=cS)only[go_sem, *]
    have g0:=ctr g0
    refine af g0 ?_
    obtain⟨r07,g0,h0⟩:=ae h0
    simp(config:=cS)only[go_sem, *]
    have g0:=ctr g0
    refine af g0 ?_
    obtain⟨_,h0⟩|⟨_,h0⟩:=itB h0
    ·obtain⟨r08,g0,h0⟩:=ae h0
     simp(config:=cS)only[go_sem, *]
     have g0:=ctr g0
     refine af g0 ?_
     obtain⟨r09,g0,h0⟩:=ae h0
     simp(config:=cS)only[go_sem, *]
     have g0:=ctr g0
     refine af g0 ?_
     obtain⟨r10,g0,h0⟩:=ae h0
     simp(config:=cS)only[go_sem, *]
     have g0:=ctr g0
     refine af g0 ?_
     obtain⟨_,h0⟩|⟨_,h0⟩:=itB h0
     ·obtain⟨r11,g0,h0⟩:=ae h0
      simp(config:=cS)only[go_sem, *]
      have g0:=ctr g0
      refine af g0 ?_
      obtain⟨q19,l0,h0⟩:=ae h0
      simp(config:=cS)only[go_sem, *]
      refine ak (m1:=.mk) (m2:=.mk) [.home 21,.nf [1,2,10,13,15,17,19,20,21,89,90,91] [640,832,1600,1601,1602,1603,1604,960,1216,5504,5505,5506,1407]] (bX ties values r10.1 (r11.2.length:Int) r01.show_.horizon r01.state.now r01.lazy d.state.now d.state.times d.state.values r11.1.now r01.show_.nodes r01.show_.ties r01.state.times r01.state.values r01.log r11.1.times r11.1.values r11.2) l0 ?_ ?_
      ·simp(config:=cS)only[go_sem, *]
      have k0:=h0
      clear h0 l0
      intro _ s0 _ h0 gb0
      obtain⟨v91_1,seen_1⟩:=s0
      unfold bu at h0
      try dsimp only at h0
      exact run
     exact run
    exact run
   obtain⟨r20,g0,h0⟩:=ae h0
   simp(config:=cS)only[go_sem, *]
   have g0:=ctr g0
   refine af g0 ?_
   obtain⟨_,h0⟩|⟨_,h0⟩:=itB h0
   ·exact run
   obtain⟨r21,g0,h0⟩:=ae h0
   simp(config:=cS)only[go_sem, *]
   have g0:=ctr g0
   refine af g0 ?_
   obtain⟨_,h0⟩|⟨_,h0⟩:=itB h0
   ·exact run
   obtain⟨_,h0⟩|⟨_,h0⟩:=itP h0
   ·exact run
   obtain⟨r22,g0,h0⟩:=ae h0
   simp(config:=cS)only[go_sem, *]
   have g0:=ctr g0
   refine af g0 ?_
   obtain⟨r23,g0,h0⟩:=ae h0
   simp(config:=cS)only[go_sem, *]
   have g0:=ctr g0
   refine af g0 ?_
   obtain⟨_,h0⟩|⟨_,h0⟩:=itB h0
   ·obtain⟨r24,g0,h0⟩:=ae h0
    simp(config:=cS)only[go_sem, *]
    have g0:=ctr g0
    refine af g0 ?_
    obtain⟨r25,g0,h0⟩:=ae h0
    simp(config:=cS)only[go_sem, *]
    have g0:=ctr g0
    refine af g0 ?_
    obtain⟨r26,g0,h0⟩:=ae h0
    simp(config:=cS)only[go_sem, *]
    have g0:=ctr g0
    refine af g0 ?_
    obtain⟨_,h0⟩|⟨_,h0⟩:=itB h0
    ·obtain⟨r27,g0,h0⟩:=ae h0
     simp(config:=cS)only[go_sem, *]
     have g0:=ctr g0
     refine af g0 ?_
     obtain⟨q35,l0,h0⟩:=ae h0
     simp(config:=cS)only[go_sem, *]
     refine ak (m1:=.mk) (m2:=.mk) [.home 21,.nf [1,2,10,13,15,17,19,20,21,89,90,91] [640,832,1600,1601,1602,1603,1604,960,1216,5504,5505,5506,1407]] (bX ties values r26.1 (r27.2.length:Int) r01.show_.horizon r01.state.now r01.lazy d.state.now d.state.times d.state.values r27.1.now r01.show_.nodes r01.show_.ties r01.state.times r01.state.values r01.log r27.1.times r27.1.values r27.2) l0 ?_ ?_
     ·simp(config:=cS)only[go_sem, *]
     have k0:=h0
     clear h0 l0
     intro _ s0 _ h0 gb0
     obtain⟨v91_2,seen_2⟩:=s0
     unfold bu at h0
     try dsimp only at h0
     exact run
    exact run
   exact run
  exact run
 exact run⟩
instance k56 {d:GDesk} {ties:List Int} {values:List Int}:Ctr (jh d ties values) (fun (res:GDesk × (List Int) × Int)=>aj prog 56 [.agg (GDesk.encS d),.sl (ab eI ties),.sl (ab eI values)] [] (.tup [.agg [.ref 20000 1 0 res.1.show_.nodes.length,.ref 20001 1 0 res.1.show_.ties.length,.lit (.int .i64 res.1.show_.horizon),.lit (.int .i64 res.1.state.now),.ref 20002 1 0 res.1.state.times.length,.ref 20003 1 0 res.1.state.values.length,.lit (.bool res.1.lazy),.ref 20004 1 0 res.1.log.length],.ref 20005 1 0 res.2.1.length,.lit (.int .i64 res.2.2)]) [(20000,1,.row true (ab ah.encO res.1.show_.nodes)),(20001,1,.row true (ab GTie.enc res.1.show_.ties)),(20002,1,.row true (ab eI res.1.state.times)),(20003,1,.row true (ab eI res.1.state.values)),(20004,1,.row true (ab al.encO res.1.log)),(20005,1,.row true (ab eI res.2.1))]):=⟨by
 intro res h0
 refine az (ra:=[.homeCell 384 0,.homeCell 384 1,.homeCell 384 4,.homeCell 384 5,.homeCell 384 7,.home 7]) (md:=mdT) hT (hi:=hi00) func56 rfl rfl (by decide +kernel) (by simp) ?_
 unfold jh at h0
 exact run⟩
@[go_sem] def ol (v8:List Int)(v9:Int)(s_0:List ah)(s_1:List GTie)(s_2:Int):(Int × (List ByteArray))→St
 | (v10,out)=>⟨[(2,.ptr 128 1 0 0),(5,.ref 383 1 0 out.length),(8,.sl (ab eI v8)),(9,.lit (.int .i64 v9)),(10,.lit (.int .i64 v10))],[(128,1,.var [.sl (ab ah.encS s_0),.sl (ab GTie.enc s_1),.lit (.int .i64 s_2)]),(383,1,.row true (ab eS out))],2⟩
instance k98 {s:GShow} {nodes:List Int}:Ctr (jV s nodes) (fun (res:List ByteArray)=>aj prog 98 [.agg (GShow.encS s),.sl (ab eI nodes)] [] (.ref 20000 1 0 res.length) [(20000,1,.row true (ab eS res))]):=⟨by
 intro res h0
 refine az (ra:=[.home 4]) (md:=mdT) hT (hi:=hi00) func98 rfl rfl (by decide +kernel) (by simp) ?_
 unfold jV at h0
 obtain⟨q03,l0,h0⟩:=ae h0
 simp(config:=cS)only[go_sem, *]
 refine ak (m1:=.mk) (m2:=.mk) [.home 5,.nf [2,5,8,9,10] [128,383]] (ol nodes (nodes.length:Int) s.nodes s.ties s.horizon) l0 ?_ ?_
 ·simp(config:=cS)only[go_sem, *]
 have k0:=h0
 clear h0 l0
 intro _ s0 _ h0 gb0
 obtain⟨v10_1,out_1⟩:=s0
 unfold lp at h0
 try dsimp only at h0
 exact run⟩
instance k97 {parts:List ByteArray} {by_:ByteArray}:Ctr (fK parts by_) (fun (res:ByteArray)=>aj prog 97 [.sl (ab eS parts),.lit (.string by_)] [] (.lit (.string res)) []):=⟨by
 intro res h0
 refine co (hi:=hi00) func97 rfl rfl ?_
 unfold fK at h0
 exact run⟩
instance k59 {code:Int}:Ctr (gk code) (fun (res:ByteArray)=>aj prog 59 [.lit (.int .i64 code)] [] (.lit (.string res)) []):=⟨by
 intro res h0
 refine co (hi:=hi00) func59 rfl rfl ?_
 unfold gk at h0
 exact run⟩
instance k55 {v0:GConsole} {d:GDesk} {nodes:List Int} {code:Int}:Ctr (fj v0 d nodes code) (fun (res:ByteArray × GConsole)=>aj prog 55 [.ptr 10000 0 0 0,.agg (GDesk.encS d),.sl (ab eI nodes),.lit (.int .i64 code)] [(10000,0,.var [.sl (ab GCue.enc v0.sheet.cues),.sl (ab eI v0.sheet.prep),.lit (.int .i64 v0.sheet.horizon),.sl (ab ah.encS v0.desk.show_.nodes),.sl (ab GTie.enc v0.desk.show_.ties),.lit (.int .i64 v0.desk.show_.horizon),.lit (.int .i64 v0.desk.state.now),.sl (ab eI v0.desk.state.times),.sl (ab eI v0.desk.state.values),.lit (.bool v0.desk.lazy),.sl (ab al.encS v0.desk.log),.sl (ab aE.enc v0.takes)])] (.lit (.string res.1)) [(10000,0,.var [.sl (ab GCue.enc res.2.sheet.cues),.sl (ab eI res.2.sheet.prep),.lit (.int .i64 res.2.sheet.horizon),.sl (ab ah.encS res.2.desk.show_.nodes),.sl (ab GTie.enc res.2.desk.show_.ties),.lit (.int .i64 res.2.desk.show_.horizon),.lit (.int .i64 res.2.desk.state.now),.sl (ab eI res.2.desk.state.times),.sl (ab eI res.2.desk.state.values),.lit (.bool res.2.desk.lazy),.sl (ab al.encS res.2.desk.log),.sl (ab aE.enc res.2.takes)])]):=⟨by
 intro res h0
 refine az (ra:=[.homeCell 10000 0,.freeze [100640000],.sliC 10000 0,.homeCell 10000 1,.freeze [100640001],.sliC 10000 1,.homeCell 10000 3,.freeze [100640003],.sliC 10000 3,.homeCell 10000 4,.freeze [100640004],.sliC 10000 4,.homeCell 10000 7,.freeze [100640007],.sliC 10000 7,.homeCell 10000 8,.freeze [100640008],.sliC 10000 8,.homeCell 10000 10,.freeze [100640010],.sliC 10000 10,.homeCell 10000 11,.freeze [100640011],.sliC 10000 11]) (md:=mdT) hT (hi:=hi00) func55 rfl rfl (by decide +kernel) (by simp) ?_
 unfold fj at h0
 exact run⟩
@[go_sem] def hi36_15:DT:=.r2 0 10 .nil
def hi36:Hint where
 acts:=fun _=>[]
 draws:=fun
  | 15=>⟨hi36_15,[[],[0],[0,1],[0,1,2],[0,1,2,3],[],[5],[5,6],.range 8,.range 9],.range 10⟩
  | _=>⟨.nil,[],[]⟩
theorem GR (i:Nat):hi36.acts i=[]:=rfl
attribute[go_sem] GR ntmps36 results36
@[go_sem] theorem In:(hi36.draws 15).order=hi36_15:=rfl
instance k36 {v0:GConsole} {words:List ByteArray}:Ctr (cA v0 words) (fun (res:ByteArray × GConsole)=>aj prog 36 [.ptr 10000 0 0 0,.sl (ab eS words)] [(10000,0,.var [.sl (ab GCue.enc v0.sheet.cues),.sl (ab eI v0.sheet.prep),.lit (.int .i64 v0.sheet.horizon),.sl (ab ah.encS v0.desk.show_.nodes),.sl (ab GTie.enc v0.desk.show_.ties),.lit (.int .i64 v0.desk.show_.horizon),.lit (.int .i64 v0.desk.state.now),.sl (ab eI v0.desk.state.times),.sl (ab eI v0.desk.state.values),.lit (.bool v0.desk.lazy),.sl (ab al.encS v0.desk.log),.sl (ab aE.enc v0.takes)])] (.lit (.string res.1)) [(10000,0,.var [.sl (ab GCue.enc res.2.sheet.cues),.sl (ab eI res.2.sheet.prep),.lit (.int .i64 res.2.sheet.horizon),.sl (ab ah.encS res.2.desk.show_.nodes),.sl (ab GTie.enc res.2.desk.show_.ties),.lit (.int .i64 res.2.desk.show_.horizon),.lit (.int .i64 res.2.desk.state.now),.sl (ab eI res.2.desk.state.times),.sl (ab eI res.2.desk.state.values),.lit (.bool res.2.desk.lazy),.sl (ab al.encS res.2.desk.log),.sl (ab aE.enc res.2.takes)])]):=⟨by
 intro res h0
 refine az (ra:=[.homeCell 10000 0,.freeze [100640000],.sliC 10000 0,.homeCell 10000 1,.freeze [100640001],.sliC 10000 1,.homeCell 10000 3,.freeze [100640003],.sliC 10000 3,.homeCell 10000 4,.freeze [100640004],.sliC 10000 4,.homeCell 10000 7,.freeze [100640007],.sliC 10000 7,.homeCell 10000 8,.freeze [100640008],.sliC 10000 8,.homeCell 10000 10,.freeze [100640010],.sliC 10000 10,.homeCell 10000 11,.freeze [100640011],.sliC 10000 11]) (md:=mdT) hT (hi:=hi36) func36 rfl rfl (by decide +kernel) (by simp) ?_
 unfold cA at h0
 obtain⟨x01,g1,h0⟩:=ae h0
 have:=aM (k:=1) g1
 obtain⟨r02,g0,h0⟩:=ae h0
 simp(config:=cS)only[go_sem, *]
 have g0:=ctr g0
 refine af g0 ?_
 obtain⟨x03,_,_,_,h0⟩:=gtI h0
 obtain⟨r04,g0,h0⟩:=ae h0
 simp(config:=cS)only[go_sem, *]
 have g0:=ctr g0
 refine af g0 ?_
 obtain⟨_,h0⟩|⟨_,h0⟩:=itB h0
 ·obtain⟨_,h0⟩|⟨_,h0⟩:=itB h0
  ·obtain⟨x05,g2,h0⟩:=ae h0
   have:=aM (k:=0) g2
   obtain⟨_,h0⟩|⟨_,h0⟩:=itP h0
   ·obtain⟨_,h0⟩|⟨_,h0⟩:=itP h0
    ·exact run
    obtain⟨_,h0⟩|⟨_,h0⟩:=itP h0
    ·obtain⟨_,h0⟩|⟨_,h0⟩:=itP h0
     ·obtain⟨x08,g3,h0⟩:=ae h0
      have:=aM (k:=2) g3
      exact run
     exact run
    obtain⟨_,h0⟩|⟨_,h0⟩:=itP h0
    ·obtain⟨_,h0⟩|⟨_,h0⟩:=itP h0
     ·obtain⟨x10,g4,h0⟩:=ae h0
      have:=aM (k:=2) g4
      exact run
     exact run
    exact run
   obtain⟨_,h0⟩|⟨_,h0⟩:=itP h0
   ·obtain⟨_,h0⟩|⟨_,h0⟩:=itP h0
    ·obtain⟨x12,g5,h0⟩:=ae h0
     have:=aM (k:=2) g5
     exact run
    exact run
   obtain⟨_,h0⟩|⟨_,h0⟩:=itP h0
   ·obtain⟨_,h0⟩|⟨_,h0⟩:=itP h0
    ·obtain⟨x14,g6,h0⟩:=ae h0
     have:=aM (k:=2) g6
     exact run
    exact run
   exact run
  exact run
 exact run⟩
@[go_sem] def oT (v11:List GCue)(v12:Int):(Int × Int × (List Int) × (List Int))→St
 | (n,v13,begins,ends)=>⟨[(5,.ref 383 1 0 begins.length),(6,.ref 447 1 0 ends.length),(7,.lit (.int .i64 n)),(11,.sl (ab GCue.enc v11)),(12,.lit (.int .i64 v12)),(13,.lit (.int .i64 v13))],[(383,1,.row true (ab eI begins)),(447,1,.row true (ab eI ends))],2⟩
instance k123 {t:GSheet}:Ctr (kW t) (fun (res:(List Int) × (List Int) × Int)=>aj prog 123 [.agg (GSheet.encS t)] [] (.tup [.ref 20000 1 0 res.1.length,.ref 20001 1 0 res.2.1.length,.lit (.int .i64 res.2.2)]) [(20000,1,.row true (ab eI res.1)),(20001,1,.row true (ab eI res.2.1))]):=⟨by
 intro res h0
 refine az (ra:=[.home 2,.home 3]) (md:=mdT) hT (hi:=hi00) func123 rfl rfl (by decide +kernel) (by simp) ?_
 unfold kW at h0
 obtain⟨q03,l0,h0⟩:=ae h0
 simp(config:=cS)only[go_sem, *]
 refine ak (m1:=.mk) (m2:=.mk) [.home 5,.home 6,.nf [5,6,7,11,12,13] [383,447]] (oT t.cues (t.cues.length:Int)) l0 ?_ ?_
 ·simp(config:=cS)only[go_sem, *]
 have k0:=h0
 clear h0 l0
 intro _ s0 _ h0 gb0
 obtain⟨n_1,v13_1,begins_1,ends_1⟩:=s0
 unfold mw at h0
 try dsimp only at h0
 obtain⟨_,h0⟩|⟨_,h0⟩:=itP h0
 ·obtain⟨x01,_,_,_,h0⟩:=gtI h0
  obtain⟨_,h0⟩:=ckP h0
  obtain⟨_,h0⟩:=ckP h0
  obtain⟨_,h0⟩:=ckP h0
  obtain⟨_,h0⟩:=ckP h0
  obtain⟨_,h0⟩|⟨_,h0⟩:=itP h0
  ·exact run
  obtain⟨x02,a1,a2,a3,h0⟩:=gtI h0
  try simp only[List.length_append,List.length_cons,List.length_nil,Nat.zero_add,Nat.reduceAdd]at a1
  try simp only[List.length_append,List.length_cons,List.length_nil,Nat.zero_add,Nat.reduceAdd]at a2
  try simp only[List.length_append,List.length_cons,List.length_nil,Nat.zero_add,Nat.reduceAdd]at a3
  exact run
 exact run⟩
instance k124 {v0:Int}:Ctr (ew v0) (fun (res:List Int)=>aj prog 124 [.lit (.int .i64 v0)] [] (.ref 20000 1 0 res.length) [(20000,1,.row true (ab eI res))]):=⟨by
 intro res h0
 refine az (ra:=[.home 2]) (md:=mdT) hT (hi:=hi00) func124 rfl rfl (by decide +kernel) (by simp) ?_
 unfold ew at h0
 exact run⟩
@[go_sem] def bV (n i:Int)(v28:List GCue)(v29 v119:Int)(t_1:List Int)(t_2:Int)(v9_0:ByteArray)(v9_1:Int)(v9_2:Bool)(v9_3 v9_4 v9_5 v9_6:Int)(v9_7:Bool)(v9_8 v9_9 v9_10:Int)(begins ends:List Int)(h1600:List ah)(h100028673:List GTie)(v120:Int):St:=⟨[(1,.ptr 64 1 0 0),(2,.ptr 128 1 0 0),(4,.ref 1152 1 0 begins.length),(5,.ref 1153 1 0 ends.length),(6,.lit (.int .i64 n)),(7,.ptr 448 1 0 0),(8,.lit (.int .i64 i)),(9,.ptr 576 1 0 0),(28,.sl (ab GCue.enc v28)),(29,.lit (.int .i64 v29)),(30,.lit (.int .i64 i)),(119,.lit (.int .i64 v119)),(120,.lit (.int .i64 v120))],[(64,1,.var [.sl (ab GCue.enc v28),.sl (ab eI t_1),.lit (.int .i64 t_2)]),(128,1,.var [.lit (.slice none 0 0),.lit (.slice none 0 0),.lit (.int .i64 0)]),(1152,1,.row true (ab eI begins)),(1153,1,.row true (ab eI ends)),(448,1,.var [.ref 1600 1 0 h1600.length,.ref 100028673 1 0 h100028673.length,.lit (.int .i64 t_2)]),(1600,1,.row true (ab ah.encO h1600)),(100028673,1,.row true (ab GTie.enc h100028673)),(576,1,.var [.lit (.string v9_0),.lit (.int .i64 v9_1),.lit (.bool v9_2),.lit (.int .i64 v9_3),.lit (.int .i64 v9_4),.lit (.int .i64 v9_5),.lit (.int .i64 v9_6),.lit (.bool v9_7),.lit (.int .i64 v9_8),.lit (.int .i64 v9_9),.lit (.int .i64 v9_10)])],2⟩
@[go_sem] def lO (n:Int)(v28:List GCue)(v29:Int)(t_1:List Int)(t_2:Int)(begins ends:List Int):(Int × (List ah) × (List GTie))→St
 | (v30,h1600,h100028673)=>⟨[(1,.ptr 64 1 0 0),(2,.ptr 128 1 0 0),(4,.ref 1152 1 0 begins.length),(5,.ref 1153 1 0 ends.length),(6,.lit (.int .i64 n)),(7,.ptr 448 1 0 0),(28,.sl (ab GCue.enc v28)),(29,.lit (.int .i64 v29)),(30,.lit (.int .i64 v30))],[(64,1,.var [.sl (ab GCue.enc v28),.sl (ab eI t_1),.lit (.int .i64 t_2)]),(128,1,.var [.lit (.slice none 0 0),.lit (.slice none 0 0),.lit (.int .i64 0)]),(1152,1,.row true (ab eI begins)),(1153,1,.row true (ab eI ends)),(448,1,.var [.ref 1600 1 0 h1600.length,.ref 100028673 1 0 h100028673.length,.lit (.int .i64 t_2)]),(1600,1,.row true (ab ah.encO h1600)),(100028673,1,.row true (ab GTie.enc h100028673))],2⟩
@[go_sem] def hi68_22:DT:=.i1 0 (.i1 1 (.r2 2 3 (.i2 6 (.i2 7 (.i1 8 (.i1 9 (.i1 10 (.i1 11 (.i1 12 (.i1 13 (.i2 14 (.i1 15 (.i1 16 (.i0 5 [0,1,8,9,10,11,12,13,15,16] (.i2 17 (.i0 18 [0,1] (.r2 19 3 .nil)))))))))))))))))
@[go_sem] def hi68_21:DT:=.r2 0 20 .nil
@[go_sem] def hi68_17:DT:=.i1 0 (.i1 1 (.r2 2 15 (.i0 17 [0,1] (.r2 18 3 .nil))))
@[go_sem] def hi68_16:DT:=.i1 0 (.i1 1 (.i1 2 (.i1 3 (.r2 4 3 (.i0 7 [0,1,2,3] (.i2 8 (.i0 9 [0,1] (.r2 10 3 .nil))))))))
@[go_sem] def hi68_14:DT:=.i1 0 (.i1 1 (.r2 2 10 (.i0 12 [0,1] (.r2 13 3 .nil))))
@[go_sem] def hi68_8:DT:=.i1 0 (.i1 1 (.i1 2 (.i1 3 (.i2 4 (.i2 5 (.i1 7 (.i1 8 (.i0 6 [0,1,2,3,7,8] (.i2 9 (.i0 10 [0,1] (.r2 11 3 .nil)))))))))))
def hi68:Hint where
 acts:=fun _=>[]
 draws:=fun
  | 8=>⟨hi68_8,[[],[0],[],[2],[],[4],[4,5],[],[7],[2,3,4,5,6,7,8],[2,3,4,5,6,7,8,9],.range 11,.range 12,.range 13],.range 14⟩
  | 14=>⟨hi68_14,[[],[0],[],[],[],[3,4],[3,4,5],[],[7],[],[9],[2,3,4,5,6,7,8,9,10],[2,3,4,5,6,7,8,9,10,11],.range 13,.range 14,.range 15],.range 16⟩
  | 16=>⟨hi68_16,[[],[0],[],[2],[2,3],[],[5],[5,6],[2,3,4,5,6,7],[2,3,4,5,6,7,8],.range 10,.range 11,.range 12],.range 13⟩
  | 17=>⟨hi68_17,[[],[0],[],[],[2,3],[2,3,4],[],[],[6,7],[6,7,8],[],[10],[],[12],[],[14],[2,3,4,5,6,7,8,9,10,11,12,13,14,15],[2,3,4,5,6,7,8,9,10,11,12,13,14,15,16],.range 18,.range 19,.range 20],.range 21⟩
  | 21=>⟨hi68_21,[[],[0],[0,1],[0,1,2],[0,1,2,3],.range 5,[0,1,2,3],.range 7,.range 8,.range 9,[0,1,2,3],[0,1,2,3,10],.range 12,.range 13,.range 14,.range 15,.range 15,.range 15,.range 18,.range 19],.range 20⟩
  | 22=>⟨hi68_22,[[],[0],[],[],[],[2,3,4],[],[],[6,7],[6,7,8],[],[10],[],[12],[12,13],[10,11,12,13,14],[10,11,12,13,14,15],[2,3,4,5,6,7,8,9,10,11,12,13,14,15,16],[2,3,4,5,6,7,8,9,10,11,12,13,14,15,16,17],.range 19,.range 20,.range 21],.range 22⟩
  | _=>⟨.nil,[],[]⟩
theorem GS (i:Nat):hi68.acts i=[]:=rfl
attribute[go_sem] GS ntmps68 results68
@[go_sem] theorem Jf:(hi68.draws 8).order=hi68_8:=rfl
@[go_sem] theorem Io:(hi68.draws 14).order=hi68_14:=rfl
@[go_sem] theorem Ip:(hi68.draws 16).order=hi68_16:=rfl
@[go_sem] theorem Iq:(hi68.draws 17).order=hi68_17:=rfl
@[go_sem] theorem Ir:(hi68.draws 21).order=hi68_21:=rfl
@[go_sem] theorem Is:(hi68.draws 22).order=hi68_22:=rfl
instance k68 {t:GSheet}:Ctr (dB t) (fun (res:GShow × Int)=>aj prog 68 [.agg (GSheet.encS t)] [] (.tup [.agg [.ref 20000 1 0 res.1.nodes.length,.ref 20001 1 0 res.1.ties.length,.lit (.int .i64 res.1.horizon)],.lit (.int .i64 res.2)]) [(20000,1,.row true (ab ah.encO res.1.nodes)),(20001,1,.row true (ab GTie.enc res.1.ties))]):=⟨by
 intro res h0
 refine az (ra:=[.homeCell 128 0,.homeCell 128 1]) (md:=mdT) hT (hi:=hi68) func68 rfl rfl (by decide +kernel) (by simp) ?_
 unfold dB at h0
 obtain⟨r01,g0,h0⟩:=ae h0
 simp(config:=cS)only[go_sem, *]
 have g0:=ctr g0
 refine af g0 ?_
 obtain⟨_,h0⟩|⟨_,h0⟩:=itB h0
 ·obtain⟨r02,g0,h0⟩:=ae h0
  simp(config:=cS)only[go_sem, *]
  have g0:=ctr g0
  refine af g0 ?_
  obtain⟨q21,l0,h0⟩:=ae h0
  simp(config:=cS)only[go_sem, *]
  refine ak (m1:=.mk) (m2:=.mk) [.homeCell 448 1,.nf [1,2,4,5,6,7,28,29,30] [64,128,1152,1153,448,1600,100028673]] (lO r02.2.2 t.cues (t.cues.length:Int) t.prep t.horizon r02.1 r02.2.1) l0 ?_ ?_
  ·simp(config:=cS)only[go_sem, *]
  have k0:=h0
  clear h0 l0
  intro _ s0 _ h0 gb0
  obtain⟨v30_1,h1600_1,h100028673_1⟩:=s0
  unfold hZ at h0
  try dsimp only at h0
  obtain⟨_,h0⟩|⟨_,h0⟩:=itP h0
  ·obtain⟨x03,_,_,_,h0⟩:=gtI h0
   obtain⟨r04,g0,h0⟩:=ae h0
   simp(config:=cS)only[go_sem, *]
   have g0:=ctr g0
   refine af g0 ?_
   obtain⟨_,h0⟩:=ckP h0
   obtain⟨_,h0⟩:=ckP h0
   obtain⟨_,h0⟩|⟨_,h0⟩:=itB h0
   ·exact run
   obtain⟨_,h0⟩|⟨_,h0⟩:=itP h0
   ·obtain⟨x05,_,_,_,h0⟩:=gtI h0
    obtain⟨x06,_,_,_,h0⟩:=gtI h0
    obtain⟨_,h0⟩:=ckP h0
    obtain⟨_,h0⟩:=ckP h0
    obtain⟨_,h0⟩|⟨_,h0⟩:=itP h0
    ·obtain⟨_,h0⟩:=ckP h0
     obtain⟨_,h0⟩:=ckP h0
     obtain⟨q08,l0,h0⟩:=ae h0
     simp(config:=cS)only[go_sem, *]
     refine ak (m1:=.mk) (m2:=.mk) [.nf [1,2,4,5,6,7,8,9,28,29,30,119,120] [64,128,1152,1153,448,1600,100028673,576]] (bV r02.2.2 v30_1 t.cues (t.cues.length:Int) (((t.cues.take v30_1.toNat).length:Nat):Int) t.prep t.horizon x03.name x03.after x03.atEnd x03.low x03.high x03.min_ x03.max_ x03.free x03.if_ x03.watch x03.device r02.1 r02.2.1 (h1600_1++([(ah.mk x03.name r04 x03.watch)])) (h100028673_1++([(GTie.mk x05 x06 x03.low x03.high false)]))) l0 ?_ ?_
     ·simp(config:=cS)only[go_sem, *]
     have k0:=h0
     clear h0 l0
     intro _ v120_2 _ h0 gb0
     unfold bf at h0
     try dsimp only at h0
     exact run
    obtain⟨_,h0⟩:=ckP h0
    obtain⟨r09,g0,h0⟩:=ae h0
    simp(config:=cS)only[go_sem, *]
    have g0:=ctr g0
    refine af g0 ?_
    obtain⟨a1,h0⟩:=ckP h0
    try simp(config:=cS)only[go_sem]at a1
    obtain⟨a2,h0⟩:=ckP h0
    try simp(config:=cS)only[go_sem]at a2
    obtain⟨x10,_,_,_,h0⟩:=gtI h0
    obtain⟨a3,h0⟩:=ckP h0
    try simp(config:=cS)only[go_sem]at a3
    obtain⟨a4,h0⟩:=ckP h0
    try simp(config:=cS)only[go_sem]at a4
    obtain⟨_,h0⟩:=ckP h0
    obtain⟨_,h0⟩:=ckP h0
    obtain⟨q12,l0,h0⟩:=ae h0
    simp(config:=cS)only[go_sem, *]
    refine ak (m1:=.mk) (m2:=.mk) [.nf [1,2,4,5,6,7,8,9,28,29,30,119,120] [64,128,1152,1153,448,1600,100028673,576]] (bV r02.2.2 v30_1 t.cues (t.cues.length:Int) (((t.cues.take v30_1.toNat).length:Nat):Int) t.prep t.horizon x03.name x03.after x03.atEnd x03.low x03.high x03.min_ x03.max_ x03.free x03.if_ x03.watch x03.device r02.1 r02.2.1 ((h1600_1++([(ah.mk x03.name r04 x03.watch)]))++([(ah.mk (x03.name++(ByteArray.mk #[122])) r09 0)])) ((h100028673_1++([(GTie.mk x05 x06 x03.low x03.high false)]))++([(GTie.mk x06 x10 x03.min_ x03.max_ x03.free)]))) l0 ?_ ?_
    ·simp(config:=cS)only[go_sem, *]
    have k0:=h0
    clear h0 l0
    intro _ v120_3 _ h0 gb0
    unfold bf at h0
    try dsimp only at h0
    exact run
   obtain⟨x13,_,_,_,h0⟩:=gtI h0
   obtain⟨_,h0⟩:=ckP h0
   obtain⟨_,h0⟩:=ckP h0
   obtain⟨_,h0⟩|⟨_,h0⟩:=itP h0
   ·obtain⟨_,h0⟩:=ckP h0
    obtain⟨_,h0⟩:=ckP h0
    obtain⟨q15,l0,h0⟩:=ae h0
    simp(config:=cS)only[go_sem, *]
    refine ak (m1:=.mk) (m2:=.mk) [.nf [1,2,4,5,6,7,8,9,28,29,30,119,120] [64,128,1152,1153,448,1600,100028673,576]] (bV r02.2.2 v30_1 t.cues (t.cues.length:Int) (((t.cues.take v30_1.toNat).length:Nat):Int) t.prep t.horizon x03.name x03.after x03.atEnd x03.low x03.high x03.min_ x03.max_ x03.free x03.if_ x03.watch x03.device r02.1 r02.2.1 (h1600_1++([(ah.mk x03.name r04 x03.watch)])) (h100028673_1++([(GTie.mk 0 x13 x03.low x03.high false)]))) l0 ?_ ?_
    ·simp(config:=cS)only[go_sem, *]
    have k0:=h0
    clear h0 l0
    intro _ v120_4 _ h0 gb0
    unfold bf at h0
    try dsimp only at h0
    exact run
   obtain⟨_,h0⟩:=ckP h0
   obtain⟨r16,g0,h0⟩:=ae h0
   simp(config:=cS)only[go_sem, *]
   have g0:=ctr g0
   refine af g0 ?_
   obtain⟨a5,h0⟩:=ckP h0
   try simp(config:=cS)only[go_sem]at a5
   obtain⟨a6,h0⟩:=ckP h0
   try simp(config:=cS)only[go_sem]at a6
   obtain⟨x17,_,_,_,h0⟩:=gtI h0
   obtain⟨a7,h0⟩:=ckP h0
   try simp(config:=cS)only[go_sem]at a7
   obtain⟨a8,h0⟩:=ckP h0
   try simp(config:=cS)only[go_sem]at a8
   obtain⟨_,h0⟩:=ckP h0
   obtain⟨_,h0⟩:=ckP h0
   obtain⟨q19,l0,h0⟩:=ae h0
   simp(config:=cS)only[go_sem, *]
   refine ak (m1:=.mk) (m2:=.mk) [.nf [1,2,4,5,6,7,8,9,28,29,30,119,120] [64,128,1152,1153,448,1600,100028673,576]] (bV r02.2.2 v30_1 t.cues (t.cues.length:Int) (((t.cues.take v30_1.toNat).length:Nat):Int) t.prep t.horizon x03.name x03.after x03.atEnd x03.low x03.high x03.min_ x03.max_ x03.free x03.if_ x03.watch x03.device r02.1 r02.2.1 ((h1600_1++([(ah.mk x03.name r04 x03.watch)]))++([(ah.mk (x03.name++(ByteArray.mk #[122])) r16 0)])) ((h100028673_1++([(GTie.mk 0 x13 x03.low x03.high false)]))++([(GTie.mk x13 x17 x03.min_ x03.max_ x03.free)]))) l0 ?_ ?_
   ·simp(config:=cS)only[go_sem, *]
   have k0:=h0
   clear h0 l0
   intro _ v120_5 _ h0 gb0
   unfold bf at h0
   try dsimp only at h0
   exact run
  exact run
 exact run⟩
@[go_sem] def hi69_3:DT:=.i2 0 (.i1 2 (.i2 4 (.i0 1 [2] (.i2 3 (.r2 5 3 .nil)))))
def hi69:Hint where
 acts:=fun _=>[]
 draws:=fun
  | 3=>⟨hi69_3,[[],[0],[],[0,1,2],[],.range 5,.range 6,.range 7],.range 8⟩
  | _=>⟨.nil,[],[]⟩
theorem GT (i:Nat):hi69.acts i=[]:=rfl
attribute[go_sem] GT ntmps69 results69
@[go_sem] theorem Jg:(hi69.draws 3).order=hi69_3:=rfl
instance k69 {s:GShow} {lazy:Bool}:Ctr (jW s lazy) (fun (res:GDesk × Bool)=>aj prog 69 [.agg (GShow.encS s),.lit (.bool lazy)] [] (.tup [.agg [.ref 20000 1 0 res.1.show_.nodes.length,.ref 20001 1 0 res.1.show_.ties.length,.lit (.int .i64 res.1.show_.horizon),.lit (.int .i64 res.1.state.now),.ref 20002 1 0 res.1.state.times.length,.ref 20003 1 0 res.1.state.values.length,.lit (.bool res.1.lazy),.ref 20004 1 0 res.1.log.length],.lit (.bool res.2)]) [(20000,1,.row true (ab ah.encO res.1.show_.nodes)),(20001,1,.row true (ab GTie.enc res.1.show_.ties)),(20002,1,.row true (ab eI res.1.state.times)),(20003,1,.row true (ab eI res.1.state.values)),(20004,1,.row true (ab al.encO res.1.log))]):=⟨by
 intro res h0
 refine az (ra:=[.homeCell 256 0,.homeCell 256 1,.homeCell 256 4,.homeCell 256 5,.homeCell 256 7]) (md:=mdT) hT (hi:=hi69) func69 rfl rfl (by decide +kernel) (by simp) ?_
 unfold jW at h0
 exact run⟩
instance k38 {v0:GConsole} {lazy:Bool}:Ctr (dj v0 lazy) (fun (res:ByteArray × GConsole)=>aj prog 38 [.ptr 10000 0 0 0,.lit (.bool lazy)] [(10000,0,.var [.sl (ab GCue.enc v0.sheet.cues),.sl (ab eI v0.sheet.prep),.lit (.int .i64 v0.sheet.horizon),.sl (ab ah.encS v0.desk.show_.nodes),.sl (ab GTie.enc v0.desk.show_.ties),.lit (.int .i64 v0.desk.show_.horizon),.lit (.int .i64 v0.desk.state.now),.sl (ab eI v0.desk.state.times),.sl (ab eI v0.desk.state.values),.lit (.bool v0.desk.lazy),.sl (ab al.encS v0.desk.log),.sl (ab aE.enc v0.takes)])] (.lit (.string res.1)) [(10000,0,.var [.sl (ab GCue.enc res.2.sheet.cues),.sl (ab eI res.2.sheet.prep),.lit (.int .i64 res.2.sheet.horizon),.sl (ab ah.encS res.2.desk.show_.nodes),.sl (ab GTie.enc res.2.desk.show_.ties),.lit (.int .i64 res.2.desk.show_.horizon),.lit (.int .i64 res.2.desk.state.now),.sl (ab eI res.2.desk.state.times),.sl (ab eI res.2.desk.state.values),.lit (.bool res.2.desk.lazy),.sl (ab al.encS res.2.desk.log),.sl (ab aE.enc res.2.takes)])]):=⟨by
 intro res h0
 refine az (ra:=[.homeCell 10000 0,.freeze [100640000],.sliC 10000 0,.homeCell 10000 1,.freeze [100640001],.sliC 10000 1,.homeCell 10000 3,.freeze [1344,100640003],.sliC 10000 3,.homeCell 10000 4,.freeze [1345,100640004],.sliC 10000 4,.homeCell 10000 7,.freeze [1346,100640007],.sliC 10000 7,.homeCell 10000 8,.freeze [1347,100640008],.sliC 10000 8,.homeCell 10000 10,.freeze [1348,100640010],.sliC 10000 10,.homeCell 10000 11,.freeze [100640011],.sliC 10000 11]) (md:=mdT) hT (hi:=hi00) func38 rfl rfl (by decide +kernel) (by simp) ?_
 unfold dj at h0
 exact run⟩
@[go_sem] def om (s_0:List ah)(s_1:List GTie)(s_2:Int):(Int × (List Int))→St
 | (node,chain)=>⟨[(1,.lit (.int .i64 node)),(2,.ptr 128 1 0 0),(6,.ref 447 1 0 chain.length)],[(128,1,.var [.sl (ab ah.encS s_0),.sl (ab GTie.enc s_1),.lit (.int .i64 s_2)]),(447,1,.row true (ab eI chain))],2⟩
@[go_sem] def hi265_7:DT:=.i2 0 (.i2 1 (.i1 4 (.i1 5 (.i2 6 (.i1 7 (.i1 8 (.i1 9 (.i0 2 [4,5,7,8,9] (.i0 3 [4,5,7,8,9] (.i2 10 (.i2 11 .nil)))))))))))
def zW:Hint where
 acts:=fun _=>[]
 draws:=fun
  | 7=>⟨hi265_7,[[],[],[1],[0,1,2],[],[4],[],[4,5,6],[4,5,6,7],[4,5,6,7,8],[0,1,2,3],.range 11],[0,1,2,3,5,6,7,8,9,10,4,11]⟩
  | _=>⟨.nil,[],[]⟩
theorem FL (i:Nat):zW.acts i=[]:=rfl
attribute[go_sem] FL ntmps265 results265
@[go_sem] theorem It:(zW.draws 7).order=hi265_7:=rfl
instance k265 {s:GShow} {node:Int}:Ctr (dr s node) (fun (res:Int × (List Int))=>aj prog 265 [.agg (GShow.encS s),.lit (.int .i64 node)] [] (.tup [.lit (.int .i64 res.1),.ref 20000 1 0 res.2.length]) [(20000,1,.row true (ab eI res.2))]):=⟨by
 intro res h0
 refine az (ra:=[.home 5]) (md:=mdT) hT (hi:=zW) func265 rfl rfl (by decide +kernel) (by simp) ?_
 unfold dr at h0
 obtain⟨q04,l0,h0⟩:=ae h0
 simp(config:=cS)only[go_sem, *]
 refine ak (m1:=.mk) (m2:=.mk) [.home 6,.nf [1,2,6] [128,447]] (om s.nodes s.ties s.horizon) l0 ?_ ?_
 ·simp(config:=cS)only[go_sem, *]
 have k0:=h0
 clear h0 l0
 intro _ s0 _ h0 gb0
 obtain⟨node_1,chain_1⟩:=s0
 unfold lq at h0
 try dsimp only at h0
 exact run⟩
@[go_sem] def oo (v11:List ah)(v12:Int)(s_1:List GTie)(s_2 v13:Int):St:=⟨[(1,.ptr 64 1 0 0),(11,.sl (ab ah.encS v11)),(12,.lit (.int .i64 v12)),(13,.lit (.int .i64 v13))],[(64,1,.var [.sl (ab ah.encS v11),.sl (ab GTie.enc s_1),.lit (.int .i64 s_2)])],2⟩
instance k264 {s:GShow}:Ctr (jX s) (fun (res:Bool)=>aj prog 264 [.agg (GShow.encS s)] [] (.lit (.bool res)) []):=⟨by
 intro res h0
 refine co (hi:=hi00) func264 rfl rfl ?_
 unfold jX at h0
 obtain⟨r01,g0,h0⟩:=ae h0
 simp(config:=cS)only[go_sem, *]
 have g0:=ctr g0
 refine af g0 ?_
 obtain⟨_,h0⟩|⟨_,h0⟩:=itB h0
 ·obtain⟨q04,l0,h0⟩:=ae h0
  simp(config:=cS)only[go_sem, *]
  refine ak (m1:=.mk) (m2:=.mk) [.nf [1,11,12,13] [64]] (oo s.nodes (s.nodes.length:Int) s.ties s.horizon) l0 ?_ ?_
  ·simp(config:=cS)only[go_sem, *]
  have k0:=h0
  clear h0 l0
  intro _ v13_1 _ h0 gb0
  unfold lr at h0
  try dsimp only at h0
  exact run
 exact run⟩
@[go_sem] def oq (but v12:List Int)(v13:Int)(s_0:List ah)(s_1:List GTie)(s_2:Int):(Int × Int × Int)→St
 | (low,high,v14)=>⟨[(2,.sl (ab eI but)),(3,.ptr 192 1 0 0),(8,.lit (.int .i64 low)),(9,.lit (.int .i64 high)),(12,.sl (ab eI v12)),(13,.lit (.int .i64 v13)),(14,.lit (.int .i64 v14))],[(192,1,.var [.sl (ab ah.encS s_0),.sl (ab GTie.enc s_1),.lit (.int .i64 s_2)])],2⟩
@[go_sem] def hi266_6:DT:=.r2 0 18 .nil
def zX:Hint where
 acts:=fun _=>[]
 draws:=fun
  | 6=>⟨hi266_6,[[],[],[1],[],[1,2,3],[1,2,3,4],[1,2,3,4,5],.range 7,[],[],[9],[],[9,10,11],[9,10,11,12],[9,10,11,12,13],[8,9,10,11,12,13,14],.range 8,.range 17],[0,1,2,3,4,5,6,7,9,10,11,12,13,14,15,16,8,17]⟩
  | _=>⟨.nil,[],[]⟩
theorem FM (i:Nat):zX.acts i=[]:=rfl
attribute[go_sem] FM ntmps266 results266
@[go_sem] theorem Iu:(zX.draws 6).order=hi266_6:=rfl
instance k266 {s:GShow} {ties:List Int} {but:List Int}:Ctr (ex s ties but) (fun (res:Int × Int)=>aj prog 266 [.agg (GShow.encS s),.sl (ab eI ties),.sl (ab eI but)] [] (.tup [.lit (.int .i64 res.1),.lit (.int .i64 res.2)]) []):=⟨by
 intro res h0
 refine co (hi:=zX) func266 rfl rfl ?_
 unfold ex at h0
 obtain⟨q04,l0,h0⟩:=ae h0
 simp(config:=cS)only[go_sem, *]
 refine ak (m1:=.mk) (m2:=.mk) [.nf [2,3,8,9,12,13,14] [192]] (oq but ties (ties.length:Int) s.nodes s.ties s.horizon) l0 ?_ ?_
 ·simp(config:=cS)only[go_sem, *]
 have k0:=h0
 clear h0 l0
 intro _ s0 _ h0 gb0
 obtain⟨low_1,high_1,v14_1⟩:=s0
 unfold ls at h0
 try dsimp only at h0
 exact run⟩
@[go_sem] def jq (v0:List aA)(f_v1:Nat)(k_v1:List AV)(v7 v8:Int):St:=⟨[(0,.sl (ab aA.enc v0)),(1,.fn f_v1 k_v1),(7,.lit (.int .i64 v7)),(8,.lit (.int .i64 v8))],[],2⟩
theorem mE {v0:List aA}{v1:aA→Option Bool}{f_v1:Nat}{k_v1:List AV}(hp_v1:∀ y0 r,v1 y0=some r→aj prog f_v1 ([.agg (aA.enc y0)]++k_v1) [] (.lit (.bool r)) [])(hc_v1:KC k_v1)(hm_v1:∀ a,mdT f_v1 a=⟨[],false⟩)(hk_v1:spf f_v1=false){res:Int}(h:dE v0 v1=some res):aj prog 297 [.sl (ab aA.enc v0),.fn f_v1 k_v1] [] (.lit (.int .i64 res)) []:=by
 refine co (hi:=hi00) func297 rfl rfl ?_
 unfold dE at h
 obtain⟨q03,l1,h⟩:=ae h
 simp(config:=cS)only[go_sem,hc_v1.1,hc_v1.2,hm_v1,hk_v1]
 refine ak (m1:=.mk) (m2:=.mk) [.nf [0,1,7,8] []] (jq v0 f_v1 k_v1 (v0.length:Int)) l1 ?_ ?_
 ·simp(config:=cS)only[go_sem,hc_v1.1,hc_v1.2,hm_v1,hk_v1]
 intro nb2 v8_1 bb2 b2 gb2
 unfold eX at b2
 try dsimp only at b2
 obtain⟨h3,b2⟩|⟨h3,b2⟩:=aO b2
 ·obtain⟨x01,g4,b2⟩:=ae b2
  obtain⟨h5,h6,h7⟩:=bC g4
  obtain⟨r02,g8,b2⟩:=ae b2
  simp(config:=cS)only[go_sem,hc_v1.1,hc_v1.2,hm_v1,hk_v1,eqT h3,h5,h6,h7]
  refine af (hp_v1 _ _ g8) ?_
  obtain⟨h9,b2⟩|⟨h9,b2⟩:=aO b2
  ·cases b2
   obtain rfl:=(aI gb2).symm
   try dsimp only at h
   cases h
   simp(config:=cS)only[go_sem,hc_v1.1,hc_v1.2,hm_v1,hk_v1,eqT h3,h5,h6,h7,eZt h9]
  cases b2
  simp(config:=cS)only[go_sem,hc_v1.1,hc_v1.2,hm_v1,hk_v1,eqT h3,h5,h6,h7,eZf h9]
  refine cE gb2 ?_
  simp(config:=cS)only[go_sem,hc_v1.1,hc_v1.2,hm_v1,hk_v1,eqT h3,h5,h6,h7,eZf h9]
 cases b2
 obtain rfl:=(aI gb2).symm
 try dsimp only at h
 cases h
 simp(config:=cS)only[go_sem,hc_v1.1,hc_v1.2,hm_v1,hk_v1,eqF h3]
theorem kK {v0:List aA}{v1:aA→Option Bool}{f_v1:Nat}{k_v1:List AV}(hp_v1:∀ y0 r,v1 y0=some r→aj prog f_v1 ([.agg (aA.enc y0)]++k_v1) [] (.lit (.bool r)) [])(hc_v1:KC k_v1)(hm_v1:∀ a,mdT f_v1 a=⟨[],false⟩)(hk_v1:spf f_v1=false){res:Bool}(h:dc v0 v1=some res):aj prog 287 [.sl (ab aA.enc v0),.fn f_v1 k_v1] [] (.lit (.bool res)) []:=by
 refine co (hi:=hi00) func287 rfl rfl ?_
 unfold dc at h
 obtain⟨r01,g1,h⟩:=ae h
 simp(config:=cS)only[go_sem,hc_v1.1,hc_v1.2,hm_v1,hk_v1]
 refine af (mE hp_v1 hc_v1 hm_v1 hk_v1 g1) ?_
 cases h
 simp(config:=cS)only[go_sem,hc_v1.1,hc_v1.2,hm_v1,hk_v1]
instance k289 {i:ar}:Ctr (eb i) (fun (res:Bool)=>aj prog 289 [.agg [.lit (.int .i64 i.low),.lit (.int .i64 i.high)]] [] (.lit (.bool res)) []):=⟨by
 intro res h0
 refine co (hi:=hi00) func289 rfl rfl ?_
 unfold eb at h0
 exact run⟩
instance k288 {l:aA} {s:ap}:Ctr (gm l s) (fun (res:Bool)=>aj prog 288 [.agg (aA.enc l),.loc [.lit (.int .i64 s.events),.sl (ab aA.enc s.links)]] [] (.lit (.bool res)) []):=⟨by
 intro res h0
 refine co (hi:=hi00) func288 rfl rfl ?_
 unfold gm at h0
 exact run⟩
instance k267 {s:ap}:Ctr (cU s) (fun (res:Bool)=>aj prog 267 [.agg [.lit (.int .i64 s.events),.sl (ab aA.enc s.links)]] [] (.lit (.bool res)) []):=⟨by
 intro res h0
 refine co (hi:=hi00) func267 rfl rfl ?_
 unfold cU at h0
 obtain⟨_,h0⟩|⟨_,h0⟩:=itP h0
 ·exact run
 obtain⟨_,h0⟩|⟨_,h0⟩:=itP h0
 ·exact run
 obtain⟨_,h0⟩|⟨_,h0⟩:=itP h0
 ·exact run
 obtain⟨r01,g0,h0⟩:=ae h0
 simp(config:=cS)only[go_sem, *]
 refine af (kK (by exact fun _ _ hr=>by have q:=ctr hr;exact q) (by refine⟨fun _=>?_,fun _=>?_⟩ <;> simp only[go_sem]) (fun _=>rfl) rfl g0) ?_
 exact run⟩
@[go_sem] def kL (v31:Int)(s_0:List ah)(s_1:List GTie)(s_2:Int):(Int × (List aA))→St
 | (v32,h100016385)=>⟨[(1,.ptr 64 1 0 0),(2,.ptr 128 1 0 0),(4,.ptr 256 1 0 0),(31,.lit (.int .i64 v31)),(32,.lit (.int .i64 v32))],[(64,1,.var [.sl (ab ah.encS s_0),.sl (ab GTie.enc s_1),.lit (.int .i64 s_2)]),(128,1,.var [.lit (.int .i64 0),.lit (.slice none 0 0)]),(256,1,.var [.lit (.int .i64 v31),.ref 100016385 1 0 h100016385.length]),(100016385,1,.row true (ab aA.enc h100016385))],2⟩
@[go_sem] def kM (v63:List GTie)(v64:Int)(s_0:List ah)(s_2 out_0:Int):(Int × (List aA))→St
 | (v65,h100016385)=>⟨[(1,.ptr 64 1 0 0),(2,.ptr 128 1 0 0),(4,.ptr 256 1 0 0),(63,.sl (ab GTie.enc v63)),(64,.lit (.int .i64 v64)),(65,.lit (.int .i64 v65))],[(64,1,.var [.sl (ab ah.encS s_0),.sl (ab GTie.enc v63),.lit (.int .i64 s_2)]),(128,1,.var [.lit (.int .i64 0),.lit (.slice none 0 0)]),(256,1,.var [.lit (.int .i64 out_0),.ref 100016385 1 0 h100016385.length]),(100016385,1,.row true (ab aA.enc h100016385))],2⟩
@[go_sem] def kN (v123:Int)(s_0:List ah)(s_1:List GTie)(s_2:Int):(Int × (List aA))→St
 | (v124,h100016385)=>⟨[(1,.ptr 64 1 0 0),(2,.ptr 128 1 0 0),(4,.ptr 256 1 0 0),(123,.lit (.int .i64 v123)),(124,.lit (.int .i64 v124))],[(64,1,.var [.sl (ab ah.encS s_0),.sl (ab GTie.enc s_1),.lit (.int .i64 s_2)]),(128,1,.var [.lit (.int .i64 0),.lit (.slice none 0 0)]),(256,1,.var [.lit (.int .i64 v123),.ref 100016385 1 0 h100016385.length]),(100016385,1,.row true (ab aA.enc h100016385))],2⟩
instance k229 {s:GShow}:Ctr (eF s) (fun (res:ap × Bool)=>aj prog 229 [.agg (GShow.encS s)] [] (.tup [.agg [.lit (.int .i64 res.1.events),.ref 20000 1 0 res.1.links.length],.lit (.bool res.2)]) [(20000,1,.row true (ab aA.enc res.1.links))]):=⟨by
 intro res h0
 refine az (ra:=[.homeCell 128 1]) (md:=mdT) hT (hi:=hi00) func229 rfl rfl (by decide +kernel) (by simp) ?_
 unfold eF at h0
 obtain⟨r01,g0,h0⟩:=ae h0
 simp(config:=cS)only[go_sem, *]
 have g0:=ctr g0
 refine af g0 ?_
 obtain⟨_,h0⟩|⟨_,h0⟩:=itB h0
 ·obtain⟨q13,l0,h0⟩:=ae h0
  simp(config:=cS)only[go_sem, *]
  refine ak (m1:=.mk) (m2:=.mk) [.homeCell 256 1,.nf [1,2,4,31,32] [64,128,256,100016385]] (kL (s.nodes.length:Int) s.nodes s.ties s.horizon) l0 ?_ ?_
  ·simp(config:=cS)only[go_sem, *]
  have k0:=h0
  clear h0 l0
  intro _ s0 _ h0 gb0
  obtain⟨v32_1,h100016385_1⟩:=s0
  unfold gD at h0
  try dsimp only at h0
  obtain⟨_,h0⟩|⟨_,h0⟩:=itP h0
  ·exact run
  cases h0
  obtain rfl:=(aI gb0).symm
  clear gb0
  have h0:=k0
  clear k0
  try dsimp only at h0
  obtain⟨q12,l0,h0⟩:=ae h0
  simp(config:=cS)only[go_sem, *]
  refine ak (m1:=.mk) (m2:=.mk) [.nf [1,2,4,63,64,65] [64,128,256,100016385]] (kM s.ties (s.ties.length:Int) s.nodes s.horizon (s.nodes.length:Int)) l0 ?_ ?_
  ·simp(config:=cS)only[go_sem, *]
  have k0:=h0
  clear h0 l0
  intro _ s0 _ h0 gb0
  obtain⟨v65_2,h100016385_2⟩:=s0
  unfold gE at h0
  try dsimp only at h0
  obtain⟨_,h0⟩|⟨_,h0⟩:=itP h0
  ·exact run
  cases h0
  obtain rfl:=(aI gb0).symm
  clear gb0
  have h0:=k0
  clear k0
  try dsimp only at h0
  obtain⟨q11,l0,h0⟩:=ae h0
  simp(config:=cS)only[go_sem, *]
  refine ak (m1:=.mk) (m2:=.mk) [.nf [1,2,4,123,124] [64,128,256,100016385]] (kN (s.nodes.length:Int) s.nodes s.ties s.horizon) l0 ?_ ?_
  ·simp(config:=cS)only[go_sem, *]
  have k0:=h0
  clear h0 l0
  intro _ s0 _ h0 gb0
  obtain⟨v124_3,h100016385_3⟩:=s0
  unfold gF at h0
  try dsimp only at h0
  exact run
 exact run⟩
@[go_sem] def ot (v12:List aA)(v13 g_0:Int):(Int × (List Int) × (List aw))→St
 | (v14,links,h100016385)=>⟨[(2,.ptr 128 1 0 0),(4,.ptr 256 1 0 0),(5,.ref 383 1 0 links.length),(12,.sl (ab aA.enc v12)),(13,.lit (.int .i64 v13)),(14,.lit (.int .i64 v14))],[(128,1,.var [.lit (.int .i64 0),.lit (.slice none 0 0)]),(256,1,.var [.lit (.int .i64 g_0),.ref 100016385 1 0 h100016385.length]),(100016385,1,.row true (ab aw.enc h100016385)),(383,1,.row true (ab eI links))],2⟩
instance k276 {s:ap}:Ctr (jY s) (fun (res:GGraph × (List Int))=>aj prog 276 [.agg [.lit (.int .i64 s.events),.sl (ab aA.enc s.links)]] [] (.tup [.agg [.lit (.int .i64 res.1.nodes),.ref 20000 1 0 res.1.edges.length],.ref 20001 1 0 res.2.length]) [(20000,1,.row true (ab aw.enc res.1.edges)),(20001,1,.row true (ab eI res.2))]):=⟨by
 intro res h0
 refine az (ra:=[.homeCell 128 1,.home 3]) (md:=mdT) hT (hi:=hi00) func276 rfl rfl (by decide +kernel) (by simp) ?_
 unfold jY at h0
 obtain⟨q02,l0,h0⟩:=ae h0
 simp(config:=cS)only[go_sem, *]
 refine ak (m1:=.mk) (m2:=.mk) [.home 5,.homeCell 256 1,.nf [2,4,5,12,13,14] [128,256,100016385,383]] (ot s.links (s.links.length:Int) s.events) l0 ?_ ?_
 ·simp(config:=cS)only[go_sem, *]
 have k0:=h0
 clear h0 l0
 intro _ s0 _ h0 gb0
 obtain⟨v14_1,links_1,h100016385_1⟩:=s0
 unfold lu at h0
 try dsimp only at h0
 obtain⟨_,h0⟩|⟨_,h0⟩:=itP h0
 ·obtain⟨x01,_,_,_,h0⟩:=gtI h0
  obtain⟨_,h0⟩|⟨_,h0⟩:=itP h0
  ·exact run
  obtain⟨_,h0⟩:=ckP h0
  obtain⟨_,h0⟩:=ckP h0
  obtain⟨_,h0⟩:=ckP h0
  obtain⟨_,h0⟩:=ckP h0
  obtain⟨_,h0⟩|⟨_,h0⟩:=itP h0
  ·exact run
  obtain⟨a1,h0⟩:=ckP h0
  try simp(config:=cS)only[go_sem]at a1
  obtain⟨a2,h0⟩:=ckP h0
  try simp(config:=cS)only[go_sem]at a2
  obtain⟨a3,h0⟩:=ckP h0
  try simp(config:=cS)only[go_sem]at a3
  obtain⟨a4,h0⟩:=ckP h0
  try simp(config:=cS)only[go_sem]at a4
  exact run
 exact run⟩
instance k292 {s:ap}:Ctr (gA s) (fun (res:GGraph)=>aj prog 292 [.agg [.lit (.int .i64 s.events),.sl (ab aA.enc s.links)]] [] (.agg [.lit (.int .i64 res.nodes),.ref 20000 1 0 res.edges.length]) [(20000,1,.row true (ab aw.enc res.edges))]):=⟨by
 intro res h0
 refine az (ra:=[.homeCell 128 1]) (md:=mdT) hT (hi:=hi00) func292 rfl rfl (by decide +kernel) (by simp) ?_
 unfold gA at h0
 exact run⟩
@[go_sem] def jr (v0:List aw)(f_v1:Nat)(k_v1:List AV)(v7 v8:Int):St:=⟨[(0,.sl (ab aw.enc v0)),(1,.fn f_v1 k_v1),(7,.lit (.int .i64 v7)),(8,.lit (.int .i64 v8))],[],2⟩
theorem mF {v0:List aw}{v1:aw→Option Bool}{f_v1:Nat}{k_v1:List AV}(hp_v1:∀ y0 r,v1 y0=some r→aj prog f_v1 ([.agg (aw.enc y0)]++k_v1) [] (.lit (.bool r)) [])(hc_v1:KC k_v1)(hm_v1:∀ a,mdT f_v1 a=⟨[],false⟩)(hk_v1:spf f_v1=false){res:Int}(h:dF v0 v1=some res):aj prog 309 [.sl (ab aw.enc v0),.fn f_v1 k_v1] [] (.lit (.int .i64 res)) []:=by
 refine co (hi:=hi00) func309 rfl rfl ?_
 unfold dF at h
 obtain⟨q03,l1,h⟩:=ae h
 simp(config:=cS)only[go_sem,hc_v1.1,hc_v1.2,hm_v1,hk_v1]
 refine ak (m1:=.mk) (m2:=.mk) [.nf [0,1,7,8] []] (jr v0 f_v1 k_v1 (v0.length:Int)) l1 ?_ ?_
 ·simp(config:=cS)only[go_sem,hc_v1.1,hc_v1.2,hm_v1,hk_v1]
 intro nb2 v8_1 bb2 b2 gb2
 unfold eY at b2
 try dsimp only at b2
 obtain⟨h3,b2⟩|⟨h3,b2⟩:=aO b2
 ·obtain⟨x01,g4,b2⟩:=ae b2
  obtain⟨h5,h6,h7⟩:=bC g4
  obtain⟨r02,g8,b2⟩:=ae b2
  simp(config:=cS)only[go_sem,hc_v1.1,hc_v1.2,hm_v1,hk_v1,eqT h3,h5,h6,h7]
  refine af (hp_v1 _ _ g8) ?_
  obtain⟨h9,b2⟩|⟨h9,b2⟩:=aO b2
  ·cases b2
   obtain rfl:=(aI gb2).symm
   try dsimp only at h
   cases h
   simp(config:=cS)only[go_sem,hc_v1.1,hc_v1.2,hm_v1,hk_v1,eqT h3,h5,h6,h7,eZt h9]
  cases b2
  simp(config:=cS)only[go_sem,hc_v1.1,hc_v1.2,hm_v1,hk_v1,eqT h3,h5,h6,h7,eZf h9]
  refine cE gb2 ?_
  simp(config:=cS)only[go_sem,hc_v1.1,hc_v1.2,hm_v1,hk_v1,eqT h3,h5,h6,h7,eZf h9]
 cases b2
 obtain rfl:=(aI gb2).symm
 try dsimp only at h
 cases h
 simp(config:=cS)only[go_sem,hc_v1.1,hc_v1.2,hm_v1,hk_v1,eqF h3]
theorem kO {v0:List aw}{v1:aw→Option Bool}{f_v1:Nat}{k_v1:List AV}(hp_v1:∀ y0 r,v1 y0=some r→aj prog f_v1 ([.agg (aw.enc y0)]++k_v1) [] (.lit (.bool r)) [])(hc_v1:KC k_v1)(hm_v1:∀ a,mdT f_v1 a=⟨[],false⟩)(hk_v1:spf f_v1=false){res:Bool}(h:dd v0 v1=some res):aj prog 300 [.sl (ab aw.enc v0),.fn f_v1 k_v1] [] (.lit (.bool res)) []:=by
 refine co (hi:=hi00) func300 rfl rfl ?_
 unfold dd at h
 obtain⟨r01,g1,h⟩:=ae h
 simp(config:=cS)only[go_sem,hc_v1.1,hc_v1.2,hm_v1,hk_v1]
 refine af (mF hp_v1 hc_v1 hm_v1 hk_v1 g1) ?_
 cases h
 simp(config:=cS)only[go_sem,hc_v1.1,hc_v1.2,hm_v1,hk_v1]
instance k291 {n:Int}:Ctr (fL n) (fun (res:Bool)=>aj prog 291 [.lit (.int .i64 n)] [] (.lit (.bool res)) []):=⟨by
 intro res h0
 refine co (hi:=hi00) func291 rfl rfl ?_
 unfold fL at h0
 exact run⟩
instance k301 {e:aw} {g:GGraph}:Ctr (gR e g) (fun (res:Bool)=>aj prog 301 [.agg (aw.enc e),.loc [.lit (.int .i64 g.nodes),.sl (ab aw.enc g.edges)]] [] (.lit (.bool res)) []):=⟨by
 intro res h0
 refine co (hi:=hi00) func301 rfl rfl ?_
 unfold gR at h0
 exact run⟩
instance k293 {g:GGraph}:Ctr (ey g) (fun (res:Bool)=>aj prog 293 [.agg [.lit (.int .i64 g.nodes),.sl (ab aw.enc g.edges)]] [] (.lit (.bool res)) []):=⟨by
 intro res h0
 refine co (hi:=hi00) func293 rfl rfl ?_
 unfold ey at h0
 obtain⟨_,h0⟩|⟨_,h0⟩:=itP h0
 ·exact run
 obtain⟨_,h0⟩|⟨_,h0⟩:=itP h0
 ·exact run
 obtain⟨_,h0⟩|⟨_,h0⟩:=itP h0
 ·exact run
 obtain⟨r01,g0,h0⟩:=ae h0
 simp(config:=cS)only[go_sem, *]
 refine af (kO (by exact fun _ _ hr=>by have q:=ctr hr;exact q) (by refine⟨fun _=>?_,fun _=>?_⟩ <;> simp only[go_sem]) (fun _=>rfl) rfl g0) ?_
 exact run⟩
@[go_sem] def kP (zb0:Bool)  : (Int × Int × (List Int))→St
 | (v2,v3,v0)=>⟨[(0,.ref 10000 0 0 v0.length),(2,.lit (.int .i64 v2)),(3,.lit (.int .i64 v3))],[(10000,0,.row zb0 (ab eI v0))],2⟩
@[go_sem] def hi294_3:DT:=.r2 0 16 .nil
def zY:Hint where
 acts:=fun _=>[]
 draws:=fun
  | 3=>⟨hi294_3,[[],[],[],[],[],[],[4,5],[4,5,6],[],[],[8,9],[8,9,10],[0,1,4,5,6,7,8,9,10,11],[0,1,4,5,6,7,8,9,10,11,12],.range 14,.range 15],[0,1,12,13,2,3,4,5,6,7,8,9,10,11,14,15]⟩
  | _=>⟨.nil,[],[]⟩
theorem FN (i:Nat):zY.acts i=[]:=rfl
attribute[go_sem] FN ntmps294 results294
@[go_sem] theorem Iv:(zY.draws 3).order=hi294_3:=rfl
theorem eD {v0:List Int}{zb0:Bool}{res:List Int}(h0:eG v0=some res):aj prog 294 [.ref 10000 0 0 v0.length] [(10000,0,.row zb0 (ab eI v0))] (.tup []) [(10000,0,.row zb0 (ab eI res))]:=by
 refine co (hi:=zY) func294 rfl rfl ?_
 unfold eG at h0
 obtain⟨q04,l0,h0⟩:=ae h0
 simp(config:=cS)only[go_sem, *]
 refine ak (m1:=.mk) (m2:=.mk) [.nf [0,2,3] [10000]] (kP zb0) l0 ?_ ?_
 ·simp(config:=cS)only[go_sem, *]
 have k0:=h0
 clear h0 l0
 intro _ s0 _ h0 gb0
 obtain⟨v2_1,v3_1,v0_1⟩:=s0
 unfold gG at h0
 try dsimp only at h0
 exact run
@[go_sem] def cV (round:Int)(v31:List aw)(v32 g_0:Int):(Int × Int × (List Int) × (List Int))→St
 | (changed,v33,numbers,last)=>⟨[(1,.ptr 64 1 0 0),(3,.ref 1216 1 0 numbers.length),(4,.ref 1472 1 0 last.length),(5,.lit (.int .i64 changed)),(6,.lit (.int .i64 round)),(31,.sl (ab aw.enc v31)),(32,.lit (.int .i64 v32)),(33,.lit (.int .i64 v33))],[(64,1,.var [.lit (.int .i64 g_0),.sl (ab aw.enc v31)]),(1216,1,.row true (ab eI numbers)),(1472,1,.row true (ab eI last))],2⟩
@[go_sem] def cW (g_0:Int)(g_1:List aw):(Int × Int × (List Int) × (List Int))→St
 | (changed,round,numbers,last)=>⟨[(1,.ptr 64 1 0 0),(3,.ref 1216 1 0 numbers.length),(4,.ref 1472 1 0 last.length),(5,.lit (.int .i64 changed)),(6,.lit (.int .i64 round))],[(64,1,.var [.lit (.int .i64 g_0),.sl (ab aw.enc g_1)]),(1216,1,.row true (ab eI numbers)),(1472,1,.row true (ab eI last))],2⟩
@[go_sem] def cX (g_0:Int)(g_1:List aw)(last:List Int):(Int × Int)→St
 | (node,i)=>⟨[(1,.ptr 64 1 0 0),(4,.ref 1472 1 0 last.length),(10,.lit (.int .i64 node)),(11,.lit (.int .i64 i))],[(64,1,.var [.lit (.int .i64 g_0),.sl (ab aw.enc g_1)]),(1472,1,.row true (ab eI last))],2⟩
@[go_sem] def cY (node g_0:Int)(g_1:List aw)(last:List Int):(Int × (List Int))→St
 | (at_,out)=>⟨[(1,.ptr 64 1 0 0),(4,.ref 1472 1 0 last.length),(10,.lit (.int .i64 node)),(12,.ref 831 1 0 out.length),(13,.lit (.int .i64 at_))],[(64,1,.var [.lit (.int .i64 g_0),.sl (ab aw.enc g_1)]),(1472,1,.row true (ab eI last)),(831,1,.row true (ab eI out))],2⟩
@[go_sem] def hi277_26:DT:=.r2 0 10 .nil
@[go_sem] def hi277_22:DT:=.r2 0 10 .nil
@[go_sem] def hi277_14:DT:=.r2 0 4 (.i1 4 (.i1 5 (.r2 6 4 (.i0 10 [4,5] (.r2 11 3 .nil)))))
@[go_sem] def hi277_12:DT:=.r2 0 9 .nil
@[go_sem] def hi277_3:DT:=.i1 0 (.i1 1 (.i1 4 (.i1 5 (.fork (.i0 2 [4,5] (.i0 3 [0,1,4,5] (.i0 6 [0,1] (.i2 7 (.i2 8 .nil))))) (.i0 3 [0,1,4,5] (.fork (.i0 2 [4,5] (.i0 6 [0,1] (.i2 7 (.i2 8 .nil)))) (.i0 6 [0,1] (.i0 2 [4,5] (.i2 7 (.i2 8 .nil))))))))))
def ou:Hint where
 acts:=fun _=>[]
 draws:=fun
  | 3=>⟨hi277_3,[[],[0],[0,1],[],[],[4],[3,4,5],.range 7,.range 8],.range 9⟩
  | 12=>⟨hi277_12,[[],[],[1],[0,1,2],[0,1,2,3],[],[5],.range 7,.range 8],.range 9⟩
  | 14=>⟨hi277_14,[[],[],[1],[],[],[4],[],[],[],[0,1,2,6],[0,1,2,6,9],[0,1,2,3,4,5,6,7,9,10],[0,1,2,3,4,5,6,7,9,10,11],.range 13],[0,1,2,6,7,8,3,9,12,4,5,10,11,13]⟩
  | 22=>⟨hi277_22,[[],[0],[],[],[2,3],[2,3,4],.range 6,.range 7,.range 8,.range 9],.range 10⟩
  | 26=>⟨hi277_26,[[],[0],[],[],[2,3],[2,3,4],.range 6,.range 7,.range 8,.range 9],.range 10⟩
  | _=>⟨.nil,[],[]⟩
theorem FO (i:Nat):ou.acts i=[]:=rfl
attribute[go_sem] FO ntmps277 results277
@[go_sem] theorem Iw:(ou.draws 3).order=hi277_3:=rfl
@[go_sem] theorem Hr:(ou.draws 12).order=hi277_12:=rfl
@[go_sem] theorem Hs:(ou.draws 14).order=hi277_14:=rfl
@[go_sem] theorem Ht:(ou.draws 22).order=hi277_22:=rfl
@[go_sem] theorem Hu:(ou.draws 26).order=hi277_26:=rfl
instance k277 {g:GGraph}:Ctr (eH g) (fun (res:Option (List Int))=>aj prog 277 [.agg [.lit (.int .i64 g.nodes),.sl (ab aw.enc g.edges)]] [] (match res with|none=>.lit (.slice none 0 0)|some l=>.ref 20000 1 0 l.length) (match res with|none=>[]|some l=>[(20000,1,.row true (ab eI l))])):=⟨by
 intro res h0
 refine co (hi:=ou) func277 rfl rfl ?_
 unfold eH at h0
 obtain⟨r01,g0,h0⟩:=ae h0
 simp(config:=cS)only[go_sem, *]
 have g0:=ctr g0
 refine af g0 ?_
 obtain⟨_,h0⟩|⟨_,h0⟩:=itB h0
 ·obtain⟨_,h0⟩:=ckP h0
  obtain⟨_,h0⟩:=ckP h0
  obtain⟨_,h0⟩:=ckP h0
  try simp(config:=cS)only[go_sem, *]
  refine bR ?_ ?_
  ·obtain⟨r02,g0,h0⟩:=ae h0
   simp(config:=cS)only[go_sem, *]
   have g0:=ctr g0
   refine af g0 ?_
   obtain⟨q18,l0,h0⟩:=ae h0
   simp(config:=cS)only[go_sem, *]
   refine ak (m1:=.mk) (m2:=.mk) [.nf [1,3,4,5,6] [64,1216,1472]] (cW g.nodes g.edges) l0 ?_ ?_
   ·simp(config:=cS)only[go_sem, *]
   have k0:=h0
   clear h0 l0
   intro _ s0 _ h0 gb0
   obtain⟨changed_1,round_1,numbers_1,last_1⟩:=s0
   unfold cu at h0
   try dsimp only at h0
   obtain⟨_,h0⟩|⟨_,h0⟩:=itP h0
   ·obtain⟨q07,l0,h0⟩:=ae h0
    simp(config:=cS)only[go_sem, *]
    refine ak (m1:=.mk) (m2:=.mk) [.nf [1,3,4,5,6,31,32,33] [64,1216,1472]] (cV round_1 g.edges (g.edges.length:Int) g.nodes) l0 ?_ ?_
    ·simp(config:=cS)only[go_sem, *]
    have k0:=h0
    clear h0 l0
    intro _ s0 _ h0 gb0
    obtain⟨changed_2,v33_2,numbers_2,last_2⟩:=s0
    unfold ct at h0
    try dsimp only at h0
    exact run
   cases h0
   obtain rfl:=(aI gb0).symm
   clear gb0
   have h0:=k0
   clear k0
   try dsimp only at h0
   obtain⟨_,h0⟩|⟨_,h0⟩:=itP h0
   ·exact run
   obtain⟨x08,_,_,_,h0⟩:=gtI h0
   obtain⟨q17,l0,h0⟩:=ae h0
   simp(config:=cS)only[go_sem, *]
   refine ak (m1:=.mk) (m2:=.mk) [.nf [1,4,10,11] [64,1472]] (cX g.nodes g.edges last_1) l0 ?_ ?_
   ·simp(config:=cS)only[go_sem, *]
   have k0:=h0
   clear h0 l0
   intro _ s0 _ h0 gb0
   obtain⟨node_3,i_3⟩:=s0
   unfold cv at h0
   try dsimp only at h0
   obtain⟨_,h0⟩|⟨_,h0⟩:=itP h0
   ·exact run
   cases h0
   obtain rfl:=(aI gb0).symm
   clear gb0
   have h0:=k0
   clear k0
   try dsimp only at h0
   obtain⟨q16,l0,h0⟩:=ae h0
   simp(config:=cS)only[go_sem, *]
   refine ak (m1:=.mk) (m2:=.mk) [.home 12,.nf [1,4,10,12,13] [64,1472,831]] (cY node_3 g.nodes g.edges last_1) l0 ?_ ?_
   ·simp(config:=cS)only[go_sem, *]
   have k0:=h0
   clear h0 l0
   intro _ s0 _ h0 gb0
   obtain⟨at__4,out_4⟩:=s0
   unfold cw at h0
   try dsimp only at h0
   obtain⟨_,h0⟩|⟨_,h0⟩:=itP h0
   ·exact run
   obtain⟨_,h0⟩|⟨_,h0⟩:=itP h0
   ·cases h0
    obtain rfl:=(aI gb0).symm
    clear gb0
    have h0:=k0
    clear k0
    try dsimp only at h0
    obtain⟨r13,g0,h0⟩:=ae h0
    simp(config:=cS)only[go_sem, *]
    refine af (eD g0) ?_
    exact run
   exact run
  try simp(config:=cS)only[go_sem, *]
  refine bR ?_ ?_
  ·obtain⟨r19,g0,h0⟩:=ae h0
   simp(config:=cS)only[go_sem, *]
   have g0:=ctr g0
   refine af g0 ?_
   obtain⟨q35,l0,h0⟩:=ae h0
   simp(config:=cS)only[go_sem, *]
   refine ak (m1:=.mk) (m2:=.mk) [.nf [1,3,4,5,6] [64,1216,1472]] (cW g.nodes g.edges) l0 ?_ ?_
   ·simp(config:=cS)only[go_sem, *]
   have k0:=h0
   clear h0 l0
   intro _ s0 _ h0 gb0
   obtain⟨changed_5,round_5,numbers_5,last_5⟩:=s0
   unfold cu at h0
   try dsimp only at h0
   obtain⟨_,h0⟩|⟨_,h0⟩:=itP h0
   ·obtain⟨q24,l0,h0⟩:=ae h0
    simp(config:=cS)only[go_sem, *]
    refine ak (m1:=.mk) (m2:=.mk) [.nf [1,3,4,5,6,31,32,33] [64,1216,1472]] (cV round_5 g.edges (g.edges.length:Int) g.nodes) l0 ?_ ?_
    ·simp(config:=cS)only[go_sem, *]
    have k0:=h0
    clear h0 l0
    intro _ s0 _ h0 gb0
    obtain⟨changed_6,v33_6,numbers_6,last_6⟩:=s0
    unfold ct at h0
    try dsimp only at h0
    exact run
   cases h0
   obtain rfl:=(aI gb0).symm
   clear gb0
   have h0:=k0
   clear k0
   try dsimp only at h0
   obtain⟨_,h0⟩|⟨_,h0⟩:=itP h0
   ·exact run
   obtain⟨x25,_,_,_,h0⟩:=gtI h0
   obtain⟨q34,l0,h0⟩:=ae h0
   simp(config:=cS)only[go_sem, *]
   refine ak (m1:=.mk) (m2:=.mk) [.nf [1,4,10,11] [64,1472]] (cX g.nodes g.edges last_5) l0 ?_ ?_
   ·simp(config:=cS)only[go_sem, *]
   have k0:=h0
   clear h0 l0
   intro _ s0 _ h0 gb0
   obtain⟨node_7,i_7⟩:=s0
   unfold cv at h0
   try dsimp only at h0
   obtain⟨_,h0⟩|⟨_,h0⟩:=itP h0
   ·exact run
   cases h0
   obtain rfl:=(aI gb0).symm
   clear gb0
   have h0:=k0
   clear k0
   try dsimp only at h0
   obtain⟨q33,l0,h0⟩:=ae h0
   simp(config:=cS)only[go_sem, *]
   refine ak (m1:=.mk) (m2:=.mk) [.home 12,.nf [1,4,10,12,13] [64,1472,831]] (cY node_7 g.nodes g.edges last_5) l0 ?_ ?_
   ·simp(config:=cS)only[go_sem, *]
   have k0:=h0
   clear h0 l0
   intro _ s0 _ h0 gb0
   obtain⟨at__8,out_8⟩:=s0
   unfold cw at h0
   try dsimp only at h0
   obtain⟨_,h0⟩|⟨_,h0⟩:=itP h0
   ·exact run
   obtain⟨_,h0⟩|⟨_,h0⟩:=itP h0
   ·cases h0
    obtain rfl:=(aI gb0).symm
    clear gb0
    have h0:=k0
    clear k0
    try dsimp only at h0
    obtain⟨r30,g0,h0⟩:=ae h0
    simp(config:=cS)only[go_sem, *]
    refine af (eD g0) ?_
    exact run
   exact run
  obtain⟨r36,g0,h0⟩:=ae h0
  simp(config:=cS)only[go_sem, *]
  have g0:=ctr g0
  refine af g0 ?_
  obtain⟨q52,l0,h0⟩:=ae h0
  simp(config:=cS)only[go_sem, *]
  refine ak (m1:=.mk) (m2:=.mk) [.nf [1,3,4,5,6] [64,1216,1472]] (cW g.nodes g.edges) l0 ?_ ?_
  ·simp(config:=cS)only[go_sem, *]
  have k0:=h0
  clear h0 l0
  intro _ s0 _ h0 gb0
  obtain⟨changed_9,round_9,numbers_9,last_9⟩:=s0
  unfold cu at h0
  try dsimp only at h0
  obtain⟨_,h0⟩|⟨_,h0⟩:=itP h0
  ·obtain⟨q41,l0,h0⟩:=ae h0
   simp(config:=cS)only[go_sem, *]
   refine ak (m1:=.mk) (m2:=.mk) [.nf [1,3,4,5,6,31,32,33] [64,1216,1472]] (cV round_9 g.edges (g.edges.length:Int) g.nodes) l0 ?_ ?_
   ·simp(config:=cS)only[go_sem, *]
   have k0:=h0
   clear h0 l0
   intro _ s0 _ h0 gb0
   obtain⟨changed_10,v33_10,numbers_10,last_10⟩:=s0
   unfold ct at h0
   try dsimp only at h0
   exact run
  cases h0
  obtain rfl:=(aI gb0).symm
  clear gb0
  have h0:=k0
  clear k0
  try dsimp only at h0
  obtain⟨_,h0⟩|⟨_,h0⟩:=itP h0
  ·exact run
  obtain⟨x42,_,_,_,h0⟩:=gtI h0
  obtain⟨q51,l0,h0⟩:=ae h0
  simp(config:=cS)only[go_sem, *]
  refine ak (m1:=.mk) (m2:=.mk) [.nf [1,4,10,11] [64,1472]] (cX g.nodes g.edges last_9) l0 ?_ ?_
  ·simp(config:=cS)only[go_sem, *]
  have k0:=h0
  clear h0 l0
  intro _ s0 _ h0 gb0
  obtain⟨node_11,i_11⟩:=s0
  unfold cv at h0
  try dsimp only at h0
  obtain⟨_,h0⟩|⟨_,h0⟩:=itP h0
  ·exact run
  cases h0
  obtain rfl:=(aI gb0).symm
  clear gb0
  have h0:=k0
  clear k0
  try dsimp only at h0
  obtain⟨q50,l0,h0⟩:=ae h0
  simp(config:=cS)only[go_sem, *]
  refine ak (m1:=.mk) (m2:=.mk) [.home 12,.nf [1,4,10,12,13] [64,1472,831]] (cY node_11 g.nodes g.edges last_9) l0 ?_ ?_
  ·simp(config:=cS)only[go_sem, *]
  have k0:=h0
  clear h0 l0
  intro _ s0 _ h0 gb0
  obtain⟨at__12,out_12⟩:=s0
  unfold cw at h0
  try dsimp only at h0
  obtain⟨_,h0⟩|⟨_,h0⟩:=itP h0
  ·exact run
  obtain⟨_,h0⟩|⟨_,h0⟩:=itP h0
  ·cases h0
   obtain rfl:=(aI gb0).symm
   clear gb0
   have h0:=k0
   clear k0
   try dsimp only at h0
   obtain⟨r47,g0,h0⟩:=ae h0
   simp(config:=cS)only[go_sem, *]
   refine af (eD g0) ?_
   exact run
  exact run
 exact run⟩
instance k272 {s:ap}:Ctr (fk s) (fun (res:Bool)=>aj prog 272 [.agg [.lit (.int .i64 s.events),.sl (ab aA.enc s.links)]] [] (.lit (.bool res)) []):=⟨by
 intro res h0
 refine co (hi:=hi00) func272 rfl rfl ?_
 unfold fk at h0
 obtain⟨r01,g0,h0⟩:=ae h0
 simp(config:=cS)only[go_sem, *]
 have g0:=ctr g0
 refine af g0 ?_
 obtain⟨_,h0⟩|⟨_,h0⟩:=itB h0
 ·obtain⟨r02,g0,h0⟩:=ae h0
  simp(config:=cS)only[go_sem, *]
  have g0:=ctr g0
  refine af g0 ?_
  obtain⟨r03,g0,h0⟩:=ae h0
  simp(config:=cS)only[go_sem, *]
  have g0:=ctr g0
  refine af g0 ?_
  obtain⟨l1004,_,h0⟩|⟨_,h0⟩:=tS h0
  ·exact run
  exact run
 exact run⟩
@[go_sem] def fz (round:Int)(v36:List aw)(v37 g_0:Int):(Bool × Int × (List Int) × (List Bool))→St
 | (changed,v38,out,known)=>⟨[(2,.ptr 128 1 0 0),(6,.ref 1664 1 0 out.length),(7,.ref 1856 1 0 known.length),(8,.lit (.int .i64 round)),(9,.lit (.bool changed)),(36,.sl (ab aw.enc v36)),(37,.lit (.int .i64 v37)),(38,.lit (.int .i64 v38))],[(128,1,.var [.lit (.int .i64 g_0),.sl (ab aw.enc v36)]),(1664,1,.row true (ab eI out)),(1856,1,.row true (ab eB known))],2⟩
@[go_sem] def fA (g_0:Int)(g_1:List aw):(Int × (List Int) × (List Bool))→St
 | (round,out,known)=>⟨[(2,.ptr 128 1 0 0),(6,.ref 1664 1 0 out.length),(7,.ref 1856 1 0 known.length),(8,.lit (.int .i64 round))],[(128,1,.var [.lit (.int .i64 g_0),.sl (ab aw.enc g_1)]),(1664,1,.row true (ab eI out)),(1856,1,.row true (ab eB known))],2⟩
@[go_sem] def fB (v89:Int)(known:List Bool):(Int × (List Int))→St
 | (v90,out)=>⟨[(6,.ref 1664 1 0 out.length),(7,.ref 1856 1 0 known.length),(89,.lit (.int .i64 v89)),(90,.lit (.int .i64 v90))],[(1664,1,.row true (ab eI out)),(1856,1,.row true (ab eB known))],2⟩
@[go_sem] def hi305_13:DT:=.r2 0 4 (.i1 4 (.i1 5 (.i2 6 (.i2 7 (.i0 8 [4,5] (.r2 9 3 .nil))))))
@[go_sem] def hi305_11:DT:=.r2 0 9 .nil
@[go_sem] def hi305_3:DT:=.i1 0 (.i1 1 (.i1 3 (.i1 4 (.fork (.i0 2 [3,4] (.i2 6 (.i0 5 [0,1] (.i2 7 .nil)))) (.i0 5 [0,1] (.i0 2 [3,4] (.i2 6 (.i2 7 .nil))))))))
def uk:Hint where
 acts:=fun _=>[]
 draws:=fun
  | 3=>⟨hi305_3,[[],[0],[0,1],[],[3],[3,4],[0,1,2],.range 7],.range 8⟩
  | 11=>⟨hi305_11,[[],[],[1],[0,1,2],[0,1,2,3],[],[5],.range 7,.range 8],.range 9⟩
  | 13=>⟨hi305_13,[[],[],[1],[],[],[4],[],[0,1,2,6],[0,1,2,6,7],.range 9,.range 10,.range 11],[0,1,2,6,7,8,3,4,5,9,10,11]⟩
  | _=>⟨.nil,[],[]⟩
theorem FP (i:Nat):uk.acts i=[]:=rfl
attribute[go_sem] FP ntmps305 results305
@[go_sem] theorem Ix:(uk.draws 3).order=hi305_3:=rfl
@[go_sem] theorem Hv:(uk.draws 11).order=hi305_11:=rfl
@[go_sem] theorem Hw:(uk.draws 13).order=hi305_13:=rfl
instance k305 {g:GGraph} {source:Int}:Ctr (fm g source) (fun (res:(List Int) × Bool)=>aj prog 305 [.agg [.lit (.int .i64 g.nodes),.sl (ab aw.enc g.edges)],.lit (.int .i64 source)] [] (.tup [.ref 20000 1 0 res.1.length,.lit (.bool res.2)]) [(20000,1,.row true (ab eI res.1))]):=⟨by
 intro res h0
 refine az (ra:=[.home 4]) (md:=mdT) hT (hi:=uk) func305 rfl rfl (by decide +kernel) (by simp) ?_
 unfold fm at h0
 obtain⟨r01,g0,h0⟩:=ae h0
 simp(config:=cS)only[go_sem, *]
 have g0:=ctr g0
 refine af g0 ?_
 obtain⟨_,h0⟩|⟨_,h0⟩:=itB h0
 ·obtain⟨r02,g0,h0⟩:=ae h0
  simp(config:=cS)only[go_sem, *]
  have g0:=ctr g0
  refine af g0 ?_
  obtain⟨_,h0⟩|⟨_,h0⟩:=itB h0
  ·obtain⟨_,h0⟩:=ckP h0
   obtain⟨_,h0⟩:=ckP h0
   obtain⟨_,h0⟩:=ckP h0
   obtain⟨_,h0⟩:=ckP h0
   try simp(config:=cS)only[go_sem, *]
   refine bR ?_ ?_
   ·obtain⟨x03,_,_,_,h0⟩:=gtI h0
    obtain⟨q16,l0,h0⟩:=ae h0
    simp(config:=cS)only[go_sem, *]
    refine ak (m1:=.mk) (m2:=.mk) [.nf [2,6,7,8] [128,1664,1856]] (fA g.nodes g.edges) l0 ?_ ?_
    ·simp(config:=cS)only[go_sem, *]
    have k0:=h0
    clear h0 l0
    intro _ s0 _ h0 gb0
    obtain⟨round_1,out_1,known_1⟩:=s0
    unfold dU at h0
    try dsimp only at h0
    obtain⟨q15,l0,h0⟩:=ae h0
    simp(config:=cS)only[go_sem, *]
    refine ak (m1:=.mk) (m2:=.mk) [.nf [2,6,7,8,9,36,37,38] [128,1664,1856]] (fz round_1 g.edges (g.edges.length:Int) g.nodes) l0 ?_ ?_
    ·simp(config:=cS)only[go_sem, *]
    have k0:=h0
    clear h0 l0
    intro _ s0 _ h0 gb0
    obtain⟨changed_2,v38_2,out_2,known_2⟩:=s0
    unfold dT at h0
    try dsimp only at h0
    obtain⟨_,h0⟩|⟨_,h0⟩:=itP h0
    ·exact run
    cases h0
    obtain rfl:=(aI gb0).symm
    clear gb0
    have h0:=k0
    clear k0
    try dsimp only at h0
    obtain⟨_,h0⟩|⟨_,h0⟩:=itB h0
    ·exact run
    cases h0
    obtain rfl:=(aI gb0).symm
    clear gb0
    have h0:=k0
    clear k0
    try dsimp only at h0
    obtain⟨q14,l0,h0⟩:=ae h0
    simp(config:=cS)only[go_sem, *]
    refine ak (m1:=.mk) (m2:=.mk) [.nf [6,7,89,90] [1664,1856]] (fB (out_2.length:Int) known_2) l0 ?_ ?_
    ·simp(config:=cS)only[go_sem, *]
    have k0:=h0
    clear h0 l0
    intro _ s0 _ h0 gb0
    obtain⟨v90_3,out_3⟩:=s0
    unfold dV at h0
    try dsimp only at h0
    exact run
   obtain⟨x17,_,_,_,h0⟩:=gtI h0
   obtain⟨q30,l0,h0⟩:=ae h0
   simp(config:=cS)only[go_sem, *]
   refine ak (m1:=.mk) (m2:=.mk) [.nf [2,6,7,8] [128,1664,1856]] (fA g.nodes g.edges) l0 ?_ ?_
   ·simp(config:=cS)only[go_sem, *]
   have k0:=h0
   clear h0 l0
   intro _ s0 _ h0 gb0
   obtain⟨round_4,out_4,known_4⟩:=s0
   unfold dU at h0
   try dsimp only at h0
   obtain⟨q29,l0,h0⟩:=ae h0
   simp(config:=cS)only[go_sem, *]
   refine ak (m1:=.mk) (m2:=.mk) [.nf [2,6,7,8,9,36,37,38] [128,1664,1856]] (fz round_4 g.edges (g.edges.length:Int) g.nodes) l0 ?_ ?_
   ·simp(config:=cS)only[go_sem, *]
   have k0:=h0
   clear h0 l0
   intro _ s0 _ h0 gb0
   obtain⟨changed_5,v38_5,out_5,known_5⟩:=s0
   unfold dT at h0
   try dsimp only at h0
   obtain⟨_,h0⟩|⟨_,h0⟩:=itP h0
   ·exact run
   cases h0
   obtain rfl:=(aI gb0).symm
   clear gb0
   have h0:=k0
   clear k0
   try dsimp only at h0
   obtain⟨_,h0⟩|⟨_,h0⟩:=itB h0
   ·exact run
   cases h0
   obtain rfl:=(aI gb0).symm
   clear gb0
   have h0:=k0
   clear k0
   try dsimp only at h0
   obtain⟨q28,l0,h0⟩:=ae h0
   simp(config:=cS)only[go_sem, *]
   refine ak (m1:=.mk) (m2:=.mk) [.nf [6,7,89,90] [1664,1856]] (fB (out_5.length:Int) known_5) l0 ?_ ?_
   ·simp(config:=cS)only[go_sem, *]
   have k0:=h0
   clear h0 l0
   intro _ s0 _ h0 gb0
   obtain⟨v90_6,out_6⟩:=s0
   unfold dV at h0
   try dsimp only at h0
   exact run
  exact run
 exact run⟩
instance k270 {n:Int}:Ctr (gS n) (fun (res:Int)=>aj prog 270 [.lit (.int .i64 n)] [] (.lit (.int .i64 res)) []):=⟨by
 intro res h0
 refine co (hi:=hi00) func270 rfl rfl ?_
 unfold gS at h0
 exact run⟩
@[go_sem] def mG (i v33 g_0:Int)(g_1:List aw)(v32:List Int):(Int × (List Int))→St
 | (v34,h100016385)=>⟨[(1,.ptr 64 1 0 0),(2,.ptr 128 1 0 0),(4,.ptr 256 1 0 0),(5,.lit (.int .i64 i)),(32,.ref 1664 1 0 v32.length),(33,.lit (.int .i64 v33)),(34,.lit (.int .i64 v34))],[(64,1,.var [.lit (.int .i64 g_0),.sl (ab aw.enc g_1)]),(128,1,.var [.lit (.int .i64 0),.lit (.slice none 0 0)]),(256,1,.var [.lit (.int .i64 g_0),.ref 100016385 1 0 h100016385.length]),(100016385,1,.row true (ab eI h100016385)),(1664,1,.row true (ab eI v32))],2⟩
@[go_sem] def mH (g_0:Int)(g_1:List aw):(Int × (List Int))→St
 | (i,h100016385)=>⟨[(1,.ptr 64 1 0 0),(2,.ptr 128 1 0 0),(4,.ptr 256 1 0 0),(5,.lit (.int .i64 i))],[(64,1,.var [.lit (.int .i64 g_0),.sl (ab aw.enc g_1)]),(128,1,.var [.lit (.int .i64 0),.lit (.slice none 0 0)]),(256,1,.var [.lit (.int .i64 g_0),.ref 100016385 1 0 h100016385.length]),(100016385,1,.row true (ab eI h100016385))],2⟩
@[go_sem] def hi298_13:DT:=.i1 0 (.i1 1 (.i2 2 (.i0 3 [0,1] (.i0 4 [0,1] (.r2 5 3 .nil)))))
def zZ:Hint where
 acts:=fun _=>[]
 draws:=fun
  | 13=>⟨hi298_13,[[],[0],[],[2],[2,3],.range 5,.range 6,.range 7],.range 8⟩
  | _=>⟨.nil,[],[]⟩
theorem FQ (i:Nat):zZ.acts i=[]:=rfl
attribute[go_sem] FQ ntmps298 results298
@[go_sem] theorem Hx:(zZ.draws 13).order=hi298_13:=rfl
instance k298 {g:GGraph}:Ctr (gT g) (fun (res:ay × Bool)=>aj prog 298 [.agg [.lit (.int .i64 g.nodes),.sl (ab aw.enc g.edges)]] [] (.tup [.agg [.lit (.int .i64 res.1.size),.ref 20000 1 0 res.1.cells.length],.lit (.bool res.2)]) [(20000,1,.row true (ab eI res.1.cells))]):=⟨by
 intro res h0
 refine az (ra:=[.homeCell 128 1]) (md:=mdT) hT (hi:=zZ) func298 rfl rfl (by decide +kernel) (by simp) ?_
 unfold gT at h0
 obtain⟨r01,g0,h0⟩:=ae h0
 simp(config:=cS)only[go_sem, *]
 have g0:=ctr g0
 refine af g0 ?_
 obtain⟨_,h0⟩|⟨_,h0⟩:=itB h0
 ·obtain⟨q06,l0,h0⟩:=ae h0
  simp(config:=cS)only[go_sem, *]
  refine ak (m1:=.mk) (m2:=.mk) [.homeCell 256 1,.nf [1,2,4,5] [64,128,256,100016385]] (mH g.nodes g.edges) l0 ?_ ?_
  ·simp(config:=cS)only[go_sem, *]
  have k0:=h0
  clear h0 l0
  intro _ s0 _ h0 gb0
  obtain⟨i_1,h100016385_1⟩:=s0
  unfold jj at h0
  try dsimp only at h0
  obtain⟨_,h0⟩|⟨_,h0⟩:=itP h0
  ·obtain⟨r02,g0,h0⟩:=ae h0
   simp(config:=cS)only[go_sem, *]
   have g0:=ctr g0
   refine af g0 ?_
   obtain⟨_,h0⟩|⟨_,h0⟩:=itB h0
   ·obtain⟨q05,l0,h0⟩:=ae h0
    simp(config:=cS)only[go_sem, *]
    refine ak (m1:=.mk) (m2:=.mk) [.homeCell 256 1,.nf [1,2,4,5,32,33,34] [64,128,256,100016385,1664]] (mG i_1 (r02.1.length:Int) g.nodes g.edges r02.1) l0 ?_ ?_
    ·simp(config:=cS)only[go_sem, *]
    have k0:=h0
    clear h0 l0
    intro _ s0 _ h0 gb0
    obtain⟨v34_2,h100016385_2⟩:=s0
    unfold ji at h0
    try dsimp only at h0
    exact run
   exact run
  exact run
 exact run⟩
@[go_sem] def ov (v25:List Int)(v26 t_0 v27:Int):St:=⟨[(1,.ptr 64 1 0 0),(25,.sl (ab eI v25)),(26,.lit (.int .i64 v26)),(27,.lit (.int .i64 v27))],[(64,1,.var [.lit (.int .i64 t_0),.sl (ab eI v25)])],2⟩
@[go_sem] def hi306_6:DT:=.r2 0 21 .nil
def Aa:Hint where
 acts:=fun _=>[]
 draws:=fun
  | 6=>⟨hi306_6,[[],[0],[0,1],[0,1,2],[0,1,2,3],.range 5,.range 6,.range 7,.range 7,[0,1,2,3,4,5,6,8],.range 10,.range 7,.range 7,[0,1,2,3,4,5,6,12],[0,1,2,3,4,5,6,11,12,13],.range 15,.range 16,.range 17,.range 18,.range 19,.range 20],.range 21⟩
  | _=>⟨.nil,[],[]⟩
theorem FR (i:Nat):Aa.acts i=[]:=rfl
attribute[go_sem] FR ntmps306 results306
@[go_sem] theorem Iy:(Aa.draws 6).order=hi306_6:=rfl
instance k306 {t:ay}:Ctr (jZ t) (fun (res:Bool)=>aj prog 306 [.agg [.lit (.int .i64 t.size),.sl (ab eI t.cells)]] [] (.lit (.bool res)) []):=⟨by
 intro res h0
 refine co (hi:=Aa) func306 rfl rfl ?_
 unfold jZ at h0
 obtain⟨_,h0⟩|⟨_,h0⟩:=itP h0
 ·exact run
 obtain⟨_,h0⟩|⟨_,h0⟩:=itP h0
 ·exact run
 obtain⟨_,h0⟩|⟨_,h0⟩:=itP h0
 ·obtain⟨q02,l0,h0⟩:=ae h0
  simp(config:=cS)only[go_sem, *]
  refine ak (m1:=.mk) (m2:=.mk) [.nf [1,25,26,27] [64]] (ov t.cells (t.cells.length:Int) t.size) l0 ?_ ?_
  ·simp(config:=cS)only[go_sem, *]
  have k0:=h0
  clear h0 l0
  intro _ v27_1 _ h0 gb0
  unfold lv at h0
  try dsimp only at h0
  exact run
 exact run⟩
instance k308 {t:ay} {i:Int} {k:Int}:Ctr (ec t i k) (fun (res:Int)=>aj prog 308 [.agg [.lit (.int .i64 t.size),.sl (ab eI t.cells)],.lit (.int .i64 i),.lit (.int .i64 k)] [] (.lit (.int .i64 res)) []):=⟨by
 intro res h0
 refine co (hi:=hi00) func308 rfl rfl ?_
 unfold ec at h0
 exact run⟩
instance k307 {i:ar} {ok:Bool}:Ctr (ka i ok) (fun (res:ar × Bool)=>aj prog 307 [.agg [.lit (.int .i64 i.low),.lit (.int .i64 i.high)],.lit (.bool ok)] [] (.tup [.agg [.lit (.int .i64 res.1.low),.lit (.int .i64 res.1.high)],.lit (.bool res.2)]) []):=⟨by
 intro res h0
 refine co (hi:=hi00) func307 rfl rfl ?_
 unfold ka at h0
 exact run⟩
@[go_sem] def hi299_3:DT:=.r2 0 3 (.i1 5 (.i2 6 (.i2 7 (.i0 3 [5] (.i2 4 (.r2 8 7 .nil))))))
def Ab:Hint where
 acts:=fun _=>[]
 draws:=fun
  | 3=>⟨hi299_3,[[],[],[],[0,1,2],[0,1,2,3],[],[],[],[0,1,2,3,5,6,7],.range 9,.range 10,.range 11,.range 11,.range 13,.range 14],.range 15⟩
  | _=>⟨.nil,[],[]⟩
theorem FS (i:Nat):Ab.acts i=[]:=rfl
attribute[go_sem] FS ntmps299 results299
@[go_sem] theorem Iz:(Ab.draws 3).order=hi299_3:=rfl
instance k299 {t:ay} {i:Int} {k:Int}:Ctr (eJ t i k) (fun (res:ar × Bool)=>aj prog 299 [.agg [.lit (.int .i64 t.size),.sl (ab eI t.cells)],.lit (.int .i64 i),.lit (.int .i64 k)] [] (.tup [.agg [.lit (.int .i64 res.1.low),.lit (.int .i64 res.1.high)],.lit (.bool res.2)]) []):=⟨by
 intro res h0
 refine co (hi:=Ab) func299 rfl rfl ?_
 unfold eJ at h0
 exact run⟩
instance k290 {s:ap} {event:Int}:Ctr (jk s event) (fun (res:ar × Bool)=>aj prog 290 [.agg [.lit (.int .i64 s.events),.sl (ab aA.enc s.links)],.lit (.int .i64 event)] [] (.tup [.agg [.lit (.int .i64 res.1.low),.lit (.int .i64 res.1.high)],.lit (.bool res.2)]) []):=⟨by
 intro res h0
 refine co (hi:=hi00) func290 rfl rfl ?_
 unfold jk at h0
 exact run⟩
@[go_sem] def oU (f_f:Nat)(k_f:List AV)(s_0:Int)(s_1:List aA):(Int × (List Int))→St
 | (event,out)=>⟨[(1,.fn f_f k_f),(2,.ptr 128 1 0 0),(6,.ref 447 1 0 out.length),(7,.lit (.int .i64 event))],[(128,1,.var [.lit (.int .i64 s_0),.sl (ab aA.enc s_1)]),(447,1,.row true (ab eI out))],2⟩
theorem wJ {s:ap}{f:ar→Option Int}{f_f:Nat}{k_f:List AV}(hp_f:∀ y0 r,f y0=some r→aj prog f_f ([.agg [.lit (.int .i64 y0.low),.lit (.int .i64 y0.high)]]++k_f) [] (.lit (.int .i64 r)) [])(hc_f:KC k_f)(hm_f:∀ a,mdT f_f a=⟨[],false⟩)(hk_f:spf f_f=false){res:(List Int) × Bool}(h:kX s f=some res):aj prog 268 [.agg [.lit (.int .i64 s.events),.sl (ab aA.enc s.links)],.fn f_f k_f] [] (.tup [.ref 20000 1 0 res.1.length,.lit (.bool res.2)]) [(20000,1,.row true (ab eI res.1))]:=by
 refine az (ra:=[.home 4]) (md:=mdT) hT (hi:=hi00) func268 rfl rfl (by decide +kernel) (by simp) ?_
 unfold kX at h
 obtain⟨r01,g1,h⟩:=ae h
 simp(config:=cS)only[go_sem,hc_f.1,hc_f.2,hm_f,hk_f]
 have g1:=ctr g1
 refine af g1 ?_
 obtain⟨h2,h⟩|⟨h2,h⟩:=aO h
 ·obtain⟨q06,l3,h⟩:=ae h
  simp(config:=cS)only[go_sem,hc_f.1,hc_f.2,hm_f,hk_f,eZt h2]
  refine ak (m1:=.mk) (m2:=.mk) [.home 6,.nf [1,2,6,7] [128,447]] (oU f_f k_f s.events s.links) l3 ?_ ?_
  ·simp(config:=cS)only[go_sem,hc_f.1,hc_f.2,hm_f,hk_f,eZt h2]
  intro nb4 sb4 bb4 b4 gb4
  obtain⟨event_1,out_1⟩:=sb4
  unfold my at b4
  try dsimp only at b4
  obtain⟨h5,b4⟩|⟨h5,b4⟩:=aO b4
  ·obtain⟨r02,g6,b4⟩:=ae b4
   simp(config:=cS)only[go_sem,hc_f.1,hc_f.2,hm_f,hk_f,eZt h2,eqT h5]
   have g6:=ctr g6
   refine af g6 ?_
   obtain⟨h7,b4⟩|⟨h7,b4⟩:=aO b4
   ·obtain⟨r03,g8,b4⟩:=ae b4
    simp(config:=cS)only[go_sem,hc_f.1,hc_f.2,hm_f,hk_f,eZt h2,eqT h5,eZt h7]
    refine af (hp_f _ _ g8) ?_
    obtain⟨r04,g9,b4⟩:=ae b4
    simp(config:=cS)only[go_sem,hc_f.1,hc_f.2,hm_f,hk_f,eZt h2,eqT h5,eZt h7]
    have g9:=ctr g9
    refine af g9 ?_
    obtain⟨h10,b4⟩|⟨h10,b4⟩:=aO b4
    ·obtain⟨r05,g11,b4⟩:=ae b4
     simp(config:=cS)only[go_sem,hc_f.1,hc_f.2,hm_f,hk_f,eZt h2,eqT h5,eZt h7,eZt h10]
     refine af (hp_f _ _ g11) ?_
     obtain⟨h12,b4⟩:=du b4
     obtain⟨h13,b4⟩:=du b4
     cases b4
     simp(config:=cS)only[go_sem,hc_f.1,hc_f.2,hm_f,hk_f,eZt h2,eqT h5,eZt h7,eZt h10,eqT h12,eqT h13]
     refine cE gb4 ?_
     simp(config:=cS)only[go_sem,hc_f.1,hc_f.2,hm_f,hk_f,eZt h2,eqT h5,eZt h7,eZt h10,eqT h12,eqT h13]
    cases b4
    obtain rfl:=(aI gb4).symm
    try dsimp only at h
    cases h
    simp(config:=cS)only[go_sem,hc_f.1,hc_f.2,hm_f,hk_f,eZt h2,eqT h5,eZt h7,eZf h10]
   cases b4
   obtain rfl:=(aI gb4).symm
   try dsimp only at h
   cases h
   simp(config:=cS)only[go_sem,hc_f.1,hc_f.2,hm_f,hk_f,eZt h2,eqT h5,eZf h7]
  cases b4
  obtain rfl:=(aI gb4).symm
  try dsimp only at h
  cases h
  simp(config:=cS)only[go_sem,hc_f.1,hc_f.2,hm_f,hk_f,eZt h2,eqF h5]
 cases h
 simp(config:=cS)only[go_sem,hc_f.1,hc_f.2,hm_f,hk_f,eZf h2]
instance k269 {i:ar}:Ctr (dG i) (fun (res:Int)=>aj prog 269 [.agg [.lit (.int .i64 i.low),.lit (.int .i64 i.high)]] [] (.lit (.int .i64 res)) []):=⟨by
 intro res h0
 refine co (hi:=hi00) func269 rfl rfl ?_
 unfold dG at h0
 exact run⟩
instance k230 {s:ap}:Ctr (eL s) (fun (res:(List Int) × Bool)=>aj prog 230 [.agg [.lit (.int .i64 s.events),.sl (ab aA.enc s.links)]] [] (.tup [.ref 20000 1 0 res.1.length,.lit (.bool res.2)]) [(20000,1,.row true (ab eI res.1))]):=⟨by
 intro res h0
 refine az (ra:=[.home 2]) (md:=mdT) hT (hi:=hi00) func230 rfl rfl (by decide +kernel) (by simp) ?_
 unfold eL at h0
 obtain⟨r01,g0,h0⟩:=ae h0
 simp(config:=cS)only[go_sem, *]
 refine af (wJ (by exact fun _ _ hr=>by have q:=ctr hr;exact q) (by refine⟨fun _=>?_,fun _=>?_⟩ <;> simp only[go_sem]) (fun _=>rfl) rfl g0) ?_
 exact run⟩
@[go_sem] def mf (v24:Int)(s_0:List ah)(s_1:List GTie)(s_2:Int):(Int × (List Int))→St
 | (v25,v23)=>⟨[(1,.ptr 64 1 0 0),(6,.ref 1152 1 0 v23.length),(23,.ref 1152 1 0 v23.length),(24,.lit (.int .i64 v24)),(25,.lit (.int .i64 v25))],[(64,1,.var [.sl (ab ah.encS s_0),.sl (ab GTie.enc s_1),.lit (.int .i64 s_2)]),(1152,1,.row true (ab eI v23))],2⟩
instance k172 {s:GShow}:Ctr (gn s) (fun (res:(List Int) × Bool)=>aj prog 172 [.agg (GShow.encS s)] [] (.tup [.ref 20000 1 0 res.1.length,.lit (.bool res.2)]) [(20000,1,.row true (ab eI res.1))]):=⟨by
 intro res h0
 refine az (ra:=[.home 2]) (md:=mdT) hT (hi:=hi00) func172 rfl rfl (by decide +kernel) (by simp) ?_
 unfold gn at h0
 obtain⟨r01,g0,h0⟩:=ae h0
 simp(config:=cS)only[go_sem, *]
 have g0:=ctr g0
 refine af g0 ?_
 obtain⟨_,h0⟩|⟨_,h0⟩:=itB h0
 ·obtain⟨r02,g0,h0⟩:=ae h0
  simp(config:=cS)only[go_sem, *]
  have g0:=ctr g0
  refine af g0 ?_
  obtain⟨_,h0⟩|⟨_,h0⟩:=itB h0
  ·obtain⟨q05,l0,h0⟩:=ae h0
   simp(config:=cS)only[go_sem, *]
   refine ak (m1:=.mk) (m2:=.mk) [.nf [1,6,23,24,25] [64,1152]] (mf (r02.1.length:Int) s.nodes s.ties s.horizon) l0 ?_ ?_
   ·simp(config:=cS)only[go_sem, *]
   have k0:=h0
   clear h0 l0
   intro _ s0 _ h0 gb0
   obtain⟨v25_1,v23_1⟩:=s0
   unfold iH at h0
   try dsimp only at h0
   exact run
  exact run
 exact run⟩
instance k134 {s:GShow}:Ctr (jl s) (fun (res:Bool)=>aj prog 134 [.agg (GShow.encS s)] [] (.lit (.bool res)) []):=⟨by
 intro res h0
 refine co (hi:=hi00) func134 rfl rfl ?_
 unfold jl at h0
 exact run⟩
instance k75 {s:GShow}:Ctr (kb s) (fun (res:Int)=>aj prog 75 [.agg (GShow.encS s)] [] (.lit (.int .i64 res)) []):=⟨by
 intro res h0
 refine co (hi:=hi00) func75 rfl rfl ?_
 unfold kb at h0
 exact run⟩
instance k63 {t:GSheet}:Ctr (fo t) (fun (res:Int)=>aj prog 63 [.agg (GSheet.encS t)] [] (.lit (.int .i64 res)) []):=⟨by
 intro res h0
 refine co (hi:=hi00) func63 rfl rfl ?_
 unfold fo at h0
 exact run⟩
instance k62 {class_:Int}:Ctr (iv class_) (fun (res:ByteArray)=>aj prog 62 [.lit (.int .i64 class_)] [] (.lit (.string res)) []):=⟨by
 intro res h0
 refine co (hi:=hi00) func62 rfl rfl ?_
 unfold iv at h0
 obtain⟨_,h0⟩|⟨_,h0⟩:=itP h0
 ·exact run
 obtain⟨_,h0⟩|⟨_,h0⟩:=itP h0
 ·exact run
 obtain⟨x01,a1,a2,a3,h0⟩:=gtI h0
 try simp only[List.length_append,List.length_cons,List.length_nil,Nat.zero_add,Nat.reduceAdd]at a1
 try simp only[List.length_append,List.length_cons,List.length_nil,Nat.zero_add,Nat.reduceAdd]at a2
 try simp only[List.length_append,List.length_cons,List.length_nil,Nat.zero_add,Nat.reduceAdd]at a3
 exact run⟩
@[go_sem] def mg (v19:List Int)(v20:Int)(s_0:List ah)(s_1:List GTie)(s_2:Int):(Int × (List ByteArray))→St
 | (v21,parts)=>⟨[(2,.ptr 128 1 0 0),(5,.ref 383 1 0 parts.length),(19,.sl (ab eI v19)),(20,.lit (.int .i64 v20)),(21,.lit (.int .i64 v21))],[(128,1,.var [.sl (ab ah.encS s_0),.sl (ab GTie.enc s_1),.lit (.int .i64 s_2)]),(383,1,.row true (ab eS parts))],2⟩
@[go_sem] def hi173_8:DT:=.i2 0 (.i1 1 (.i1 2 (.i2 3 (.i1 4 (.i1 5 (.i1 6 (.i2 7 (.i2 8 (.i0 9 [1,2,4,5,6] (.r2 10 4 .nil))))))))))
def Ac:Hint where
 acts:=fun _=>[]
 draws:=fun
  | 8=>⟨hi173_8,[[],[],[1],[],[1,2,3],[1,2,3,4],[1,2,3,4,5],[1,2,3,4,5,6],[],[8],[1,2,3,4,5,6,7,8,9],[1,2,3,4,5,6,7,8,9,10],.range 12,.range 13],.range 14⟩
  | _=>⟨.nil,[],[]⟩
theorem FT (i:Nat):Ac.acts i=[]:=rfl
attribute[go_sem] FT ntmps173 results173
@[go_sem] theorem IA:(Ac.draws 8).order=hi173_8:=rfl
instance k173 {s:GShow} {times:List Int}:Ctr (gp s times) (fun (res:ByteArray)=>aj prog 173 [.agg (GShow.encS s),.sl (ab eI times)] [] (.lit (.string res)) []):=⟨by
 intro res h0
 refine co (hi:=Ac) func173 rfl rfl ?_
 unfold gp at h0
 obtain⟨r01,g0,h0⟩:=ae h0
 simp(config:=cS)only[go_sem, *]
 have g0:=ctr g0
 refine af g0 ?_
 obtain⟨_,h0⟩|⟨_,h0⟩:=itB h0
 ·obtain⟨_,h0⟩|⟨_,h0⟩:=itP h0
  ·obtain⟨q06,l0,h0⟩:=ae h0
   simp(config:=cS)only[go_sem, *]
   refine ak (m1:=.mk) (m2:=.mk) [.home 5,.nf [2,5,19,20,21] [128,383]] (mg times (times.length:Int) s.nodes s.ties s.horizon) l0 ?_ ?_
   ·simp(config:=cS)only[go_sem, *]
   have k0:=h0
   clear h0 l0
   intro _ s0 _ h0 gb0
   obtain⟨v21_1,parts_1⟩:=s0
   unfold iI at h0
   try dsimp only at h0
   obtain⟨_,h0⟩|⟨_,h0⟩:=itP h0
   ·obtain⟨x02,_,_,_,h0⟩:=gtI h0
    obtain⟨_,h0⟩|⟨_,h0⟩:=itP h0
    ·exact run
    obtain⟨x03,_,_,_,h0⟩:=gtI h0
    obtain⟨_,h0⟩:=ckP h0
    obtain⟨r04,g0,h0⟩:=ae h0
    simp(config:=cS)only[go_sem, *]
    have g0:=ctr g0
    refine af g0 ?_
    obtain⟨a1,h0⟩:=ckP h0
    try simp(config:=cS)only[go_sem]at a1
    exact run
   exact run
  exact run
 exact run⟩
@[go_sem] def mh (v13:List Int)(v14:Int)(s_0:List ah)(s_1:List GTie)(s_2 v3_0:Int)(v3_1:List Int):(Int × (List Int))→St
 | (v15,label)=>⟨[(2,.ptr 128 1 0 0),(3,.ptr 192 1 0 0),(5,.ref 383 1 0 label.length),(13,.sl (ab eI v13)),(14,.lit (.int .i64 v14)),(15,.lit (.int .i64 v15))],[(128,1,.var [.sl (ab ah.encS s_0),.sl (ab GTie.enc s_1),.lit (.int .i64 s_2)]),(192,1,.var [.lit (.int .i64 v3_0),.sl (ab eI v3_1),.sl (ab eI v13)]),(383,1,.row true (ab eI label))],2⟩
@[go_sem] def hi116_10:DT:=.i2 0 (.i2 1 (.i1 4 (.i1 5 (.i1 6 (.i2 10 (.i0 2 [4,5,6] (.i2 3 (.r2 7 3 (.r2 11 3 .nil)))))))))
def Ad:Hint where
 acts:=fun _=>[]
 draws:=fun
  | 10=>⟨hi116_10,[[],[0],[0,1],[0,1,2],[],[],[5],[0,1,2,4,5,6],.range 8,.range 9,[],[0,1,2,4,5,6,7,10],.range 12,.range 13],.range 14⟩
  | _=>⟨.nil,[],[]⟩
theorem FU (i:Nat):Ad.acts i=[]:=rfl
attribute[go_sem] FU ntmps116 results116
@[go_sem] theorem Hy:(Ad.draws 10).order=hi116_10:=rfl
instance k116 {s:GShow} {v1:GState}:Ctr (gq s v1) (fun (res:ByteArray)=>aj prog 116 [.agg (GShow.encS s),.agg (GState.encS v1)] [] (.lit (.string res)) []):=⟨by
 intro res h0
 refine co (hi:=Ad) func116 rfl rfl ?_
 unfold gq at h0
 obtain⟨r01,g0,h0⟩:=ae h0
 simp(config:=cS)only[go_sem, *]
 have g0:=ctr g0
 refine af g0 ?_
 obtain⟨_,h0⟩|⟨_,h0⟩:=itB h0
 ·obtain⟨q06,l0,h0⟩:=ae h0
  simp(config:=cS)only[go_sem, *]
  refine ak (m1:=.mk) (m2:=.mk) [.home 5,.nf [2,3,5,13,14,15] [128,192,383]] (mh v1.values (v1.values.length:Int) s.nodes s.ties s.horizon v1.now v1.times) l0 ?_ ?_
  ·simp(config:=cS)only[go_sem, *]
  have k0:=h0
  clear h0 l0
  intro _ s0 _ h0 gb0
  obtain⟨v15_1,label_1⟩:=s0
  unfold iJ at h0
  try dsimp only at h0
  obtain⟨_,h0⟩|⟨_,h0⟩:=itP h0
  ·exact run
  cases h0
  obtain rfl:=(aI gb0).symm
  clear gb0
  have h0:=k0
  clear k0
  try dsimp only at h0
  obtain⟨r03,g0,h0⟩:=ae h0
  simp(config:=cS)only[go_sem, *]
  have g0:=ctr g0
  refine af g0 ?_
  obtain⟨_,h0⟩:=ckP h0
  obtain⟨r04,g0,h0⟩:=ae h0
  simp(config:=cS)only[go_sem, *]
  have g0:=ctr g0
  refine af g0 ?_
  obtain⟨a1,h0⟩:=ckP h0
  try simp(config:=cS)only[go_sem]at a1
  obtain⟨a2,h0⟩:=ckP h0
  try simp(config:=cS)only[go_sem]at a2
  obtain⟨r05,g0,h0⟩:=ae h0
  simp(config:=cS)only[go_sem, *]
  have g0:=ctr g0
  refine af g0 ?_
  obtain⟨a3,h0⟩:=ckP h0
  try simp(config:=cS)only[go_sem]at a3
  exact run
 exact run⟩
@[go_sem] def hi65_10:DT:=.i2 0 (.i1 1 (.i1 2 (.i1 3 (.i1 4 (.i2 5 (.i1 6 (.i1 7 (.i1 8 (.i2 10 (.i1 11 (.i1 12 (.i1 13 (.i1 14 (.fork (.i0 9 [1,2,3,4,11,12,13,14] (.fork (.i2 15 (.i2 16 (.i2 17 (.i2 18 (.i0 19 [1,2,3,4,6,7,8,11,12,13,14] (.i2 20 (.i2 21 .nil))))))) (.i0 19 [1,2,3,4,6,7,8,11,12,13,14] (.i2 15 (.i2 16 (.i2 17 (.i2 18 (.i2 20 (.i2 21 .nil))))))))) (.i0 19 [1,2,3,4,6,7,8,11,12,13,14] (.i0 9 [1,2,3,4,11,12,13,14] (.i2 15 (.i2 16 (.i2 17 (.i2 18 (.i2 20 (.i2 21 .nil))))))))))))))))))))))
@[go_sem] def hi65_7:DT:=.r2 0 13 .nil
@[go_sem] def hi65_5:DT:=.r2 0 12 .nil
def hi65:Hint where
 acts:=fun _=>[]
 draws:=fun
  | 5=>⟨hi65_5,[[],[0],[0,1],[0,1,2],[0,1,2,3],[],[5],[5,6],[5,6,7],[5,6,7,8],.range 10,.range 11],.range 12⟩
  | 7=>⟨hi65_7,[[],[0],[0,1],[0,1,2],[0,1,2,3],[],[5],[5,6],[5,6,7],[5,6,7,8],.range 10,.range 11,.range 12],.range 13⟩
  | 10=>⟨hi65_10,[[],[0],[0,1],[0,1,2],[0,1,2,3],[],[5],[5,6],[5,6,7],[5,6,7,8],[],[10],[10,11],[10,11,12],[10,11,12,13],.range 15,.range 16,.range 17,.range 17,[],[0,1,2,3,4,5,6,7,8,9,10,11,12,13,14,15,16,17,19],.range 21],[0,1,2,3,4,5,6,7,8,9,10,11,12,13,14,15,16,17,20,18,19,21]⟩
  | _=>⟨.nil,[],[]⟩
theorem GU (i:Nat):hi65.acts i=[]:=rfl
attribute[go_sem] GU ntmps65 results65
@[go_sem] theorem Jh:(hi65.draws 5).order=hi65_5:=rfl
@[go_sem] theorem Ji:(hi65.draws 7).order=hi65_7:=rfl
@[go_sem] theorem IB:(hi65.draws 10).order=hi65_10:=rfl
instance k65 {v0:GConsole} {word:ByteArray}:Ctr (bB v0 word) (fun (res:ByteArray × GConsole)=>aj prog 65 [.ptr 10000 0 0 0,.lit (.string word)] [(10000,0,.var [.sl (ab GCue.enc v0.sheet.cues),.sl (ab eI v0.sheet.prep),.lit (.int .i64 v0.sheet.horizon),.sl (ab ah.encS v0.desk.show_.nodes),.sl (ab GTie.enc v0.desk.show_.ties),.lit (.int .i64 v0.desk.show_.horizon),.lit (.int .i64 v0.desk.state.now),.sl (ab eI v0.desk.state.times),.sl (ab eI v0.desk.state.values),.lit (.bool v0.desk.lazy),.sl (ab al.encS v0.desk.log),.sl (ab aE.enc v0.takes)])] (.lit (.string res.1)) [(10000,0,.var [.sl (ab GCue.enc res.2.sheet.cues),.sl (ab eI res.2.sheet.prep),.lit (.int .i64 res.2.sheet.horizon),.sl (ab ah.encS res.2.desk.show_.nodes),.sl (ab GTie.enc res.2.desk.show_.ties),.lit (.int .i64 res.2.desk.show_.horizon),.lit (.int .i64 res.2.desk.state.now),.sl (ab eI res.2.desk.state.times),.sl (ab eI res.2.desk.state.values),.lit (.bool res.2.desk.lazy),.sl (ab al.encS res.2.desk.log),.sl (ab aE.enc res.2.takes)])]):=⟨by
 intro res h0
 refine az (ra:=[.homeCell 10000 0,.freeze [100640000],.sliC 10000 0,.homeCell 10000 1,.freeze [100640001],.sliC 10000 1,.homeCell 10000 3,.freeze [100640003],.sliC 10000 3,.homeCell 10000 4,.freeze [100640004],.sliC 10000 4,.homeCell 10000 7,.freeze [100640007],.sliC 10000 7,.homeCell 10000 8,.freeze [100640008],.sliC 10000 8,.homeCell 10000 10,.freeze [100640010],.sliC 10000 10,.homeCell 10000 11,.freeze [100640011],.sliC 10000 11]) (md:=mdT) hT (hi:=hi65) func65 rfl rfl (by decide +kernel) (by simp) ?_
 unfold bB at h0
 obtain⟨r01,g0,h0⟩:=ae h0
 simp(config:=cS)only[go_sem, *]
 have g0:=ctr g0
 refine af g0 ?_
 obtain⟨_,h0⟩|⟨_,h0⟩:=itB h0
 ·obtain⟨_,h0⟩|⟨_,h0⟩:=itP h0
  ·exact run
  obtain⟨_,h0⟩|⟨_,h0⟩:=itP h0
  ·exact run
  obtain⟨_,h0⟩|⟨_,h0⟩:=itP h0
  ·exact run
  try simp(config:=cS)only[go_sem, *]
  refine bR ?_ ?_
  ·exact run
  exact run
 exact run⟩
instance k37 {v0:GConsole} {word:ByteArray}:Ctr (fq v0 word) (fun (res:ByteArray × GConsole)=>aj prog 37 [.ptr 10000 0 0 0,.lit (.string word)] [(10000,0,.var [.sl (ab GCue.enc v0.sheet.cues),.sl (ab eI v0.sheet.prep),.lit (.int .i64 v0.sheet.horizon),.sl (ab ah.encS v0.desk.show_.nodes),.sl (ab GTie.enc v0.desk.show_.ties),.lit (.int .i64 v0.desk.show_.horizon),.lit (.int .i64 v0.desk.state.now),.sl (ab eI v0.desk.state.times),.sl (ab eI v0.desk.state.values),.lit (.bool v0.desk.lazy),.sl (ab al.encS v0.desk.log),.sl (ab aE.enc v0.takes)])] (.lit (.string res.1)) [(10000,0,.var [.sl (ab GCue.enc res.2.sheet.cues),.sl (ab eI res.2.sheet.prep),.lit (.int .i64 res.2.sheet.horizon),.sl (ab ah.encS res.2.desk.show_.nodes),.sl (ab GTie.enc res.2.desk.show_.ties),.lit (.int .i64 res.2.desk.show_.horizon),.lit (.int .i64 res.2.desk.state.now),.sl (ab eI res.2.desk.state.times),.sl (ab eI res.2.desk.state.values),.lit (.bool res.2.desk.lazy),.sl (ab al.encS res.2.desk.log),.sl (ab aE.enc res.2.takes)])]):=⟨by
 intro res h0
 refine az (ra:=[.homeCell 10000 0,.freeze [100640000],.sliC 10000 0,.homeCell 10000 1,.freeze [100640001],.sliC 10000 1,.homeCell 10000 3,.freeze [100640003],.sliC 10000 3,.homeCell 10000 4,.freeze [100640004],.sliC 10000 4,.homeCell 10000 7,.freeze [100640007],.sliC 10000 7,.homeCell 10000 8,.freeze [100640008],.sliC 10000 8,.homeCell 10000 10,.freeze [100640010],.sliC 10000 10,.homeCell 10000 11,.freeze [100640011],.sliC 10000 11]) (md:=mdT) hT (hi:=hi00) func37 rfl rfl (by decide +kernel) (by simp) ?_
 unfold fq at h0
 exact run⟩
instance k23 {v0:GConsole} {line:ByteArray}:Ctr (dW v0 line) (fun (res:ByteArray × GConsole)=>aj prog 23 [.ptr 10000 0 0 0,.lit (.string line)] [(10000,0,.var [.sl (ab GCue.enc v0.sheet.cues),.sl (ab eI v0.sheet.prep),.lit (.int .i64 v0.sheet.horizon),.sl (ab ah.encS v0.desk.show_.nodes),.sl (ab GTie.enc v0.desk.show_.ties),.lit (.int .i64 v0.desk.show_.horizon),.lit (.int .i64 v0.desk.state.now),.sl (ab eI v0.desk.state.times),.sl (ab eI v0.desk.state.values),.lit (.bool v0.desk.lazy),.sl (ab al.encS v0.desk.log),.sl (ab aE.enc v0.takes)])] (.lit (.string res.1)) [(10000,0,.var [.sl (ab GCue.enc res.2.sheet.cues),.sl (ab eI res.2.sheet.prep),.lit (.int .i64 res.2.sheet.horizon),.sl (ab ah.encS res.2.desk.show_.nodes),.sl (ab GTie.enc res.2.desk.show_.ties),.lit (.int .i64 res.2.desk.show_.horizon),.lit (.int .i64 res.2.desk.state.now),.sl (ab eI res.2.desk.state.times),.sl (ab eI res.2.desk.state.values),.lit (.bool res.2.desk.lazy),.sl (ab al.encS res.2.desk.log),.sl (ab aE.enc res.2.takes)])]):=⟨by
 intro res h0
 refine az (ra:=[.homeCell 10000 0,.freeze [2048,100640000],.sliC 10000 0,.homeCell 10000 1,.freeze [2049,100640001],.sliC 10000 1,.homeCell 10000 3,.freeze [100640003],.sliC 10000 3,.homeCell 10000 4,.freeze [100640004],.sliC 10000 4,.homeCell 10000 7,.freeze [100640007],.sliC 10000 7,.homeCell 10000 8,.freeze [100640008],.sliC 10000 8,.homeCell 10000 10,.freeze [100640010],.sliC 10000 10,.homeCell 10000 11,.freeze [100640011],.sliC 10000 11]) (md:=mdT) hT (hi:=hi00) func23 rfl rfl (by decide +kernel) (by simp) ?_
 unfold dW at h0
 obtain⟨r01,g0,h0⟩:=ae h0
 simp(config:=cS)only[go_sem, *]
 have g0:=ctr g0
 refine af g0 ?_
 obtain⟨x02,g1,h0⟩:=ae h0
 have:=aM (k:=0) g1
 obtain⟨_,h0⟩|⟨_,h0⟩:=itP h0
 ·exact run
 obtain⟨_,h0⟩|⟨_,h0⟩:=itP h0
 ·exact run
 obtain⟨_,h0⟩|⟨_,h0⟩:=itP h0
 ·exact run
 obtain⟨_,h0⟩|⟨_,h0⟩:=itP h0
 ·exact run
 obtain⟨_,h0⟩|⟨_,h0⟩:=itP h0
 ·exact run
 obtain⟨_,h0⟩|⟨_,h0⟩:=itP h0
 ·exact run
 obtain⟨_,h0⟩|⟨_,h0⟩:=itP h0
 ·exact run
 obtain⟨x09,g2,h0⟩:=ae h0
 have:=aM (k:=1) g2
 obtain⟨r10,g0,h0⟩:=ae h0
 simp(config:=cS)only[go_sem, *]
 refine af (dN g0) ?_
 exact run⟩
@[go_sem] def hi12_1:DT:=.i1 0 (.i1 1 (.i1 3 (.i1 4 (.i1 6 (.i1 7 (.fork (.i0 2 [3,4,6,7] (.fork (.i0 5 [6,7] (.fork (.i2 8 (.i2 9 (.i0 10 [0,1,3,4,6,7] (.i2 11 .nil)))) (.i0 10 [0,1,3,4,6,7] (.i2 8 (.i2 9 (.i2 11 .nil)))))) (.i0 10 [0,1,3,4,6,7] (.i0 5 [6,7] (.i2 8 (.i2 9 (.i2 11 .nil))))))) (.i0 10 [0,1,3,4,6,7] (.i0 2 [3,4,6,7] (.i0 5 [6,7] (.i2 8 (.i2 9 (.i2 11 .nil))))))))))))
def hi12:Hint where
 acts:=fun i=>match i with|4=>[.freeze [640],.sliC 384 0,.freeze [641],.sliC 384 1,.freeze [832],.sliC 384 3,.freeze [833],.sliC 384 4,.freeze [834],.sliC 384 7,.freeze [835],.sliC 384 8,.freeze [836],.sliC 384 10,.freeze [1024],.sliC 384 11]|_=>[]
 draws:=fun
  | 1=>⟨hi12_1,[[],[0],[0,1],[],[3],.range 5,[],[6],.range 8,.range 9,[],.range 11],.range 12⟩
  | _=>⟨.nil,[],[]⟩
@[go_sem] theorem Jj:hi12.acts 0=[]:=rfl
@[go_sem] theorem Jk:hi12.acts 1=[]:=rfl
@[go_sem] theorem Jl:hi12.acts 2=[]:=rfl
@[go_sem] theorem Jm:hi12.acts 3=[]:=rfl
@[go_sem] theorem Jn:hi12.acts 4=[.freeze [640],.sliC 384 0,.freeze [641],.sliC 384 1,.freeze [832],.sliC 384 3,.freeze [833],.sliC 384 4,.freeze [834],.sliC 384 7,.freeze [835],.sliC 384 8,.freeze [836],.sliC 384 10,.freeze [1024],.sliC 384 11]:=rfl
@[go_sem] theorem Jo:hi12.acts 5=[]:=rfl
@[go_sem] theorem Jp:(hi12.draws 1).order=hi12_1:=rfl
instance k12 {v0:GConsole} {line:ByteArray}:Ctr (kc v0 line) (fun (res:GConsole × ByteArray)=>aj prog 12 [.agg (GConsole.encS v0),.lit (.string line)] [] (.tup [.agg [.sl (ab GCue.enc res.1.sheet.cues),.sl (ab eI res.1.sheet.prep),.lit (.int .i64 res.1.sheet.horizon),.sl (ab ah.encS res.1.desk.show_.nodes),.sl (ab GTie.enc res.1.desk.show_.ties),.lit (.int .i64 res.1.desk.show_.horizon),.lit (.int .i64 res.1.desk.state.now),.sl (ab eI res.1.desk.state.times),.sl (ab eI res.1.desk.state.values),.lit (.bool res.1.desk.lazy),.sl (ab al.encS res.1.desk.log),.sl (ab aE.enc res.1.takes)],.lit (.string res.2)]) []):=⟨by
 intro res h0
 refine az (ra:=[.homeCell 256 0,.freeze [640,100016384],.sliC 256 0,.homeCell 256 1,.freeze [641,100016385],.sliC 256 1,.homeCell 256 3,.freeze [832,100016387],.sliC 256 3,.homeCell 256 4,.freeze [833,100016388],.sliC 256 4,.homeCell 256 7,.freeze [834,100016391],.sliC 256 7,.homeCell 256 8,.freeze [835,100016392],.sliC 256 8,.homeCell 256 10,.freeze [836,100016394],.sliC 256 10,.homeCell 256 11,.freeze [1024,100016395],.sliC 256 11]) (md:=mdT) hT (hi:=hi12) func12 rfl rfl (by decide +kernel) (by simp) ?_
 unfold kc at h0
 try simp(config:=cS)only[go_sem, *]
 refine bR ?_ ?_
 ·obtain⟨r01,g0,h0⟩:=ae h0
  simp(config:=cS)only[go_sem, *]
  have g0:=ctr g0
  refine af g0 ?_
  try simp(config:=cS)only[go_sem, *]
  refine bR ?_ ?_
  ·obtain⟨r02,g0,h0⟩:=ae h0
   simp(config:=cS)only[go_sem, *]
   have g0:=ctr g0
   refine af g0 ?_
   try simp(config:=cS)only[go_sem, *]
   refine bR ?_ ?_
   ·obtain⟨r03,g0,h0⟩:=ae h0
    simp(config:=cS)only[go_sem, *]
    have g0:=ctr g0
    refine af g0 ?_
    obtain⟨_,h0⟩|⟨_,h0⟩:=itP h0
    ·exact run
    obtain⟨c1004,g1,h0⟩:=ae h0
    have:=ik (k:=0) g1
    exact run
   obtain⟨r06,g0,h0⟩:=ae h0
   simp(config:=cS)only[go_sem, *]
   have g0:=ctr g0
   refine af g0 ?_
   obtain⟨_,h0⟩|⟨_,h0⟩:=itP h0
   ·exact run
   obtain⟨c1007,g2,h0⟩:=ae h0
   have:=ik (k:=0) g2
   exact run
  obtain⟨r09,g0,h0⟩:=ae h0
  simp(config:=cS)only[go_sem, *]
  have g0:=ctr g0
  refine af g0 ?_
  obtain⟨r10,g0,h0⟩:=ae h0
  simp(config:=cS)only[go_sem, *]
  have g0:=ctr g0
  refine af g0 ?_
  obtain⟨_,h0⟩|⟨_,h0⟩:=itP h0
  ·exact run
  obtain⟨c1011,g3,h0⟩:=ae h0
  have:=ik (k:=0) g3
  exact run
 obtain⟨r13,g0,h0⟩:=ae h0
 simp(config:=cS)only[go_sem, *]
 have g0:=ctr g0
 refine af g0 ?_
 obtain⟨r14,g0,h0⟩:=ae h0
 simp(config:=cS)only[go_sem, *]
 have g0:=ctr g0
 refine af g0 ?_
 obtain⟨r15,g0,h0⟩:=ae h0
 simp(config:=cS)only[go_sem, *]
 have g0:=ctr g0
 refine af g0 ?_
 obtain⟨_,h0⟩|⟨_,h0⟩:=itP h0
 ·exact run
 obtain⟨c1016,g4,h0⟩:=ae h0
 have:=ik (k:=0) g4
 exact run⟩
@[go_sem] def mI (v17:Int)(v16:List ByteArray):(ByteArray × Int × (List GCue) × (List Int) × Int × (List ah) × (List GTie) × Int × Int × (List Int) × (List Int) × Bool × (List al) × (List aE))→St
 | (out,v18,v5_0,v5_1,v5_2,v5_3,v5_4,v5_5,v5_6,v5_7,v5_8,v5_9,v5_10,v5_11)=>⟨[(4,.ref 704 1 0 v16.length),(5,.ptr 320 1 0 0),(6,.lit (.string out)),(16,.ref 704 1 0 v16.length),(17,.lit (.int .i64 v17)),(18,.lit (.int .i64 v18))],[(704,1,.row false (ab eS v16)),(320,1,.var [.sl (ab GCue.enc v5_0),.sl (ab eI v5_1),.lit (.int .i64 v5_2),.sl (ab ah.encS v5_3),.sl (ab GTie.enc v5_4),.lit (.int .i64 v5_5),.lit (.int .i64 v5_6),.sl (ab eI v5_7),.sl (ab eI v5_8),.lit (.bool v5_9),.sl (ab al.encS v5_10),.sl (ab aE.enc v5_11)])],2⟩
instance k6 {text:ByteArray}:Ctr (ed text) (fun (res:ByteArray × Int)=>aj prog 6 [.lit (.string text)] [] (.tup [.lit (.string res.1),.lit (.int .i64 res.2)]) []):=⟨by
 intro res h0
 refine co (hi:=hi00) func6 rfl rfl ?_
 unfold ed at h0
 obtain⟨r01,g0,h0⟩:=ae h0
 simp(config:=cS)only[go_sem, *]
 have g0:=ctr g0
 refine af g0 ?_
 obtain⟨_,h0⟩|⟨_,h0⟩:=itP h0
 ·exact run
 obtain⟨r02,g0,h0⟩:=ae h0
 simp(config:=cS)only[go_sem, *]
 have g0:=ctr g0
 refine af g0 ?_
 obtain⟨q05,l0,h0⟩:=ae h0
 simp(config:=cS)only[go_sem, *]
 refine ak (m1:=.mk) (m2:=.mk) [.freeze [960,961,962,963,964,965,966,967],.freeze [960],.sliC 320 0,.freeze [961],.sliC 320 1,.freeze [962],.sliC 320 3,.freeze [963],.sliC 320 4,.freeze [964],.sliC 320 7,.freeze [965],.sliC 320 8,.freeze [966],.sliC 320 10,.freeze [967],.sliC 320 11,.nf [4,5,6,16,17,18] [704,320]] (mI (r01.length:Int) r01) l0 ?_ ?_
 ·simp(config:=cS)only[go_sem, *]
 have k0:=h0
 clear h0 l0
 intro _ s0 _ h0 gb0
 obtain⟨out_1,v18_1,v5_0_1,v5_1_1,v5_2_1,v5_3_1,v5_4_1,v5_5_1,v5_6_1,v5_7_1,v5_8_1,v5_9_1,v5_10_1,v5_11_1⟩:=s0
 unfold jm at h0
 try dsimp only at h0
 obtain⟨_,h0⟩|⟨_,h0⟩:=itP h0
 ·obtain⟨x03,_,_,_,h0⟩:=gtI h0
  obtain⟨r04,g0,h0⟩:=ae h0
  simp(config:=cS)only[go_sem, *]
  have g0:=ctr g0
  refine af g0 ?_
  obtain⟨_,h0⟩|⟨_,h0⟩:=itP h0
  ·exact run
  obtain⟨_,h0⟩:=ckP h0
  obtain⟨a1,h0⟩:=ckP h0
  try simp(config:=cS)only[go_sem]at a1
  exact run
 exact run⟩
@[go_sem] def nk (s:ByteArray):(Int × Int)→St
 | (v3,i)=>⟨[(0,.lit (.string s)),(3,.lit (.int .i64 v3)),(4,.lit (.int .i64 i))],[],2⟩
instance k9 {s:ByteArray}:Ctr (cK s) (fun (res:Int)=>aj prog 9 [.lit (.string s)] [] (.lit (.int .i64 res)) []):=⟨by
 intro res h0
 refine co (hi:=hi00) func9 rfl rfl ?_
 unfold cK at h0
 obtain⟨q02,l0,h0⟩:=ae h0
 simp(config:=cS)only[go_sem, *]
 refine ak (m1:=.mk) (m2:=.mk) [.nf [0,3,4] []] (nk s) l0 ?_ ?_
 ·simp(config:=cS)only[go_sem, *]
 have k0:=h0
 clear h0 l0
 intro _ s0 _ h0 gb0
 obtain⟨v3_1,i_1⟩:=s0
 unfold jz at h0
 try dsimp only at h0
 exact run⟩
theorem qS {code:List Int}{res:Bool}(h0:eg code=some res):aj prog 3 [.sl (ab (eK .u8) code)] [] (.lit (.bool res)) []:=by
 refine co (hi:=hi00) func3 rfl rfl ?_
 unfold eg at h0
 obtain⟨_,h0⟩|⟨_,h0⟩:=itP h0
 ·exact run
 obtain⟨r01,g0,h0⟩:=ae h0
 simp(config:=cS)only[go_sem, *]
 have g0:=ctr g0
 refine af g0 ?_
 obtain⟨r02,g0,h0⟩:=ae h0
 simp(config:=cS)only[go_sem, *]
 have g0:=ctr g0
 refine af g0 ?_
 obtain⟨_,h0⟩:=ckP h0
 obtain⟨a1,h0⟩:=ckP h0
 try simp(config:=cS)only[go_sem]at a1
 obtain⟨r03,g0,h0⟩:=ae h0
 simp(config:=cS)only[go_sem, *]
 have g0:=ctr g0
 refine af g0 ?_
 obtain⟨r04,g0,h0⟩:=ae h0
 simp(config:=cS)only[go_sem, *]
 have g0:=ctr g0
 refine af g0 ?_
 obtain⟨_,h0⟩|⟨_,h0⟩:=itP h0
 ·obtain⟨_,h0⟩|⟨_,h0⟩:=itP h0
  ·obtain⟨x05,g2,h0⟩:=ae h0
   have:=aM (k:=0) g2
   obtain⟨_,h0⟩|⟨_,h0⟩:=itP h0
   ·obtain⟨x06,g3,h0⟩:=ae h0
    have:=aM (k:=1) g3
    obtain⟨_,h0⟩|⟨_,h0⟩:=itP h0
    ·obtain⟨x07,g4,h0⟩:=ae h0
     have:=aM (k:=3) g4
     obtain⟨_,h0⟩|⟨_,h0⟩:=itP h0
     ·obtain⟨x08,g5,h0⟩:=ae h0
      have:=aM (k:=4) g5
      exact run
     exact run
    exact run
   exact run
  exact run
 obtain⟨_,h0⟩|⟨_,h0⟩:=itP h0
 ·obtain⟨x10,g6,h0⟩:=ae h0
  have:=aM (k:=0) g6
  obtain⟨_,h0⟩|⟨_,h0⟩:=itP h0
  ·obtain⟨x11,g7,h0⟩:=ae h0
   have:=aM (k:=1) g7
   obtain⟨_,h0⟩|⟨_,h0⟩:=itP h0
   ·obtain⟨x12,g8,h0⟩:=ae h0
    have:=aM (k:=3) g8
    obtain⟨_,h0⟩|⟨_,h0⟩:=itP h0
    ·obtain⟨x13,g9,h0⟩:=ae h0
     have:=aM (k:=4) g9
     exact run
    exact run
   exact run
  exact run
 exact run
end Go.Proofs.Qq
