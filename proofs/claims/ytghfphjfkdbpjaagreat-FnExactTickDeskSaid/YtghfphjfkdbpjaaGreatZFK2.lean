/- Functions. -/
import Derived.Test.YtghfphjfkdbpjaaGreatZFK1
set_option linter.all false
set_option maxRecDepth 100000
set_option maxHeartbeats 400000
namespace Go.Proofs.YtghfphjfkdbpjaaGreatZ
open Go
def qu (v14:List Int)(v15:Int)(s_0:List GNode)(s_1:List GTie)(s_2:Int)(v4_0:Int)(v4_1:List Int)(v4_2:List Int)(out_0:Int)(h833:List Int):(Int × (List Int) × (List Int))→St
 | (v16,props,h832)=>⟨[(3,.ptr 192 1 0 0),(4,.ptr 256 1 0 0),(6,.ptr 384 1 0 0),(8,.ptr 512 1 0 0),(9,.ref 639 1 0 props.length),(14,.sl (ab eI v14)),(15,.lit (.int .i64 v15)),(16,.lit (.int .i64 v16))],[(192,1,.var [.sl (ab GNode.encS s_0),.sl (ab GTie.enc s_1),.lit (.int .i64 s_2)]),(256,1,.var [.lit (.int .i64 v4_0),.sl (ab eI v4_1),.sl (ab eI v4_2)]),(384,1,.var [.lit (.int .i64 0),.lit (.slice none 0 0),.lit (.slice none 0 0)]),(512,1,.var [.lit (.int .i64 out_0),.ref 832 1 0 h832.length,.ref 833 1 0 h833.length]),(832,1,.row true (ab eI h832)),(833,1,.row true (ab eI h833)),(639,1,.row true (ab eI props))],2⟩
attribute [go_sem] qu
def Lh:Hint where
 acts:=fun _=>[]
 draws:=fun
  | _=>⟨.nil,[],[]⟩
theorem VO (i:Nat):Lh.acts i=[]:=rfl
theorem VP (i:Nat):Lh.views i=none:=rfl
attribute [go_sem] VO VP Tryz.ntmps160 Tryz.results160
theorem kT {s:GShow}{v1:GState}{nodes:List Int}{res:GState × (List Int)}(h:gq s v1 nodes=some res):ao Tryz.prog 160 [.agg (GShow.encS s),.agg (GState.encS v1),.sl (ab eI nodes)] [] (.tup [.agg [.lit (.int .i64 res.1.now),.ref 20000 1 0 res.1.times.length,.ref 20001 1 0 res.1.values.length],.ref 20002 1 0 res.2.length]) [(20000,1,.row true (ab eI res.1.times)),(20001,1,.row true (ab eI res.1.values)),(20002,1,.row true (ab eI res.2))]:=by
 refine aj (ra:=[.homeCell 384 1,.homeCell 384 2,.home 7]) (md:=mdT) hT (hi:=Lh) Tryz.func160 rfl rfl (by decide +kernel) (by simp) ?_
 unfold gq at h
 obtain ⟨r1001,g1,h⟩:=ae h
 simp(config:=cS)only[go_sem]
 refine ag (lI g1) ?_
 obtain ⟨q1006,l2,h⟩:=ae h
 simp(config:=cS)only[go_sem]
 refine an (m1:=.mk) (m2:=.mk) [.home 9,.nf [3,4,6,8,9,14,15,16] [192,256,384,512,832,833,639]] (qu nodes ((nodes.length:Nat):Int) s.nodes s.ties s.horizon v1.now v1.times v1.values r1001.now r1001.values) l2 ?_ ?_
 ·simp(config:=cS)only[go_sem]
 ·intro nb3 sb3 bb3 b3 gb3
  obtain ⟨v16_1,props_1,h832_1⟩:=sb3
  unfold ix at b3
  try dsimp only at b3
  obtain ⟨h4,b3⟩|⟨h4,b3⟩:=af b3
  ·obtain ⟨x1002,g5,b3⟩:=ae b3
   obtain ⟨h6,h7,h8⟩:=ai g5
   obtain ⟨x1003,g9,b3⟩:=ae b3
   obtain ⟨h10,h11,h12⟩:=ai g9
   obtain ⟨x1004,g13,b3⟩:=ae b3
   obtain ⟨h14,h15,h16⟩:=ai g13
   obtain ⟨h17,b3⟩|⟨h17,b3⟩:=af b3
   ·cases b3
    simp(config:=cS)only[go_sem,eqT h4,h6,h7,h8,h10,h11,h12,h14,h15,h16,eqT h17]
    refine ap gb3 ?_
    simp(config:=cS)only[go_sem]
   ·obtain ⟨h18,b3⟩:=ah b3
    obtain ⟨h19,b3⟩:=ah b3
    cases b3
    simp(config:=cS)only[go_sem,eqT h4,h6,h7,h8,h10,h11,h12,h14,h15,h16,eqF h17,eqT h18,eqT h19]
    refine ap gb3 ?_
    simp(config:=cS)only[go_sem]
  ·cases b3
   have e20:=(ak gb3).symm
   subst e20
   try dsimp only at h
   obtain ⟨r1005,g21,h⟩:=ae h
   simp(config:=cS)only[go_sem,eqF h4]
   refine ag (sf g21) ?_
   obtain ⟨h22,h⟩:=ah h
   cases h
   simp(config:=cS)only[go_sem,h22.symm]
def px (values:List Int)(v12:List Int)(v13:Int)(out_0:Int)(h704:List Int):(Int × (List Int))→St
 | (v14,h705)=>⟨[(2,.sl (ab eI values)),(6,.ptr 384 1 0 0),(7,.ptr 448 1 0 0),(12,.sl (ab eI v12)),(13,.lit (.int .i64 v13)),(14,.lit (.int .i64 v14))],[(384,1,.var [.lit (.int .i64 0),.lit (.slice none 0 0),.lit (.slice none 0 0)]),(448,1,.var [.lit (.int .i64 out_0),.ref 704 1 0 h704.length,.ref 705 1 0 h705.length]),(704,1,.row true (ab eI h704)),(705,1,.row true (ab eI h705))],2⟩
attribute [go_sem] px
@[go_sem] def hi161_5:DT:=.i2 0 (.i2 1 (.i2 2 (.i2 3 (.i2 4 (.i2 5 (.i2 6 (.i2 7 (.i2 8 (.i2 9 .nil)))))))))
def Fw:Hint where
 acts:=fun _=>[]
 draws:=fun
  | 5=>⟨hi161_5,[[],[0],[],[2],[],[],[4,5],[4,5,6],.range 8,.range 9],.range 10⟩
  | _=>⟨.nil,[],[]⟩
theorem VQ (i:Nat):Fw.acts i=[]:=rfl
theorem VR (i:Nat):Fw.views i=none:=rfl
attribute [go_sem] VQ VR Tryz.ntmps161 Tryz.results161
@[go_sem] theorem aao:(Fw.draws 5).order=hi161_5:=rfl
theorem jM {v0:GState}{props:List Int}{values:List Int}{res:GState}(h:eZ v0 props values=some res):ao Tryz.prog 161 [.agg (GState.encS v0),.sl (ab eI props),.sl (ab eI values)] [] (.agg [.lit (.int .i64 res.now),.ref 20000 1 0 res.times.length,.ref 20001 1 0 res.values.length]) [(20000,1,.row true (ab eI res.times)),(20001,1,.row true (ab eI res.values))]:=by
 refine aj (ra:=[.homeCell 384 1,.homeCell 384 2]) (md:=mdT) hT (hi:=Fw) Tryz.func161 rfl rfl (by decide +kernel) (by simp) ?_
 unfold eZ at h
 obtain ⟨r1001,g1,h⟩:=ae h
 simp(config:=cS)only[go_sem]
 refine ag (lI g1) ?_
 obtain ⟨q1005,l2,h⟩:=ae h
 simp(config:=cS)only[go_sem]
 refine an (m1:=.mk) (m2:=.mk) [.nf [2,6,7,12,13,14] [384,448,704,705]] (px values props ((props.length:Nat):Int) r1001.now r1001.times) l2 ?_ ?_
 ·simp(config:=cS)only[go_sem]
 ·intro nb3 sb3 bb3 b3 gb3
  obtain ⟨v14_1,h705_1⟩:=sb3
  unfold gQ at b3
  try dsimp only at b3
  obtain ⟨h4,b3⟩|⟨h4,b3⟩:=af b3
  ·obtain ⟨x1002,g5,b3⟩:=ae b3
   obtain ⟨h6,h7,h8⟩:=ai g5
   obtain ⟨x1003,g9,b3⟩:=ae b3
   obtain ⟨h10,h11,h12⟩:=ai g9
   obtain ⟨x1004,g13,b3⟩:=ae b3
   obtain ⟨h14,h15,h16⟩:=ai g13
   cases b3
   simp(config:=cS)only[go_sem,eqT h4,h6,h7,h8,h10,h11,h12,h14,h15,h16]
   refine ap gb3 ?_
   simp(config:=cS)only[go_sem]
  ·cases b3
   have e17:=(ak gb3).symm
   subst e17
   try dsimp only at h
   cases h
   simp(config:=cS)only[go_sem,eqF h4]
def rO (v58:List Int)(v59:Int)(next_0:Int)(h3456:List Int)(h3457:List Int)(props:List Int):(Int × (List Int) × (List Int))→St
 | (v60,seen,values)=>⟨[(6,.ptr 384 1 0 0),(9,.ptr 576 1 0 0),(10,.ref 3458 1 0 props.length),(11,.ref 767 1 0 seen.length),(12,.ref 831 1 0 values.length),(58,.sl (ab eI v58)),(59,.lit (.int .i64 v59)),(60,.lit (.int .i64 v60))],[(384,1,.var [.lit (.int .i64 0),.lit (.slice none 0 0),.lit (.slice none 0 0)]),(576,1,.var [.lit (.int .i64 next_0),.ref 3456 1 0 h3456.length,.ref 3457 1 0 h3457.length]),(3456,1,.row true (ab eI h3456)),(3457,1,.row true (ab eI h3457)),(3458,1,.row true (ab eI props)),(767,1,.row true (ab eI seen)),(831,1,.row true (ab eI values))],2⟩
attribute [go_sem] rO
@[go_sem] def hi147_4:DT:=.i2 0 (.i2 1 (.i1 3 (.i1 4 (.i0 2 [3,4] (.i2 5 (.i2 6 .nil))))))
@[go_sem] def hi147_1:DT:=.i2 0 (.i2 1 (.i2 2 (.i2 3 (.i2 4 (.i2 5 (.i2 6 (.i2 7 (.i1 9 (.i1 10 (.i0 8 [9,10] (.i2 11 (.i2 12 (.i2 13 (.i2 14 (.i2 15 (.i2 16 (.i2 17 (.i2 18 (.i2 19 .nil)))))))))))))))))))
def Bf:Hint where
 acts:=fun _=>[]
 draws:=fun
  | 1=>⟨hi147_1,[[],[0],[],[2],[0,1,2,3],.range 5,.range 6,.range 6,.range 8,.range 6,[0,1,2,3,4,5,9],.range 11,.range 12,.range 13,.range 14,.range 15,.range 16,.range 17,.range 18,.range 19],.range 20⟩
  | 4=>⟨hi147_4,[[],[],[0,1],[],[3],.range 5,.range 6],.range 7⟩
  | _=>⟨.nil,[],[]⟩
theorem VS (i:Nat):Bf.acts i=[]:=rfl
theorem VT (i:Nat):Bf.views i=none:=rfl
attribute [go_sem] VS VT Tryz.ntmps147 Tryz.results147
@[go_sem] theorem aap:(Bf.draws 1).order=hi147_1:=rfl
@[go_sem] theorem aaq:(Bf.draws 4).order=hi147_4:=rfl
theorem Gk {s:GShow}{v1:GState}{e:GEntry}{res:GState × Bool}(h:mV s v1 e=some res):ao Tryz.prog 147 [.agg (GShow.encS s),.agg (GState.encS v1),.agg (GEntry.encS e)] [] (.tup [.agg [.lit (.int .i64 res.1.now),.ref 20000 1 0 res.1.times.length,.ref 20001 1 0 res.1.values.length],.lit (.bool res.2)]) [(20000,1,.row true (ab eI res.1.times)),(20001,1,.row true (ab eI res.1.values))]:=by
 refine aj (ra:=[.homeCell 384 1,.homeCell 384 2]) (md:=mdT) hT (hi:=Bf) Tryz.func147 rfl rfl (by decide +kernel) (by simp) ?_
 unfold mV at h
 obtain ⟨h1,h⟩|⟨h1,h⟩:=af h
 ·obtain ⟨r1001,g2,h⟩:=ae h
  simp(config:=cS)only[go_sem,eqT h1]
  refine ag (nu g2) ?_
  obtain ⟨r1002,g3,h⟩:=ae h
  simp(config:=cS)only[go_sem,eqT h1]
  refine ag (sv g3) ?_
  obtain ⟨h4,h⟩|⟨h4,h⟩:=af h
  ·obtain ⟨r1003,g5,h⟩:=ae h
   simp(config:=cS)only[go_sem,eqT h1,eZt h4]
   refine ag (kP g5) ?_
   obtain ⟨h6,h⟩|⟨h6,h⟩:=af h
   ·obtain ⟨r1004,g7,h⟩:=ae h
    simp(config:=cS)only[go_sem,eqT h1,eZt h4,eZt h6]
    refine ag (qt g7) ?_
    obtain ⟨r1005,g8,h⟩:=ae h
    simp(config:=cS)only[go_sem,eqT h1,eZt h4,eZt h6]
    refine ag (oT g8) ?_
    obtain ⟨r1006,g9,h⟩:=ae h
    simp(config:=cS)only[go_sem,eqT h1,eZt h4,eZt h6]
    refine ag (sv g9) ?_
    obtain ⟨h10,h⟩|⟨h10,h⟩:=af h
    ·obtain ⟨r1007,g11,h⟩:=ae h
     simp(config:=cS)only[go_sem,eqT h1,eZt h4,eZt h6,eZt h10]
     refine ag (kT g11) ?_
     obtain ⟨q1013,l12,h⟩:=ae h
     simp(config:=cS)only[go_sem,eqT h1,eZt h4,eZt h6,eZt h10]
     refine an (m1:=.mk) (m2:=.mk) [.home 11,.home 12,.nf [6,9,10,11,12,58,59,60] [384,576,3456,3457,3458,767,831]] (rO e.values ((e.values.length:Nat):Int) r1007.1.now r1007.1.times r1007.1.values r1007.2) l12 ?_ ?_
     ·simp(config:=cS)only[go_sem,eqT h1,eZt h4,eZt h6,eZt h10]
     ·intro nb13 sb13 bb13 b13 gb13
      obtain ⟨v60_1,seen_1,values_1⟩:=sb13
      unfold jU at b13
      try dsimp only at b13
      obtain ⟨h14,b13⟩|⟨h14,b13⟩:=af b13
      ·obtain ⟨x1008,g15,b13⟩:=ae b13
       obtain ⟨h16,h17,h18⟩:=ai g15
       obtain ⟨r1009,g19,b13⟩:=ae b13
       simp(config:=cS)only[go_sem,eqT h1,eZt h4,eZt h6,eZt h10,eqT h14,h16,h17,h18]
       refine ag (jG g19) ?_
       obtain ⟨h20,b13⟩:=ah b13
       obtain ⟨h21,b13⟩:=ah b13
       obtain ⟨r1010,g22,b13⟩:=ae b13
       simp(config:=cS)only[go_sem,eqT h1,eZt h4,eZt h6,eZt h10,eqT h14,h16,h17,h18,eqT h20,eqT h21]
       refine ag (jG g22) ?_
       obtain ⟨h23,b13⟩:=ah b13
       obtain ⟨h24,b13⟩:=ah b13
       obtain ⟨h25,b13⟩:=ah b13
       cases b13
       simp(config:=cS)only[go_sem,eqT h1,eZt h4,eZt h6,eZt h10,eqT h14,h16,h17,h18,eqT h20,eqT h21,eqF h23,eqT h24,eqT h25]
       refine ap gb13 ?_
       simp(config:=cS)only[go_sem,eqT h1,eZt h4,eZt h6,eZt h10,eqT h14,h16,h17,h18,eqT h20,eqT h21,eqF h23,eqT h24,eqT h25]
      ·cases b13
       have e26:=(ak gb13).symm
       subst e26
       try dsimp only at h
       obtain ⟨r1011,g27,h⟩:=ae h
       simp(config:=cS)only[go_sem,eqT h1,eZt h4,eZt h6,eZt h10,eqF h14]
       refine ag (gN g27) ?_
       obtain ⟨h28,h⟩|⟨h28,h⟩:=af h
       ·obtain ⟨r1012,g29,h⟩:=ae h
        simp(config:=cS)only[go_sem,eqT h1,eZt h4,eZt h6,eZt h10,eqF h14,eZt h28]
        refine ag (jM g29) ?_
        cases h
        simp(config:=cS)only[go_sem,eqT h1,eZt h4,eZt h6,eZt h10,eqF h14,eZt h28]
       ·cases h
        simp(config:=cS)only[go_sem,eqT h1,eZt h4,eZt h6,eZt h10,eqF h14,eZf h28]
    ·cases h
     simp(config:=cS)only[go_sem,eqT h1,eZt h4,eZt h6,eZf h10]
   ·cases h
    simp(config:=cS)only[go_sem,eqT h1,eZt h4,eZf h6]
  ·cases h
   simp(config:=cS)only[go_sem,eqT h1,eZf h4]
 ·cases h
  simp(config:=cS)only[go_sem,eqF h1]
def ou (v17:List GEntry)(v18:Int)(s_0:List GNode)(s_1:List GTie)(s_2:Int):(Int × Int × (List Int) × (List Int))→St
 | (v19,v6_0,h1024,h1025)=>⟨[(2,.ptr 128 1 0 0),(4,.ptr 256 1 0 0),(6,.ptr 384 1 0 0),(17,.sl (ab GEntry.encS v17)),(18,.lit (.int .i64 v18)),(19,.lit (.int .i64 v19))],[(128,1,.var [.sl (ab GNode.encS s_0),.sl (ab GTie.enc s_1),.lit (.int .i64 s_2)]),(256,1,.var [.lit (.int .i64 0),.lit (.slice none 0 0),.lit (.slice none 0 0)]),(384,1,.var [.lit (.int .i64 v6_0),.ref 1024 1 0 h1024.length,.ref 1025 1 0 h1025.length]),(1024,1,.row true (ab eI h1024)),(1025,1,.row true (ab eI h1025))],2⟩
attribute [go_sem] ou
def hi65:Hint where
 acts:=fun _=>[]
 draws:=fun
  | _=>⟨.nil,[],[]⟩
theorem YE (i:Nat):hi65.acts i=[]:=rfl
theorem YF (i:Nat):hi65.views i=none:=rfl
attribute [go_sem] YE YF Tryz.ntmps65 Tryz.results65
theorem za {s:GShow}{log:List GEntry}{res:GState × Bool}(h:jn s log=some res):ao Tryz.prog 65 [.agg (GShow.encS s),.sl (ab GEntry.encS log)] [] (.tup [.agg [.lit (.int .i64 res.1.now),.ref 20000 1 0 res.1.times.length,.ref 20001 1 0 res.1.values.length],.lit (.bool res.2)]) [(20000,1,.row true (ab eI res.1.times)),(20001,1,.row true (ab eI res.1.values))]:=by
 refine aj (ra:=[.homeCell 256 1,.homeCell 256 2]) (md:=mdT) hT (hi:=hi65) Tryz.func65 rfl rfl (by decide +kernel) (by simp) ?_
 unfold jn at h
 obtain ⟨r1001,g1,h⟩:=ae h
 simp(config:=cS)only[go_sem]
 refine ag (sb g1) ?_
 obtain ⟨h2,h⟩|⟨h2,h⟩:=af h
 ·obtain ⟨r1002,g3,h⟩:=ae h
  simp(config:=cS)only[go_sem,eZt h2]
  refine ag (xJ g3) ?_
  obtain ⟨q1005,l4,h⟩:=ae h
  simp(config:=cS)only[go_sem]
  refine an (m1:=.mk) (m2:=.mk) [.nfp [2,4,6,17,18,19] [(128,128),(256,256),(384,384),(1728,1024),(1024,1024),(1729,1025),(1025,1025)] []] (ou log ((log.length:Nat):Int) s.nodes s.ties s.horizon) l4 ?_ ?_
  ·simp(config:=cS)only[go_sem]
  ·intro nb5 sb5 bb5 b5 gb5
   obtain ⟨v19_1,v6_0_1,h1024_1,h1025_1⟩:=sb5
   unfold fP at b5
   try dsimp only at b5
   obtain ⟨h6,b5⟩|⟨h6,b5⟩:=af b5
   ·obtain ⟨x1003,g7,b5⟩:=ae b5
    obtain ⟨h8,h9,h10⟩:=ai g7
    obtain ⟨r1004,g11,b5⟩:=ae b5
    simp(config:=cS)only[go_sem,eqT h6,h8,h9,h10]
    refine ag (Gk g11) ?_
    obtain ⟨h12,b5⟩|⟨h12,b5⟩:=af b5
    ·cases b5
     simp(config:=cS)only[go_sem,eZt h12]
     refine ap gb5 ?_
     simp(config:=cS)only[go_sem]
    ·cases b5
     have e13:=(ak gb5).symm
     subst e13
     try dsimp only at h
     cases h
     simp(config:=cS)only[go_sem,eZf h12]
   ·cases b5
    have e14:=(ak gb5).symm
    subst e14
    try dsimp only at h
    cases h
    simp(config:=cS)only[go_sem,eqF h6]
 ·cases h
  simp(config:=cS)only[go_sem,eZf h2]
def hi66:Hint where
 acts:=fun _=>[]
 draws:=fun
  | _=>⟨.nil,[],[]⟩
theorem YG (i:Nat):hi66.acts i=[]:=rfl
theorem YH (i:Nat):hi66.views i=none:=rfl
attribute [go_sem] YG YH Tryz.ntmps66 Tryz.results66
theorem xO {a:GState}{b:GState}{res:Bool}(h:iy a b=some res):ao Tryz.prog 66 [.agg (GState.encS a),.agg (GState.encS b)] [] (.lit (.bool res)) []:=by
 refine aj (ra:=[]) (md:=mdT) hT (hi:=hi66) Tryz.func66 rfl rfl (by decide +kernel) (by simp) ?_
 unfold iy at h
 obtain ⟨h1,h⟩|⟨h1,h⟩:=af h
 ·obtain ⟨r1001,g2,h⟩:=ae h
  simp(config:=cS)only[go_sem,eqT h1]
  refine ag (gN g2) ?_
  obtain ⟨h3,h⟩|⟨h3,h⟩:=af h
  ·obtain ⟨r1002,g4,h⟩:=ae h
   simp(config:=cS)only[go_sem,eqT h1,eZt h3]
   refine ag (gN g4) ?_
   cases h
   simp(config:=cS)only[go_sem,eqT h1,eZt h3]
  ·cases h
   simp(config:=cS)only[go_sem,eqT h1,eZf h3]
 ·cases h
  simp(config:=cS)only[go_sem,eqF h1]
def hi16:Hint where
 acts:=fun _=>[]
 draws:=fun
  | _=>⟨.nil,[],[]⟩
theorem YI (i:Nat):hi16.acts i=[]:=rfl
theorem YJ (i:Nat):hi16.views i=none:=rfl
attribute [go_sem] YI YJ Tryz.ntmps16 Tryz.results16
theorem Et {d:GDesk}{res:Bool}(h:lZ d=some res):ao Tryz.prog 16 [.agg (GDesk.encS d)] [] (.lit (.bool res)) []:=by
 refine aj (ra:=[]) (md:=mdT) hT (hi:=hi16) Tryz.func16 rfl rfl (by decide +kernel) (by simp) ?_
 unfold lZ at h
 obtain ⟨r1001,g1,h⟩:=ae h
 simp(config:=cS)only[go_sem]
 refine ag (CE g1) ?_
 obtain ⟨h2,h⟩|⟨h2,h⟩:=af h
 ·obtain ⟨h3,h⟩|⟨h3,h⟩:=af h
  ·obtain ⟨r1002,g4,h⟩:=ae h
   simp(config:=cS)only[go_sem,eZt h2,eqT h3]
   refine ag (za g4) ?_
   obtain ⟨h5,h⟩|⟨h5,h⟩:=af h
   ·obtain ⟨r1003,g6,h⟩:=ae h
    simp(config:=cS)only[go_sem,eZt h2,eqT h3,eZt h5]
    refine ag (xO g6) ?_
    cases h
    simp(config:=cS)only[go_sem,eZt h2,eqT h3,eZt h5]
   ·cases h
    simp(config:=cS)only[go_sem,eZt h2,eqT h3,eZf h5]
  ·cases h
   simp(config:=cS)only[go_sem,eZt h2,eqF h3]
 ·cases h
  simp(config:=cS)only[go_sem,eZf h2]
def Li:Hint where
 acts:=fun _=>[]
 draws:=fun
  | _=>⟨.nil,[],[]⟩
theorem VU (i:Nat):Li.acts i=[]:=rfl
theorem VV (i:Nat):Li.views i=none:=rfl
attribute [go_sem] VU VV Tryz.ntmps159 Tryz.results159
theorem vM {v:Int}{res:Bool}(h:fQ v=some res):ao Tryz.prog 159 [.lit (.int .i64 v)] [] (.lit (.bool res)) []:=by
 refine aj (ra:=[]) (md:=mdT) hT (hi:=Li) Tryz.func159 rfl rfl (by decide +kernel) (by simp) ?_
 unfold fQ at h
 obtain ⟨h1,h⟩|⟨h1,h⟩:=af h
 ·cases h
  simp(config:=cS)only[go_sem,eqT h1]
 ·cases h
  simp(config:=cS)only[go_sem,eqF h1]
@[go_sem] def hi157_1:DT:=.i2 0 (.i2 1 (.i2 2 (.i2 3 (.i2 4 (.i2 5 (.i2 6 (.i2 7 (.i2 8 (.i2 9 (.i2 10 (.i2 11 (.i2 12 (.i2 13 .nil)))))))))))))
def Fx:Hint where
 acts:=fun _=>[]
 draws:=fun
  | 1=>⟨hi157_1,[[],[0],[],[2],[0,1,2,3],.range 5,[],[6],[],[8],[6,7,8,9],[6,7,8,9,10],.range 6,.range 13],[0,1,2,3,4,5,7,8,9,10,11,12,6,13]⟩
  | _=>⟨.nil,[],[]⟩
theorem VW (i:Nat):Fx.acts i=[]:=rfl
theorem VX (i:Nat):Fx.views i=none:=rfl
attribute [go_sem] VW VX Tryz.ntmps157 Tryz.results157
@[go_sem] theorem aar:(Fx.draws 1).order=hi157_1:=rfl
theorem wx {s:GShow}{v1:GState}{t:GTie}{res:Bool}(h:gR s v1 t=some res):ao Tryz.prog 157 [.agg (GShow.encS s),.agg (GState.encS v1),.agg (GTie.enc t)] [] (.lit (.bool res)) []:=by
 refine aj (ra:=[]) (md:=mdT) hT (hi:=Fx) Tryz.func157 rfl rfl (by decide +kernel) (by simp) ?_
 unfold gR at h
 obtain ⟨x1001,g1,h⟩:=ae h
 obtain ⟨h2,h3,h4⟩:=ai g1
 obtain ⟨x1002,g5,h⟩:=ae h
 obtain ⟨h6,h7,h8⟩:=ai g5
 obtain ⟨h9,h⟩|⟨h9,h⟩:=af h
 ·obtain ⟨h10,h⟩|⟨h10,h⟩:=af h
  ·cases h
   simp(config:=cS)only[go_sem,h2,h3,h4,h6,h7,h8,eqT h9,eZt h10]
  ·obtain ⟨h11,h⟩|⟨h11,h⟩:=af h
   ·cases h
    simp(config:=cS)only[go_sem,h2,h3,h4,h6,h7,h8,eqT h9,eZf h10,eqT h11]
   ·obtain ⟨r1003,g12,h⟩:=ae h
    simp(config:=cS)only[go_sem,h2,h3,h4,h6,h7,h8,eqT h9,eZf h10,eqF h11]
    refine ag (lJ g12) ?_
    obtain ⟨h13,h⟩|⟨h13,h⟩:=af h
    ·cases h
     simp(config:=cS)only[go_sem,eqT h13]
    ·cases h
     simp(config:=cS)only[go_sem,eqF h13]
 ·obtain ⟨h14,h⟩|⟨h14,h⟩:=af h
  ·obtain ⟨h15,h⟩|⟨h15,h⟩:=af h
   ·cases h
    simp(config:=cS)only[go_sem,h2,h3,h4,h6,h7,h8,eqF h9,eqT h14,eZt h15]
   ·obtain ⟨r1004,g16,h⟩:=ae h
    simp(config:=cS)only[go_sem,h2,h3,h4,h6,h7,h8,eqF h9,eqT h14,eZf h15]
    refine ag (lJ g16) ?_
    obtain ⟨h17,h⟩|⟨h17,h⟩:=af h
    ·cases h
     simp(config:=cS)only[go_sem,eqT h17]
    ·cases h
     simp(config:=cS)only[go_sem,eqF h17]
  ·obtain ⟨h18,h⟩|⟨h18,h⟩:=af h
   ·cases h
    simp(config:=cS)only[go_sem,h2,h3,h4,h6,h7,h8,eqF h9,eqF h14,eqT h18]
   ·cases h
    simp(config:=cS)only[go_sem,h2,h3,h4,h6,h7,h8,eqF h9,eqF h14,eqF h18]
def Lj:Hint where
 acts:=fun _=>[]
 draws:=fun
  | _=>⟨.nil,[],[]⟩
theorem VY (i:Nat):Lj.acts i=[]:=rfl
theorem VZ (i:Nat):Lj.views i=none:=rfl
attribute [go_sem] VY VZ Tryz.ntmps156 Tryz.results156
theorem wy {t:GTie}{s:GShow}{v2:GState}{res:Bool}(h:jV t s v2=some res):ao Tryz.prog 156 [.agg (GTie.enc t),.loc [.sl (ab GNode.encS s.nodes),.sl (ab GTie.enc s.ties),.lit (.int .i64 s.horizon)],.loc [.lit (.int .i64 v2.now),.sl (ab eI v2.times),.sl (ab eI v2.values)]] [] (.lit (.bool res)) []:=by
 refine aj (ra:=[]) (md:=mdT) hT (hi:=Lj) Tryz.func156 rfl rfl (by decide +kernel) (by simp) ?_
 unfold jV at h
 obtain ⟨r1001,g1,h⟩:=ae h
 simp(config:=cS)only[go_sem]
 refine ag (wx g1) ?_
 cases h
 simp(config:=cS)only[go_sem]
def qv (v8:List Int)(v9:Int)(s_0:List GNode)(s_1:List GTie)(s_2:Int)(v3_0:Int)(v3_2:List Int)(v10:Int):St:=⟨[(2,.ptr 128 1 0 0),(3,.ptr 192 1 0 0),(8,.sl (ab eI v8)),(9,.lit (.int .i64 v9)),(10,.lit (.int .i64 v10))],[(128,1,.var [.sl (ab GNode.encS s_0),.sl (ab GTie.enc s_1),.lit (.int .i64 s_2)]),(192,1,.var [.lit (.int .i64 v3_0),.sl (ab eI v8),.sl (ab eI v3_2)])],2⟩
attribute [go_sem] qv
def hi70:Hint where
 acts:=fun _=>[]
 draws:=fun
  | _=>⟨.nil,[],[]⟩
theorem YK (i:Nat):hi70.acts i=[]:=rfl
theorem YL (i:Nat):hi70.views i=none:=rfl
attribute [go_sem] YK YL Tryz.ntmps70 Tryz.results70
theorem nw {s:GShow}{v1:GState}{res:Bool}(h:gr s v1=some res):ao Tryz.prog 70 [.agg (GShow.encS s),.agg (GState.encS v1)] [] (.lit (.bool res)) []:=by
 refine aj (ra:=[]) (md:=mdT) hT (hi:=hi70) Tryz.func70 rfl rfl (by decide +kernel) (by simp) ?_
 unfold gr at h
 obtain ⟨q1003,l1,h⟩:=ae h
 simp(config:=cS)only[go_sem]
 refine an (m1:=.mk) (m2:=.mk) [.nf [2,3,8,9,10] [128,192]] (qv v1.times ((v1.times.length:Nat):Int) s.nodes s.ties s.horizon v1.now v1.values) l1 ?_ ?_
 ·simp(config:=cS)only[go_sem]
 ·intro nb2 sb2 bb2 b2 gb2
  obtain ⟨v10_1,eb2⟩:∃ v,v=sb2:=⟨_,rfl⟩;subst eb2
  unfold fy at b2
  try dsimp only at b2
  obtain ⟨h3,b2⟩|⟨h3,b2⟩:=af b2
  ·obtain ⟨x1001,g4,b2⟩:=ae b2
   obtain ⟨h5,h6,h7⟩:=ai g4
   obtain ⟨h8,b2⟩|⟨h8,b2⟩:=af b2
   ·obtain ⟨r1002,g9,b2⟩:=ae b2
    simp(config:=cS)only[go_sem,eqT h3,h5,h6,h7,eqT h8]
    refine ag (lJ g9) ?_
    obtain ⟨h10,b2⟩|⟨h10,b2⟩:=af b2
    ·cases b2
     simp(config:=cS)only[go_sem,eqT h10]
     refine ap gb2 ?_
     simp(config:=cS)only[go_sem]
    ·cases b2
     have e11:=(ak gb2).symm
     subst e11
     try dsimp only at h
     cases h
     simp(config:=cS)only[go_sem,eqF h10]
   ·cases b2
    simp(config:=cS)only[go_sem,eqT h3,h5,h6,h7,eqF h8]
    refine ap gb2 ?_
    simp(config:=cS)only[go_sem]
  ·cases b2
   have e12:=(ak gb2).symm
   subst e12
   try dsimp only at h
   cases h
   simp(config:=cS)only[go_sem,eqF h3]
def hi69:Hint where
 acts:=fun _=>[]
 draws:=fun
  | _=>⟨.nil,[],[]⟩
theorem YM (i:Nat):hi69.acts i=[]:=rfl
theorem YN (i:Nat):hi69.views i=none:=rfl
attribute [go_sem] YM YN Tryz.ntmps69 Tryz.results69
theorem qw {s:GShow}{v1:GState}{res:Bool}(h:ie s v1=some res):ao Tryz.prog 69 [.agg (GShow.encS s),.agg (GState.encS v1)] [] (.lit (.bool res)) []:=by
 refine aj (ra:=[]) (md:=mdT) hT (hi:=hi69) Tryz.func69 rfl rfl (by decide +kernel) (by simp) ?_
 unfold ie at h
 obtain ⟨r1001,g1,h⟩:=ae h
 simp(config:=cS)only[go_sem]
 refine ag (mB (by exact fun _ _ hr=>wy hr) (by refine ⟨fun _=>?_,fun _=>?_⟩ <;> simp only [go_sem]) (fun _=>rfl) rfl g1) ?_
 obtain ⟨h2,h⟩|⟨h2,h⟩:=af h
 ·cases h
  simp(config:=cS)only[go_sem,eZt h2]
 ·obtain ⟨h3,h⟩|⟨h3,h⟩:=af h
  ·obtain ⟨r1002,g4,h⟩:=ae h
   simp(config:=cS)only[go_sem,eZf h2,eqT h3]
   refine ag (nw g4) ?_
   cases h
   simp(config:=cS)only[go_sem]
  ·cases h
   simp(config:=cS)only[go_sem,eZf h2,eqF h3]
def hi80:Hint where
 acts:=fun _=>[]
 draws:=fun
  | _=>⟨.nil,[],[]⟩
theorem YO (i:Nat):hi80.acts i=[]:=rfl
theorem YP (i:Nat):hi80.views i=none:=rfl
attribute [go_sem] YO YP Tryz.ntmps80 Tryz.results80
theorem uB {s:GShow}{res:GShow × (List (ByteArray × Bool))}(h:ny s=some res):ao Tryz.prog 80 [.agg (GShow.encS s)] [] (.ptr 20000 1 0 0) [(20000,1,.var [.sl (ab GNode.encS res.1.nodes),.sl (ab GTie.enc res.1.ties),.lit (.int .i64 res.1.horizon),.mp 20001 1]),(20001,1,.map (eM res.2))]:=by
 refine aj (ra:=[]) (md:=mdT) hT (hi:=hi80) Tryz.func80 rfl rfl (by decide +kernel) (by simp) ?_
 unfold ny at h
 cases h
 simp(config:=cS)only[go_sem]
def sU (v13:List Int)(v14:Int)(v1_0:Int)(v1_2:List Int):(Int × (List Int))→St
 | (v15,out)=>⟨[(1,.ptr 64 1 0 0),(3,.ref 704 1 0 out.length),(13,.sl (ab eI v13)),(14,.lit (.int .i64 v14)),(15,.lit (.int .i64 v15))],[(64,1,.var [.lit (.int .i64 v1_0),.sl (ab eI v13),.sl (ab eI v1_2)]),(704,1,.row true (ab (eK .u8) out))],2⟩
attribute [go_sem] sU
def sV (v27:List Int)(v28:Int):(Int × (List Int))→St
 | (v29,out)=>⟨[(3,.ref 704 1 0 out.length),(27,.sl (ab eI v27)),(28,.lit (.int .i64 v28)),(29,.lit (.int .i64 v29))],[(704,1,.row true (ab (eK .u8) out))],2⟩
attribute [go_sem] sV
def Lk:Hint where
 acts:=fun _=>[]
 draws:=fun
  | _=>⟨.nil,[],[]⟩
theorem Wa (i:Nat):Lk.acts i=[]:=rfl
theorem Wb (i:Nat):Lk.views i=none:=rfl
attribute [go_sem] Wa Wb Tryz.ntmps171 Tryz.results171
theorem Ll {v0:GState}{res:ByteArray}(h:qz v0=some res):ao Tryz.prog 171 [.agg (GState.encS v0)] [] (.lit (.string res)) []:=by
 refine aj (ra:=[]) (md:=mdT) hT (hi:=Lk) Tryz.func171 rfl rfl (by decide +kernel) (by simp) ?_
 unfold qz at h
 obtain ⟨q1004,l1,h⟩:=ae h
 simp(config:=cS)only[go_sem]
 refine an (m1:=.mk) (m2:=.mk) [.nf [1,3,13,14,15] [64,704]] (sU v0.times ((v0.times.length:Nat):Int) v0.now v0.values) l1 ?_ ?_
 ·simp(config:=cS)only[go_sem]
 ·intro nb2 sb2 bb2 b2 gb2
  obtain ⟨v15_1,out_1⟩:=sb2
  unfold ma at b2
  try dsimp only at b2
  obtain ⟨h3,b2⟩|⟨h3,b2⟩:=af b2
  ·obtain ⟨x1001,g4,b2⟩:=ae b2
   obtain ⟨h5,h6,h7⟩:=ai g4
   obtain ⟨h8,b2⟩:=ah b2
   obtain ⟨h9,b2⟩:=ah b2
   cases b2
   simp(config:=cS)only[go_sem,eqT h3,h5,h6,h7,eqT h8,eqT h9]
   refine ap gb2 ?_
   simp(config:=cS)only[go_sem]
  ·cases b2
   have e10:=(ak gb2).symm
   subst e10
   try dsimp only at h
   obtain ⟨q1003,l11,h⟩:=ae h
   simp(config:=cS)only[go_sem,eqF h3]
   refine an (m1:=.mk) (m2:=.mk) [.nf [3,27,28,29] [704]] (sV v0.values ((v0.values.length:Nat):Int)) l11 ?_ ?_
   ·simp(config:=cS)only[go_sem]
   ·intro nb12 sb12 bb12 b12 gb12
    obtain ⟨v29_2,out_2⟩:=sb12
    unfold mb at b12
    try dsimp only at b12
    obtain ⟨h13,b12⟩|⟨h13,b12⟩:=af b12
    ·obtain ⟨x1002,g14,b12⟩:=ae b12
     obtain ⟨h15,h16,h17⟩:=ai g14
     obtain ⟨h18,b12⟩:=ah b12
     obtain ⟨h19,b12⟩:=ah b12
     cases b12
     simp(config:=cS)only[go_sem,eqT h13,h15,h16,h17,eqT h18,eqT h19]
     refine ap gb12 ?_
     simp(config:=cS)only[go_sem]
    ·cases b12
     have e20:=(ak gb12).symm
     subst e20
     try dsimp only at h
     cases h
     simp(config:=cS)only[go_sem,eqF h13]
def lC (props:List Int)(v10:Int)(v11:Int):St:=⟨[(0,.sl (ab eI props)),(9,.sl (ab eI props)),(10,.lit (.int .i64 v10)),(11,.lit (.int .i64 v11))],[],2⟩
attribute [go_sem] lC
def lD (props:List Int)(n:Int)(v44:Int)(out:List (List Int)):(Int × (List Int))→St
 | (v45,values)=>⟨[(0,.sl (ab eI props)),(5,.ref 383 1 0 out.length),(6,.lit (.int .i64 n)),(7,.ref 511 1 0 values.length),(44,.lit (.int .i64 v44)),(45,.lit (.int .i64 v45))],[(383,1,.row true (ab (eLO eI) out)),(511,1,.row true (ab eI values))],2⟩
attribute [go_sem] lD
def lE (props:List Int):(Int × (List (List Int)))→St
 | (n,out)=>⟨[(0,.sl (ab eI props)),(5,.ref 383 1 0 out.length),(6,.lit (.int .i64 n))],[(383,1,.row true (ab (eLO eI) out))],2⟩
attribute [go_sem] lE
def Lm:Hint where
 acts:=fun _=>[]
 draws:=fun
  | _=>⟨.nil,[],[]⟩
theorem Wc (i:Nat):Lm.acts i=[]:=rfl
theorem Wd (i:Nat):Lm.views i=none:=rfl
attribute [go_sem] Wc Wd Tryz.ntmps166 Tryz.results166
theorem pz {props:List Int}{res:List (List Int)}(h:eu props=some res):ao Tryz.prog 166 [.sl (ab eI props)] [] (.ref 20000 1 0 res.length) [(20000,1,.row true (ab (eLO eI) res))]:=by
 refine aj (ra:=[.home 2]) (md:=mdT) hT (hi:=Lm) Tryz.func166 rfl rfl (by decide +kernel) (by simp) ?_
 unfold eu at h
 obtain ⟨q1005,l1,h⟩:=ae h
 simp(config:=cS)only[go_sem]
 refine an (m1:=.mk) (m2:=.mk) [.nf [0,9,10,11] []] (lC props ((props.length:Nat):Int)) l1 ?_ ?_
 ·simp(config:=cS)only[go_sem]
 ·intro nb2 sb2 bb2 b2 gb2
  obtain ⟨v11_1,eb2⟩:∃ v,v=sb2:=⟨_,rfl⟩;subst eb2
  unfold cY at b2
  try dsimp only at b2
  obtain ⟨h3,b2⟩|⟨h3,b2⟩:=af b2
  ·obtain ⟨x1001,g4,b2⟩:=ae b2
   obtain ⟨h5,h6,h7⟩:=ai g4
   obtain ⟨h8,b2⟩|⟨h8,b2⟩:=af b2
   ·cases b2
    have e9:=(ak gb2).symm
    subst e9
    try dsimp only at h
    cases h
    simp(config:=cS)only[go_sem,eqT h3,h5,h6,h7,eqT h8]
   ·obtain ⟨h10,b2⟩|⟨h10,b2⟩:=af b2
    ·cases b2
     have e11:=(ak gb2).symm
     subst e11
     try dsimp only at h
     cases h
     simp(config:=cS)only[go_sem,eqT h3,h5,h6,h7,eqF h8,eqT h10]
    ·obtain ⟨h12,b2⟩|⟨h12,b2⟩:=af b2
     ·obtain ⟨x1002,g13,b2⟩:=ae b2
      obtain ⟨h14,h15,h16⟩:=ai g13
      obtain ⟨h17,b2⟩|⟨h17,b2⟩:=af b2
      ·cases b2
       have e18:=(ak gb2).symm
       subst e18
       try dsimp only at h
       cases h
       simp(config:=cS)only[go_sem,eqT h3,h5,h6,h7,eqF h8,eqF h10,eqT h12,h14,h15,h16,eqT h17]
      ·cases b2
       simp(config:=cS)only[go_sem,eqT h3,h5,h6,h7,eqF h8,eqF h10,eqT h12,h14,h15,h16,eqF h17]
       refine ap gb2 ?_
       simp(config:=cS)only[go_sem]
     ·cases b2
      simp(config:=cS)only[go_sem,eqT h3,h5,h6,h7,eqF h8,eqF h10,eqF h12]
      refine ap gb2 ?_
      simp(config:=cS)only[go_sem]
  ·cases b2
   have e19:=(ak gb2).symm
   subst e19
   try dsimp only at h
   obtain ⟨q1004,l20,h⟩:=ae h
   simp(config:=cS)only[go_sem,eqF h3]
   refine an (m1:=.mk) (m2:=.mk) [.home 5,.nf [0,5,6] [383]] (lE props) l20 ?_ ?_
   ·simp(config:=cS)only[go_sem]
   ·intro nb21 sb21 bb21 b21 gb21
    obtain ⟨n_2,out_2⟩:=sb21
    unfold da at b21
    try dsimp only at b21
    obtain ⟨h22,b21⟩:=ah b21
    obtain ⟨h23,b21⟩|⟨h23,b21⟩:=af b21
    ·obtain ⟨q1003,l24,b21⟩:=ae b21
     simp(config:=cS)only[go_sem,eqF h22,eqT h23]
     refine an (m1:=.mk) (m2:=.mk) [.home 7,.nf [0,5,6,7,44,45] [383,511]] (lD props n_2 ((props.length:Nat):Int) out_2) l24 ?_ ?_
     ·simp(config:=cS)only[go_sem]
     ·intro nb25 sb25 bb25 b25 gb25
      obtain ⟨v45_3,values_3⟩:=sb25
      unfold cZ at b25
      try dsimp only at b25
      obtain ⟨h26,b25⟩|⟨h26,b25⟩:=af b25
      ·obtain ⟨h27,b25⟩:=ah b25
       obtain ⟨h28,b25⟩:=ah b25
       obtain ⟨h29,b25⟩:=ah b25
       cases b25
       simp(config:=cS)only[go_sem,eqT h26,eqF h27,eqT h28,eqT h29]
       refine ap gb25 ?_
       simp(config:=cS)only[go_sem]
      ·cases b25
       have e30:=(ak gb25).symm
       subst e30
       try dsimp only at b21
       obtain ⟨h31,b21⟩:=ah b21
       obtain ⟨h32,b21⟩:=ah b21
       cases b21
       simp(config:=cS)only[go_sem,eqF h26,eqT h31,eqT h32]
       refine ap gb21 ?_
       simp(config:=cS)only[go_sem]
    ·cases b21
     have e33:=(ak gb21).symm
     subst e33
     try dsimp only at h
     cases h
     simp(config:=cS)only[go_sem,eqF h22,eqF h23]
def jg (v23:Int)(next_0:Int)(h1152:List Int)(h1153:List Int)(props:List Int)(v22:List (List Int))(g_0:List GNode)(g_1:List GTie)(g_2:Int):(Int × (List (ByteArray × Bool)))→St
 | (v24,h10001)=>⟨[(0,.ptr 10000 0 0 0),(7,.ptr 448 1 0 0),(8,.ref 1154 1 0 props.length),(22,.ref 1408 1 0 v22.length),(23,.lit (.int .i64 v23)),(24,.lit (.int .i64 v24))],[(10000,0,.var [.sl (ab GNode.encS g_0),.sl (ab GTie.enc g_1),.lit (.int .i64 g_2),.mp 10001 0]),(10001,0,.map (eM h10001)),(448,1,.var [.lit (.int .i64 next_0),.ref 1152 1 0 h1152.length,.ref 1153 1 0 h1153.length]),(1152,1,.row true (ab eI h1152)),(1153,1,.row true (ab eI h1153)),(1154,1,.row true (ab eI props)),(1408,1,.tree (ab (eLS eI) v22))],2⟩
attribute [go_sem] jg
@[go_sem] def hi75_1:DT:=.i2 0 (.i1 1 (.i1 2 (.i1 3 (.i1 4 (.i2 5 (.fork (.i2 6 (.i2 7 (.i2 8 (.i2 9 (.i0 10 [1,2,3,4] (.i2 11 (.i2 12 .nil))))))) (.i0 10 [1,2,3,4] (.i2 6 (.i2 7 (.i2 8 (.i2 9 (.i2 11 (.i2 12 .nil)))))))))))))
def hi75:Hint where
 acts:=fun _=>[]
 draws:=fun
  | 1=>⟨hi75_1,[[],[0],[0,1],[0,1,2],[],[],.range 6,.range 7,.range 8,.range 8,[],[0,1,2,3,4,5,6,7,8,10],.range 12],[0,1,2,3,4,5,6,7,8,11,9,10,12]⟩
  | _=>⟨.nil,[],[]⟩
@[go_sem] theorem abu (i:Nat):hi75.acts i=[]:=rfl
theorem YQ (i:Nat):hi75.views i=none:=rfl
attribute [go_sem] YQ Tryz.ntmps75 Tryz.results75
@[go_sem] theorem aaZ:(hi75.draws 1).order=hi75_1:=rfl
theorem qx {rec:GShow→(List (ByteArray × Bool))→GState→Option (Bool × (List (ByteArray × Bool)))}(hrec:∀ {g_s:GShow} {g_known:List (ByteArray × Bool)} {v1:GState} {res:Bool × (List (ByteArray × Bool))},rec g_s g_known v1=some res→ao Tryz.prog 84 [.ptr 10000 0 0 0,.agg (GState.encS v1)] [(10000,0,.var [.sl (ab GNode.encS g_s.nodes),.sl (ab GTie.enc g_s.ties),.lit (.int .i64 g_s.horizon),.mp 10001 0]),(10001,0,.map (eM g_known))] (.lit (.bool res.1)) [(10000,0,.var [.sl (ab GNode.encS g_s.nodes),.sl (ab GTie.enc g_s.ties),.lit (.int .i64 g_s.horizon),.mp 10001 0]),(10001,0,.map (eM res.2))]){g_s:GShow}{g_known:List (ByteArray × Bool)}{v1:GState}{nodes:List Int}{res:Bool × (List (ByteArray × Bool))}(h:dt rec g_s g_known v1 nodes=some res):ao Tryz.prog 75 [.ptr 10000 0 0 0,.agg (GState.encS v1),.sl (ab eI nodes)] [(10000,0,.var [.sl (ab GNode.encS g_s.nodes),.sl (ab GTie.enc g_s.ties),.lit (.int .i64 g_s.horizon),.mp 10001 0]),(10001,0,.map (eM g_known))] (.lit (.bool res.1)) [(10000,0,.var [.sl (ab GNode.encS g_s.nodes),.sl (ab GTie.enc g_s.ties),.lit (.int .i64 g_s.horizon),.mp 10001 0]),(10001,0,.map (eM res.2))]:=by
 refine aj (ra:=[]) (md:=mdT) hT (hi:=hi75) Tryz.func75 rfl rfl (by decide +kernel) (by simp) ?_
 unfold dt at h
 try simp(config:=cS)only[go_sem]
 refine bn ?_ ?_
 ·obtain ⟨r1001,g1,h⟩:=ae h
  simp(config:=cS)only[go_sem]
  refine ag (kT g1) ?_
  obtain ⟨r1002,g2,h⟩:=ae h
  simp(config:=cS)only[go_sem]
  refine ag (pz g2) ?_
  obtain ⟨q1006,l3,h⟩:=ae h
  simp(config:=cS)only[go_sem]
  refine an (m1:=.mk) (m2:=.mk) [.freeze [1408],.nf [0,7,8,22,23,24] [10000,10001,448,1152,1153,1154,1408]] (jg ((r1002.length:Nat):Int) r1001.1.now r1001.1.times r1001.1.values r1001.2 r1002 g_s.nodes g_s.ties g_s.horizon) l3 ?_ ?_
  ·simp(config:=cS)only[go_sem]
  ·intro nb4 sb4 bb4 b4 gb4
   obtain ⟨v24_1,h10001_1⟩:=sb4
   unfold cU at b4
   try dsimp only at b4
   obtain ⟨h5,b4⟩|⟨h5,b4⟩:=af b4
   ·obtain ⟨x1003,g6,b4⟩:=ae b4
    obtain ⟨h7,h8,h9⟩:=ai g6
    obtain ⟨r1004,g10,b4⟩:=ae b4
    simp(config:=cS)only[go_sem,eqT h5,h7,h8,h9]
    refine ag (jM g10) ?_
    obtain ⟨r1005,g11,b4⟩:=ae b4
    simp(config:=cS)only[go_sem]
    refine ag (hrec g11) ?_
    obtain ⟨h12,b4⟩|⟨h12,b4⟩:=af b4
    ·cases b4
     simp(config:=cS)only[go_sem,eZt h12]
     refine ap gb4 ?_
     simp(config:=cS)only[go_sem]
    ·cases b4
     have e13:=(ak gb4).symm
     subst e13
     try dsimp only at h
     cases h
     simp(config:=cS)only[go_sem,eZf h12]
   ·cases b4
    have e14:=(ak gb4).symm
    subst e14
    try dsimp only at h
    cases h
    simp(config:=cS)only[go_sem,eqF h5]
 ·obtain ⟨r1007,g15,h⟩:=ae h
  simp(config:=cS)only[go_sem]
  refine ag (kT g15) ?_
  obtain ⟨r1008,g16,h⟩:=ae h
  simp(config:=cS)only[go_sem]
  refine ag (pz g16) ?_
  obtain ⟨q1012,l17,h⟩:=ae h
  simp(config:=cS)only[go_sem]
  refine an (m1:=.mk) (m2:=.mk) [.freeze [1408],.nf [0,7,8,22,23,24] [10000,10001,448,1152,1153,1154,1408]] (jg ((r1008.length:Nat):Int) r1007.1.now r1007.1.times r1007.1.values r1007.2 r1008 g_s.nodes g_s.ties g_s.horizon) l17 ?_ ?_
  ·simp(config:=cS)only[go_sem]
  ·intro nb18 sb18 bb18 b18 gb18
   obtain ⟨v24_2,h10001_2⟩:=sb18
   unfold cU at b18
   try dsimp only at b18
   obtain ⟨h19,b18⟩|⟨h19,b18⟩:=af b18
   ·obtain ⟨x1009,g20,b18⟩:=ae b18
    obtain ⟨h21,h22,h23⟩:=ai g20
    obtain ⟨r1010,g24,b18⟩:=ae b18
    simp(config:=cS)only[go_sem,eqT h19,h21,h22,h23]
    refine ag (jM g24) ?_
    obtain ⟨r1011,g25,b18⟩:=ae b18
    simp(config:=cS)only[go_sem]
    refine ag (hrec g25) ?_
    obtain ⟨h26,b18⟩|⟨h26,b18⟩:=af b18
    ·cases b18
     simp(config:=cS)only[go_sem,eZt h26]
     refine ap gb18 ?_
     simp(config:=cS)only[go_sem]
    ·cases b18
     have e27:=(ak gb18).symm
     subst e27
     try dsimp only at h
     cases h
     simp(config:=cS)only[go_sem,eZf h26]
   ·cases b18
    have e28:=(ak gb18).symm
    subst e28
    try dsimp only at h
    cases h
    simp(config:=cS)only[go_sem,eqF h19]
def nM (v14:Int)(v3_0:Int)(v3_1:List Int)(v3_2:List Int)(v13:List (List Int))(g_0:List GNode)(g_1:List GTie)(g_2:Int):(Int × (List (ByteArray × Bool)))→St
 | (v15,h10001)=>⟨[(0,.ptr 10000 0 0 0),(3,.ptr 192 1 0 0),(13,.ref 832 1 0 v13.length),(14,.lit (.int .i64 v14)),(15,.lit (.int .i64 v15))],[(10000,0,.var [.sl (ab GNode.encS g_0),.sl (ab GTie.enc g_1),.lit (.int .i64 g_2),.mp 10001 0]),(10001,0,.map (eM h10001)),(192,1,.var [.lit (.int .i64 v3_0),.sl (ab eI v3_1),.sl (ab eI v3_2)]),(832,1,.tree (ab (eLS eI) v13))],2⟩
attribute [go_sem] nM
@[go_sem] def hi92_1:DT:=.i2 0 (.i2 1 (.i2 2 (.i2 3 (.i2 4 (.i2 7 (.i2 5 (.i2 6 .nil)))))))
def hi92:Hint where
 acts:=fun _=>[]
 draws:=fun
  | 1=>⟨hi92_1,[[],[0],[0,1],[0,1,2],[],.range 5,.range 6,[]],.range 8⟩
  | _=>⟨.nil,[],[]⟩
@[go_sem] theorem abv (i:Nat):hi92.acts i=[]:=rfl
theorem YR (i:Nat):hi92.views i=none:=rfl
attribute [go_sem] YR Tryz.ntmps92 Tryz.results92
@[go_sem] theorem aba:(hi92.draws 1).order=hi92_1:=rfl
theorem qW {rec:GShow→(List (ByteArray × Bool))→GState→Option (Bool × (List (ByteArray × Bool)))}(hrec:∀ {g_s:GShow} {g_known:List (ByteArray × Bool)} {v1:GState} {res:Bool × (List (ByteArray × Bool))},rec g_s g_known v1=some res→ao Tryz.prog 84 [.ptr 10000 0 0 0,.agg (GState.encS v1)] [(10000,0,.var [.sl (ab GNode.encS g_s.nodes),.sl (ab GTie.enc g_s.ties),.lit (.int .i64 g_s.horizon),.mp 10001 0]),(10001,0,.map (eM g_known))] (.lit (.bool res.1)) [(10000,0,.var [.sl (ab GNode.encS g_s.nodes),.sl (ab GTie.enc g_s.ties),.lit (.int .i64 g_s.horizon),.mp 10001 0]),(10001,0,.map (eM res.2))]){g_s:GShow}{g_known:List (ByteArray × Bool)}{v1:GState}{res:(List Int) × Bool × (List (ByteArray × Bool))}(h:dO rec g_s g_known v1=some res):ao Tryz.prog 92 [.ptr 10000 0 0 0,.agg (GState.encS v1)] [(10000,0,.var [.sl (ab GNode.encS g_s.nodes),.sl (ab GTie.enc g_s.ties),.lit (.int .i64 g_s.horizon),.mp 10001 0]),(10001,0,.map (eM g_known))] (.tup [.sl (ab eI res.1),.lit (.bool res.2.1)]) [(10000,0,.var [.sl (ab GNode.encS g_s.nodes),.sl (ab GTie.enc g_s.ties),.lit (.int .i64 g_s.horizon),.mp 10001 0]),(10001,0,.map (eM res.2.2))]:=by
 refine aj (ra:=[.nilSl 4]) (md:=mdT) hT (hi:=hi92) Tryz.func92 rfl rfl (by decide +kernel) (by simp) ?_
 unfold dO at h
 obtain ⟨r1001,g1,h⟩:=ae h
 simp(config:=cS)only[go_sem]
 refine ag (oT g1) ?_
 obtain ⟨q1004,l2,h⟩:=ae h
 simp(config:=cS)only[go_sem]
 refine an (m1:=.mk) (m2:=.mk) [.freeze [832],.nf [0,3,13,14,15] [10000,10001,192,832]] (nM ((r1001.length:Nat):Int) v1.now v1.times v1.values r1001 g_s.nodes g_s.ties g_s.horizon) l2 ?_ ?_
 ·simp(config:=cS)only[go_sem]
 ·intro nb3 sb3 bb3 b3 gb3
  obtain ⟨v15_1,h10001_1⟩:=sb3
  unfold fa at b3
  try dsimp only at b3
  obtain ⟨h4,b3⟩|⟨h4,b3⟩:=af b3
  ·obtain ⟨x1002,g5,b3⟩:=ae b3
   obtain ⟨h6,h7,h8⟩:=ai g5
   obtain ⟨r1003,g9,b3⟩:=ae b3
   simp(config:=cS)only[go_sem,eqT h4,h6,h7,h8]
   refine ag (qx @hrec g9) ?_
   obtain ⟨h10,b3⟩|⟨h10,b3⟩:=af b3
   ·cases b3
    have e11:=(ak gb3).symm
    subst e11
    try dsimp only at h
    cases h
    simp(config:=cS)only[go_sem,eZt h10]
   ·cases b3
    simp(config:=cS)only[go_sem,eZf h10]
    refine ap gb3 ?_
    simp(config:=cS)only[go_sem]
  ·cases b3
   have e12:=(ak gb3).symm
   subst e12
   try dsimp only at h
   cases h
   simp(config:=cS)only[go_sem,eqF h4]
def ov (k:ByteArray)(v46:Int)(v3_0:Int)(v3_1:List Int)(v3_2:List Int)(v45:List (List Int))(g_0:List GNode)(g_1:List GTie)(g_2:Int):(Int × (List (ByteArray × Bool)))→St
 | (v47,h10001)=>⟨[(0,.ptr 10000 0 0 0),(3,.ptr 192 1 0 0),(5,.lit (.string k)),(8,.lit (.bool true)),(45,.ref 2880 1 0 v45.length),(46,.lit (.int .i64 v46)),(47,.lit (.int .i64 v47))],[(10000,0,.var [.sl (ab GNode.encS g_0),.sl (ab GTie.enc g_1),.lit (.int .i64 g_2),.mp 10001 0]),(10001,0,.map (eM h10001)),(192,1,.var [.lit (.int .i64 v3_0),.sl (ab eI v3_1),.sl (ab eI v3_2)]),(2880,1,.tree (ab (eLS eI) v45))],2⟩
attribute [go_sem] ov
@[go_sem] def hi84_13:DT:=.i2 0 (.i2 1 (.i2 2 (.i2 3 (.i2 4 (.i2 5 (.i2 6 (.i2 7 (.i2 8 (.i2 9 (.i2 10 (.i2 11 (.i2 12 (.i2 13 .nil)))))))))))))
@[go_sem] def hi84_10:DT:=.i2 0 (.i2 1 (.i2 2 (.i2 3 (.i2 4 (.i2 7 (.i2 5 (.i2 6 .nil)))))))
@[go_sem] def hi84_3:DT:=.i2 0 (.i2 1 (.i2 2 (.i2 3 (.i2 4 (.i2 5 (.i2 6 .nil))))))
@[go_sem] def hi84_1:DT:=.i2 0 (.i2 1 (.i2 2 (.i2 3 (.i2 4 (.i2 5 (.i2 6 .nil))))))
def hi84:Hint where
 acts:=fun _=>[]
 draws:=fun
  | 1=>⟨hi84_1,[[],[0],[0,1],[0,1,2],[],.range 5,.range 6],.range 7⟩
  | 3=>⟨hi84_3,[[],[0],[0,1],[0,1,2],[],.range 5,.range 6],.range 7⟩
  | 10=>⟨hi84_10,[[],[0],[0,1],[0,1,2],[],.range 5,.range 6,[]],.range 8⟩
  | 13=>⟨hi84_13,[[],[],[1],[1,2],[1,2,3],[],[],[1,2,3,4,5,6],.range 8,.range 9,.range 10,.range 10,.range 11,.range 13],[0,1,2,3,4,5,6,7,8,9,10,12,11,13]⟩
  | _=>⟨.nil,[],[]⟩
@[go_sem] theorem abw (i:Nat):hi84.acts i=[]:=rfl
theorem YS (i:Nat):hi84.views i=none:=rfl
attribute [go_sem] YS Tryz.ntmps84 Tryz.results84
@[go_sem] theorem abb:(hi84.draws 1).order=hi84_1:=rfl
@[go_sem] theorem abc:(hi84.draws 3).order=hi84_3:=rfl
@[go_sem] theorem aas:(hi84.draws 10).order=hi84_10:=rfl
@[go_sem] theorem aat:(hi84.draws 13).order=hi84_13:=rfl
theorem wz {rec:GShow→(List (ByteArray × Bool))→GState→Option (Bool × (List (ByteArray × Bool)))}(hrec:∀ {g_s:GShow} {g_known:List (ByteArray × Bool)} {v1:GState} {res:Bool × (List (ByteArray × Bool))},rec g_s g_known v1=some res→ao Tryz.prog 84 [.ptr 10000 0 0 0,.agg (GState.encS v1)] [(10000,0,.var [.sl (ab GNode.encS g_s.nodes),.sl (ab GTie.enc g_s.ties),.lit (.int .i64 g_s.horizon),.mp 10001 0]),(10001,0,.map (eM g_known))] (.lit (.bool res.1)) [(10000,0,.var [.sl (ab GNode.encS g_s.nodes),.sl (ab GTie.enc g_s.ties),.lit (.int .i64 g_s.horizon),.mp 10001 0]),(10001,0,.map (eM res.2))]){g_s:GShow}{g_known:List (ByteArray × Bool)}{v1:GState}{res:Bool × (List (ByteArray × Bool))}(h:gS rec g_s g_known v1=some res):ao Tryz.prog 84 [.ptr 10000 0 0 0,.agg (GState.encS v1)] [(10000,0,.var [.sl (ab GNode.encS g_s.nodes),.sl (ab GTie.enc g_s.ties),.lit (.int .i64 g_s.horizon),.mp 10001 0]),(10001,0,.map (eM g_known))] (.lit (.bool res.1)) [(10000,0,.var [.sl (ab GNode.encS g_s.nodes),.sl (ab GTie.enc g_s.ties),.lit (.int .i64 g_s.horizon),.mp 10001 0]),(10001,0,.map (eM res.2))]:=by
 refine aj (ra:=[]) (md:=mdT) hT (hi:=hi84) Tryz.func84 rfl rfl (by decide +kernel) (by simp) ?_
 unfold gS at h
 obtain ⟨r1001,g1,h⟩:=ae h
 simp(config:=cS)only[go_sem]
 refine ag (qw g1) ?_
 obtain ⟨h2,h⟩|⟨h2,h⟩:=af h
 ·cases h
  simp(config:=cS)only[go_sem,eZt h2]
 ·obtain ⟨r1002,g3,h⟩:=ae h
  simp(config:=cS)only[go_sem,eZf h2]
  refine ag (nw g3) ?_
  obtain ⟨h4,h⟩|⟨h4,h⟩:=af h
  ·cases h
   simp(config:=cS)only[go_sem,eZt h4]
  ·obtain ⟨r1003,g5,h⟩:=ae h
   simp(config:=cS)only[go_sem,eZf h4]
   refine ag (Ll g5) ?_
   obtain ⟨x1004,g6,h8⟩|⟨g7,h8⟩:=Jd h
   ·cases h8
    simp(config:=cS)only[go_sem,g6]
   ·obtain ⟨r1005,g9,h8⟩:=ae h8
    simp(config:=cS)only[go_sem,g7]
    refine ag (nu g9) ?_
    obtain ⟨q1009,l10,h8⟩:=ae h8
    simp(config:=cS)only[go_sem]
    refine an (m1:=.mk) (m2:=.mk) [.freeze [2880],.nf [0,3,5,8,45,46,47] [10000,10001,192,2880]] (ov r1003 ((r1005.length:Nat):Int) v1.now v1.times v1.values r1005 g_s.nodes g_s.ties g_s.horizon) l10 ?_ ?_
    ·simp(config:=cS)only[go_sem]
    ·intro nb11 sb11 bb11 b11 gb11
     obtain ⟨v47_1,h10001_1⟩:=sb11
     unfold fR at b11
     try dsimp only at b11
     obtain ⟨h12,b11⟩|⟨h12,b11⟩:=af b11
     ·obtain ⟨x1006,g13,b11⟩:=ae b11
      obtain ⟨h14,h15,h16⟩:=ai g13
      obtain ⟨r1007,g17,b11⟩:=ae b11
      simp(config:=cS)only[go_sem,eqT h12,h14,h15,h16]
      refine ag (qt g17) ?_
      obtain ⟨r1008,g18,b11⟩:=ae b11
      simp(config:=cS)only[go_sem]
      refine ag (qW @hrec g18) ?_
      obtain ⟨h19,b11⟩|⟨h19,b11⟩:=af b11
      ·cases b11
       simp(config:=cS)only[go_sem,eZt h19]
       refine ap gb11 ?_
       simp(config:=cS)only[go_sem]
      ·cases b11
       have e20:=(ak gb11).symm
       subst e20
       try dsimp only at h8
       cases h8
       simp(config:=cS)only[go_sem,eZf h19]
     ·cases b11
      have e21:=(ak gb11).symm
      subst e21
      try dsimp only at h8
      cases h8
      simp(config:=cS)only[go_sem,eqF h12]
theorem uC (n:Nat):∀ {g_s:GShow} {g_known:List (ByteArray × Bool)} {v1:GState} {res:Bool × (List (ByteArray × Bool))},ig n g_s g_known v1=some res→ao Tryz.prog 84 [.ptr 10000 0 0 0,.agg (GState.encS v1)] [(10000,0,.var [.sl (ab GNode.encS g_s.nodes),.sl (ab GTie.enc g_s.ties),.lit (.int .i64 g_s.horizon),.mp 10001 0]),(10001,0,.map (eM g_known))] (.lit (.bool res.1)) [(10000,0,.var [.sl (ab GNode.encS g_s.nodes),.sl (ab GTie.enc g_s.ties),.lit (.int .i64 g_s.horizon),.mp 10001 0]),(10001,0,.map (eM res.2))]:=by
 induction n with
 | zero=>intro _ _ _ _ h;cases h
 | succ n ih=>intro _ _ _ _ h;exact wz (@ih) h
theorem sW {g_s:GShow}{g_known:List (ByteArray × Bool)}{v1:GState}{res:Bool × (List (ByteArray × Bool))}(h:m_impl_game_wins g_s g_known v1=some res):ao Tryz.prog 84 [.ptr 10000 0 0 0,.agg (GState.encS v1)] [(10000,0,.var [.sl (ab GNode.encS g_s.nodes),.sl (ab GTie.enc g_s.ties),.lit (.int .i64 g_s.horizon),.mp 10001 0]),(10001,0,.map (eM g_known))] (.lit (.bool res.1)) [(10000,0,.var [.sl (ab GNode.encS g_s.nodes),.sl (ab GTie.enc g_s.ties),.lit (.int .i64 g_s.horizon),.mp 10001 0]),(10001,0,.map (eM res.2))]:=uC 40 h
theorem wA {g_s:GShow}{g_known:List (ByteArray × Bool)}{v1:GState}{nodes:List Int}{res:Bool × (List (ByteArray × Bool))}(h:mW g_s g_known v1 nodes=some res):ao Tryz.prog 75 [.ptr 10000 0 0 0,.agg (GState.encS v1),.sl (ab eI nodes)] [(10000,0,.var [.sl (ab GNode.encS g_s.nodes),.sl (ab GTie.enc g_s.ties),.lit (.int .i64 g_s.horizon),.mp 10001 0]),(10001,0,.map (eM g_known))] (.lit (.bool res.1)) [(10000,0,.var [.sl (ab GNode.encS g_s.nodes),.sl (ab GTie.enc g_s.ties),.lit (.int .i64 g_s.horizon),.mp 10001 0]),(10001,0,.map (eM res.2))]:=qx (@sW) h
theorem xP {g_s:GShow}{g_known:List (ByteArray × Bool)}{v1:GState}{res:(List Int) × Bool × (List (ByteArray × Bool))}(h:nQ g_s g_known v1=some res):ao Tryz.prog 92 [.ptr 10000 0 0 0,.agg (GState.encS v1)] [(10000,0,.var [.sl (ab GNode.encS g_s.nodes),.sl (ab GTie.enc g_s.ties),.lit (.int .i64 g_s.horizon),.mp 10001 0]),(10001,0,.map (eM g_known))] (.tup [.sl (ab eI res.1),.lit (.bool res.2.1)]) [(10000,0,.var [.sl (ab GNode.encS g_s.nodes),.sl (ab GTie.enc g_s.ties),.lit (.int .i64 g_s.horizon),.mp 10001 0]),(10001,0,.map (eM res.2.2))]:=qW (@sW) h
def Ln:Hint where
 acts:=fun _=>[]
 draws:=fun
  | _=>⟨.nil,[],[]⟩
theorem We (i:Nat):Ln.acts i=[]:=rfl
theorem Wf (i:Nat):Ln.views i=none:=rfl
attribute [go_sem] We Wf Tryz.ntmps173 Tryz.results173
theorem qX {nodes:List Int}{g_s:GShow}{g_known:List (ByteArray × Bool)}{v2:GState}{res:Bool × (List (ByteArray × Bool))}(h:dP nodes g_s g_known v2=some res):ao Tryz.prog 173 [.sl (ab eI nodes),.ptr 10000 0 0 0,.ptr 10003 0 0 0] [(10000,0,.var [.ptr 10001 0 0 0]),(10001,0,.var [.sl (ab GNode.encS g_s.nodes),.sl (ab GTie.enc g_s.ties),.lit (.int .i64 g_s.horizon),.mp 10002 0]),(10002,0,.map (eM g_known)),(10003,0,.var [.lit (.int .i64 v2.now),.sl (ab eI v2.times),.sl (ab eI v2.values)])] (.lit (.bool res.1)) [(10000,0,.var [.ptr 10001 0 0 0]),(10001,0,.var [.sl (ab GNode.encS g_s.nodes),.sl (ab GTie.enc g_s.ties),.lit (.int .i64 g_s.horizon),.mp 10002 0]),(10002,0,.map (eM res.2)),(10003,0,.var [.lit (.int .i64 v2.now),.sl (ab eI v2.times),.sl (ab eI v2.values)])]:=by
 refine aj (ra:=[]) (md:=mdT) hT (hi:=Ln) Tryz.func173 rfl rfl (by decide +kernel) (by simp) ?_
 unfold dP at h
 obtain ⟨r1001,g1,h⟩:=ae h
 simp(config:=cS)only[go_sem]
 refine ag (wA g1) ?_
 cases h
 simp(config:=cS)only[go_sem]
def cQ (zb0:Bool)(v7:Int)(v0:List (List Int))(h10002_0:List GNode)(h10002_1:List GTie)(h10002_2:Int)(h10004_0:Int)(h10004_1:List Int)(h10004_2:List Int):(Int × (List (ByteArray × Bool)))→St
 | (v8,h10003)=>⟨[(0,.ref 10000 0 0 v0.length),(1,.fn 173 [.ptr 10001 0 0 0,.ptr 10004 0 0 0]),(7,.lit (.int .i64 v7)),(8,.lit (.int .i64 v8))],[(10000,0,.row zb0 (ab (eLS eI) v0)),(10001,0,.var [.ptr 10002 0 0 0]),(10002,0,.var [.sl (ab GNode.encS h10002_0),.sl (ab GTie.enc h10002_1),.lit (.int .i64 h10002_2),.mp 10003 0]),(10003,0,.map (eM h10003)),(10004,0,.var [.lit (.int .i64 h10004_0),.sl (ab eI h10004_1),.sl (ab eI h10004_2)])],2⟩
attribute [go_sem] cQ
def vc:Hint where
 acts:=fun _=>[]
 draws:=fun
  | _=>⟨.nil,[],[]⟩
theorem HE (i:Nat):vc.acts i=[]:=rfl
theorem HF (i:Nat):vc.views i=none:=rfl
attribute [go_sem] HE HF Tryz.ntmps172 Tryz.results172
theorem kA {v0:List (List Int)}{g_s:GShow}{g_known:List (ByteArray × Bool)}{cap1:GState}{zb0:Bool}{res:Int × (List (List Int)) × (List (ByteArray × Bool))}(h:aX v0 g_s g_known cap1=some res):ao Tryz.prog 172 [.ref 10000 0 0 v0.length,.fn 173 [.ptr 10001 0 0 0,.ptr 10004 0 0 0]] [(10000,0,.row zb0 (ab (eLS eI) v0)),(10001,0,.var [.ptr 10002 0 0 0]),(10002,0,.var [.sl (ab GNode.encS g_s.nodes),.sl (ab GTie.enc g_s.ties),.lit (.int .i64 g_s.horizon),.mp 10003 0]),(10003,0,.map (eM g_known)),(10004,0,.var [.lit (.int .i64 cap1.now),.sl (ab eI cap1.times),.sl (ab eI cap1.values)])] (.lit (.int .i64 res.1)) [(10000,0,.row zb0 (ab (eLS eI) res.2.1)),(10001,0,.var [.ptr 10002 0 0 0]),(10002,0,.var [.sl (ab GNode.encS g_s.nodes),.sl (ab GTie.enc g_s.ties),.lit (.int .i64 g_s.horizon),.mp 10003 0]),(10003,0,.map (eM res.2.2)),(10004,0,.var [.lit (.int .i64 cap1.now),.sl (ab eI cap1.times),.sl (ab eI cap1.values)])]:=by
 refine aj (ra:=[]) (md:=mdT) hT (hi:=vc) Tryz.func172 rfl rfl (by decide +kernel) (by simp) ?_
 unfold aX at h
 obtain ⟨q1003,l1,h⟩:=ae h
 simp(config:=cS)only[go_sem]
 refine an (m1:=.mk) (m2:=.mk) [.nf [0,1,7,8] [10000,10001,10002,10003,10004]] (cQ zb0 ((v0.length:Nat):Int) v0 g_s.nodes g_s.ties g_s.horizon cap1.now cap1.times cap1.values) l1 ?_ ?_
 ·simp(config:=cS)only[go_sem]
 ·intro nb2 sb2 bb2 b2 gb2
  obtain ⟨v8_1,h10003_1⟩:=sb2
  unfold aT at b2
  try dsimp only at b2
  obtain ⟨h3,b2⟩|⟨h3,b2⟩:=af b2
  ·obtain ⟨x1001,g4,b2⟩:=ae b2
   obtain ⟨h5,h6,h7⟩:=ai g4
   obtain ⟨r1002,g8,b2⟩:=ae b2
   simp(config:=cS)only[go_sem,eqT h3,h5,h6,h7]
   refine ag (qX g8) ?_
   obtain ⟨h9,b2⟩|⟨h9,b2⟩:=af b2
   ·cases b2
    have e10:=(ak gb2).symm
    subst e10
    try dsimp only at h
    cases h
    simp(config:=cS)only[go_sem,eZt h9]
   ·cases b2
    simp(config:=cS)only[go_sem,eZf h9]
    refine ap gb2 ?_
    simp(config:=cS)only[go_sem]
  ·cases b2
   have e11:=(ak gb2).symm
   subst e11
   try dsimp only at h
   cases h
   simp(config:=cS)only[go_sem,eqF h3]
def cO (zb0:Bool)(v0_n:Nat)(h10002_0:List GNode)(h10002_1:List GTie)(h10002_2:Int)(h10004_0:Int)(h10004_1:List Int)(h10004_2:List Int):(Int × Int × (List (List Int)) × (List (ByteArray × Bool)))→St
 | (v5,v6,v0,h10003)=>⟨[(0,.ref 10000 0 0 v0_n),(1,.fn 173 [.ptr 10001 0 0 0,.ptr 10004 0 0 0]),(5,.lit (.int .i64 v5)),(6,.lit (.int .i64 v6))],[(10000,0,.row zb0 (ab (eLS eI) v0)),(10001,0,.var [.ptr 10002 0 0 0]),(10002,0,.var [.sl (ab GNode.encS h10002_0),.sl (ab GTie.enc h10002_1),.lit (.int .i64 h10002_2),.mp 10003 0]),(10003,0,.map (eM h10003)),(10004,0,.var [.lit (.int .i64 h10004_0),.sl (ab eI h10004_1),.sl (ab eI h10004_2)])],2⟩
attribute [go_sem] cO
def cW:Hint where
 acts:=fun i=>match i with | 0=>[.frIn 10000] | _=>[]
 draws:=fun
  | _=>⟨.nil,[],[]⟩
@[go_sem] theorem Xv:cW.acts 0=[.frIn 10000]:=rfl
@[go_sem] theorem Xw:cW.acts 1=[]:=rfl
@[go_sem] theorem Xx:cW.acts 2=[]:=rfl
@[go_sem] theorem Xy:cW.acts 3=[]:=rfl
@[go_sem] theorem Xz:cW.acts 4=[]:=rfl
@[go_sem] theorem XA:cW.acts 5=[]:=rfl
@[go_sem] theorem XB:cW.acts 7=[]:=rfl
@[go_sem] theorem XC:cW.acts 8=[]:=rfl
@[go_sem] theorem XD:cW.acts 9=[]:=rfl
@[go_sem] theorem Wg:cW.acts 10=[]:=rfl
@[go_sem] theorem XE:cW.acts 6=[]:=rfl
@[go_sem] theorem Wh:cW.acts 11=[]:=rfl
@[go_sem] theorem Wi:cW.acts 12=[]:=rfl
theorem Lo (i:Nat):cW.views i=none:=rfl
attribute [go_sem] Lo Tryz.ntmps87 Tryz.results87
theorem kv {v0:List (List Int)}{g_s:GShow}{g_known:List (ByteArray × Bool)}{cap1:GState}{zb0:Bool}{res:(List (List Int)) × (List (ByteArray × Bool))}(h:aV v0 g_s g_known cap1=some res):ao Tryz.prog 87 [.ref 10000 0 0 v0.length,.fn 173 [.ptr 10001 0 0 0,.ptr 10004 0 0 0]] [(10000,0,.row zb0 (ab (eLO eI) v0)),(10001,0,.var [.ptr 10002 0 0 0]),(10002,0,.var [.sl (ab GNode.encS g_s.nodes),.sl (ab GTie.enc g_s.ties),.lit (.int .i64 g_s.horizon),.mp 10003 0]),(10003,0,.map (eM g_known)),(10004,0,.var [.lit (.int .i64 cap1.now),.sl (ab eI cap1.times),.sl (ab eI cap1.values)])] (.ref 10000 0 0 res.1.length) [(10000,0,.row false (ab (eLS eI) res.1)),(10001,0,.var [.ptr 10002 0 0 0]),(10002,0,.var [.sl (ab GNode.encS g_s.nodes),.sl (ab GTie.enc g_s.ties),.lit (.int .i64 g_s.horizon),.mp 10003 0]),(10003,0,.map (eM res.2)),(10004,0,.var [.lit (.int .i64 cap1.now),.sl (ab eI cap1.times),.sl (ab eI cap1.values)])]:=by
 refine aj (ra:=[.home 4,.trim 4]) (md:=mdT) hT (hi:=cW) Tryz.func87 rfl rfl (by decide +kernel) (by simp) ?_
 unfold aV at h
 obtain ⟨r1001,g1,h⟩:=ae h
 simp(config:=cS)only[go_sem]
 refine ag (kA g1) ?_
 obtain ⟨h2,h⟩|⟨h2,h⟩:=af h
 ·obtain ⟨h3,h⟩:=ah h
  cases h
  simp(config:=cS)only[go_sem,eqT h2,eqT h3]
 ·obtain ⟨q1005,l4,h⟩:=ae h
  simp(config:=cS)only[go_sem,eqF h2]
  refine an (m1:=.mk) (m2:=.mk) [.nf [0,1,5,6] [10000,10001,10002,10003,10004]] (cO zb0 v0.length g_s.nodes g_s.ties g_s.horizon cap1.now cap1.times cap1.values) l4 ?_ ?_
  ·simp(config:=cS)only[go_sem]
  ·intro nb5 sb5 bb5 b5 gb5
   obtain ⟨v5_1,v6_1,v0_1,h10003_1⟩:=sb5
   unfold aR at b5
   try dsimp only at b5
   obtain ⟨h6,b5⟩|⟨h6,b5⟩:=af b5
   ·obtain ⟨h7,b5⟩:=ah b5
    obtain ⟨x1002,g8,b5⟩:=ae b5
    obtain ⟨h9,h10,h11⟩:=ai g8
    obtain ⟨r1003,g12,b5⟩:=ae b5
    simp(config:=cS)only[go_sem,eqT h6,eqT h7,h9,h10,h11]
    refine ag (qX g12) ?_
    obtain ⟨h13,b5⟩|⟨h13,b5⟩:=af b5
    ·cases b5
     simp(config:=cS)only[go_sem,eZt h13]
     refine ap gb5 ?_
     simp(config:=cS)only[go_sem]
    ·obtain ⟨h14,b5⟩:=ah b5
     obtain ⟨x1004,g15,b5⟩:=ae b5
     obtain ⟨h16,h17,h18⟩:=ai g15
     cases b5
     simp(config:=cS)only[go_sem,eZf h13,eqT h14,h16,h17,h18]
     refine ap gb5 ?_
     simp(config:=cS)only[go_sem]
   ·cases b5
    have e19:=(ak gb5).symm
    subst e19
    try dsimp only at h
    obtain ⟨h20,h⟩:=ah h
    obtain ⟨h21,h⟩:=ah h
    obtain ⟨h22,h⟩:=ah h
    obtain ⟨h23,h⟩:=ah h
    obtain ⟨h24,h⟩:=ah h
    obtain ⟨h25,h⟩:=ah h
    cases h
    simp(config:=cS)only[go_sem,eqF h6,eqT h20,eqT h21,eqT h22,eqT h23,eqT h24,eqT h25]
@[go_sem] def hi88_1:DT:=.i2 0 (.i2 1 (.i2 2 (.i2 3 (.i2 4 (.i2 6 (.i2 5 (.i2 7 (.i2 8 .nil))))))))
def hi88:Hint where
 acts:=fun _=>[]
 draws:=fun
  | 1=>⟨hi88_1,[[],[0],[0,1],[0,1,2],[],.range 5,[],.range 7,.range 8],.range 9⟩
  | _=>⟨.nil,[],[]⟩
theorem YT (i:Nat):hi88.acts i=[]:=rfl
theorem YU (i:Nat):hi88.views i=none:=rfl
attribute [go_sem] YT YU Tryz.ntmps88 Tryz.results88
@[go_sem] theorem abd:(hi88.draws 1).order=hi88_1:=rfl
theorem zb {g_s:GShow}{g_known:List (ByteArray × Bool)}{v1:GState}{res:(List (List Int)) × (List (ByteArray × Bool))}(h:jo g_s g_known v1=some res):ao Tryz.prog 88 [.ptr 10000 0 0 0,.agg (GState.encS v1)] [(10000,0,.var [.sl (ab GNode.encS g_s.nodes),.sl (ab GTie.enc g_s.ties),.lit (.int .i64 g_s.horizon),.mp 10001 0]),(10001,0,.map (eM g_known))] (.ref 20000 1 0 res.1.length) [(10000,0,.var [.sl (ab GNode.encS g_s.nodes),.sl (ab GTie.enc g_s.ties),.lit (.int .i64 g_s.horizon),.mp 10001 0]),(10001,0,.map (eM res.2)),(20000,1,.row false (ab (eLS eI) res.1))]:=by
 refine aj (ra:=[.home 4,.trim 4]) (md:=mdT) hT (hi:=hi88) Tryz.func88 rfl rfl (by decide +kernel) (by simp) ?_
 unfold jo at h
 obtain ⟨r1001,g1,h⟩:=ae h
 simp(config:=cS)only[go_sem]
 refine ag (oT g1) ?_
 obtain ⟨r1002,g2,h⟩:=ae h
 simp(config:=cS)only[go_sem]
 refine ag (kv g2) ?_
 cases h
 simp(config:=cS)only[go_sem]
def hi86:Hint where
 acts:=fun _=>[]
 draws:=fun
  | _=>⟨.nil,[],[]⟩
theorem YV (i:Nat):hi86.acts i=[]:=rfl
theorem YW (i:Nat):hi86.views i=none:=rfl
attribute [go_sem] YV YW Tryz.ntmps86 Tryz.results86
theorem Gm {list:List (List Int)}{lazy:Bool}{res:(List Int) × Bool}(h:mX list lazy=some res):ao Tryz.prog 86 [.sl (ab (eLS eI) list),.lit (.bool lazy)] [] (.tup [.sl (ab eI res.1),.lit (.bool res.2)]) []:=by
 refine aj (ra:=[.nilSl 4]) (md:=mdT) hT (hi:=hi86) Tryz.func86 rfl rfl (by decide +kernel) (by simp) ?_
 unfold mX at h
 obtain ⟨h1,h⟩|⟨h1,h⟩:=af h
 ·cases h
  simp(config:=cS)only[go_sem,eqT h1]
 ·obtain ⟨h2,h⟩|⟨h2,h⟩:=af h
  ·obtain ⟨x1001,g3,h⟩:=ae h
   obtain ⟨h4,h5,h6⟩:=ai g3
   cases h
   simp(config:=cS)only[go_sem,eqF h1,eZt h2,h4,h5,h6]
  ·obtain ⟨x1002,g7,h⟩:=ae h
   obtain ⟨h9,h10⟩:=dC (k:=0) g7
   cases h
   simp(config:=cS)only[go_sem,eqF h1,eZf h2,h9,h10]
def hi91:Hint where
 acts:=fun _=>[]
 draws:=fun
  | _=>⟨.nil,[],[]⟩
theorem YX (i:Nat):hi91.acts i=[]:=rfl
theorem YY (i:Nat):hi91.views i=none:=rfl
attribute [go_sem] YX YY Tryz.ntmps91 Tryz.results91
theorem rP {g_s:GShow}{g_known:List (ByteArray × Bool)}{v1:GState}{d:GDesk}{res:(List Int) × Bool × (List (ByteArray × Bool))}(h:gT g_s g_known v1 d=some res):ao Tryz.prog 91 [.ptr 10000 0 0 0,.agg (GState.encS v1),.loc [.sl (ab GNode.encS d.show_.nodes),.sl (ab GTie.enc d.show_.ties),.lit (.int .i64 d.show_.horizon),.lit (.int .i64 d.state.now),.sl (ab eI d.state.times),.sl (ab eI d.state.values),.lit (.bool d.lazy),.sl (ab GEntry.encS d.log)]] [(10000,0,.var [.sl (ab GNode.encS g_s.nodes),.sl (ab GTie.enc g_s.ties),.lit (.int .i64 g_s.horizon),.mp 10001 0]),(10001,0,.map (eM g_known))] (.tup [.sl (ab eI res.1),.lit (.bool res.2.1)]) [(10000,0,.var [.sl (ab GNode.encS g_s.nodes),.sl (ab GTie.enc g_s.ties),.lit (.int .i64 g_s.horizon),.mp 10001 0]),(10001,0,.map (eM res.2.2))]:=by
 refine aj (ra:=[.home 5]) (md:=mdT) hT (hi:=hi91) Tryz.func91 rfl rfl (by decide +kernel) (by simp) ?_
 unfold gT at h
 obtain ⟨h1,h⟩|⟨h1,h⟩:=af h
 ·obtain ⟨r1001,g2,h⟩:=ae h
  simp(config:=cS)only[go_sem,eZt h1]
  refine ag (zb g2) ?_
  obtain ⟨r1002,g3,h⟩:=ae h
  simp(config:=cS)only[go_sem]
  refine ag (Gm g3) ?_
  cases h
  simp(config:=cS)only[go_sem]
 ·obtain ⟨r1003,g4,h⟩:=ae h
  simp(config:=cS)only[go_sem,eZf h1]
  refine ag (xP g4) ?_
  cases h
  simp(config:=cS)only[go_sem]
def pA (values:List Int)(v8:List Int)(v9:Int):(Int × (List Int))→St
 | (v10,out)=>⟨[(1,.sl (ab eI values)),(5,.ref 383 1 0 out.length),(8,.sl (ab eI v8)),(9,.lit (.int .i64 v9)),(10,.lit (.int .i64 v10))],[(383,1,.row true (ab eI out))],2⟩
attribute [go_sem] pA
def Lp:Hint where
 acts:=fun _=>[]
 draws:=fun
  | _=>⟨.nil,[],[]⟩
theorem Wj (i:Nat):Lp.acts i=[]:=rfl
theorem Wk (i:Nat):Lp.views i=none:=rfl
attribute [go_sem] Wj Wk Tryz.ntmps162 Tryz.results162
theorem tL {props:List Int}{values:List Int}{res:List Int}(h:jW props values=some res):ao Tryz.prog 162 [.sl (ab eI props),.sl (ab eI values)] [] (.ref 20000 1 0 res.length) [(20000,1,.row true (ab eI res))]:=by
 refine aj (ra:=[.home 4]) (md:=mdT) hT (hi:=Lp) Tryz.func162 rfl rfl (by decide +kernel) (by simp) ?_
 unfold jW at h
 obtain ⟨q1003,l1,h⟩:=ae h
 simp(config:=cS)only[go_sem]
 refine an (m1:=.mk) (m2:=.mk) [.home 5,.nf [1,5,8,9,10] [383]] (pA values props ((props.length:Nat):Int)) l1 ?_ ?_
 ·simp(config:=cS)only[go_sem]
 ·intro nb2 sb2 bb2 b2 gb2
  obtain ⟨v10_1,out_1⟩:=sb2
  unfold gU at b2
  try dsimp only at b2
  obtain ⟨h3,b2⟩|⟨h3,b2⟩:=af b2
  ·obtain ⟨x1001,g4,b2⟩:=ae b2
   obtain ⟨h5,h6,h7⟩:=ai g4
   obtain ⟨x1002,g8,b2⟩:=ae b2
   obtain ⟨h9,h10,h11⟩:=ai g8
   obtain ⟨h12,b2⟩:=ah b2
   obtain ⟨h13,b2⟩:=ah b2
   cases b2
   simp(config:=cS)only[go_sem,eqT h3,h5,h6,h7,h9,h10,h11,eqT h12,eqT h13]
   refine ap gb2 ?_
   simp(config:=cS)only[go_sem]
  ·cases b2
   have e14:=(ak gb2).symm
   subst e14
   try dsimp only at h
   cases h
   simp(config:=cS)only[go_sem,eqF h3]
def cw (ties:List Int)(values:List Int)(nodes:List Int)(v90:Int)(out_2:Int)(out_3:Int)(out_6:Bool)(v15_0:Int)(v15_1:List Int)(v15_2:List Int)(next_0:Int)(h1600:List GNode)(h1601:List GTie)(h1602:List Int)(h1603:List Int)(h1604:List GEntry)(h5504:List Int)(h5505:List Int)(v89:List Int):(Int × (List Int))→St
 | (v91,seen)=>⟨[(1,.sl (ab eI ties)),(2,.sl (ab eI values)),(10,.ptr 640 1 0 0),(13,.ptr 832 1 0 0),(15,.ptr 960 1 0 0),(17,.sl (ab eI nodes)),(19,.ptr 1216 1 0 0),(20,.ref 5506 1 0 v89.length),(21,.ref 1407 1 0 seen.length),(89,.ref 5506 1 0 v89.length),(90,.lit (.int .i64 v90)),(91,.lit (.int .i64 v91))],[(640,1,.var [.lit (.slice none 0 0),.lit (.slice none 0 0),.lit (.int .i64 0),.lit (.int .i64 0),.lit (.slice none 0 0),.lit (.slice none 0 0),.lit (.bool false),.lit (.slice none 0 0)]),(832,1,.var [.ref 1600 1 0 h1600.length,.ref 1601 1 0 h1601.length,.lit (.int .i64 out_2),.lit (.int .i64 out_3),.ref 1602 1 0 h1602.length,.ref 1603 1 0 h1603.length,.lit (.bool out_6),.ref 1604 1 0 h1604.length]),(1600,1,.row true (ab GNode.encO h1600)),(1601,1,.row true (ab GTie.enc h1601)),(1602,1,.row true (ab eI h1602)),(1603,1,.row true (ab eI h1603)),(1604,1,.row true (ab GEntry.encO h1604)),(960,1,.var [.lit (.int .i64 v15_0),.sl (ab eI v15_1),.sl (ab eI v15_2)]),(1216,1,.var [.lit (.int .i64 next_0),.ref 5504 1 0 h5504.length,.ref 5505 1 0 h5505.length]),(5504,1,.row true (ab eI h5504)),(5505,1,.row true (ab eI h5505)),(5506,1,.row true (ab eI v89)),(1407,1,.row true (ab eI seen))],2⟩
attribute [go_sem] cw
@[go_sem] def hi71_s91_22:DT:=.i1 0 (.i2 1 (.i0 2 [0] (.i2 3 (.i2 4 (.i2 5 .nil)))))
@[go_sem] def hi71_s91_21:DT:=.i1 0 (.i1 1 (.i1 2 (.i1 3 (.i2 4 (.i2 6 (.i2 8 (.i2 9 (.i0 5 [0,1,2,3] (.i0 7 [0,1,2,3] (.i0 10 [0,1,2,3] (.i2 11 (.i0 12 [0,1] (.i2 13 (.i2 14 (.i2 15 .nil)))))))))))))))
@[go_sem] def hi71_s91_10:DT:=.i2 0 (.i2 1 (.i1 3 (.i0 2 [3] (.i2 4 (.i2 5 (.i2 6 (.i2 7 (.i2 8 (.i2 9 .nil)))))))))
@[go_sem] def hi71_s91_4:DT:=.i1 0 (.i1 1 (.i1 2 (.i1 3 (.fork (.i0 4 [0,1,2,3] (.i0 5 [0,1,2,3] (.i0 6 [2,3] (.i2 7 .nil)))) (.i0 5 [0,1,2,3] (.i0 4 [0,1,2,3] (.i0 6 [2,3] (.i2 7 .nil))))))))
def oU:Hint where
 acts:=fun _=>[]
 draws:=fun
  | 4=>⟨hi71_s91_4,[[],[0],[],[2],[],[],[0,1,4,5],.range 7],[0,1,5,6,2,3,4,7]⟩
  | 10=>⟨hi71_s91_10,[[],[],[1],[],[0,1,2,3],.range 5,.range 6,.range 6,.range 7,.range 9],[0,1,2,3,4,5,6,8,7,9]⟩
  | 21=>⟨hi71_s91_21,[[],[0],[],[2],[],[4],[],[4,5,6],[],[],[4,5,6,7,8,9],[2,3,4,5,6,7,8,9,10],[2,3,4,5,6,7,8,9,10,11],.range 13,.range 14,.range 15],.range 16⟩
  | 22=>⟨hi71_s91_22,[[],[],[1],[0,1,2],[0,1,2,3],.range 5],.range 6⟩
  | _=>⟨.nil,[],[]⟩
theorem MQ (i:Nat):oU.acts i=[]:=rfl
theorem MR (i:Nat):oU.views i=none:=rfl
attribute [go_sem] MQ MR Tryz.ntmps71 Tryz.results71
@[go_sem] theorem YZ:(oU.draws 4).order=hi71_s91_4:=rfl
@[go_sem] theorem XF:(oU.draws 10).order=hi71_s91_10:=rfl
@[go_sem] theorem XG:(oU.draws 21).order=hi71_s91_21:=rfl
@[go_sem] theorem XH:(oU.draws 22).order=hi71_s91_22:=rfl
theorem nx {d:GDesk}{ties:List Int}{values:List Int}{refused:Int}{d':GDesk}{res:GDesk × (List Int) × Int}(h:bv d ties values refused d'=some res):ao Tryz.prog 71 [.agg (GDesk.encS d),.sl (ab eI ties),.sl (ab eI values),.lit (.int .i64 refused),.fn 91 [.loc [.sl (ab GNode.encS d'.show_.nodes),.sl (ab GTie.enc d'.show_.ties),.lit (.int .i64 d'.show_.horizon),.lit (.int .i64 d'.state.now),.sl (ab eI d'.state.times),.sl (ab eI d'.state.values),.lit (.bool d'.lazy),.sl (ab GEntry.encS d'.log)]]] [] (.tup [.agg [.ref 20000 1 0 res.1.show_.nodes.length,.ref 20001 1 0 res.1.show_.ties.length,.lit (.int .i64 res.1.show_.horizon),.lit (.int .i64 res.1.state.now),.ref 20002 1 0 res.1.state.times.length,.ref 20003 1 0 res.1.state.values.length,.lit (.bool res.1.lazy),.ref 20004 1 0 res.1.log.length],.ref 20005 1 0 res.2.1.length,.lit (.int .i64 res.2.2)]) [(20000,1,.row true (ab GNode.encO res.1.show_.nodes)),(20001,1,.row true (ab GTie.enc res.1.show_.ties)),(20002,1,.row true (ab eI res.1.state.times)),(20003,1,.row true (ab eI res.1.state.values)),(20004,1,.row true (ab GEntry.encO res.1.log)),(20005,1,.row true (ab eI res.2.1))]:=by
 refine aj (ra:=[.homeCell 640 0,.homeCell 640 1,.homeCell 640 4,.homeCell 640 5,.homeCell 640 7,.home 11]) (md:=mdT) hT (hi:=oU) Tryz.func71 rfl rfl (by decide +kernel) (by simp) ?_
 unfold bv at h
 obtain ⟨r1001,g1,h⟩:=ae h
 simp(config:=cS)only[go_sem]
 refine ag (Bc g1) ?_
 obtain ⟨r1002,g2,h⟩:=ae h
 simp(config:=cS)only[go_sem]
 refine ag (Et g2) ?_
 obtain ⟨h3,h⟩|⟨h3,h⟩:=af h
 ·obtain ⟨h4,h⟩|⟨h4,h⟩:=af h
  ·obtain ⟨r1003,g5,h⟩:=ae h
   simp(config:=cS)only[go_sem,eZt h3,eqT h4]
   refine ag (eQ (by exact fun _ _ hr=>vM hr) (by refine ⟨fun _=>?_,fun _=>?_⟩ <;> simp only [go_sem]) (fun _=>rfl) rfl g5) ?_
   obtain ⟨h6,h⟩|⟨h6,h⟩:=af h
   ·cases h
    simp(config:=cS)only[go_sem,eZt h3,eqT h4,eZt h6]
   ·try simp(config:=cS)only[go_sem,eZt h3,eqT h4,eZf h6]
    refine bn ?_ ?_
    ·obtain ⟨r1004,g7,h⟩:=ae h
     simp(config:=cS)only[go_sem,eZt h3,eqT h4,eZf h6]
     refine ag (qw g7) ?_
     obtain ⟨h8,h⟩|⟨h8,h⟩:=af h
     ·cases h
      simp(config:=cS)only[go_sem,eZt h3,eqT h4,eZf h6,eZt h8]
     ·obtain ⟨r1005,g9,h⟩:=ae h
      simp(config:=cS)only[go_sem,eZt h3,eqT h4,eZf h6,eZf h8]
      refine ag (nw g9) ?_
      obtain ⟨h10,h⟩|⟨h10,h⟩:=af h
      ·cases h
       simp(config:=cS)only[go_sem,eZt h3,eqT h4,eZf h6,eZf h8,eZt h10]
      ·obtain ⟨h11,h⟩|⟨h11,h⟩:=af h
       ·cases h
        simp(config:=cS)only[go_sem,eZt h3,eqT h4,eZf h6,eZf h8,eZf h10,eqT h11]
       ·obtain ⟨r1006,g12,h⟩:=ae h
        simp(config:=cS)only[go_sem,eZt h3,eqT h4,eZf h6,eZf h8,eZf h10,eqF h11]
        refine ag (nu g12) ?_
        obtain ⟨r1007,g13,h⟩:=ae h
        simp(config:=cS)only[go_sem,eZt h3,eqT h4,eZf h6,eZf h8,eZf h10,eqF h11]
        refine ag (sv g13) ?_
        obtain ⟨h14,h⟩|⟨h14,h⟩:=af h
        ·obtain ⟨r1008,g15,h⟩:=ae h
         simp(config:=cS)only[go_sem,eZt h3,eqT h4,eZf h6,eZf h8,eZf h10,eqF h11,eZt h14]
         refine ag (qt g15) ?_
         obtain ⟨r1009,g16,h⟩:=ae h
         simp(config:=cS)only[go_sem,eZt h3,eqT h4,eZf h6,eZf h8,eZf h10,eqF h11,eZt h14]
         refine ag (uB g16) ?_
         obtain ⟨r1010,g17,h⟩:=ae h
         simp(config:=cS)only[go_sem,eZt h3,eqT h4,eZf h6,eZf h8,eZf h10,eqF h11,eZt h14]
         refine ag (rP g17) ?_
         obtain ⟨h18,h⟩|⟨h18,h⟩:=af h
         ·obtain ⟨r1011,g19,h⟩:=ae h
          simp(config:=cS)only[go_sem,eZt h3,eqT h4,eZf h6,eZf h8,eZf h10,eqF h11,eZt h14,eZt h18]
          refine ag (kT g19) ?_
          obtain ⟨q1019,l20,h⟩:=ae h
          simp(config:=cS)only[go_sem,eZt h3,eqT h4,eZf h6,eZf h8,eZf h10,eqF h11,eZt h14,eZt h18]
          refine an (m1:=.mk) (m2:=.mk) [.home 21,.nf [1,2,10,13,15,17,19,20,21,89,90,91] [640,832,1600,1601,1602,1603,1604,960,1216,5504,5505,5506,1407]] (cw ties values r1010.1 ((r1011.2.length:Nat):Int) r1001.show_.horizon r1001.state.now r1001.lazy d.state.now d.state.times d.state.values r1011.1.now r1001.show_.nodes r1001.show_.ties r1001.state.times r1001.state.values r1001.log r1011.1.times r1011.1.values r1011.2) l20 ?_ ?_
          ·simp(config:=cS)only[go_sem,eZt h3,eqT h4,eZf h6,eZf h8,eZf h10,eqF h11,eZt h14,eZt h18]
          ·intro nb21 sb21 bb21 b21 gb21
           obtain ⟨v91_1,seen_1⟩:=sb21
           unfold aU at b21
           try dsimp only at b21
           obtain ⟨h22,b21⟩|⟨h22,b21⟩:=af b21
           ·obtain ⟨x1012,g23,b21⟩:=ae b21
            obtain ⟨h24,h25,h26⟩:=ai g23
            obtain ⟨x1013,g27,b21⟩:=ae b21
            obtain ⟨h28,h29,h30⟩:=ai g27
            obtain ⟨h31,b21⟩:=ah b21
            obtain ⟨h32,b21⟩:=ah b21
            cases b21
            simp(config:=cS)only[go_sem,eZt h3,eqT h4,eZf h6,eZf h8,eZf h10,eqF h11,eZt h14,eZt h18,eqT h22,h24,h25,h26,h28,h29,h30,eqT h31,eqT h32]
            refine ap gb21 ?_
            simp(config:=cS)only[go_sem,eZt h3,eqT h4,eZf h6,eZf h8,eZf h10,eqF h11,eZt h14,eZt h18,eqT h22,h24,h25,h26,h28,h29,h30,eqT h31,eqT h32]
           ·cases b21
            have e33:=(ak gb21).symm
            subst e33
            try dsimp only at h
            obtain ⟨r1014,g34,h⟩:=ae h
            simp(config:=cS)only[go_sem,eZt h3,eqT h4,eZf h6,eZf h8,eZf h10,eqF h11,eZt h14,eZt h18,eqF h22]
            refine ag (jM g34) ?_
            obtain ⟨r1015,g35,h⟩:=ae h
            simp(config:=cS)only[go_sem,eZt h3,eqT h4,eZf h6,eZf h8,eZf h10,eqF h11,eZt h14,eZt h18,eqF h22]
            refine ag (aY g35) ?_
            obtain ⟨r1016,g36,h⟩:=ae h
            simp(config:=cS)only[go_sem,eZt h3,eqT h4,eZf h6,eZf h8,eZf h10,eqF h11,eZt h14,eZt h18,eqF h22]
            refine ag (aY g36) ?_
            obtain ⟨r1017,g37,h⟩:=ae h
            simp(config:=cS)only[go_sem,eZt h3,eqT h4,eZf h6,eZf h8,eZf h10,eqF h11,eZt h14,eZt h18,eqF h22]
            refine ag (tL g37) ?_
            obtain ⟨h38,h⟩:=ah h
            obtain ⟨h39,h⟩:=ah h
            obtain ⟨r1018,g40,h⟩:=ae h
            simp(config:=cS)only[go_sem,eZt h3,eqT h4,eZf h6,eZf h8,eZf h10,eqF h11,eZt h14,eZt h18,eqF h22,eqT h38,eqT h39]
            refine ag (aY g40) ?_
            cases h
            simp(config:=cS)only[go_sem,eZt h3,eqT h4,eZf h6,eZf h8,eZf h10,eqF h11,eZt h14,eZt h18,eqF h22,eqT h38,eqT h39]
         ·cases h
          simp(config:=cS)only[go_sem,eZt h3,eqT h4,eZf h6,eZf h8,eZf h10,eqF h11,eZt h14,eZf h18]
        ·cases h
         simp(config:=cS)only[go_sem,eZt h3,eqT h4,eZf h6,eZf h8,eZf h10,eqF h11,eZf h14]
    ·obtain ⟨r1020,g41,h⟩:=ae h
     simp(config:=cS)only[go_sem,eZt h3,eqT h4,eZf h6]
     refine ag (qw g41) ?_
     obtain ⟨h42,h⟩|⟨h42,h⟩:=af h
     ·cases h
      simp(config:=cS)only[go_sem,eZt h3,eqT h4,eZf h6,eZt h42]
     ·obtain ⟨r1021,g43,h⟩:=ae h
      simp(config:=cS)only[go_sem,eZt h3,eqT h4,eZf h6,eZf h42]
      refine ag (nw g43) ?_
      obtain ⟨h44,h⟩|⟨h44,h⟩:=af h
      ·cases h
       simp(config:=cS)only[go_sem,eZt h3,eqT h4,eZf h6,eZf h42,eZt h44]
      ·obtain ⟨h45,h⟩|⟨h45,h⟩:=af h
       ·cases h
        simp(config:=cS)only[go_sem,eZt h3,eqT h4,eZf h6,eZf h42,eZf h44,eqT h45]
       ·obtain ⟨r1022,g46,h⟩:=ae h
        simp(config:=cS)only[go_sem,eZt h3,eqT h4,eZf h6,eZf h42,eZf h44,eqF h45]
        refine ag (nu g46) ?_
        obtain ⟨r1023,g47,h⟩:=ae h
        simp(config:=cS)only[go_sem,eZt h3,eqT h4,eZf h6,eZf h42,eZf h44,eqF h45]
        refine ag (sv g47) ?_
        obtain ⟨h48,h⟩|⟨h48,h⟩:=af h
        ·obtain ⟨r1024,g49,h⟩:=ae h
         simp(config:=cS)only[go_sem,eZt h3,eqT h4,eZf h6,eZf h42,eZf h44,eqF h45,eZt h48]
         refine ag (qt g49) ?_
         obtain ⟨r1025,g50,h⟩:=ae h
         simp(config:=cS)only[go_sem,eZt h3,eqT h4,eZf h6,eZf h42,eZf h44,eqF h45,eZt h48]
         refine ag (uB g50) ?_
         obtain ⟨r1026,g51,h⟩:=ae h
         simp(config:=cS)only[go_sem,eZt h3,eqT h4,eZf h6,eZf h42,eZf h44,eqF h45,eZt h48]
         refine ag (rP g51) ?_
         obtain ⟨h52,h⟩|⟨h52,h⟩:=af h
         ·obtain ⟨r1027,g53,h⟩:=ae h
          simp(config:=cS)only[go_sem,eZt h3,eqT h4,eZf h6,eZf h42,eZf h44,eqF h45,eZt h48,eZt h52]
          refine ag (kT g53) ?_
          obtain ⟨q1035,l54,h⟩:=ae h
          simp(config:=cS)only[go_sem,eZt h3,eqT h4,eZf h6,eZf h42,eZf h44,eqF h45,eZt h48,eZt h52]
          refine an (m1:=.mk) (m2:=.mk) [.home 21,.nf [1,2,10,13,15,17,19,20,21,89,90,91] [640,832,1600,1601,1602,1603,1604,960,1216,5504,5505,5506,1407]] (cw ties values r1026.1 ((r1027.2.length:Nat):Int) r1001.show_.horizon r1001.state.now r1001.lazy d.state.now d.state.times d.state.values r1027.1.now r1001.show_.nodes r1001.show_.ties r1001.state.times r1001.state.values r1001.log r1027.1.times r1027.1.values r1027.2) l54 ?_ ?_
          ·simp(config:=cS)only[go_sem,eZt h3,eqT h4,eZf h6,eZf h42,eZf h44,eqF h45,eZt h48,eZt h52]
          ·intro nb55 sb55 bb55 b55 gb55
           obtain ⟨v91_2,seen_2⟩:=sb55
           unfold aU at b55
           try dsimp only at b55
           obtain ⟨h56,b55⟩|⟨h56,b55⟩:=af b55
           ·obtain ⟨x1028,g57,b55⟩:=ae b55
            obtain ⟨h58,h59,h60⟩:=ai g57
            obtain ⟨x1029,g61,b55⟩:=ae b55
            obtain ⟨h62,h63,h64⟩:=ai g61
            obtain ⟨h65,b55⟩:=ah b55
            obtain ⟨h66,b55⟩:=ah b55
            cases b55
            simp(config:=cS)only[go_sem,eZt h3,eqT h4,eZf h6,eZf h42,eZf h44,eqF h45,eZt h48,eZt h52,eqT h56,h58,h59,h60,h62,h63,h64,eqT h65,eqT h66]
            refine ap gb55 ?_
            simp(config:=cS)only[go_sem,eZt h3,eqT h4,eZf h6,eZf h42,eZf h44,eqF h45,eZt h48,eZt h52,eqT h56,h58,h59,h60,h62,h63,h64,eqT h65,eqT h66]
           ·cases b55
            have e67:=(ak gb55).symm
            subst e67
            try dsimp only at h
            obtain ⟨r1030,g68,h⟩:=ae h
            simp(config:=cS)only[go_sem,eZt h3,eqT h4,eZf h6,eZf h42,eZf h44,eqF h45,eZt h48,eZt h52,eqF h56]
            refine ag (jM g68) ?_
            obtain ⟨r1031,g69,h⟩:=ae h
            simp(config:=cS)only[go_sem,eZt h3,eqT h4,eZf h6,eZf h42,eZf h44,eqF h45,eZt h48,eZt h52,eqF h56]
            refine ag (aY g69) ?_
            obtain ⟨r1032,g70,h⟩:=ae h
            simp(config:=cS)only[go_sem,eZt h3,eqT h4,eZf h6,eZf h42,eZf h44,eqF h45,eZt h48,eZt h52,eqF h56]
            refine ag (aY g70) ?_
            obtain ⟨r1033,g71,h⟩:=ae h
            simp(config:=cS)only[go_sem,eZt h3,eqT h4,eZf h6,eZf h42,eZf h44,eqF h45,eZt h48,eZt h52,eqF h56]
            refine ag (tL g71) ?_
            obtain ⟨h72,h⟩:=ah h
            obtain ⟨h73,h⟩:=ah h
            obtain ⟨r1034,g74,h⟩:=ae h
            simp(config:=cS)only[go_sem,eZt h3,eqT h4,eZf h6,eZf h42,eZf h44,eqF h45,eZt h48,eZt h52,eqF h56,eqT h72,eqT h73]
            refine ag (aY g74) ?_
            cases h
            simp(config:=cS)only[go_sem,eZt h3,eqT h4,eZf h6,eZf h42,eZf h44,eqF h45,eZt h48,eZt h52,eqF h56,eqT h72,eqT h73]
         ·cases h
          simp(config:=cS)only[go_sem,eZt h3,eqT h4,eZf h6,eZf h42,eZf h44,eqF h45,eZt h48,eZf h52]
        ·cases h
         simp(config:=cS)only[go_sem,eZt h3,eqT h4,eZf h6,eZf h42,eZf h44,eqF h45,eZf h48]
  ·cases h
   simp(config:=cS)only[go_sem,eZt h3,eqF h4]
 ·cases h
  simp(config:=cS)only[go_sem,eZf h3]
def hi29:Hint where
 acts:=fun _=>[]
 draws:=fun
  | _=>⟨.nil,[],[]⟩
theorem Za (i:Nat):hi29.acts i=[]:=rfl
theorem Zb (i:Nat):hi29.views i=none:=rfl
attribute [go_sem] Za Zb Tryz.ntmps29 Tryz.results29
theorem tM {d:GDesk}{ties:List Int}{values:List Int}{res:GDesk × (List Int) × Int}(h:ii d ties values=some res):ao Tryz.prog 29 [.agg (GDesk.encS d),.sl (ab eI ties),.sl (ab eI values)] [] (.tup [.agg [.ref 20000 1 0 res.1.show_.nodes.length,.ref 20001 1 0 res.1.show_.ties.length,.lit (.int .i64 res.1.show_.horizon),.lit (.int .i64 res.1.state.now),.ref 20002 1 0 res.1.state.times.length,.ref 20003 1 0 res.1.state.values.length,.lit (.bool res.1.lazy),.ref 20004 1 0 res.1.log.length],.ref 20005 1 0 res.2.1.length,.lit (.int .i64 res.2.2)]) [(20000,1,.row true (ab GNode.encO res.1.show_.nodes)),(20001,1,.row true (ab GTie.enc res.1.show_.ties)),(20002,1,.row true (ab eI res.1.state.times)),(20003,1,.row true (ab eI res.1.state.values)),(20004,1,.row true (ab GEntry.encO res.1.log)),(20005,1,.row true (ab eI res.2.1))]:=by
 refine aj (ra:=[.homeCell 384 0,.homeCell 384 1,.homeCell 384 4,.homeCell 384 5,.homeCell 384 7,.home 7]) (md:=mdT) hT (hi:=hi29) Tryz.func29 rfl rfl (by decide +kernel) (by simp) ?_
 unfold ii at h
 obtain ⟨r1001,g1,h⟩:=ae h
 simp(config:=cS)only[go_sem]
 refine ag (nx g1) ?_
 cases h
 simp(config:=cS)only[go_sem]
def qY (a:List Int)(b:List Int)(i:Int):St:=⟨[(0,.sl (ab eI a)),(1,.sl (ab eI b)),(5,.lit (.int .i64 i))],[],2⟩
attribute [go_sem] qY
@[go_sem] def hi37_6:DT:=.i2 0 (.i2 1 (.i2 2 (.i2 3 (.i2 4 (.i2 5 (.i2 6 (.i2 7 (.i2 8 .nil))))))))
def hi37:Hint where
 acts:=fun _=>[]
 draws:=fun
  | 6=>⟨hi37_6,[[],[],[0,1],[0,1,2],[],[],[4,5],[4,5,6],.range 8],.range 9⟩
  | _=>⟨.nil,[],[]⟩
theorem Zc (i:Nat):hi37.acts i=[]:=rfl
theorem Zd (i:Nat):hi37.views i=none:=rfl
attribute [go_sem] Zc Zd Tryz.ntmps37 Tryz.results37
@[go_sem] theorem abe:(hi37.draws 6).order=hi37_6:=rfl
theorem cE {a:List Int}{b:List Int}{res:Bool}(h:bp a b=some res):ao Tryz.prog 37 [.sl (ab eI a),.sl (ab eI b)] [] (.lit (.bool res)) []:=by
 refine aj (ra:=[]) (md:=mdT) hT (hi:=hi37) Tryz.func37 rfl rfl (by decide +kernel) (by simp) ?_
 unfold bp at h
 obtain ⟨h1,h⟩|⟨h1,h⟩:=af h
 ·obtain ⟨q1003,l2,h⟩:=ae h
  simp(config:=cS)only[go_sem,eqT h1]
  refine an (m1:=.mk) (m2:=.mk) [.nf [0,1,5] []] (qY a b) l2 ?_ ?_
  ·simp(config:=cS)only[go_sem]
  ·intro nb3 sb3 bb3 b3 gb3
   obtain ⟨i_1,eb3⟩:∃ v,v=sb3:=⟨_,rfl⟩;subst eb3
   unfold gz at b3
   try dsimp only at b3
   obtain ⟨h4,b3⟩|⟨h4,b3⟩:=af b3
   ·obtain ⟨x1001,g5,b3⟩:=ae b3
    obtain ⟨h6,h7,h8⟩:=ai g5
    obtain ⟨x1002,g9,b3⟩:=ae b3
    obtain ⟨h10,h11,h12⟩:=ai g9
    obtain ⟨h13,b3⟩|⟨h13,b3⟩:=af b3
    ·cases b3
     simp(config:=cS)only[go_sem,eqT h4,h6,h7,h8,h10,h11,h12,eqT h13]
     refine ap gb3 ?_
     simp(config:=cS)only[go_sem]
    ·cases b3
     have e14:=(ak gb3).symm
     subst e14
     try dsimp only at h
     cases h
     simp(config:=cS)only[go_sem,eqT h4,h6,h7,h8,h10,h11,h12,eqF h13]
   ·cases b3
    have e15:=(ak gb3).symm
    subst e15
    try dsimp only at h
    cases h
    simp(config:=cS)only[go_sem,eqF h4]
 ·cases h
  simp(config:=cS)only[go_sem,eqF h1]
def Lq:Hint where
 acts:=fun _=>[]
 draws:=fun
  | _=>⟨.nil,[],[]⟩
theorem Wl (i:Nat):Lq.acts i=[]:=rfl
theorem Wm (i:Nat):Lq.views i=none:=rfl
attribute [go_sem] Wl Wm Tryz.ntmps182 Tryz.results182
theorem Eu {a:GNode}{b:GNode}{res:Bool}(h:ml a b=some res):ao Tryz.prog 182 [.agg (GNode.encS a),.agg (GNode.encS b)] [] (.lit (.bool res)) []:=by
 refine aj (ra:=[]) (md:=mdT) hT (hi:=Lq) Tryz.func182 rfl rfl (by decide +kernel) (by simp) ?_
 unfold ml at h
 obtain ⟨h1,h⟩|⟨h1,h⟩:=af h
 ·obtain ⟨r1001,g2,h⟩:=ae h
  simp(config:=cS)only[go_sem,eqT h1]
  refine ag (cE g2) ?_
  obtain ⟨h3,h⟩|⟨h3,h⟩:=af h
  ·obtain ⟨h4,h⟩|⟨h4,h⟩:=af h
   ·cases h
    simp(config:=cS)only[go_sem,eZt h3,eqT h4]
   ·cases h
    simp(config:=cS)only[go_sem,eZt h3,eqF h4]
  ·cases h
   simp(config:=cS)only[go_sem,eZf h3]
 ·cases h
  simp(config:=cS)only[go_sem,eqF h1]
def qy (a:List GNode)(b:List GNode)(i:Int):St:=⟨[(0,.sl (ab GNode.encS a)),(1,.sl (ab GNode.encS b)),(5,.lit (.int .i64 i))],[],2⟩
attribute [go_sem] qy
@[go_sem] def hi102_6:DT:=.i2 0 (.i2 1 (.i2 2 (.i2 3 (.i2 4 (.i2 5 (.i2 6 (.i2 7 (.i2 8 (.i2 9 .nil)))))))))
def Fy:Hint where
 acts:=fun _=>[]
 draws:=fun
  | 6=>⟨hi102_6,[[],[],[0,1],[0,1,2],[],[],[4,5],[4,5,6],.range 8,.range 9],.range 10⟩
  | _=>⟨.nil,[],[]⟩
theorem Wn (i:Nat):Fy.acts i=[]:=rfl
theorem Wo (i:Nat):Fy.views i=none:=rfl
attribute [go_sem] Wn Wo Tryz.ntmps102 Tryz.results102
@[go_sem] theorem aau:(Fy.draws 6).order=hi102_6:=rfl
theorem CI {a:List GNode}{b:List GNode}{res:Bool}(h:lj a b=some res):ao Tryz.prog 102 [.sl (ab GNode.encS a),.sl (ab GNode.encS b)] [] (.lit (.bool res)) []:=by
 refine aj (ra:=[]) (md:=mdT) hT (hi:=Fy) Tryz.func102 rfl rfl (by decide +kernel) (by simp) ?_
 unfold lj at h
 obtain ⟨h1,h⟩|⟨h1,h⟩:=af h
 ·obtain ⟨q1004,l2,h⟩:=ae h
  simp(config:=cS)only[go_sem,eqT h1]
  refine an (m1:=.mk) (m2:=.mk) [.nf [0,1,5] []] (qy a b) l2 ?_ ?_
  ·simp(config:=cS)only[go_sem]
  ·intro nb3 sb3 bb3 b3 gb3
   obtain ⟨i_1,eb3⟩:∃ v,v=sb3:=⟨_,rfl⟩;subst eb3
   unfold iF at b3
   try dsimp only at b3
   obtain ⟨h4,b3⟩|⟨h4,b3⟩:=af b3
   ·obtain ⟨x1001,g5,b3⟩:=ae b3
    obtain ⟨h6,h7,h8⟩:=ai g5
    obtain ⟨x1002,g9,b3⟩:=ae b3
    obtain ⟨h10,h11,h12⟩:=ai g9
    obtain ⟨r1003,g13,b3⟩:=ae b3
    simp(config:=cS)only[go_sem,eqT h4,h6,h7,h8,h10,h11,h12]
    refine ag (Eu g13) ?_
    obtain ⟨h14,b3⟩|⟨h14,b3⟩:=af b3
    ·cases b3
     simp(config:=cS)only[go_sem,eZt h14]
     refine ap gb3 ?_
     simp(config:=cS)only[go_sem]
    ·cases b3
     have e15:=(ak gb3).symm
     subst e15
     try dsimp only at h
     cases h
     simp(config:=cS)only[go_sem,eZf h14]
   ·cases b3
    have e16:=(ak gb3).symm
    subst e16
    try dsimp only at h
    cases h
    simp(config:=cS)only[go_sem,eqF h4]
 ·cases h
  simp(config:=cS)only[go_sem,eqF h1]
def Lr:Hint where
 acts:=fun _=>[]
 draws:=fun
  | _=>⟨.nil,[],[]⟩
theorem Wp (i:Nat):Lr.acts i=[]:=rfl
theorem Wq (i:Nat):Lr.views i=none:=rfl
attribute [go_sem] Wp Wq Tryz.ntmps183 Tryz.results183
theorem Gn {a:GTie}{b:GTie}{res:Bool}(h:qB a b=some res):ao Tryz.prog 183 [.agg (GTie.enc a),.agg (GTie.enc b)] [] (.lit (.bool res)) []:=by
 refine aj (ra:=[]) (md:=mdT) hT (hi:=Lr) Tryz.func183 rfl rfl (by decide +kernel) (by simp) ?_
 unfold qB at h
 obtain ⟨h1,h⟩|⟨h1,h⟩:=af h
 ·obtain ⟨h2,h⟩|⟨h2,h⟩:=af h
  ·obtain ⟨h3,h⟩|⟨h3,h⟩:=af h
   ·obtain ⟨h4,h⟩|⟨h4,h⟩:=af h
    ·obtain ⟨h5,h⟩|⟨h5,h⟩:=af h
     ·cases h
      simp(config:=cS)only[go_sem,eqT h1,eqT h2,eqT h3,eqT h4,eqT h5]
     ·cases h
      simp(config:=cS)only[go_sem,eqT h1,eqT h2,eqT h3,eqT h4,eqF h5]
    ·cases h
     simp(config:=cS)only[go_sem,eqT h1,eqT h2,eqT h3,eqF h4]
   ·cases h
    simp(config:=cS)only[go_sem,eqT h1,eqT h2,eqF h3]
  ·cases h
   simp(config:=cS)only[go_sem,eqT h1,eqF h2]
 ·cases h
  simp(config:=cS)only[go_sem,eqF h1]
def qZ (a:List GTie)(b:List GTie)(i:Int):St:=⟨[(0,.sl (ab GTie.enc a)),(1,.sl (ab GTie.enc b)),(5,.lit (.int .i64 i))],[],2⟩
attribute [go_sem] qZ
@[go_sem] def hi103_6:DT:=.i2 0 (.i2 1 (.i2 2 (.i2 3 (.i2 4 (.i2 5 (.i2 6 (.i2 7 (.i2 8 (.i2 9 .nil)))))))))
def Fz:Hint where
 acts:=fun _=>[]
 draws:=fun
  | 6=>⟨hi103_6,[[],[],[0,1],[0,1,2],[],[],[4,5],[4,5,6],.range 8,.range 9],.range 10⟩
  | _=>⟨.nil,[],[]⟩
theorem Wr (i:Nat):Fz.acts i=[]:=rfl
theorem Ws (i:Nat):Fz.views i=none:=rfl
attribute [go_sem] Wr Ws Tryz.ntmps103 Tryz.results103
@[go_sem] theorem aav:(Fz.draws 6).order=hi103_6:=rfl
theorem Ev {a:List GTie}{b:List GTie}{res:Bool}(h:mm a b=some res):ao Tryz.prog 103 [.sl (ab GTie.enc a),.sl (ab GTie.enc b)] [] (.lit (.bool res)) []:=by
 refine aj (ra:=[]) (md:=mdT) hT (hi:=Fz) Tryz.func103 rfl rfl (by decide +kernel) (by simp) ?_
 unfold mm at h
 obtain ⟨h1,h⟩|⟨h1,h⟩:=af h
 ·obtain ⟨q1004,l2,h⟩:=ae h
  simp(config:=cS)only[go_sem,eqT h1]
  refine an (m1:=.mk) (m2:=.mk) [.nf [0,1,5] []] (qZ a b) l2 ?_ ?_
  ·simp(config:=cS)only[go_sem]
  ·intro nb3 sb3 bb3 b3 gb3
   obtain ⟨i_1,eb3⟩:∃ v,v=sb3:=⟨_,rfl⟩;subst eb3
   unfold jy at b3
   try dsimp only at b3
   obtain ⟨h4,b3⟩|⟨h4,b3⟩:=af b3
   ·obtain ⟨x1001,g5,b3⟩:=ae b3
    obtain ⟨h6,h7,h8⟩:=ai g5
    obtain ⟨x1002,g9,b3⟩:=ae b3
    obtain ⟨h10,h11,h12⟩:=ai g9
    obtain ⟨r1003,g13,b3⟩:=ae b3
    simp(config:=cS)only[go_sem,eqT h4,h6,h7,h8,h10,h11,h12]
    refine ag (Gn g13) ?_
    obtain ⟨h14,b3⟩|⟨h14,b3⟩:=af b3
    ·cases b3
     simp(config:=cS)only[go_sem,eZt h14]
     refine ap gb3 ?_
     simp(config:=cS)only[go_sem]
    ·cases b3
     have e15:=(ak gb3).symm
     subst e15
     try dsimp only at h
     cases h
     simp(config:=cS)only[go_sem,eZf h14]
   ·cases b3
    have e16:=(ak gb3).symm
    subst e16
    try dsimp only at h
    cases h
    simp(config:=cS)only[go_sem,eqF h4]
 ·cases h
  simp(config:=cS)only[go_sem,eqF h1]
def hi38:Hint where
 acts:=fun _=>[]
 draws:=fun
  | _=>⟨.nil,[],[]⟩
theorem Ze (i:Nat):hi38.acts i=[]:=rfl
theorem Zf (i:Nat):hi38.views i=none:=rfl
attribute [go_sem] Ze Zf Tryz.ntmps38 Tryz.results38
theorem Ew {a:GShow}{b:GShow}{res:Bool}(h:mn a b=some res):ao Tryz.prog 38 [.agg (GShow.encS a),.agg (GShow.encS b)] [] (.lit (.bool res)) []:=by
 refine aj (ra:=[]) (md:=mdT) hT (hi:=hi38) Tryz.func38 rfl rfl (by decide +kernel) (by simp) ?_
 unfold mn at h
 obtain ⟨r1001,g1,h⟩:=ae h
 simp(config:=cS)only[go_sem]
 refine ag (CI g1) ?_
 obtain ⟨h2,h⟩|⟨h2,h⟩:=af h
 ·obtain ⟨r1002,g3,h⟩:=ae h
  simp(config:=cS)only[go_sem,eZt h2]
  refine ag (Ev g3) ?_
  obtain ⟨h4,h⟩|⟨h4,h⟩:=af h
  ·obtain ⟨h5,h⟩|⟨h5,h⟩:=af h
   ·cases h
    simp(config:=cS)only[go_sem,eZt h4,eqT h5]
   ·cases h
    simp(config:=cS)only[go_sem,eZt h4,eqF h5]
  ·cases h
   simp(config:=cS)only[go_sem,eZf h4]
 ·cases h
  simp(config:=cS)only[go_sem,eZf h2]
def Ls:Hint where
 acts:=fun _=>[]
 draws:=fun
  | _=>⟨.nil,[],[]⟩
theorem Wt (i:Nat):Ls.acts i=[]:=rfl
theorem Wu (i:Nat):Ls.views i=none:=rfl
attribute [go_sem] Wt Wu Tryz.ntmps114 Tryz.results114
theorem CJ {a:GState}{b:GState}{res:Bool}(h:lp a b=some res):ao Tryz.prog 114 [.agg (GState.encS a),.agg (GState.encS b)] [] (.lit (.bool res)) []:=by
 refine aj (ra:=[]) (md:=mdT) hT (hi:=Ls) Tryz.func114 rfl rfl (by decide +kernel) (by simp) ?_
 unfold lp at h
 obtain ⟨h1,h⟩|⟨h1,h⟩:=af h
 ·obtain ⟨r1001,g2,h⟩:=ae h
  simp(config:=cS)only[go_sem,eqT h1]
  refine ag (cE g2) ?_
  obtain ⟨h3,h⟩|⟨h3,h⟩:=af h
  ·obtain ⟨r1002,g4,h⟩:=ae h
   simp(config:=cS)only[go_sem,eZt h3]
   refine ag (cE g4) ?_
   obtain ⟨h5,h⟩|⟨h5,h⟩:=af h
   ·cases h
    simp(config:=cS)only[go_sem,eZt h5]
   ·cases h
    simp(config:=cS)only[go_sem,eZf h5]
  ·cases h
   simp(config:=cS)only[go_sem,eZf h3]
 ·cases h
  simp(config:=cS)only[go_sem,eqF h1]
def Lt:Hint where
 acts:=fun _=>[]
 draws:=fun
  | _=>⟨.nil,[],[]⟩
theorem Wv (i:Nat):Lt.acts i=[]:=rfl
theorem Ww (i:Nat):Lt.views i=none:=rfl
attribute [go_sem] Wv Ww Tryz.ntmps195 Tryz.results195
theorem CK {a:GEntry}{b:GEntry}{res:Bool}(h:lq a b=some res):ao Tryz.prog 195 [.agg (GEntry.encS a),.agg (GEntry.encS b)] [] (.lit (.bool res)) []:=by
 refine aj (ra:=[]) (md:=mdT) hT (hi:=Lt) Tryz.func195 rfl rfl (by decide +kernel) (by simp) ?_
 unfold lq at h
 obtain ⟨h1,h⟩|⟨h1,h⟩:=af h
 ·obtain ⟨r1001,g2,h⟩:=ae h
  simp(config:=cS)only[go_sem,eqT h1]
  refine ag (cE g2) ?_
  obtain ⟨h3,h⟩|⟨h3,h⟩:=af h
  ·obtain ⟨r1002,g4,h⟩:=ae h
   simp(config:=cS)only[go_sem,eZt h3]
   refine ag (cE g4) ?_
   obtain ⟨h5,h⟩|⟨h5,h⟩:=af h
   ·obtain ⟨r1003,g6,h⟩:=ae h
    simp(config:=cS)only[go_sem,eZt h5]
    refine ag (cE g6) ?_
    obtain ⟨h7,h⟩|⟨h7,h⟩:=af h
    ·cases h
     simp(config:=cS)only[go_sem,eZt h7]
    ·cases h
     simp(config:=cS)only[go_sem,eZf h7]
   ·cases h
    simp(config:=cS)only[go_sem,eZf h5]
  ·cases h
   simp(config:=cS)only[go_sem,eZf h3]
 ·cases h
  simp(config:=cS)only[go_sem,eqF h1]
def pB (a:List GEntry)(b:List GEntry)(i:Int):St:=⟨[(0,.sl (ab GEntry.encS a)),(1,.sl (ab GEntry.encS b)),(5,.lit (.int .i64 i))],[],2⟩
attribute [go_sem] pB
@[go_sem] def hi115_6:DT:=.i2 0 (.i2 1 (.i2 2 (.i2 3 (.i2 4 (.i2 5 (.i2 6 (.i2 7 (.i2 8 (.i2 9 .nil)))))))))
def FA:Hint where
 acts:=fun _=>[]
 draws:=fun
  | 6=>⟨hi115_6,[[],[],[0,1],[0,1,2],[],[],[4,5],[4,5,6],.range 8,.range 9],.range 10⟩
  | _=>⟨.nil,[],[]⟩
theorem Wx (i:Nat):FA.acts i=[]:=rfl
theorem Wy (i:Nat):FA.views i=none:=rfl
attribute [go_sem] Wx Wy Tryz.ntmps115 Tryz.results115
@[go_sem] theorem aaw:(FA.draws 6).order=hi115_6:=rfl
theorem Bg {a:List GEntry}{b:List GEntry}{res:Bool}(h:kh a b=some res):ao Tryz.prog 115 [.sl (ab GEntry.encS a),.sl (ab GEntry.encS b)] [] (.lit (.bool res)) []:=by
 refine aj (ra:=[]) (md:=mdT) hT (hi:=FA) Tryz.func115 rfl rfl (by decide +kernel) (by simp) ?_
 unfold kh at h
 obtain ⟨h1,h⟩|⟨h1,h⟩:=af h
 ·obtain ⟨q1004,l2,h⟩:=ae h
  simp(config:=cS)only[go_sem,eqT h1]
  refine an (m1:=.mk) (m2:=.mk) [.nf [0,1,5] []] (pB a b) l2 ?_ ?_
  ·simp(config:=cS)only[go_sem]
  ·intro nb3 sb3 bb3 b3 gb3
   obtain ⟨i_1,eb3⟩:∃ v,v=sb3:=⟨_,rfl⟩;subst eb3
   unfold hU at b3
   try dsimp only at b3
   obtain ⟨h4,b3⟩|⟨h4,b3⟩:=af b3
   ·obtain ⟨x1001,g5,b3⟩:=ae b3
    obtain ⟨h6,h7,h8⟩:=ai g5
    obtain ⟨x1002,g9,b3⟩:=ae b3
    obtain ⟨h10,h11,h12⟩:=ai g9
    obtain ⟨r1003,g13,b3⟩:=ae b3
    simp(config:=cS)only[go_sem,eqT h4,h6,h7,h8,h10,h11,h12]
    refine ag (CK g13) ?_
    obtain ⟨h14,b3⟩|⟨h14,b3⟩:=af b3
    ·cases b3
     simp(config:=cS)only[go_sem,eZt h14]
     refine ap gb3 ?_
     simp(config:=cS)only[go_sem]
    ·cases b3
     have e15:=(ak gb3).symm
     subst e15
     try dsimp only at h
     cases h
     simp(config:=cS)only[go_sem,eZf h14]
   ·cases b3
    have e16:=(ak gb3).symm
    subst e16
    try dsimp only at h
    cases h
    simp(config:=cS)only[go_sem,eqF h4]
 ·cases h
  simp(config:=cS)only[go_sem,eqF h1]
def hi48:Hint where
 acts:=fun _=>[]
 draws:=fun
  | _=>⟨.nil,[],[]⟩
theorem Zg (i:Nat):hi48.acts i=[]:=rfl
theorem Zh (i:Nat):hi48.views i=none:=rfl
attribute [go_sem] Zg Zh Tryz.ntmps48 Tryz.results48
theorem oL {a:GDesk}{b:GDesk}{res:Bool}(h:fK a b=some res):ao Tryz.prog 48 [.agg (GDesk.encS a),.agg (GDesk.encS b)] [] (.lit (.bool res)) []:=by
 refine aj (ra:=[]) (md:=mdT) hT (hi:=hi48) Tryz.func48 rfl rfl (by decide +kernel) (by simp) ?_
 unfold fK at h
 obtain ⟨r1001,g1,h⟩:=ae h
 simp(config:=cS)only[go_sem]
 refine ag (Ew g1) ?_
 obtain ⟨h2,h⟩|⟨h2,h⟩:=af h
 ·obtain ⟨r1002,g3,h⟩:=ae h
  simp(config:=cS)only[go_sem,eZt h2]
  refine ag (CJ g3) ?_
  obtain ⟨h4,h⟩|⟨h4,h⟩:=af h
  ·obtain ⟨h5,h⟩|⟨h5,h⟩:=af h
   ·obtain ⟨r1003,g6,h⟩:=ae h
    simp(config:=cS)only[go_sem,eZt h4,eqT h5]
    refine ag (Bg g6) ?_
    obtain ⟨h7,h⟩|⟨h7,h⟩:=af h
    ·cases h
     simp(config:=cS)only[go_sem,eZt h7]
    ·cases h
     simp(config:=cS)only[go_sem,eZf h7]
   ·cases h
    simp(config:=cS)only[go_sem,eZt h4,eqF h5]
  ·cases h
   simp(config:=cS)only[go_sem,eZf h4]
 ·cases h
  simp(config:=cS)only[go_sem,eZf h2]
def pC  : (Int × ByteArray)→St
 | (k,out)=>⟨[(0,.lit (.int .i64 k)),(3,.lit (.string out))],[],2⟩
attribute [go_sem] pC
def Lu:Hint where
 acts:=fun _=>[]
 draws:=fun
  | _=>⟨.nil,[],[]⟩
theorem Wz (i:Nat):Lu.acts i=[]:=rfl
theorem WA (i:Nat):Lu.views i=none:=rfl
attribute [go_sem] Wz WA Tryz.ntmps184 Tryz.results184
theorem tN {k:Int}{res:ByteArray}(h:dK k=some res):ao Tryz.prog 184 [.lit (.int .i64 k)] [] (.lit (.string res)) []:=by
 refine aj (ra:=[]) (md:=mdT) hT (hi:=Lu) Tryz.func184 rfl rfl (by decide +kernel) (by simp) ?_
 unfold dK at h
 obtain ⟨h1,h⟩|⟨h1,h⟩:=af h
 ·cases h
  simp(config:=cS)only[go_sem,eqT h1]
 ·obtain ⟨q1001,l2,h⟩:=ae h
  simp(config:=cS)only[go_sem,eqF h1]
  refine an (m1:=.mk) (m2:=.mk) [.nf [0,3] []] (pC) l2 ?_ ?_
  ·simp(config:=cS)only[go_sem]
  ·intro nb3 sb3 bb3 b3 gb3
   obtain ⟨k_1,out_1⟩:=sb3
   unfold eL at b3
   try dsimp only at b3
   obtain ⟨h4,b3⟩|⟨h4,b3⟩:=af b3
   ·obtain ⟨h5,b3⟩:=ah b3
    cases b3
    simp(config:=cS)only[go_sem,eqT h4,eqT h5]
    refine ap gb3 ?_
    simp(config:=cS)only[go_sem]
   ·cases b3
    have e6:=(ak gb3).symm
    subst e6
    try dsimp only at h
    obtain ⟨h7,h⟩:=ah h
    cases h
    simp(config:=cS)only[go_sem,eqF h4,eqT h7]
def pD (zb0:Bool)  : (Int × Int × (List Int))→St
 | (k,i,a)=>⟨[(0,.ref 10000 0 0 a.length),(1,.lit (.int .i64 k)),(5,.lit (.int .i64 i))],[(10000,0,.row zb0 (ab eI a))],2⟩
attribute [go_sem] pD
def hi42:Hint where
 acts:=fun _=>[]
 draws:=fun
  | _=>⟨.nil,[],[]⟩
theorem Zi (i:Nat):hi42.acts i=[]:=rfl
theorem Zj (i:Nat):hi42.views i=none:=rfl
attribute [go_sem] Zi Zj Tryz.ntmps42 Tryz.results42
theorem cP {a:List Int}{k:Int}{zb0:Bool}{res:Int × (List Int)}(h:bw a k=some res):ao Tryz.prog 42 [.ref 10000 0 0 a.length,.lit (.int .i64 k)] [(10000,0,.row zb0 (ab eI a))] (.lit (.int .i64 res.1)) [(10000,0,.row zb0 (ab eI res.2))]:=by
 refine aj (ra:=[]) (md:=mdT) hT (hi:=hi42) Tryz.func42 rfl rfl (by decide +kernel) (by simp) ?_
 unfold bw at h
 obtain ⟨q1002,l1,h⟩:=ae h
 simp(config:=cS)only[go_sem]
 refine an (m1:=.mk) (m2:=.mk) [.nf [0,1,5] [10000]] (pD zb0) l1 ?_ ?_
 ·simp(config:=cS)only[go_sem]
 ·intro nb2 sb2 bb2 b2 gb2
  obtain ⟨k_1,i_1,a_1⟩:=sb2
  unfold gY at b2
  try dsimp only at b2
  obtain ⟨h3,b2⟩|⟨h3,b2⟩:=af b2
  ·obtain ⟨x1001,g4,b2⟩:=ae b2
   obtain ⟨h5,h6,h7⟩:=ai g4
   cases b2
   simp(config:=cS)only[go_sem,eqT h3,h5,h6,h7]
   refine ap gb2 ?_
   simp(config:=cS)only[go_sem]
  ·cases b2
   have e8:=(ak gb2).symm
   subst e8
   try dsimp only at h
   cases h
   simp(config:=cS)only[go_sem,eqF h3]
def ow (zb0:Bool)  : (Int × Int × (List GNode))→St
 | (k,i,a)=>⟨[(0,.ref 10000 0 0 a.length),(1,.lit (.int .i64 k)),(5,.lit (.int .i64 i))],[(10000,0,.row zb0 (ab GNode.encO a))],2⟩
attribute [go_sem] ow
def oM:Hint where
 acts:=fun _=>[]
 views:=fun
  | 6=>some (4,1)
  | _=>none
 draws:=fun
  | _=>⟨.nil,[],[]⟩
theorem WB (i:Nat):oM.acts i=[]:=rfl
@[go_sem] theorem aax:oM.views 0=none:=rfl
@[go_sem] theorem aay:oM.views 1=none:=rfl
@[go_sem] theorem aaz:oM.views 2=none:=rfl
@[go_sem] theorem aaA:oM.views 4=none:=rfl
@[go_sem] theorem aaB:oM.views 5=none:=rfl
@[go_sem] theorem aaC:oM.views 6=some (4,1):=rfl
@[go_sem] theorem aaD:oM.views 7=none:=rfl
@[go_sem] theorem aaE:oM.views 8=none:=rfl
@[go_sem] theorem aaF:oM.views 3=none:=rfl
@[go_sem] theorem aaG:oM.views 9=none:=rfl
attribute [go_sem] WB Tryz.ntmps104 Tryz.results104
theorem zd {a:List GNode}{k:Int}{zb0:Bool}{res:Int × (List GNode)}(h:dZ a k=some res):ao Tryz.prog 104 [.ref 10000 0 0 a.length,.lit (.int .i64 k)] [(10000,0,.row zb0 (ab GNode.encO a))] (.lit (.int .i64 res.1)) [(10000,0,.row zb0 (ab GNode.encO res.2))]:=by
 refine aj (ra:=[]) (md:=mdT) hT (hi:=oM) Tryz.func104 rfl rfl (by decide +kernel) (by simp) ?_
 unfold dZ at h
 obtain ⟨q1006,l1,h⟩:=ae h
 simp(config:=cS)only[go_sem]
 refine an (m1:=.mk) (m2:=.mk) [.nf [0,1,5] [10000]] (ow zb0) l1 ?_ ?_
 ·simp(config:=cS)only[go_sem]
 ·intro nb2 sb2 bb2 b2 gb2
  obtain ⟨k_1,i_1,a_1⟩:=sb2
  unfold cg at b2
  try dsimp only at b2
  obtain ⟨h3,b2⟩|⟨h3,b2⟩:=af b2
  ·obtain ⟨r1001,g4,b2⟩:=ae b2
   simp(config:=cS)only[go_sem,eqT h3]
   refine ag (tN g4) ?_
   obtain ⟨x1002,g5,b2⟩:=ae b2
   obtain ⟨h6,h7,h8⟩:=ai g5
   obtain ⟨x1003,g9,b2⟩:=ae b2
   obtain ⟨h10,h11,h12⟩:=ai g9
   obtain ⟨r1004,g13,b2⟩:=ae b2
   obtain ⟨h14,b2⟩:=ah b2
   simp(config:=cS)only[go_sem,eqT h3,h6,h7,h8,h10,h11,h12]
   refine uW h14 (by simp only [go_sem]) (cP g13) ?_
   obtain ⟨x1005,g15,b2⟩:=ae b2
   obtain ⟨h16,h17,h18⟩:=ai g15
   cases b2
   simp(config:=cS)only[go_sem,eqT h3,h6,h7,h8,h10,h11,h12,h16,h17,h18]
   refine ap gb2 ?_
   simp(config:=cS)only[go_sem,eqT h3,h6,h7,h8,h10,h11,h12,h16,h17,h18]
  ·cases b2
   have e19:=(ak gb2).symm
   subst e19
   try dsimp only at h
   cases h
   simp(config:=cS)only[go_sem,eqF h3]
def pE (zb0:Bool)  : (Int × Int × (List GTie))→St
 | (k,i,a)=>⟨[(0,.ref 10000 0 0 a.length),(1,.lit (.int .i64 k)),(5,.lit (.int .i64 i))],[(10000,0,.row zb0 (ab GTie.enc a))],2⟩
attribute [go_sem] pE
def Lv:Hint where
 acts:=fun _=>[]
 draws:=fun
  | _=>⟨.nil,[],[]⟩
theorem WC (i:Nat):Lv.acts i=[]:=rfl
theorem WD (i:Nat):Lv.views i=none:=rfl
attribute [go_sem] WC WD Tryz.ntmps105 Tryz.results105
theorem Bh {a:List GTie}{k:Int}{zb0:Bool}{res:Int × (List GTie)}(h:ff a k=some res):ao Tryz.prog 105 [.ref 10000 0 0 a.length,.lit (.int .i64 k)] [(10000,0,.row zb0 (ab GTie.enc a))] (.lit (.int .i64 res.1)) [(10000,0,.row zb0 (ab GTie.enc res.2))]:=by
 refine aj (ra:=[]) (md:=mdT) hT (hi:=Lv) Tryz.func105 rfl rfl (by decide +kernel) (by simp) ?_
 unfold ff at h
 obtain ⟨q1006,l1,h⟩:=ae h
 simp(config:=cS)only[go_sem]
 refine an (m1:=.mk) (m2:=.mk) [.nf [0,1,5] [10000]] (pE zb0) l1 ?_ ?_
 ·simp(config:=cS)only[go_sem]
 ·intro nb2 sb2 bb2 b2 gb2
  obtain ⟨k_1,i_1,a_1⟩:=sb2
  unfold cA at b2
  try dsimp only at b2
  obtain ⟨h3,b2⟩|⟨h3,b2⟩:=af b2
  ·obtain ⟨x1001,g4,b2⟩:=ae b2
   obtain ⟨h5,h6,h7⟩:=ai g4
   obtain ⟨x1002,g8,b2⟩:=ae b2
   obtain ⟨h9,h10,h11⟩:=ai g8
   obtain ⟨x1003,g12,b2⟩:=ae b2
   obtain ⟨h13,h14,h15⟩:=ai g12
   obtain ⟨x1004,g16,b2⟩:=ae b2
   obtain ⟨h17,h18,h19⟩:=ai g16
   obtain ⟨x1005,g20,b2⟩:=ae b2
   obtain ⟨h21,h22,h23⟩:=ai g20
   cases b2
   simp(config:=cS)only[go_sem,eqT h3,h5,h6,h7,h9,h10,h11,h13,h14,h15,h17,h18,h19,h21,h22,h23]
   refine ap gb2 ?_
   simp(config:=cS)only[go_sem]
  ·cases b2
   have e24:=(ak gb2).symm
   subst e24
   try dsimp only at h
   cases h
   simp(config:=cS)only[go_sem,eqF h3]
def hi40:Hint where
 acts:=fun _=>[]
 draws:=fun
  | _=>⟨.nil,[],[]⟩
theorem Zk (i:Nat):hi40.acts i=[]:=rfl
theorem Zl (i:Nat):hi40.views i=none:=rfl
attribute [go_sem] Zk Zl Tryz.ntmps40 Tryz.results40
theorem Bi {a:GShow}{k:Int}{zb0:Bool}{zb1:Bool}{res:Int × (List GNode) × (List GTie)}(h:fg a k=some res):ao Tryz.prog 40 [.agg [.ref 10000 0 0 a.nodes.length,.ref 10001 0 0 a.ties.length,.lit (.int .i64 a.horizon)],.lit (.int .i64 k)] [(10000,0,.row zb0 (ab GNode.encO a.nodes)),(10001,0,.row zb1 (ab GTie.enc a.ties))] (.lit (.int .i64 res.1)) [(10000,0,.row zb0 (ab GNode.encO res.2.1)),(10001,0,.row zb1 (ab GTie.enc res.2.2))]:=by
 refine aj (ra:=[]) (md:=mdT) hT (hi:=hi40) Tryz.func40 rfl rfl (by decide +kernel) (by simp) ?_
 unfold fg at h
 obtain ⟨r1001,g1,h⟩:=ae h
 simp(config:=cS)only[go_sem]
 refine ag (zd g1) ?_
 obtain ⟨r1002,g2,h⟩:=ae h
 simp(config:=cS)only[go_sem]
 refine ag (Bh g2) ?_
 cases h
 simp(config:=cS)only[go_sem]
def Lw:Hint where
 acts:=fun _=>[]
 draws:=fun
  | _=>⟨.nil,[],[]⟩
theorem WE (i:Nat):Lw.acts i=[]:=rfl
theorem WF (i:Nat):Lw.views i=none:=rfl
attribute [go_sem] WE WF Tryz.ntmps116 Tryz.results116
theorem ze {a:GState}{k:Int}{zb0:Bool}{zb1:Bool}{res:Int × (List Int) × (List Int)}(h:lL a k=some res):ao Tryz.prog 116 [.agg [.lit (.int .i64 a.now),.ref 10000 0 0 a.times.length,.ref 10001 0 0 a.values.length],.lit (.int .i64 k)] [(10000,0,.row zb0 (ab eI a.times)),(10001,0,.row zb1 (ab eI a.values))] (.lit (.int .i64 res.1)) [(10000,0,.row zb0 (ab eI res.2.1)),(10001,0,.row zb1 (ab eI res.2.2))]:=by
 refine aj (ra:=[]) (md:=mdT) hT (hi:=Lw) Tryz.func116 rfl rfl (by decide +kernel) (by simp) ?_
 unfold lL at h
 obtain ⟨r1001,g1,h⟩:=ae h
 simp(config:=cS)only[go_sem]
 refine ag (cP g1) ?_
 obtain ⟨r1002,g2,h⟩:=ae h
 simp(config:=cS)only[go_sem]
 refine ag (cP g2) ?_
 cases h
 simp(config:=cS)only[go_sem]
def nN (zb0:Bool)  : (Int × Int × (List GEntry))→St
 | (k,i,a)=>⟨[(0,.ref 10000 0 0 a.length),(1,.lit (.int .i64 k)),(5,.lit (.int .i64 i))],[(10000,0,.row zb0 (ab GEntry.encO a))],2⟩
attribute [go_sem] nN
def oN:Hint where
 acts:=fun _=>[]
 views:=fun
  | 6=>some (4,1)
  | 7=>some (4,1)
  | 8=>some (4,1)
  | _=>none
 draws:=fun
  | _=>⟨.nil,[],[]⟩
theorem WG (i:Nat):oN.acts i=[]:=rfl
@[go_sem] theorem aaH:oN.views 0=none:=rfl
@[go_sem] theorem aaI:oN.views 1=none:=rfl
@[go_sem] theorem aaJ:oN.views 2=none:=rfl
@[go_sem] theorem aaK:oN.views 4=none:=rfl
@[go_sem] theorem aaL:oN.views 5=none:=rfl
@[go_sem] theorem aaM:oN.views 6=some (4,1):=rfl
@[go_sem] theorem aaN:oN.views 7=some (4,1):=rfl
@[go_sem] theorem aaO:oN.views 8=some (4,1):=rfl
@[go_sem] theorem aaP:oN.views 3=none:=rfl
@[go_sem] theorem aaQ:oN.views 9=none:=rfl
attribute [go_sem] WG Tryz.ntmps117 Tryz.results117
theorem xQ {a:List GEntry}{k:Int}{zb0:Bool}{res:Int × (List GEntry)}(h:iG a k=some res):ao Tryz.prog 117 [.ref 10000 0 0 a.length,.lit (.int .i64 k)] [(10000,0,.row zb0 (ab GEntry.encO a))] (.lit (.int .i64 res.1)) [(10000,0,.row zb0 (ab GEntry.encO res.2))]:=by
 refine aj (ra:=[]) (md:=mdT) hT (hi:=oN) Tryz.func117 rfl rfl (by decide +kernel) (by simp) ?_
 unfold iG at h
 obtain ⟨q1008,l1,h⟩:=ae h
 simp(config:=cS)only[go_sem]
 refine an (m1:=.mk) (m2:=.mk) [.nf [0,1,5] [10000]] (nN zb0) l1 ?_ ?_
 ·simp(config:=cS)only[go_sem]
 ·intro nb2 sb2 bb2 b2 gb2
  obtain ⟨k_1,i_1,a_1⟩:=sb2
  unfold dw at b2
  try dsimp only at b2
  obtain ⟨h3,b2⟩|⟨h3,b2⟩:=af b2
  ·obtain ⟨x1001,g4,b2⟩:=ae b2
   obtain ⟨h5,h6,h7⟩:=ai g4
   obtain ⟨x1002,g8,b2⟩:=ae b2
   obtain ⟨h9,h10,h11⟩:=ai g8
   obtain ⟨r1003,g12,b2⟩:=ae b2
   obtain ⟨h13,b2⟩:=ah b2
   simp(config:=cS)only[go_sem,eqT h3,h5,h6,h7,h9,h10,h11]
   refine uW h13 (by simp only [go_sem]) (cP g12) ?_
   obtain ⟨x1004,g14,b2⟩:=ae b2
   obtain ⟨h15,h16,h17⟩:=ai g14
   obtain ⟨r1005,g18,b2⟩:=ae b2
   obtain ⟨h19,b2⟩:=ah b2
   simp(config:=cS)only[go_sem,eqT h3,h5,h6,h7,h9,h10,h11,h15,h16,h17]
   refine uW h19 (by simp only [go_sem]) (cP g18) ?_
   obtain ⟨x1006,g20,b2⟩:=ae b2
   obtain ⟨h21,h22,h23⟩:=ai g20
   obtain ⟨r1007,g24,b2⟩:=ae b2
   obtain ⟨h25,b2⟩:=ah b2
   simp(config:=cS)only[go_sem,eqT h3,h5,h6,h7,h9,h10,h11,h15,h16,h17,h21,h22,h23]
   refine uW h25 (by simp only [go_sem]) (cP g24) ?_
   cases b2
   simp(config:=cS)only[go_sem,eqT h3,h5,h6,h7,h9,h10,h11,h15,h16,h17,h21,h22,h23]
   refine ap gb2 ?_
   simp(config:=cS)only[go_sem,eqT h3,h5,h6,h7,h9,h10,h11,h15,h16,h17,h21,h22,h23]
  ·cases b2
   have e26:=(ak gb2).symm
   subst e26
   try dsimp only at h
   cases h
   simp(config:=cS)only[go_sem,eqF h3]
def hi49:Hint where
 acts:=fun _=>[]
 draws:=fun
  | _=>⟨.nil,[],[]⟩
theorem Zm (i:Nat):hi49.acts i=[]:=rfl
theorem Zn (i:Nat):hi49.views i=none:=rfl
attribute [go_sem] Zm Zn Tryz.ntmps49 Tryz.results49
theorem tO {a:GDesk}{k:Int}{zb0:Bool}{zb1:Bool}{zb2:Bool}{zb3:Bool}{zb4:Bool}{res:Int × (List GNode) × (List GTie) × (List Int) × (List Int) × (List GEntry)}(h:ik a k=some res):ao Tryz.prog 49 [.agg [.ref 10000 0 0 a.show_.nodes.length,.ref 10001 0 0 a.show_.ties.length,.lit (.int .i64 a.show_.horizon),.lit (.int .i64 a.state.now),.ref 10002 0 0 a.state.times.length,.ref 10003 0 0 a.state.values.length,.lit (.bool a.lazy),.ref 10004 0 0 a.log.length],.lit (.int .i64 k)] [(10000,0,.row zb0 (ab GNode.encO a.show_.nodes)),(10001,0,.row zb1 (ab GTie.enc a.show_.ties)),(10002,0,.row zb2 (ab eI a.state.times)),(10003,0,.row zb3 (ab eI a.state.values)),(10004,0,.row zb4 (ab GEntry.encO a.log))] (.lit (.int .i64 res.1)) [(10000,0,.row zb0 (ab GNode.encO res.2.1)),(10001,0,.row zb1 (ab GTie.enc res.2.2.1)),(10002,0,.row zb2 (ab eI res.2.2.2.1)),(10003,0,.row zb3 (ab eI res.2.2.2.2.1)),(10004,0,.row zb4 (ab GEntry.encO res.2.2.2.2.2))]:=by
 refine aj (ra:=[]) (md:=mdT) hT (hi:=hi49) Tryz.func49 rfl rfl (by decide +kernel) (by simp) ?_
 unfold ik at h
 obtain ⟨r1001,g1,h⟩:=ae h
 simp(config:=cS)only[go_sem]
 refine ag (Bi g1) ?_
 obtain ⟨r1002,g2,h⟩:=ae h
 simp(config:=cS)only[go_sem]
 refine ag (ze g2) ?_
 obtain ⟨r1003,g3,h⟩:=ae h
 simp(config:=cS)only[go_sem]
 refine ag (xQ g3) ?_
 cases h
 simp(config:=cS)only[go_sem]
def pF (a:List Int):(Int × Int)→St
 | (k,i)=>⟨[(0,.sl (ab eI a)),(1,.lit (.int .i64 k)),(5,.lit (.int .i64 i))],[],2⟩
attribute [go_sem] pF
def hi43:Hint where
 acts:=fun _=>[]
 draws:=fun
  | _=>⟨.nil,[],[]⟩
theorem Zo (i:Nat):hi43.acts i=[]:=rfl
theorem Zp (i:Nat):hi43.views i=none:=rfl
attribute [go_sem] Zo Zp Tryz.ntmps43 Tryz.results43
theorem dJ {a:List Int}{k:Int}{res:Int}(h:bM a k=some res):ao Tryz.prog 43 [.sl (ab eI a),.lit (.int .i64 k)] [] (.lit (.int .i64 res)) []:=by
 refine aj (ra:=[]) (md:=mdT) hT (hi:=hi43) Tryz.func43 rfl rfl (by decide +kernel) (by simp) ?_
 unfold bM at h
 obtain ⟨q1002,l1,h⟩:=ae h
 simp(config:=cS)only[go_sem]
 refine an (m1:=.mk) (m2:=.mk) [.nf [0,1,5] []] (pF a) l1 ?_ ?_
 ·simp(config:=cS)only[go_sem]
 ·intro nb2 sb2 bb2 b2 gb2
  obtain ⟨k_1,i_1⟩:=sb2
  unfold gZ at b2
  try dsimp only at b2
  obtain ⟨h3,b2⟩|⟨h3,b2⟩:=af b2
  ·obtain ⟨x1001,g4,b2⟩:=ae b2
   obtain ⟨h5,h6,h7⟩:=ai g4
   obtain ⟨h8,b2⟩|⟨h8,b2⟩:=af b2
   ·cases b2
    simp(config:=cS)only[go_sem,eqT h3,h5,h6,h7,eqT h8]
    refine ap gb2 ?_
    simp(config:=cS)only[go_sem]
   ·cases b2
    have e9:=(ak gb2).symm
    subst e9
    try dsimp only at h
    cases h
    simp(config:=cS)only[go_sem,eqT h3,h5,h6,h7,eqF h8]
  ·cases b2
   have e10:=(ak gb2).symm
   subst e10
   try dsimp only at h
   cases h
   simp(config:=cS)only[go_sem,eqF h3]
def oz (a:List GNode):(Int × Int)→St
 | (k,i)=>⟨[(0,.sl (ab GNode.encS a)),(1,.lit (.int .i64 k)),(5,.lit (.int .i64 i))],[],2⟩
attribute [go_sem] oz
@[go_sem] def hi196_4:DT:=.i2 0 (.i2 1 (.i1 2 (.i1 3 (.i1 4 (.i2 5 (.i0 6 [2,3,4] (.i2 7 .nil)))))))
def FB:Hint where
 acts:=fun _=>[]
 draws:=fun
  | 4=>⟨hi196_4,[[],[],[0,1],[0,1,2],[0,1,2,3],[],[5],.range 7],.range 8⟩
  | _=>⟨.nil,[],[]⟩
theorem WH (i:Nat):FB.acts i=[]:=rfl
theorem WI (i:Nat):FB.views i=none:=rfl
attribute [go_sem] WH WI Tryz.ntmps196 Tryz.results196
@[go_sem] theorem aaR:(FB.draws 4).order=hi196_4:=rfl
theorem zf {a:List GNode}{k:Int}{res:Int}(h:jz a k=some res):ao Tryz.prog 196 [.sl (ab GNode.encS a),.lit (.int .i64 k)] [] (.lit (.int .i64 res)) []:=by
 refine aj (ra:=[]) (md:=mdT) hT (hi:=FB) Tryz.func196 rfl rfl (by decide +kernel) (by simp) ?_
 unfold jz at h
 obtain ⟨q1004,l1,h⟩:=ae h
 simp(config:=cS)only[go_sem]
 refine an (m1:=.mk) (m2:=.mk) [.nf [0,1,5] []] (oz a) l1 ?_ ?_
 ·simp(config:=cS)only[go_sem]
 ·intro nb2 sb2 bb2 b2 gb2
  obtain ⟨k_1,i_1⟩:=sb2
  unfold ga at b2
  try dsimp only at b2
  obtain ⟨h3,b2⟩|⟨h3,b2⟩:=af b2
  ·obtain ⟨x1001,g4,b2⟩:=ae b2
   obtain ⟨h5,h6,h7⟩:=ai g4
   obtain ⟨r1002,g8,b2⟩:=ae b2
   simp(config:=cS)only[go_sem,eqT h3,h5,h6,h7]
   refine ag (tN g8) ?_
   obtain ⟨h9,b2⟩|⟨h9,b2⟩:=af b2
   ·obtain ⟨r1003,g10,b2⟩:=ae b2
    simp(config:=cS)only[go_sem,eqT h3,h5,h6,h7,eqT h9]
    refine ag (dJ g10) ?_
    obtain ⟨h11,b2⟩|⟨h11,b2⟩:=af b2
    ·cases b2
     have e12:=(ak gb2).symm
     subst e12
     try dsimp only at h
     cases h
     simp(config:=cS)only[go_sem,eqT h3,h5,h6,h7,eqT h9,eqT h11]
    ·obtain ⟨h13,b2⟩|⟨h13,b2⟩:=af b2
     ·cases b2
      simp(config:=cS)only[go_sem,eqT h3,h5,h6,h7,eqT h9,eqF h11,eqT h13]
      refine ap gb2 ?_
      simp(config:=cS)only[go_sem,eqT h3,h5,h6,h7,eqT h9,eqF h11,eqT h13]
     ·cases b2
      have e14:=(ak gb2).symm
      subst e14
      try dsimp only at h
      cases h
      simp(config:=cS)only[go_sem,eqT h3,h5,h6,h7,eqT h9,eqF h11,eqF h13]
   ·cases b2
    have e15:=(ak gb2).symm
    subst e15
    try dsimp only at h
    cases h
    simp(config:=cS)only[go_sem,eqT h3,h5,h6,h7,eqF h9]
  ·cases b2
   have e16:=(ak gb2).symm
   subst e16
   try dsimp only at h
   cases h
   simp(config:=cS)only[go_sem,eqF h3]
def pG (a:List GTie):(Int × Int)→St
 | (k,i)=>⟨[(0,.sl (ab GTie.enc a)),(1,.lit (.int .i64 k)),(5,.lit (.int .i64 i))],[],2⟩
attribute [go_sem] pG
def Lx:Hint where
 acts:=fun _=>[]
 draws:=fun
  | _=>⟨.nil,[],[]⟩
theorem WJ (i:Nat):Lx.acts i=[]:=rfl
theorem WK (i:Nat):Lx.views i=none:=rfl
attribute [go_sem] WJ WK Tryz.ntmps197 Tryz.results197
theorem Bj {a:List GTie}{k:Int}{res:Int}(h:ki a k=some res):ao Tryz.prog 197 [.sl (ab GTie.enc a),.lit (.int .i64 k)] [] (.lit (.int .i64 res)) []:=by
 refine aj (ra:=[]) (md:=mdT) hT (hi:=Lx) Tryz.func197 rfl rfl (by decide +kernel) (by simp) ?_
 unfold ki at h
 obtain ⟨q1002,l1,h⟩:=ae h
 simp(config:=cS)only[go_sem]
 refine an (m1:=.mk) (m2:=.mk) [.nf [0,1,5] []] (pG a) l1 ?_ ?_
 ·simp(config:=cS)only[go_sem]
 ·intro nb2 sb2 bb2 b2 gb2
  obtain ⟨k_1,i_1⟩:=sb2
  unfold hX at b2
  try dsimp only at b2
  obtain ⟨h3,b2⟩|⟨h3,b2⟩:=af b2
  ·obtain ⟨x1001,g4,b2⟩:=ae b2
   obtain ⟨h5,h6,h7⟩:=ai g4
   obtain ⟨h8,b2⟩|⟨h8,b2⟩:=af b2
   ·obtain ⟨h9,b2⟩|⟨h9,b2⟩:=af b2
    ·obtain ⟨h10,b2⟩|⟨h10,b2⟩:=af b2
     ·obtain ⟨h11,b2⟩|⟨h11,b2⟩:=af b2
      ·obtain ⟨h12,b2⟩|⟨h12,b2⟩:=af b2
       ·cases b2
        simp(config:=cS)only[go_sem,eqT h3,h5,h6,h7,eqT h8,eqT h9,eqT h10,eqT h11,eqT h12]
        refine ap gb2 ?_
        simp(config:=cS)only[go_sem]
       ·cases b2
        have e13:=(ak gb2).symm
        subst e13
        try dsimp only at h
        cases h
        simp(config:=cS)only[go_sem,eqT h3,h5,h6,h7,eqT h8,eqT h9,eqT h10,eqT h11,eqF h12]
      ·cases b2
       have e14:=(ak gb2).symm
       subst e14
       try dsimp only at h
       cases h
       simp(config:=cS)only[go_sem,eqT h3,h5,h6,h7,eqT h8,eqT h9,eqT h10,eqF h11]
     ·cases b2
      have e15:=(ak gb2).symm
      subst e15
      try dsimp only at h
      cases h
      simp(config:=cS)only[go_sem,eqT h3,h5,h6,h7,eqT h8,eqT h9,eqF h10]
    ·cases b2
     have e16:=(ak gb2).symm
     subst e16
     try dsimp only at h
     cases h
     simp(config:=cS)only[go_sem,eqT h3,h5,h6,h7,eqT h8,eqF h9]
   ·cases b2
    have e17:=(ak gb2).symm
    subst e17
    try dsimp only at h
    cases h
    simp(config:=cS)only[go_sem,eqT h3,h5,h6,h7,eqF h8]
  ·cases b2
   have e18:=(ak gb2).symm
   subst e18
   try dsimp only at h
   cases h
   simp(config:=cS)only[go_sem,eqF h3]
def Ly:Hint where
 acts:=fun _=>[]
 draws:=fun
  | _=>⟨.nil,[],[]⟩
theorem WL (i:Nat):Ly.acts i=[]:=rfl
theorem WM (i:Nat):Ly.views i=none:=rfl
attribute [go_sem] WL WM Tryz.ntmps118 Tryz.results118
theorem Bk {a:GShow}{k:Int}{res:Int}(h:kj a k=some res):ao Tryz.prog 118 [.agg (GShow.encS a),.lit (.int .i64 k)] [] (.lit (.int .i64 res)) []:=by
 refine aj (ra:=[]) (md:=mdT) hT (hi:=Ly) Tryz.func118 rfl rfl (by decide +kernel) (by simp) ?_
 unfold kj at h
 obtain ⟨r1001,g1,h⟩:=ae h
 simp(config:=cS)only[go_sem]
 refine ag (zf g1) ?_
 obtain ⟨h2,h⟩|⟨h2,h⟩:=af h
 ·cases h
  simp(config:=cS)only[go_sem,eqT h2]
 ·obtain ⟨r1002,g3,h⟩:=ae h
  simp(config:=cS)only[go_sem,eqF h2]
  refine ag (Bj g3) ?_
  obtain ⟨h4,h⟩|⟨h4,h⟩:=af h
  ·cases h
   simp(config:=cS)only[go_sem,eqT h4]
  ·cases h
   simp(config:=cS)only[go_sem,eqF h4]
def Lz:Hint where
 acts:=fun _=>[]
 draws:=fun
  | _=>⟨.nil,[],[]⟩
theorem WN (i:Nat):Lz.acts i=[]:=rfl
theorem WO (i:Nat):Lz.views i=none:=rfl
attribute [go_sem] WN WO Tryz.ntmps119 Tryz.results119
theorem zg {a:GState}{k:Int}{res:Int}(h:lM a k=some res):ao Tryz.prog 119 [.agg (GState.encS a),.lit (.int .i64 k)] [] (.lit (.int .i64 res)) []:=by
 refine aj (ra:=[]) (md:=mdT) hT (hi:=Lz) Tryz.func119 rfl rfl (by decide +kernel) (by simp) ?_
 unfold lM at h
 obtain ⟨r1001,g1,h⟩:=ae h
 simp(config:=cS)only[go_sem]
 refine ag (dJ g1) ?_
 obtain ⟨h2,h⟩|⟨h2,h⟩:=af h
 ·cases h
  simp(config:=cS)only[go_sem,eqT h2]
 ·obtain ⟨r1002,g3,h⟩:=ae h
  simp(config:=cS)only[go_sem,eqF h2]
  refine ag (dJ g3) ?_
  obtain ⟨h4,h⟩|⟨h4,h⟩:=af h
  ·cases h
   simp(config:=cS)only[go_sem,eqT h4]
  ·cases h
   simp(config:=cS)only[go_sem,eqF h4]
def nO (a:List GEntry):(Int × Int)→St
 | (k,i)=>⟨[(0,.sl (ab GEntry.encS a)),(1,.lit (.int .i64 k)),(5,.lit (.int .i64 i))],[],2⟩
attribute [go_sem] nO
def LA:Hint where
 acts:=fun _=>[]
 draws:=fun
  | _=>⟨.nil,[],[]⟩
theorem WP (i:Nat):LA.acts i=[]:=rfl
theorem WQ (i:Nat):LA.views i=none:=rfl
attribute [go_sem] WP WQ Tryz.ntmps120 Tryz.results120
theorem xR {a:List GEntry}{k:Int}{res:Int}(h:iH a k=some res):ao Tryz.prog 120 [.sl (ab GEntry.encS a),.lit (.int .i64 k)] [] (.lit (.int .i64 res)) []:=by
 refine aj (ra:=[]) (md:=mdT) hT (hi:=LA) Tryz.func120 rfl rfl (by decide +kernel) (by simp) ?_
 unfold iH at h
 obtain ⟨q1005,l1,h⟩:=ae h
 simp(config:=cS)only[go_sem]
 refine an (m1:=.mk) (m2:=.mk) [.nf [0,1,5] []] (nO a) l1 ?_ ?_
 ·simp(config:=cS)only[go_sem]
 ·intro nb2 sb2 bb2 b2 gb2
  obtain ⟨k_1,i_1⟩:=sb2
  unfold dx at b2
  try dsimp only at b2
  obtain ⟨h3,b2⟩|⟨h3,b2⟩:=af b2
  ·obtain ⟨x1001,g4,b2⟩:=ae b2
   obtain ⟨h5,h6,h7⟩:=ai g4
   obtain ⟨h8,b2⟩|⟨h8,b2⟩:=af b2
   ·obtain ⟨r1002,g9,b2⟩:=ae b2
    simp(config:=cS)only[go_sem,eqT h3,h5,h6,h7,eqT h8]
    refine ag (dJ g9) ?_
    obtain ⟨h10,b2⟩|⟨h10,b2⟩:=af b2
    ·cases b2
     have e11:=(ak gb2).symm
     subst e11
     try dsimp only at h
     cases h
     simp(config:=cS)only[go_sem,eqT h3,h5,h6,h7,eqT h8,eqT h10]
    ·obtain ⟨r1003,g12,b2⟩:=ae b2
     simp(config:=cS)only[go_sem,eqT h3,h5,h6,h7,eqT h8,eqF h10]
     refine ag (dJ g12) ?_
     obtain ⟨h13,b2⟩|⟨h13,b2⟩:=af b2
     ·cases b2
      have e14:=(ak gb2).symm
      subst e14
      try dsimp only at h
      cases h
      simp(config:=cS)only[go_sem,eqT h3,h5,h6,h7,eqT h8,eqF h10,eqT h13]
     ·obtain ⟨r1004,g15,b2⟩:=ae b2
      simp(config:=cS)only[go_sem,eqT h3,h5,h6,h7,eqT h8,eqF h10,eqF h13]
      refine ag (dJ g15) ?_
      obtain ⟨h16,b2⟩|⟨h16,b2⟩:=af b2
      ·cases b2
       have e17:=(ak gb2).symm
       subst e17
       try dsimp only at h
       cases h
       simp(config:=cS)only[go_sem,eqT h3,h5,h6,h7,eqT h8,eqF h10,eqF h13,eqT h16]
      ·cases b2
       simp(config:=cS)only[go_sem,eqT h3,h5,h6,h7,eqT h8,eqF h10,eqF h13,eqF h16]
       refine ap gb2 ?_
       simp(config:=cS)only[go_sem,eqT h3,h5,h6,h7,eqT h8,eqF h10,eqF h13,eqF h16]
   ·cases b2
    have e18:=(ak gb2).symm
    subst e18
    try dsimp only at h
    cases h
    simp(config:=cS)only[go_sem,eqT h3,h5,h6,h7,eqF h8]
  ·cases b2
   have e19:=(ak gb2).symm
   subst e19
   try dsimp only at h
   cases h
   simp(config:=cS)only[go_sem,eqF h3]
def hi50:Hint where
 acts:=fun _=>[]
 draws:=fun
  | _=>⟨.nil,[],[]⟩
theorem Zq (i:Nat):hi50.acts i=[]:=rfl
theorem Zr (i:Nat):hi50.views i=none:=rfl
attribute [go_sem] Zq Zr Tryz.ntmps50 Tryz.results50
theorem tP {a:GDesk}{k:Int}{res:Int}(h:il a k=some res):ao Tryz.prog 50 [.agg (GDesk.encS a),.lit (.int .i64 k)] [] (.lit (.int .i64 res)) []:=by
 refine aj (ra:=[]) (md:=mdT) hT (hi:=hi50) Tryz.func50 rfl rfl (by decide +kernel) (by simp) ?_
 unfold il at h
 obtain ⟨r1001,g1,h⟩:=ae h
 simp(config:=cS)only[go_sem]
 refine ag (Bk g1) ?_
 obtain ⟨h2,h⟩|⟨h2,h⟩:=af h
 ·cases h
  simp(config:=cS)only[go_sem,eqT h2]
 ·obtain ⟨r1002,g3,h⟩:=ae h
  simp(config:=cS)only[go_sem,eqF h2]
  refine ag (zg g3) ?_
  obtain ⟨h4,h⟩|⟨h4,h⟩:=af h
  ·cases h
   simp(config:=cS)only[go_sem,eqT h4]
  ·obtain ⟨r1003,g5,h⟩:=ae h
   simp(config:=cS)only[go_sem,eqF h4]
   refine ag (xR g5) ?_
   obtain ⟨h6,h⟩|⟨h6,h⟩:=af h
   ·cases h
    simp(config:=cS)only[go_sem,eqT h6]
   ·cases h
    simp(config:=cS)only[go_sem,eqF h6]
@[go_sem] def hi9_16:DT:=.i1 0 (.i2 1 (.i0 2 [0] (.i2 3 (.i2 4 .nil))))
def hi9:Hint where
 acts:=fun _=>[]
 draws:=fun
  | 16=>⟨hi9_16,[[],[],[1],[0,1,2],[0,1,2,3]],.range 5⟩
  | _=>⟨.nil,[],[]⟩
theorem hi9a (i:Nat):hi9.acts i=[]:=rfl
theorem hi9v (i:Nat):hi9.views i=none:=rfl
attribute [go_sem] hi9a hi9v Tryz.ntmps9 Tryz.results9
@[go_sem] theorem abf:(hi9.draws 16).order=hi9_16:=rfl
theorem ua {aD:GDesk}{aTies:List Int}{aValues:List Int}{res:Bool}(h:gF aD aTies aValues=some res):ao Tryz.prog 9 [.agg (GDesk.encS aD),.sl (ab eI aTies),.sl (ab eI aValues)] [] (.lit (.bool res)) []:=by
 refine aj (ra:=[]) (md:=mdT) hT (hi:=hi9) Tryz.func9 rfl rfl (by decide +kernel) (by simp) ?_
 unfold gF at h
 obtain ⟨h1,h⟩|⟨h1,h⟩:=af h
 ·cases h
  simp(config:=cS)only[go_sem,eqT h1]
 ·obtain ⟨h2,h⟩|⟨h2,h⟩:=af h
  ·cases h
   simp(config:=cS)only[go_sem,eqF h1,eqT h2]
  ·obtain ⟨r1001,g3,h⟩:=ae h
   simp(config:=cS)only[go_sem,eqF h1,eqF h2]
   refine ag (Ee g3) ?_
   obtain ⟨h4,h⟩|⟨h4,h⟩:=af h
   ·cases h
    simp(config:=cS)only[go_sem,eqF h1,eqF h2,eqT h4]
   ·obtain ⟨r1002,g5,h⟩:=ae h
    simp(config:=cS)only[go_sem,eqF h1,eqF h2,eqF h4]
    refine ag (oJ g5) ?_
    obtain ⟨r1003,g6,h⟩:=ae h
    simp(config:=cS)only[go_sem,eqF h1,eqF h2,eqF h4]
    refine ag (bL g6) ?_
    obtain ⟨r1004,g7,h⟩:=ae h
    simp(config:=cS)only[go_sem,eqF h1,eqF h2,eqF h4]
    refine ag (bL g7) ?_
    obtain ⟨r1005,g8,h⟩:=ae h
    simp(config:=cS)only[go_sem,eqF h1,eqF h2,eqF h4]
    refine ag (Ba g8) ?_
    obtain ⟨r1006,g9,h⟩:=ae h
    simp(config:=cS)only[go_sem,eqF h1,eqF h2,eqF h4]
    refine ag (oJ g9) ?_
    obtain ⟨r1007,g10,h⟩:=ae h
    simp(config:=cS)only[go_sem,eqF h1,eqF h2,eqF h4]
    refine ag (bL g10) ?_
    obtain ⟨r1008,g11,h⟩:=ae h
    simp(config:=cS)only[go_sem,eqF h1,eqF h2,eqF h4]
    refine ag (bL g11) ?_
    obtain ⟨r1009,g12,h⟩:=ae h
    simp(config:=cS)only[go_sem,eqF h1,eqF h2,eqF h4]
    refine ag (tM g12) ?_
    obtain ⟨r1010,g13,h⟩:=ae h
    simp(config:=cS)only[go_sem,eqF h1,eqF h2,eqF h4]
    refine ag (oL g13) ?_
    obtain ⟨h14,h⟩|⟨h14,h⟩:=af h
    ·obtain ⟨r1011,g15,h⟩:=ae h
     simp(config:=cS)only[go_sem,eqF h1,eqF h2,eqF h4,eZt h14]
     refine ag (cE g15) ?_
     obtain ⟨h16,h⟩|⟨h16,h⟩:=af h
     ·obtain ⟨h17,h⟩|⟨h17,h⟩:=af h
      ·obtain ⟨r1012,g18,h⟩:=ae h
       simp(config:=cS)only[go_sem,eqF h1,eqF h2,eqF h4,eZt h14,eZt h16,eqT h17]
       refine ag (oJ g18) ?_
       obtain ⟨r1013,g19,h⟩:=ae h
       simp(config:=cS)only[go_sem,eqF h1,eqF h2,eqF h4,eZt h14,eZt h16,eqT h17]
       refine ag (oL g19) ?_
       obtain ⟨h20,h⟩|⟨h20,h⟩:=af h
       ·obtain ⟨r1014,g21,h⟩:=ae h
        simp(config:=cS)only[go_sem,eqF h1,eqF h2,eqF h4,eZt h14,eZt h16,eqT h17,eZt h20]
        refine ag (bL g21) ?_
        obtain ⟨r1015,g22,h⟩:=ae h
        simp(config:=cS)only[go_sem,eqF h1,eqF h2,eqF h4,eZt h14,eZt h16,eqT h17,eZt h20]
        refine ag (cE g22) ?_
        obtain ⟨h23,h⟩|⟨h23,h⟩:=af h
        ·obtain ⟨r1016,g24,h⟩:=ae h
         simp(config:=cS)only[go_sem,eqF h1,eqF h2,eqF h4,eZt h14,eZt h16,eqT h17,eZt h20,eZt h23]
         refine ag (bL g24) ?_
         obtain ⟨r1017,g25,h⟩:=ae h
         simp(config:=cS)only[go_sem,eqF h1,eqF h2,eqF h4,eZt h14,eZt h16,eqT h17,eZt h20,eZt h23]
         refine ag (cE g25) ?_
         obtain ⟨h26,h⟩|⟨h26,h⟩:=af h
         ·obtain ⟨r1018,g27,h⟩:=ae h
          simp(config:=cS)only[go_sem,eqF h1,eqF h2,eqF h4,eZt h14,eZt h16,eqT h17,eZt h20,eZt h23,eZt h26]
          refine ag (tO g27) ?_
          obtain ⟨r1019,g28,h⟩:=ae h
          simp(config:=cS)only[go_sem,eqF h1,eqF h2,eqF h4,eZt h14,eZt h16,eqT h17,eZt h20,eZt h23,eZt h26]
          refine ag (cP g28) ?_
          obtain ⟨r1020,g29,h⟩:=ae h
          simp(config:=cS)only[go_sem,eqF h1,eqF h2,eqF h4,eZt h14,eZt h16,eqT h17,eZt h20,eZt h23,eZt h26]
          refine ag (cP g29) ?_
          obtain ⟨h30,h⟩|⟨h30,h⟩:=af h
          ·cases h
           simp(config:=cS)only[go_sem,eqF h1,eqF h2,eqF h4,eZt h14,eZt h16,eqT h17,eZt h20,eZt h23,eZt h26,eqT h30]
          ·obtain ⟨r1021,g31,h⟩:=ae h
           simp(config:=cS)only[go_sem,eqF h1,eqF h2,eqF h4,eZt h14,eZt h16,eqT h17,eZt h20,eZt h23,eZt h26,eqF h30]
           refine ag (oL g31) ?_
           obtain ⟨h32,h⟩|⟨h32,h⟩:=af h
           ·obtain ⟨r1022,g33,h⟩:=ae h
            simp(config:=cS)only[go_sem,eqF h1,eqF h2,eqF h4,eZt h14,eZt h16,eqT h17,eZt h20,eZt h23,eZt h26,eqF h30,eZt h32]
            refine ag (cE g33) ?_
            obtain ⟨h34,h⟩|⟨h34,h⟩:=af h
            ·obtain ⟨r1023,g35,h⟩:=ae h
             simp(config:=cS)only[go_sem,eqF h1,eqF h2,eqF h4,eZt h14,eZt h16,eqT h17,eZt h20,eZt h23,eZt h26,eqF h30,eZt h32,eZt h34]
             refine ag (tO g35) ?_
             obtain ⟨r1024,g36,h⟩:=ae h
             simp(config:=cS)only[go_sem,eqF h1,eqF h2,eqF h4,eZt h14,eZt h16,eqT h17,eZt h20,eZt h23,eZt h26,eqF h30,eZt h32,eZt h34]
             refine ag (cP g36) ?_
             obtain ⟨h37,h⟩:=ah h
             obtain ⟨h38,h⟩:=ah h
             obtain ⟨h39,h⟩:=ah h
             obtain ⟨h40,h⟩:=ah h
             obtain ⟨h41,h⟩:=ah h
             obtain ⟨r1025,g42,h⟩:=ae h
             simp(config:=cS)only[go_sem,eqF h1,eqF h2,eqF h4,eZt h14,eZt h16,eqT h17,eZt h20,eZt h23,eZt h26,eqF h30,eZt h32,eZt h34,eqT h37,eqT h38,eqT h39,eqT h40,eqT h41]
             refine ag (tP g42) ?_
             obtain ⟨h43,h⟩|⟨h43,h⟩:=af h
             ·cases h
              simp(config:=cS)only[go_sem,eqF h1,eqF h2,eqF h4,eZt h14,eZt h16,eqT h17,eZt h20,eZt h23,eZt h26,eqF h30,eZt h32,eZt h34,eqT h37,eqT h38,eqT h39,eqT h40,eqT h41,eqT h43]
             ·obtain ⟨h44,h⟩:=ah h
              obtain ⟨r1026,g45,h⟩:=ae h
              simp(config:=cS)only[go_sem,eqF h1,eqF h2,eqF h4,eZt h14,eZt h16,eqT h17,eZt h20,eZt h23,eZt h26,eqF h30,eZt h32,eZt h34,eqT h37,eqT h38,eqT h39,eqT h40,eqT h41,eqF h43,eqT h44]
              refine ag (dJ g45) ?_
              obtain ⟨h46,h⟩|⟨h46,h⟩:=af h
              ·cases h
               simp(config:=cS)only[go_sem,eqF h1,eqF h2,eqF h4,eZt h14,eZt h16,eqT h17,eZt h20,eZt h23,eZt h26,eqF h30,eZt h32,eZt h34,eqT h37,eqT h38,eqT h39,eqT h40,eqT h41,eqF h43,eqT h44,eqT h46]
              ·obtain ⟨h47,h⟩|⟨h47,h⟩:=af h
               ·obtain ⟨r1027,g48,h⟩:=ae h
                simp(config:=cS)only[go_sem,eqF h1,eqF h2,eqF h4,eZt h14,eZt h16,eqT h17,eZt h20,eZt h23,eZt h26,eqF h30,eZt h32,eZt h34,eqT h37,eqT h38,eqT h39,eqT h40,eqT h41,eqF h43,eqT h44,eqF h46,eqT h47]
                refine ag (oJ g48) ?_
                obtain ⟨r1028,g49,h⟩:=ae h
                simp(config:=cS)only[go_sem,eqF h1,eqF h2,eqF h4,eZt h14,eZt h16,eqT h17,eZt h20,eZt h23,eZt h26,eqF h30,eZt h32,eZt h34,eqT h37,eqT h38,eqT h39,eqT h40,eqT h41,eqF h43,eqT h44,eqF h46,eqT h47]
                refine ag (bL g49) ?_
                obtain ⟨r1029,g50,h⟩:=ae h
                simp(config:=cS)only[go_sem,eqF h1,eqF h2,eqF h4,eZt h14,eZt h16,eqT h17,eZt h20,eZt h23,eZt h26,eqF h30,eZt h32,eZt h34,eqT h37,eqT h38,eqT h39,eqT h40,eqT h41,eqF h43,eqT h44,eqF h46,eqT h47]
                refine ag (bL g50) ?_
                obtain ⟨r1030,g51,h⟩:=ae h
                simp(config:=cS)only[go_sem,eqF h1,eqF h2,eqF h4,eZt h14,eZt h16,eqT h17,eZt h20,eZt h23,eZt h26,eqF h30,eZt h32,eZt h34,eqT h37,eqT h38,eqT h39,eqT h40,eqT h41,eqF h43,eqT h44,eqF h46,eqT h47]
                refine ag (tM g51) ?_
                obtain ⟨r1031,g52,h⟩:=ae h
                simp(config:=cS)only[go_sem,eqF h1,eqF h2,eqF h4,eZt h14,eZt h16,eqT h17,eZt h20,eZt h23,eZt h26,eqF h30,eZt h32,eZt h34,eqT h37,eqT h38,eqT h39,eqT h40,eqT h41,eqF h43,eqT h44,eqF h46,eqT h47]
                refine ag (oL g52) ?_
                obtain ⟨h53,h⟩|⟨h53,h⟩:=af h
                ·obtain ⟨r1032,g54,h⟩:=ae h
                 simp(config:=cS)only[go_sem,eqF h1,eqF h2,eqF h4,eZt h14,eZt h16,eqT h17,eZt h20,eZt h23,eZt h26,eqF h30,eZt h32,eZt h34,eqT h37,eqT h38,eqT h39,eqT h40,eqT h41,eqF h43,eqT h44,eqF h46,eqT h47,eZt h53]
                 refine ag (cE g54) ?_
                 obtain ⟨h55,h⟩|⟨h55,h⟩:=af h
                 ·obtain ⟨h56,h⟩|⟨h56,h⟩:=af h
                  ·obtain ⟨r1033,g57,h⟩:=ae h
                   simp(config:=cS)only[go_sem,eqF h1,eqF h2,eqF h4,eZt h14,eZt h16,eqT h17,eZt h20,eZt h23,eZt h26,eqF h30,eZt h32,eZt h34,eqT h37,eqT h38,eqT h39,eqT h40,eqT h41,eqF h43,eqT h44,eqF h46,eqT h47,eZt h53,eZt h55,eqT h56]
                   refine ag (tP g57) ?_
                   obtain ⟨h58,h⟩|⟨h58,h⟩:=af h
                   ·cases h
                    simp(config:=cS)only[go_sem,eqF h1,eqF h2,eqF h4,eZt h14,eZt h16,eqT h17,eZt h20,eZt h23,eZt h26,eqF h30,eZt h32,eZt h34,eqT h37,eqT h38,eqT h39,eqT h40,eqT h41,eqF h43,eqT h44,eqF h46,eqT h47,eZt h53,eZt h55,eqT h56,eqT h58]
                   ·obtain ⟨r1034,g59,h⟩:=ae h
                    simp(config:=cS)only[go_sem,eqF h1,eqF h2,eqF h4,eZt h14,eZt h16,eqT h17,eZt h20,eZt h23,eZt h26,eqF h30,eZt h32,eZt h34,eqT h37,eqT h38,eqT h39,eqT h40,eqT h41,eqF h43,eqT h44,eqF h46,eqT h47,eZt h53,eZt h55,eqT h56,eqF h58]
                    refine ag (dJ g59) ?_
                    obtain ⟨h60,h⟩|⟨h60,h⟩:=af h
                    ·cases h
                     simp(config:=cS)only[go_sem,eqF h1,eqF h2,eqF h4,eZt h14,eZt h16,eqT h17,eZt h20,eZt h23,eZt h26,eqF h30,eZt h32,eZt h34,eqT h37,eqT h38,eqT h39,eqT h40,eqT h41,eqF h43,eqT h44,eqF h46,eqT h47,eZt h53,eZt h55,eqT h56,eqF h58,eqT h60]
                    ·obtain ⟨h61,h⟩|⟨h61,h⟩:=af h
                     ·cases h
                      simp(config:=cS)only[go_sem,eqF h1,eqF h2,eqF h4,eZt h14,eZt h16,eqT h17,eZt h20,eZt h23,eZt h26,eqF h30,eZt h32,eZt h34,eqT h37,eqT h38,eqT h39,eqT h40,eqT h41,eqF h43,eqT h44,eqF h46,eqT h47,eZt h53,eZt h55,eqT h56,eqF h58,eqF h60,eqT h61]
                     ·cases h
                      simp(config:=cS)only[go_sem,eqF h1,eqF h2,eqF h4,eZt h14,eZt h16,eqT h17,eZt h20,eZt h23,eZt h26,eqF h30,eZt h32,eZt h34,eqT h37,eqT h38,eqT h39,eqT h40,eqT h41,eqF h43,eqT h44,eqF h46,eqT h47,eZt h53,eZt h55,eqT h56,eqF h58,eqF h60,eqF h61]
                  ·cases h
                   simp(config:=cS)only[go_sem,eqF h1,eqF h2,eqF h4,eZt h14,eZt h16,eqT h17,eZt h20,eZt h23,eZt h26,eqF h30,eZt h32,eZt h34,eqT h37,eqT h38,eqT h39,eqT h40,eqT h41,eqF h43,eqT h44,eqF h46,eqT h47,eZt h53,eZt h55,eqF h56]
                 ·cases h
                  simp(config:=cS)only[go_sem,eqF h1,eqF h2,eqF h4,eZt h14,eZt h16,eqT h17,eZt h20,eZt h23,eZt h26,eqF h30,eZt h32,eZt h34,eqT h37,eqT h38,eqT h39,eqT h40,eqT h41,eqF h43,eqT h44,eqF h46,eqT h47,eZt h53,eZf h55]
                ·cases h
                 simp(config:=cS)only[go_sem,eqF h1,eqF h2,eqF h4,eZt h14,eZt h16,eqT h17,eZt h20,eZt h23,eZt h26,eqF h30,eZt h32,eZt h34,eqT h37,eqT h38,eqT h39,eqT h40,eqT h41,eqF h43,eqT h44,eqF h46,eqT h47,eZf h53]
               ·cases h
                simp(config:=cS)only[go_sem,eqF h1,eqF h2,eqF h4,eZt h14,eZt h16,eqT h17,eZt h20,eZt h23,eZt h26,eqF h30,eZt h32,eZt h34,eqT h37,eqT h38,eqT h39,eqT h40,eqT h41,eqF h43,eqT h44,eqF h46,eqF h47]
            ·cases h
             simp(config:=cS)only[go_sem,eqF h1,eqF h2,eqF h4,eZt h14,eZt h16,eqT h17,eZt h20,eZt h23,eZt h26,eqF h30,eZt h32,eZf h34]
           ·cases h
            simp(config:=cS)only[go_sem,eqF h1,eqF h2,eqF h4,eZt h14,eZt h16,eqT h17,eZt h20,eZt h23,eZt h26,eqF h30,eZf h32]
         ·cases h
          simp(config:=cS)only[go_sem,eqF h1,eqF h2,eqF h4,eZt h14,eZt h16,eqT h17,eZt h20,eZt h23,eZf h26]
        ·cases h
         simp(config:=cS)only[go_sem,eqF h1,eqF h2,eqF h4,eZt h14,eZt h16,eqT h17,eZt h20,eZf h23]
       ·cases h
        simp(config:=cS)only[go_sem,eqF h1,eqF h2,eqF h4,eZt h14,eZt h16,eqT h17,eZf h20]
      ·cases h
       simp(config:=cS)only[go_sem,eqF h1,eqF h2,eqF h4,eZt h14,eZt h16,eqF h17]
     ·cases h
      simp(config:=cS)only[go_sem,eqF h1,eqF h2,eqF h4,eZt h14,eZf h16]
    ·cases h
     simp(config:=cS)only[go_sem,eqF h1,eqF h2,eqF h4,eZf h14]
end Go.Proofs.YtghfphjfkdbpjaaGreatZ
