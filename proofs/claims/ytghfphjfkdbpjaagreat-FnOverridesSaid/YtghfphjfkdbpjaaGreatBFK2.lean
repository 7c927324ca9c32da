/- Functions. -/
import Derived.Test.YtghfphjfkdbpjaaGreatBFK1
set_option linter.all false
set_option maxRecDepth 100000
set_option maxHeartbeats 4000000
namespace Go.Proofs.QB
open Go
def qC (h:List Int)(i:Int)(j:List GNode)(k:List GTie)(l e:Int)(f g:List Int)(d:Int)(b:List Int):(Int × (List Int) × (List Int))→St
 | (m,a,c)=>⟨[(3,.ptr 192 1 0 0),(4,.ptr 256 1 0 0),(6,.ptr 384 1 0 0),(8,.ptr 512 1 0 0),(9,.ref 639 1 0 a.length),(14,.sl (ae eI h)),(15,.lit (.int .i64 i)),(16,.lit (.int .i64 m))],[(192,1,.var [.sl (ae GNode.encS j),.sl (ae GTie.enc k),.lit (.int .i64 l)]),(256,1,.var [.lit (.int .i64 e),.sl (ae eI f),.sl (ae eI g)]),(384,1,.var [.lit (.int .i64 0),.lit (.slice none 0 0),.lit (.slice none 0 0)]),(512,1,.var [.lit (.int .i64 d),.ref 832 1 0 c.length,.ref 833 1 0 b.length]),(832,1,.row true (ae eI c)),(833,1,.row true (ae eI b)),(639,1,.row true (ae eI a))],2⟩
attribute [go_sem] qC
attribute [go_sem] Tryz.ntmps160 Tryz.results160
theorem gD {s:GShow}{v1:GState}{nodes:List Int}{res:GState × (List Int)}(h:eD s v1 nodes=some res):al Tryz.prog 160 [.agg (GShow.encS s),.agg (GState.encS v1),.sl (ae eI nodes)] [] (.tup [.agg [.lit (.int .i64 res.1.now),.ref 20000 1 0 res.1.times.length,.ref 20001 1 0 res.1.values.length],.ref 20002 1 0 res.2.length]) [(20000,1,.row true (ae eI res.1.times)),(20001,1,.row true (ae eI res.1.values)),(20002,1,.row true (ae eI res.2))]:=by
 refine ai (ra:=[.homeCell 384 1,.homeCell 384 2,.home 7]) (md:=mdT) hT (hi:=hi00) Tryz.func160 rfl rfl (by decide +kernel) (by simp) ?_
 unfold eD at h
 obtain ⟨r01,g1,h⟩:=ab h
 simp(config:=cS)only[go_sem]
 refine ag (lQ g1) ?_
 obtain ⟨q06,l2,h⟩:=ab h
 simp(config:=cS)only[go_sem]
 refine an (m1:=.mk) (m2:=.mk) [.home 9,.nf [3,4,6,8,9,14,15,16] [192,256,384,512,832,833,639]] (qC nodes ((nodes.length:Nat):Int) s.nodes s.ties s.horizon v1.now v1.times v1.values r01.now r01.values) l2 ?_ ?_
 ·simp(config:=cS)only[go_sem]
 ·intro nb3 sb3 bb3 b3 gb3
  obtain ⟨v16_1,props_1,h832_1⟩:=sb3
  unfold iF at b3
  try dsimp only at b3
  obtain ⟨h4,b3⟩|⟨h4,b3⟩:=af b3
  ·obtain ⟨x02,g5,b3⟩:=ab b3
   obtain ⟨h6,h7,h8⟩:=aj g5
   obtain ⟨x03,g9,b3⟩:=ab b3
   obtain ⟨h10,h11,h12⟩:=aj g9
   obtain ⟨x04,g13,b3⟩:=ab b3
   obtain ⟨h14,h15,h16⟩:=aj g13
   obtain ⟨h17,b3⟩|⟨h17,b3⟩:=af b3
   ·cases b3
    simp(config:=cS)only[go_sem,eqT h4,h6,h7,h8,h10,h11,h12,h14,h15,h16,eqT h17]
    refine ao gb3 ?_
    simp(config:=cS)only[go_sem]
   ·obtain ⟨h18,b3⟩:=ah b3
    obtain ⟨h19,b3⟩:=ah b3
    cases b3
    simp(config:=cS)only[go_sem,eqT h4,h6,h7,h8,h10,h11,h12,h14,h15,h16,eqF h17,eqT h18,eqT h19]
    refine ao gb3 ?_
    simp(config:=cS)only[go_sem]
  ·cases b3
   obtain rfl:=(ak gb3).symm
   try dsimp only at h
   obtain ⟨r05,g21,h⟩:=ab h
   simp(config:=cS)only[go_sem,eqF h4]
   refine ag (th g21) ?_
   obtain ⟨h22,h⟩:=ah h
   cases h
   simp(config:=cS)only[go_sem,h22.symm]
def pE (a e:List Int)(f d:Int)(b:List Int):(Int × (List Int))→St
 | (g,c)=>⟨[(2,.sl (ae eI a)),(6,.ptr 384 1 0 0),(7,.ptr 448 1 0 0),(12,.sl (ae eI e)),(13,.lit (.int .i64 f)),(14,.lit (.int .i64 g))],[(384,1,.var [.lit (.int .i64 0),.lit (.slice none 0 0),.lit (.slice none 0 0)]),(448,1,.var [.lit (.int .i64 d),.ref 704 1 0 b.length,.ref 705 1 0 c.length]),(704,1,.row true (ae eI b)),(705,1,.row true (ae eI c))],2⟩
attribute [go_sem] pE
@[go_sem] def hi161_5:DT:=.i2 0 (.i2 1 (.i2 2 (.i2 3 (.i2 4 (.i2 5 (.i2 6 (.i2 7 (.i2 8 (.i2 9 .nil)))))))))
def Ev:Hint where
 acts:=fun _=>[]
 draws:=fun
  | 5=>⟨hi161_5,[[],[0],[],[2],[],[],[4,5],[4,5,6],.range 8,.range 9],.range 10⟩
  | _=>⟨.nil,[],[]⟩
theorem Oo (i:Nat):Ev.acts i=[]:=rfl
theorem Oq (i:Nat):Ev.views i=none:=rfl
attribute [go_sem] Oo Oq Tryz.ntmps161 Tryz.results161
@[go_sem] theorem RL:(Ev.draws 5).order=hi161_5:=rfl
theorem fb {v0:GState}{props values:List Int}{res:GState}(h:dO v0 props values=some res):al Tryz.prog 161 [.agg (GState.encS v0),.sl (ae eI props),.sl (ae eI values)] [] (.agg [.lit (.int .i64 res.now),.ref 20000 1 0 res.times.length,.ref 20001 1 0 res.values.length]) [(20000,1,.row true (ae eI res.times)),(20001,1,.row true (ae eI res.values))]:=by
 refine ai (ra:=[.homeCell 384 1,.homeCell 384 2]) (md:=mdT) hT (hi:=Ev) Tryz.func161 rfl rfl (by decide +kernel) (by simp) ?_
 unfold dO at h
 obtain ⟨r01,g1,h⟩:=ab h
 simp(config:=cS)only[go_sem]
 refine ag (lQ g1) ?_
 obtain ⟨q05,l2,h⟩:=ab h
 simp(config:=cS)only[go_sem]
 refine an (m1:=.mk) (m2:=.mk) [.nf [2,6,7,12,13,14] [384,448,704,705]] (pE values props ((props.length:Nat):Int) r01.now r01.times) l2 ?_ ?_
 ·simp(config:=cS)only[go_sem]
 ·intro nb3 sb3 bb3 b3 gb3
  obtain ⟨v14_1,h705_1⟩:=sb3
  unfold hY at b3
  try dsimp only at b3
  obtain ⟨h4,b3⟩|⟨h4,b3⟩:=af b3
  ·obtain ⟨x02,g5,b3⟩:=ab b3
   obtain ⟨h6,h7,h8⟩:=aj g5
   obtain ⟨x03,g9,b3⟩:=ab b3
   obtain ⟨h10,h11,h12⟩:=aj g9
   obtain ⟨x04,g13,b3⟩:=ab b3
   obtain ⟨h14,h15,h16⟩:=aj g13
   cases b3
   simp(config:=cS)only[go_sem,eqT h4,h6,h7,h8,h10,h11,h12,h14,h15,h16]
   refine ao gb3 ?_
   simp(config:=cS)only[go_sem]
  ·cases b3
   obtain rfl:=(ak gb3).symm
   try dsimp only at h
   cases h
   simp(config:=cS)only[go_sem,eqF h4]
def sD (g:List Int)(h e:Int)(b c d:List Int):(Int × (List Int) × (List Int))→St
 | (i,f,a)=>⟨[(6,.ptr 384 1 0 0),(9,.ptr 576 1 0 0),(10,.ref 3458 1 0 d.length),(11,.ref 767 1 0 f.length),(12,.ref 831 1 0 a.length),(58,.sl (ae eI g)),(59,.lit (.int .i64 h)),(60,.lit (.int .i64 i))],[(384,1,.var [.lit (.int .i64 0),.lit (.slice none 0 0),.lit (.slice none 0 0)]),(576,1,.var [.lit (.int .i64 e),.ref 3456 1 0 b.length,.ref 3457 1 0 c.length]),(3456,1,.row true (ae eI b)),(3457,1,.row true (ae eI c)),(3458,1,.row true (ae eI d)),(767,1,.row true (ae eI f)),(831,1,.row true (ae eI a))],2⟩
attribute [go_sem] sD
@[go_sem] def hi147_4:DT:=.i2 0 (.i2 1 (.i1 3 (.i1 4 (.i0 2 [3,4] (.i2 5 (.i2 6 .nil))))))
@[go_sem] def hi147_1:DT:=.i2 0 (.i2 1 (.i2 2 (.i2 3 (.i2 4 (.i2 5 (.i2 6 (.i2 7 (.i1 9 (.i1 10 (.i0 8 [9,10] (.i2 11 (.i2 12 (.i2 13 (.i2 14 (.i2 15 (.i2 16 (.i2 17 (.i2 18 (.i2 19 .nil)))))))))))))))))))
def AZ:Hint where
 acts:=fun _=>[]
 draws:=fun
  | 1=>⟨hi147_1,[[],[0],[],[2],[0,1,2,3],.range 5,.range 6,.range 6,.range 8,.range 6,[0,1,2,3,4,5,9],.range 11,.range 12,.range 13,.range 14,.range 15,.range 16,.range 17,.range 18,.range 19],.range 20⟩
  | 4=>⟨hi147_4,[[],[],[0,1],[],[3],.range 5,.range 6],.range 7⟩
  | _=>⟨.nil,[],[]⟩
theorem Ot (i:Nat):AZ.acts i=[]:=rfl
theorem Ou (i:Nat):AZ.views i=none:=rfl
attribute [go_sem] Ot Ou Tryz.ntmps147 Tryz.results147
@[go_sem] theorem RM:(AZ.draws 1).order=hi147_1:=rfl
@[go_sem] theorem RN:(AZ.draws 4).order=hi147_4:=rfl
theorem Fi {s:GShow}{v1:GState}{e:GEntry}{res:GState × Bool}(h:mX s v1 e=some res):al Tryz.prog 147 [.agg (GShow.encS s),.agg (GState.encS v1),.agg (GEntry.encS e)] [] (.tup [.agg [.lit (.int .i64 res.1.now),.ref 20000 1 0 res.1.times.length,.ref 20001 1 0 res.1.values.length],.lit (.bool res.2)]) [(20000,1,.row true (ae eI res.1.times)),(20001,1,.row true (ae eI res.1.values))]:=by
 refine ai (ra:=[.homeCell 384 1,.homeCell 384 2]) (md:=mdT) hT (hi:=AZ) Tryz.func147 rfl rfl (by decide +kernel) (by simp) ?_
 unfold mX at h
 obtain ⟨h1,h⟩|⟨h1,h⟩:=af h
 ·obtain ⟨r01,g2,h⟩:=ab h
  simp(config:=cS)only[go_sem,eqT h1]
  refine ag (gC g2) ?_
  obtain ⟨r02,g3,h⟩:=ab h
  simp(config:=cS)only[go_sem,eqT h1]
  refine ag (iS g3) ?_
  obtain ⟨h4,h⟩|⟨h4,h⟩:=af h
  ·obtain ⟨r03,g5,h⟩:=ab h
   simp(config:=cS)only[go_sem,eqT h1,eZt h4]
   refine ag (lf g5) ?_
   obtain ⟨h6,h⟩|⟨h6,h⟩:=af h
   ·obtain ⟨r04,g7,h⟩:=ab h
    simp(config:=cS)only[go_sem,eqT h1,eZt h4,eZt h6]
    refine ag (jr g7) ?_
    obtain ⟨r05,g8,h⟩:=ab h
    simp(config:=cS)only[go_sem,eqT h1,eZt h4,eZt h6]
    refine ag (js g8) ?_
    obtain ⟨r06,g9,h⟩:=ab h
    simp(config:=cS)only[go_sem,eqT h1,eZt h4,eZt h6]
    refine ag (iS g9) ?_
    obtain ⟨h10,h⟩|⟨h10,h⟩:=af h
    ·obtain ⟨r07,g11,h⟩:=ab h
     simp(config:=cS)only[go_sem,eqT h1,eZt h4,eZt h6,eZt h10]
     refine ag (gD g11) ?_
     obtain ⟨q13,l12,h⟩:=ab h
     simp(config:=cS)only[go_sem,eqT h1,eZt h4,eZt h6,eZt h10]
     refine an (m1:=.mk) (m2:=.mk) [.home 11,.home 12,.nf [6,9,10,11,12,58,59,60] [384,576,3456,3457,3458,767,831]] (sD e.values ((e.values.length:Nat):Int) r07.1.now r07.1.times r07.1.values r07.2) l12 ?_ ?_
     ·simp(config:=cS)only[go_sem,eqT h1,eZt h4,eZt h6,eZt h10]
     ·intro nb13 sb13 bb13 b13 gb13
      obtain ⟨v60_1,seen_1,values_1⟩:=sb13
      unfold km at b13
      try dsimp only at b13
      obtain ⟨h14,b13⟩|⟨h14,b13⟩:=af b13
      ·obtain ⟨x08,g15,b13⟩:=ab b13
       obtain ⟨h16,h17,h18⟩:=aj g15
       obtain ⟨r09,g19,b13⟩:=ab b13
       simp(config:=cS)only[go_sem,eqT h1,eZt h4,eZt h6,eZt h10,eqT h14,h16,h17,h18]
       refine ag (jT g19) ?_
       obtain ⟨h20,b13⟩:=ah b13
       obtain ⟨h21,b13⟩:=ah b13
       obtain ⟨r10,g22,b13⟩:=ab b13
       simp(config:=cS)only[go_sem,eqT h1,eZt h4,eZt h6,eZt h10,eqT h14,h16,h17,h18,eqT h20,eqT h21]
       refine ag (jT g22) ?_
       obtain ⟨h23,b13⟩:=ah b13
       obtain ⟨h24,b13⟩:=ah b13
       obtain ⟨h25,b13⟩:=ah b13
       cases b13
       simp(config:=cS)only[go_sem,eqT h1,eZt h4,eZt h6,eZt h10,eqT h14,h16,h17,h18,eqT h20,eqT h21,eqF h23,eqT h24,eqT h25]
       refine ao gb13 ?_
       simp(config:=cS)only[go_sem,eqT h1,eZt h4,eZt h6,eZt h10,eqT h14,h16,h17,h18,eqT h20,eqT h21,eqF h23,eqT h24,eqT h25]
      ·cases b13
       obtain rfl:=(ak gb13).symm
       try dsimp only at h
       obtain ⟨r11,g27,h⟩:=ab h
       simp(config:=cS)only[go_sem,eqT h1,eZt h4,eZt h6,eZt h10,eqF h14]
       refine ag (bL g27) ?_
       obtain ⟨h28,h⟩|⟨h28,h⟩:=af h
       ·obtain ⟨r12,g29,h⟩:=ab h
        simp(config:=cS)only[go_sem,eqT h1,eZt h4,eZt h6,eZt h10,eqF h14,eZt h28]
        refine ag (fb g29) ?_
        cases h
        simp(config:=cS)only[go_sem,eqT h1,eZt h4,eZt h6,eZt h10,eqF h14,eZt h28]
       ·cases h
        simp(config:=cS)only[go_sem,eqT h1,eZt h4,eZt h6,eZt h10,eqF h14,eZf h28]
    ·cases h
     simp(config:=cS)only[go_sem,eqT h1,eZt h4,eZt h6,eZf h10]
   ·cases h
    simp(config:=cS)only[go_sem,eqT h1,eZt h4,eZf h6]
  ·cases h
   simp(config:=cS)only[go_sem,eqT h1,eZf h4]
 ·cases h
  simp(config:=cS)only[go_sem,eqF h1]
def ot (d:List GEntry)(e:Int)(f:List GNode)(g:List GTie)(h:Int):(Int × Int × (List Int) × (List Int))→St
 | (i,c,a,b)=>⟨[(2,.ptr 128 1 0 0),(4,.ptr 256 1 0 0),(6,.ptr 384 1 0 0),(17,.sl (ae GEntry.encS d)),(18,.lit (.int .i64 e)),(19,.lit (.int .i64 i))],[(128,1,.var [.sl (ae GNode.encS f),.sl (ae GTie.enc g),.lit (.int .i64 h)]),(256,1,.var [.lit (.int .i64 0),.lit (.slice none 0 0),.lit (.slice none 0 0)]),(384,1,.var [.lit (.int .i64 c),.ref 1024 1 0 a.length,.ref 1025 1 0 b.length]),(1024,1,.row true (ae eI a)),(1025,1,.row true (ae eI b))],2⟩
attribute [go_sem] ot
attribute [go_sem] Tryz.ntmps65 Tryz.results65
theorem zE {s:GShow}{log:List GEntry}{res:GState × Bool}(h:jC s log=some res):al Tryz.prog 65 [.agg (GShow.encS s),.sl (ae GEntry.encS log)] [] (.tup [.agg [.lit (.int .i64 res.1.now),.ref 20000 1 0 res.1.times.length,.ref 20001 1 0 res.1.values.length],.lit (.bool res.2)]) [(20000,1,.row true (ae eI res.1.times)),(20001,1,.row true (ae eI res.1.values))]:=by
 refine ai (ra:=[.homeCell 256 1,.homeCell 256 2]) (md:=mdT) hT (hi:=hi00) Tryz.func65 rfl rfl (by decide +kernel) (by simp) ?_
 unfold jC at h
 obtain ⟨r01,g1,h⟩:=ab h
 simp(config:=cS)only[go_sem]
 refine ag (oK g1) ?_
 obtain ⟨h2,h⟩|⟨h2,h⟩:=af h
 ·obtain ⟨r02,g3,h⟩:=ab h
  simp(config:=cS)only[go_sem,eZt h2]
  refine ag (yI g3) ?_
  obtain ⟨q05,l4,h⟩:=ab h
  simp(config:=cS)only[go_sem]
  refine an (m1:=.mk) (m2:=.mk) [.nfp [2,4,6,17,18,19] [(128,128),(256,256),(384,384),(1728,1024),(1024,1024),(1729,1025),(1025,1025)] []] (ot log ((log.length:Nat):Int) s.nodes s.ties s.horizon) l4 ?_ ?_
  ·simp(config:=cS)only[go_sem]
  ·intro nb5 sb5 bb5 b5 gb5
   obtain ⟨v19_1,v6_0_1,h1024_1,h1025_1⟩:=sb5
   unfold gg at b5
   try dsimp only at b5
   obtain ⟨h6,b5⟩|⟨h6,b5⟩:=af b5
   ·obtain ⟨x03,g7,b5⟩:=ab b5
    obtain ⟨h8,h9,h10⟩:=aj g7
    obtain ⟨r04,g11,b5⟩:=ab b5
    simp(config:=cS)only[go_sem,eqT h6,h8,h9,h10]
    refine ag (Fi g11) ?_
    obtain ⟨h12,b5⟩|⟨h12,b5⟩:=af b5
    ·cases b5
     simp(config:=cS)only[go_sem,eZt h12]
     refine ao gb5 ?_
     simp(config:=cS)only[go_sem]
    ·cases b5
     obtain rfl:=(ak gb5).symm
     try dsimp only at h
     cases h
     simp(config:=cS)only[go_sem,eZf h12]
   ·cases b5
    obtain rfl:=(ak gb5).symm
    try dsimp only at h
    cases h
    simp(config:=cS)only[go_sem,eqF h6]
 ·cases h
  simp(config:=cS)only[go_sem,eZf h2]
attribute [go_sem] Tryz.ntmps66 Tryz.results66
theorem ti {a b:GState}{res:Bool}(h:fH a b=some res):al Tryz.prog 66 [.agg (GState.encS a),.agg (GState.encS b)] [] (.lit (.bool res)) []:=by
 refine ai (ra:=[]) (md:=mdT) hT (hi:=hi00) Tryz.func66 rfl rfl (by decide +kernel) (by simp) ?_
 unfold fH at h
 obtain ⟨h1,h⟩|⟨h1,h⟩:=af h
 ·obtain ⟨r01,g2,h⟩:=ab h
  simp(config:=cS)only[go_sem,eqT h1]
  refine ag (bL g2) ?_
  obtain ⟨h3,h⟩|⟨h3,h⟩:=af h
  ·obtain ⟨r02,g4,h⟩:=ab h
   simp(config:=cS)only[go_sem,eqT h1,eZt h3]
   refine ag (bL g4) ?_
   cases h
   simp(config:=cS)only[go_sem,eqT h1,eZt h3]
  ·cases h
   simp(config:=cS)only[go_sem,eqT h1,eZf h3]
 ·cases h
  simp(config:=cS)only[go_sem,eqF h1]
attribute [go_sem] Tryz.ntmps16 Tryz.results16
theorem jU {d:GDesk}{res:Bool}(h:cB d=some res):al Tryz.prog 16 [.agg (GDesk.encS d)] [] (.lit (.bool res)) []:=by
 refine ai (ra:=[]) (md:=mdT) hT (hi:=hi00) Tryz.func16 rfl rfl (by decide +kernel) (by simp) ?_
 unfold cB at h
 obtain ⟨r01,g1,h⟩:=ab h
 simp(config:=cS)only[go_sem]
 refine ag (lk g1) ?_
 obtain ⟨h2,h⟩|⟨h2,h⟩:=af h
 ·obtain ⟨h3,h⟩|⟨h3,h⟩:=af h
  ·obtain ⟨r02,g4,h⟩:=ab h
   simp(config:=cS)only[go_sem,eZt h2,eqT h3]
   refine ag (zE g4) ?_
   obtain ⟨h5,h⟩|⟨h5,h⟩:=af h
   ·obtain ⟨r03,g6,h⟩:=ab h
    simp(config:=cS)only[go_sem,eZt h2,eqT h3,eZt h5]
    refine ag (ti g6) ?_
    cases h
    simp(config:=cS)only[go_sem,eZt h2,eqT h3,eZt h5]
   ·cases h
    simp(config:=cS)only[go_sem,eZt h2,eqT h3,eZf h5]
  ·cases h
   simp(config:=cS)only[go_sem,eZt h2,eqF h3]
 ·cases h
  simp(config:=cS)only[go_sem,eZf h2]
attribute [go_sem] Tryz.ntmps159 Tryz.results159
theorem rr {v:Int}{res:Bool}(h:dT v=some res):al Tryz.prog 159 [.lit (.int .i64 v)] [] (.lit (.bool res)) []:=by
 refine ai (ra:=[]) (md:=mdT) hT (hi:=hi00) Tryz.func159 rfl rfl (by decide +kernel) (by simp) ?_
 unfold dT at h
 obtain ⟨h1,h⟩|⟨h1,h⟩:=af h
 ·cases h
  simp(config:=cS)only[go_sem,eqT h1]
 ·cases h
  simp(config:=cS)only[go_sem,eqF h1]
@[go_sem] def hi157_1:DT:=.i2 0 (.i2 1 (.i2 2 (.i2 3 (.i2 4 (.i2 5 (.i2 6 (.i2 7 (.i2 8 (.i2 9 (.i2 10 (.i2 11 (.i2 12 (.i2 13 .nil)))))))))))))
def Ew:Hint where
 acts:=fun _=>[]
 draws:=fun
  | 1=>⟨hi157_1,[[],[0],[],[2],[0,1,2,3],.range 5,[],[6],[],[8],[6,7,8,9],[6,7,8,9,10],.range 6,.range 13],[0,1,2,3,4,5,7,8,9,10,11,12,6,13]⟩
  | _=>⟨.nil,[],[]⟩
theorem Ov (i:Nat):Ew.acts i=[]:=rfl
theorem Ow (i:Nat):Ew.views i=none:=rfl
attribute [go_sem] Ov Ow Tryz.ntmps157 Tryz.results157
@[go_sem] theorem RP:(Ew.draws 1).order=hi157_1:=rfl
theorem xN {s:GShow}{v1:GState}{t:GTie}{res:Bool}(h:ia s v1 t=some res):al Tryz.prog 157 [.agg (GShow.encS s),.agg (GState.encS v1),.agg (GTie.enc t)] [] (.lit (.bool res)) []:=by
 refine ai (ra:=[]) (md:=mdT) hT (hi:=Ew) Tryz.func157 rfl rfl (by decide +kernel) (by simp) ?_
 unfold ia at h
 obtain ⟨x01,g1,h⟩:=ab h
 obtain ⟨h2,h3,h4⟩:=aj g1
 obtain ⟨x02,g5,h⟩:=ab h
 obtain ⟨h6,h7,h8⟩:=aj g5
 obtain ⟨h9,h⟩|⟨h9,h⟩:=af h
 ·obtain ⟨h10,h⟩|⟨h10,h⟩:=af h
  ·cases h
   simp(config:=cS)only[go_sem,h2,h3,h4,h6,h7,h8,eqT h9,eZt h10]
  ·obtain ⟨h11,h⟩|⟨h11,h⟩:=af h
   ·cases h
    simp(config:=cS)only[go_sem,h2,h3,h4,h6,h7,h8,eqT h9,eZf h10,eqT h11]
   ·obtain ⟨r03,g12,h⟩:=ab h
    simp(config:=cS)only[go_sem,h2,h3,h4,h6,h7,h8,eqT h9,eZf h10,eqF h11]
    refine ag (lR g12) ?_
    obtain ⟨h13,h⟩|⟨h13,h⟩:=af h
    ·cases h
     simp(config:=cS)only[go_sem,eqT h13]
    ·cases h
     simp(config:=cS)only[go_sem,eqF h13]
 ·obtain ⟨h14,h⟩|⟨h14,h⟩:=af h
  ·obtain ⟨h15,h⟩|⟨h15,h⟩:=af h
   ·cases h
    simp(config:=cS)only[go_sem,h2,h3,h4,h6,h7,h8,eqF h9,eqT h14,eZt h15]
   ·obtain ⟨r04,g16,h⟩:=ab h
    simp(config:=cS)only[go_sem,h2,h3,h4,h6,h7,h8,eqF h9,eqT h14,eZf h15]
    refine ag (lR g16) ?_
    obtain ⟨h17,h⟩|⟨h17,h⟩:=af h
    ·cases h
     simp(config:=cS)only[go_sem,eqT h17]
    ·cases h
     simp(config:=cS)only[go_sem,eqF h17]
  ·obtain ⟨h18,h⟩|⟨h18,h⟩:=af h
   ·cases h
    simp(config:=cS)only[go_sem,h2,h3,h4,h6,h7,h8,eqF h9,eqF h14,eqT h18]
   ·cases h
    simp(config:=cS)only[go_sem,h2,h3,h4,h6,h7,h8,eqF h9,eqF h14,eqF h18]
attribute [go_sem] Tryz.ntmps156 Tryz.results156
theorem xO {t:GTie}{s:GShow}{v2:GState}{res:Bool}(h:ko t s v2=some res):al Tryz.prog 156 [.agg (GTie.enc t),.loc [.sl (ae GNode.encS s.nodes),.sl (ae GTie.enc s.ties),.lit (.int .i64 s.horizon)],.loc [.lit (.int .i64 v2.now),.sl (ae eI v2.times),.sl (ae eI v2.values)]] [] (.lit (.bool res)) []:=by
 refine ai (ra:=[]) (md:=mdT) hT (hi:=hi00) Tryz.func156 rfl rfl (by decide +kernel) (by simp) ?_
 unfold ko at h
 obtain ⟨r01,g1,h⟩:=ab h
 simp(config:=cS)only[go_sem]
 refine ag (xN g1) ?_
 cases h
 simp(config:=cS)only[go_sem]
def qD (c:List Int)(h:Int)(d:List GNode)(e:List GTie)(f a:Int)(b:List Int)(g:Int):St:=⟨[(2,.ptr 128 1 0 0),(3,.ptr 192 1 0 0),(8,.sl (ae eI c)),(9,.lit (.int .i64 h)),(10,.lit (.int .i64 g))],[(128,1,.var [.sl (ae GNode.encS d),.sl (ae GTie.enc e),.lit (.int .i64 f)]),(192,1,.var [.lit (.int .i64 a),.sl (ae eI c),.sl (ae eI b)])],2⟩
attribute [go_sem] qD
attribute [go_sem] Tryz.ntmps70 Tryz.results70
theorem gE {s:GShow}{v1:GState}{res:Bool}(h:dx s v1=some res):al Tryz.prog 70 [.agg (GShow.encS s),.agg (GState.encS v1)] [] (.lit (.bool res)) []:=by
 refine ai (ra:=[]) (md:=mdT) hT (hi:=hi00) Tryz.func70 rfl rfl (by decide +kernel) (by simp) ?_
 unfold dx at h
 obtain ⟨q03,l1,h⟩:=ab h
 simp(config:=cS)only[go_sem]
 refine an (m1:=.mk) (m2:=.mk) [.nf [2,3,8,9,10] [128,192]] (qD v1.times ((v1.times.length:Nat):Int) s.nodes s.ties s.horizon v1.now v1.values) l1 ?_ ?_
 ·simp(config:=cS)only[go_sem]
 ·intro nb2 v10_1 bb2 b2 gb2
  unfold fI at b2
  try dsimp only at b2
  obtain ⟨h3,b2⟩|⟨h3,b2⟩:=af b2
  ·obtain ⟨x01,g4,b2⟩:=ab b2
   obtain ⟨h5,h6,h7⟩:=aj g4
   obtain ⟨h8,b2⟩|⟨h8,b2⟩:=af b2
   ·obtain ⟨r02,g9,b2⟩:=ab b2
    simp(config:=cS)only[go_sem,eqT h3,h5,h6,h7,eqT h8]
    refine ag (lR g9) ?_
    obtain ⟨h10,b2⟩|⟨h10,b2⟩:=af b2
    ·cases b2
     simp(config:=cS)only[go_sem,eqT h10]
     refine ao gb2 ?_
     simp(config:=cS)only[go_sem]
    ·cases b2
     obtain rfl:=(ak gb2).symm
     try dsimp only at h
     cases h
     simp(config:=cS)only[go_sem,eqF h10]
   ·cases b2
    simp(config:=cS)only[go_sem,eqT h3,h5,h6,h7,eqF h8]
    refine ao gb2 ?_
    simp(config:=cS)only[go_sem]
  ·cases b2
   obtain rfl:=(ak gb2).symm
   try dsimp only at h
   cases h
   simp(config:=cS)only[go_sem,eqF h3]
attribute [go_sem] Tryz.ntmps69 Tryz.results69
theorem fc {s:GShow}{v1:GState}{res:Bool}(h:cM s v1=some res):al Tryz.prog 69 [.agg (GShow.encS s),.agg (GState.encS v1)] [] (.lit (.bool res)) []:=by
 refine ai (ra:=[]) (md:=mdT) hT (hi:=hi00) Tryz.func69 rfl rfl (by decide +kernel) (by simp) ?_
 unfold cM at h
 obtain ⟨r01,g1,h⟩:=ab h
 simp(config:=cS)only[go_sem]
 refine ag (mz (by exact fun _ _ hr=>xO hr) (by refine ⟨fun _=>?_,fun _=>?_⟩ <;> simp only [go_sem]) (fun _=>rfl) rfl g1) ?_
 obtain ⟨h2,h⟩|⟨h2,h⟩:=af h
 ·cases h
  simp(config:=cS)only[go_sem,eZt h2]
 ·obtain ⟨h3,h⟩|⟨h3,h⟩:=af h
  ·obtain ⟨r02,g4,h⟩:=ab h
   simp(config:=cS)only[go_sem,eZf h2,eqT h3]
   refine ag (gE g4) ?_
   cases h
   simp(config:=cS)only[go_sem]
  ·cases h
   simp(config:=cS)only[go_sem,eZf h2,eqF h3]
attribute [go_sem] Tryz.ntmps80 Tryz.results80
theorem je {s:GShow}{res:GShow × (List (ByteArray × Bool))}(h:dy s=some res):al Tryz.prog 80 [.agg (GShow.encS s)] [] (.ptr 20000 1 0 0) [(20000,1,.var [.sl (ae GNode.encS res.1.nodes),.sl (ae GTie.enc res.1.ties),.lit (.int .i64 res.1.horizon),.mp 20001 1]),(20001,1,.map (eM res.2))]:=by
 refine ai (ra:=[]) (md:=mdT) hT (hi:=hi00) Tryz.func80 rfl rfl (by decide +kernel) (by simp) ?_
 unfold dy at h
 cases h
 simp(config:=cS)only[go_sem]
def ul (a:List Int)(e c:Int)(d:List Int):(Int × (List Int))→St
 | (f,b)=>⟨[(1,.ptr 64 1 0 0),(3,.ref 704 1 0 b.length),(13,.sl (ae eI a)),(14,.lit (.int .i64 e)),(15,.lit (.int .i64 f))],[(64,1,.var [.lit (.int .i64 c),.sl (ae eI a),.sl (ae eI d)]),(704,1,.row true (ae (eK .u8) b))],2⟩
attribute [go_sem] ul
def um (b:List Int)(c:Int):(Int × (List Int))→St
 | (d,a)=>⟨[(3,.ref 704 1 0 a.length),(27,.sl (ae eI b)),(28,.lit (.int .i64 c)),(29,.lit (.int .i64 d))],[(704,1,.row true (ae (eK .u8) a))],2⟩
attribute [go_sem] um
attribute [go_sem] Tryz.ntmps171 Tryz.results171
theorem If {v0:GState}{res:ByteArray}(h:qG v0=some res):al Tryz.prog 171 [.agg (GState.encS v0)] [] (.lit (.string res)) []:=by
 refine ai (ra:=[]) (md:=mdT) hT (hi:=hi00) Tryz.func171 rfl rfl (by decide +kernel) (by simp) ?_
 unfold qG at h
 obtain ⟨q04,l1,h⟩:=ab h
 simp(config:=cS)only[go_sem]
 refine an (m1:=.mk) (m2:=.mk) [.nf [1,3,13,14,15] [64,704]] (ul v0.times ((v0.times.length:Nat):Int) v0.now v0.values) l1 ?_ ?_
 ·simp(config:=cS)only[go_sem]
 ·intro nb2 sb2 bb2 b2 gb2
  obtain ⟨v15_1,out_1⟩:=sb2
  unfold mh at b2
  try dsimp only at b2
  obtain ⟨h3,b2⟩|⟨h3,b2⟩:=af b2
  ·obtain ⟨x01,g4,b2⟩:=ab b2
   obtain ⟨h5,h6,h7⟩:=aj g4
   obtain ⟨h8,b2⟩:=ah b2
   obtain ⟨h9,b2⟩:=ah b2
   cases b2
   simp(config:=cS)only[go_sem,eqT h3,h5,h6,h7,eqT h8,eqT h9]
   refine ao gb2 ?_
   simp(config:=cS)only[go_sem]
  ·cases b2
   obtain rfl:=(ak gb2).symm
   try dsimp only at h
   obtain ⟨q03,l11,h⟩:=ab h
   simp(config:=cS)only[go_sem,eqF h3]
   refine an (m1:=.mk) (m2:=.mk) [.nf [3,27,28,29] [704]] (um v0.values ((v0.values.length:Nat):Int)) l11 ?_ ?_
   ·simp(config:=cS)only[go_sem]
   ·intro nb12 sb12 bb12 b12 gb12
    obtain ⟨v29_2,out_2⟩:=sb12
    unfold mi at b12
    try dsimp only at b12
    obtain ⟨h13,b12⟩|⟨h13,b12⟩:=af b12
    ·obtain ⟨x02,g14,b12⟩:=ab b12
     obtain ⟨h15,h16,h17⟩:=aj g14
     obtain ⟨h18,b12⟩:=ah b12
     obtain ⟨h19,b12⟩:=ah b12
     cases b12
     simp(config:=cS)only[go_sem,eqT h13,h15,h16,h17,eqT h18,eqT h19]
     refine ao gb12 ?_
     simp(config:=cS)only[go_sem]
    ·cases b12
     obtain rfl:=(ak gb12).symm
     try dsimp only at h
     cases h
     simp(config:=cS)only[go_sem,eqF h13]
def lI (a:List Int)(b c:Int):St:=⟨[(0,.sl (ae eI a)),(9,.sl (ae eI a)),(10,.lit (.int .i64 b)),(11,.lit (.int .i64 c))],[],2⟩
attribute [go_sem] lI
def lJ (b:List Int)(n d:Int)(c:List (List Int)):(Int × (List Int))→St
 | (e,a)=>⟨[(0,.sl (ae eI b)),(5,.ref 383 1 0 c.length),(6,.lit (.int .i64 n)),(7,.ref 511 1 0 a.length),(44,.lit (.int .i64 d)),(45,.lit (.int .i64 e))],[(383,1,.row true (ae (eLO eI) c)),(511,1,.row true (ae eI a))],2⟩
attribute [go_sem] lJ
def lK (a:List Int):(Int × (List (List Int)))→St
 | (n,b)=>⟨[(0,.sl (ae eI a)),(5,.ref 383 1 0 b.length),(6,.lit (.int .i64 n))],[(383,1,.row true (ae (eLO eI) b))],2⟩
attribute [go_sem] lK
attribute [go_sem] Tryz.ntmps166 Tryz.results166
theorem pF {props:List Int}{res:List (List Int)}(h:eE props=some res):al Tryz.prog 166 [.sl (ae eI props)] [] (.ref 20000 1 0 res.length) [(20000,1,.row true (ae (eLO eI) res))]:=by
 refine ai (ra:=[.home 2]) (md:=mdT) hT (hi:=hi00) Tryz.func166 rfl rfl (by decide +kernel) (by simp) ?_
 unfold eE at h
 obtain ⟨q05,l1,h⟩:=ab h
 simp(config:=cS)only[go_sem]
 refine an (m1:=.mk) (m2:=.mk) [.nf [0,9,10,11] []] (lI props ((props.length:Nat):Int)) l1 ?_ ?_
 ·simp(config:=cS)only[go_sem]
 ·intro nb2 v11_1 bb2 b2 gb2
  unfold cY at b2
  try dsimp only at b2
  obtain ⟨h3,b2⟩|⟨h3,b2⟩:=af b2
  ·obtain ⟨x01,g4,b2⟩:=ab b2
   obtain ⟨h5,h6,h7⟩:=aj g4
   obtain ⟨h8,b2⟩|⟨h8,b2⟩:=af b2
   ·cases b2
    obtain rfl:=(ak gb2).symm
    try dsimp only at h
    cases h
    simp(config:=cS)only[go_sem,eqT h3,h5,h6,h7,eqT h8]
   ·obtain ⟨h10,b2⟩|⟨h10,b2⟩:=af b2
    ·cases b2
     obtain rfl:=(ak gb2).symm
     try dsimp only at h
     cases h
     simp(config:=cS)only[go_sem,eqT h3,h5,h6,h7,eqF h8,eqT h10]
    ·obtain ⟨h12,b2⟩|⟨h12,b2⟩:=af b2
     ·obtain ⟨x02,g13,b2⟩:=ab b2
      obtain ⟨h14,h15,h16⟩:=aj g13
      obtain ⟨h17,b2⟩|⟨h17,b2⟩:=af b2
      ·cases b2
       obtain rfl:=(ak gb2).symm
       try dsimp only at h
       cases h
       simp(config:=cS)only[go_sem,eqT h3,h5,h6,h7,eqF h8,eqF h10,eqT h12,h14,h15,h16,eqT h17]
      ·cases b2
       simp(config:=cS)only[go_sem,eqT h3,h5,h6,h7,eqF h8,eqF h10,eqT h12,h14,h15,h16,eqF h17]
       refine ao gb2 ?_
       simp(config:=cS)only[go_sem]
     ·cases b2
      simp(config:=cS)only[go_sem,eqT h3,h5,h6,h7,eqF h8,eqF h10,eqF h12]
      refine ao gb2 ?_
      simp(config:=cS)only[go_sem]
  ·cases b2
   obtain rfl:=(ak gb2).symm
   try dsimp only at h
   obtain ⟨q04,l20,h⟩:=ab h
   simp(config:=cS)only[go_sem,eqF h3]
   refine an (m1:=.mk) (m2:=.mk) [.home 5,.nf [0,5,6] [383]] (lK props) l20 ?_ ?_
   ·simp(config:=cS)only[go_sem]
   ·intro nb21 sb21 bb21 b21 gb21
    obtain ⟨n_2,out_2⟩:=sb21
    unfold da at b21
    try dsimp only at b21
    obtain ⟨h22,b21⟩:=ah b21
    obtain ⟨h23,b21⟩|⟨h23,b21⟩:=af b21
    ·obtain ⟨q03,l24,b21⟩:=ab b21
     simp(config:=cS)only[go_sem,eqF h22,eqT h23]
     refine an (m1:=.mk) (m2:=.mk) [.home 7,.nf [0,5,6,7,44,45] [383,511]] (lJ props n_2 ((props.length:Nat):Int) out_2) l24 ?_ ?_
     ·simp(config:=cS)only[go_sem]
     ·intro nb25 sb25 bb25 b25 gb25
      obtain ⟨v45_3,values_3⟩:=sb25
      unfold cZ at b25
      try dsimp only at b25
      obtain ⟨h26,b25⟩|⟨h26,b25⟩:=af b25
      ·obtain ⟨h27,b25⟩:=ah b25
       obtain ⟨h28,b25⟩:=ah b25
       obtain ⟨h29,b25⟩:=ah b25
       cases b25
       simp(config:=cS)only[go_sem,eqT h26,eqF h27,eqT h28,eqT h29]
       refine ao gb25 ?_
       simp(config:=cS)only[go_sem]
      ·cases b25
       obtain rfl:=(ak gb25).symm
       try dsimp only at b21
       obtain ⟨h31,b21⟩:=ah b21
       obtain ⟨h32,b21⟩:=ah b21
       cases b21
       simp(config:=cS)only[go_sem,eqF h26,eqT h31,eqT h32]
       refine ao gb21 ?_
       simp(config:=cS)only[go_sem]
    ·cases b21
     obtain rfl:=(ak gb21).symm
     try dsimp only at h
     cases h
     simp(config:=cS)only[go_sem,eqF h22,eqF h23]
def jt (g d:Int)(a b c:List Int)(f:List (List Int))(h:List GNode)(i:List GTie)(j:Int):(Int × (List (ByteArray × Bool)))→St
 | (k,e)=>⟨[(0,.ptr 10000 0 0 0),(7,.ptr 448 1 0 0),(8,.ref 1154 1 0 c.length),(22,.ref 1408 1 0 f.length),(23,.lit (.int .i64 g)),(24,.lit (.int .i64 k))],[(10000,0,.var [.sl (ae GNode.encS h),.sl (ae GTie.enc i),.lit (.int .i64 j),.mp 10001 0]),(10001,0,.map (eM e)),(448,1,.var [.lit (.int .i64 d),.ref 1152 1 0 a.length,.ref 1153 1 0 b.length]),(1152,1,.row true (ae eI a)),(1153,1,.row true (ae eI b)),(1154,1,.row true (ae eI c)),(1408,1,.tree (ae (eLS eI) f))],2⟩
attribute [go_sem] jt
@[go_sem] def hi75_1:DT:=.i2 0 (.i1 1 (.i1 2 (.i1 3 (.i1 4 (.i2 5 (.fork (.i2 6 (.i2 7 (.i2 8 (.i2 9 (.i0 10 [1,2,3,4] (.i2 11 (.i2 12 .nil))))))) (.i0 10 [1,2,3,4] (.i2 6 (.i2 7 (.i2 8 (.i2 9 (.i2 11 (.i2 12 .nil)))))))))))))
def hi75:Hint where
 acts:=fun _=>[]
 draws:=fun
  | 1=>⟨hi75_1,[[],[0],[0,1],[0,1,2],[],[],.range 6,.range 7,.range 8,.range 8,[],[0,1,2,3,4,5,6,7,8,10],.range 12],[0,1,2,3,4,5,6,7,8,11,9,10,12]⟩
  | _=>⟨.nil,[],[]⟩
@[go_sem] theorem Ts (i:Nat):hi75.acts i=[]:=rfl
theorem Qn (i:Nat):hi75.views i=none:=rfl
attribute [go_sem] Qn Tryz.ntmps75 Tryz.results75
@[go_sem] theorem SY:(hi75.draws 1).order=hi75_1:=rfl
theorem qE {rec:GShow→(List (ByteArray × Bool))→GState→Option (Bool × (List (ByteArray × Bool)))}(hrec:∀ {g_s:GShow} {g_known:List (ByteArray × Bool)} {v1:GState} {res:Bool × (List (ByteArray × Bool))},rec g_s g_known v1=some res→al Tryz.prog 84 [.ptr 10000 0 0 0,.agg (GState.encS v1)] [(10000,0,.var [.sl (ae GNode.encS g_s.nodes),.sl (ae GTie.enc g_s.ties),.lit (.int .i64 g_s.horizon),.mp 10001 0]),(10001,0,.map (eM g_known))] (.lit (.bool res.1)) [(10000,0,.var [.sl (ae GNode.encS g_s.nodes),.sl (ae GTie.enc g_s.ties),.lit (.int .i64 g_s.horizon),.mp 10001 0]),(10001,0,.map (eM res.2))]){g_s:GShow}{g_known:List (ByteArray × Bool)}{v1:GState}{nodes:List Int}{res:Bool × (List (ByteArray × Bool))}(h:dz rec g_s g_known v1 nodes=some res):al Tryz.prog 75 [.ptr 10000 0 0 0,.agg (GState.encS v1),.sl (ae eI nodes)] [(10000,0,.var [.sl (ae GNode.encS g_s.nodes),.sl (ae GTie.enc g_s.ties),.lit (.int .i64 g_s.horizon),.mp 10001 0]),(10001,0,.map (eM g_known))] (.lit (.bool res.1)) [(10000,0,.var [.sl (ae GNode.encS g_s.nodes),.sl (ae GTie.enc g_s.ties),.lit (.int .i64 g_s.horizon),.mp 10001 0]),(10001,0,.map (eM res.2))]:=by
 refine ai (ra:=[]) (md:=mdT) hT (hi:=hi75) Tryz.func75 rfl rfl (by decide +kernel) (by simp) ?_
 unfold dz at h
 try simp(config:=cS)only[go_sem]
 refine bj ?_ ?_
 ·obtain ⟨r01,g1,h⟩:=ab h
  simp(config:=cS)only[go_sem]
  refine ag (gD g1) ?_
  obtain ⟨r02,g2,h⟩:=ab h
  simp(config:=cS)only[go_sem]
  refine ag (pF g2) ?_
  obtain ⟨q06,l3,h⟩:=ab h
  simp(config:=cS)only[go_sem]
  refine an (m1:=.mk) (m2:=.mk) [.freeze [1408],.nf [0,7,8,22,23,24] [10000,10001,448,1152,1153,1154,1408]] (jt ((r02.length:Nat):Int) r01.1.now r01.1.times r01.1.values r01.2 r02 g_s.nodes g_s.ties g_s.horizon) l3 ?_ ?_
  ·simp(config:=cS)only[go_sem]
  ·intro nb4 sb4 bb4 b4 gb4
   obtain ⟨v24_1,h10001_1⟩:=sb4
   unfold cQ at b4
   try dsimp only at b4
   obtain ⟨h5,b4⟩|⟨h5,b4⟩:=af b4
   ·obtain ⟨x03,g6,b4⟩:=ab b4
    obtain ⟨h7,h8,h9⟩:=aj g6
    obtain ⟨r04,g10,b4⟩:=ab b4
    simp(config:=cS)only[go_sem,eqT h5,h7,h8,h9]
    refine ag (fb g10) ?_
    obtain ⟨r05,g11,b4⟩:=ab b4
    simp(config:=cS)only[go_sem]
    refine ag (hrec g11) ?_
    obtain ⟨h12,b4⟩|⟨h12,b4⟩:=af b4
    ·cases b4
     simp(config:=cS)only[go_sem,eZt h12]
     refine ao gb4 ?_
     simp(config:=cS)only[go_sem]
    ·cases b4
     obtain rfl:=(ak gb4).symm
     try dsimp only at h
     cases h
     simp(config:=cS)only[go_sem,eZf h12]
   ·cases b4
    obtain rfl:=(ak gb4).symm
    try dsimp only at h
    cases h
    simp(config:=cS)only[go_sem,eqF h5]
 ·obtain ⟨r07,g15,h⟩:=ab h
  simp(config:=cS)only[go_sem]
  refine ag (gD g15) ?_
  obtain ⟨r08,g16,h⟩:=ab h
  simp(config:=cS)only[go_sem]
  refine ag (pF g16) ?_
  obtain ⟨q12,l17,h⟩:=ab h
  simp(config:=cS)only[go_sem]
  refine an (m1:=.mk) (m2:=.mk) [.freeze [1408],.nf [0,7,8,22,23,24] [10000,10001,448,1152,1153,1154,1408]] (jt ((r08.length:Nat):Int) r07.1.now r07.1.times r07.1.values r07.2 r08 g_s.nodes g_s.ties g_s.horizon) l17 ?_ ?_
  ·simp(config:=cS)only[go_sem]
  ·intro nb18 sb18 bb18 b18 gb18
   obtain ⟨v24_2,h10001_2⟩:=sb18
   unfold cQ at b18
   try dsimp only at b18
   obtain ⟨h19,b18⟩|⟨h19,b18⟩:=af b18
   ·obtain ⟨x09,g20,b18⟩:=ab b18
    obtain ⟨h21,h22,h23⟩:=aj g20
    obtain ⟨r10,g24,b18⟩:=ab b18
    simp(config:=cS)only[go_sem,eqT h19,h21,h22,h23]
    refine ag (fb g24) ?_
    obtain ⟨r11,g25,b18⟩:=ab b18
    simp(config:=cS)only[go_sem]
    refine ag (hrec g25) ?_
    obtain ⟨h26,b18⟩|⟨h26,b18⟩:=af b18
    ·cases b18
     simp(config:=cS)only[go_sem,eZt h26]
     refine ao gb18 ?_
     simp(config:=cS)only[go_sem]
    ·cases b18
     obtain rfl:=(ak gb18).symm
     try dsimp only at h
     cases h
     simp(config:=cS)only[go_sem,eZf h26]
   ·cases b18
    obtain rfl:=(ak gb18).symm
    try dsimp only at h
    cases h
    simp(config:=cS)only[go_sem,eqF h19]
def nH (f c:Int)(d e:List Int)(b:List (List Int))(g:List GNode)(h:List GTie)(i:Int):(Int × (List (ByteArray × Bool)))→St
 | (j,a)=>⟨[(0,.ptr 10000 0 0 0),(3,.ptr 192 1 0 0),(13,.ref 832 1 0 b.length),(14,.lit (.int .i64 f)),(15,.lit (.int .i64 j))],[(10000,0,.var [.sl (ae GNode.encS g),.sl (ae GTie.enc h),.lit (.int .i64 i),.mp 10001 0]),(10001,0,.map (eM a)),(192,1,.var [.lit (.int .i64 c),.sl (ae eI d),.sl (ae eI e)]),(832,1,.tree (ae (eLS eI) b))],2⟩
attribute [go_sem] nH
@[go_sem] def hi92_1:DT:=.i2 0 (.i2 1 (.i2 2 (.i2 3 (.i2 4 (.i2 7 (.i2 5 (.i2 6 .nil)))))))
def hi92:Hint where
 acts:=fun _=>[]
 draws:=fun
  | 1=>⟨hi92_1,[[],[0],[0,1],[0,1,2],[],.range 5,.range 6,[]],.range 8⟩
  | _=>⟨.nil,[],[]⟩
@[go_sem] theorem Tt (i:Nat):hi92.acts i=[]:=rfl
theorem Qo (i:Nat):hi92.views i=none:=rfl
attribute [go_sem] Qo Tryz.ntmps92 Tryz.results92
@[go_sem] theorem SZ:(hi92.draws 1).order=hi92_1:=rfl
theorem rt {rec:GShow→(List (ByteArray × Bool))→GState→Option (Bool × (List (ByteArray × Bool)))}(hrec:∀ {g_s:GShow} {g_known:List (ByteArray × Bool)} {v1:GState} {res:Bool × (List (ByteArray × Bool))},rec g_s g_known v1=some res→al Tryz.prog 84 [.ptr 10000 0 0 0,.agg (GState.encS v1)] [(10000,0,.var [.sl (ae GNode.encS g_s.nodes),.sl (ae GTie.enc g_s.ties),.lit (.int .i64 g_s.horizon),.mp 10001 0]),(10001,0,.map (eM g_known))] (.lit (.bool res.1)) [(10000,0,.var [.sl (ae GNode.encS g_s.nodes),.sl (ae GTie.enc g_s.ties),.lit (.int .i64 g_s.horizon),.mp 10001 0]),(10001,0,.map (eM res.2))]){g_s:GShow}{g_known:List (ByteArray × Bool)}{v1:GState}{res:(List Int) × Bool × (List (ByteArray × Bool))}(h:dU rec g_s g_known v1=some res):al Tryz.prog 92 [.ptr 10000 0 0 0,.agg (GState.encS v1)] [(10000,0,.var [.sl (ae GNode.encS g_s.nodes),.sl (ae GTie.enc g_s.ties),.lit (.int .i64 g_s.horizon),.mp 10001 0]),(10001,0,.map (eM g_known))] (.tup [.sl (ae eI res.1),.lit (.bool res.2.1)]) [(10000,0,.var [.sl (ae GNode.encS g_s.nodes),.sl (ae GTie.enc g_s.ties),.lit (.int .i64 g_s.horizon),.mp 10001 0]),(10001,0,.map (eM res.2.2))]:=by
 refine ai (ra:=[.nilSl 4]) (md:=mdT) hT (hi:=hi92) Tryz.func92 rfl rfl (by decide +kernel) (by simp) ?_
 unfold dU at h
 obtain ⟨r01,g1,h⟩:=ab h
 simp(config:=cS)only[go_sem]
 refine ag (js g1) ?_
 obtain ⟨q04,l2,h⟩:=ab h
 simp(config:=cS)only[go_sem]
 refine an (m1:=.mk) (m2:=.mk) [.freeze [832],.nf [0,3,13,14,15] [10000,10001,192,832]] (nH ((r01.length:Nat):Int) v1.now v1.times v1.values r01 g_s.nodes g_s.ties g_s.horizon) l2 ?_ ?_
 ·simp(config:=cS)only[go_sem]
 ·intro nb3 sb3 bb3 b3 gb3
  obtain ⟨v15_1,h10001_1⟩:=sb3
  unfold fj at b3
  try dsimp only at b3
  obtain ⟨h4,b3⟩|⟨h4,b3⟩:=af b3
  ·obtain ⟨x02,g5,b3⟩:=ab b3
   obtain ⟨h6,h7,h8⟩:=aj g5
   obtain ⟨r03,g9,b3⟩:=ab b3
   simp(config:=cS)only[go_sem,eqT h4,h6,h7,h8]
   refine ag (qE @hrec g9) ?_
   obtain ⟨h10,b3⟩|⟨h10,b3⟩:=af b3
   ·cases b3
    obtain rfl:=(ak gb3).symm
    try dsimp only at h
    cases h
    simp(config:=cS)only[go_sem,eZt h10]
   ·cases b3
    simp(config:=cS)only[go_sem,eZf h10]
    refine ao gb3 ?_
    simp(config:=cS)only[go_sem]
  ·cases b3
   obtain rfl:=(ak gb3).symm
   try dsimp only at h
   cases h
   simp(config:=cS)only[go_sem,eqF h4]
def ou (k:ByteArray)(f c:Int)(d e:List Int)(b:List (List Int))(g:List GNode)(h:List GTie)(i:Int):(Int × (List (ByteArray × Bool)))→St
 | (j,a)=>⟨[(0,.ptr 10000 0 0 0),(3,.ptr 192 1 0 0),(5,.lit (.string k)),(8,.lit (.bool true)),(45,.ref 2880 1 0 b.length),(46,.lit (.int .i64 f)),(47,.lit (.int .i64 j))],[(10000,0,.var [.sl (ae GNode.encS g),.sl (ae GTie.enc h),.lit (.int .i64 i),.mp 10001 0]),(10001,0,.map (eM a)),(192,1,.var [.lit (.int .i64 c),.sl (ae eI d),.sl (ae eI e)]),(2880,1,.tree (ae (eLS eI) b))],2⟩
attribute [go_sem] ou
@[go_sem] def hi84_13:DT:=.i2 0 (.i2 1 (.i2 2 (.i2 3 (.i2 4 (.i2 5 (.i2 6 (.i2 7 (.i2 8 (.i2 9 (.i2 10 (.i2 11 (.i2 12 (.i2 13 .nil)))))))))))))
@[go_sem] def hi84_10:DT:=.i2 0 (.i2 1 (.i2 2 (.i2 3 (.i2 4 (.i2 7 (.i2 5 (.i2 6 .nil)))))))
@[go_sem] def hi84_3:DT:=.i2 0 (.i2 1 (.i2 2 (.i2 3 (.i2 4 (.i2 5 (.i2 6 .nil))))))
@[go_sem] def hi84_1:DT:=.i2 0 (.i2 1 (.i2 2 (.i2 3 (.i2 4 (.i2 5 (.i2 6 .nil))))))
def hi84:Hint where
 acts:=fun _=>[]
 draws:=fun
  | 1=>⟨hi84_1,[[],[0],[0,1],[0,1,2],[],.range 5,.range 6],.range 7⟩
  | 3=>⟨hi84_3,[[],[0],[0,1],[0,1,2],[],.range 5,.range 6],.range 7⟩
  | 10=>⟨hi84_10,[[],[0],[0,1],[0,1,2],[],.range 5,.range 6,[]],.range 8⟩
  | 13=>⟨hi84_13,[[],[],[1],[1,2],[1,2,3],[],[],[1,2,3,4,5,6],.range 8,.range 9,.range 10,.range 10,.range 11,.range 13],[0,1,2,3,4,5,6,7,8,9,10,12,11,13]⟩
  | _=>⟨.nil,[],[]⟩
@[go_sem] theorem Tu (i:Nat):hi84.acts i=[]:=rfl
theorem Qp (i:Nat):hi84.views i=none:=rfl
attribute [go_sem] Qp Tryz.ntmps84 Tryz.results84
@[go_sem] theorem Ta:(hi84.draws 1).order=hi84_1:=rfl
@[go_sem] theorem Tb:(hi84.draws 3).order=hi84_3:=rfl
@[go_sem] theorem RQ:(hi84.draws 10).order=hi84_10:=rfl
@[go_sem] theorem RR:(hi84.draws 13).order=hi84_13:=rfl
theorem xP {rec:GShow→(List (ByteArray × Bool))→GState→Option (Bool × (List (ByteArray × Bool)))}(hrec:∀ {g_s:GShow} {g_known:List (ByteArray × Bool)} {v1:GState} {res:Bool × (List (ByteArray × Bool))},rec g_s g_known v1=some res→al Tryz.prog 84 [.ptr 10000 0 0 0,.agg (GState.encS v1)] [(10000,0,.var [.sl (ae GNode.encS g_s.nodes),.sl (ae GTie.enc g_s.ties),.lit (.int .i64 g_s.horizon),.mp 10001 0]),(10001,0,.map (eM g_known))] (.lit (.bool res.1)) [(10000,0,.var [.sl (ae GNode.encS g_s.nodes),.sl (ae GTie.enc g_s.ties),.lit (.int .i64 g_s.horizon),.mp 10001 0]),(10001,0,.map (eM res.2))]){g_s:GShow}{g_known:List (ByteArray × Bool)}{v1:GState}{res:Bool × (List (ByteArray × Bool))}(h:ib rec g_s g_known v1=some res):al Tryz.prog 84 [.ptr 10000 0 0 0,.agg (GState.encS v1)] [(10000,0,.var [.sl (ae GNode.encS g_s.nodes),.sl (ae GTie.enc g_s.ties),.lit (.int .i64 g_s.horizon),.mp 10001 0]),(10001,0,.map (eM g_known))] (.lit (.bool res.1)) [(10000,0,.var [.sl (ae GNode.encS g_s.nodes),.sl (ae GTie.enc g_s.ties),.lit (.int .i64 g_s.horizon),.mp 10001 0]),(10001,0,.map (eM res.2))]:=by
 refine ai (ra:=[]) (md:=mdT) hT (hi:=hi84) Tryz.func84 rfl rfl (by decide +kernel) (by simp) ?_
 unfold ib at h
 obtain ⟨r01,g1,h⟩:=ab h
 simp(config:=cS)only[go_sem]
 refine ag (fc g1) ?_
 obtain ⟨h2,h⟩|⟨h2,h⟩:=af h
 ·cases h
  simp(config:=cS)only[go_sem,eZt h2]
 ·obtain ⟨r02,g3,h⟩:=ab h
  simp(config:=cS)only[go_sem,eZf h2]
  refine ag (gE g3) ?_
  obtain ⟨h4,h⟩|⟨h4,h⟩:=af h
  ·cases h
   simp(config:=cS)only[go_sem,eZt h4]
  ·obtain ⟨r03,g5,h⟩:=ab h
   simp(config:=cS)only[go_sem,eZf h4]
   refine ag (If g5) ?_
   obtain ⟨x04,g6,h8⟩|⟨g7,h8⟩:=HN h
   ·cases h8
    simp(config:=cS)only[go_sem,g6]
   ·obtain ⟨r05,g9,h8⟩:=ab h8
    simp(config:=cS)only[go_sem,g7]
    refine ag (gC g9) ?_
    obtain ⟨q09,l10,h8⟩:=ab h8
    simp(config:=cS)only[go_sem]
    refine an (m1:=.mk) (m2:=.mk) [.freeze [2880],.nf [0,3,5,8,45,46,47] [10000,10001,192,2880]] (ou r03 ((r05.length:Nat):Int) v1.now v1.times v1.values r05 g_s.nodes g_s.ties g_s.horizon) l10 ?_ ?_
    ·simp(config:=cS)only[go_sem]
    ·intro nb11 sb11 bb11 b11 gb11
     obtain ⟨v47_1,h10001_1⟩:=sb11
     unfold gh at b11
     try dsimp only at b11
     obtain ⟨h12,b11⟩|⟨h12,b11⟩:=af b11
     ·obtain ⟨x06,g13,b11⟩:=ab b11
      obtain ⟨h14,h15,h16⟩:=aj g13
      obtain ⟨r07,g17,b11⟩:=ab b11
      simp(config:=cS)only[go_sem,eqT h12,h14,h15,h16]
      refine ag (jr g17) ?_
      obtain ⟨r08,g18,b11⟩:=ab b11
      simp(config:=cS)only[go_sem]
      refine ag (rt @hrec g18) ?_
      obtain ⟨h19,b11⟩|⟨h19,b11⟩:=af b11
      ·cases b11
       simp(config:=cS)only[go_sem,eZt h19]
       refine ao gb11 ?_
       simp(config:=cS)only[go_sem]
      ·cases b11
       obtain rfl:=(ak gb11).symm
       try dsimp only at h8
       cases h8
       simp(config:=cS)only[go_sem,eZf h19]
     ·cases b11
      obtain rfl:=(ak gb11).symm
      try dsimp only at h8
      cases h8
      simp(config:=cS)only[go_sem,eqF h12]
theorem vZ (n:Nat):∀ {g_s:GShow} {g_known:List (ByteArray × Bool)} {v1:GState} {res:Bool × (List (ByteArray × Bool))},ir n g_s g_known v1=some res→al Tryz.prog 84 [.ptr 10000 0 0 0,.agg (GState.encS v1)] [(10000,0,.var [.sl (ae GNode.encS g_s.nodes),.sl (ae GTie.enc g_s.ties),.lit (.int .i64 g_s.horizon),.mp 10001 0]),(10001,0,.map (eM g_known))] (.lit (.bool res.1)) [(10000,0,.var [.sl (ae GNode.encS g_s.nodes),.sl (ae GTie.enc g_s.ties),.lit (.int .i64 g_s.horizon),.mp 10001 0]),(10001,0,.map (eM res.2))]:=by
 induction n with
 | zero=>intro _ _ _ _ h;cases h
 | succ n ih=>intro _ _ _ _ h;exact xP (@ih) h
theorem oT {g_s:GShow}{g_known:List (ByteArray × Bool)}{v1:GState}{res:Bool × (List (ByteArray × Bool))}(h:m_impl_game_wins g_s g_known v1=some res):al Tryz.prog 84 [.ptr 10000 0 0 0,.agg (GState.encS v1)] [(10000,0,.var [.sl (ae GNode.encS g_s.nodes),.sl (ae GTie.enc g_s.ties),.lit (.int .i64 g_s.horizon),.mp 10001 0]),(10001,0,.map (eM g_known))] (.lit (.bool res.1)) [(10000,0,.var [.sl (ae GNode.encS g_s.nodes),.sl (ae GTie.enc g_s.ties),.lit (.int .i64 g_s.horizon),.mp 10001 0]),(10001,0,.map (eM res.2))]:=vZ 40 h
theorem mV {g_s:GShow}{g_known:List (ByteArray × Bool)}{v1:GState}{nodes:List Int}{res:Bool × (List (ByteArray × Bool))}(h:eF g_s g_known v1 nodes=some res):al Tryz.prog 75 [.ptr 10000 0 0 0,.agg (GState.encS v1),.sl (ae eI nodes)] [(10000,0,.var [.sl (ae GNode.encS g_s.nodes),.sl (ae GTie.enc g_s.ties),.lit (.int .i64 g_s.horizon),.mp 10001 0]),(10001,0,.map (eM g_known))] (.lit (.bool res.1)) [(10000,0,.var [.sl (ae GNode.encS g_s.nodes),.sl (ae GTie.enc g_s.ties),.lit (.int .i64 g_s.horizon),.mp 10001 0]),(10001,0,.map (eM res.2))]:=qE (@oT) h
theorem yN {g_s:GShow}{g_known:List (ByteArray × Bool)}{v1:GState}{res:(List Int) × Bool × (List (ByteArray × Bool))}(h:tj g_s g_known v1=some res):al Tryz.prog 92 [.ptr 10000 0 0 0,.agg (GState.encS v1)] [(10000,0,.var [.sl (ae GNode.encS g_s.nodes),.sl (ae GTie.enc g_s.ties),.lit (.int .i64 g_s.horizon),.mp 10001 0]),(10001,0,.map (eM g_known))] (.tup [.sl (ae eI res.1),.lit (.bool res.2.1)]) [(10000,0,.var [.sl (ae GNode.encS g_s.nodes),.sl (ae GTie.enc g_s.ties),.lit (.int .i64 g_s.horizon),.mp 10001 0]),(10001,0,.map (eM res.2.2))]:=rt (@oT) h
attribute [go_sem] Tryz.ntmps173 Tryz.results173
theorem ru {nodes:List Int}{g_s:GShow}{g_known:List (ByteArray × Bool)}{v2:GState}{res:Bool × (List (ByteArray × Bool))}(h:jM nodes g_s g_known v2=some res):al Tryz.prog 173 [.sl (ae eI nodes),.ptr 10000 0 0 0,.ptr 10003 0 0 0] [(10000,0,.var [.ptr 10001 0 0 0]),(10001,0,.var [.sl (ae GNode.encS g_s.nodes),.sl (ae GTie.enc g_s.ties),.lit (.int .i64 g_s.horizon),.mp 10002 0]),(10002,0,.map (eM g_known)),(10003,0,.var [.lit (.int .i64 v2.now),.sl (ae eI v2.times),.sl (ae eI v2.values)])] (.lit (.bool res.1)) [(10000,0,.var [.ptr 10001 0 0 0]),(10001,0,.var [.sl (ae GNode.encS g_s.nodes),.sl (ae GTie.enc g_s.ties),.lit (.int .i64 g_s.horizon),.mp 10002 0]),(10002,0,.map (eM res.2)),(10003,0,.var [.lit (.int .i64 v2.now),.sl (ae eI v2.times),.sl (ae eI v2.values)])]:=by
 refine ai (ra:=[]) (md:=mdT) hT (hi:=hi00) Tryz.func173 rfl rfl (by decide +kernel) (by simp) ?_
 unfold jM at h
 obtain ⟨r01,g1,h⟩:=ab h
 simp(config:=cS)only[go_sem]
 refine ag (mV g1) ?_
 cases h
 simp(config:=cS)only[go_sem]
def cN (h:Bool)(j:Int)(i:List (List Int))(a:List GNode)(b:List GTie)(c d:Int)(e f:List Int):(Int × (List (ByteArray × Bool)))→St
 | (k,g)=>⟨[(0,.ref 10000 0 0 i.length),(1,.fn 173 [.ptr 10001 0 0 0,.ptr 10004 0 0 0]),(7,.lit (.int .i64 j)),(8,.lit (.int .i64 k))],[(10000,0,.row h (ae (eLS eI) i)),(10001,0,.var [.ptr 10002 0 0 0]),(10002,0,.var [.sl (ae GNode.encS a),.sl (ae GTie.enc b),.lit (.int .i64 c),.mp 10003 0]),(10003,0,.map (eM g)),(10004,0,.var [.lit (.int .i64 d),.sl (ae eI e),.sl (ae eI f)])],2⟩
attribute [go_sem] cN
attribute [go_sem] Tryz.ntmps172 Tryz.results172
theorem kP {v0:List (List Int)}{g_s:GShow}{g_known:List (ByteArray × Bool)}{cap1:GState}{zb0:Bool}{res:Int × (List (List Int)) × (List (ByteArray × Bool))}(h:bV v0 g_s g_known cap1=some res):al Tryz.prog 172 [.ref 10000 0 0 v0.length,.fn 173 [.ptr 10001 0 0 0,.ptr 10004 0 0 0]] [(10000,0,.row zb0 (ae (eLS eI) v0)),(10001,0,.var [.ptr 10002 0 0 0]),(10002,0,.var [.sl (ae GNode.encS g_s.nodes),.sl (ae GTie.enc g_s.ties),.lit (.int .i64 g_s.horizon),.mp 10003 0]),(10003,0,.map (eM g_known)),(10004,0,.var [.lit (.int .i64 cap1.now),.sl (ae eI cap1.times),.sl (ae eI cap1.values)])] (.lit (.int .i64 res.1)) [(10000,0,.row zb0 (ae (eLS eI) res.2.1)),(10001,0,.var [.ptr 10002 0 0 0]),(10002,0,.var [.sl (ae GNode.encS g_s.nodes),.sl (ae GTie.enc g_s.ties),.lit (.int .i64 g_s.horizon),.mp 10003 0]),(10003,0,.map (eM res.2.2)),(10004,0,.var [.lit (.int .i64 cap1.now),.sl (ae eI cap1.times),.sl (ae eI cap1.values)])]:=by
 refine ai (ra:=[]) (md:=mdT) hT (hi:=hi00) Tryz.func172 rfl rfl (by decide +kernel) (by simp) ?_
 unfold bV at h
 obtain ⟨q03,l1,h⟩:=ab h
 simp(config:=cS)only[go_sem]
 refine an (m1:=.mk) (m2:=.mk) [.nf [0,1,7,8] [10000,10001,10002,10003,10004]] (cN zb0 ((v0.length:Nat):Int) v0 g_s.nodes g_s.ties g_s.horizon cap1.now cap1.times cap1.values) l1 ?_ ?_
 ·simp(config:=cS)only[go_sem]
 ·intro nb2 sb2 bb2 b2 gb2
  obtain ⟨v8_1,h10003_1⟩:=sb2
  unfold dH at b2
  try dsimp only at b2
  obtain ⟨h3,b2⟩|⟨h3,b2⟩:=af b2
  ·obtain ⟨x01,g4,b2⟩:=ab b2
   obtain ⟨h5,h6,h7⟩:=aj g4
   obtain ⟨r02,g8,b2⟩:=ab b2
   simp(config:=cS)only[go_sem,eqT h3,h5,h6,h7]
   refine ag (ru g8) ?_
   obtain ⟨h9,b2⟩|⟨h9,b2⟩:=af b2
   ·cases b2
    obtain rfl:=(ak gb2).symm
    try dsimp only at h
    cases h
    simp(config:=cS)only[go_sem,eZt h9]
   ·cases b2
    simp(config:=cS)only[go_sem,eZf h9]
    refine ao gb2 ?_
    simp(config:=cS)only[go_sem]
  ·cases b2
   obtain rfl:=(ak gb2).symm
   try dsimp only at h
   cases h
   simp(config:=cS)only[go_sem,eqF h3]
def cL (i:Bool)(h:Nat)(a:List GNode)(b:List GTie)(c d:Int)(e f:List Int):(Int × Int × (List (List Int)) × (List (ByteArray × Bool)))→St
 | (j,k,l,g)=>⟨[(0,.ref 10000 0 0 h),(1,.fn 173 [.ptr 10001 0 0 0,.ptr 10004 0 0 0]),(5,.lit (.int .i64 j)),(6,.lit (.int .i64 k))],[(10000,0,.row i (ae (eLS eI) l)),(10001,0,.var [.ptr 10002 0 0 0]),(10002,0,.var [.sl (ae GNode.encS a),.sl (ae GTie.enc b),.lit (.int .i64 c),.mp 10003 0]),(10003,0,.map (eM g)),(10004,0,.var [.lit (.int .i64 d),.sl (ae eI e),.sl (ae eI f)])],2⟩
attribute [go_sem] cL
def cW:Hint where
 acts:=fun i=>match i with | 0=>[.frIn 10000] | _=>[]
 draws:=fun
  | _=>⟨.nil,[],[]⟩
@[go_sem] theorem Pt:cW.acts 0=[.frIn 10000]:=rfl
@[go_sem] theorem Pu:cW.acts 1=[]:=rfl
@[go_sem] theorem Pv:cW.acts 2=[]:=rfl
@[go_sem] theorem Pw:cW.acts 3=[]:=rfl
@[go_sem] theorem Px:cW.acts 4=[]:=rfl
@[go_sem] theorem Py:cW.acts 5=[]:=rfl
@[go_sem] theorem Pz:cW.acts 7=[]:=rfl
@[go_sem] theorem PA:cW.acts 8=[]:=rfl
@[go_sem] theorem PB:cW.acts 9=[]:=rfl
@[go_sem] theorem Ox:cW.acts 10=[]:=rfl
@[go_sem] theorem PC:cW.acts 6=[]:=rfl
@[go_sem] theorem Oy:cW.acts 11=[]:=rfl
@[go_sem] theorem Oz:cW.acts 12=[]:=rfl
theorem Ig (i:Nat):cW.views i=none:=rfl
attribute [go_sem] Ig Tryz.ntmps87 Tryz.results87
theorem kK {v0:List (List Int)}{g_s:GShow}{g_known:List (ByteArray × Bool)}{cap1:GState}{zb0:Bool}{res:(List (List Int)) × (List (ByteArray × Bool))}(h:bO v0 g_s g_known cap1=some res):al Tryz.prog 87 [.ref 10000 0 0 v0.length,.fn 173 [.ptr 10001 0 0 0,.ptr 10004 0 0 0]] [(10000,0,.row zb0 (ae (eLO eI) v0)),(10001,0,.var [.ptr 10002 0 0 0]),(10002,0,.var [.sl (ae GNode.encS g_s.nodes),.sl (ae GTie.enc g_s.ties),.lit (.int .i64 g_s.horizon),.mp 10003 0]),(10003,0,.map (eM g_known)),(10004,0,.var [.lit (.int .i64 cap1.now),.sl (ae eI cap1.times),.sl (ae eI cap1.values)])] (.ref 10000 0 0 res.1.length) [(10000,0,.row false (ae (eLS eI) res.1)),(10001,0,.var [.ptr 10002 0 0 0]),(10002,0,.var [.sl (ae GNode.encS g_s.nodes),.sl (ae GTie.enc g_s.ties),.lit (.int .i64 g_s.horizon),.mp 10003 0]),(10003,0,.map (eM res.2)),(10004,0,.var [.lit (.int .i64 cap1.now),.sl (ae eI cap1.times),.sl (ae eI cap1.values)])]:=by
 refine ai (ra:=[.home 4,.trim 4]) (md:=mdT) hT (hi:=cW) Tryz.func87 rfl rfl (by decide +kernel) (by simp) ?_
 unfold bO at h
 obtain ⟨r01,g1,h⟩:=ab h
 simp(config:=cS)only[go_sem]
 refine ag (kP g1) ?_
 obtain ⟨h2,h⟩|⟨h2,h⟩:=af h
 ·obtain ⟨h3,h⟩:=ah h
  cases h
  simp(config:=cS)only[go_sem,eqT h2,eqT h3]
 ·obtain ⟨q05,l4,h⟩:=ab h
  simp(config:=cS)only[go_sem,eqF h2]
  refine an (m1:=.mk) (m2:=.mk) [.nf [0,1,5,6] [10000,10001,10002,10003,10004]] (cL zb0 v0.length g_s.nodes g_s.ties g_s.horizon cap1.now cap1.times cap1.values) l4 ?_ ?_
  ·simp(config:=cS)only[go_sem]
  ·intro nb5 sb5 bb5 b5 gb5
   obtain ⟨v5_1,v6_1,v0_1,h10003_1⟩:=sb5
   unfold dn at b5
   try dsimp only at b5
   obtain ⟨h6,b5⟩|⟨h6,b5⟩:=af b5
   ·obtain ⟨h7,b5⟩:=ah b5
    obtain ⟨x02,g8,b5⟩:=ab b5
    obtain ⟨h9,h10,h11⟩:=aj g8
    obtain ⟨r03,g12,b5⟩:=ab b5
    simp(config:=cS)only[go_sem,eqT h6,eqT h7,h9,h10,h11]
    refine ag (ru g12) ?_
    obtain ⟨h13,b5⟩|⟨h13,b5⟩:=af b5
    ·cases b5
     simp(config:=cS)only[go_sem,eZt h13]
     refine ao gb5 ?_
     simp(config:=cS)only[go_sem]
    ·obtain ⟨h14,b5⟩:=ah b5
     obtain ⟨x04,g15,b5⟩:=ab b5
     obtain ⟨h16,h17,h18⟩:=aj g15
     cases b5
     simp(config:=cS)only[go_sem,eZf h13,eqT h14,h16,h17,h18]
     refine ao gb5 ?_
     simp(config:=cS)only[go_sem]
   ·cases b5
    obtain rfl:=(ak gb5).symm
    try dsimp only at h
    obtain ⟨h20,h⟩:=ah h
    obtain ⟨h21,h⟩:=ah h
    obtain ⟨h22,h⟩:=ah h
    obtain ⟨h23,h⟩:=ah h
    obtain ⟨h24,h⟩:=ah h
    obtain ⟨h25,h⟩:=ah h
    cases h
    simp(config:=cS)only[go_sem,eqF h6,eqT h20,eqT h21,eqT h22,eqT h23,eqT h24,eqT h25]
@[go_sem] def hi88_1:DT:=.i2 0 (.i2 1 (.i2 2 (.i2 3 (.i2 4 (.i2 6 (.i2 5 (.i2 7 (.i2 8 .nil))))))))
def hi88:Hint where
 acts:=fun _=>[]
 draws:=fun
  | 1=>⟨hi88_1,[[],[0],[0,1],[0,1,2],[],.range 5,[],.range 7,.range 8],.range 9⟩
  | _=>⟨.nil,[],[]⟩
theorem Qq (i:Nat):hi88.acts i=[]:=rfl
theorem Qr (i:Nat):hi88.views i=none:=rfl
attribute [go_sem] Qq Qr Tryz.ntmps88 Tryz.results88
@[go_sem] theorem Tc:(hi88.draws 1).order=hi88_1:=rfl
theorem zF {g_s:GShow}{g_known:List (ByteArray × Bool)}{v1:GState}{res:(List (List Int)) × (List (ByteArray × Bool))}(h:oV g_s g_known v1=some res):al Tryz.prog 88 [.ptr 10000 0 0 0,.agg (GState.encS v1)] [(10000,0,.var [.sl (ae GNode.encS g_s.nodes),.sl (ae GTie.enc g_s.ties),.lit (.int .i64 g_s.horizon),.mp 10001 0]),(10001,0,.map (eM g_known))] (.ref 20000 1 0 res.1.length) [(10000,0,.var [.sl (ae GNode.encS g_s.nodes),.sl (ae GTie.enc g_s.ties),.lit (.int .i64 g_s.horizon),.mp 10001 0]),(10001,0,.map (eM res.2)),(20000,1,.row false (ae (eLS eI) res.1))]:=by
 refine ai (ra:=[.home 4,.trim 4]) (md:=mdT) hT (hi:=hi88) Tryz.func88 rfl rfl (by decide +kernel) (by simp) ?_
 unfold oV at h
 obtain ⟨r01,g1,h⟩:=ab h
 simp(config:=cS)only[go_sem]
 refine ag (js g1) ?_
 obtain ⟨r02,g2,h⟩:=ab h
 simp(config:=cS)only[go_sem]
 refine ag (kK g2) ?_
 cases h
 simp(config:=cS)only[go_sem]
attribute [go_sem] Tryz.ntmps86 Tryz.results86
theorem Fk {list:List (List Int)}{lazy:Bool}{res:(List Int) × Bool}(h:uq list lazy=some res):al Tryz.prog 86 [.sl (ae (eLS eI) list),.lit (.bool lazy)] [] (.tup [.sl (ae eI res.1),.lit (.bool res.2)]) []:=by
 refine ai (ra:=[.nilSl 4]) (md:=mdT) hT (hi:=hi00) Tryz.func86 rfl rfl (by decide +kernel) (by simp) ?_
 unfold uq at h
 obtain ⟨h1,h⟩|⟨h1,h⟩:=af h
 ·cases h
  simp(config:=cS)only[go_sem,eqT h1]
 ·obtain ⟨h2,h⟩|⟨h2,h⟩:=af h
  ·obtain ⟨x01,g3,h⟩:=ab h
   obtain ⟨h4,h5,h6⟩:=aj g3
   cases h
   simp(config:=cS)only[go_sem,eqF h1,eZt h2,h4,h5,h6]
  ·obtain ⟨x02,g7,h⟩:=ab h
   obtain ⟨h9,h10⟩:=cV (k:=0) g7
   cases h
   simp(config:=cS)only[go_sem,eqF h1,eZf h2,h9,h10]
attribute [go_sem] Tryz.ntmps91 Tryz.results91
theorem sE {g_s:GShow}{g_known:List (ByteArray × Bool)}{v1:GState}{d:GDesk}{res:(List Int) × Bool × (List (ByteArray × Bool))}(h:mY g_s g_known v1 d=some res):al Tryz.prog 91 [.ptr 10000 0 0 0,.agg (GState.encS v1),.loc [.sl (ae GNode.encS d.show_.nodes),.sl (ae GTie.enc d.show_.ties),.lit (.int .i64 d.show_.horizon),.lit (.int .i64 d.state.now),.sl (ae eI d.state.times),.sl (ae eI d.state.values),.lit (.bool d.lazy),.sl (ae GEntry.encS d.log)]] [(10000,0,.var [.sl (ae GNode.encS g_s.nodes),.sl (ae GTie.enc g_s.ties),.lit (.int .i64 g_s.horizon),.mp 10001 0]),(10001,0,.map (eM g_known))] (.tup [.sl (ae eI res.1),.lit (.bool res.2.1)]) [(10000,0,.var [.sl (ae GNode.encS g_s.nodes),.sl (ae GTie.enc g_s.ties),.lit (.int .i64 g_s.horizon),.mp 10001 0]),(10001,0,.map (eM res.2.2))]:=by
 refine ai (ra:=[.home 5]) (md:=mdT) hT (hi:=hi00) Tryz.func91 rfl rfl (by decide +kernel) (by simp) ?_
 unfold mY at h
 obtain ⟨h1,h⟩|⟨h1,h⟩:=af h
 ·obtain ⟨r01,g2,h⟩:=ab h
  simp(config:=cS)only[go_sem,eZt h1]
  refine ag (zF g2) ?_
  obtain ⟨r02,g3,h⟩:=ab h
  simp(config:=cS)only[go_sem]
  refine ag (Fk g3) ?_
  cases h
  simp(config:=cS)only[go_sem]
 ·obtain ⟨r03,g4,h⟩:=ab h
  simp(config:=cS)only[go_sem,eZf h1]
  refine ag (yN g4) ?_
  cases h
  simp(config:=cS)only[go_sem]
def pG (a d:List Int)(e:Int):(Int × (List Int))→St
 | (c,b)=>⟨[(1,.sl (ae eI a)),(5,.ref 383 1 0 b.length),(8,.sl (ae eI d)),(9,.lit (.int .i64 e)),(10,.lit (.int .i64 c))],[(383,1,.row true (ae eI b))],2⟩
attribute [go_sem] pG
attribute [go_sem] Tryz.ntmps162 Tryz.results162
theorem mD {props values res:List Int}(h:iu props values=some res):al Tryz.prog 162 [.sl (ae eI props),.sl (ae eI values)] [] (.ref 20000 1 0 res.length) [(20000,1,.row true (ae eI res))]:=by
 refine ai (ra:=[.home 4]) (md:=mdT) hT (hi:=hi00) Tryz.func162 rfl rfl (by decide +kernel) (by simp) ?_
 unfold iu at h
 obtain ⟨q03,l1,h⟩:=ab h
 simp(config:=cS)only[go_sem]
 refine an (m1:=.mk) (m2:=.mk) [.home 5,.nf [1,5,8,9,10] [383]] (pG values props ((props.length:Nat):Int)) l1 ?_ ?_
 ·simp(config:=cS)only[go_sem]
 ·intro nb2 sb2 bb2 b2 gb2
  obtain ⟨v10_1,out_1⟩:=sb2
  unfold ic at b2
  try dsimp only at b2
  obtain ⟨h3,b2⟩|⟨h3,b2⟩:=af b2
  ·obtain ⟨x01,g4,b2⟩:=ab b2
   obtain ⟨h5,h6,h7⟩:=aj g4
   obtain ⟨x02,g8,b2⟩:=ab b2
   obtain ⟨h9,h10,h11⟩:=aj g8
   obtain ⟨h12,b2⟩:=ah b2
   obtain ⟨h13,b2⟩:=ah b2
   cases b2
   simp(config:=cS)only[go_sem,eqT h3,h5,h6,h7,h9,h10,h11,eqT h12,eqT h13]
   refine ao gb2 ?_
   simp(config:=cS)only[go_sem]
  ·cases b2
   obtain rfl:=(ak gb2).symm
   try dsimp only at h
   cases h
   simp(config:=cS)only[go_sem,eqF h3]
def cn (s h l:List Int)(t m n:Int)(o:Bool)(p:Int)(q r:List Int)(i:Int)(a:List GNode)(b:List GTie)(c d:List Int)(e:List GEntry)(f g j:List Int):(Int × (List Int))→St
 | (u,k)=>⟨[(1,.sl (ae eI s)),(2,.sl (ae eI h)),(10,.ptr 640 1 0 0),(13,.ptr 832 1 0 0),(15,.ptr 960 1 0 0),(17,.sl (ae eI l)),(19,.ptr 1216 1 0 0),(20,.ref 5506 1 0 j.length),(21,.ref 1407 1 0 k.length),(89,.ref 5506 1 0 j.length),(90,.lit (.int .i64 t)),(91,.lit (.int .i64 u))],[(640,1,.var [.lit (.slice none 0 0),.lit (.slice none 0 0),.lit (.int .i64 0),.lit (.int .i64 0),.lit (.slice none 0 0),.lit (.slice none 0 0),.lit (.bool false),.lit (.slice none 0 0)]),(832,1,.var [.ref 1600 1 0 a.length,.ref 1601 1 0 b.length,.lit (.int .i64 m),.lit (.int .i64 n),.ref 1602 1 0 c.length,.ref 1603 1 0 d.length,.lit (.bool o),.ref 1604 1 0 e.length]),(1600,1,.row true (ae GNode.encO a)),(1601,1,.row true (ae GTie.enc b)),(1602,1,.row true (ae eI c)),(1603,1,.row true (ae eI d)),(1604,1,.row true (ae GEntry.encO e)),(960,1,.var [.lit (.int .i64 p),.sl (ae eI q),.sl (ae eI r)]),(1216,1,.var [.lit (.int .i64 i),.ref 5504 1 0 f.length,.ref 5505 1 0 g.length]),(5504,1,.row true (ae eI f)),(5505,1,.row true (ae eI g)),(5506,1,.row true (ae eI j)),(1407,1,.row true (ae eI k))],2⟩
attribute [go_sem] cn
@[go_sem] def hi71_s91_22:DT:=.i1 0 (.i2 1 (.i0 2 [0] (.i2 3 (.i2 4 (.i2 5 .nil)))))
@[go_sem] def hi71_s91_21:DT:=.i1 0 (.i1 1 (.i1 2 (.i1 3 (.i2 4 (.i2 6 (.i2 8 (.i2 9 (.i0 5 [0,1,2,3] (.i0 7 [0,1,2,3] (.i0 10 [0,1,2,3] (.i2 11 (.i0 12 [0,1] (.i2 13 (.i2 14 (.i2 15 .nil)))))))))))))))
@[go_sem] def hi71_s91_10:DT:=.i2 0 (.i2 1 (.i1 3 (.i0 2 [3] (.i2 4 (.i2 5 (.i2 6 (.i2 7 (.i2 8 (.i2 9 .nil)))))))))
@[go_sem] def hi71_s91_4:DT:=.i1 0 (.i1 1 (.i1 2 (.i1 3 (.fork (.i0 4 [0,1,2,3] (.i0 5 [0,1,2,3] (.i0 6 [2,3] (.i2 7 .nil)))) (.i0 5 [0,1,2,3] (.i0 4 [0,1,2,3] (.i0 6 [2,3] (.i2 7 .nil))))))))
def oU:Hint where
 acts:=fun _=>[]
 draws:=fun
  | 4=>⟨hi71_s91_4,[[],[0],[],[2],[],[],[0,1,4,5],.range 7],[0,1,5,6,2,3,4,7]⟩
  | 10=>⟨hi71_s91_10,[[],[],[1],[],[0,1,2,3],.range 5,.range 6,.range 6,.range 7,.range 9],[0,1,2,3,4,5,6,8,7,9]⟩
  | 21=>⟨hi71_s91_21,[[],[0],[],[2],[],[4],[],[4,5,6],[],[],[4,5,6,7,8,9],[2,3,4,5,6,7,8,9,10],[2,3,4,5,6,7,8,9,10,11],.range 13,.range 14,.range 15],.range 16⟩
  | 22=>⟨hi71_s91_22,[[],[],[1],[0,1,2],[0,1,2,3],.range 5],.range 6⟩
  | _=>⟨.nil,[],[]⟩
theorem Jk (i:Nat):oU.acts i=[]:=rfl
theorem Jl (i:Nat):oU.views i=none:=rfl
attribute [go_sem] Jk Jl Tryz.ntmps71 Tryz.results71
@[go_sem] theorem Qs:(oU.draws 4).order=hi71_s91_4:=rfl
@[go_sem] theorem PD:(oU.draws 10).order=hi71_s91_10:=rfl
@[go_sem] theorem PE:(oU.draws 21).order=hi71_s91_21:=rfl
@[go_sem] theorem PF:(oU.draws 22).order=hi71_s91_22:=rfl
theorem nq {d:GDesk}{ties values:List Int}{refused:Int}{d':GDesk}{res:GDesk × (List Int) × Int}(h:dA d ties values refused d'=some res):al Tryz.prog 71 [.agg (GDesk.encS d),.sl (ae eI ties),.sl (ae eI values),.lit (.int .i64 refused),.fn 91 [.loc [.sl (ae GNode.encS d'.show_.nodes),.sl (ae GTie.enc d'.show_.ties),.lit (.int .i64 d'.show_.horizon),.lit (.int .i64 d'.state.now),.sl (ae eI d'.state.times),.sl (ae eI d'.state.values),.lit (.bool d'.lazy),.sl (ae GEntry.encS d'.log)]]] [] (.tup [.agg [.ref 20000 1 0 res.1.show_.nodes.length,.ref 20001 1 0 res.1.show_.ties.length,.lit (.int .i64 res.1.show_.horizon),.lit (.int .i64 res.1.state.now),.ref 20002 1 0 res.1.state.times.length,.ref 20003 1 0 res.1.state.values.length,.lit (.bool res.1.lazy),.ref 20004 1 0 res.1.log.length],.ref 20005 1 0 res.2.1.length,.lit (.int .i64 res.2.2)]) [(20000,1,.row true (ae GNode.encO res.1.show_.nodes)),(20001,1,.row true (ae GTie.enc res.1.show_.ties)),(20002,1,.row true (ae eI res.1.state.times)),(20003,1,.row true (ae eI res.1.state.values)),(20004,1,.row true (ae GEntry.encO res.1.log)),(20005,1,.row true (ae eI res.2.1))]:=by
 refine ai (ra:=[.homeCell 640 0,.homeCell 640 1,.homeCell 640 4,.homeCell 640 5,.homeCell 640 7,.home 11]) (md:=mdT) hT (hi:=oU) Tryz.func71 rfl rfl (by decide +kernel) (by simp) ?_
 unfold dA at h
 obtain ⟨r01,g1,h⟩:=ab h
 simp(config:=cS)only[go_sem]
 refine ag (uZ g1) ?_
 obtain ⟨r02,g2,h⟩:=ab h
 simp(config:=cS)only[go_sem]
 refine ag (jU g2) ?_
 obtain ⟨h3,h⟩|⟨h3,h⟩:=af h
 ·obtain ⟨h4,h⟩|⟨h4,h⟩:=af h
  ·obtain ⟨r03,g5,h⟩:=ab h
   simp(config:=cS)only[go_sem,eZt h3,eqT h4]
   refine ag (cK (by exact fun _ _ hr=>rr hr) (by refine ⟨fun _=>?_,fun _=>?_⟩ <;> simp only [go_sem]) (fun _=>rfl) rfl g5) ?_
   obtain ⟨h6,h⟩|⟨h6,h⟩:=af h
   ·cases h
    simp(config:=cS)only[go_sem,eZt h3,eqT h4,eZt h6]
   ·try simp(config:=cS)only[go_sem,eZt h3,eqT h4,eZf h6]
    refine bj ?_ ?_
    ·obtain ⟨r04,g7,h⟩:=ab h
     simp(config:=cS)only[go_sem,eZt h3,eqT h4,eZf h6]
     refine ag (fc g7) ?_
     obtain ⟨h8,h⟩|⟨h8,h⟩:=af h
     ·cases h
      simp(config:=cS)only[go_sem,eZt h3,eqT h4,eZf h6,eZt h8]
     ·obtain ⟨r05,g9,h⟩:=ab h
      simp(config:=cS)only[go_sem,eZt h3,eqT h4,eZf h6,eZf h8]
      refine ag (gE g9) ?_
      obtain ⟨h10,h⟩|⟨h10,h⟩:=af h
      ·cases h
       simp(config:=cS)only[go_sem,eZt h3,eqT h4,eZf h6,eZf h8,eZt h10]
      ·obtain ⟨h11,h⟩|⟨h11,h⟩:=af h
       ·cases h
        simp(config:=cS)only[go_sem,eZt h3,eqT h4,eZf h6,eZf h8,eZf h10,eqT h11]
       ·obtain ⟨r06,g12,h⟩:=ab h
        simp(config:=cS)only[go_sem,eZt h3,eqT h4,eZf h6,eZf h8,eZf h10,eqF h11]
        refine ag (gC g12) ?_
        obtain ⟨r07,g13,h⟩:=ab h
        simp(config:=cS)only[go_sem,eZt h3,eqT h4,eZf h6,eZf h8,eZf h10,eqF h11]
        refine ag (iS g13) ?_
        obtain ⟨h14,h⟩|⟨h14,h⟩:=af h
        ·obtain ⟨r08,g15,h⟩:=ab h
         simp(config:=cS)only[go_sem,eZt h3,eqT h4,eZf h6,eZf h8,eZf h10,eqF h11,eZt h14]
         refine ag (jr g15) ?_
         obtain ⟨r09,g16,h⟩:=ab h
         simp(config:=cS)only[go_sem,eZt h3,eqT h4,eZf h6,eZf h8,eZf h10,eqF h11,eZt h14]
         refine ag (je g16) ?_
         obtain ⟨r10,g17,h⟩:=ab h
         simp(config:=cS)only[go_sem,eZt h3,eqT h4,eZf h6,eZf h8,eZf h10,eqF h11,eZt h14]
         refine ag (sE g17) ?_
         obtain ⟨h18,h⟩|⟨h18,h⟩:=af h
         ·obtain ⟨r11,g19,h⟩:=ab h
          simp(config:=cS)only[go_sem,eZt h3,eqT h4,eZf h6,eZf h8,eZf h10,eqF h11,eZt h14,eZt h18]
          refine ag (gD g19) ?_
          obtain ⟨q19,l20,h⟩:=ab h
          simp(config:=cS)only[go_sem,eZt h3,eqT h4,eZf h6,eZf h8,eZf h10,eqF h11,eZt h14,eZt h18]
          refine an (m1:=.mk) (m2:=.mk) [.home 21,.nf [1,2,10,13,15,17,19,20,21,89,90,91] [640,832,1600,1601,1602,1603,1604,960,1216,5504,5505,5506,1407]] (cn ties values r10.1 ((r11.2.length:Nat):Int) r01.show_.horizon r01.state.now r01.lazy d.state.now d.state.times d.state.values r11.1.now r01.show_.nodes r01.show_.ties r01.state.times r01.state.values r01.log r11.1.times r11.1.values r11.2) l20 ?_ ?_
          ·simp(config:=cS)only[go_sem,eZt h3,eqT h4,eZf h6,eZf h8,eZf h10,eqF h11,eZt h14,eZt h18]
          ·intro nb21 sb21 bb21 b21 gb21
           obtain ⟨v91_1,seen_1⟩:=sb21
           unfold cH at b21
           try dsimp only at b21
           obtain ⟨h22,b21⟩|⟨h22,b21⟩:=af b21
           ·obtain ⟨x12,g23,b21⟩:=ab b21
            obtain ⟨h24,h25,h26⟩:=aj g23
            obtain ⟨x13,g27,b21⟩:=ab b21
            obtain ⟨h28,h29,h30⟩:=aj g27
            obtain ⟨h31,b21⟩:=ah b21
            obtain ⟨h32,b21⟩:=ah b21
            cases b21
            simp(config:=cS)only[go_sem,eZt h3,eqT h4,eZf h6,eZf h8,eZf h10,eqF h11,eZt h14,eZt h18,eqT h22,h24,h25,h26,h28,h29,h30,eqT h31,eqT h32]
            refine ao gb21 ?_
            simp(config:=cS)only[go_sem,eZt h3,eqT h4,eZf h6,eZf h8,eZf h10,eqF h11,eZt h14,eZt h18,eqT h22,h24,h25,h26,h28,h29,h30,eqT h31,eqT h32]
           ·cases b21
            obtain rfl:=(ak gb21).symm
            try dsimp only at h
            obtain ⟨r14,g34,h⟩:=ab h
            simp(config:=cS)only[go_sem,eZt h3,eqT h4,eZf h6,eZf h8,eZf h10,eqF h11,eZt h14,eZt h18,eqF h22]
            refine ag (fb g34) ?_
            obtain ⟨r15,g35,h⟩:=ab h
            simp(config:=cS)only[go_sem,eZt h3,eqT h4,eZf h6,eZf h8,eZf h10,eqF h11,eZt h14,eZt h18,eqF h22]
            refine ag (aJ g35) ?_
            obtain ⟨r16,g36,h⟩:=ab h
            simp(config:=cS)only[go_sem,eZt h3,eqT h4,eZf h6,eZf h8,eZf h10,eqF h11,eZt h14,eZt h18,eqF h22]
            refine ag (aJ g36) ?_
            obtain ⟨r17,g37,h⟩:=ab h
            simp(config:=cS)only[go_sem,eZt h3,eqT h4,eZf h6,eZf h8,eZf h10,eqF h11,eZt h14,eZt h18,eqF h22]
            refine ag (mD g37) ?_
            obtain ⟨h38,h⟩:=ah h
            obtain ⟨h39,h⟩:=ah h
            obtain ⟨r18,g40,h⟩:=ab h
            simp(config:=cS)only[go_sem,eZt h3,eqT h4,eZf h6,eZf h8,eZf h10,eqF h11,eZt h14,eZt h18,eqF h22,eqT h38,eqT h39]
            refine ag (aJ g40) ?_
            cases h
            simp(config:=cS)only[go_sem,eZt h3,eqT h4,eZf h6,eZf h8,eZf h10,eqF h11,eZt h14,eZt h18,eqF h22,eqT h38,eqT h39]
         ·cases h
          simp(config:=cS)only[go_sem,eZt h3,eqT h4,eZf h6,eZf h8,eZf h10,eqF h11,eZt h14,eZf h18]
        ·cases h
         simp(config:=cS)only[go_sem,eZt h3,eqT h4,eZf h6,eZf h8,eZf h10,eqF h11,eZf h14]
    ·obtain ⟨r20,g41,h⟩:=ab h
     simp(config:=cS)only[go_sem,eZt h3,eqT h4,eZf h6]
     refine ag (fc g41) ?_
     obtain ⟨h42,h⟩|⟨h42,h⟩:=af h
     ·cases h
      simp(config:=cS)only[go_sem,eZt h3,eqT h4,eZf h6,eZt h42]
     ·obtain ⟨r21,g43,h⟩:=ab h
      simp(config:=cS)only[go_sem,eZt h3,eqT h4,eZf h6,eZf h42]
      refine ag (gE g43) ?_
      obtain ⟨h44,h⟩|⟨h44,h⟩:=af h
      ·cases h
       simp(config:=cS)only[go_sem,eZt h3,eqT h4,eZf h6,eZf h42,eZt h44]
      ·obtain ⟨h45,h⟩|⟨h45,h⟩:=af h
       ·cases h
        simp(config:=cS)only[go_sem,eZt h3,eqT h4,eZf h6,eZf h42,eZf h44,eqT h45]
       ·obtain ⟨r22,g46,h⟩:=ab h
        simp(config:=cS)only[go_sem,eZt h3,eqT h4,eZf h6,eZf h42,eZf h44,eqF h45]
        refine ag (gC g46) ?_
        obtain ⟨r23,g47,h⟩:=ab h
        simp(config:=cS)only[go_sem,eZt h3,eqT h4,eZf h6,eZf h42,eZf h44,eqF h45]
        refine ag (iS g47) ?_
        obtain ⟨h48,h⟩|⟨h48,h⟩:=af h
        ·obtain ⟨r24,g49,h⟩:=ab h
         simp(config:=cS)only[go_sem,eZt h3,eqT h4,eZf h6,eZf h42,eZf h44,eqF h45,eZt h48]
         refine ag (jr g49) ?_
         obtain ⟨r25,g50,h⟩:=ab h
         simp(config:=cS)only[go_sem,eZt h3,eqT h4,eZf h6,eZf h42,eZf h44,eqF h45,eZt h48]
         refine ag (je g50) ?_
         obtain ⟨r26,g51,h⟩:=ab h
         simp(config:=cS)only[go_sem,eZt h3,eqT h4,eZf h6,eZf h42,eZf h44,eqF h45,eZt h48]
         refine ag (sE g51) ?_
         obtain ⟨h52,h⟩|⟨h52,h⟩:=af h
         ·obtain ⟨r27,g53,h⟩:=ab h
          simp(config:=cS)only[go_sem,eZt h3,eqT h4,eZf h6,eZf h42,eZf h44,eqF h45,eZt h48,eZt h52]
          refine ag (gD g53) ?_
          obtain ⟨q35,l54,h⟩:=ab h
          simp(config:=cS)only[go_sem,eZt h3,eqT h4,eZf h6,eZf h42,eZf h44,eqF h45,eZt h48,eZt h52]
          refine an (m1:=.mk) (m2:=.mk) [.home 21,.nf [1,2,10,13,15,17,19,20,21,89,90,91] [640,832,1600,1601,1602,1603,1604,960,1216,5504,5505,5506,1407]] (cn ties values r26.1 ((r27.2.length:Nat):Int) r01.show_.horizon r01.state.now r01.lazy d.state.now d.state.times d.state.values r27.1.now r01.show_.nodes r01.show_.ties r01.state.times r01.state.values r01.log r27.1.times r27.1.values r27.2) l54 ?_ ?_
          ·simp(config:=cS)only[go_sem,eZt h3,eqT h4,eZf h6,eZf h42,eZf h44,eqF h45,eZt h48,eZt h52]
          ·intro nb55 sb55 bb55 b55 gb55
           obtain ⟨v91_2,seen_2⟩:=sb55
           unfold cH at b55
           try dsimp only at b55
           obtain ⟨h56,b55⟩|⟨h56,b55⟩:=af b55
           ·obtain ⟨x28,g57,b55⟩:=ab b55
            obtain ⟨h58,h59,h60⟩:=aj g57
            obtain ⟨x29,g61,b55⟩:=ab b55
            obtain ⟨h62,h63,h64⟩:=aj g61
            obtain ⟨h65,b55⟩:=ah b55
            obtain ⟨h66,b55⟩:=ah b55
            cases b55
            simp(config:=cS)only[go_sem,eZt h3,eqT h4,eZf h6,eZf h42,eZf h44,eqF h45,eZt h48,eZt h52,eqT h56,h58,h59,h60,h62,h63,h64,eqT h65,eqT h66]
            refine ao gb55 ?_
            simp(config:=cS)only[go_sem,eZt h3,eqT h4,eZf h6,eZf h42,eZf h44,eqF h45,eZt h48,eZt h52,eqT h56,h58,h59,h60,h62,h63,h64,eqT h65,eqT h66]
           ·cases b55
            obtain rfl:=(ak gb55).symm
            try dsimp only at h
            obtain ⟨r30,g68,h⟩:=ab h
            simp(config:=cS)only[go_sem,eZt h3,eqT h4,eZf h6,eZf h42,eZf h44,eqF h45,eZt h48,eZt h52,eqF h56]
            refine ag (fb g68) ?_
            obtain ⟨r31,g69,h⟩:=ab h
            simp(config:=cS)only[go_sem,eZt h3,eqT h4,eZf h6,eZf h42,eZf h44,eqF h45,eZt h48,eZt h52,eqF h56]
            refine ag (aJ g69) ?_
            obtain ⟨r32,g70,h⟩:=ab h
            simp(config:=cS)only[go_sem,eZt h3,eqT h4,eZf h6,eZf h42,eZf h44,eqF h45,eZt h48,eZt h52,eqF h56]
            refine ag (aJ g70) ?_
            obtain ⟨r33,g71,h⟩:=ab h
            simp(config:=cS)only[go_sem,eZt h3,eqT h4,eZf h6,eZf h42,eZf h44,eqF h45,eZt h48,eZt h52,eqF h56]
            refine ag (mD g71) ?_
            obtain ⟨h72,h⟩:=ah h
            obtain ⟨h73,h⟩:=ah h
            obtain ⟨r34,g74,h⟩:=ab h
            simp(config:=cS)only[go_sem,eZt h3,eqT h4,eZf h6,eZf h42,eZf h44,eqF h45,eZt h48,eZt h52,eqF h56,eqT h72,eqT h73]
            refine ag (aJ g74) ?_
            cases h
            simp(config:=cS)only[go_sem,eZt h3,eqT h4,eZf h6,eZf h42,eZf h44,eqF h45,eZt h48,eZt h52,eqF h56,eqT h72,eqT h73]
         ·cases h
          simp(config:=cS)only[go_sem,eZt h3,eqT h4,eZf h6,eZf h42,eZf h44,eqF h45,eZt h48,eZf h52]
        ·cases h
         simp(config:=cS)only[go_sem,eZt h3,eqT h4,eZf h6,eZf h42,eZf h44,eqF h45,eZf h48]
  ·cases h
   simp(config:=cS)only[go_sem,eZt h3,eqF h4]
 ·cases h
  simp(config:=cS)only[go_sem,eZf h3]
attribute [go_sem] Tryz.ntmps29 Tryz.results29
theorem KT {d:GDesk}{ties values:List Int}{res:GDesk × (List Int) × Int}(h:vd d ties values=some res):al Tryz.prog 29 [.agg (GDesk.encS d),.sl (ae eI ties),.sl (ae eI values)] [] (.tup [.agg [.ref 20000 1 0 res.1.show_.nodes.length,.ref 20001 1 0 res.1.show_.ties.length,.lit (.int .i64 res.1.show_.horizon),.lit (.int .i64 res.1.state.now),.ref 20002 1 0 res.1.state.times.length,.ref 20003 1 0 res.1.state.values.length,.lit (.bool res.1.lazy),.ref 20004 1 0 res.1.log.length],.ref 20005 1 0 res.2.1.length,.lit (.int .i64 res.2.2)]) [(20000,1,.row true (ae GNode.encO res.1.show_.nodes)),(20001,1,.row true (ae GTie.enc res.1.show_.ties)),(20002,1,.row true (ae eI res.1.state.times)),(20003,1,.row true (ae eI res.1.state.values)),(20004,1,.row true (ae GEntry.encO res.1.log)),(20005,1,.row true (ae eI res.2.1))]:=by
 refine ai (ra:=[.homeCell 384 0,.homeCell 384 1,.homeCell 384 4,.homeCell 384 5,.homeCell 384 7,.home 7]) (md:=mdT) hT (hi:=hi00) Tryz.func29 rfl rfl (by decide +kernel) (by simp) ?_
 unfold vd at h
 obtain ⟨r01,g1,h⟩:=ab h
 simp(config:=cS)only[go_sem]
 refine ag (nq g1) ?_
 cases h
 simp(config:=cS)only[go_sem]
def rv (a b:List Int)(i:Int):St:=⟨[(0,.sl (ae eI a)),(1,.sl (ae eI b)),(5,.lit (.int .i64 i))],[],2⟩
attribute [go_sem] rv
@[go_sem] def hi37_6:DT:=.i2 0 (.i2 1 (.i2 2 (.i2 3 (.i2 4 (.i2 5 (.i2 6 (.i2 7 (.i2 8 .nil))))))))
def hi37:Hint where
 acts:=fun _=>[]
 draws:=fun
  | 6=>⟨hi37_6,[[],[],[0,1],[0,1,2],[],[],[4,5],[4,5,6],.range 8],.range 9⟩
  | _=>⟨.nil,[],[]⟩
theorem Qt (i:Nat):hi37.acts i=[]:=rfl
theorem Qu (i:Nat):hi37.views i=none:=rfl
attribute [go_sem] Qt Qu Tryz.ntmps37 Tryz.results37
@[go_sem] theorem Td:(hi37.draws 6).order=hi37_6:=rfl
theorem jV {a b:List Int}{res:Bool}(h:fW a b=some res):al Tryz.prog 37 [.sl (ae eI a),.sl (ae eI b)] [] (.lit (.bool res)) []:=by
 refine ai (ra:=[]) (md:=mdT) hT (hi:=hi37) Tryz.func37 rfl rfl (by decide +kernel) (by simp) ?_
 unfold fW at h
 obtain ⟨h1,h⟩|⟨h1,h⟩:=af h
 ·obtain ⟨q03,l2,h⟩:=ab h
  simp(config:=cS)only[go_sem,eqT h1]
  refine an (m1:=.mk) (m2:=.mk) [.nf [0,1,5] []] (rv a b) l2 ?_ ?_
  ·simp(config:=cS)only[go_sem]
  ·intro nb3 i_1 bb3 b3 gb3
   unfold uw at b3
   try dsimp only at b3
   obtain ⟨h4,b3⟩|⟨h4,b3⟩:=af b3
   ·obtain ⟨x01,g5,b3⟩:=ab b3
    obtain ⟨h6,h7,h8⟩:=aj g5
    obtain ⟨x02,g9,b3⟩:=ab b3
    obtain ⟨h10,h11,h12⟩:=aj g9
    obtain ⟨h13,b3⟩|⟨h13,b3⟩:=af b3
    ·cases b3
     simp(config:=cS)only[go_sem,eqT h4,h6,h7,h8,h10,h11,h12,eqT h13]
     refine ao gb3 ?_
     simp(config:=cS)only[go_sem]
    ·cases b3
     obtain rfl:=(ak gb3).symm
     try dsimp only at h
     cases h
     simp(config:=cS)only[go_sem,eqT h4,h6,h7,h8,h10,h11,h12,eqF h13]
   ·cases b3
    obtain rfl:=(ak gb3).symm
    try dsimp only at h
    cases h
    simp(config:=cS)only[go_sem,eqF h4]
 ·cases h
  simp(config:=cS)only[go_sem,eqF h1]
attribute [go_sem] Tryz.ntmps182 Tryz.results182
theorem Dw {a b:GNode}{res:Bool}(h:tb a b=some res):al Tryz.prog 182 [.agg (GNode.encS a),.agg (GNode.encS b)] [] (.lit (.bool res)) []:=by
 refine ai (ra:=[]) (md:=mdT) hT (hi:=hi00) Tryz.func182 rfl rfl (by decide +kernel) (by simp) ?_
 unfold tb at h
 obtain ⟨h1,h⟩|⟨h1,h⟩:=af h
 ·obtain ⟨r01,g2,h⟩:=ab h
  simp(config:=cS)only[go_sem,eqT h1]
  refine ag (jV g2) ?_
  obtain ⟨h3,h⟩|⟨h3,h⟩:=af h
  ·obtain ⟨h4,h⟩|⟨h4,h⟩:=af h
   ·cases h
    simp(config:=cS)only[go_sem,eZt h3,eqT h4]
   ·cases h
    simp(config:=cS)only[go_sem,eZt h3,eqF h4]
  ·cases h
   simp(config:=cS)only[go_sem,eZf h3]
 ·cases h
  simp(config:=cS)only[go_sem,eqF h1]
def qF (a b:List GNode)(i:Int):St:=⟨[(0,.sl (ae GNode.encS a)),(1,.sl (ae GNode.encS b)),(5,.lit (.int .i64 i))],[],2⟩
attribute [go_sem] qF
@[go_sem] def hi102_6:DT:=.i2 0 (.i2 1 (.i2 2 (.i2 3 (.i2 4 (.i2 5 (.i2 6 (.i2 7 (.i2 8 (.i2 9 .nil)))))))))
def Ex:Hint where
 acts:=fun _=>[]
 draws:=fun
  | 6=>⟨hi102_6,[[],[],[0,1],[0,1,2],[],[],[4,5],[4,5,6],.range 8,.range 9],.range 10⟩
  | _=>⟨.nil,[],[]⟩
theorem OA (i:Nat):Ex.acts i=[]:=rfl
theorem OB (i:Nat):Ex.views i=none:=rfl
attribute [go_sem] OA OB Tryz.ntmps102 Tryz.results102
@[go_sem] theorem RS:(Ex.draws 6).order=hi102_6:=rfl
theorem Cf {a b:List GNode}{res:Bool}(h:rN a b=some res):al Tryz.prog 102 [.sl (ae GNode.encS a),.sl (ae GNode.encS b)] [] (.lit (.bool res)) []:=by
 refine ai (ra:=[]) (md:=mdT) hT (hi:=Ex) Tryz.func102 rfl rfl (by decide +kernel) (by simp) ?_
 unfold rN at h
 obtain ⟨h1,h⟩|⟨h1,h⟩:=af h
 ·obtain ⟨q04,l2,h⟩:=ab h
  simp(config:=cS)only[go_sem,eqT h1]
  refine an (m1:=.mk) (m2:=.mk) [.nf [0,1,5] []] (qF a b) l2 ?_ ?_
  ·simp(config:=cS)only[go_sem]
  ·intro nb3 i_1 bb3 b3 gb3
   unfold tp at b3
   try dsimp only at b3
   obtain ⟨h4,b3⟩|⟨h4,b3⟩:=af b3
   ·obtain ⟨x01,g5,b3⟩:=ab b3
    obtain ⟨h6,h7,h8⟩:=aj g5
    obtain ⟨x02,g9,b3⟩:=ab b3
    obtain ⟨h10,h11,h12⟩:=aj g9
    obtain ⟨r03,g13,b3⟩:=ab b3
    simp(config:=cS)only[go_sem,eqT h4,h6,h7,h8,h10,h11,h12]
    refine ag (Dw g13) ?_
    obtain ⟨h14,b3⟩|⟨h14,b3⟩:=af b3
    ·cases b3
     simp(config:=cS)only[go_sem,eZt h14]
     refine ao gb3 ?_
     simp(config:=cS)only[go_sem]
    ·cases b3
     obtain rfl:=(ak gb3).symm
     try dsimp only at h
     cases h
     simp(config:=cS)only[go_sem,eZf h14]
   ·cases b3
    obtain rfl:=(ak gb3).symm
    try dsimp only at h
    cases h
    simp(config:=cS)only[go_sem,eqF h4]
 ·cases h
  simp(config:=cS)only[go_sem,eqF h1]
attribute [go_sem] Tryz.ntmps183 Tryz.results183
theorem Fl {a b:GTie}{res:Bool}(h:ux a b=some res):al Tryz.prog 183 [.agg (GTie.enc a),.agg (GTie.enc b)] [] (.lit (.bool res)) []:=by
 refine ai (ra:=[]) (md:=mdT) hT (hi:=hi00) Tryz.func183 rfl rfl (by decide +kernel) (by simp) ?_
 unfold ux at h
 obtain ⟨h1,h⟩|⟨h1,h⟩:=af h
 ·obtain ⟨h2,h⟩|⟨h2,h⟩:=af h
  ·obtain ⟨h3,h⟩|⟨h3,h⟩:=af h
   ·obtain ⟨h4,h⟩|⟨h4,h⟩:=af h
    ·obtain ⟨h5,h⟩|⟨h5,h⟩:=af h
     ·cases h
      simp(config:=cS)only[go_sem,eqT h1,eqT h2,eqT h3,eqT h4,eqT h5]
     ·cases h
      simp(config:=cS)only[go_sem,eqT h1,eqT h2,eqT h3,eqT h4,eqF h5]
    ·cases h
     simp(config:=cS)only[go_sem,eqT h1,eqT h2,eqT h3,eqF h4]
   ·cases h
    simp(config:=cS)only[go_sem,eqT h1,eqT h2,eqF h3]
  ·cases h
   simp(config:=cS)only[go_sem,eqT h1,eqF h2]
 ·cases h
  simp(config:=cS)only[go_sem,eqF h1]
def rx (a b:List GTie)(i:Int):St:=⟨[(0,.sl (ae GTie.enc a)),(1,.sl (ae GTie.enc b)),(5,.lit (.int .i64 i))],[],2⟩
attribute [go_sem] rx
@[go_sem] def hi103_6:DT:=.i2 0 (.i2 1 (.i2 2 (.i2 3 (.i2 4 (.i2 5 (.i2 6 (.i2 7 (.i2 8 (.i2 9 .nil)))))))))
def Ey:Hint where
 acts:=fun _=>[]
 draws:=fun
  | 6=>⟨hi103_6,[[],[],[0,1],[0,1,2],[],[],[4,5],[4,5,6],.range 8,.range 9],.range 10⟩
  | _=>⟨.nil,[],[]⟩
theorem OC (i:Nat):Ey.acts i=[]:=rfl
theorem OD (i:Nat):Ey.views i=none:=rfl
attribute [go_sem] OC OD Tryz.ntmps103 Tryz.results103
@[go_sem] theorem RT:(Ey.draws 6).order=hi103_6:=rfl
theorem Dx {a b:List GTie}{res:Bool}(h:tc a b=some res):al Tryz.prog 103 [.sl (ae GTie.enc a),.sl (ae GTie.enc b)] [] (.lit (.bool res)) []:=by
 refine ai (ra:=[]) (md:=mdT) hT (hi:=Ey) Tryz.func103 rfl rfl (by decide +kernel) (by simp) ?_
 unfold tc at h
 obtain ⟨h1,h⟩|⟨h1,h⟩:=af h
 ·obtain ⟨q04,l2,h⟩:=ab h
  simp(config:=cS)only[go_sem,eqT h1]
  refine an (m1:=.mk) (m2:=.mk) [.nf [0,1,5] []] (rx a b) l2 ?_ ?_
  ·simp(config:=cS)only[go_sem]
  ·intro nb3 i_1 bb3 b3 gb3
   unfold uy at b3
   try dsimp only at b3
   obtain ⟨h4,b3⟩|⟨h4,b3⟩:=af b3
   ·obtain ⟨x01,g5,b3⟩:=ab b3
    obtain ⟨h6,h7,h8⟩:=aj g5
    obtain ⟨x02,g9,b3⟩:=ab b3
    obtain ⟨h10,h11,h12⟩:=aj g9
    obtain ⟨r03,g13,b3⟩:=ab b3
    simp(config:=cS)only[go_sem,eqT h4,h6,h7,h8,h10,h11,h12]
    refine ag (Fl g13) ?_
    obtain ⟨h14,b3⟩|⟨h14,b3⟩:=af b3
    ·cases b3
     simp(config:=cS)only[go_sem,eZt h14]
     refine ao gb3 ?_
     simp(config:=cS)only[go_sem]
    ·cases b3
     obtain rfl:=(ak gb3).symm
     try dsimp only at h
     cases h
     simp(config:=cS)only[go_sem,eZf h14]
   ·cases b3
    obtain rfl:=(ak gb3).symm
    try dsimp only at h
    cases h
    simp(config:=cS)only[go_sem,eqF h4]
 ·cases h
  simp(config:=cS)only[go_sem,eqF h1]
attribute [go_sem] Tryz.ntmps38 Tryz.results38
theorem Dy {a b:GShow}{res:Bool}(h:td a b=some res):al Tryz.prog 38 [.agg (GShow.encS a),.agg (GShow.encS b)] [] (.lit (.bool res)) []:=by
 refine ai (ra:=[]) (md:=mdT) hT (hi:=hi00) Tryz.func38 rfl rfl (by decide +kernel) (by simp) ?_
 unfold td at h
 obtain ⟨r01,g1,h⟩:=ab h
 simp(config:=cS)only[go_sem]
 refine ag (Cf g1) ?_
 obtain ⟨h2,h⟩|⟨h2,h⟩:=af h
 ·obtain ⟨r02,g3,h⟩:=ab h
  simp(config:=cS)only[go_sem,eZt h2]
  refine ag (Dx g3) ?_
  obtain ⟨h4,h⟩|⟨h4,h⟩:=af h
  ·obtain ⟨h5,h⟩|⟨h5,h⟩:=af h
   ·cases h
    simp(config:=cS)only[go_sem,eZt h4,eqT h5]
   ·cases h
    simp(config:=cS)only[go_sem,eZt h4,eqF h5]
  ·cases h
   simp(config:=cS)only[go_sem,eZf h4]
 ·cases h
  simp(config:=cS)only[go_sem,eZf h2]
attribute [go_sem] Tryz.ntmps114 Tryz.results114
theorem Cg {a b:GState}{res:Bool}(h:rS a b=some res):al Tryz.prog 114 [.agg (GState.encS a),.agg (GState.encS b)] [] (.lit (.bool res)) []:=by
 refine ai (ra:=[]) (md:=mdT) hT (hi:=hi00) Tryz.func114 rfl rfl (by decide +kernel) (by simp) ?_
 unfold rS at h
 obtain ⟨h1,h⟩|⟨h1,h⟩:=af h
 ·obtain ⟨r01,g2,h⟩:=ab h
  simp(config:=cS)only[go_sem,eqT h1]
  refine ag (jV g2) ?_
  obtain ⟨h3,h⟩|⟨h3,h⟩:=af h
  ·obtain ⟨r02,g4,h⟩:=ab h
   simp(config:=cS)only[go_sem,eZt h3]
   refine ag (jV g4) ?_
   obtain ⟨h5,h⟩|⟨h5,h⟩:=af h
   ·cases h
    simp(config:=cS)only[go_sem,eZt h5]
   ·cases h
    simp(config:=cS)only[go_sem,eZf h5]
  ·cases h
   simp(config:=cS)only[go_sem,eZf h3]
 ·cases h
  simp(config:=cS)only[go_sem,eqF h1]
attribute [go_sem] Tryz.ntmps195 Tryz.results195
theorem Ch {a b:GEntry}{res:Bool}(h:rU a b=some res):al Tryz.prog 195 [.agg (GEntry.encS a),.agg (GEntry.encS b)] [] (.lit (.bool res)) []:=by
 refine ai (ra:=[]) (md:=mdT) hT (hi:=hi00) Tryz.func195 rfl rfl (by decide +kernel) (by simp) ?_
 unfold rU at h
 obtain ⟨h1,h⟩|⟨h1,h⟩:=af h
 ·obtain ⟨r01,g2,h⟩:=ab h
  simp(config:=cS)only[go_sem,eqT h1]
  refine ag (jV g2) ?_
  obtain ⟨h3,h⟩|⟨h3,h⟩:=af h
  ·obtain ⟨r02,g4,h⟩:=ab h
   simp(config:=cS)only[go_sem,eZt h3]
   refine ag (jV g4) ?_
   obtain ⟨h5,h⟩|⟨h5,h⟩:=af h
   ·obtain ⟨r03,g6,h⟩:=ab h
    simp(config:=cS)only[go_sem,eZt h5]
    refine ag (jV g6) ?_
    obtain ⟨h7,h⟩|⟨h7,h⟩:=af h
    ·cases h
     simp(config:=cS)only[go_sem,eZt h7]
    ·cases h
     simp(config:=cS)only[go_sem,eZf h7]
   ·cases h
    simp(config:=cS)only[go_sem,eZf h5]
  ·cases h
   simp(config:=cS)only[go_sem,eZf h3]
 ·cases h
  simp(config:=cS)only[go_sem,eqF h1]
def pH (a b:List GEntry)(i:Int):St:=⟨[(0,.sl (ae GEntry.encS a)),(1,.sl (ae GEntry.encS b)),(5,.lit (.int .i64 i))],[],2⟩
attribute [go_sem] pH
@[go_sem] def hi115_6:DT:=.i2 0 (.i2 1 (.i2 2 (.i2 3 (.i2 4 (.i2 5 (.i2 6 (.i2 7 (.i2 8 (.i2 9 .nil)))))))))
def Ez:Hint where
 acts:=fun _=>[]
 draws:=fun
  | 6=>⟨hi115_6,[[],[],[0,1],[0,1,2],[],[],[4,5],[4,5,6],.range 8,.range 9],.range 10⟩
  | _=>⟨.nil,[],[]⟩
theorem OE (i:Nat):Ez.acts i=[]:=rfl
theorem OF (i:Nat):Ez.views i=none:=rfl
attribute [go_sem] OE OF Tryz.ntmps115 Tryz.results115
@[go_sem] theorem RU:(Ez.draws 6).order=hi115_6:=rfl
theorem Ba {a b:List GEntry}{res:Bool}(h:qL a b=some res):al Tryz.prog 115 [.sl (ae GEntry.encS a),.sl (ae GEntry.encS b)] [] (.lit (.bool res)) []:=by
 refine ai (ra:=[]) (md:=mdT) hT (hi:=Ez) Tryz.func115 rfl rfl (by decide +kernel) (by simp) ?_
 unfold qL at h
 obtain ⟨h1,h⟩|⟨h1,h⟩:=af h
 ·obtain ⟨q04,l2,h⟩:=ab h
  simp(config:=cS)only[go_sem,eqT h1]
  refine an (m1:=.mk) (m2:=.mk) [.nf [0,1,5] []] (pH a b) l2 ?_ ?_
  ·simp(config:=cS)only[go_sem]
  ·intro nb3 i_1 bb3 b3 gb3
   unfold sL at b3
   try dsimp only at b3
   obtain ⟨h4,b3⟩|⟨h4,b3⟩:=af b3
   ·obtain ⟨x01,g5,b3⟩:=ab b3
    obtain ⟨h6,h7,h8⟩:=aj g5
    obtain ⟨x02,g9,b3⟩:=ab b3
    obtain ⟨h10,h11,h12⟩:=aj g9
    obtain ⟨r03,g13,b3⟩:=ab b3
    simp(config:=cS)only[go_sem,eqT h4,h6,h7,h8,h10,h11,h12]
    refine ag (Ch g13) ?_
    obtain ⟨h14,b3⟩|⟨h14,b3⟩:=af b3
    ·cases b3
     simp(config:=cS)only[go_sem,eZt h14]
     refine ao gb3 ?_
     simp(config:=cS)only[go_sem]
    ·cases b3
     obtain rfl:=(ak gb3).symm
     try dsimp only at h
     cases h
     simp(config:=cS)only[go_sem,eZf h14]
   ·cases b3
    obtain rfl:=(ak gb3).symm
    try dsimp only at h
    cases h
    simp(config:=cS)only[go_sem,eqF h4]
 ·cases h
  simp(config:=cS)only[go_sem,eqF h1]
attribute [go_sem] Tryz.ntmps48 Tryz.results48
theorem Mz {a b:GDesk}{res:Bool}(h:xb a b=some res):al Tryz.prog 48 [.agg (GDesk.encS a),.agg (GDesk.encS b)] [] (.lit (.bool res)) []:=by
 refine ai (ra:=[]) (md:=mdT) hT (hi:=hi00) Tryz.func48 rfl rfl (by decide +kernel) (by simp) ?_
 unfold xb at h
 obtain ⟨r01,g1,h⟩:=ab h
 simp(config:=cS)only[go_sem]
 refine ag (Dy g1) ?_
 obtain ⟨h2,h⟩|⟨h2,h⟩:=af h
 ·obtain ⟨r02,g3,h⟩:=ab h
  simp(config:=cS)only[go_sem,eZt h2]
  refine ag (Cg g3) ?_
  obtain ⟨h4,h⟩|⟨h4,h⟩:=af h
  ·obtain ⟨h5,h⟩|⟨h5,h⟩:=af h
   ·obtain ⟨r03,g6,h⟩:=ab h
    simp(config:=cS)only[go_sem,eZt h4,eqT h5]
    refine ag (Ba g6) ?_
    obtain ⟨h7,h⟩|⟨h7,h⟩:=af h
    ·cases h
     simp(config:=cS)only[go_sem,eZt h7]
    ·cases h
     simp(config:=cS)only[go_sem,eZf h7]
   ·cases h
    simp(config:=cS)only[go_sem,eZt h4,eqF h5]
  ·cases h
   simp(config:=cS)only[go_sem,eZf h4]
 ·cases h
  simp(config:=cS)only[go_sem,eZf h2]
def pI  : (Int × ByteArray)→St
 | (k,a)=>⟨[(0,.lit (.int .i64 k)),(3,.lit (.string a))],[],2⟩
attribute [go_sem] pI
attribute [go_sem] Tryz.ntmps184 Tryz.results184
theorem vc {k:Int}{res:ByteArray}(h:mF k=some res):al Tryz.prog 184 [.lit (.int .i64 k)] [] (.lit (.string res)) []:=by
 refine ai (ra:=[]) (md:=mdT) hT (hi:=hi00) Tryz.func184 rfl rfl (by decide +kernel) (by simp) ?_
 unfold mF at h
 obtain ⟨h1,h⟩|⟨h1,h⟩:=af h
 ·cases h
  simp(config:=cS)only[go_sem,eqT h1]
 ·obtain ⟨q01,l2,h⟩:=ab h
  simp(config:=cS)only[go_sem,eqF h1]
  refine an (m1:=.mk) (m2:=.mk) [.nf [0,3] []] (pI) l2 ?_ ?_
  ·simp(config:=cS)only[go_sem]
  ·intro nb3 sb3 bb3 b3 gb3
   obtain ⟨k_1,out_1⟩:=sb3
   unfold sF at b3
   try dsimp only at b3
   obtain ⟨h4,b3⟩|⟨h4,b3⟩:=af b3
   ·obtain ⟨h5,b3⟩:=ah b3
    cases b3
    simp(config:=cS)only[go_sem,eqT h4,eqT h5]
    refine ao gb3 ?_
    simp(config:=cS)only[go_sem]
   ·cases b3
    obtain rfl:=(ak gb3).symm
    try dsimp only at h
    obtain ⟨h7,h⟩:=ah h
    cases h
    simp(config:=cS)only[go_sem,eqF h4,eqT h7]
def pJ (b:Bool)  : (Int × Int × (List Int))→St
 | (k,i,a)=>⟨[(0,.ref 10000 0 0 a.length),(1,.lit (.int .i64 k)),(5,.lit (.int .i64 i))],[(10000,0,.row b (ae eI a))],2⟩
attribute [go_sem] pJ
attribute [go_sem] Tryz.ntmps42 Tryz.results42
theorem im {a:List Int}{k:Int}{zb0:Bool}{res:Int × (List Int)}(h:dP a k=some res):al Tryz.prog 42 [.ref 10000 0 0 a.length,.lit (.int .i64 k)] [(10000,0,.row zb0 (ae eI a))] (.lit (.int .i64 res.1)) [(10000,0,.row zb0 (ae eI res.2))]:=by
 refine ai (ra:=[]) (md:=mdT) hT (hi:=hi00) Tryz.func42 rfl rfl (by decide +kernel) (by simp) ?_
 unfold dP at h
 obtain ⟨q02,l1,h⟩:=ab h
 simp(config:=cS)only[go_sem]
 refine an (m1:=.mk) (m2:=.mk) [.nf [0,1,5] [10000]] (pJ zb0) l1 ?_ ?_
 ·simp(config:=cS)only[go_sem]
 ·intro nb2 sb2 bb2 b2 gb2
  obtain ⟨k_1,i_1,a_1⟩:=sb2
  unfold sG at b2
  try dsimp only at b2
  obtain ⟨h3,b2⟩|⟨h3,b2⟩:=af b2
  ·obtain ⟨x01,g4,b2⟩:=ab b2
   obtain ⟨h5,h6,h7⟩:=aj g4
   cases b2
   simp(config:=cS)only[go_sem,eqT h3,h5,h6,h7]
   refine ao gb2 ?_
   simp(config:=cS)only[go_sem]
  ·cases b2
   obtain rfl:=(ak gb2).symm
   try dsimp only at h
   cases h
   simp(config:=cS)only[go_sem,eqF h3]
def ov (b:Bool)  : (Int × Int × (List GNode))→St
 | (k,i,a)=>⟨[(0,.ref 10000 0 0 a.length),(1,.lit (.int .i64 k)),(5,.lit (.int .i64 i))],[(10000,0,.row b (ae GNode.encO a))],2⟩
attribute [go_sem] ov
def oL:Hint where
 acts:=fun _=>[]
 views:=fun
  | 6=>some (4,1)
  | _=>none
 draws:=fun
  | _=>⟨.nil,[],[]⟩
theorem OG (i:Nat):oL.acts i=[]:=rfl
@[go_sem] theorem RV:oL.views 0=none:=rfl
@[go_sem] theorem RW:oL.views 1=none:=rfl
@[go_sem] theorem RX:oL.views 2=none:=rfl
@[go_sem] theorem RY:oL.views 4=none:=rfl
@[go_sem] theorem RZ:oL.views 5=none:=rfl
@[go_sem] theorem Sa:oL.views 6=some (4,1):=rfl
@[go_sem] theorem Sb:oL.views 7=none:=rfl
@[go_sem] theorem Sc:oL.views 8=none:=rfl
@[go_sem] theorem Sd:oL.views 3=none:=rfl
@[go_sem] theorem Se:oL.views 9=none:=rfl
attribute [go_sem] OG Tryz.ntmps104 Tryz.results104
theorem zG {a:List GNode}{k:Int}{zb0:Bool}{res:Int × (List GNode)}(h:oW a k=some res):al Tryz.prog 104 [.ref 10000 0 0 a.length,.lit (.int .i64 k)] [(10000,0,.row zb0 (ae GNode.encO a))] (.lit (.int .i64 res.1)) [(10000,0,.row zb0 (ae GNode.encO res.2))]:=by
 refine ai (ra:=[]) (md:=mdT) hT (hi:=oL) Tryz.func104 rfl rfl (by decide +kernel) (by simp) ?_
 unfold oW at h
 obtain ⟨q06,l1,h⟩:=ab h
 simp(config:=cS)only[go_sem]
 refine an (m1:=.mk) (m2:=.mk) [.nf [0,1,5] [10000]] (ov zb0) l1 ?_ ?_
 ·simp(config:=cS)only[go_sem]
 ·intro nb2 sb2 bb2 b2 gb2
  obtain ⟨k_1,i_1,a_1⟩:=sb2
  unfold ry at b2
  try dsimp only at b2
  obtain ⟨h3,b2⟩|⟨h3,b2⟩:=af b2
  ·obtain ⟨r01,g4,b2⟩:=ab b2
   simp(config:=cS)only[go_sem,eqT h3]
   refine ag (vc g4) ?_
   obtain ⟨x02,g5,b2⟩:=ab b2
   obtain ⟨h6,h7,h8⟩:=aj g5
   obtain ⟨x03,g9,b2⟩:=ab b2
   obtain ⟨h10,h11,h12⟩:=aj g9
   obtain ⟨r04,g13,b2⟩:=ab b2
   obtain ⟨h14,b2⟩:=ah b2
   simp(config:=cS)only[go_sem,eqT h3,h6,h7,h8,h10,h11,h12]
   refine ww h14 (by simp only [go_sem]) (im g13) ?_
   obtain ⟨x05,g15,b2⟩:=ab b2
   obtain ⟨h16,h17,h18⟩:=aj g15
   cases b2
   simp(config:=cS)only[go_sem,eqT h3,h6,h7,h8,h10,h11,h12,h16,h17,h18]
   refine ao gb2 ?_
   simp(config:=cS)only[go_sem,eqT h3,h6,h7,h8,h10,h11,h12,h16,h17,h18]
  ·cases b2
   obtain rfl:=(ak gb2).symm
   try dsimp only at h
   cases h
   simp(config:=cS)only[go_sem,eqF h3]
def pK (b:Bool)  : (Int × Int × (List GTie))→St
 | (k,i,a)=>⟨[(0,.ref 10000 0 0 a.length),(1,.lit (.int .i64 k)),(5,.lit (.int .i64 i))],[(10000,0,.row b (ae GTie.enc a))],2⟩
attribute [go_sem] pK
attribute [go_sem] Tryz.ntmps105 Tryz.results105
theorem Bb {a:List GTie}{k:Int}{zb0:Bool}{res:Int × (List GTie)}(h:qH a k=some res):al Tryz.prog 105 [.ref 10000 0 0 a.length,.lit (.int .i64 k)] [(10000,0,.row zb0 (ae GTie.enc a))] (.lit (.int .i64 res.1)) [(10000,0,.row zb0 (ae GTie.enc res.2))]:=by
 refine ai (ra:=[]) (md:=mdT) hT (hi:=hi00) Tryz.func105 rfl rfl (by decide +kernel) (by simp) ?_
 unfold qH at h
 obtain ⟨q06,l1,h⟩:=ab h
 simp(config:=cS)only[go_sem]
 refine an (m1:=.mk) (m2:=.mk) [.nf [0,1,5] [10000]] (pK zb0) l1 ?_ ?_
 ·simp(config:=cS)only[go_sem]
 ·intro nb2 sb2 bb2 b2 gb2
  obtain ⟨k_1,i_1,a_1⟩:=sb2
  unfold sH at b2
  try dsimp only at b2
  obtain ⟨h3,b2⟩|⟨h3,b2⟩:=af b2
  ·obtain ⟨x01,g4,b2⟩:=ab b2
   obtain ⟨h5,h6,h7⟩:=aj g4
   obtain ⟨x02,g8,b2⟩:=ab b2
   obtain ⟨h9,h10,h11⟩:=aj g8
   obtain ⟨x03,g12,b2⟩:=ab b2
   obtain ⟨h13,h14,h15⟩:=aj g12
   obtain ⟨x04,g16,b2⟩:=ab b2
   obtain ⟨h17,h18,h19⟩:=aj g16
   obtain ⟨x05,g20,b2⟩:=ab b2
   obtain ⟨h21,h22,h23⟩:=aj g20
   cases b2
   simp(config:=cS)only[go_sem,eqT h3,h5,h6,h7,h9,h10,h11,h13,h14,h15,h17,h18,h19,h21,h22,h23]
   refine ao gb2 ?_
   simp(config:=cS)only[go_sem]
  ·cases b2
   obtain rfl:=(ak gb2).symm
   try dsimp only at h
   cases h
   simp(config:=cS)only[go_sem,eqF h3]
attribute [go_sem] Tryz.ntmps40 Tryz.results40
theorem Bc {a:GShow}{k:Int}{zb0 zb1:Bool}{res:Int × (List GNode) × (List GTie)}(h:qI a k=some res):al Tryz.prog 40 [.agg [.ref 10000 0 0 a.nodes.length,.ref 10001 0 0 a.ties.length,.lit (.int .i64 a.horizon)],.lit (.int .i64 k)] [(10000,0,.row zb0 (ae GNode.encO a.nodes)),(10001,0,.row zb1 (ae GTie.enc a.ties))] (.lit (.int .i64 res.1)) [(10000,0,.row zb0 (ae GNode.encO res.2.1)),(10001,0,.row zb1 (ae GTie.enc res.2.2))]:=by
 refine ai (ra:=[]) (md:=mdT) hT (hi:=hi00) Tryz.func40 rfl rfl (by decide +kernel) (by simp) ?_
 unfold qI at h
 obtain ⟨r01,g1,h⟩:=ab h
 simp(config:=cS)only[go_sem]
 refine ag (zG g1) ?_
 obtain ⟨r02,g2,h⟩:=ab h
 simp(config:=cS)only[go_sem]
 refine ag (Bb g2) ?_
 cases h
 simp(config:=cS)only[go_sem]
attribute [go_sem] Tryz.ntmps116 Tryz.results116
theorem zH {a:GState}{k:Int}{zb0 zb1:Bool}{res:Int × (List Int) × (List Int)}(h:oX a k=some res):al Tryz.prog 116 [.agg [.lit (.int .i64 a.now),.ref 10000 0 0 a.times.length,.ref 10001 0 0 a.values.length],.lit (.int .i64 k)] [(10000,0,.row zb0 (ae eI a.times)),(10001,0,.row zb1 (ae eI a.values))] (.lit (.int .i64 res.1)) [(10000,0,.row zb0 (ae eI res.2.1)),(10001,0,.row zb1 (ae eI res.2.2))]:=by
 refine ai (ra:=[]) (md:=mdT) hT (hi:=hi00) Tryz.func116 rfl rfl (by decide +kernel) (by simp) ?_
 unfold oX at h
 obtain ⟨r01,g1,h⟩:=ab h
 simp(config:=cS)only[go_sem]
 refine ag (im g1) ?_
 obtain ⟨r02,g2,h⟩:=ab h
 simp(config:=cS)only[go_sem]
 refine ag (im g2) ?_
 cases h
 simp(config:=cS)only[go_sem]
def nI (b:Bool)  : (Int × Int × (List GEntry))→St
 | (k,i,a)=>⟨[(0,.ref 10000 0 0 a.length),(1,.lit (.int .i64 k)),(5,.lit (.int .i64 i))],[(10000,0,.row b (ae GEntry.encO a))],2⟩
attribute [go_sem] nI
def oM:Hint where
 acts:=fun _=>[]
 views:=fun
  | 6=>some (4,1)
  | 7=>some (4,1)
  | 8=>some (4,1)
  | _=>none
 draws:=fun
  | _=>⟨.nil,[],[]⟩
theorem OH (i:Nat):oM.acts i=[]:=rfl
@[go_sem] theorem Sf:oM.views 0=none:=rfl
@[go_sem] theorem Sg:oM.views 1=none:=rfl
@[go_sem] theorem Si:oM.views 2=none:=rfl
@[go_sem] theorem Sj:oM.views 4=none:=rfl
@[go_sem] theorem Sk:oM.views 5=none:=rfl
@[go_sem] theorem Sl:oM.views 6=some (4,1):=rfl
@[go_sem] theorem Sm:oM.views 7=some (4,1):=rfl
@[go_sem] theorem Sn:oM.views 8=some (4,1):=rfl
@[go_sem] theorem So:oM.views 3=none:=rfl
@[go_sem] theorem Sp:oM.views 9=none:=rfl
attribute [go_sem] OH Tryz.ntmps117 Tryz.results117
theorem yO {a:List GEntry}{k:Int}{zb0:Bool}{res:Int × (List GEntry)}(h:nL a k=some res):al Tryz.prog 117 [.ref 10000 0 0 a.length,.lit (.int .i64 k)] [(10000,0,.row zb0 (ae GEntry.encO a))] (.lit (.int .i64 res.1)) [(10000,0,.row zb0 (ae GEntry.encO res.2))]:=by
 refine ai (ra:=[]) (md:=mdT) hT (hi:=oM) Tryz.func117 rfl rfl (by decide +kernel) (by simp) ?_
 unfold nL at h
 obtain ⟨q08,l1,h⟩:=ab h
 simp(config:=cS)only[go_sem]
 refine an (m1:=.mk) (m2:=.mk) [.nf [0,1,5] [10000]] (nI zb0) l1 ?_ ?_
 ·simp(config:=cS)only[go_sem]
 ·intro nb2 sb2 bb2 b2 gb2
  obtain ⟨k_1,i_1,a_1⟩:=sb2
  unfold qM at b2
  try dsimp only at b2
  obtain ⟨h3,b2⟩|⟨h3,b2⟩:=af b2
  ·obtain ⟨x01,g4,b2⟩:=ab b2
   obtain ⟨h5,h6,h7⟩:=aj g4
   obtain ⟨x02,g8,b2⟩:=ab b2
   obtain ⟨h9,h10,h11⟩:=aj g8
   obtain ⟨r03,g12,b2⟩:=ab b2
   obtain ⟨h13,b2⟩:=ah b2
   simp(config:=cS)only[go_sem,eqT h3,h5,h6,h7,h9,h10,h11]
   refine ww h13 (by simp only [go_sem]) (im g12) ?_
   obtain ⟨x04,g14,b2⟩:=ab b2
   obtain ⟨h15,h16,h17⟩:=aj g14
   obtain ⟨r05,g18,b2⟩:=ab b2
   obtain ⟨h19,b2⟩:=ah b2
   simp(config:=cS)only[go_sem,eqT h3,h5,h6,h7,h9,h10,h11,h15,h16,h17]
   refine ww h19 (by simp only [go_sem]) (im g18) ?_
   obtain ⟨x06,g20,b2⟩:=ab b2
   obtain ⟨h21,h22,h23⟩:=aj g20
   obtain ⟨r07,g24,b2⟩:=ab b2
   obtain ⟨h25,b2⟩:=ah b2
   simp(config:=cS)only[go_sem,eqT h3,h5,h6,h7,h9,h10,h11,h15,h16,h17,h21,h22,h23]
   refine ww h25 (by simp only [go_sem]) (im g24) ?_
   cases b2
   simp(config:=cS)only[go_sem,eqT h3,h5,h6,h7,h9,h10,h11,h15,h16,h17,h21,h22,h23]
   refine ao gb2 ?_
   simp(config:=cS)only[go_sem,eqT h3,h5,h6,h7,h9,h10,h11,h15,h16,h17,h21,h22,h23]
  ·cases b2
   obtain rfl:=(ak gb2).symm
   try dsimp only at h
   cases h
   simp(config:=cS)only[go_sem,eqF h3]
attribute [go_sem] Tryz.ntmps49 Tryz.results49
theorem KU {a:GDesk}{k:Int}{zb0 zb1 zb2 zb3 zb4:Bool}{res:Int × (List GNode) × (List GTie) × (List Int) × (List Int) × (List GEntry)}(h:ve a k=some res):al Tryz.prog 49 [.agg [.ref 10000 0 0 a.show_.nodes.length,.ref 10001 0 0 a.show_.ties.length,.lit (.int .i64 a.show_.horizon),.lit (.int .i64 a.state.now),.ref 10002 0 0 a.state.times.length,.ref 10003 0 0 a.state.values.length,.lit (.bool a.lazy),.ref 10004 0 0 a.log.length],.lit (.int .i64 k)] [(10000,0,.row zb0 (ae GNode.encO a.show_.nodes)),(10001,0,.row zb1 (ae GTie.enc a.show_.ties)),(10002,0,.row zb2 (ae eI a.state.times)),(10003,0,.row zb3 (ae eI a.state.values)),(10004,0,.row zb4 (ae GEntry.encO a.log))] (.lit (.int .i64 res.1)) [(10000,0,.row zb0 (ae GNode.encO res.2.1)),(10001,0,.row zb1 (ae GTie.enc res.2.2.1)),(10002,0,.row zb2 (ae eI res.2.2.2.1)),(10003,0,.row zb3 (ae eI res.2.2.2.2.1)),(10004,0,.row zb4 (ae GEntry.encO res.2.2.2.2.2))]:=by
 refine ai (ra:=[]) (md:=mdT) hT (hi:=hi00) Tryz.func49 rfl rfl (by decide +kernel) (by simp) ?_
 unfold ve at h
 obtain ⟨r01,g1,h⟩:=ab h
 simp(config:=cS)only[go_sem]
 refine ag (Bc g1) ?_
 obtain ⟨r02,g2,h⟩:=ab h
 simp(config:=cS)only[go_sem]
 refine ag (zH g2) ?_
 obtain ⟨r03,g3,h⟩:=ab h
 simp(config:=cS)only[go_sem]
 refine ag (yO g3) ?_
 cases h
 simp(config:=cS)only[go_sem]
def pL (a:List Int):(Int × Int)→St
 | (k,i)=>⟨[(0,.sl (ae eI a)),(1,.lit (.int .i64 k)),(5,.lit (.int .i64 i))],[],2⟩
attribute [go_sem] pL
attribute [go_sem] Tryz.ntmps43 Tryz.results43
theorem io {a:List Int}{k res:Int}(h:dQ a k=some res):al Tryz.prog 43 [.sl (ae eI a),.lit (.int .i64 k)] [] (.lit (.int .i64 res)) []:=by
 refine ai (ra:=[]) (md:=mdT) hT (hi:=hi00) Tryz.func43 rfl rfl (by decide +kernel) (by simp) ?_
 unfold dQ at h
 obtain ⟨q02,l1,h⟩:=ab h
 simp(config:=cS)only[go_sem]
 refine an (m1:=.mk) (m2:=.mk) [.nf [0,1,5] []] (pL a) l1 ?_ ?_
 ·simp(config:=cS)only[go_sem]
 ·intro nb2 sb2 bb2 b2 gb2
  obtain ⟨k_1,i_1⟩:=sb2
  unfold sI at b2
  try dsimp only at b2
  obtain ⟨h3,b2⟩|⟨h3,b2⟩:=af b2
  ·obtain ⟨x01,g4,b2⟩:=ab b2
   obtain ⟨h5,h6,h7⟩:=aj g4
   obtain ⟨h8,b2⟩|⟨h8,b2⟩:=af b2
   ·cases b2
    simp(config:=cS)only[go_sem,eqT h3,h5,h6,h7,eqT h8]
    refine ao gb2 ?_
    simp(config:=cS)only[go_sem]
   ·cases b2
    obtain rfl:=(ak gb2).symm
    try dsimp only at h
    cases h
    simp(config:=cS)only[go_sem,eqT h3,h5,h6,h7,eqF h8]
  ·cases b2
   obtain rfl:=(ak gb2).symm
   try dsimp only at h
   cases h
   simp(config:=cS)only[go_sem,eqF h3]
def ow (a:List GNode):(Int × Int)→St
 | (k,i)=>⟨[(0,.sl (ae GNode.encS a)),(1,.lit (.int .i64 k)),(5,.lit (.int .i64 i))],[],2⟩
attribute [go_sem] ow
@[go_sem] def hi196_4:DT:=.i2 0 (.i2 1 (.i1 2 (.i1 3 (.i1 4 (.i2 5 (.i0 6 [2,3,4] (.i2 7 .nil)))))))
def EA:Hint where
 acts:=fun _=>[]
 draws:=fun
  | 4=>⟨hi196_4,[[],[],[0,1],[0,1,2],[0,1,2,3],[],[5],.range 7],.range 8⟩
  | _=>⟨.nil,[],[]⟩
theorem OI (i:Nat):EA.acts i=[]:=rfl
theorem OJ (i:Nat):EA.views i=none:=rfl
attribute [go_sem] OI OJ Tryz.ntmps196 Tryz.results196
@[go_sem] theorem Sq:(EA.draws 4).order=hi196_4:=rfl
theorem zI {a:List GNode}{k res:Int}(h:oY a k=some res):al Tryz.prog 196 [.sl (ae GNode.encS a),.lit (.int .i64 k)] [] (.lit (.int .i64 res)) []:=by
 refine ai (ra:=[]) (md:=mdT) hT (hi:=EA) Tryz.func196 rfl rfl (by decide +kernel) (by simp) ?_
 unfold oY at h
 obtain ⟨q04,l1,h⟩:=ab h
 simp(config:=cS)only[go_sem]
 refine an (m1:=.mk) (m2:=.mk) [.nf [0,1,5] []] (ow a) l1 ?_ ?_
 ·simp(config:=cS)only[go_sem]
 ·intro nb2 sb2 bb2 b2 gb2
  obtain ⟨k_1,i_1⟩:=sb2
  unfold rz at b2
  try dsimp only at b2
  obtain ⟨h3,b2⟩|⟨h3,b2⟩:=af b2
  ·obtain ⟨x01,g4,b2⟩:=ab b2
   obtain ⟨h5,h6,h7⟩:=aj g4
   obtain ⟨r02,g8,b2⟩:=ab b2
   simp(config:=cS)only[go_sem,eqT h3,h5,h6,h7]
   refine ag (vc g8) ?_
   obtain ⟨h9,b2⟩|⟨h9,b2⟩:=af b2
   ·obtain ⟨r03,g10,b2⟩:=ab b2
    simp(config:=cS)only[go_sem,eqT h3,h5,h6,h7,eqT h9]
    refine ag (io g10) ?_
    obtain ⟨h11,b2⟩|⟨h11,b2⟩:=af b2
    ·cases b2
     obtain rfl:=(ak gb2).symm
     try dsimp only at h
     cases h
     simp(config:=cS)only[go_sem,eqT h3,h5,h6,h7,eqT h9,eqT h11]
    ·obtain ⟨h13,b2⟩|⟨h13,b2⟩:=af b2
     ·cases b2
      simp(config:=cS)only[go_sem,eqT h3,h5,h6,h7,eqT h9,eqF h11,eqT h13]
      refine ao gb2 ?_
      simp(config:=cS)only[go_sem,eqT h3,h5,h6,h7,eqT h9,eqF h11,eqT h13]
     ·cases b2
      obtain rfl:=(ak gb2).symm
      try dsimp only at h
      cases h
      simp(config:=cS)only[go_sem,eqT h3,h5,h6,h7,eqT h9,eqF h11,eqF h13]
   ·cases b2
    obtain rfl:=(ak gb2).symm
    try dsimp only at h
    cases h
    simp(config:=cS)only[go_sem,eqT h3,h5,h6,h7,eqF h9]
  ·cases b2
   obtain rfl:=(ak gb2).symm
   try dsimp only at h
   cases h
   simp(config:=cS)only[go_sem,eqF h3]
def pM (a:List GTie):(Int × Int)→St
 | (k,i)=>⟨[(0,.sl (ae GTie.enc a)),(1,.lit (.int .i64 k)),(5,.lit (.int .i64 i))],[],2⟩
attribute [go_sem] pM
attribute [go_sem] Tryz.ntmps197 Tryz.results197
theorem Bd {a:List GTie}{k res:Int}(h:qN a k=some res):al Tryz.prog 197 [.sl (ae GTie.enc a),.lit (.int .i64 k)] [] (.lit (.int .i64 res)) []:=by
 refine ai (ra:=[]) (md:=mdT) hT (hi:=hi00) Tryz.func197 rfl rfl (by decide +kernel) (by simp) ?_
 unfold qN at h
 obtain ⟨q02,l1,h⟩:=ab h
 simp(config:=cS)only[go_sem]
 refine an (m1:=.mk) (m2:=.mk) [.nf [0,1,5] []] (pM a) l1 ?_ ?_
 ·simp(config:=cS)only[go_sem]
 ·intro nb2 sb2 bb2 b2 gb2
  obtain ⟨k_1,i_1⟩:=sb2
  unfold sM at b2
  try dsimp only at b2
  obtain ⟨h3,b2⟩|⟨h3,b2⟩:=af b2
  ·obtain ⟨x01,g4,b2⟩:=ab b2
   obtain ⟨h5,h6,h7⟩:=aj g4
   obtain ⟨h8,b2⟩|⟨h8,b2⟩:=af b2
   ·obtain ⟨h9,b2⟩|⟨h9,b2⟩:=af b2
    ·obtain ⟨h10,b2⟩|⟨h10,b2⟩:=af b2
     ·obtain ⟨h11,b2⟩|⟨h11,b2⟩:=af b2
      ·obtain ⟨h12,b2⟩|⟨h12,b2⟩:=af b2
       ·cases b2
        simp(config:=cS)only[go_sem,eqT h3,h5,h6,h7,eqT h8,eqT h9,eqT h10,eqT h11,eqT h12]
        refine ao gb2 ?_
        simp(config:=cS)only[go_sem]
       ·cases b2
        obtain rfl:=(ak gb2).symm
        try dsimp only at h
        cases h
        simp(config:=cS)only[go_sem,eqT h3,h5,h6,h7,eqT h8,eqT h9,eqT h10,eqT h11,eqF h12]
      ·cases b2
       obtain rfl:=(ak gb2).symm
       try dsimp only at h
       cases h
       simp(config:=cS)only[go_sem,eqT h3,h5,h6,h7,eqT h8,eqT h9,eqT h10,eqF h11]
     ·cases b2
      obtain rfl:=(ak gb2).symm
      try dsimp only at h
      cases h
      simp(config:=cS)only[go_sem,eqT h3,h5,h6,h7,eqT h8,eqT h9,eqF h10]
    ·cases b2
     obtain rfl:=(ak gb2).symm
     try dsimp only at h
     cases h
     simp(config:=cS)only[go_sem,eqT h3,h5,h6,h7,eqT h8,eqF h9]
   ·cases b2
    obtain rfl:=(ak gb2).symm
    try dsimp only at h
    cases h
    simp(config:=cS)only[go_sem,eqT h3,h5,h6,h7,eqF h8]
  ·cases b2
   obtain rfl:=(ak gb2).symm
   try dsimp only at h
   cases h
   simp(config:=cS)only[go_sem,eqF h3]
attribute [go_sem] Tryz.ntmps118 Tryz.results118
theorem Be {a:GShow}{k res:Int}(h:qO a k=some res):al Tryz.prog 118 [.agg (GShow.encS a),.lit (.int .i64 k)] [] (.lit (.int .i64 res)) []:=by
 refine ai (ra:=[]) (md:=mdT) hT (hi:=hi00) Tryz.func118 rfl rfl (by decide +kernel) (by simp) ?_
 unfold qO at h
 obtain ⟨r01,g1,h⟩:=ab h
 simp(config:=cS)only[go_sem]
 refine ag (zI g1) ?_
 obtain ⟨h2,h⟩|⟨h2,h⟩:=af h
 ·cases h
  simp(config:=cS)only[go_sem,eqT h2]
 ·obtain ⟨r02,g3,h⟩:=ab h
  simp(config:=cS)only[go_sem,eqF h2]
  refine ag (Bd g3) ?_
  obtain ⟨h4,h⟩|⟨h4,h⟩:=af h
  ·cases h
   simp(config:=cS)only[go_sem,eqT h4]
  ·cases h
   simp(config:=cS)only[go_sem,eqF h4]
attribute [go_sem] Tryz.ntmps119 Tryz.results119
theorem zJ {a:GState}{k res:Int}(h:oZ a k=some res):al Tryz.prog 119 [.agg (GState.encS a),.lit (.int .i64 k)] [] (.lit (.int .i64 res)) []:=by
 refine ai (ra:=[]) (md:=mdT) hT (hi:=hi00) Tryz.func119 rfl rfl (by decide +kernel) (by simp) ?_
 unfold oZ at h
 obtain ⟨r01,g1,h⟩:=ab h
 simp(config:=cS)only[go_sem]
 refine ag (io g1) ?_
 obtain ⟨h2,h⟩|⟨h2,h⟩:=af h
 ·cases h
  simp(config:=cS)only[go_sem,eqT h2]
 ·obtain ⟨r02,g3,h⟩:=ab h
  simp(config:=cS)only[go_sem,eqF h2]
  refine ag (io g3) ?_
  obtain ⟨h4,h⟩|⟨h4,h⟩:=af h
  ·cases h
   simp(config:=cS)only[go_sem,eqT h4]
  ·cases h
   simp(config:=cS)only[go_sem,eqF h4]
def nJ (a:List GEntry):(Int × Int)→St
 | (k,i)=>⟨[(0,.sl (ae GEntry.encS a)),(1,.lit (.int .i64 k)),(5,.lit (.int .i64 i))],[],2⟩
attribute [go_sem] nJ
attribute [go_sem] Tryz.ntmps120 Tryz.results120
theorem yP {a:List GEntry}{k res:Int}(h:nM a k=some res):al Tryz.prog 120 [.sl (ae GEntry.encS a),.lit (.int .i64 k)] [] (.lit (.int .i64 res)) []:=by
 refine ai (ra:=[]) (md:=mdT) hT (hi:=hi00) Tryz.func120 rfl rfl (by decide +kernel) (by simp) ?_
 unfold nM at h
 obtain ⟨q05,l1,h⟩:=ab h
 simp(config:=cS)only[go_sem]
 refine an (m1:=.mk) (m2:=.mk) [.nf [0,1,5] []] (nJ a) l1 ?_ ?_
 ·simp(config:=cS)only[go_sem]
 ·intro nb2 sb2 bb2 b2 gb2
  obtain ⟨k_1,i_1⟩:=sb2
  unfold qP at b2
  try dsimp only at b2
  obtain ⟨h3,b2⟩|⟨h3,b2⟩:=af b2
  ·obtain ⟨x01,g4,b2⟩:=ab b2
   obtain ⟨h5,h6,h7⟩:=aj g4
   obtain ⟨h8,b2⟩|⟨h8,b2⟩:=af b2
   ·obtain ⟨r02,g9,b2⟩:=ab b2
    simp(config:=cS)only[go_sem,eqT h3,h5,h6,h7,eqT h8]
    refine ag (io g9) ?_
    obtain ⟨h10,b2⟩|⟨h10,b2⟩:=af b2
    ·cases b2
     obtain rfl:=(ak gb2).symm
     try dsimp only at h
     cases h
     simp(config:=cS)only[go_sem,eqT h3,h5,h6,h7,eqT h8,eqT h10]
    ·obtain ⟨r03,g12,b2⟩:=ab b2
     simp(config:=cS)only[go_sem,eqT h3,h5,h6,h7,eqT h8,eqF h10]
     refine ag (io g12) ?_
     obtain ⟨h13,b2⟩|⟨h13,b2⟩:=af b2
     ·cases b2
      obtain rfl:=(ak gb2).symm
      try dsimp only at h
      cases h
      simp(config:=cS)only[go_sem,eqT h3,h5,h6,h7,eqT h8,eqF h10,eqT h13]
     ·obtain ⟨r04,g15,b2⟩:=ab b2
      simp(config:=cS)only[go_sem,eqT h3,h5,h6,h7,eqT h8,eqF h10,eqF h13]
      refine ag (io g15) ?_
      obtain ⟨h16,b2⟩|⟨h16,b2⟩:=af b2
      ·cases b2
       obtain rfl:=(ak gb2).symm
       try dsimp only at h
       cases h
       simp(config:=cS)only[go_sem,eqT h3,h5,h6,h7,eqT h8,eqF h10,eqF h13,eqT h16]
      ·cases b2
       simp(config:=cS)only[go_sem,eqT h3,h5,h6,h7,eqT h8,eqF h10,eqF h13,eqF h16]
       refine ao gb2 ?_
       simp(config:=cS)only[go_sem,eqT h3,h5,h6,h7,eqT h8,eqF h10,eqF h13,eqF h16]
   ·cases b2
    obtain rfl:=(ak gb2).symm
    try dsimp only at h
    cases h
    simp(config:=cS)only[go_sem,eqT h3,h5,h6,h7,eqF h8]
  ·cases b2
   obtain rfl:=(ak gb2).symm
   try dsimp only at h
   cases h
   simp(config:=cS)only[go_sem,eqF h3]
attribute [go_sem] Tryz.ntmps50 Tryz.results50
theorem KV {a:GDesk}{k res:Int}(h:vf a k=some res):al Tryz.prog 50 [.agg (GDesk.encS a),.lit (.int .i64 k)] [] (.lit (.int .i64 res)) []:=by
 refine ai (ra:=[]) (md:=mdT) hT (hi:=hi00) Tryz.func50 rfl rfl (by decide +kernel) (by simp) ?_
 unfold vf at h
 obtain ⟨r01,g1,h⟩:=ab h
 simp(config:=cS)only[go_sem]
 refine ag (Be g1) ?_
 obtain ⟨h2,h⟩|⟨h2,h⟩:=af h
 ·cases h
  simp(config:=cS)only[go_sem,eqT h2]
 ·obtain ⟨r02,g3,h⟩:=ab h
  simp(config:=cS)only[go_sem,eqF h2]
  refine ag (zJ g3) ?_
  obtain ⟨h4,h⟩|⟨h4,h⟩:=af h
  ·cases h
   simp(config:=cS)only[go_sem,eqT h4]
  ·obtain ⟨r03,g5,h⟩:=ab h
   simp(config:=cS)only[go_sem,eqF h4]
   refine ag (yP g5) ?_
   obtain ⟨h6,h⟩|⟨h6,h⟩:=af h
   ·cases h
    simp(config:=cS)only[go_sem,eqT h6]
   ·cases h
    simp(config:=cS)only[go_sem,eqF h6]
@[go_sem] def hi9_16:DT:=.i1 0 (.i2 1 (.i0 2 [0] (.i2 3 (.i2 4 .nil))))
def hi9:Hint where
 acts:=fun _=>[]
 draws:=fun
  | 16=>⟨hi9_16,[[],[],[1],[0,1,2],[0,1,2,3]],.range 5⟩
  | _=>⟨.nil,[],[]⟩
theorem hi9a (i:Nat):hi9.acts i=[]:=rfl
theorem hi9v (i:Nat):hi9.views i=none:=rfl
attribute [go_sem] hi9a hi9v Tryz.ntmps9 Tryz.results9
@[go_sem] theorem Te:(hi9.draws 16).order=hi9_16:=rfl
end Go.Proofs.QB
