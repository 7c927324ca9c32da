/- Functions. -/
import Derived.Test.YtghfphjfkdbpjaaGreatZFK1
set_option linter.all false
set_option maxRecDepth 100000
set_option maxHeartbeats 400000
namespace Go.Proofs.QZ
open Go
def qM (h:List Int)(i:Int)(j:List GNode)(k:List GTie)(l e:Int)(f g:List Int)(d:Int)(b:List Int):(Int × (List Int) × (List Int))→St
 | (m,a,c)=>⟨[(3,.ptr 192 1 0 0),(4,.ptr 256 1 0 0),(6,.ptr 384 1 0 0),(8,.ptr 512 1 0 0),(9,.ref 639 1 0 a.length),(14,.sl (ab eI h)),(15,.lit (.int .i64 i)),(16,.lit (.int .i64 m))],[(192,1,.var [.sl (ab GNode.encS j),.sl (ab GTie.enc k),.lit (.int .i64 l)]),(256,1,.var [.lit (.int .i64 e),.sl (ab eI f),.sl (ab eI g)]),(384,1,.var [.lit (.int .i64 0),.lit (.slice none 0 0),.lit (.slice none 0 0)]),(512,1,.var [.lit (.int .i64 d),.ref 832 1 0 c.length,.ref 833 1 0 b.length]),(832,1,.row true (ab eI c)),(833,1,.row true (ab eI b)),(639,1,.row true (ab eI a))],2⟩
attribute [go_sem] qM
attribute [go_sem] Tryz.ntmps160 Tryz.results160
theorem lq {s:GShow}{v1:GState}{nodes:List Int}{res:GState × (List Int)}(h:eP s v1 nodes=some res):ao Tryz.prog 160 [.agg (GShow.encS s),.agg (GState.encS v1),.sl (ab eI nodes)] [] (.tup [.agg [.lit (.int .i64 res.1.now),.ref 20000 1 0 res.1.times.length,.ref 20001 1 0 res.1.values.length],.ref 20002 1 0 res.2.length]) [(20000,1,.row true (ab eI res.1.times)),(20001,1,.row true (ab eI res.1.values)),(20002,1,.row true (ab eI res.2))]:=by
 refine aj (ra:=[.homeCell 384 1,.homeCell 384 2,.home 7]) (md:=mdT) hT (hi:=hi00) Tryz.func160 rfl rfl (by decide +kernel) (by simp) ?_
 unfold eP at h
 obtain ⟨r01,g1,h⟩:=ae h
 simp(config:=cS)only[go_sem]
 refine ag (mf g1) ?_
 obtain ⟨q06,l2,h⟩:=ae h
 simp(config:=cS)only[go_sem]
 refine an (m1:=.mk) (m2:=.mk) [.home 9,.nf [3,4,6,8,9,14,15,16] [192,256,384,512,832,833,639]] (qM nodes ((nodes.length:Nat):Int) s.nodes s.ties s.horizon v1.now v1.times v1.values r01.now r01.values) l2 ?_ ?_
 ·simp(config:=cS)only[go_sem]
 ·intro nb3 sb3 bb3 b3 gb3
  obtain ⟨v16_1,props_1,h832_1⟩:=sb3
  unfold iM at b3
  try dsimp only at b3
  obtain ⟨h4,b3⟩|⟨h4,b3⟩:=af b3
  ·obtain ⟨x02,g5,b3⟩:=ae b3
   obtain ⟨h6,h7,h8⟩:=ai g5
   obtain ⟨x03,g9,b3⟩:=ae b3
   obtain ⟨h10,h11,h12⟩:=ai g9
   obtain ⟨x04,g13,b3⟩:=ae b3
   obtain ⟨h14,h15,h16⟩:=ai g13
   obtain ⟨h17,b3⟩|⟨h17,b3⟩:=af b3
   ·cases b3
    simp(config:=cS)only[go_sem,eqT h4,h6,h7,h8,h10,h11,h12,h14,h15,h16,eqT h17]
    refine ap gb3 ?_
    simp(config:=cS)only[go_sem]
   ·obtain ⟨h18,b3⟩:=ah b3
    obtain ⟨h19,b3⟩:=ah b3
    cases b3
    simp(config:=cS)only[go_sem,eqT h4,h6,h7,h8,h10,h11,h12,h14,h15,h16,eqF h17,eqT h18,eqT h19]
    refine ap gb3 ?_
    simp(config:=cS)only[go_sem]
  ·cases b3
   obtain rfl:=(ak gb3).symm
   try dsimp only at h
   obtain ⟨r05,g21,h⟩:=ae h
   simp(config:=cS)only[go_sem,eqF h4]
   refine ag (sG g21) ?_
   obtain ⟨h22,h⟩:=ah h
   cases h
   simp(config:=cS)only[go_sem,h22.symm]
def pP (a e:List Int)(f d:Int)(b:List Int):(Int × (List Int))→St
 | (g,c)=>⟨[(2,.sl (ab eI a)),(6,.ptr 384 1 0 0),(7,.ptr 448 1 0 0),(12,.sl (ab eI e)),(13,.lit (.int .i64 f)),(14,.lit (.int .i64 g))],[(384,1,.var [.lit (.int .i64 0),.lit (.slice none 0 0),.lit (.slice none 0 0)]),(448,1,.var [.lit (.int .i64 d),.ref 704 1 0 b.length,.ref 705 1 0 c.length]),(704,1,.row true (ab eI b)),(705,1,.row true (ab eI c))],2⟩
attribute [go_sem] pP
@[go_sem] def hi161_5:DT:=.i2 0 (.i2 1 (.i2 2 (.i2 3 (.i2 4 (.i2 5 (.i2 6 (.i2 7 (.i2 8 (.i2 9 .nil)))))))))
def FV:Hint where
 acts:=fun _=>[]
 draws:=fun
  | 5=>⟨hi161_5,[[],[0],[],[2],[],[],[4,5],[4,5,6],.range 8,.range 9],.range 10⟩
  | _=>⟨.nil,[],[]⟩
theorem QB (i:Nat):FV.acts i=[]:=rfl
theorem QC (i:Nat):FV.views i=none:=rfl
attribute [go_sem] QB QC Tryz.ntmps161 Tryz.results161
@[go_sem] theorem Tp:(FV.draws 5).order=hi161_5:=rfl
theorem kg {v0:GState}{props values:List Int}{res:GState}(h:dV v0 props values=some res):ao Tryz.prog 161 [.agg (GState.encS v0),.sl (ab eI props),.sl (ab eI values)] [] (.agg [.lit (.int .i64 res.now),.ref 20000 1 0 res.times.length,.ref 20001 1 0 res.values.length]) [(20000,1,.row true (ab eI res.times)),(20001,1,.row true (ab eI res.values))]:=by
 refine aj (ra:=[.homeCell 384 1,.homeCell 384 2]) (md:=mdT) hT (hi:=FV) Tryz.func161 rfl rfl (by decide +kernel) (by simp) ?_
 unfold dV at h
 obtain ⟨r01,g1,h⟩:=ae h
 simp(config:=cS)only[go_sem]
 refine ag (mf g1) ?_
 obtain ⟨q05,l2,h⟩:=ae h
 simp(config:=cS)only[go_sem]
 refine an (m1:=.mk) (m2:=.mk) [.nf [2,6,7,12,13,14] [384,448,704,705]] (pP values props ((props.length:Nat):Int) r01.now r01.times) l2 ?_ ?_
 ·simp(config:=cS)only[go_sem]
 ·intro nb3 sb3 bb3 b3 gb3
  obtain ⟨v14_1,h705_1⟩:=sb3
  unfold hS at b3
  try dsimp only at b3
  obtain ⟨h4,b3⟩|⟨h4,b3⟩:=af b3
  ·obtain ⟨x02,g5,b3⟩:=ae b3
   obtain ⟨h6,h7,h8⟩:=ai g5
   obtain ⟨x03,g9,b3⟩:=ae b3
   obtain ⟨h10,h11,h12⟩:=ai g9
   obtain ⟨x04,g13,b3⟩:=ae b3
   obtain ⟨h14,h15,h16⟩:=ai g13
   cases b3
   simp(config:=cS)only[go_sem,eqT h4,h6,h7,h8,h10,h11,h12,h14,h15,h16]
   refine ap gb3 ?_
   simp(config:=cS)only[go_sem]
  ·cases b3
   obtain rfl:=(ak gb3).symm
   try dsimp only at h
   cases h
   simp(config:=cS)only[go_sem,eqF h4]
def sq (g:List Int)(h e:Int)(b c d:List Int):(Int × (List Int) × (List Int))→St
 | (i,f,a)=>⟨[(6,.ptr 384 1 0 0),(9,.ptr 576 1 0 0),(10,.ref 3458 1 0 d.length),(11,.ref 767 1 0 f.length),(12,.ref 831 1 0 a.length),(58,.sl (ab eI g)),(59,.lit (.int .i64 h)),(60,.lit (.int .i64 i))],[(384,1,.var [.lit (.int .i64 0),.lit (.slice none 0 0),.lit (.slice none 0 0)]),(576,1,.var [.lit (.int .i64 e),.ref 3456 1 0 b.length,.ref 3457 1 0 c.length]),(3456,1,.row true (ab eI b)),(3457,1,.row true (ab eI c)),(3458,1,.row true (ab eI d)),(767,1,.row true (ab eI f)),(831,1,.row true (ab eI a))],2⟩
attribute [go_sem] sq
@[go_sem] def hi147_4:DT:=.i2 0 (.i2 1 (.i1 3 (.i1 4 (.i0 2 [3,4] (.i2 5 (.i2 6 .nil))))))
@[go_sem] def hi147_1:DT:=.i2 0 (.i2 1 (.i2 2 (.i2 3 (.i2 4 (.i2 5 (.i2 6 (.i2 7 (.i1 9 (.i1 10 (.i0 8 [9,10] (.i2 11 (.i2 12 (.i2 13 (.i2 14 (.i2 15 (.i2 16 (.i2 17 (.i2 18 (.i2 19 .nil)))))))))))))))))))
def BD:Hint where
 acts:=fun _=>[]
 draws:=fun
  | 1=>⟨hi147_1,[[],[0],[],[2],[0,1,2,3],.range 5,.range 6,.range 6,.range 8,.range 6,[0,1,2,3,4,5,9],.range 11,.range 12,.range 13,.range 14,.range 15,.range 16,.range 17,.range 18,.range 19],.range 20⟩
  | 4=>⟨hi147_4,[[],[],[0,1],[],[3],.range 5,.range 6],.range 7⟩
  | _=>⟨.nil,[],[]⟩
theorem QD (i:Nat):BD.acts i=[]:=rfl
theorem QE (i:Nat):BD.views i=none:=rfl
attribute [go_sem] QD QE Tryz.ntmps147 Tryz.results147
@[go_sem] theorem Tq:(BD.draws 1).order=hi147_1:=rfl
@[go_sem] theorem Tr:(BD.draws 4).order=hi147_4:=rfl
theorem GM {s:GShow}{v1:GState}{e:GEntry}{res:GState × Bool}(h:nw s v1 e=some res):ao Tryz.prog 147 [.agg (GShow.encS s),.agg (GState.encS v1),.agg (GEntry.encS e)] [] (.tup [.agg [.lit (.int .i64 res.1.now),.ref 20000 1 0 res.1.times.length,.ref 20001 1 0 res.1.values.length],.lit (.bool res.2)]) [(20000,1,.row true (ab eI res.1.times)),(20001,1,.row true (ab eI res.1.values))]:=by
 refine aj (ra:=[.homeCell 384 1,.homeCell 384 2]) (md:=mdT) hT (hi:=BD) Tryz.func147 rfl rfl (by decide +kernel) (by simp) ?_
 unfold nw at h
 obtain ⟨h1,h⟩|⟨h1,h⟩:=af h
 ·obtain ⟨r01,g2,h⟩:=ae h
  simp(config:=cS)only[go_sem,eqT h1]
  refine ag (nQ g2) ?_
  obtain ⟨r02,g3,h⟩:=ae h
  simp(config:=cS)only[go_sem,eqT h1]
  refine ag (sR g3) ?_
  obtain ⟨h4,h⟩|⟨h4,h⟩:=af h
  ·obtain ⟨r03,g5,h⟩:=ae h
   simp(config:=cS)only[go_sem,eqT h1,eZt h4]
   refine ag (lm g5) ?_
   obtain ⟨h6,h⟩|⟨h6,h⟩:=af h
   ·obtain ⟨r04,g7,h⟩:=ae h
    simp(config:=cS)only[go_sem,eqT h1,eZt h4,eZt h6]
    refine ag (qL g7) ?_
    obtain ⟨r05,g8,h⟩:=ae h
    simp(config:=cS)only[go_sem,eqT h1,eZt h4,eZt h6]
    refine ag (pq g8) ?_
    obtain ⟨r06,g9,h⟩:=ae h
    simp(config:=cS)only[go_sem,eqT h1,eZt h4,eZt h6]
    refine ag (sR g9) ?_
    obtain ⟨h10,h⟩|⟨h10,h⟩:=af h
    ·obtain ⟨r07,g11,h⟩:=ae h
     simp(config:=cS)only[go_sem,eqT h1,eZt h4,eZt h6,eZt h10]
     refine ag (lq g11) ?_
     obtain ⟨q13,l12,h⟩:=ae h
     simp(config:=cS)only[go_sem,eqT h1,eZt h4,eZt h6,eZt h10]
     refine an (m1:=.mk) (m2:=.mk) [.home 11,.home 12,.nf [6,9,10,11,12,58,59,60] [384,576,3456,3457,3458,767,831]] (sq e.values ((e.values.length:Nat):Int) r07.1.now r07.1.times r07.1.values r07.2) l12 ?_ ?_
     ·simp(config:=cS)only[go_sem,eqT h1,eZt h4,eZt h6,eZt h10]
     ·intro nb13 sb13 bb13 b13 gb13
      obtain ⟨v60_1,seen_1,values_1⟩:=sb13
      unfold ko at b13
      try dsimp only at b13
      obtain ⟨h14,b13⟩|⟨h14,b13⟩:=af b13
      ·obtain ⟨x08,g15,b13⟩:=ae b13
       obtain ⟨h16,h17,h18⟩:=ai g15
       obtain ⟨r09,g19,b13⟩:=ae b13
       simp(config:=cS)only[go_sem,eqT h1,eZt h4,eZt h6,eZt h10,eqT h14,h16,h17,h18]
       refine ag (jX g19) ?_
       obtain ⟨h20,b13⟩:=ah b13
       obtain ⟨h21,b13⟩:=ah b13
       obtain ⟨r10,g22,b13⟩:=ae b13
       simp(config:=cS)only[go_sem,eqT h1,eZt h4,eZt h6,eZt h10,eqT h14,h16,h17,h18,eqT h20,eqT h21]
       refine ag (jX g22) ?_
       obtain ⟨h23,b13⟩:=ah b13
       obtain ⟨h24,b13⟩:=ah b13
       obtain ⟨h25,b13⟩:=ah b13
       cases b13
       simp(config:=cS)only[go_sem,eqT h1,eZt h4,eZt h6,eZt h10,eqT h14,h16,h17,h18,eqT h20,eqT h21,eqF h23,eqT h24,eqT h25]
       refine ap gb13 ?_
       simp(config:=cS)only[go_sem,eqT h1,eZt h4,eZt h6,eZt h10,eqT h14,h16,h17,h18,eqT h20,eqT h21,eqF h23,eqT h24,eqT h25]
      ·cases b13
       obtain rfl:=(ak gb13).symm
       try dsimp only at h
       obtain ⟨r11,g27,h⟩:=ae h
       simp(config:=cS)only[go_sem,eqT h1,eZt h4,eZt h6,eZt h10,eqF h14]
       refine ag (gX g27) ?_
       obtain ⟨h28,h⟩|⟨h28,h⟩:=af h
       ·obtain ⟨r12,g29,h⟩:=ae h
        simp(config:=cS)only[go_sem,eqT h1,eZt h4,eZt h6,eZt h10,eqF h14,eZt h28]
        refine ag (kg g29) ?_
        cases h
        simp(config:=cS)only[go_sem,eqT h1,eZt h4,eZt h6,eZt h10,eqF h14,eZt h28]
       ·cases h
        simp(config:=cS)only[go_sem,eqT h1,eZt h4,eZt h6,eZt h10,eqF h14,eZf h28]
    ·cases h
     simp(config:=cS)only[go_sem,eqT h1,eZt h4,eZt h6,eZf h10]
   ·cases h
    simp(config:=cS)only[go_sem,eqT h1,eZt h4,eZf h6]
  ·cases h
   simp(config:=cS)only[go_sem,eqT h1,eZf h4]
 ·cases h
  simp(config:=cS)only[go_sem,eqF h1]
def oM (d:List GEntry)(e:Int)(f:List GNode)(g:List GTie)(h:Int):(Int × Int × (List Int) × (List Int))→St
 | (i,c,a,b)=>⟨[(2,.ptr 128 1 0 0),(4,.ptr 256 1 0 0),(6,.ptr 384 1 0 0),(17,.sl (ab GEntry.encS d)),(18,.lit (.int .i64 e)),(19,.lit (.int .i64 i))],[(128,1,.var [.sl (ab GNode.encS f),.sl (ab GTie.enc g),.lit (.int .i64 h)]),(256,1,.var [.lit (.int .i64 0),.lit (.slice none 0 0),.lit (.slice none 0 0)]),(384,1,.var [.lit (.int .i64 c),.ref 1024 1 0 a.length,.ref 1025 1 0 b.length]),(1024,1,.row true (ab eI a)),(1025,1,.row true (ab eI b))],2⟩
attribute [go_sem] oM
attribute [go_sem] Tryz.ntmps65 Tryz.results65
theorem zE {s:GShow}{log:List GEntry}{res:GState × Bool}(h:jD s log=some res):ao Tryz.prog 65 [.agg (GShow.encS s),.sl (ab GEntry.encS log)] [] (.tup [.agg [.lit (.int .i64 res.1.now),.ref 20000 1 0 res.1.times.length,.ref 20001 1 0 res.1.values.length],.lit (.bool res.2)]) [(20000,1,.row true (ab eI res.1.times)),(20001,1,.row true (ab eI res.1.values))]:=by
 refine aj (ra:=[.homeCell 256 1,.homeCell 256 2]) (md:=mdT) hT (hi:=hi00) Tryz.func65 rfl rfl (by decide +kernel) (by simp) ?_
 unfold jD at h
 obtain ⟨r01,g1,h⟩:=ae h
 simp(config:=cS)only[go_sem]
 refine ag (sC g1) ?_
 obtain ⟨h2,h⟩|⟨h2,h⟩:=af h
 ·obtain ⟨r02,g3,h⟩:=ae h
  simp(config:=cS)only[go_sem,eZt h2]
  refine ag (yj g3) ?_
  obtain ⟨q05,l4,h⟩:=ae h
  simp(config:=cS)only[go_sem]
  refine an (m1:=.mk) (m2:=.mk) [.nfp [2,4,6,17,18,19] [(128,128),(256,256),(384,384),(1728,1024),(1024,1024),(1729,1025),(1025,1025)] []] (oM log ((log.length:Nat):Int) s.nodes s.ties s.horizon) l4 ?_ ?_
  ·simp(config:=cS)only[go_sem]
  ·intro nb5 sb5 bb5 b5 gb5
   obtain ⟨v19_1,v6_0_1,h1024_1,h1025_1⟩:=sb5
   unfold gb at b5
   try dsimp only at b5
   obtain ⟨h6,b5⟩|⟨h6,b5⟩:=af b5
   ·obtain ⟨x03,g7,b5⟩:=ae b5
    obtain ⟨h8,h9,h10⟩:=ai g7
    obtain ⟨r04,g11,b5⟩:=ae b5
    simp(config:=cS)only[go_sem,eqT h6,h8,h9,h10]
    refine ag (GM g11) ?_
    obtain ⟨h12,b5⟩|⟨h12,b5⟩:=af b5
    ·cases b5
     simp(config:=cS)only[go_sem,eZt h12]
     refine ap gb5 ?_
     simp(config:=cS)only[go_sem]
    ·cases b5
     obtain rfl:=(ak gb5).symm
     try dsimp only at h
     cases h
     simp(config:=cS)only[go_sem,eZf h12]
   ·cases b5
    obtain rfl:=(ak gb5).symm
    try dsimp only at h
    cases h
    simp(config:=cS)only[go_sem,eqF h6]
 ·cases h
  simp(config:=cS)only[go_sem,eZf h2]
attribute [go_sem] Tryz.ntmps66 Tryz.results66
theorem yo {a b:GState}{res:Bool}(h:iN a b=some res):ao Tryz.prog 66 [.agg (GState.encS a),.agg (GState.encS b)] [] (.lit (.bool res)) []:=by
 refine aj (ra:=[]) (md:=mdT) hT (hi:=hi00) Tryz.func66 rfl rfl (by decide +kernel) (by simp) ?_
 unfold iN at h
 obtain ⟨h1,h⟩|⟨h1,h⟩:=af h
 ·obtain ⟨r01,g2,h⟩:=ae h
  simp(config:=cS)only[go_sem,eqT h1]
  refine ag (gX g2) ?_
  obtain ⟨h3,h⟩|⟨h3,h⟩:=af h
  ·obtain ⟨r02,g4,h⟩:=ae h
   simp(config:=cS)only[go_sem,eqT h1,eZt h3]
   refine ag (gX g4) ?_
   cases h
   simp(config:=cS)only[go_sem,eqT h1,eZt h3]
  ·cases h
   simp(config:=cS)only[go_sem,eqT h1,eZf h3]
 ·cases h
  simp(config:=cS)only[go_sem,eqF h1]
attribute [go_sem] Tryz.ntmps16 Tryz.results16
theorem ES {d:GDesk}{res:Bool}(h:ka d=some res):ao Tryz.prog 16 [.agg (GDesk.encS d)] [] (.lit (.bool res)) []:=by
 refine aj (ra:=[]) (md:=mdT) hT (hi:=hi00) Tryz.func16 rfl rfl (by decide +kernel) (by simp) ?_
 unfold ka at h
 obtain ⟨r01,g1,h⟩:=ae h
 simp(config:=cS)only[go_sem]
 refine ag (Dc g1) ?_
 obtain ⟨h2,h⟩|⟨h2,h⟩:=af h
 ·obtain ⟨h3,h⟩|⟨h3,h⟩:=af h
  ·obtain ⟨r02,g4,h⟩:=ae h
   simp(config:=cS)only[go_sem,eZt h2,eqT h3]
   refine ag (zE g4) ?_
   obtain ⟨h5,h⟩|⟨h5,h⟩:=af h
   ·obtain ⟨r03,g6,h⟩:=ae h
    simp(config:=cS)only[go_sem,eZt h2,eqT h3,eZt h5]
    refine ag (yo g6) ?_
    cases h
    simp(config:=cS)only[go_sem,eZt h2,eqT h3,eZt h5]
   ·cases h
    simp(config:=cS)only[go_sem,eZt h2,eqT h3,eZf h5]
  ·cases h
   simp(config:=cS)only[go_sem,eZt h2,eqF h3]
 ·cases h
  simp(config:=cS)only[go_sem,eZf h2]
attribute [go_sem] Tryz.ntmps159 Tryz.results159
theorem wk {v:Int}{res:Bool}(h:eg v=some res):ao Tryz.prog 159 [.lit (.int .i64 v)] [] (.lit (.bool res)) []:=by
 refine aj (ra:=[]) (md:=mdT) hT (hi:=hi00) Tryz.func159 rfl rfl (by decide +kernel) (by simp) ?_
 unfold eg at h
 obtain ⟨h1,h⟩|⟨h1,h⟩:=af h
 ·cases h
  simp(config:=cS)only[go_sem,eqT h1]
 ·cases h
  simp(config:=cS)only[go_sem,eqF h1]
@[go_sem] def hi157_1:DT:=.i2 0 (.i2 1 (.i2 2 (.i2 3 (.i2 4 (.i2 5 (.i2 6 (.i2 7 (.i2 8 (.i2 9 (.i2 10 (.i2 11 (.i2 12 (.i2 13 .nil)))))))))))))
def FW:Hint where
 acts:=fun _=>[]
 draws:=fun
  | 1=>⟨hi157_1,[[],[0],[],[2],[0,1,2,3],.range 5,[],[6],[],[8],[6,7,8,9],[6,7,8,9,10],.range 6,.range 13],[0,1,2,3,4,5,7,8,9,10,11,12,6,13]⟩
  | _=>⟨.nil,[],[]⟩
theorem QF (i:Nat):FW.acts i=[]:=rfl
theorem QG (i:Nat):FW.views i=none:=rfl
attribute [go_sem] QF QG Tryz.ntmps157 Tryz.results157
@[go_sem] theorem Ts:(FW.draws 1).order=hi157_1:=rfl
theorem wV {s:GShow}{v1:GState}{t:GTie}{res:Bool}(h:hU s v1 t=some res):ao Tryz.prog 157 [.agg (GShow.encS s),.agg (GState.encS v1),.agg (GTie.enc t)] [] (.lit (.bool res)) []:=by
 refine aj (ra:=[]) (md:=mdT) hT (hi:=FW) Tryz.func157 rfl rfl (by decide +kernel) (by simp) ?_
 unfold hU at h
 obtain ⟨x01,g1,h⟩:=ae h
 obtain ⟨h2,h3,h4⟩:=ai g1
 obtain ⟨x02,g5,h⟩:=ae h
 obtain ⟨h6,h7,h8⟩:=ai g5
 obtain ⟨h9,h⟩|⟨h9,h⟩:=af h
 ·obtain ⟨h10,h⟩|⟨h10,h⟩:=af h
  ·cases h
   simp(config:=cS)only[go_sem,h2,h3,h4,h6,h7,h8,eqT h9,eZt h10]
  ·obtain ⟨h11,h⟩|⟨h11,h⟩:=af h
   ·cases h
    simp(config:=cS)only[go_sem,h2,h3,h4,h6,h7,h8,eqT h9,eZf h10,eqT h11]
   ·obtain ⟨r03,g12,h⟩:=ae h
    simp(config:=cS)only[go_sem,h2,h3,h4,h6,h7,h8,eqT h9,eZf h10,eqF h11]
    refine ag (mg g12) ?_
    obtain ⟨h13,h⟩|⟨h13,h⟩:=af h
    ·cases h
     simp(config:=cS)only[go_sem,eqT h13]
    ·cases h
     simp(config:=cS)only[go_sem,eqF h13]
 ·obtain ⟨h14,h⟩|⟨h14,h⟩:=af h
  ·obtain ⟨h15,h⟩|⟨h15,h⟩:=af h
   ·cases h
    simp(config:=cS)only[go_sem,h2,h3,h4,h6,h7,h8,eqF h9,eqT h14,eZt h15]
   ·obtain ⟨r04,g16,h⟩:=ae h
    simp(config:=cS)only[go_sem,h2,h3,h4,h6,h7,h8,eqF h9,eqT h14,eZf h15]
    refine ag (mg g16) ?_
    obtain ⟨h17,h⟩|⟨h17,h⟩:=af h
    ·cases h
     simp(config:=cS)only[go_sem,eqT h17]
    ·cases h
     simp(config:=cS)only[go_sem,eqF h17]
  ·obtain ⟨h18,h⟩|⟨h18,h⟩:=af h
   ·cases h
    simp(config:=cS)only[go_sem,h2,h3,h4,h6,h7,h8,eqF h9,eqF h14,eqT h18]
   ·cases h
    simp(config:=cS)only[go_sem,h2,h3,h4,h6,h7,h8,eqF h9,eqF h14,eqF h18]
attribute [go_sem] Tryz.ntmps156 Tryz.results156
theorem wW {t:GTie}{s:GShow}{v2:GState}{res:Bool}(h:kq t s v2=some res):ao Tryz.prog 156 [.agg (GTie.enc t),.loc [.sl (ab GNode.encS s.nodes),.sl (ab GTie.enc s.ties),.lit (.int .i64 s.horizon)],.loc [.lit (.int .i64 v2.now),.sl (ab eI v2.times),.sl (ab eI v2.values)]] [] (.lit (.bool res)) []:=by
 refine aj (ra:=[]) (md:=mdT) hT (hi:=hi00) Tryz.func156 rfl rfl (by decide +kernel) (by simp) ?_
 unfold kq at h
 obtain ⟨r01,g1,h⟩:=ae h
 simp(config:=cS)only[go_sem]
 refine ag (wV g1) ?_
 cases h
 simp(config:=cS)only[go_sem]
def qN (c:List Int)(h:Int)(d:List GNode)(e:List GTie)(f a:Int)(b:List Int)(g:Int):St:=⟨[(2,.ptr 128 1 0 0),(3,.ptr 192 1 0 0),(8,.sl (ab eI c)),(9,.lit (.int .i64 h)),(10,.lit (.int .i64 g))],[(128,1,.var [.sl (ab GNode.encS d),.sl (ab GTie.enc e),.lit (.int .i64 f)]),(192,1,.var [.lit (.int .i64 a),.sl (ab eI c),.sl (ab eI b)])],2⟩
attribute [go_sem] qN
attribute [go_sem] Tryz.ntmps70 Tryz.results70
theorem nR {s:GShow}{v1:GState}{res:Bool}(h:eQ s v1=some res):ao Tryz.prog 70 [.agg (GShow.encS s),.agg (GState.encS v1)] [] (.lit (.bool res)) []:=by
 refine aj (ra:=[]) (md:=mdT) hT (hi:=hi00) Tryz.func70 rfl rfl (by decide +kernel) (by simp) ?_
 unfold eQ at h
 obtain ⟨q03,l1,h⟩:=ae h
 simp(config:=cS)only[go_sem]
 refine an (m1:=.mk) (m2:=.mk) [.nf [2,3,8,9,10] [128,192]] (qN v1.times ((v1.times.length:Nat):Int) s.nodes s.ties s.horizon v1.now v1.values) l1 ?_ ?_
 ·simp(config:=cS)only[go_sem]
 ·intro nb2 v10_1 bb2 b2 gb2
  unfold fM at b2
  try dsimp only at b2
  obtain ⟨h3,b2⟩|⟨h3,b2⟩:=af b2
  ·obtain ⟨x01,g4,b2⟩:=ae b2
   obtain ⟨h5,h6,h7⟩:=ai g4
   obtain ⟨h8,b2⟩|⟨h8,b2⟩:=af b2
   ·obtain ⟨r02,g9,b2⟩:=ae b2
    simp(config:=cS)only[go_sem,eqT h3,h5,h6,h7,eqT h8]
    refine ag (mg g9) ?_
    obtain ⟨h10,b2⟩|⟨h10,b2⟩:=af b2
    ·cases b2
     simp(config:=cS)only[go_sem,eqT h10]
     refine ap gb2 ?_
     simp(config:=cS)only[go_sem]
    ·cases b2
     obtain rfl:=(ak gb2).symm
     try dsimp only at h
     cases h
     simp(config:=cS)only[go_sem,eqF h10]
   ·cases b2
    simp(config:=cS)only[go_sem,eqT h3,h5,h6,h7,eqF h8]
    refine ap gb2 ?_
    simp(config:=cS)only[go_sem]
  ·cases b2
   obtain rfl:=(ak gb2).symm
   try dsimp only at h
   cases h
   simp(config:=cS)only[go_sem,eqF h3]
attribute [go_sem] Tryz.ntmps69 Tryz.results69
theorem qO {s:GShow}{v1:GState}{res:Bool}(h:fu s v1=some res):ao Tryz.prog 69 [.agg (GShow.encS s),.agg (GState.encS v1)] [] (.lit (.bool res)) []:=by
 refine aj (ra:=[]) (md:=mdT) hT (hi:=hi00) Tryz.func69 rfl rfl (by decide +kernel) (by simp) ?_
 unfold fu at h
 obtain ⟨r01,g1,h⟩:=ae h
 simp(config:=cS)only[go_sem]
 refine ag (mV (by exact fun _ _ hr=>wW hr) (by refine ⟨fun _=>?_,fun _=>?_⟩ <;> simp only [go_sem]) (fun _=>rfl) rfl g1) ?_
 obtain ⟨h2,h⟩|⟨h2,h⟩:=af h
 ·cases h
  simp(config:=cS)only[go_sem,eZt h2]
 ·obtain ⟨h3,h⟩|⟨h3,h⟩:=af h
  ·obtain ⟨r02,g4,h⟩:=ae h
   simp(config:=cS)only[go_sem,eZf h2,eqT h3]
   refine ag (nR g4) ?_
   cases h
   simp(config:=cS)only[go_sem]
  ·cases h
   simp(config:=cS)only[go_sem,eZf h2,eqF h3]
attribute [go_sem] Tryz.ntmps80 Tryz.results80
theorem uX {s:GShow}{res:GShow × (List (ByteArray × Bool))}(h:js s=some res):ao Tryz.prog 80 [.agg (GShow.encS s)] [] (.ptr 20000 1 0 0) [(20000,1,.var [.sl (ab GNode.encS res.1.nodes),.sl (ab GTie.enc res.1.ties),.lit (.int .i64 res.1.horizon),.mp 20001 1]),(20001,1,.map (eM res.2))]:=by
 refine aj (ra:=[]) (md:=mdT) hT (hi:=hi00) Tryz.func80 rfl rfl (by decide +kernel) (by simp) ?_
 unfold js at h
 cases h
 simp(config:=cS)only[go_sem]
def tz (a:List Int)(e c:Int)(d:List Int):(Int × (List Int))→St
 | (f,b)=>⟨[(1,.ptr 64 1 0 0),(3,.ref 704 1 0 b.length),(13,.sl (ab eI a)),(14,.lit (.int .i64 e)),(15,.lit (.int .i64 f))],[(64,1,.var [.lit (.int .i64 c),.sl (ab eI a),.sl (ab eI d)]),(704,1,.row true (ab (eK .u8) b))],2⟩
attribute [go_sem] tz
def tA (b:List Int)(c:Int):(Int × (List Int))→St
 | (d,a)=>⟨[(3,.ref 704 1 0 a.length),(27,.sl (ab eI b)),(28,.lit (.int .i64 c)),(29,.lit (.int .i64 d))],[(704,1,.row true (ab (eK .u8) a))],2⟩
attribute [go_sem] tA
attribute [go_sem] Tryz.ntmps171 Tryz.results171
theorem JJ {v0:GState}{res:ByteArray}(h:qR v0=some res):ao Tryz.prog 171 [.agg (GState.encS v0)] [] (.lit (.string res)) []:=by
 refine aj (ra:=[]) (md:=mdT) hT (hi:=hi00) Tryz.func171 rfl rfl (by decide +kernel) (by simp) ?_
 unfold qR at h
 obtain ⟨q04,l1,h⟩:=ae h
 simp(config:=cS)only[go_sem]
 refine an (m1:=.mk) (m2:=.mk) [.nf [1,3,13,14,15] [64,704]] (tz v0.times ((v0.times.length:Nat):Int) v0.now v0.values) l1 ?_ ?_
 ·simp(config:=cS)only[go_sem]
 ·intro nb2 sb2 bb2 b2 gb2
  obtain ⟨v15_1,out_1⟩:=sb2
  unfold mz at b2
  try dsimp only at b2
  obtain ⟨h3,b2⟩|⟨h3,b2⟩:=af b2
  ·obtain ⟨x01,g4,b2⟩:=ae b2
   obtain ⟨h5,h6,h7⟩:=ai g4
   obtain ⟨h8,b2⟩:=ah b2
   obtain ⟨h9,b2⟩:=ah b2
   cases b2
   simp(config:=cS)only[go_sem,eqT h3,h5,h6,h7,eqT h8,eqT h9]
   refine ap gb2 ?_
   simp(config:=cS)only[go_sem]
  ·cases b2
   obtain rfl:=(ak gb2).symm
   try dsimp only at h
   obtain ⟨q03,l11,h⟩:=ae h
   simp(config:=cS)only[go_sem,eqF h3]
   refine an (m1:=.mk) (m2:=.mk) [.nf [3,27,28,29] [704]] (tA v0.values ((v0.values.length:Nat):Int)) l11 ?_ ?_
   ·simp(config:=cS)only[go_sem]
   ·intro nb12 sb12 bb12 b12 gb12
    obtain ⟨v29_2,out_2⟩:=sb12
    unfold mA at b12
    try dsimp only at b12
    obtain ⟨h13,b12⟩|⟨h13,b12⟩:=af b12
    ·obtain ⟨x02,g14,b12⟩:=ae b12
     obtain ⟨h15,h16,h17⟩:=ai g14
     obtain ⟨h18,b12⟩:=ah b12
     obtain ⟨h19,b12⟩:=ah b12
     cases b12
     simp(config:=cS)only[go_sem,eqT h13,h15,h16,h17,eqT h18,eqT h19]
     refine ap gb12 ?_
     simp(config:=cS)only[go_sem]
    ·cases b12
     obtain rfl:=(ak gb12).symm
     try dsimp only at h
     cases h
     simp(config:=cS)only[go_sem,eqF h13]
def lW (a:List Int)(b c:Int):St:=⟨[(0,.sl (ab eI a)),(9,.sl (ab eI a)),(10,.lit (.int .i64 b)),(11,.lit (.int .i64 c))],[],2⟩
attribute [go_sem] lW
def lX (b:List Int)(n d:Int)(c:List (List Int)):(Int × (List Int))→St
 | (e,a)=>⟨[(0,.sl (ab eI b)),(5,.ref 383 1 0 c.length),(6,.lit (.int .i64 n)),(7,.ref 511 1 0 a.length),(44,.lit (.int .i64 d)),(45,.lit (.int .i64 e))],[(383,1,.row true (ab (eLO eI) c)),(511,1,.row true (ab eI a))],2⟩
attribute [go_sem] lX
def lY (a:List Int):(Int × (List (List Int)))→St
 | (n,b)=>⟨[(0,.sl (ab eI a)),(5,.ref 383 1 0 b.length),(6,.lit (.int .i64 n))],[(383,1,.row true (ab (eLO eI) b))],2⟩
attribute [go_sem] lY
attribute [go_sem] Tryz.ntmps166 Tryz.results166
theorem pQ {props:List Int}{res:List (List Int)}(h:eR props=some res):ao Tryz.prog 166 [.sl (ab eI props)] [] (.ref 20000 1 0 res.length) [(20000,1,.row true (ab (eLO eI) res))]:=by
 refine aj (ra:=[.home 2]) (md:=mdT) hT (hi:=hi00) Tryz.func166 rfl rfl (by decide +kernel) (by simp) ?_
 unfold eR at h
 obtain ⟨q05,l1,h⟩:=ae h
 simp(config:=cS)only[go_sem]
 refine an (m1:=.mk) (m2:=.mk) [.nf [0,9,10,11] []] (lW props ((props.length:Nat):Int)) l1 ?_ ?_
 ·simp(config:=cS)only[go_sem]
 ·intro nb2 v11_1 bb2 b2 gb2
  unfold di at b2
  try dsimp only at b2
  obtain ⟨h3,b2⟩|⟨h3,b2⟩:=af b2
  ·obtain ⟨x01,g4,b2⟩:=ae b2
   obtain ⟨h5,h6,h7⟩:=ai g4
   obtain ⟨h8,b2⟩|⟨h8,b2⟩:=af b2
   ·cases b2
    obtain rfl:=(ak gb2).symm
    try dsimp only at h
    cases h
    simp(config:=cS)only[go_sem,eqT h3,h5,h6,h7,eqT h8]
   ·obtain ⟨h10,b2⟩|⟨h10,b2⟩:=af b2
    ·cases b2
     obtain rfl:=(ak gb2).symm
     try dsimp only at h
     cases h
     simp(config:=cS)only[go_sem,eqT h3,h5,h6,h7,eqF h8,eqT h10]
    ·obtain ⟨h12,b2⟩|⟨h12,b2⟩:=af b2
     ·obtain ⟨x02,g13,b2⟩:=ae b2
      obtain ⟨h14,h15,h16⟩:=ai g13
      obtain ⟨h17,b2⟩|⟨h17,b2⟩:=af b2
      ·cases b2
       obtain rfl:=(ak gb2).symm
       try dsimp only at h
       cases h
       simp(config:=cS)only[go_sem,eqT h3,h5,h6,h7,eqF h8,eqF h10,eqT h12,h14,h15,h16,eqT h17]
      ·cases b2
       simp(config:=cS)only[go_sem,eqT h3,h5,h6,h7,eqF h8,eqF h10,eqT h12,h14,h15,h16,eqF h17]
       refine ap gb2 ?_
       simp(config:=cS)only[go_sem]
     ·cases b2
      simp(config:=cS)only[go_sem,eqT h3,h5,h6,h7,eqF h8,eqF h10,eqF h12]
      refine ap gb2 ?_
      simp(config:=cS)only[go_sem]
  ·cases b2
   obtain rfl:=(ak gb2).symm
   try dsimp only at h
   obtain ⟨q04,l20,h⟩:=ae h
   simp(config:=cS)only[go_sem,eqF h3]
   refine an (m1:=.mk) (m2:=.mk) [.home 5,.nf [0,5,6] [383]] (lY props) l20 ?_ ?_
   ·simp(config:=cS)only[go_sem]
   ·intro nb21 sb21 bb21 b21 gb21
    obtain ⟨n_2,out_2⟩:=sb21
    unfold dl at b21
    try dsimp only at b21
    obtain ⟨h22,b21⟩:=ah b21
    obtain ⟨h23,b21⟩|⟨h23,b21⟩:=af b21
    ·obtain ⟨q03,l24,b21⟩:=ae b21
     simp(config:=cS)only[go_sem,eqF h22,eqT h23]
     refine an (m1:=.mk) (m2:=.mk) [.home 7,.nf [0,5,6,7,44,45] [383,511]] (lX props n_2 ((props.length:Nat):Int) out_2) l24 ?_ ?_
     ·simp(config:=cS)only[go_sem]
     ·intro nb25 sb25 bb25 b25 gb25
      obtain ⟨v45_3,values_3⟩:=sb25
      unfold dj at b25
      try dsimp only at b25
      obtain ⟨h26,b25⟩|⟨h26,b25⟩:=af b25
      ·obtain ⟨h27,b25⟩:=ah b25
       obtain ⟨h28,b25⟩:=ah b25
       obtain ⟨h29,b25⟩:=ah b25
       cases b25
       simp(config:=cS)only[go_sem,eqT h26,eqF h27,eqT h28,eqT h29]
       refine ap gb25 ?_
       simp(config:=cS)only[go_sem]
      ·cases b25
       obtain rfl:=(ak gb25).symm
       try dsimp only at b21
       obtain ⟨h31,b21⟩:=ah b21
       obtain ⟨h32,b21⟩:=ah b21
       cases b21
       simp(config:=cS)only[go_sem,eqF h26,eqT h31,eqT h32]
       refine ap gb21 ?_
       simp(config:=cS)only[go_sem]
    ·cases b21
     obtain rfl:=(ak gb21).symm
     try dsimp only at h
     cases h
     simp(config:=cS)only[go_sem,eqF h22,eqF h23]
def jx (g d:Int)(a b c:List Int)(f:List (List Int))(h:List GNode)(i:List GTie)(j:Int):(Int × (List (ByteArray × Bool)))→St
 | (k,e)=>⟨[(0,.ptr 10000 0 0 0),(7,.ptr 448 1 0 0),(8,.ref 1154 1 0 c.length),(22,.ref 1408 1 0 f.length),(23,.lit (.int .i64 g)),(24,.lit (.int .i64 k))],[(10000,0,.var [.sl (ab GNode.encS h),.sl (ab GTie.enc i),.lit (.int .i64 j),.mp 10001 0]),(10001,0,.map (eM e)),(448,1,.var [.lit (.int .i64 d),.ref 1152 1 0 a.length,.ref 1153 1 0 b.length]),(1152,1,.row true (ab eI a)),(1153,1,.row true (ab eI b)),(1154,1,.row true (ab eI c)),(1408,1,.tree (ab (eLS eI) f))],2⟩
attribute [go_sem] jx
@[go_sem] def hi75_1:DT:=.i2 0 (.i1 1 (.i1 2 (.i1 3 (.i1 4 (.i2 5 (.fork (.i2 6 (.i2 7 (.i2 8 (.i2 9 (.i0 10 [1,2,3,4] (.i2 11 (.i2 12 .nil))))))) (.i0 10 [1,2,3,4] (.i2 6 (.i2 7 (.i2 8 (.i2 9 (.i2 11 (.i2 12 .nil)))))))))))))
def hi75:Hint where
 acts:=fun _=>[]
 draws:=fun
  | 1=>⟨hi75_1,[[],[0],[0,1],[0,1,2],[],[],.range 6,.range 7,.range 8,.range 8,[],[0,1,2,3,4,5,6,7,8,10],.range 12],[0,1,2,3,4,5,6,7,8,11,9,10,12]⟩
  | _=>⟨.nil,[],[]⟩
@[go_sem] theorem UA (i:Nat):hi75.acts i=[]:=rfl
theorem Sk (i:Nat):hi75.views i=none:=rfl
attribute [go_sem] Sk Tryz.ntmps75 Tryz.results75
@[go_sem] theorem Ue:(hi75.draws 1).order=hi75_1:=rfl
theorem qP {rec:GShow→(List (ByteArray × Bool))→GState→Option (Bool × (List (ByteArray × Bool)))}(hrec:∀ {g_s:GShow} {g_known:List (ByteArray × Bool)} {v1:GState} {res:Bool × (List (ByteArray × Bool))},rec g_s g_known v1=some res→ao Tryz.prog 84 [.ptr 10000 0 0 0,.agg (GState.encS v1)] [(10000,0,.var [.sl (ab GNode.encS g_s.nodes),.sl (ab GTie.enc g_s.ties),.lit (.int .i64 g_s.horizon),.mp 10001 0]),(10001,0,.map (eM g_known))] (.lit (.bool res.1)) [(10000,0,.var [.sl (ab GNode.encS g_s.nodes),.sl (ab GTie.enc g_s.ties),.lit (.int .i64 g_s.horizon),.mp 10001 0]),(10001,0,.map (eM res.2))]){g_s:GShow}{g_known:List (ByteArray × Bool)}{v1:GState}{nodes:List Int}{res:Bool × (List (ByteArray × Bool))}(h:dE rec g_s g_known v1 nodes=some res):ao Tryz.prog 75 [.ptr 10000 0 0 0,.agg (GState.encS v1),.sl (ab eI nodes)] [(10000,0,.var [.sl (ab GNode.encS g_s.nodes),.sl (ab GTie.enc g_s.ties),.lit (.int .i64 g_s.horizon),.mp 10001 0]),(10001,0,.map (eM g_known))] (.lit (.bool res.1)) [(10000,0,.var [.sl (ab GNode.encS g_s.nodes),.sl (ab GTie.enc g_s.ties),.lit (.int .i64 g_s.horizon),.mp 10001 0]),(10001,0,.map (eM res.2))]:=by
 refine aj (ra:=[]) (md:=mdT) hT (hi:=hi75) Tryz.func75 rfl rfl (by decide +kernel) (by simp) ?_
 unfold dE at h
 try simp(config:=cS)only[go_sem]
 refine br ?_ ?_
 ·obtain ⟨r01,g1,h⟩:=ae h
  simp(config:=cS)only[go_sem]
  refine ag (lq g1) ?_
  obtain ⟨r02,g2,h⟩:=ae h
  simp(config:=cS)only[go_sem]
  refine ag (pQ g2) ?_
  obtain ⟨q06,l3,h⟩:=ae h
  simp(config:=cS)only[go_sem]
  refine an (m1:=.mk) (m2:=.mk) [.freeze [1408],.nf [0,7,8,22,23,24] [10000,10001,448,1152,1153,1154,1408]] (jx ((r02.length:Nat):Int) r01.1.now r01.1.times r01.1.values r01.2 r02 g_s.nodes g_s.ties g_s.horizon) l3 ?_ ?_
  ·simp(config:=cS)only[go_sem]
  ·intro nb4 sb4 bb4 b4 gb4
   obtain ⟨v24_1,h10001_1⟩:=sb4
   unfold dd at b4
   try dsimp only at b4
   obtain ⟨h5,b4⟩|⟨h5,b4⟩:=af b4
   ·obtain ⟨x03,g6,b4⟩:=ae b4
    obtain ⟨h7,h8,h9⟩:=ai g6
    obtain ⟨r04,g10,b4⟩:=ae b4
    simp(config:=cS)only[go_sem,eqT h5,h7,h8,h9]
    refine ag (kg g10) ?_
    obtain ⟨r05,g11,b4⟩:=ae b4
    simp(config:=cS)only[go_sem]
    refine ag (hrec g11) ?_
    obtain ⟨h12,b4⟩|⟨h12,b4⟩:=af b4
    ·cases b4
     simp(config:=cS)only[go_sem,eZt h12]
     refine ap gb4 ?_
     simp(config:=cS)only[go_sem]
    ·cases b4
     obtain rfl:=(ak gb4).symm
     try dsimp only at h
     cases h
     simp(config:=cS)only[go_sem,eZf h12]
   ·cases b4
    obtain rfl:=(ak gb4).symm
    try dsimp only at h
    cases h
    simp(config:=cS)only[go_sem,eqF h5]
 ·obtain ⟨r07,g15,h⟩:=ae h
  simp(config:=cS)only[go_sem]
  refine ag (lq g15) ?_
  obtain ⟨r08,g16,h⟩:=ae h
  simp(config:=cS)only[go_sem]
  refine ag (pQ g16) ?_
  obtain ⟨q12,l17,h⟩:=ae h
  simp(config:=cS)only[go_sem]
  refine an (m1:=.mk) (m2:=.mk) [.freeze [1408],.nf [0,7,8,22,23,24] [10000,10001,448,1152,1153,1154,1408]] (jx ((r08.length:Nat):Int) r07.1.now r07.1.times r07.1.values r07.2 r08 g_s.nodes g_s.ties g_s.horizon) l17 ?_ ?_
  ·simp(config:=cS)only[go_sem]
  ·intro nb18 sb18 bb18 b18 gb18
   obtain ⟨v24_2,h10001_2⟩:=sb18
   unfold dd at b18
   try dsimp only at b18
   obtain ⟨h19,b18⟩|⟨h19,b18⟩:=af b18
   ·obtain ⟨x09,g20,b18⟩:=ae b18
    obtain ⟨h21,h22,h23⟩:=ai g20
    obtain ⟨r10,g24,b18⟩:=ae b18
    simp(config:=cS)only[go_sem,eqT h19,h21,h22,h23]
    refine ag (kg g24) ?_
    obtain ⟨r11,g25,b18⟩:=ae b18
    simp(config:=cS)only[go_sem]
    refine ag (hrec g25) ?_
    obtain ⟨h26,b18⟩|⟨h26,b18⟩:=af b18
    ·cases b18
     simp(config:=cS)only[go_sem,eZt h26]
     refine ap gb18 ?_
     simp(config:=cS)only[go_sem]
    ·cases b18
     obtain rfl:=(ak gb18).symm
     try dsimp only at h
     cases h
     simp(config:=cS)only[go_sem,eZf h26]
   ·cases b18
    obtain rfl:=(ak gb18).symm
    try dsimp only at h
    cases h
    simp(config:=cS)only[go_sem,eqF h19]
def oc (f c:Int)(d e:List Int)(b:List (List Int))(g:List GNode)(h:List GTie)(i:Int):(Int × (List (ByteArray × Bool)))→St
 | (j,a)=>⟨[(0,.ptr 10000 0 0 0),(3,.ptr 192 1 0 0),(13,.ref 832 1 0 b.length),(14,.lit (.int .i64 f)),(15,.lit (.int .i64 j))],[(10000,0,.var [.sl (ab GNode.encS g),.sl (ab GTie.enc h),.lit (.int .i64 i),.mp 10001 0]),(10001,0,.map (eM a)),(192,1,.var [.lit (.int .i64 c),.sl (ab eI d),.sl (ab eI e)]),(832,1,.tree (ab (eLS eI) b))],2⟩
attribute [go_sem] oc
@[go_sem] def hi92_1:DT:=.i2 0 (.i2 1 (.i2 2 (.i2 3 (.i2 4 (.i2 7 (.i2 5 (.i2 6 .nil)))))))
def hi92:Hint where
 acts:=fun _=>[]
 draws:=fun
  | 1=>⟨hi92_1,[[],[0],[0,1],[0,1,2],[],.range 5,.range 6,[]],.range 8⟩
  | _=>⟨.nil,[],[]⟩
@[go_sem] theorem UB (i:Nat):hi92.acts i=[]:=rfl
theorem Sl (i:Nat):hi92.views i=none:=rfl
attribute [go_sem] Sl Tryz.ntmps92 Tryz.results92
@[go_sem] theorem Uf:(hi92.draws 1).order=hi92_1:=rfl
theorem wm {rec:GShow→(List (ByteArray × Bool))→GState→Option (Bool × (List (ByteArray × Bool)))}(hrec:∀ {g_s:GShow} {g_known:List (ByteArray × Bool)} {v1:GState} {res:Bool × (List (ByteArray × Bool))},rec g_s g_known v1=some res→ao Tryz.prog 84 [.ptr 10000 0 0 0,.agg (GState.encS v1)] [(10000,0,.var [.sl (ab GNode.encS g_s.nodes),.sl (ab GTie.enc g_s.ties),.lit (.int .i64 g_s.horizon),.mp 10001 0]),(10001,0,.map (eM g_known))] (.lit (.bool res.1)) [(10000,0,.var [.sl (ab GNode.encS g_s.nodes),.sl (ab GTie.enc g_s.ties),.lit (.int .i64 g_s.horizon),.mp 10001 0]),(10001,0,.map (eM res.2))]){g_s:GShow}{g_known:List (ByteArray × Bool)}{v1:GState}{res:(List Int) × Bool × (List (ByteArray × Bool))}(h:gd rec g_s g_known v1=some res):ao Tryz.prog 92 [.ptr 10000 0 0 0,.agg (GState.encS v1)] [(10000,0,.var [.sl (ab GNode.encS g_s.nodes),.sl (ab GTie.enc g_s.ties),.lit (.int .i64 g_s.horizon),.mp 10001 0]),(10001,0,.map (eM g_known))] (.tup [.sl (ab eI res.1),.lit (.bool res.2.1)]) [(10000,0,.var [.sl (ab GNode.encS g_s.nodes),.sl (ab GTie.enc g_s.ties),.lit (.int .i64 g_s.horizon),.mp 10001 0]),(10001,0,.map (eM res.2.2))]:=by
 refine aj (ra:=[.nilSl 4]) (md:=mdT) hT (hi:=hi92) Tryz.func92 rfl rfl (by decide +kernel) (by simp) ?_
 unfold gd at h
 obtain ⟨r01,g1,h⟩:=ae h
 simp(config:=cS)only[go_sem]
 refine ag (pq g1) ?_
 obtain ⟨q04,l2,h⟩:=ae h
 simp(config:=cS)only[go_sem]
 refine an (m1:=.mk) (m2:=.mk) [.freeze [832],.nf [0,3,13,14,15] [10000,10001,192,832]] (oc ((r01.length:Nat):Int) v1.now v1.times v1.values r01 g_s.nodes g_s.ties g_s.horizon) l2 ?_ ?_
 ·simp(config:=cS)only[go_sem]
 ·intro nb3 sb3 bb3 b3 gb3
  obtain ⟨v15_1,h10001_1⟩:=sb3
  unfold fv at b3
  try dsimp only at b3
  obtain ⟨h4,b3⟩|⟨h4,b3⟩:=af b3
  ·obtain ⟨x02,g5,b3⟩:=ae b3
   obtain ⟨h6,h7,h8⟩:=ai g5
   obtain ⟨r03,g9,b3⟩:=ae b3
   simp(config:=cS)only[go_sem,eqT h4,h6,h7,h8]
   refine ag (qP @hrec g9) ?_
   obtain ⟨h10,b3⟩|⟨h10,b3⟩:=af b3
   ·cases b3
    obtain rfl:=(ak gb3).symm
    try dsimp only at h
    cases h
    simp(config:=cS)only[go_sem,eZt h10]
   ·cases b3
    simp(config:=cS)only[go_sem,eZf h10]
    refine ap gb3 ?_
    simp(config:=cS)only[go_sem]
  ·cases b3
   obtain rfl:=(ak gb3).symm
   try dsimp only at h
   cases h
   simp(config:=cS)only[go_sem,eqF h4]
def oN (k:ByteArray)(f c:Int)(d e:List Int)(b:List (List Int))(g:List GNode)(h:List GTie)(i:Int):(Int × (List (ByteArray × Bool)))→St
 | (j,a)=>⟨[(0,.ptr 10000 0 0 0),(3,.ptr 192 1 0 0),(5,.lit (.string k)),(8,.lit (.bool true)),(45,.ref 2880 1 0 b.length),(46,.lit (.int .i64 f)),(47,.lit (.int .i64 j))],[(10000,0,.var [.sl (ab GNode.encS g),.sl (ab GTie.enc h),.lit (.int .i64 i),.mp 10001 0]),(10001,0,.map (eM a)),(192,1,.var [.lit (.int .i64 c),.sl (ab eI d),.sl (ab eI e)]),(2880,1,.tree (ab (eLS eI) b))],2⟩
attribute [go_sem] oN
@[go_sem] def hi84_13:DT:=.i2 0 (.i2 1 (.i2 2 (.i2 3 (.i2 4 (.i2 5 (.i2 6 (.i2 7 (.i2 8 (.i2 9 (.i2 10 (.i2 11 (.i2 12 (.i2 13 .nil)))))))))))))
@[go_sem] def hi84_10:DT:=.i2 0 (.i2 1 (.i2 2 (.i2 3 (.i2 4 (.i2 7 (.i2 5 (.i2 6 .nil)))))))
@[go_sem] def hi84_3:DT:=.i2 0 (.i2 1 (.i2 2 (.i2 3 (.i2 4 (.i2 5 (.i2 6 .nil))))))
@[go_sem] def hi84_1:DT:=.i2 0 (.i2 1 (.i2 2 (.i2 3 (.i2 4 (.i2 5 (.i2 6 .nil))))))
def hi84:Hint where
 acts:=fun _=>[]
 draws:=fun
  | 1=>⟨hi84_1,[[],[0],[0,1],[0,1,2],[],.range 5,.range 6],.range 7⟩
  | 3=>⟨hi84_3,[[],[0],[0,1],[0,1,2],[],.range 5,.range 6],.range 7⟩
  | 10=>⟨hi84_10,[[],[0],[0,1],[0,1,2],[],.range 5,.range 6,[]],.range 8⟩
  | 13=>⟨hi84_13,[[],[],[1],[1,2],[1,2,3],[],[],[1,2,3,4,5,6],.range 8,.range 9,.range 10,.range 10,.range 11,.range 13],[0,1,2,3,4,5,6,7,8,9,10,12,11,13]⟩
  | _=>⟨.nil,[],[]⟩
@[go_sem] theorem UC (i:Nat):hi84.acts i=[]:=rfl
theorem Sm (i:Nat):hi84.views i=none:=rfl
attribute [go_sem] Sm Tryz.ntmps84 Tryz.results84
@[go_sem] theorem Ug:(hi84.draws 1).order=hi84_1:=rfl
@[go_sem] theorem Uh:(hi84.draws 3).order=hi84_3:=rfl
@[go_sem] theorem Tt:(hi84.draws 10).order=hi84_10:=rfl
@[go_sem] theorem Tu:(hi84.draws 13).order=hi84_13:=rfl
theorem wX {rec:GShow→(List (ByteArray × Bool))→GState→Option (Bool × (List (ByteArray × Bool)))}(hrec:∀ {g_s:GShow} {g_known:List (ByteArray × Bool)} {v1:GState} {res:Bool × (List (ByteArray × Bool))},rec g_s g_known v1=some res→ao Tryz.prog 84 [.ptr 10000 0 0 0,.agg (GState.encS v1)] [(10000,0,.var [.sl (ab GNode.encS g_s.nodes),.sl (ab GTie.enc g_s.ties),.lit (.int .i64 g_s.horizon),.mp 10001 0]),(10001,0,.map (eM g_known))] (.lit (.bool res.1)) [(10000,0,.var [.sl (ab GNode.encS g_s.nodes),.sl (ab GTie.enc g_s.ties),.lit (.int .i64 g_s.horizon),.mp 10001 0]),(10001,0,.map (eM res.2))]){g_s:GShow}{g_known:List (ByteArray × Bool)}{v1:GState}{res:Bool × (List (ByteArray × Bool))}(h:hX rec g_s g_known v1=some res):ao Tryz.prog 84 [.ptr 10000 0 0 0,.agg (GState.encS v1)] [(10000,0,.var [.sl (ab GNode.encS g_s.nodes),.sl (ab GTie.enc g_s.ties),.lit (.int .i64 g_s.horizon),.mp 10001 0]),(10001,0,.map (eM g_known))] (.lit (.bool res.1)) [(10000,0,.var [.sl (ab GNode.encS g_s.nodes),.sl (ab GTie.enc g_s.ties),.lit (.int .i64 g_s.horizon),.mp 10001 0]),(10001,0,.map (eM res.2))]:=by
 refine aj (ra:=[]) (md:=mdT) hT (hi:=hi84) Tryz.func84 rfl rfl (by decide +kernel) (by simp) ?_
 unfold hX at h
 obtain ⟨r01,g1,h⟩:=ae h
 simp(config:=cS)only[go_sem]
 refine ag (qO g1) ?_
 obtain ⟨h2,h⟩|⟨h2,h⟩:=af h
 ·cases h
  simp(config:=cS)only[go_sem,eZt h2]
 ·obtain ⟨r02,g3,h⟩:=ae h
  simp(config:=cS)only[go_sem,eZf h2]
  refine ag (nR g3) ?_
  obtain ⟨h4,h⟩|⟨h4,h⟩:=af h
  ·cases h
   simp(config:=cS)only[go_sem,eZt h4]
  ·obtain ⟨r03,g5,h⟩:=ae h
   simp(config:=cS)only[go_sem,eZf h4]
   refine ag (JJ g5) ?_
   obtain ⟨x04,g6,h8⟩|⟨g7,h8⟩:=Jt h
   ·cases h8
    simp(config:=cS)only[go_sem,g6]
   ·obtain ⟨r05,g9,h8⟩:=ae h8
    simp(config:=cS)only[go_sem,g7]
    refine ag (nQ g9) ?_
    obtain ⟨q09,l10,h8⟩:=ae h8
    simp(config:=cS)only[go_sem]
    refine an (m1:=.mk) (m2:=.mk) [.freeze [2880],.nf [0,3,5,8,45,46,47] [10000,10001,192,2880]] (oN r03 ((r05.length:Nat):Int) v1.now v1.times v1.values r05 g_s.nodes g_s.ties g_s.horizon) l10 ?_ ?_
    ·simp(config:=cS)only[go_sem]
    ·intro nb11 sb11 bb11 b11 gb11
     obtain ⟨v47_1,h10001_1⟩:=sb11
     unfold gg at b11
     try dsimp only at b11
     obtain ⟨h12,b11⟩|⟨h12,b11⟩:=af b11
     ·obtain ⟨x06,g13,b11⟩:=ae b11
      obtain ⟨h14,h15,h16⟩:=ai g13
      obtain ⟨r07,g17,b11⟩:=ae b11
      simp(config:=cS)only[go_sem,eqT h12,h14,h15,h16]
      refine ag (qL g17) ?_
      obtain ⟨r08,g18,b11⟩:=ae b11
      simp(config:=cS)only[go_sem]
      refine ag (wm @hrec g18) ?_
      obtain ⟨h19,b11⟩|⟨h19,b11⟩:=af b11
      ·cases b11
       simp(config:=cS)only[go_sem,eZt h19]
       refine ap gb11 ?_
       simp(config:=cS)only[go_sem]
      ·cases b11
       obtain rfl:=(ak gb11).symm
       try dsimp only at h8
       cases h8
       simp(config:=cS)only[go_sem,eZf h19]
     ·cases b11
      obtain rfl:=(ak gb11).symm
      try dsimp only at h8
      cases h8
      simp(config:=cS)only[go_sem,eqF h12]
theorem uY (n:Nat):∀ {g_s:GShow} {g_known:List (ByteArray × Bool)} {v1:GState} {res:Bool × (List (ByteArray × Bool))},ix n g_s g_known v1=some res→ao Tryz.prog 84 [.ptr 10000 0 0 0,.agg (GState.encS v1)] [(10000,0,.var [.sl (ab GNode.encS g_s.nodes),.sl (ab GTie.enc g_s.ties),.lit (.int .i64 g_s.horizon),.mp 10001 0]),(10001,0,.map (eM g_known))] (.lit (.bool res.1)) [(10000,0,.var [.sl (ab GNode.encS g_s.nodes),.sl (ab GTie.enc g_s.ties),.lit (.int .i64 g_s.horizon),.mp 10001 0]),(10001,0,.map (eM res.2))]:=by
 induction n with
 | zero=>intro _ _ _ _ h;cases h
 | succ n ih=>intro _ _ _ _ h;exact wX (@ih) h
theorem zF {g_s:GShow}{g_known:List (ByteArray × Bool)}{v1:GState}{res:Bool × (List (ByteArray × Bool))}(h:m_impl_game_wins g_s g_known v1=some res):ao Tryz.prog 84 [.ptr 10000 0 0 0,.agg (GState.encS v1)] [(10000,0,.var [.sl (ab GNode.encS g_s.nodes),.sl (ab GTie.enc g_s.ties),.lit (.int .i64 g_s.horizon),.mp 10001 0]),(10001,0,.map (eM g_known))] (.lit (.bool res.1)) [(10000,0,.var [.sl (ab GNode.encS g_s.nodes),.sl (ab GTie.enc g_s.ties),.lit (.int .i64 g_s.horizon),.mp 10001 0]),(10001,0,.map (eM res.2))]:=uY 40 h
theorem wY {g_s:GShow}{g_known:List (ByteArray × Bool)}{v1:GState}{nodes:List Int}{res:Bool × (List (ByteArray × Bool))}(h:hY g_s g_known v1 nodes=some res):ao Tryz.prog 75 [.ptr 10000 0 0 0,.agg (GState.encS v1),.sl (ab eI nodes)] [(10000,0,.var [.sl (ab GNode.encS g_s.nodes),.sl (ab GTie.enc g_s.ties),.lit (.int .i64 g_s.horizon),.mp 10001 0]),(10001,0,.map (eM g_known))] (.lit (.bool res.1)) [(10000,0,.var [.sl (ab GNode.encS g_s.nodes),.sl (ab GTie.enc g_s.ties),.lit (.int .i64 g_s.horizon),.mp 10001 0]),(10001,0,.map (eM res.2))]:=qP (@zF) h
attribute [go_sem] Tryz.ntmps173 Tryz.results173
theorem ru {nodes:List Int}{g_s:GShow}{g_known:List (ByteArray × Bool)}{v2:GState}{res:Bool × (List (ByteArray × Bool))}(h:eh nodes g_s g_known v2=some res):ao Tryz.prog 173 [.sl (ab eI nodes),.ptr 10000 0 0 0,.ptr 10003 0 0 0] [(10000,0,.var [.ptr 10001 0 0 0]),(10001,0,.var [.sl (ab GNode.encS g_s.nodes),.sl (ab GTie.enc g_s.ties),.lit (.int .i64 g_s.horizon),.mp 10002 0]),(10002,0,.map (eM g_known)),(10003,0,.var [.lit (.int .i64 v2.now),.sl (ab eI v2.times),.sl (ab eI v2.values)])] (.lit (.bool res.1)) [(10000,0,.var [.ptr 10001 0 0 0]),(10001,0,.var [.sl (ab GNode.encS g_s.nodes),.sl (ab GTie.enc g_s.ties),.lit (.int .i64 g_s.horizon),.mp 10002 0]),(10002,0,.map (eM res.2)),(10003,0,.var [.lit (.int .i64 v2.now),.sl (ab eI v2.times),.sl (ab eI v2.values)])]:=by
 refine aj (ra:=[]) (md:=mdT) hT (hi:=hi00) Tryz.func173 rfl rfl (by decide +kernel) (by simp) ?_
 unfold eh at h
 obtain ⟨r01,g1,h⟩:=ae h
 simp(config:=cS)only[go_sem]
 refine ag (wY g1) ?_
 cases h
 simp(config:=cS)only[go_sem]
def da (h:Bool)(j:Int)(i:List (List Int))(a:List GNode)(b:List GTie)(c d:Int)(e f:List Int):(Int × (List (ByteArray × Bool)))→St
 | (k,g)=>⟨[(0,.ref 10000 0 0 i.length),(1,.fn 173 [.ptr 10001 0 0 0,.ptr 10004 0 0 0]),(7,.lit (.int .i64 j)),(8,.lit (.int .i64 k))],[(10000,0,.row h (ab (eLS eI) i)),(10001,0,.var [.ptr 10002 0 0 0]),(10002,0,.var [.sl (ab GNode.encS a),.sl (ab GTie.enc b),.lit (.int .i64 c),.mp 10003 0]),(10003,0,.map (eM g)),(10004,0,.var [.lit (.int .i64 d),.sl (ab eI e),.sl (ab eI f)])],2⟩
attribute [go_sem] da
attribute [go_sem] Tryz.ntmps172 Tryz.results172
theorem kV {v0:List (List Int)}{g_s:GShow}{g_known:List (ByteArray × Bool)}{cap1:GState}{zb0:Bool}{res:Int × (List (List Int)) × (List (ByteArray × Bool))}(h:bc v0 g_s g_known cap1=some res):ao Tryz.prog 172 [.ref 10000 0 0 v0.length,.fn 173 [.ptr 10001 0 0 0,.ptr 10004 0 0 0]] [(10000,0,.row zb0 (ab (eLS eI) v0)),(10001,0,.var [.ptr 10002 0 0 0]),(10002,0,.var [.sl (ab GNode.encS g_s.nodes),.sl (ab GTie.enc g_s.ties),.lit (.int .i64 g_s.horizon),.mp 10003 0]),(10003,0,.map (eM g_known)),(10004,0,.var [.lit (.int .i64 cap1.now),.sl (ab eI cap1.times),.sl (ab eI cap1.values)])] (.lit (.int .i64 res.1)) [(10000,0,.row zb0 (ab (eLS eI) res.2.1)),(10001,0,.var [.ptr 10002 0 0 0]),(10002,0,.var [.sl (ab GNode.encS g_s.nodes),.sl (ab GTie.enc g_s.ties),.lit (.int .i64 g_s.horizon),.mp 10003 0]),(10003,0,.map (eM res.2.2)),(10004,0,.var [.lit (.int .i64 cap1.now),.sl (ab eI cap1.times),.sl (ab eI cap1.values)])]:=by
 refine aj (ra:=[]) (md:=mdT) hT (hi:=hi00) Tryz.func172 rfl rfl (by decide +kernel) (by simp) ?_
 unfold bc at h
 obtain ⟨q03,l1,h⟩:=ae h
 simp(config:=cS)only[go_sem]
 refine an (m1:=.mk) (m2:=.mk) [.nf [0,1,7,8] [10000,10001,10002,10003,10004]] (da zb0 ((v0.length:Nat):Int) v0 g_s.nodes g_s.ties g_s.horizon cap1.now cap1.times cap1.values) l1 ?_ ?_
 ·simp(config:=cS)only[go_sem]
 ·intro nb2 sb2 bb2 b2 gb2
  obtain ⟨v8_1,h10003_1⟩:=sb2
  unfold aW at b2
  try dsimp only at b2
  obtain ⟨h3,b2⟩|⟨h3,b2⟩:=af b2
  ·obtain ⟨x01,g4,b2⟩:=ae b2
   obtain ⟨h5,h6,h7⟩:=ai g4
   obtain ⟨r02,g8,b2⟩:=ae b2
   simp(config:=cS)only[go_sem,eqT h3,h5,h6,h7]
   refine ag (ru g8) ?_
   obtain ⟨h9,b2⟩|⟨h9,b2⟩:=af b2
   ·cases b2
    obtain rfl:=(ak gb2).symm
    try dsimp only at h
    cases h
    simp(config:=cS)only[go_sem,eZt h9]
   ·cases b2
    simp(config:=cS)only[go_sem,eZf h9]
    refine ap gb2 ?_
    simp(config:=cS)only[go_sem]
  ·cases b2
   obtain rfl:=(ak gb2).symm
   try dsimp only at h
   cases h
   simp(config:=cS)only[go_sem,eqF h3]
def cX (i:Bool)(h:Nat)(a:List GNode)(b:List GTie)(c d:Int)(e f:List Int):(Int × Int × (List (List Int)) × (List (ByteArray × Bool)))→St
 | (j,k,l,g)=>⟨[(0,.ref 10000 0 0 h),(1,.fn 173 [.ptr 10001 0 0 0,.ptr 10004 0 0 0]),(5,.lit (.int .i64 j)),(6,.lit (.int .i64 k))],[(10000,0,.row i (ab (eLS eI) l)),(10001,0,.var [.ptr 10002 0 0 0]),(10002,0,.var [.sl (ab GNode.encS a),.sl (ab GTie.enc b),.lit (.int .i64 c),.mp 10003 0]),(10003,0,.map (eM g)),(10004,0,.var [.lit (.int .i64 d),.sl (ab eI e),.sl (ab eI f)])],2⟩
attribute [go_sem] cX
def df:Hint where
 acts:=fun i=>match i with | 0=>[.frIn 10000] | _=>[]
 draws:=fun
  | _=>⟨.nil,[],[]⟩
@[go_sem] theorem RA:df.acts 0=[.frIn 10000]:=rfl
@[go_sem] theorem RB:df.acts 1=[]:=rfl
@[go_sem] theorem RC:df.acts 2=[]:=rfl
@[go_sem] theorem RD:df.acts 3=[]:=rfl
@[go_sem] theorem RE:df.acts 4=[]:=rfl
@[go_sem] theorem RF:df.acts 5=[]:=rfl
@[go_sem] theorem RG:df.acts 7=[]:=rfl
@[go_sem] theorem RH:df.acts 8=[]:=rfl
@[go_sem] theorem RI:df.acts 9=[]:=rfl
@[go_sem] theorem QH:df.acts 10=[]:=rfl
@[go_sem] theorem RJ:df.acts 6=[]:=rfl
@[go_sem] theorem QI:df.acts 11=[]:=rfl
@[go_sem] theorem QJ:df.acts 12=[]:=rfl
theorem JK (i:Nat):df.views i=none:=rfl
attribute [go_sem] JK Tryz.ntmps87 Tryz.results87
theorem kP {v0:List (List Int)}{g_s:GShow}{g_known:List (ByteArray × Bool)}{cap1:GState}{zb0:Bool}{res:(List (List Int)) × (List (ByteArray × Bool))}(h:ba v0 g_s g_known cap1=some res):ao Tryz.prog 87 [.ref 10000 0 0 v0.length,.fn 173 [.ptr 10001 0 0 0,.ptr 10004 0 0 0]] [(10000,0,.row zb0 (ab (eLO eI) v0)),(10001,0,.var [.ptr 10002 0 0 0]),(10002,0,.var [.sl (ab GNode.encS g_s.nodes),.sl (ab GTie.enc g_s.ties),.lit (.int .i64 g_s.horizon),.mp 10003 0]),(10003,0,.map (eM g_known)),(10004,0,.var [.lit (.int .i64 cap1.now),.sl (ab eI cap1.times),.sl (ab eI cap1.values)])] (.ref 10000 0 0 res.1.length) [(10000,0,.row false (ab (eLS eI) res.1)),(10001,0,.var [.ptr 10002 0 0 0]),(10002,0,.var [.sl (ab GNode.encS g_s.nodes),.sl (ab GTie.enc g_s.ties),.lit (.int .i64 g_s.horizon),.mp 10003 0]),(10003,0,.map (eM res.2)),(10004,0,.var [.lit (.int .i64 cap1.now),.sl (ab eI cap1.times),.sl (ab eI cap1.values)])]:=by
 refine aj (ra:=[.home 4,.trim 4]) (md:=mdT) hT (hi:=df) Tryz.func87 rfl rfl (by decide +kernel) (by simp) ?_
 unfold ba at h
 obtain ⟨r01,g1,h⟩:=ae h
 simp(config:=cS)only[go_sem]
 refine ag (kV g1) ?_
 obtain ⟨h2,h⟩|⟨h2,h⟩:=af h
 ·obtain ⟨h3,h⟩:=ah h
  cases h
  simp(config:=cS)only[go_sem,eqT h2,eqT h3]
 ·obtain ⟨q05,l4,h⟩:=ae h
  simp(config:=cS)only[go_sem,eqF h2]
  refine an (m1:=.mk) (m2:=.mk) [.nf [0,1,5,6] [10000,10001,10002,10003,10004]] (cX zb0 v0.length g_s.nodes g_s.ties g_s.horizon cap1.now cap1.times cap1.values) l4 ?_ ?_
  ·simp(config:=cS)only[go_sem]
  ·intro nb5 sb5 bb5 b5 gb5
   obtain ⟨v5_1,v6_1,v0_1,h10003_1⟩:=sb5
   unfold aV at b5
   try dsimp only at b5
   obtain ⟨h6,b5⟩|⟨h6,b5⟩:=af b5
   ·obtain ⟨h7,b5⟩:=ah b5
    obtain ⟨x02,g8,b5⟩:=ae b5
    obtain ⟨h9,h10,h11⟩:=ai g8
    obtain ⟨r03,g12,b5⟩:=ae b5
    simp(config:=cS)only[go_sem,eqT h6,eqT h7,h9,h10,h11]
    refine ag (ru g12) ?_
    obtain ⟨h13,b5⟩|⟨h13,b5⟩:=af b5
    ·cases b5
     simp(config:=cS)only[go_sem,eZt h13]
     refine ap gb5 ?_
     simp(config:=cS)only[go_sem]
    ·obtain ⟨h14,b5⟩:=ah b5
     obtain ⟨x04,g15,b5⟩:=ae b5
     obtain ⟨h16,h17,h18⟩:=ai g15
     cases b5
     simp(config:=cS)only[go_sem,eZf h13,eqT h14,h16,h17,h18]
     refine ap gb5 ?_
     simp(config:=cS)only[go_sem]
   ·cases b5
    obtain rfl:=(ak gb5).symm
    try dsimp only at h
    obtain ⟨h20,h⟩:=ah h
    obtain ⟨h21,h⟩:=ah h
    obtain ⟨h22,h⟩:=ah h
    obtain ⟨h23,h⟩:=ah h
    obtain ⟨h24,h⟩:=ah h
    obtain ⟨h25,h⟩:=ah h
    cases h
    simp(config:=cS)only[go_sem,eqF h6,eqT h20,eqT h21,eqT h22,eqT h23,eqT h24,eqT h25]
@[go_sem] def hi88_1:DT:=.i2 0 (.i2 1 (.i2 2 (.i2 3 (.i2 4 (.i2 6 (.i2 5 (.i2 7 (.i2 8 .nil))))))))
def hi88:Hint where
 acts:=fun _=>[]
 draws:=fun
  | 1=>⟨hi88_1,[[],[0],[0,1],[0,1,2],[],.range 5,[],.range 7,.range 8],.range 9⟩
  | _=>⟨.nil,[],[]⟩
theorem Sn (i:Nat):hi88.acts i=[]:=rfl
theorem So (i:Nat):hi88.views i=none:=rfl
attribute [go_sem] Sn So Tryz.ntmps88 Tryz.results88
@[go_sem] theorem Ui:(hi88.draws 1).order=hi88_1:=rfl
theorem zG {g_s:GShow}{g_known:List (ByteArray × Bool)}{v1:GState}{res:(List (List Int)) × (List (ByteArray × Bool))}(h:jE g_s g_known v1=some res):ao Tryz.prog 88 [.ptr 10000 0 0 0,.agg (GState.encS v1)] [(10000,0,.var [.sl (ab GNode.encS g_s.nodes),.sl (ab GTie.enc g_s.ties),.lit (.int .i64 g_s.horizon),.mp 10001 0]),(10001,0,.map (eM g_known))] (.ref 20000 1 0 res.1.length) [(10000,0,.var [.sl (ab GNode.encS g_s.nodes),.sl (ab GTie.enc g_s.ties),.lit (.int .i64 g_s.horizon),.mp 10001 0]),(10001,0,.map (eM res.2)),(20000,1,.row false (ab (eLS eI) res.1))]:=by
 refine aj (ra:=[.home 4,.trim 4]) (md:=mdT) hT (hi:=hi88) Tryz.func88 rfl rfl (by decide +kernel) (by simp) ?_
 unfold jE at h
 obtain ⟨r01,g1,h⟩:=ae h
 simp(config:=cS)only[go_sem]
 refine ag (pq g1) ?_
 obtain ⟨r02,g2,h⟩:=ae h
 simp(config:=cS)only[go_sem]
 refine ag (kP g2) ?_
 cases h
 simp(config:=cS)only[go_sem]
attribute [go_sem] Tryz.ntmps86 Tryz.results86
theorem GN {list:List (List Int)}{lazy:Bool}{res:(List Int) × Bool}(h:nx list lazy=some res):ao Tryz.prog 86 [.sl (ab (eLS eI) list),.lit (.bool lazy)] [] (.tup [.sl (ab eI res.1),.lit (.bool res.2)]) []:=by
 refine aj (ra:=[.nilSl 4]) (md:=mdT) hT (hi:=hi00) Tryz.func86 rfl rfl (by decide +kernel) (by simp) ?_
 unfold nx at h
 obtain ⟨h1,h⟩|⟨h1,h⟩:=af h
 ·cases h
  simp(config:=cS)only[go_sem,eqT h1]
 ·obtain ⟨h2,h⟩|⟨h2,h⟩:=af h
  ·obtain ⟨x01,g3,h⟩:=ae h
   obtain ⟨h4,h5,h6⟩:=ai g3
   cases h
   simp(config:=cS)only[go_sem,eqF h1,eZt h2,h4,h5,h6]
  ·obtain ⟨x02,g7,h⟩:=ae h
   obtain ⟨h9,h10⟩:=dN (k:=0) g7
   cases h
   simp(config:=cS)only[go_sem,eqF h1,eZf h2,h9,h10]
attribute [go_sem] Tryz.ntmps91 Tryz.results91
def pR (a d:List Int)(e:Int):(Int × (List Int))→St
 | (c,b)=>⟨[(1,.sl (ab eI a)),(5,.ref 383 1 0 b.length),(8,.sl (ab eI d)),(9,.lit (.int .i64 e)),(10,.lit (.int .i64 c))],[(383,1,.row true (ab eI b))],2⟩
attribute [go_sem] pR
attribute [go_sem] Tryz.ntmps162 Tryz.results162
theorem uh {props values res:List Int}(h:iy props values=some res):ao Tryz.prog 162 [.sl (ab eI props),.sl (ab eI values)] [] (.ref 20000 1 0 res.length) [(20000,1,.row true (ab eI res))]:=by
 refine aj (ra:=[.home 4]) (md:=mdT) hT (hi:=hi00) Tryz.func162 rfl rfl (by decide +kernel) (by simp) ?_
 unfold iy at h
 obtain ⟨q03,l1,h⟩:=ae h
 simp(config:=cS)only[go_sem]
 refine an (m1:=.mk) (m2:=.mk) [.home 5,.nf [1,5,8,9,10] [383]] (pR values props ((props.length:Nat):Int)) l1 ?_ ?_
 ·simp(config:=cS)only[go_sem]
 ·intro nb2 sb2 bb2 b2 gb2
  obtain ⟨v10_1,out_1⟩:=sb2
  unfold ia at b2
  try dsimp only at b2
  obtain ⟨h3,b2⟩|⟨h3,b2⟩:=af b2
  ·obtain ⟨x01,g4,b2⟩:=ae b2
   obtain ⟨h5,h6,h7⟩:=ai g4
   obtain ⟨x02,g8,b2⟩:=ae b2
   obtain ⟨h9,h10,h11⟩:=ai g8
   obtain ⟨h12,b2⟩:=ah b2
   obtain ⟨h13,b2⟩:=ah b2
   cases b2
   simp(config:=cS)only[go_sem,eqT h3,h5,h6,h7,h9,h10,h11,eqT h12,eqT h13]
   refine ap gb2 ?_
   simp(config:=cS)only[go_sem]
  ·cases b2
   obtain rfl:=(ak gb2).symm
   try dsimp only at h
   cases h
   simp(config:=cS)only[go_sem,eqF h3]
def lQ (s h l:List Int)(t m n:Int)(o:Bool)(p:Int)(q r:List Int)(i:Int)(a:List GNode)(b:List GTie)(c d:List Int)(e:List GEntry)(f g j:List Int):(Int × (List Int))→St
 | (u,k)=>⟨[(1,.sl (ab eI s)),(2,.sl (ab eI h)),(10,.ptr 640 1 0 0),(13,.ptr 832 1 0 0),(15,.ptr 960 1 0 0),(17,.sl (ab eI l)),(19,.ptr 1216 1 0 0),(20,.ref 5506 1 0 j.length),(21,.ref 1407 1 0 k.length),(89,.ref 5506 1 0 j.length),(90,.lit (.int .i64 t)),(91,.lit (.int .i64 u))],[(640,1,.var [.lit (.slice none 0 0),.lit (.slice none 0 0),.lit (.int .i64 0),.lit (.int .i64 0),.lit (.slice none 0 0),.lit (.slice none 0 0),.lit (.bool false),.lit (.slice none 0 0)]),(832,1,.var [.ref 1600 1 0 a.length,.ref 1601 1 0 b.length,.lit (.int .i64 m),.lit (.int .i64 n),.ref 1602 1 0 c.length,.ref 1603 1 0 d.length,.lit (.bool o),.ref 1604 1 0 e.length]),(1600,1,.row true (ab GNode.encO a)),(1601,1,.row true (ab GTie.enc b)),(1602,1,.row true (ab eI c)),(1603,1,.row true (ab eI d)),(1604,1,.row true (ab GEntry.encO e)),(960,1,.var [.lit (.int .i64 p),.sl (ab eI q),.sl (ab eI r)]),(1216,1,.var [.lit (.int .i64 i),.ref 5504 1 0 f.length,.ref 5505 1 0 g.length]),(5504,1,.row true (ab eI f)),(5505,1,.row true (ab eI g)),(5506,1,.row true (ab eI j)),(1407,1,.row true (ab eI k))],2⟩
attribute [go_sem] lQ
@[go_sem] def hi71_s91_22:DT:=.i1 0 (.i2 1 (.i0 2 [0] (.i2 3 (.i2 4 (.i2 5 .nil)))))
@[go_sem] def hi71_s91_21:DT:=.i1 0 (.i1 1 (.i1 2 (.i1 3 (.i2 4 (.i2 6 (.i2 8 (.i2 9 (.i0 5 [0,1,2,3] (.i0 7 [0,1,2,3] (.i0 10 [0,1,2,3] (.i2 11 (.i0 12 [0,1] (.i2 13 (.i2 14 (.i2 15 .nil)))))))))))))))
@[go_sem] def hi71_s91_10:DT:=.i2 0 (.i2 1 (.i1 3 (.i0 2 [3] (.i2 4 (.i2 5 (.i2 6 (.i2 7 (.i2 8 (.i2 9 .nil)))))))))
@[go_sem] def hi71_s91_4:DT:=.i1 0 (.i1 1 (.i1 2 (.i1 3 (.fork (.i0 4 [0,1,2,3] (.i0 5 [0,1,2,3] (.i0 6 [2,3] (.i2 7 .nil)))) (.i0 5 [0,1,2,3] (.i0 4 [0,1,2,3] (.i0 6 [2,3] (.i2 7 .nil))))))))
def rI:Hint where
 acts:=fun _=>[]
 draws:=fun
  | 4=>⟨hi71_s91_4,[[],[0],[],[2],[],[],[0,1,4,5],.range 7],[0,1,5,6,2,3,4,7]⟩
  | 10=>⟨hi71_s91_10,[[],[],[1],[],[0,1,2,3],.range 5,.range 6,.range 6,.range 7,.range 9],[0,1,2,3,4,5,6,8,7,9]⟩
  | 21=>⟨hi71_s91_21,[[],[0],[],[2],[],[4],[],[4,5,6],[],[],[4,5,6,7,8,9],[2,3,4,5,6,7,8,9,10],[2,3,4,5,6,7,8,9,10,11],.range 13,.range 14,.range 15],.range 16⟩
  | 22=>⟨hi71_s91_22,[[],[],[1],[0,1,2],[0,1,2,3],.range 5],.range 6⟩
  | _=>⟨.nil,[],[]⟩
theorem Lb (i:Nat):rI.acts i=[]:=rfl
theorem Lc (i:Nat):rI.views i=none:=rfl
attribute [go_sem] Lb Lc Tryz.ntmps71 Tryz.results71
@[go_sem] theorem Sp:(rI.draws 4).order=hi71_s91_4:=rfl
@[go_sem] theorem RK:(rI.draws 10).order=hi71_s91_10:=rfl
@[go_sem] theorem RL:(rI.draws 21).order=hi71_s91_21:=rfl
@[go_sem] theorem RM:(rI.draws 22).order=hi71_s91_22:=rfl
attribute [go_sem] Tryz.ntmps29 Tryz.results29
def rv (a b:List Int)(i:Int):St:=⟨[(0,.sl (ab eI a)),(1,.sl (ab eI b)),(5,.lit (.int .i64 i))],[],2⟩
attribute [go_sem] rv
@[go_sem] def hi37_6:DT:=.i2 0 (.i2 1 (.i2 2 (.i2 3 (.i2 4 (.i2 5 (.i2 6 (.i2 7 (.i2 8 .nil))))))))
def hi37:Hint where
 acts:=fun _=>[]
 draws:=fun
  | 6=>⟨hi37_6,[[],[],[0,1],[0,1,2],[],[],[4,5],[4,5,6],.range 8],.range 9⟩
  | _=>⟨.nil,[],[]⟩
theorem Sq (i:Nat):hi37.acts i=[]:=rfl
theorem Sr (i:Nat):hi37.views i=none:=rfl
attribute [go_sem] Sq Sr Tryz.ntmps37 Tryz.results37
@[go_sem] theorem Uj:(hi37.draws 6).order=hi37_6:=rfl
theorem cM {a b:List Int}{res:Bool}(h:bb a b=some res):ao Tryz.prog 37 [.sl (ab eI a),.sl (ab eI b)] [] (.lit (.bool res)) []:=by
 refine aj (ra:=[]) (md:=mdT) hT (hi:=hi37) Tryz.func37 rfl rfl (by decide +kernel) (by simp) ?_
 unfold bb at h
 obtain ⟨h1,h⟩|⟨h1,h⟩:=af h
 ·obtain ⟨q03,l2,h⟩:=ae h
  simp(config:=cS)only[go_sem,eqT h1]
  refine an (m1:=.mk) (m2:=.mk) [.nf [0,1,5] []] (rv a b) l2 ?_ ?_
  ·simp(config:=cS)only[go_sem]
  ·intro nb3 i_1 bb3 b3 gb3
   unfold gI at b3
   try dsimp only at b3
   obtain ⟨h4,b3⟩|⟨h4,b3⟩:=af b3
   ·obtain ⟨x01,g5,b3⟩:=ae b3
    obtain ⟨h6,h7,h8⟩:=ai g5
    obtain ⟨x02,g9,b3⟩:=ae b3
    obtain ⟨h10,h11,h12⟩:=ai g9
    obtain ⟨h13,b3⟩|⟨h13,b3⟩:=af b3
    ·cases b3
     simp(config:=cS)only[go_sem,eqT h4,h6,h7,h8,h10,h11,h12,eqT h13]
     refine ap gb3 ?_
     simp(config:=cS)only[go_sem]
    ·cases b3
     obtain rfl:=(ak gb3).symm
     try dsimp only at h
     cases h
     simp(config:=cS)only[go_sem,eqT h4,h6,h7,h8,h10,h11,h12,eqF h13]
   ·cases b3
    obtain rfl:=(ak gb3).symm
    try dsimp only at h
    cases h
    simp(config:=cS)only[go_sem,eqF h4]
 ·cases h
  simp(config:=cS)only[go_sem,eqF h1]
attribute [go_sem] Tryz.ntmps182 Tryz.results182
theorem ET {a b:GNode}{res:Bool}(h:mI a b=some res):ao Tryz.prog 182 [.agg (GNode.encS a),.agg (GNode.encS b)] [] (.lit (.bool res)) []:=by
 refine aj (ra:=[]) (md:=mdT) hT (hi:=hi00) Tryz.func182 rfl rfl (by decide +kernel) (by simp) ?_
 unfold mI at h
 obtain ⟨h1,h⟩|⟨h1,h⟩:=af h
 ·obtain ⟨r01,g2,h⟩:=ae h
  simp(config:=cS)only[go_sem,eqT h1]
  refine ag (cM g2) ?_
  obtain ⟨h3,h⟩|⟨h3,h⟩:=af h
  ·obtain ⟨h4,h⟩|⟨h4,h⟩:=af h
   ·cases h
    simp(config:=cS)only[go_sem,eZt h3,eqT h4]
   ·cases h
    simp(config:=cS)only[go_sem,eZt h3,eqF h4]
  ·cases h
   simp(config:=cS)only[go_sem,eZf h3]
 ·cases h
  simp(config:=cS)only[go_sem,eqF h1]
def qQ (a b:List GNode)(i:Int):St:=⟨[(0,.sl (ab GNode.encS a)),(1,.sl (ab GNode.encS b)),(5,.lit (.int .i64 i))],[],2⟩
attribute [go_sem] qQ
@[go_sem] def hi102_6:DT:=.i2 0 (.i2 1 (.i2 2 (.i2 3 (.i2 4 (.i2 5 (.i2 6 (.i2 7 (.i2 8 (.i2 9 .nil)))))))))
def FX:Hint where
 acts:=fun _=>[]
 draws:=fun
  | 6=>⟨hi102_6,[[],[],[0,1],[0,1,2],[],[],[4,5],[4,5,6],.range 8,.range 9],.range 10⟩
  | _=>⟨.nil,[],[]⟩
theorem QK (i:Nat):FX.acts i=[]:=rfl
theorem QL (i:Nat):FX.views i=none:=rfl
attribute [go_sem] QK QL Tryz.ntmps102 Tryz.results102
@[go_sem] theorem Tv:(FX.draws 6).order=hi102_6:=rfl
theorem Dg {a b:List GNode}{res:Bool}(h:lE a b=some res):ao Tryz.prog 102 [.sl (ab GNode.encS a),.sl (ab GNode.encS b)] [] (.lit (.bool res)) []:=by
 refine aj (ra:=[]) (md:=mdT) hT (hi:=FX) Tryz.func102 rfl rfl (by decide +kernel) (by simp) ?_
 unfold lE at h
 obtain ⟨h1,h⟩|⟨h1,h⟩:=af h
 ·obtain ⟨q04,l2,h⟩:=ae h
  simp(config:=cS)only[go_sem,eqT h1]
  refine an (m1:=.mk) (m2:=.mk) [.nf [0,1,5] []] (qQ a b) l2 ?_ ?_
  ·simp(config:=cS)only[go_sem]
  ·intro nb3 i_1 bb3 b3 gb3
   unfold iU at b3
   try dsimp only at b3
   obtain ⟨h4,b3⟩|⟨h4,b3⟩:=af b3
   ·obtain ⟨x01,g5,b3⟩:=ae b3
    obtain ⟨h6,h7,h8⟩:=ai g5
    obtain ⟨x02,g9,b3⟩:=ae b3
    obtain ⟨h10,h11,h12⟩:=ai g9
    obtain ⟨r03,g13,b3⟩:=ae b3
    simp(config:=cS)only[go_sem,eqT h4,h6,h7,h8,h10,h11,h12]
    refine ag (ET g13) ?_
    obtain ⟨h14,b3⟩|⟨h14,b3⟩:=af b3
    ·cases b3
     simp(config:=cS)only[go_sem,eZt h14]
     refine ap gb3 ?_
     simp(config:=cS)only[go_sem]
    ·cases b3
     obtain rfl:=(ak gb3).symm
     try dsimp only at h
     cases h
     simp(config:=cS)only[go_sem,eZf h14]
   ·cases b3
    obtain rfl:=(ak gb3).symm
    try dsimp only at h
    cases h
    simp(config:=cS)only[go_sem,eqF h4]
 ·cases h
  simp(config:=cS)only[go_sem,eqF h1]
attribute [go_sem] Tryz.ntmps183 Tryz.results183
theorem GO {a b:GTie}{res:Bool}(h:qT a b=some res):ao Tryz.prog 183 [.agg (GTie.enc a),.agg (GTie.enc b)] [] (.lit (.bool res)) []:=by
 refine aj (ra:=[]) (md:=mdT) hT (hi:=hi00) Tryz.func183 rfl rfl (by decide +kernel) (by simp) ?_
 unfold qT at h
 obtain ⟨h1,h⟩|⟨h1,h⟩:=af h
 ·obtain ⟨h2,h⟩|⟨h2,h⟩:=af h
  ·obtain ⟨h3,h⟩|⟨h3,h⟩:=af h
   ·obtain ⟨h4,h⟩|⟨h4,h⟩:=af h
    ·obtain ⟨h5,h⟩|⟨h5,h⟩:=af h
     ·cases h
      simp(config:=cS)only[go_sem,eqT h1,eqT h2,eqT h3,eqT h4,eqT h5]
     ·cases h
      simp(config:=cS)only[go_sem,eqT h1,eqT h2,eqT h3,eqT h4,eqF h5]
    ·cases h
     simp(config:=cS)only[go_sem,eqT h1,eqT h2,eqT h3,eqF h4]
   ·cases h
    simp(config:=cS)only[go_sem,eqT h1,eqT h2,eqF h3]
  ·cases h
   simp(config:=cS)only[go_sem,eqT h1,eqF h2]
 ·cases h
  simp(config:=cS)only[go_sem,eqF h1]
def rx (a b:List GTie)(i:Int):St:=⟨[(0,.sl (ab GTie.enc a)),(1,.sl (ab GTie.enc b)),(5,.lit (.int .i64 i))],[],2⟩
attribute [go_sem] rx
@[go_sem] def hi103_6:DT:=.i2 0 (.i2 1 (.i2 2 (.i2 3 (.i2 4 (.i2 5 (.i2 6 (.i2 7 (.i2 8 (.i2 9 .nil)))))))))
def FY:Hint where
 acts:=fun _=>[]
 draws:=fun
  | 6=>⟨hi103_6,[[],[],[0,1],[0,1,2],[],[],[4,5],[4,5,6],.range 8,.range 9],.range 10⟩
  | _=>⟨.nil,[],[]⟩
theorem QM (i:Nat):FY.acts i=[]:=rfl
theorem QN (i:Nat):FY.views i=none:=rfl
attribute [go_sem] QM QN Tryz.ntmps103 Tryz.results103
@[go_sem] theorem Tw:(FY.draws 6).order=hi103_6:=rfl
theorem EU {a b:List GTie}{res:Bool}(h:mJ a b=some res):ao Tryz.prog 103 [.sl (ab GTie.enc a),.sl (ab GTie.enc b)] [] (.lit (.bool res)) []:=by
 refine aj (ra:=[]) (md:=mdT) hT (hi:=FY) Tryz.func103 rfl rfl (by decide +kernel) (by simp) ?_
 unfold mJ at h
 obtain ⟨h1,h⟩|⟨h1,h⟩:=af h
 ·obtain ⟨q04,l2,h⟩:=ae h
  simp(config:=cS)only[go_sem,eqT h1]
  refine an (m1:=.mk) (m2:=.mk) [.nf [0,1,5] []] (rx a b) l2 ?_ ?_
  ·simp(config:=cS)only[go_sem]
  ·intro nb3 i_1 bb3 b3 gb3
   unfold jO at b3
   try dsimp only at b3
   obtain ⟨h4,b3⟩|⟨h4,b3⟩:=af b3
   ·obtain ⟨x01,g5,b3⟩:=ae b3
    obtain ⟨h6,h7,h8⟩:=ai g5
    obtain ⟨x02,g9,b3⟩:=ae b3
    obtain ⟨h10,h11,h12⟩:=ai g9
    obtain ⟨r03,g13,b3⟩:=ae b3
    simp(config:=cS)only[go_sem,eqT h4,h6,h7,h8,h10,h11,h12]
    refine ag (GO g13) ?_
    obtain ⟨h14,b3⟩|⟨h14,b3⟩:=af b3
    ·cases b3
     simp(config:=cS)only[go_sem,eZt h14]
     refine ap gb3 ?_
     simp(config:=cS)only[go_sem]
    ·cases b3
     obtain rfl:=(ak gb3).symm
     try dsimp only at h
     cases h
     simp(config:=cS)only[go_sem,eZf h14]
   ·cases b3
    obtain rfl:=(ak gb3).symm
    try dsimp only at h
    cases h
    simp(config:=cS)only[go_sem,eqF h4]
 ·cases h
  simp(config:=cS)only[go_sem,eqF h1]
attribute [go_sem] Tryz.ntmps38 Tryz.results38
theorem EV {a b:GShow}{res:Bool}(h:mK a b=some res):ao Tryz.prog 38 [.agg (GShow.encS a),.agg (GShow.encS b)] [] (.lit (.bool res)) []:=by
 refine aj (ra:=[]) (md:=mdT) hT (hi:=hi00) Tryz.func38 rfl rfl (by decide +kernel) (by simp) ?_
 unfold mK at h
 obtain ⟨r01,g1,h⟩:=ae h
 simp(config:=cS)only[go_sem]
 refine ag (Dg g1) ?_
 obtain ⟨h2,h⟩|⟨h2,h⟩:=af h
 ·obtain ⟨r02,g3,h⟩:=ae h
  simp(config:=cS)only[go_sem,eZt h2]
  refine ag (EU g3) ?_
  obtain ⟨h4,h⟩|⟨h4,h⟩:=af h
  ·obtain ⟨h5,h⟩|⟨h5,h⟩:=af h
   ·cases h
    simp(config:=cS)only[go_sem,eZt h4,eqT h5]
   ·cases h
    simp(config:=cS)only[go_sem,eZt h4,eqF h5]
  ·cases h
   simp(config:=cS)only[go_sem,eZf h4]
 ·cases h
  simp(config:=cS)only[go_sem,eZf h2]
attribute [go_sem] Tryz.ntmps114 Tryz.results114
theorem Dh {a b:GState}{res:Bool}(h:lJ a b=some res):ao Tryz.prog 114 [.agg (GState.encS a),.agg (GState.encS b)] [] (.lit (.bool res)) []:=by
 refine aj (ra:=[]) (md:=mdT) hT (hi:=hi00) Tryz.func114 rfl rfl (by decide +kernel) (by simp) ?_
 unfold lJ at h
 obtain ⟨h1,h⟩|⟨h1,h⟩:=af h
 ·obtain ⟨r01,g2,h⟩:=ae h
  simp(config:=cS)only[go_sem,eqT h1]
  refine ag (cM g2) ?_
  obtain ⟨h3,h⟩|⟨h3,h⟩:=af h
  ·obtain ⟨r02,g4,h⟩:=ae h
   simp(config:=cS)only[go_sem,eZt h3]
   refine ag (cM g4) ?_
   obtain ⟨h5,h⟩|⟨h5,h⟩:=af h
   ·cases h
    simp(config:=cS)only[go_sem,eZt h5]
   ·cases h
    simp(config:=cS)only[go_sem,eZf h5]
  ·cases h
   simp(config:=cS)only[go_sem,eZf h3]
 ·cases h
  simp(config:=cS)only[go_sem,eqF h1]
attribute [go_sem] Tryz.ntmps195 Tryz.results195
theorem Di {a b:GEntry}{res:Bool}(h:lK a b=some res):ao Tryz.prog 195 [.agg (GEntry.encS a),.agg (GEntry.encS b)] [] (.lit (.bool res)) []:=by
 refine aj (ra:=[]) (md:=mdT) hT (hi:=hi00) Tryz.func195 rfl rfl (by decide +kernel) (by simp) ?_
 unfold lK at h
 obtain ⟨h1,h⟩|⟨h1,h⟩:=af h
 ·obtain ⟨r01,g2,h⟩:=ae h
  simp(config:=cS)only[go_sem,eqT h1]
  refine ag (cM g2) ?_
  obtain ⟨h3,h⟩|⟨h3,h⟩:=af h
  ·obtain ⟨r02,g4,h⟩:=ae h
   simp(config:=cS)only[go_sem,eZt h3]
   refine ag (cM g4) ?_
   obtain ⟨h5,h⟩|⟨h5,h⟩:=af h
   ·obtain ⟨r03,g6,h⟩:=ae h
    simp(config:=cS)only[go_sem,eZt h5]
    refine ag (cM g6) ?_
    obtain ⟨h7,h⟩|⟨h7,h⟩:=af h
    ·cases h
     simp(config:=cS)only[go_sem,eZt h7]
    ·cases h
     simp(config:=cS)only[go_sem,eZf h7]
   ·cases h
    simp(config:=cS)only[go_sem,eZf h5]
  ·cases h
   simp(config:=cS)only[go_sem,eZf h3]
 ·cases h
  simp(config:=cS)only[go_sem,eqF h1]
def pS (a b:List GEntry)(i:Int):St:=⟨[(0,.sl (ab GEntry.encS a)),(1,.sl (ab GEntry.encS b)),(5,.lit (.int .i64 i))],[],2⟩
attribute [go_sem] pS
@[go_sem] def hi115_6:DT:=.i2 0 (.i2 1 (.i2 2 (.i2 3 (.i2 4 (.i2 5 (.i2 6 (.i2 7 (.i2 8 (.i2 9 .nil)))))))))
def FZ:Hint where
 acts:=fun _=>[]
 draws:=fun
  | 6=>⟨hi115_6,[[],[],[0,1],[0,1,2],[],[],[4,5],[4,5,6],.range 8,.range 9],.range 10⟩
  | _=>⟨.nil,[],[]⟩
theorem QO (i:Nat):FZ.acts i=[]:=rfl
theorem QP (i:Nat):FZ.views i=none:=rfl
attribute [go_sem] QO QP Tryz.ntmps115 Tryz.results115
@[go_sem] theorem Tx:(FZ.draws 6).order=hi115_6:=rfl
theorem BE {a b:List GEntry}{res:Bool}(h:kB a b=some res):ao Tryz.prog 115 [.sl (ab GEntry.encS a),.sl (ab GEntry.encS b)] [] (.lit (.bool res)) []:=by
 refine aj (ra:=[]) (md:=mdT) hT (hi:=FZ) Tryz.func115 rfl rfl (by decide +kernel) (by simp) ?_
 unfold kB at h
 obtain ⟨h1,h⟩|⟨h1,h⟩:=af h
 ·obtain ⟨q04,l2,h⟩:=ae h
  simp(config:=cS)only[go_sem,eqT h1]
  refine an (m1:=.mk) (m2:=.mk) [.nf [0,1,5] []] (pS a b) l2 ?_ ?_
  ·simp(config:=cS)only[go_sem]
  ·intro nb3 i_1 bb3 b3 gb3
   unfold im at b3
   try dsimp only at b3
   obtain ⟨h4,b3⟩|⟨h4,b3⟩:=af b3
   ·obtain ⟨x01,g5,b3⟩:=ae b3
    obtain ⟨h6,h7,h8⟩:=ai g5
    obtain ⟨x02,g9,b3⟩:=ae b3
    obtain ⟨h10,h11,h12⟩:=ai g9
    obtain ⟨r03,g13,b3⟩:=ae b3
    simp(config:=cS)only[go_sem,eqT h4,h6,h7,h8,h10,h11,h12]
    refine ag (Di g13) ?_
    obtain ⟨h14,b3⟩|⟨h14,b3⟩:=af b3
    ·cases b3
     simp(config:=cS)only[go_sem,eZt h14]
     refine ap gb3 ?_
     simp(config:=cS)only[go_sem]
    ·cases b3
     obtain rfl:=(ak gb3).symm
     try dsimp only at h
     cases h
     simp(config:=cS)only[go_sem,eZf h14]
   ·cases b3
    obtain rfl:=(ak gb3).symm
    try dsimp only at h
    cases h
    simp(config:=cS)only[go_sem,eqF h4]
 ·cases h
  simp(config:=cS)only[go_sem,eqF h1]
attribute [go_sem] Tryz.ntmps48 Tryz.results48
theorem pf {a b:GDesk}{res:Bool}(h:cu a b=some res):ao Tryz.prog 48 [.agg (GDesk.encS a),.agg (GDesk.encS b)] [] (.lit (.bool res)) []:=by
 refine aj (ra:=[]) (md:=mdT) hT (hi:=hi00) Tryz.func48 rfl rfl (by decide +kernel) (by simp) ?_
 unfold cu at h
 obtain ⟨r01,g1,h⟩:=ae h
 simp(config:=cS)only[go_sem]
 refine ag (EV g1) ?_
 obtain ⟨h2,h⟩|⟨h2,h⟩:=af h
 ·obtain ⟨r02,g3,h⟩:=ae h
  simp(config:=cS)only[go_sem,eZt h2]
  refine ag (Dh g3) ?_
  obtain ⟨h4,h⟩|⟨h4,h⟩:=af h
  ·obtain ⟨h5,h⟩|⟨h5,h⟩:=af h
   ·obtain ⟨r03,g6,h⟩:=ae h
    simp(config:=cS)only[go_sem,eZt h4,eqT h5]
    refine ag (BE g6) ?_
    obtain ⟨h7,h⟩|⟨h7,h⟩:=af h
    ·cases h
     simp(config:=cS)only[go_sem,eZt h7]
    ·cases h
     simp(config:=cS)only[go_sem,eZf h7]
   ·cases h
    simp(config:=cS)only[go_sem,eZt h4,eqF h5]
  ·cases h
   simp(config:=cS)only[go_sem,eZf h4]
 ·cases h
  simp(config:=cS)only[go_sem,eZf h2]
def pT  : (Int × ByteArray)→St
 | (k,a)=>⟨[(0,.lit (.int .i64 k)),(3,.lit (.string a))],[],2⟩
attribute [go_sem] pT
attribute [go_sem] Tryz.ntmps184 Tryz.results184
theorem ui {k:Int}{res:ByteArray}(h:dW k=some res):ao Tryz.prog 184 [.lit (.int .i64 k)] [] (.lit (.string res)) []:=by
 refine aj (ra:=[]) (md:=mdT) hT (hi:=hi00) Tryz.func184 rfl rfl (by decide +kernel) (by simp) ?_
 unfold dW at h
 obtain ⟨h1,h⟩|⟨h1,h⟩:=af h
 ·cases h
  simp(config:=cS)only[go_sem,eqT h1]
 ·obtain ⟨q01,l2,h⟩:=ae h
  simp(config:=cS)only[go_sem,eqF h1]
  refine an (m1:=.mk) (m2:=.mk) [.nf [0,3] []] (pT) l2 ?_ ?_
  ·simp(config:=cS)only[go_sem]
  ·intro nb3 sb3 bb3 b3 gb3
   obtain ⟨k_1,out_1⟩:=sb3
   unfold ff at b3
   try dsimp only at b3
   obtain ⟨h4,b3⟩|⟨h4,b3⟩:=af b3
   ·obtain ⟨h5,b3⟩:=ah b3
    cases b3
    simp(config:=cS)only[go_sem,eqT h4,eqT h5]
    refine ap gb3 ?_
    simp(config:=cS)only[go_sem]
   ·cases b3
    obtain rfl:=(ak gb3).symm
    try dsimp only at h
    obtain ⟨h7,h⟩:=ah h
    cases h
    simp(config:=cS)only[go_sem,eqF h4,eqT h7]
def pU (b:Bool)  : (Int × Int × (List Int))→St
 | (k,i,a)=>⟨[(0,.ref 10000 0 0 a.length),(1,.lit (.int .i64 k)),(5,.lit (.int .i64 i))],[(10000,0,.row b (ab eI a))],2⟩
attribute [go_sem] pU
attribute [go_sem] Tryz.ntmps42 Tryz.results42
theorem cY {a:List Int}{k:Int}{zb0:Bool}{res:Int × (List Int)}(h:bd a k=some res):ao Tryz.prog 42 [.ref 10000 0 0 a.length,.lit (.int .i64 k)] [(10000,0,.row zb0 (ab eI a))] (.lit (.int .i64 res.1)) [(10000,0,.row zb0 (ab eI res.2))]:=by
 refine aj (ra:=[]) (md:=mdT) hT (hi:=hi00) Tryz.func42 rfl rfl (by decide +kernel) (by simp) ?_
 unfold bd at h
 obtain ⟨q02,l1,h⟩:=ae h
 simp(config:=cS)only[go_sem]
 refine an (m1:=.mk) (m2:=.mk) [.nf [0,1,5] [10000]] (pU zb0) l1 ?_ ?_
 ·simp(config:=cS)only[go_sem]
 ·intro nb2 sb2 bb2 b2 gb2
  obtain ⟨k_1,i_1,a_1⟩:=sb2
  unfold ii at b2
  try dsimp only at b2
  obtain ⟨h3,b2⟩|⟨h3,b2⟩:=af b2
  ·obtain ⟨x01,g4,b2⟩:=ae b2
   obtain ⟨h5,h6,h7⟩:=ai g4
   cases b2
   simp(config:=cS)only[go_sem,eqT h3,h5,h6,h7]
   refine ap gb2 ?_
   simp(config:=cS)only[go_sem]
  ·cases b2
   obtain rfl:=(ak gb2).symm
   try dsimp only at h
   cases h
   simp(config:=cS)only[go_sem,eqF h3]
def oO (b:Bool)  : (Int × Int × (List GNode))→St
 | (k,i,a)=>⟨[(0,.ref 10000 0 0 a.length),(1,.lit (.int .i64 k)),(5,.lit (.int .i64 i))],[(10000,0,.row b (ab GNode.encO a))],2⟩
attribute [go_sem] oO
def pg:Hint where
 acts:=fun _=>[]
 views:=fun
  | 6=>some (4,1)
  | _=>none
 draws:=fun
  | _=>⟨.nil,[],[]⟩
theorem QQ (i:Nat):pg.acts i=[]:=rfl
@[go_sem] theorem Tz:pg.views 0=none:=rfl
@[go_sem] theorem TA:pg.views 1=none:=rfl
@[go_sem] theorem TB:pg.views 2=none:=rfl
@[go_sem] theorem TC:pg.views 4=none:=rfl
@[go_sem] theorem TD:pg.views 5=none:=rfl
@[go_sem] theorem TE:pg.views 6=some (4,1):=rfl
@[go_sem] theorem TF:pg.views 7=none:=rfl
@[go_sem] theorem TG:pg.views 8=none:=rfl
@[go_sem] theorem TH:pg.views 3=none:=rfl
@[go_sem] theorem TJ:pg.views 9=none:=rfl
attribute [go_sem] QQ Tryz.ntmps104 Tryz.results104
theorem zH {a:List GNode}{k:Int}{zb0:Bool}{res:Int × (List GNode)}(h:ez a k=some res):ao Tryz.prog 104 [.ref 10000 0 0 a.length,.lit (.int .i64 k)] [(10000,0,.row zb0 (ab GNode.encO a))] (.lit (.int .i64 res.1)) [(10000,0,.row zb0 (ab GNode.encO res.2))]:=by
 refine aj (ra:=[]) (md:=mdT) hT (hi:=pg) Tryz.func104 rfl rfl (by decide +kernel) (by simp) ?_
 unfold ez at h
 obtain ⟨q06,l1,h⟩:=ae h
 simp(config:=cS)only[go_sem]
 refine an (m1:=.mk) (m2:=.mk) [.nf [0,1,5] [10000]] (oO zb0) l1 ?_ ?_
 ·simp(config:=cS)only[go_sem]
 ·intro nb2 sb2 bb2 b2 gb2
  obtain ⟨k_1,i_1,a_1⟩:=sb2
  unfold cm at b2
  try dsimp only at b2
  obtain ⟨h3,b2⟩|⟨h3,b2⟩:=af b2
  ·obtain ⟨r01,g4,b2⟩:=ae b2
   simp(config:=cS)only[go_sem,eqT h3]
   refine ag (ui g4) ?_
   obtain ⟨x02,g5,b2⟩:=ae b2
   obtain ⟨h6,h7,h8⟩:=ai g5
   obtain ⟨x03,g9,b2⟩:=ae b2
   obtain ⟨h10,h11,h12⟩:=ai g9
   obtain ⟨r04,g13,b2⟩:=ae b2
   obtain ⟨h14,b2⟩:=ah b2
   simp(config:=cS)only[go_sem,eqT h3,h6,h7,h8,h10,h11,h12]
   refine vw h14 (by simp only [go_sem]) (cY g13) ?_
   obtain ⟨x05,g15,b2⟩:=ae b2
   obtain ⟨h16,h17,h18⟩:=ai g15
   cases b2
   simp(config:=cS)only[go_sem,eqT h3,h6,h7,h8,h10,h11,h12,h16,h17,h18]
   refine ap gb2 ?_
   simp(config:=cS)only[go_sem,eqT h3,h6,h7,h8,h10,h11,h12,h16,h17,h18]
  ·cases b2
   obtain rfl:=(ak gb2).symm
   try dsimp only at h
   cases h
   simp(config:=cS)only[go_sem,eqF h3]
def pV (b:Bool)  : (Int × Int × (List GTie))→St
 | (k,i,a)=>⟨[(0,.ref 10000 0 0 a.length),(1,.lit (.int .i64 k)),(5,.lit (.int .i64 i))],[(10000,0,.row b (ab GTie.enc a))],2⟩
attribute [go_sem] pV
attribute [go_sem] Tryz.ntmps105 Tryz.results105
theorem BF {a:List GTie}{k:Int}{zb0:Bool}{res:Int × (List GTie)}(h:fz a k=some res):ao Tryz.prog 105 [.ref 10000 0 0 a.length,.lit (.int .i64 k)] [(10000,0,.row zb0 (ab GTie.enc a))] (.lit (.int .i64 res.1)) [(10000,0,.row zb0 (ab GTie.enc res.2))]:=by
 refine aj (ra:=[]) (md:=mdT) hT (hi:=hi00) Tryz.func105 rfl rfl (by decide +kernel) (by simp) ?_
 unfold fz at h
 obtain ⟨q06,l1,h⟩:=ae h
 simp(config:=cS)only[go_sem]
 refine an (m1:=.mk) (m2:=.mk) [.nf [0,1,5] [10000]] (pV zb0) l1 ?_ ?_
 ·simp(config:=cS)only[go_sem]
 ·intro nb2 sb2 bb2 b2 gb2
  obtain ⟨k_1,i_1,a_1⟩:=sb2
  unfold cH at b2
  try dsimp only at b2
  obtain ⟨h3,b2⟩|⟨h3,b2⟩:=af b2
  ·obtain ⟨x01,g4,b2⟩:=ae b2
   obtain ⟨h5,h6,h7⟩:=ai g4
   obtain ⟨x02,g8,b2⟩:=ae b2
   obtain ⟨h9,h10,h11⟩:=ai g8
   obtain ⟨x03,g12,b2⟩:=ae b2
   obtain ⟨h13,h14,h15⟩:=ai g12
   obtain ⟨x04,g16,b2⟩:=ae b2
   obtain ⟨h17,h18,h19⟩:=ai g16
   obtain ⟨x05,g20,b2⟩:=ae b2
   obtain ⟨h21,h22,h23⟩:=ai g20
   cases b2
   simp(config:=cS)only[go_sem,eqT h3,h5,h6,h7,h9,h10,h11,h13,h14,h15,h17,h18,h19,h21,h22,h23]
   refine ap gb2 ?_
   simp(config:=cS)only[go_sem]
  ·cases b2
   obtain rfl:=(ak gb2).symm
   try dsimp only at h
   cases h
   simp(config:=cS)only[go_sem,eqF h3]
attribute [go_sem] Tryz.ntmps40 Tryz.results40
theorem BG {a:GShow}{k:Int}{zb0 zb1:Bool}{res:Int × (List GNode) × (List GTie)}(h:fA a k=some res):ao Tryz.prog 40 [.agg [.ref 10000 0 0 a.nodes.length,.ref 10001 0 0 a.ties.length,.lit (.int .i64 a.horizon)],.lit (.int .i64 k)] [(10000,0,.row zb0 (ab GNode.encO a.nodes)),(10001,0,.row zb1 (ab GTie.enc a.ties))] (.lit (.int .i64 res.1)) [(10000,0,.row zb0 (ab GNode.encO res.2.1)),(10001,0,.row zb1 (ab GTie.enc res.2.2))]:=by
 refine aj (ra:=[]) (md:=mdT) hT (hi:=hi00) Tryz.func40 rfl rfl (by decide +kernel) (by simp) ?_
 unfold fA at h
 obtain ⟨r01,g1,h⟩:=ae h
 simp(config:=cS)only[go_sem]
 refine ag (zH g1) ?_
 obtain ⟨r02,g2,h⟩:=ae h
 simp(config:=cS)only[go_sem]
 refine ag (BF g2) ?_
 cases h
 simp(config:=cS)only[go_sem]
attribute [go_sem] Tryz.ntmps116 Tryz.results116
theorem zI {a:GState}{k:Int}{zb0 zb1:Bool}{res:Int × (List Int) × (List Int)}(h:mi a k=some res):ao Tryz.prog 116 [.agg [.lit (.int .i64 a.now),.ref 10000 0 0 a.times.length,.ref 10001 0 0 a.values.length],.lit (.int .i64 k)] [(10000,0,.row zb0 (ab eI a.times)),(10001,0,.row zb1 (ab eI a.values))] (.lit (.int .i64 res.1)) [(10000,0,.row zb0 (ab eI res.2.1)),(10001,0,.row zb1 (ab eI res.2.2))]:=by
 refine aj (ra:=[]) (md:=mdT) hT (hi:=hi00) Tryz.func116 rfl rfl (by decide +kernel) (by simp) ?_
 unfold mi at h
 obtain ⟨r01,g1,h⟩:=ae h
 simp(config:=cS)only[go_sem]
 refine ag (cY g1) ?_
 obtain ⟨r02,g2,h⟩:=ae h
 simp(config:=cS)only[go_sem]
 refine ag (cY g2) ?_
 cases h
 simp(config:=cS)only[go_sem]
def oe (b:Bool)  : (Int × Int × (List GEntry))→St
 | (k,i,a)=>⟨[(0,.ref 10000 0 0 a.length),(1,.lit (.int .i64 k)),(5,.lit (.int .i64 i))],[(10000,0,.row b (ab GEntry.encO a))],2⟩
attribute [go_sem] oe
def ph:Hint where
 acts:=fun _=>[]
 views:=fun
  | 6=>some (4,1)
  | 7=>some (4,1)
  | 8=>some (4,1)
  | _=>none
 draws:=fun
  | _=>⟨.nil,[],[]⟩
theorem QR (i:Nat):ph.acts i=[]:=rfl
@[go_sem] theorem TL:ph.views 0=none:=rfl
@[go_sem] theorem TM:ph.views 1=none:=rfl
@[go_sem] theorem TN:ph.views 2=none:=rfl
@[go_sem] theorem TO:ph.views 4=none:=rfl
@[go_sem] theorem TP:ph.views 5=none:=rfl
@[go_sem] theorem TQ:ph.views 6=some (4,1):=rfl
@[go_sem] theorem TR:ph.views 7=some (4,1):=rfl
@[go_sem] theorem TS:ph.views 8=some (4,1):=rfl
@[go_sem] theorem TT:ph.views 3=none:=rfl
@[go_sem] theorem TU:ph.views 9=none:=rfl
attribute [go_sem] QR Tryz.ntmps117 Tryz.results117
theorem yp {a:List GEntry}{k:Int}{zb0:Bool}{res:Int × (List GEntry)}(h:iV a k=some res):ao Tryz.prog 117 [.ref 10000 0 0 a.length,.lit (.int .i64 k)] [(10000,0,.row zb0 (ab GEntry.encO a))] (.lit (.int .i64 res.1)) [(10000,0,.row zb0 (ab GEntry.encO res.2))]:=by
 refine aj (ra:=[]) (md:=mdT) hT (hi:=ph) Tryz.func117 rfl rfl (by decide +kernel) (by simp) ?_
 unfold iV at h
 obtain ⟨q08,l1,h⟩:=ae h
 simp(config:=cS)only[go_sem]
 refine an (m1:=.mk) (m2:=.mk) [.nf [0,1,5] [10000]] (oe zb0) l1 ?_ ?_
 ·simp(config:=cS)only[go_sem]
 ·intro nb2 sb2 bb2 b2 gb2
  obtain ⟨k_1,i_1,a_1⟩:=sb2
  unfold dI at b2
  try dsimp only at b2
  obtain ⟨h3,b2⟩|⟨h3,b2⟩:=af b2
  ·obtain ⟨x01,g4,b2⟩:=ae b2
   obtain ⟨h5,h6,h7⟩:=ai g4
   obtain ⟨x02,g8,b2⟩:=ae b2
   obtain ⟨h9,h10,h11⟩:=ai g8
   obtain ⟨r03,g12,b2⟩:=ae b2
   obtain ⟨h13,b2⟩:=ah b2
   simp(config:=cS)only[go_sem,eqT h3,h5,h6,h7,h9,h10,h11]
   refine vw h13 (by simp only [go_sem]) (cY g12) ?_
   obtain ⟨x04,g14,b2⟩:=ae b2
   obtain ⟨h15,h16,h17⟩:=ai g14
   obtain ⟨r05,g18,b2⟩:=ae b2
   obtain ⟨h19,b2⟩:=ah b2
   simp(config:=cS)only[go_sem,eqT h3,h5,h6,h7,h9,h10,h11,h15,h16,h17]
   refine vw h19 (by simp only [go_sem]) (cY g18) ?_
   obtain ⟨x06,g20,b2⟩:=ae b2
   obtain ⟨h21,h22,h23⟩:=ai g20
   obtain ⟨r07,g24,b2⟩:=ae b2
   obtain ⟨h25,b2⟩:=ah b2
   simp(config:=cS)only[go_sem,eqT h3,h5,h6,h7,h9,h10,h11,h15,h16,h17,h21,h22,h23]
   refine vw h25 (by simp only [go_sem]) (cY g24) ?_
   cases b2
   simp(config:=cS)only[go_sem,eqT h3,h5,h6,h7,h9,h10,h11,h15,h16,h17,h21,h22,h23]
   refine ap gb2 ?_
   simp(config:=cS)only[go_sem,eqT h3,h5,h6,h7,h9,h10,h11,h15,h16,h17,h21,h22,h23]
  ·cases b2
   obtain rfl:=(ak gb2).symm
   try dsimp only at h
   cases h
   simp(config:=cS)only[go_sem,eqF h3]
attribute [go_sem] Tryz.ntmps49 Tryz.results49
theorem uj {a:GDesk}{k:Int}{zb0 zb1 zb2 zb3 zb4:Bool}{res:Int × (List GNode) × (List GTie) × (List Int) × (List Int) × (List GEntry)}(h:dX a k=some res):ao Tryz.prog 49 [.agg [.ref 10000 0 0 a.show_.nodes.length,.ref 10001 0 0 a.show_.ties.length,.lit (.int .i64 a.show_.horizon),.lit (.int .i64 a.state.now),.ref 10002 0 0 a.state.times.length,.ref 10003 0 0 a.state.values.length,.lit (.bool a.lazy),.ref 10004 0 0 a.log.length],.lit (.int .i64 k)] [(10000,0,.row zb0 (ab GNode.encO a.show_.nodes)),(10001,0,.row zb1 (ab GTie.enc a.show_.ties)),(10002,0,.row zb2 (ab eI a.state.times)),(10003,0,.row zb3 (ab eI a.state.values)),(10004,0,.row zb4 (ab GEntry.encO a.log))] (.lit (.int .i64 res.1)) [(10000,0,.row zb0 (ab GNode.encO res.2.1)),(10001,0,.row zb1 (ab GTie.enc res.2.2.1)),(10002,0,.row zb2 (ab eI res.2.2.2.1)),(10003,0,.row zb3 (ab eI res.2.2.2.2.1)),(10004,0,.row zb4 (ab GEntry.encO res.2.2.2.2.2))]:=by
 refine aj (ra:=[]) (md:=mdT) hT (hi:=hi00) Tryz.func49 rfl rfl (by decide +kernel) (by simp) ?_
 unfold dX at h
 obtain ⟨r01,g1,h⟩:=ae h
 simp(config:=cS)only[go_sem]
 refine ag (BG g1) ?_
 obtain ⟨r02,g2,h⟩:=ae h
 simp(config:=cS)only[go_sem]
 refine ag (zI g2) ?_
 obtain ⟨r03,g3,h⟩:=ae h
 simp(config:=cS)only[go_sem]
 refine ag (yp g3) ?_
 cases h
 simp(config:=cS)only[go_sem]
def pW (a:List Int):(Int × Int)→St
 | (k,i)=>⟨[(0,.sl (ab eI a)),(1,.lit (.int .i64 k)),(5,.lit (.int .i64 i))],[],2⟩
attribute [go_sem] pW
attribute [go_sem] Tryz.ntmps43 Tryz.results43
theorem dU {a:List Int}{k res:Int}(h:bO a k=some res):ao Tryz.prog 43 [.sl (ab eI a),.lit (.int .i64 k)] [] (.lit (.int .i64 res)) []:=by
 refine aj (ra:=[]) (md:=mdT) hT (hi:=hi00) Tryz.func43 rfl rfl (by decide +kernel) (by simp) ?_
 unfold bO at h
 obtain ⟨q02,l1,h⟩:=ae h
 simp(config:=cS)only[go_sem]
 refine an (m1:=.mk) (m2:=.mk) [.nf [0,1,5] []] (pW a) l1 ?_ ?_
 ·simp(config:=cS)only[go_sem]
 ·intro nb2 sb2 bb2 b2 gb2
  obtain ⟨k_1,i_1⟩:=sb2
  unfold ij at b2
  try dsimp only at b2
  obtain ⟨h3,b2⟩|⟨h3,b2⟩:=af b2
  ·obtain ⟨x01,g4,b2⟩:=ae b2
   obtain ⟨h5,h6,h7⟩:=ai g4
   obtain ⟨h8,b2⟩|⟨h8,b2⟩:=af b2
   ·cases b2
    simp(config:=cS)only[go_sem,eqT h3,h5,h6,h7,eqT h8]
    refine ap gb2 ?_
    simp(config:=cS)only[go_sem]
   ·cases b2
    obtain rfl:=(ak gb2).symm
    try dsimp only at h
    cases h
    simp(config:=cS)only[go_sem,eqT h3,h5,h6,h7,eqF h8]
  ·cases b2
   obtain rfl:=(ak gb2).symm
   try dsimp only at h
   cases h
   simp(config:=cS)only[go_sem,eqF h3]
def oP (a:List GNode):(Int × Int)→St
 | (k,i)=>⟨[(0,.sl (ab GNode.encS a)),(1,.lit (.int .i64 k)),(5,.lit (.int .i64 i))],[],2⟩
attribute [go_sem] oP
@[go_sem] def hi196_4:DT:=.i2 0 (.i2 1 (.i1 2 (.i1 3 (.i1 4 (.i2 5 (.i0 6 [2,3,4] (.i2 7 .nil)))))))
def Ga:Hint where
 acts:=fun _=>[]
 draws:=fun
  | 4=>⟨hi196_4,[[],[],[0,1],[0,1,2],[0,1,2,3],[],[5],.range 7],.range 8⟩
  | _=>⟨.nil,[],[]⟩
theorem QS (i:Nat):Ga.acts i=[]:=rfl
theorem QT (i:Nat):Ga.views i=none:=rfl
attribute [go_sem] QS QT Tryz.ntmps196 Tryz.results196
@[go_sem] theorem TV:(Ga.draws 4).order=hi196_4:=rfl
theorem zJ {a:List GNode}{k res:Int}(h:jP a k=some res):ao Tryz.prog 196 [.sl (ab GNode.encS a),.lit (.int .i64 k)] [] (.lit (.int .i64 res)) []:=by
 refine aj (ra:=[]) (md:=mdT) hT (hi:=Ga) Tryz.func196 rfl rfl (by decide +kernel) (by simp) ?_
 unfold jP at h
 obtain ⟨q04,l1,h⟩:=ae h
 simp(config:=cS)only[go_sem]
 refine an (m1:=.mk) (m2:=.mk) [.nf [0,1,5] []] (oP a) l1 ?_ ?_
 ·simp(config:=cS)only[go_sem]
 ·intro nb2 sb2 bb2 b2 gb2
  obtain ⟨k_1,i_1⟩:=sb2
  unfold gq at b2
  try dsimp only at b2
  obtain ⟨h3,b2⟩|⟨h3,b2⟩:=af b2
  ·obtain ⟨x01,g4,b2⟩:=ae b2
   obtain ⟨h5,h6,h7⟩:=ai g4
   obtain ⟨r02,g8,b2⟩:=ae b2
   simp(config:=cS)only[go_sem,eqT h3,h5,h6,h7]
   refine ag (ui g8) ?_
   obtain ⟨h9,b2⟩|⟨h9,b2⟩:=af b2
   ·obtain ⟨r03,g10,b2⟩:=ae b2
    simp(config:=cS)only[go_sem,eqT h3,h5,h6,h7,eqT h9]
    refine ag (dU g10) ?_
    obtain ⟨h11,b2⟩|⟨h11,b2⟩:=af b2
    ·cases b2
     obtain rfl:=(ak gb2).symm
     try dsimp only at h
     cases h
     simp(config:=cS)only[go_sem,eqT h3,h5,h6,h7,eqT h9,eqT h11]
    ·obtain ⟨h13,b2⟩|⟨h13,b2⟩:=af b2
     ·cases b2
      simp(config:=cS)only[go_sem,eqT h3,h5,h6,h7,eqT h9,eqF h11,eqT h13]
      refine ap gb2 ?_
      simp(config:=cS)only[go_sem,eqT h3,h5,h6,h7,eqT h9,eqF h11,eqT h13]
     ·cases b2
      obtain rfl:=(ak gb2).symm
      try dsimp only at h
      cases h
      simp(config:=cS)only[go_sem,eqT h3,h5,h6,h7,eqT h9,eqF h11,eqF h13]
   ·cases b2
    obtain rfl:=(ak gb2).symm
    try dsimp only at h
    cases h
    simp(config:=cS)only[go_sem,eqT h3,h5,h6,h7,eqF h9]
  ·cases b2
   obtain rfl:=(ak gb2).symm
   try dsimp only at h
   cases h
   simp(config:=cS)only[go_sem,eqF h3]
def pX (a:List GTie):(Int × Int)→St
 | (k,i)=>⟨[(0,.sl (ab GTie.enc a)),(1,.lit (.int .i64 k)),(5,.lit (.int .i64 i))],[],2⟩
attribute [go_sem] pX
attribute [go_sem] Tryz.ntmps197 Tryz.results197
theorem BH {a:List GTie}{k res:Int}(h:kC a k=some res):ao Tryz.prog 197 [.sl (ab GTie.enc a),.lit (.int .i64 k)] [] (.lit (.int .i64 res)) []:=by
 refine aj (ra:=[]) (md:=mdT) hT (hi:=hi00) Tryz.func197 rfl rfl (by decide +kernel) (by simp) ?_
 unfold kC at h
 obtain ⟨q02,l1,h⟩:=ae h
 simp(config:=cS)only[go_sem]
 refine an (m1:=.mk) (m2:=.mk) [.nf [0,1,5] []] (pX a) l1 ?_ ?_
 ·simp(config:=cS)only[go_sem]
 ·intro nb2 sb2 bb2 b2 gb2
  obtain ⟨k_1,i_1⟩:=sb2
  unfold io at b2
  try dsimp only at b2
  obtain ⟨h3,b2⟩|⟨h3,b2⟩:=af b2
  ·obtain ⟨x01,g4,b2⟩:=ae b2
   obtain ⟨h5,h6,h7⟩:=ai g4
   obtain ⟨h8,b2⟩|⟨h8,b2⟩:=af b2
   ·obtain ⟨h9,b2⟩|⟨h9,b2⟩:=af b2
    ·obtain ⟨h10,b2⟩|⟨h10,b2⟩:=af b2
     ·obtain ⟨h11,b2⟩|⟨h11,b2⟩:=af b2
      ·obtain ⟨h12,b2⟩|⟨h12,b2⟩:=af b2
       ·cases b2
        simp(config:=cS)only[go_sem,eqT h3,h5,h6,h7,eqT h8,eqT h9,eqT h10,eqT h11,eqT h12]
        refine ap gb2 ?_
        simp(config:=cS)only[go_sem]
       ·cases b2
        obtain rfl:=(ak gb2).symm
        try dsimp only at h
        cases h
        simp(config:=cS)only[go_sem,eqT h3,h5,h6,h7,eqT h8,eqT h9,eqT h10,eqT h11,eqF h12]
      ·cases b2
       obtain rfl:=(ak gb2).symm
       try dsimp only at h
       cases h
       simp(config:=cS)only[go_sem,eqT h3,h5,h6,h7,eqT h8,eqT h9,eqT h10,eqF h11]
     ·cases b2
      obtain rfl:=(ak gb2).symm
      try dsimp only at h
      cases h
      simp(config:=cS)only[go_sem,eqT h3,h5,h6,h7,eqT h8,eqT h9,eqF h10]
    ·cases b2
     obtain rfl:=(ak gb2).symm
     try dsimp only at h
     cases h
     simp(config:=cS)only[go_sem,eqT h3,h5,h6,h7,eqT h8,eqF h9]
   ·cases b2
    obtain rfl:=(ak gb2).symm
    try dsimp only at h
    cases h
    simp(config:=cS)only[go_sem,eqT h3,h5,h6,h7,eqF h8]
  ·cases b2
   obtain rfl:=(ak gb2).symm
   try dsimp only at h
   cases h
   simp(config:=cS)only[go_sem,eqF h3]
attribute [go_sem] Tryz.ntmps118 Tryz.results118
theorem BI {a:GShow}{k res:Int}(h:kD a k=some res):ao Tryz.prog 118 [.agg (GShow.encS a),.lit (.int .i64 k)] [] (.lit (.int .i64 res)) []:=by
 refine aj (ra:=[]) (md:=mdT) hT (hi:=hi00) Tryz.func118 rfl rfl (by decide +kernel) (by simp) ?_
 unfold kD at h
 obtain ⟨r01,g1,h⟩:=ae h
 simp(config:=cS)only[go_sem]
 refine ag (zJ g1) ?_
 obtain ⟨h2,h⟩|⟨h2,h⟩:=af h
 ·cases h
  simp(config:=cS)only[go_sem,eqT h2]
 ·obtain ⟨r02,g3,h⟩:=ae h
  simp(config:=cS)only[go_sem,eqF h2]
  refine ag (BH g3) ?_
  obtain ⟨h4,h⟩|⟨h4,h⟩:=af h
  ·cases h
   simp(config:=cS)only[go_sem,eqT h4]
  ·cases h
   simp(config:=cS)only[go_sem,eqF h4]
attribute [go_sem] Tryz.ntmps119 Tryz.results119
theorem zK {a:GState}{k res:Int}(h:mj a k=some res):ao Tryz.prog 119 [.agg (GState.encS a),.lit (.int .i64 k)] [] (.lit (.int .i64 res)) []:=by
 refine aj (ra:=[]) (md:=mdT) hT (hi:=hi00) Tryz.func119 rfl rfl (by decide +kernel) (by simp) ?_
 unfold mj at h
 obtain ⟨r01,g1,h⟩:=ae h
 simp(config:=cS)only[go_sem]
 refine ag (dU g1) ?_
 obtain ⟨h2,h⟩|⟨h2,h⟩:=af h
 ·cases h
  simp(config:=cS)only[go_sem,eqT h2]
 ·obtain ⟨r02,g3,h⟩:=ae h
  simp(config:=cS)only[go_sem,eqF h2]
  refine ag (dU g3) ?_
  obtain ⟨h4,h⟩|⟨h4,h⟩:=af h
  ·cases h
   simp(config:=cS)only[go_sem,eqT h4]
  ·cases h
   simp(config:=cS)only[go_sem,eqF h4]
def og (a:List GEntry):(Int × Int)→St
 | (k,i)=>⟨[(0,.sl (ab GEntry.encS a)),(1,.lit (.int .i64 k)),(5,.lit (.int .i64 i))],[],2⟩
attribute [go_sem] og
attribute [go_sem] Tryz.ntmps120 Tryz.results120
theorem yq {a:List GEntry}{k res:Int}(h:iW a k=some res):ao Tryz.prog 120 [.sl (ab GEntry.encS a),.lit (.int .i64 k)] [] (.lit (.int .i64 res)) []:=by
 refine aj (ra:=[]) (md:=mdT) hT (hi:=hi00) Tryz.func120 rfl rfl (by decide +kernel) (by simp) ?_
 unfold iW at h
 obtain ⟨q05,l1,h⟩:=ae h
 simp(config:=cS)only[go_sem]
 refine an (m1:=.mk) (m2:=.mk) [.nf [0,1,5] []] (og a) l1 ?_ ?_
 ·simp(config:=cS)only[go_sem]
 ·intro nb2 sb2 bb2 b2 gb2
  obtain ⟨k_1,i_1⟩:=sb2
  unfold dJ at b2
  try dsimp only at b2
  obtain ⟨h3,b2⟩|⟨h3,b2⟩:=af b2
  ·obtain ⟨x01,g4,b2⟩:=ae b2
   obtain ⟨h5,h6,h7⟩:=ai g4
   obtain ⟨h8,b2⟩|⟨h8,b2⟩:=af b2
   ·obtain ⟨r02,g9,b2⟩:=ae b2
    simp(config:=cS)only[go_sem,eqT h3,h5,h6,h7,eqT h8]
    refine ag (dU g9) ?_
    obtain ⟨h10,b2⟩|⟨h10,b2⟩:=af b2
    ·cases b2
     obtain rfl:=(ak gb2).symm
     try dsimp only at h
     cases h
     simp(config:=cS)only[go_sem,eqT h3,h5,h6,h7,eqT h8,eqT h10]
    ·obtain ⟨r03,g12,b2⟩:=ae b2
     simp(config:=cS)only[go_sem,eqT h3,h5,h6,h7,eqT h8,eqF h10]
     refine ag (dU g12) ?_
     obtain ⟨h13,b2⟩|⟨h13,b2⟩:=af b2
     ·cases b2
      obtain rfl:=(ak gb2).symm
      try dsimp only at h
      cases h
      simp(config:=cS)only[go_sem,eqT h3,h5,h6,h7,eqT h8,eqF h10,eqT h13]
     ·obtain ⟨r04,g15,b2⟩:=ae b2
      simp(config:=cS)only[go_sem,eqT h3,h5,h6,h7,eqT h8,eqF h10,eqF h13]
      refine ag (dU g15) ?_
      obtain ⟨h16,b2⟩|⟨h16,b2⟩:=af b2
      ·cases b2
       obtain rfl:=(ak gb2).symm
       try dsimp only at h
       cases h
       simp(config:=cS)only[go_sem,eqT h3,h5,h6,h7,eqT h8,eqF h10,eqF h13,eqT h16]
      ·cases b2
       simp(config:=cS)only[go_sem,eqT h3,h5,h6,h7,eqT h8,eqF h10,eqF h13,eqF h16]
       refine ap gb2 ?_
       simp(config:=cS)only[go_sem,eqT h3,h5,h6,h7,eqT h8,eqF h10,eqF h13,eqF h16]
   ·cases b2
    obtain rfl:=(ak gb2).symm
    try dsimp only at h
    cases h
    simp(config:=cS)only[go_sem,eqT h3,h5,h6,h7,eqF h8]
  ·cases b2
   obtain rfl:=(ak gb2).symm
   try dsimp only at h
   cases h
   simp(config:=cS)only[go_sem,eqF h3]
attribute [go_sem] Tryz.ntmps50 Tryz.results50
theorem uk {a:GDesk}{k res:Int}(h:dY a k=some res):ao Tryz.prog 50 [.agg (GDesk.encS a),.lit (.int .i64 k)] [] (.lit (.int .i64 res)) []:=by
 refine aj (ra:=[]) (md:=mdT) hT (hi:=hi00) Tryz.func50 rfl rfl (by decide +kernel) (by simp) ?_
 unfold dY at h
 obtain ⟨r01,g1,h⟩:=ae h
 simp(config:=cS)only[go_sem]
 refine ag (BI g1) ?_
 obtain ⟨h2,h⟩|⟨h2,h⟩:=af h
 ·cases h
  simp(config:=cS)only[go_sem,eqT h2]
 ·obtain ⟨r02,g3,h⟩:=ae h
  simp(config:=cS)only[go_sem,eqF h2]
  refine ag (zK g3) ?_
  obtain ⟨h4,h⟩|⟨h4,h⟩:=af h
  ·cases h
   simp(config:=cS)only[go_sem,eqT h4]
  ·obtain ⟨r03,g5,h⟩:=ae h
   simp(config:=cS)only[go_sem,eqF h4]
   refine ag (yq g5) ?_
   obtain ⟨h6,h⟩|⟨h6,h⟩:=af h
   ·cases h
    simp(config:=cS)only[go_sem,eqT h6]
   ·cases h
    simp(config:=cS)only[go_sem,eqF h6]
@[go_sem] def hi9_16:DT:=.i1 0 (.i2 1 (.i0 2 [0] (.i2 3 (.i2 4 .nil))))
def hi9:Hint where
 acts:=fun _=>[]
 draws:=fun
  | 16=>⟨hi9_16,[[],[],[1],[0,1,2],[0,1,2,3]],.range 5⟩
  | _=>⟨.nil,[],[]⟩
theorem hi9a (i:Nat):hi9.acts i=[]:=rfl
theorem hi9v (i:Nat):hi9.views i=none:=rfl
attribute [go_sem] hi9a hi9v Tryz.ntmps9 Tryz.results9
@[go_sem] theorem Uk:(hi9.draws 16).order=hi9_16:=rfl
end Go.Proofs.QZ
