/- Functions. -/
import Derived.Test.YtghfphjfkdbpjaaGreatAFK1
set_option linter.all false
set_option maxRecDepth 100000
set_option maxHeartbeats 4000000
namespace Go.Proofs.QA
open Go
def pi (h:List Int)(i:Int)(j:List GNode)(k:List GTie)(l e:Int)(f g:List Int)(d:Int)(b:List Int):(Int × (List Int) × (List Int))→St
 | (m,a,c)=>⟨[(3,.ptr 192 1 0 0),(4,.ptr 256 1 0 0),(6,.ptr 384 1 0 0),(8,.ptr 512 1 0 0),(9,.ref 639 1 0 a.length),(14,.sl (ae eI h)),(15,.lit (.int .i64 i)),(16,.lit (.int .i64 m))],[(192,1,.var [.sl (ae GNode.encS j),.sl (ae GTie.enc k),.lit (.int .i64 l)]),(256,1,.var [.lit (.int .i64 e),.sl (ae eI f),.sl (ae eI g)]),(384,1,.var [.lit (.int .i64 0),.lit (.slice none 0 0),.lit (.slice none 0 0)]),(512,1,.var [.lit (.int .i64 d),.ref 832 1 0 c.length,.ref 833 1 0 b.length]),(832,1,.row true (ae eI c)),(833,1,.row true (ae eI b)),(639,1,.row true (ae eI a))],2⟩
attribute [go_sem] pi
attribute [go_sem] Tryz.ntmps160 Tryz.results160
theorem jp {s:GShow}{v1:GState}{nodes:List Int}{res:GState × (List Int)}(h:fj s v1 nodes=some res):ao Tryz.prog 160 [.agg (GShow.encS s),.agg (GState.encS v1),.sl (ae eI nodes)] [] (.tup [.agg [.lit (.int .i64 res.1.now),.ref 20000 1 0 res.1.times.length,.ref 20001 1 0 res.1.values.length],.ref 20002 1 0 res.2.length]) [(20000,1,.row true (ae eI res.1.times)),(20001,1,.row true (ae eI res.1.values)),(20002,1,.row true (ae eI res.2))]:=by
 refine ak (ra:=[.homeCell 384 1,.homeCell 384 2,.home 7]) (md:=mdT) hT (hi:=hi00) Tryz.func160 rfl rfl (by decide +kernel) (by simp) ?_
 unfold fj at h
 obtain ⟨r01,g1,h⟩:=ab h
 simp(config:=cS)only[go_sem]
 refine ag (jQ g1) ?_
 obtain ⟨q06,l2,h⟩:=ab h
 simp(config:=cS)only[go_sem]
 refine al (m1:=.mk) (m2:=.mk) [.home 9,.nf [3,4,6,8,9,14,15,16] [192,256,384,512,832,833,639]] (pi nodes ((nodes.length:Nat):Int) s.nodes s.ties s.horizon v1.now v1.times v1.values r01.now r01.values) l2 ?_ ?_
 ·simp(config:=cS)only[go_sem]
 ·intro nb3 sb3 bb3 b3 gb3
  obtain ⟨v16_1,props_1,h832_1⟩:=sb3
  unfold gp at b3
  try dsimp only at b3
  obtain ⟨h4,b3⟩|⟨h4,b3⟩:=af b3
  ·obtain ⟨x02,g5,b3⟩:=ab b3
   obtain ⟨h6,h7,h8⟩:=ai g5
   obtain ⟨x03,g9,b3⟩:=ab b3
   obtain ⟨h10,h11,h12⟩:=ai g9
   obtain ⟨x04,g13,b3⟩:=ab b3
   obtain ⟨h14,h15,h16⟩:=ai g13
   obtain ⟨h17,b3⟩|⟨h17,b3⟩:=af b3
   ·cases b3
    simp(config:=cS)only[go_sem,eqT h4,h6,h7,h8,h10,h11,h12,h14,h15,h16,eqT h17]
    refine an gb3 ?_
    simp(config:=cS)only[go_sem]
   ·obtain ⟨h18,b3⟩:=ah b3
    obtain ⟨h19,b3⟩:=ah b3
    cases b3
    simp(config:=cS)only[go_sem,eqT h4,h6,h7,h8,h10,h11,h12,h14,h15,h16,eqF h17,eqT h18,eqT h19]
    refine an gb3 ?_
    simp(config:=cS)only[go_sem]
  ·cases b3
   obtain rfl:=(aj gb3).symm
   try dsimp only at h
   obtain ⟨r05,g21,h⟩:=ab h
   simp(config:=cS)only[go_sem,eqF h4]
   refine ag (sk g21) ?_
   obtain ⟨h22,h⟩:=ah h
   cases h
   simp(config:=cS)only[go_sem,h22.symm]
def nQ (a e:List Int)(f d:Int)(b:List Int):(Int × (List Int))→St
 | (g,c)=>⟨[(2,.sl (ae eI a)),(6,.ptr 384 1 0 0),(7,.ptr 448 1 0 0),(12,.sl (ae eI e)),(13,.lit (.int .i64 f)),(14,.lit (.int .i64 g))],[(384,1,.var [.lit (.int .i64 0),.lit (.slice none 0 0),.lit (.slice none 0 0)]),(448,1,.var [.lit (.int .i64 d),.ref 704 1 0 b.length,.ref 705 1 0 c.length]),(704,1,.row true (ae eI b)),(705,1,.row true (ae eI c))],2⟩
attribute [go_sem] nQ
@[go_sem] def hi161_5:DT:=.i2 0 (.i2 1 (.i2 2 (.i2 3 (.i2 4 (.i2 5 (.i2 6 (.i2 7 (.i2 8 (.i2 9 .nil)))))))))
def Du:Hint where
 acts:=fun _=>[]
 draws:=fun
  | 5=>⟨hi161_5,[[],[0],[],[2],[],[],[4,5],[4,5,6],.range 8,.range 9],.range 10⟩
  | _=>⟨.nil,[],[]⟩
theorem Ns (i:Nat):Du.acts i=[]:=rfl
theorem Nt (i:Nat):Du.views i=none:=rfl
attribute [go_sem] Ns Nt Tryz.ntmps161 Tryz.results161
@[go_sem] theorem QL:(Du.draws 5).order=hi161_5:=rfl
theorem iB {v0:GState}{props values:List Int}{res:GState}(h:dS v0 props values=some res):ao Tryz.prog 161 [.agg (GState.encS v0),.sl (ae eI props),.sl (ae eI values)] [] (.agg [.lit (.int .i64 res.now),.ref 20000 1 0 res.times.length,.ref 20001 1 0 res.values.length]) [(20000,1,.row true (ae eI res.times)),(20001,1,.row true (ae eI res.values))]:=by
 refine ak (ra:=[.homeCell 384 1,.homeCell 384 2]) (md:=mdT) hT (hi:=Du) Tryz.func161 rfl rfl (by decide +kernel) (by simp) ?_
 unfold dS at h
 obtain ⟨r01,g1,h⟩:=ab h
 simp(config:=cS)only[go_sem]
 refine ag (jQ g1) ?_
 obtain ⟨q05,l2,h⟩:=ab h
 simp(config:=cS)only[go_sem]
 refine al (m1:=.mk) (m2:=.mk) [.nf [2,6,7,12,13,14] [384,448,704,705]] (nQ values props ((props.length:Nat):Int) r01.now r01.times) l2 ?_ ?_
 ·simp(config:=cS)only[go_sem]
 ·intro nb3 sb3 bb3 b3 gb3
  obtain ⟨v14_1,h705_1⟩:=sb3
  unfold fF at b3
  try dsimp only at b3
  obtain ⟨h4,b3⟩|⟨h4,b3⟩:=af b3
  ·obtain ⟨x02,g5,b3⟩:=ab b3
   obtain ⟨h6,h7,h8⟩:=ai g5
   obtain ⟨x03,g9,b3⟩:=ab b3
   obtain ⟨h10,h11,h12⟩:=ai g9
   obtain ⟨x04,g13,b3⟩:=ab b3
   obtain ⟨h14,h15,h16⟩:=ai g13
   cases b3
   simp(config:=cS)only[go_sem,eqT h4,h6,h7,h8,h10,h11,h12,h14,h15,h16]
   refine an gb3 ?_
   simp(config:=cS)only[go_sem]
  ·cases b3
   obtain rfl:=(aj gb3).symm
   try dsimp only at h
   cases h
   simp(config:=cS)only[go_sem,eqF h4]
def rx (g:List Int)(h e:Int)(b c d:List Int):(Int × (List Int) × (List Int))→St
 | (i,f,a)=>⟨[(6,.ptr 384 1 0 0),(9,.ptr 576 1 0 0),(10,.ref 3458 1 0 d.length),(11,.ref 767 1 0 f.length),(12,.ref 831 1 0 a.length),(58,.sl (ae eI g)),(59,.lit (.int .i64 h)),(60,.lit (.int .i64 i))],[(384,1,.var [.lit (.int .i64 0),.lit (.slice none 0 0),.lit (.slice none 0 0)]),(576,1,.var [.lit (.int .i64 e),.ref 3456 1 0 b.length,.ref 3457 1 0 c.length]),(3456,1,.row true (ae eI b)),(3457,1,.row true (ae eI c)),(3458,1,.row true (ae eI d)),(767,1,.row true (ae eI f)),(831,1,.row true (ae eI a))],2⟩
attribute [go_sem] rx
@[go_sem] def hi147_4:DT:=.i2 0 (.i2 1 (.i1 3 (.i1 4 (.i0 2 [3,4] (.i2 5 (.i2 6 .nil))))))
@[go_sem] def hi147_1:DT:=.i2 0 (.i2 1 (.i2 2 (.i2 3 (.i2 4 (.i2 5 (.i2 6 (.i2 7 (.i1 9 (.i1 10 (.i0 8 [9,10] (.i2 11 (.i2 12 (.i2 13 (.i2 14 (.i2 15 (.i2 16 (.i2 17 (.i2 18 (.i2 19 .nil)))))))))))))))))))
def Aa:Hint where
 acts:=fun _=>[]
 draws:=fun
  | 1=>⟨hi147_1,[[],[0],[],[2],[0,1,2,3],.range 5,.range 6,.range 6,.range 8,.range 6,[0,1,2,3,4,5,9],.range 11,.range 12,.range 13,.range 14,.range 15,.range 16,.range 17,.range 18,.range 19],.range 20⟩
  | 4=>⟨hi147_4,[[],[],[0,1],[],[3],.range 5,.range 6],.range 7⟩
  | _=>⟨.nil,[],[]⟩
theorem Nu (i:Nat):Aa.acts i=[]:=rfl
theorem Nv (i:Nat):Aa.views i=none:=rfl
attribute [go_sem] Nu Nv Tryz.ntmps147 Tryz.results147
@[go_sem] theorem QM:(Aa.draws 1).order=hi147_1:=rfl
@[go_sem] theorem QN:(Aa.draws 4).order=hi147_4:=rfl
theorem Eg {s:GShow}{v1:GState}{e:GEntry}{res:GState × Bool}(h:kU s v1 e=some res):ao Tryz.prog 147 [.agg (GShow.encS s),.agg (GState.encS v1),.agg (GEntry.encS e)] [] (.tup [.agg [.lit (.int .i64 res.1.now),.ref 20000 1 0 res.1.times.length,.ref 20001 1 0 res.1.values.length],.lit (.bool res.2)]) [(20000,1,.row true (ae eI res.1.times)),(20001,1,.row true (ae eI res.1.values))]:=by
 refine ak (ra:=[.homeCell 384 1,.homeCell 384 2]) (md:=mdT) hT (hi:=Aa) Tryz.func147 rfl rfl (by decide +kernel) (by simp) ?_
 unfold kU at h
 obtain ⟨h1,h⟩|⟨h1,h⟩:=af h
 ·obtain ⟨r01,g2,h⟩:=ab h
  simp(config:=cS)only[go_sem,eqT h1]
  refine ag (lx g2) ?_
  obtain ⟨r02,g3,h⟩:=ab h
  simp(config:=cS)only[go_sem,eqT h1]
  refine ag (sI g3) ?_
  obtain ⟨h4,h⟩|⟨h4,h⟩:=af h
  ·obtain ⟨r03,g5,h⟩:=ab h
   simp(config:=cS)only[go_sem,eqT h1,eZt h4]
   refine ag (jl g5) ?_
   obtain ⟨h6,h⟩|⟨h6,h⟩:=af h
   ·obtain ⟨r04,g7,h⟩:=ab h
    simp(config:=cS)only[go_sem,eqT h1,eZt h4,eZt h6]
    refine ag (ph g7) ?_
    obtain ⟨r05,g8,h⟩:=ab h
    simp(config:=cS)only[go_sem,eqT h1,eZt h4,eZt h6]
    refine ag (mR g8) ?_
    obtain ⟨r06,g9,h⟩:=ab h
    simp(config:=cS)only[go_sem,eqT h1,eZt h4,eZt h6]
    refine ag (sI g9) ?_
    obtain ⟨h10,h⟩|⟨h10,h⟩:=af h
    ·obtain ⟨r07,g11,h⟩:=ab h
     simp(config:=cS)only[go_sem,eqT h1,eZt h4,eZt h6,eZt h10]
     refine ag (jp g11) ?_
     obtain ⟨q13,l12,h⟩:=ab h
     simp(config:=cS)only[go_sem,eqT h1,eZt h4,eZt h6,eZt h10]
     refine al (m1:=.mk) (m2:=.mk) [.home 11,.home 12,.nf [6,9,10,11,12,58,59,60] [384,576,3456,3457,3458,767,831]] (rx e.values ((e.values.length:Nat):Int) r07.1.now r07.1.times r07.1.values r07.2) l12 ?_ ?_
     ·simp(config:=cS)only[go_sem,eqT h1,eZt h4,eZt h6,eZt h10]
     ·intro nb13 sb13 bb13 b13 gb13
      obtain ⟨v60_1,seen_1,values_1⟩:=sb13
      unfold iK at b13
      try dsimp only at b13
      obtain ⟨h14,b13⟩|⟨h14,b13⟩:=af b13
      ·obtain ⟨x08,g15,b13⟩:=ab b13
       obtain ⟨h16,h17,h18⟩:=ai g15
       obtain ⟨r09,g19,b13⟩:=ab b13
       simp(config:=cS)only[go_sem,eqT h1,eZt h4,eZt h6,eZt h10,eqT h14,h16,h17,h18]
       refine ag (iq g19) ?_
       obtain ⟨h20,b13⟩:=ah b13
       obtain ⟨h21,b13⟩:=ah b13
       obtain ⟨r10,g22,b13⟩:=ab b13
       simp(config:=cS)only[go_sem,eqT h1,eZt h4,eZt h6,eZt h10,eqT h14,h16,h17,h18,eqT h20,eqT h21]
       refine ag (iq g22) ?_
       obtain ⟨h23,b13⟩:=ah b13
       obtain ⟨h24,b13⟩:=ah b13
       obtain ⟨h25,b13⟩:=ah b13
       cases b13
       simp(config:=cS)only[go_sem,eqT h1,eZt h4,eZt h6,eZt h10,eqT h14,h16,h17,h18,eqT h20,eqT h21,eqF h23,eqT h24,eqT h25]
       refine an gb13 ?_
       simp(config:=cS)only[go_sem,eqT h1,eZt h4,eZt h6,eZt h10,eqT h14,h16,h17,h18,eqT h20,eqT h21,eqF h23,eqT h24,eqT h25]
      ·cases b13
       obtain rfl:=(aj gb13).symm
       try dsimp only at h
       obtain ⟨r11,g27,h⟩:=ab h
       simp(config:=cS)only[go_sem,eqT h1,eZt h4,eZt h6,eZt h10,eqF h14]
       refine ag (fB g27) ?_
       obtain ⟨h28,h⟩|⟨h28,h⟩:=af h
       ·obtain ⟨r12,g29,h⟩:=ab h
        simp(config:=cS)only[go_sem,eqT h1,eZt h4,eZt h6,eZt h10,eqF h14,eZt h28]
        refine ag (iB g29) ?_
        cases h
        simp(config:=cS)only[go_sem,eqT h1,eZt h4,eZt h6,eZt h10,eqF h14,eZt h28]
       ·cases h
        simp(config:=cS)only[go_sem,eqT h1,eZt h4,eZt h6,eZt h10,eqF h14,eZf h28]
    ·cases h
     simp(config:=cS)only[go_sem,eqT h1,eZt h4,eZt h6,eZf h10]
   ·cases h
    simp(config:=cS)only[go_sem,eqT h1,eZt h4,eZf h6]
  ·cases h
   simp(config:=cS)only[go_sem,eqT h1,eZf h4]
 ·cases h
  simp(config:=cS)only[go_sem,eqF h1]
def mu (d:List GEntry)(e:Int)(f:List GNode)(g:List GTie)(h:Int):(Int × Int × (List Int) × (List Int))→St
 | (i,c,a,b)=>⟨[(2,.ptr 128 1 0 0),(4,.ptr 256 1 0 0),(6,.ptr 384 1 0 0),(17,.sl (ae GEntry.encS d)),(18,.lit (.int .i64 e)),(19,.lit (.int .i64 i))],[(128,1,.var [.sl (ae GNode.encS f),.sl (ae GTie.enc g),.lit (.int .i64 h)]),(256,1,.var [.lit (.int .i64 0),.lit (.slice none 0 0),.lit (.slice none 0 0)]),(384,1,.var [.lit (.int .i64 c),.ref 1024 1 0 a.length,.ref 1025 1 0 b.length]),(1024,1,.row true (ae eI a)),(1025,1,.row true (ae eI b))],2⟩
attribute [go_sem] mu
attribute [go_sem] Tryz.ntmps65 Tryz.results65
theorem yD {s:GShow}{log:List GEntry}{res:GState × Bool}(h:hZ s log=some res):ao Tryz.prog 65 [.agg (GShow.encS s),.sl (ae GEntry.encS log)] [] (.tup [.agg [.lit (.int .i64 res.1.now),.ref 20000 1 0 res.1.times.length,.ref 20001 1 0 res.1.values.length],.lit (.bool res.2)]) [(20000,1,.row true (ae eI res.1.times)),(20001,1,.row true (ae eI res.1.values))]:=by
 refine ak (ra:=[.homeCell 256 1,.homeCell 256 2]) (md:=mdT) hT (hi:=hi00) Tryz.func65 rfl rfl (by decide +kernel) (by simp) ?_
 unfold hZ at h
 obtain ⟨r01,g1,h⟩:=ab h
 simp(config:=cS)only[go_sem]
 refine ag (mH g1) ?_
 obtain ⟨h2,h⟩|⟨h2,h⟩:=af h
 ·obtain ⟨r02,g3,h⟩:=ab h
  simp(config:=cS)only[go_sem,eZt h2]
  refine ag (sj g3) ?_
  obtain ⟨q05,l4,h⟩:=ab h
  simp(config:=cS)only[go_sem]
  refine al (m1:=.mk) (m2:=.mk) [.nfp [2,4,6,17,18,19] [(128,128),(256,256),(384,384),(1728,1024),(1024,1024),(1729,1025),(1025,1025)] []] (mu log ((log.length:Nat):Int) s.nodes s.ties s.horizon) l4 ?_ ?_
  ·simp(config:=cS)only[go_sem]
  ·intro nb5 sb5 bb5 b5 gb5
   obtain ⟨v19_1,v6_0_1,h1024_1,h1025_1⟩:=sb5
   unfold eP at b5
   try dsimp only at b5
   obtain ⟨h6,b5⟩|⟨h6,b5⟩:=af b5
   ·obtain ⟨x03,g7,b5⟩:=ab b5
    obtain ⟨h8,h9,h10⟩:=ai g7
    obtain ⟨r04,g11,b5⟩:=ab b5
    simp(config:=cS)only[go_sem,eqT h6,h8,h9,h10]
    refine ag (Eg g11) ?_
    obtain ⟨h12,b5⟩|⟨h12,b5⟩:=af b5
    ·cases b5
     simp(config:=cS)only[go_sem,eZt h12]
     refine an gb5 ?_
     simp(config:=cS)only[go_sem]
    ·cases b5
     obtain rfl:=(aj gb5).symm
     try dsimp only at h
     cases h
     simp(config:=cS)only[go_sem,eZf h12]
   ·cases b5
    obtain rfl:=(aj gb5).symm
    try dsimp only at h
    cases h
    simp(config:=cS)only[go_sem,eqF h6]
 ·cases h
  simp(config:=cS)only[go_sem,eZf h2]
attribute [go_sem] Tryz.ntmps66 Tryz.results66
theorem xK {a b:GState}{res:Bool}(h:gq a b=some res):ao Tryz.prog 66 [.agg (GState.encS a),.agg (GState.encS b)] [] (.lit (.bool res)) []:=by
 refine ak (ra:=[]) (md:=mdT) hT (hi:=hi00) Tryz.func66 rfl rfl (by decide +kernel) (by simp) ?_
 unfold gq at h
 obtain ⟨h1,h⟩|⟨h1,h⟩:=af h
 ·obtain ⟨r01,g2,h⟩:=ab h
  simp(config:=cS)only[go_sem,eqT h1]
  refine ag (fB g2) ?_
  obtain ⟨h3,h⟩|⟨h3,h⟩:=af h
  ·obtain ⟨r02,g4,h⟩:=ab h
   simp(config:=cS)only[go_sem,eqT h1,eZt h3]
   refine ag (fB g4) ?_
   cases h
   simp(config:=cS)only[go_sem,eqT h1,eZt h3]
  ·cases h
   simp(config:=cS)only[go_sem,eqT h1,eZf h3]
 ·cases h
  simp(config:=cS)only[go_sem,eqF h1]
attribute [go_sem] Tryz.ntmps16 Tryz.results16
theorem ir {d:GDesk}{res:Bool}(h:eA d=some res):ao Tryz.prog 16 [.agg (GDesk.encS d)] [] (.lit (.bool res)) []:=by
 refine ak (ra:=[]) (md:=mdT) hT (hi:=hi00) Tryz.func16 rfl rfl (by decide +kernel) (by simp) ?_
 unfold eA at h
 obtain ⟨r01,g1,h⟩:=ab h
 simp(config:=cS)only[go_sem]
 refine ag (vc g1) ?_
 obtain ⟨h2,h⟩|⟨h2,h⟩:=af h
 ·obtain ⟨h3,h⟩|⟨h3,h⟩:=af h
  ·obtain ⟨r02,g4,h⟩:=ab h
   simp(config:=cS)only[go_sem,eZt h2,eqT h3]
   refine ag (yD g4) ?_
   obtain ⟨h5,h⟩|⟨h5,h⟩:=af h
   ·obtain ⟨r03,g6,h⟩:=ab h
    simp(config:=cS)only[go_sem,eZt h2,eqT h3,eZt h5]
    refine ag (xK g6) ?_
    cases h
    simp(config:=cS)only[go_sem,eZt h2,eqT h3,eZt h5]
   ·cases h
    simp(config:=cS)only[go_sem,eZt h2,eqT h3,eZf h5]
  ·cases h
   simp(config:=cS)only[go_sem,eZt h2,eqF h3]
 ·cases h
  simp(config:=cS)only[go_sem,eZf h2]
attribute [go_sem] Tryz.ntmps159 Tryz.results159
theorem wn {v:Int}{res:Bool}(h:eQ v=some res):ao Tryz.prog 159 [.lit (.int .i64 v)] [] (.lit (.bool res)) []:=by
 refine ak (ra:=[]) (md:=mdT) hT (hi:=hi00) Tryz.func159 rfl rfl (by decide +kernel) (by simp) ?_
 unfold eQ at h
 obtain ⟨h1,h⟩|⟨h1,h⟩:=af h
 ·cases h
  simp(config:=cS)only[go_sem,eqT h1]
 ·cases h
  simp(config:=cS)only[go_sem,eqF h1]
@[go_sem] def hi157_1:DT:=.i2 0 (.i2 1 (.i2 2 (.i2 3 (.i2 4 (.i2 5 (.i2 6 (.i2 7 (.i2 8 (.i2 9 (.i2 10 (.i2 11 (.i2 12 (.i2 13 .nil)))))))))))))
def Dv:Hint where
 acts:=fun _=>[]
 draws:=fun
  | 1=>⟨hi157_1,[[],[0],[],[2],[0,1,2,3],.range 5,[],[6],[],[8],[6,7,8,9],[6,7,8,9,10],.range 6,.range 13],[0,1,2,3,4,5,7,8,9,10,11,12,6,13]⟩
  | _=>⟨.nil,[],[]⟩
theorem Nw (i:Nat):Dv.acts i=[]:=rfl
theorem Nx (i:Nat):Dv.views i=none:=rfl
attribute [go_sem] Nw Nx Tryz.ntmps157 Tryz.results157
@[go_sem] theorem QO:(Dv.draws 1).order=hi157_1:=rfl
theorem wL {s:GShow}{v1:GState}{t:GTie}{res:Bool}(h:fH s v1 t=some res):ao Tryz.prog 157 [.agg (GShow.encS s),.agg (GState.encS v1),.agg (GTie.enc t)] [] (.lit (.bool res)) []:=by
 refine ak (ra:=[]) (md:=mdT) hT (hi:=Dv) Tryz.func157 rfl rfl (by decide +kernel) (by simp) ?_
 unfold fH at h
 obtain ⟨x01,g1,h⟩:=ab h
 obtain ⟨h2,h3,h4⟩:=ai g1
 obtain ⟨x02,g5,h⟩:=ab h
 obtain ⟨h6,h7,h8⟩:=ai g5
 obtain ⟨h9,h⟩|⟨h9,h⟩:=af h
 ·obtain ⟨h10,h⟩|⟨h10,h⟩:=af h
  ·cases h
   simp(config:=cS)only[go_sem,h2,h3,h4,h6,h7,h8,eqT h9,eZt h10]
  ·obtain ⟨h11,h⟩|⟨h11,h⟩:=af h
   ·cases h
    simp(config:=cS)only[go_sem,h2,h3,h4,h6,h7,h8,eqT h9,eZf h10,eqT h11]
   ·obtain ⟨r03,g12,h⟩:=ab h
    simp(config:=cS)only[go_sem,h2,h3,h4,h6,h7,h8,eqT h9,eZf h10,eqF h11]
    refine ag (jR g12) ?_
    obtain ⟨h13,h⟩|⟨h13,h⟩:=af h
    ·cases h
     simp(config:=cS)only[go_sem,eqT h13]
    ·cases h
     simp(config:=cS)only[go_sem,eqF h13]
 ·obtain ⟨h14,h⟩|⟨h14,h⟩:=af h
  ·obtain ⟨h15,h⟩|⟨h15,h⟩:=af h
   ·cases h
    simp(config:=cS)only[go_sem,h2,h3,h4,h6,h7,h8,eqF h9,eqT h14,eZt h15]
   ·obtain ⟨r04,g16,h⟩:=ab h
    simp(config:=cS)only[go_sem,h2,h3,h4,h6,h7,h8,eqF h9,eqT h14,eZf h15]
    refine ag (jR g16) ?_
    obtain ⟨h17,h⟩|⟨h17,h⟩:=af h
    ·cases h
     simp(config:=cS)only[go_sem,eqT h17]
    ·cases h
     simp(config:=cS)only[go_sem,eqF h17]
  ·obtain ⟨h18,h⟩|⟨h18,h⟩:=af h
   ·cases h
    simp(config:=cS)only[go_sem,h2,h3,h4,h6,h7,h8,eqF h9,eqF h14,eqT h18]
   ·cases h
    simp(config:=cS)only[go_sem,h2,h3,h4,h6,h7,h8,eqF h9,eqF h14,eqF h18]
attribute [go_sem] Tryz.ntmps156 Tryz.results156
theorem wM {t:GTie}{s:GShow}{v2:GState}{res:Bool}(h:iL t s v2=some res):ao Tryz.prog 156 [.agg (GTie.enc t),.loc [.sl (ae GNode.encS s.nodes),.sl (ae GTie.enc s.ties),.lit (.int .i64 s.horizon)],.loc [.lit (.int .i64 v2.now),.sl (ae eI v2.times),.sl (ae eI v2.values)]] [] (.lit (.bool res)) []:=by
 refine ak (ra:=[]) (md:=mdT) hT (hi:=hi00) Tryz.func156 rfl rfl (by decide +kernel) (by simp) ?_
 unfold iL at h
 obtain ⟨r01,g1,h⟩:=ab h
 simp(config:=cS)only[go_sem]
 refine ag (wL g1) ?_
 cases h
 simp(config:=cS)only[go_sem]
def pj (c:List Int)(h:Int)(d:List GNode)(e:List GTie)(f a:Int)(b:List Int)(g:Int):St:=⟨[(2,.ptr 128 1 0 0),(3,.ptr 192 1 0 0),(8,.sl (ae eI c)),(9,.lit (.int .i64 h)),(10,.lit (.int .i64 g))],[(128,1,.var [.sl (ae GNode.encS d),.sl (ae GTie.enc e),.lit (.int .i64 f)]),(192,1,.var [.lit (.int .i64 a),.sl (ae eI c),.sl (ae eI b)])],2⟩
attribute [go_sem] pj
attribute [go_sem] Tryz.ntmps70 Tryz.results70
theorem ly {s:GShow}{v1:GState}{res:Bool}(h:fk s v1=some res):ao Tryz.prog 70 [.agg (GShow.encS s),.agg (GState.encS v1)] [] (.lit (.bool res)) []:=by
 refine ak (ra:=[]) (md:=mdT) hT (hi:=hi00) Tryz.func70 rfl rfl (by decide +kernel) (by simp) ?_
 unfold fk at h
 obtain ⟨q03,l1,h⟩:=ab h
 simp(config:=cS)only[go_sem]
 refine al (m1:=.mk) (m2:=.mk) [.nf [2,3,8,9,10] [128,192]] (pj v1.times ((v1.times.length:Nat):Int) s.nodes s.ties s.horizon v1.now v1.values) l1 ?_ ?_
 ·simp(config:=cS)only[go_sem]
 ·intro nb2 v10_1 bb2 b2 gb2
  unfold ep at b2
  try dsimp only at b2
  obtain ⟨h3,b2⟩|⟨h3,b2⟩:=af b2
  ·obtain ⟨x01,g4,b2⟩:=ab b2
   obtain ⟨h5,h6,h7⟩:=ai g4
   obtain ⟨h8,b2⟩|⟨h8,b2⟩:=af b2
   ·obtain ⟨r02,g9,b2⟩:=ab b2
    simp(config:=cS)only[go_sem,eqT h3,h5,h6,h7,eqT h8]
    refine ag (jR g9) ?_
    obtain ⟨h10,b2⟩|⟨h10,b2⟩:=af b2
    ·cases b2
     simp(config:=cS)only[go_sem,eqT h10]
     refine an gb2 ?_
     simp(config:=cS)only[go_sem]
    ·cases b2
     obtain rfl:=(aj gb2).symm
     try dsimp only at h
     cases h
     simp(config:=cS)only[go_sem,eqF h10]
   ·cases b2
    simp(config:=cS)only[go_sem,eqT h3,h5,h6,h7,eqF h8]
    refine an gb2 ?_
    simp(config:=cS)only[go_sem]
  ·cases b2
   obtain rfl:=(aj gb2).symm
   try dsimp only at h
   cases h
   simp(config:=cS)only[go_sem,eqF h3]
attribute [go_sem] Tryz.ntmps69 Tryz.results69
theorem pk {s:GShow}{v1:GState}{res:Bool}(h:fZ s v1=some res):ao Tryz.prog 69 [.agg (GShow.encS s),.agg (GState.encS v1)] [] (.lit (.bool res)) []:=by
 refine ak (ra:=[]) (md:=mdT) hT (hi:=hi00) Tryz.func69 rfl rfl (by decide +kernel) (by simp) ?_
 unfold fZ at h
 obtain ⟨r01,g1,h⟩:=ab h
 simp(config:=cS)only[go_sem]
 refine ag (kB (by exact fun _ _ hr=>wM hr) (by refine ⟨fun _=>?_,fun _=>?_⟩ <;> simp only [go_sem]) (fun _=>rfl) rfl g1) ?_
 obtain ⟨h2,h⟩|⟨h2,h⟩:=af h
 ·cases h
  simp(config:=cS)only[go_sem,eZt h2]
 ·obtain ⟨h3,h⟩|⟨h3,h⟩:=af h
  ·obtain ⟨r02,g4,h⟩:=ab h
   simp(config:=cS)only[go_sem,eZf h2,eqT h3]
   refine ag (ly g4) ?_
   cases h
   simp(config:=cS)only[go_sem]
  ·cases h
   simp(config:=cS)only[go_sem,eZf h2,eqF h3]
attribute [go_sem] Tryz.ntmps80 Tryz.results80
theorem ve {s:GShow}{res:GShow × (List (ByteArray × Bool))}(h:lA s=some res):ao Tryz.prog 80 [.agg (GShow.encS s)] [] (.ptr 20000 1 0 0) [(20000,1,.var [.sl (ae GNode.encS res.1.nodes),.sl (ae GTie.enc res.1.ties),.lit (.int .i64 res.1.horizon),.mp 20001 1]),(20001,1,.map (eM res.2))]:=by
 refine ak (ra:=[]) (md:=mdT) hT (hi:=hi00) Tryz.func80 rfl rfl (by decide +kernel) (by simp) ?_
 unfold lA at h
 cases h
 simp(config:=cS)only[go_sem]
def tj (a:List Int)(e c:Int)(d:List Int):(Int × (List Int))→St
 | (f,b)=>⟨[(1,.ptr 64 1 0 0),(3,.ref 704 1 0 b.length),(13,.sl (ae eI a)),(14,.lit (.int .i64 e)),(15,.lit (.int .i64 f))],[(64,1,.var [.lit (.int .i64 c),.sl (ae eI a),.sl (ae eI d)]),(704,1,.row true (ae (eK .u8) b))],2⟩
attribute [go_sem] tj
def tk (b:List Int)(c:Int):(Int × (List Int))→St
 | (d,a)=>⟨[(3,.ref 704 1 0 a.length),(27,.sl (ae eI b)),(28,.lit (.int .i64 c)),(29,.lit (.int .i64 d))],[(704,1,.row true (ae (eK .u8) a))],2⟩
attribute [go_sem] tk
attribute [go_sem] Tryz.ntmps171 Tryz.results171
theorem GQ {v0:GState}{res:ByteArray}(h:po v0=some res):ao Tryz.prog 171 [.agg (GState.encS v0)] [] (.lit (.string res)) []:=by
 refine ak (ra:=[]) (md:=mdT) hT (hi:=hi00) Tryz.func171 rfl rfl (by decide +kernel) (by simp) ?_
 unfold po at h
 obtain ⟨q04,l1,h⟩:=ab h
 simp(config:=cS)only[go_sem]
 refine al (m1:=.mk) (m2:=.mk) [.nf [1,3,13,14,15] [64,704]] (tj v0.times ((v0.times.length:Nat):Int) v0.now v0.values) l1 ?_ ?_
 ·simp(config:=cS)only[go_sem]
 ·intro nb2 sb2 bb2 b2 gb2
  obtain ⟨v15_1,out_1⟩:=sb2
  unfold kj at b2
  try dsimp only at b2
  obtain ⟨h3,b2⟩|⟨h3,b2⟩:=af b2
  ·obtain ⟨x01,g4,b2⟩:=ab b2
   obtain ⟨h5,h6,h7⟩:=ai g4
   obtain ⟨h8,b2⟩:=ah b2
   obtain ⟨h9,b2⟩:=ah b2
   cases b2
   simp(config:=cS)only[go_sem,eqT h3,h5,h6,h7,eqT h8,eqT h9]
   refine an gb2 ?_
   simp(config:=cS)only[go_sem]
  ·cases b2
   obtain rfl:=(aj gb2).symm
   try dsimp only at h
   obtain ⟨q03,l11,h⟩:=ab h
   simp(config:=cS)only[go_sem,eqF h3]
   refine al (m1:=.mk) (m2:=.mk) [.nf [3,27,28,29] [704]] (tk v0.values ((v0.values.length:Nat):Int)) l11 ?_ ?_
   ·simp(config:=cS)only[go_sem]
   ·intro nb12 sb12 bb12 b12 gb12
    obtain ⟨v29_2,out_2⟩:=sb12
    unfold kk at b12
    try dsimp only at b12
    obtain ⟨h13,b12⟩|⟨h13,b12⟩:=af b12
    ·obtain ⟨x02,g14,b12⟩:=ab b12
     obtain ⟨h15,h16,h17⟩:=ai g14
     obtain ⟨h18,b12⟩:=ah b12
     obtain ⟨h19,b12⟩:=ah b12
     cases b12
     simp(config:=cS)only[go_sem,eqT h13,h15,h16,h17,eqT h18,eqT h19]
     refine an gb12 ?_
     simp(config:=cS)only[go_sem]
    ·cases b12
     obtain rfl:=(aj gb12).symm
     try dsimp only at h
     cases h
     simp(config:=cS)only[go_sem,eqF h13]
def jK (a:List Int)(b c:Int):St:=⟨[(0,.sl (ae eI a)),(9,.sl (ae eI a)),(10,.lit (.int .i64 b)),(11,.lit (.int .i64 c))],[],2⟩
attribute [go_sem] jK
def jL (b:List Int)(n d:Int)(c:List (List Int)):(Int × (List Int))→St
 | (e,a)=>⟨[(0,.sl (ae eI b)),(5,.ref 383 1 0 c.length),(6,.lit (.int .i64 n)),(7,.ref 511 1 0 a.length),(44,.lit (.int .i64 d)),(45,.lit (.int .i64 e))],[(383,1,.row true (ae (eLO eI) c)),(511,1,.row true (ae eI a))],2⟩
attribute [go_sem] jL
def jM (a:List Int):(Int × (List (List Int)))→St
 | (n,b)=>⟨[(0,.sl (ae eI a)),(5,.ref 383 1 0 b.length),(6,.lit (.int .i64 n))],[(383,1,.row true (ae (eLO eI) b))],2⟩
attribute [go_sem] jM
attribute [go_sem] Tryz.ntmps166 Tryz.results166
theorem nR {props:List Int}{res:List (List Int)}(h:dH props=some res):ao Tryz.prog 166 [.sl (ae eI props)] [] (.ref 20000 1 0 res.length) [(20000,1,.row true (ae (eLO eI) res))]:=by
 refine ak (ra:=[.home 2]) (md:=mdT) hT (hi:=hi00) Tryz.func166 rfl rfl (by decide +kernel) (by simp) ?_
 unfold dH at h
 obtain ⟨q05,l1,h⟩:=ab h
 simp(config:=cS)only[go_sem]
 refine al (m1:=.mk) (m2:=.mk) [.nf [0,9,10,11] []] (jK props ((props.length:Nat):Int)) l1 ?_ ?_
 ·simp(config:=cS)only[go_sem]
 ·intro nb2 v11_1 bb2 b2 gb2
  unfold cA at b2
  try dsimp only at b2
  obtain ⟨h3,b2⟩|⟨h3,b2⟩:=af b2
  ·obtain ⟨x01,g4,b2⟩:=ab b2
   obtain ⟨h5,h6,h7⟩:=ai g4
   obtain ⟨h8,b2⟩|⟨h8,b2⟩:=af b2
   ·cases b2
    obtain rfl:=(aj gb2).symm
    try dsimp only at h
    cases h
    simp(config:=cS)only[go_sem,eqT h3,h5,h6,h7,eqT h8]
   ·obtain ⟨h10,b2⟩|⟨h10,b2⟩:=af b2
    ·cases b2
     obtain rfl:=(aj gb2).symm
     try dsimp only at h
     cases h
     simp(config:=cS)only[go_sem,eqT h3,h5,h6,h7,eqF h8,eqT h10]
    ·obtain ⟨h12,b2⟩|⟨h12,b2⟩:=af b2
     ·obtain ⟨x02,g13,b2⟩:=ab b2
      obtain ⟨h14,h15,h16⟩:=ai g13
      obtain ⟨h17,b2⟩|⟨h17,b2⟩:=af b2
      ·cases b2
       obtain rfl:=(aj gb2).symm
       try dsimp only at h
       cases h
       simp(config:=cS)only[go_sem,eqT h3,h5,h6,h7,eqF h8,eqF h10,eqT h12,h14,h15,h16,eqT h17]
      ·cases b2
       simp(config:=cS)only[go_sem,eqT h3,h5,h6,h7,eqF h8,eqF h10,eqT h12,h14,h15,h16,eqF h17]
       refine an gb2 ?_
       simp(config:=cS)only[go_sem]
     ·cases b2
      simp(config:=cS)only[go_sem,eqT h3,h5,h6,h7,eqF h8,eqF h10,eqF h12]
      refine an gb2 ?_
      simp(config:=cS)only[go_sem]
  ·cases b2
   obtain rfl:=(aj gb2).symm
   try dsimp only at h
   obtain ⟨q04,l20,h⟩:=ab h
   simp(config:=cS)only[go_sem,eqF h3]
   refine al (m1:=.mk) (m2:=.mk) [.home 5,.nf [0,5,6] [383]] (jM props) l20 ?_ ?_
   ·simp(config:=cS)only[go_sem]
   ·intro nb21 sb21 bb21 b21 gb21
    obtain ⟨n_2,out_2⟩:=sb21
    unfold cC at b21
    try dsimp only at b21
    obtain ⟨h22,b21⟩:=ah b21
    obtain ⟨h23,b21⟩|⟨h23,b21⟩:=af b21
    ·obtain ⟨q03,l24,b21⟩:=ab b21
     simp(config:=cS)only[go_sem,eqF h22,eqT h23]
     refine al (m1:=.mk) (m2:=.mk) [.home 7,.nf [0,5,6,7,44,45] [383,511]] (jL props n_2 ((props.length:Nat):Int) out_2) l24 ?_ ?_
     ·simp(config:=cS)only[go_sem]
     ·intro nb25 sb25 bb25 b25 gb25
      obtain ⟨v45_3,values_3⟩:=sb25
      unfold cB at b25
      try dsimp only at b25
      obtain ⟨h26,b25⟩|⟨h26,b25⟩:=af b25
      ·obtain ⟨h27,b25⟩:=ah b25
       obtain ⟨h28,b25⟩:=ah b25
       obtain ⟨h29,b25⟩:=ah b25
       cases b25
       simp(config:=cS)only[go_sem,eqT h26,eqF h27,eqT h28,eqT h29]
       refine an gb25 ?_
       simp(config:=cS)only[go_sem]
      ·cases b25
       obtain rfl:=(aj gb25).symm
       try dsimp only at b21
       obtain ⟨h31,b21⟩:=ah b21
       obtain ⟨h32,b21⟩:=ah b21
       cases b21
       simp(config:=cS)only[go_sem,eqF h26,eqT h31,eqT h32]
       refine an gb21 ?_
       simp(config:=cS)only[go_sem]
    ·cases b21
     obtain rfl:=(aj gb21).symm
     try dsimp only at h
     cases h
     simp(config:=cS)only[go_sem,eqF h22,eqF h23]
def gU (g d:Int)(a b c:List Int)(f:List (List Int))(h:List GNode)(i:List GTie)(j:Int):(Int × (List (ByteArray × Bool)))→St
 | (k,e)=>⟨[(0,.ptr 10000 0 0 0),(7,.ptr 448 1 0 0),(8,.ref 1154 1 0 c.length),(22,.ref 1408 1 0 f.length),(23,.lit (.int .i64 g)),(24,.lit (.int .i64 k))],[(10000,0,.var [.sl (ae GNode.encS h),.sl (ae GTie.enc i),.lit (.int .i64 j),.mp 10001 0]),(10001,0,.map (eM e)),(448,1,.var [.lit (.int .i64 d),.ref 1152 1 0 a.length,.ref 1153 1 0 b.length]),(1152,1,.row true (ae eI a)),(1153,1,.row true (ae eI b)),(1154,1,.row true (ae eI c)),(1408,1,.tree (ae (eLS eI) f))],2⟩
attribute [go_sem] gU
@[go_sem] def hi75_1:DT:=.i2 0 (.i1 1 (.i1 2 (.i1 3 (.i1 4 (.i2 5 (.fork (.i2 6 (.i2 7 (.i2 8 (.i2 9 (.i0 10 [1,2,3,4] (.i2 11 (.i2 12 .nil))))))) (.i0 10 [1,2,3,4] (.i2 6 (.i2 7 (.i2 8 (.i2 9 (.i2 11 (.i2 12 .nil)))))))))))))
def hi75:Hint where
 acts:=fun _=>[]
 draws:=fun
  | 1=>⟨hi75_1,[[],[0],[0,1],[0,1,2],[],[],.range 6,.range 7,.range 8,.range 8,[],[0,1,2,3,4,5,6,7,8,10],.range 12],[0,1,2,3,4,5,6,7,8,11,9,10,12]⟩
  | _=>⟨.nil,[],[]⟩
@[go_sem] theorem RR (i:Nat):hi75.acts i=[]:=rfl
theorem Pn (i:Nat):hi75.views i=none:=rfl
attribute [go_sem] Pn Tryz.ntmps75 Tryz.results75
@[go_sem] theorem RG:(hi75.draws 1).order=hi75_1:=rfl
theorem pl {rec:GShow→(List (ByteArray × Bool))→GState→Option (Bool × (List (ByteArray × Bool)))}(hrec:∀ {g_s:GShow} {g_known:List (ByteArray × Bool)} {v1:GState} {res:Bool × (List (ByteArray × Bool))},rec g_s g_known v1=some res→ao Tryz.prog 84 [.ptr 10000 0 0 0,.agg (GState.encS v1)] [(10000,0,.var [.sl (ae GNode.encS g_s.nodes),.sl (ae GTie.enc g_s.ties),.lit (.int .i64 g_s.horizon),.mp 10001 0]),(10001,0,.map (eM g_known))] (.lit (.bool res.1)) [(10000,0,.var [.sl (ae GNode.encS g_s.nodes),.sl (ae GTie.enc g_s.ties),.lit (.int .i64 g_s.horizon),.mp 10001 0]),(10001,0,.map (eM res.2))]){g_s:GShow}{g_known:List (ByteArray × Bool)}{v1:GState}{nodes:List Int}{res:Bool × (List (ByteArray × Bool))}(h:cK rec g_s g_known v1 nodes=some res):ao Tryz.prog 75 [.ptr 10000 0 0 0,.agg (GState.encS v1),.sl (ae eI nodes)] [(10000,0,.var [.sl (ae GNode.encS g_s.nodes),.sl (ae GTie.enc g_s.ties),.lit (.int .i64 g_s.horizon),.mp 10001 0]),(10001,0,.map (eM g_known))] (.lit (.bool res.1)) [(10000,0,.var [.sl (ae GNode.encS g_s.nodes),.sl (ae GTie.enc g_s.ties),.lit (.int .i64 g_s.horizon),.mp 10001 0]),(10001,0,.map (eM res.2))]:=by
 refine ak (ra:=[]) (md:=mdT) hT (hi:=hi75) Tryz.func75 rfl rfl (by decide +kernel) (by simp) ?_
 unfold cK at h
 try simp(config:=cS)only[go_sem]
 refine aT ?_ ?_
 ·obtain ⟨r01,g1,h⟩:=ab h
  simp(config:=cS)only[go_sem]
  refine ag (jp g1) ?_
  obtain ⟨r02,g2,h⟩:=ab h
  simp(config:=cS)only[go_sem]
  refine ag (nR g2) ?_
  obtain ⟨q06,l3,h⟩:=ab h
  simp(config:=cS)only[go_sem]
  refine al (m1:=.mk) (m2:=.mk) [.freeze [1408],.nf [0,7,8,22,23,24] [10000,10001,448,1152,1153,1154,1408]] (gU ((r02.length:Nat):Int) r01.1.now r01.1.times r01.1.values r01.2 r02 g_s.nodes g_s.ties g_s.horizon) l3 ?_ ?_
  ·simp(config:=cS)only[go_sem]
  ·intro nb4 sb4 bb4 b4 gb4
   obtain ⟨v24_1,h10001_1⟩:=sb4
   unfold cu at b4
   try dsimp only at b4
   obtain ⟨h5,b4⟩|⟨h5,b4⟩:=af b4
   ·obtain ⟨x03,g6,b4⟩:=ab b4
    obtain ⟨h7,h8,h9⟩:=ai g6
    obtain ⟨r04,g10,b4⟩:=ab b4
    simp(config:=cS)only[go_sem,eqT h5,h7,h8,h9]
    refine ag (iB g10) ?_
    obtain ⟨r05,g11,b4⟩:=ab b4
    simp(config:=cS)only[go_sem]
    refine ag (hrec g11) ?_
    obtain ⟨h12,b4⟩|⟨h12,b4⟩:=af b4
    ·cases b4
     simp(config:=cS)only[go_sem,eZt h12]
     refine an gb4 ?_
     simp(config:=cS)only[go_sem]
    ·cases b4
     obtain rfl:=(aj gb4).symm
     try dsimp only at h
     cases h
     simp(config:=cS)only[go_sem,eZf h12]
   ·cases b4
    obtain rfl:=(aj gb4).symm
    try dsimp only at h
    cases h
    simp(config:=cS)only[go_sem,eqF h5]
 ·obtain ⟨r07,g15,h⟩:=ab h
  simp(config:=cS)only[go_sem]
  refine ag (jp g15) ?_
  obtain ⟨r08,g16,h⟩:=ab h
  simp(config:=cS)only[go_sem]
  refine ag (nR g16) ?_
  obtain ⟨q12,l17,h⟩:=ab h
  simp(config:=cS)only[go_sem]
  refine al (m1:=.mk) (m2:=.mk) [.freeze [1408],.nf [0,7,8,22,23,24] [10000,10001,448,1152,1153,1154,1408]] (gU ((r08.length:Nat):Int) r07.1.now r07.1.times r07.1.values r07.2 r08 g_s.nodes g_s.ties g_s.horizon) l17 ?_ ?_
  ·simp(config:=cS)only[go_sem]
  ·intro nb18 sb18 bb18 b18 gb18
   obtain ⟨v24_2,h10001_2⟩:=sb18
   unfold cu at b18
   try dsimp only at b18
   obtain ⟨h19,b18⟩|⟨h19,b18⟩:=af b18
   ·obtain ⟨x09,g20,b18⟩:=ab b18
    obtain ⟨h21,h22,h23⟩:=ai g20
    obtain ⟨r10,g24,b18⟩:=ab b18
    simp(config:=cS)only[go_sem,eqT h19,h21,h22,h23]
    refine ag (iB g24) ?_
    obtain ⟨r11,g25,b18⟩:=ab b18
    simp(config:=cS)only[go_sem]
    refine ag (hrec g25) ?_
    obtain ⟨h26,b18⟩|⟨h26,b18⟩:=af b18
    ·cases b18
     simp(config:=cS)only[go_sem,eZt h26]
     refine an gb18 ?_
     simp(config:=cS)only[go_sem]
    ·cases b18
     obtain rfl:=(aj gb18).symm
     try dsimp only at h
     cases h
     simp(config:=cS)only[go_sem,eZf h26]
   ·cases b18
    obtain rfl:=(aj gb18).symm
    try dsimp only at h
    cases h
    simp(config:=cS)only[go_sem,eqF h19]
def lL (f c:Int)(d e:List Int)(b:List (List Int))(g:List GNode)(h:List GTie)(i:Int):(Int × (List (ByteArray × Bool)))→St
 | (j,a)=>⟨[(0,.ptr 10000 0 0 0),(3,.ptr 192 1 0 0),(13,.ref 832 1 0 b.length),(14,.lit (.int .i64 f)),(15,.lit (.int .i64 j))],[(10000,0,.var [.sl (ae GNode.encS g),.sl (ae GTie.enc h),.lit (.int .i64 i),.mp 10001 0]),(10001,0,.map (eM a)),(192,1,.var [.lit (.int .i64 c),.sl (ae eI d),.sl (ae eI e)]),(832,1,.tree (ae (eLS eI) b))],2⟩
attribute [go_sem] lL
@[go_sem] def hi92_1:DT:=.i2 0 (.i2 1 (.i2 2 (.i2 3 (.i2 4 (.i2 7 (.i2 5 (.i2 6 .nil)))))))
def hi92:Hint where
 acts:=fun _=>[]
 draws:=fun
  | 1=>⟨hi92_1,[[],[0],[0,1],[0,1,2],[],.range 5,.range 6,[]],.range 8⟩
  | _=>⟨.nil,[],[]⟩
@[go_sem] theorem RS (i:Nat):hi92.acts i=[]:=rfl
theorem Po (i:Nat):hi92.views i=none:=rfl
attribute [go_sem] Po Tryz.ntmps92 Tryz.results92
@[go_sem] theorem RH:(hi92.draws 1).order=hi92_1:=rfl
theorem qi {rec:GShow→(List (ByteArray × Bool))→GState→Option (Bool × (List (ByteArray × Bool)))}(hrec:∀ {g_s:GShow} {g_known:List (ByteArray × Bool)} {v1:GState} {res:Bool × (List (ByteArray × Bool))},rec g_s g_known v1=some res→ao Tryz.prog 84 [.ptr 10000 0 0 0,.agg (GState.encS v1)] [(10000,0,.var [.sl (ae GNode.encS g_s.nodes),.sl (ae GTie.enc g_s.ties),.lit (.int .i64 g_s.horizon),.mp 10001 0]),(10001,0,.map (eM g_known))] (.lit (.bool res.1)) [(10000,0,.var [.sl (ae GNode.encS g_s.nodes),.sl (ae GTie.enc g_s.ties),.lit (.int .i64 g_s.horizon),.mp 10001 0]),(10001,0,.map (eM res.2))]){g_s:GShow}{g_known:List (ByteArray × Bool)}{v1:GState}{res:(List Int) × Bool × (List (ByteArray × Bool))}(h:dc rec g_s g_known v1=some res):ao Tryz.prog 92 [.ptr 10000 0 0 0,.agg (GState.encS v1)] [(10000,0,.var [.sl (ae GNode.encS g_s.nodes),.sl (ae GTie.enc g_s.ties),.lit (.int .i64 g_s.horizon),.mp 10001 0]),(10001,0,.map (eM g_known))] (.tup [.sl (ae eI res.1),.lit (.bool res.2.1)]) [(10000,0,.var [.sl (ae GNode.encS g_s.nodes),.sl (ae GTie.enc g_s.ties),.lit (.int .i64 g_s.horizon),.mp 10001 0]),(10001,0,.map (eM res.2.2))]:=by
 refine ak (ra:=[.nilSl 4]) (md:=mdT) hT (hi:=hi92) Tryz.func92 rfl rfl (by decide +kernel) (by simp) ?_
 unfold dc at h
 obtain ⟨r01,g1,h⟩:=ab h
 simp(config:=cS)only[go_sem]
 refine ag (mR g1) ?_
 obtain ⟨q04,l2,h⟩:=ab h
 simp(config:=cS)only[go_sem]
 refine al (m1:=.mk) (m2:=.mk) [.freeze [832],.nf [0,3,13,14,15] [10000,10001,192,832]] (lL ((r01.length:Nat):Int) v1.now v1.times v1.values r01 g_s.nodes g_s.ties g_s.horizon) l2 ?_ ?_
 ·simp(config:=cS)only[go_sem]
 ·intro nb3 sb3 bb3 b3 gb3
  obtain ⟨v15_1,h10001_1⟩:=sb3
  unfold dT at b3
  try dsimp only at b3
  obtain ⟨h4,b3⟩|⟨h4,b3⟩:=af b3
  ·obtain ⟨x02,g5,b3⟩:=ab b3
   obtain ⟨h6,h7,h8⟩:=ai g5
   obtain ⟨r03,g9,b3⟩:=ab b3
   simp(config:=cS)only[go_sem,eqT h4,h6,h7,h8]
   refine ag (pl @hrec g9) ?_
   obtain ⟨h10,b3⟩|⟨h10,b3⟩:=af b3
   ·cases b3
    obtain rfl:=(aj gb3).symm
    try dsimp only at h
    cases h
    simp(config:=cS)only[go_sem,eZt h10]
   ·cases b3
    simp(config:=cS)only[go_sem,eZf h10]
    refine an gb3 ?_
    simp(config:=cS)only[go_sem]
  ·cases b3
   obtain rfl:=(aj gb3).symm
   try dsimp only at h
   cases h
   simp(config:=cS)only[go_sem,eqF h4]
def mv (k:ByteArray)(f c:Int)(d e:List Int)(b:List (List Int))(g:List GNode)(h:List GTie)(i:Int):(Int × (List (ByteArray × Bool)))→St
 | (j,a)=>⟨[(0,.ptr 10000 0 0 0),(3,.ptr 192 1 0 0),(5,.lit (.string k)),(8,.lit (.bool true)),(45,.ref 2880 1 0 b.length),(46,.lit (.int .i64 f)),(47,.lit (.int .i64 j))],[(10000,0,.var [.sl (ae GNode.encS g),.sl (ae GTie.enc h),.lit (.int .i64 i),.mp 10001 0]),(10001,0,.map (eM a)),(192,1,.var [.lit (.int .i64 c),.sl (ae eI d),.sl (ae eI e)]),(2880,1,.tree (ae (eLS eI) b))],2⟩
attribute [go_sem] mv
@[go_sem] def hi84_13:DT:=.i2 0 (.i2 1 (.i2 2 (.i2 3 (.i2 4 (.i2 5 (.i2 6 (.i2 7 (.i2 8 (.i2 9 (.i2 10 (.i2 11 (.i2 12 (.i2 13 .nil)))))))))))))
@[go_sem] def hi84_10:DT:=.i2 0 (.i2 1 (.i2 2 (.i2 3 (.i2 4 (.i2 7 (.i2 5 (.i2 6 .nil)))))))
@[go_sem] def hi84_3:DT:=.i2 0 (.i2 1 (.i2 2 (.i2 3 (.i2 4 (.i2 5 (.i2 6 .nil))))))
@[go_sem] def hi84_1:DT:=.i2 0 (.i2 1 (.i2 2 (.i2 3 (.i2 4 (.i2 5 (.i2 6 .nil))))))
def hi84:Hint where
 acts:=fun _=>[]
 draws:=fun
  | 1=>⟨hi84_1,[[],[0],[0,1],[0,1,2],[],.range 5,.range 6],.range 7⟩
  | 3=>⟨hi84_3,[[],[0],[0,1],[0,1,2],[],.range 5,.range 6],.range 7⟩
  | 10=>⟨hi84_10,[[],[0],[0,1],[0,1,2],[],.range 5,.range 6,[]],.range 8⟩
  | 13=>⟨hi84_13,[[],[],[1],[1,2],[1,2,3],[],[],[1,2,3,4,5,6],.range 8,.range 9,.range 10,.range 10,.range 11,.range 13],[0,1,2,3,4,5,6,7,8,9,10,12,11,13]⟩
  | _=>⟨.nil,[],[]⟩
@[go_sem] theorem RT (i:Nat):hi84.acts i=[]:=rfl
theorem Pp (i:Nat):hi84.views i=none:=rfl
attribute [go_sem] Pp Tryz.ntmps84 Tryz.results84
@[go_sem] theorem RI:(hi84.draws 1).order=hi84_1:=rfl
@[go_sem] theorem RJ:(hi84.draws 3).order=hi84_3:=rfl
@[go_sem] theorem QP:(hi84.draws 10).order=hi84_10:=rfl
@[go_sem] theorem QQ:(hi84.draws 13).order=hi84_13:=rfl
theorem wN {rec:GShow→(List (ByteArray × Bool))→GState→Option (Bool × (List (ByteArray × Bool)))}(hrec:∀ {g_s:GShow} {g_known:List (ByteArray × Bool)} {v1:GState} {res:Bool × (List (ByteArray × Bool))},rec g_s g_known v1=some res→ao Tryz.prog 84 [.ptr 10000 0 0 0,.agg (GState.encS v1)] [(10000,0,.var [.sl (ae GNode.encS g_s.nodes),.sl (ae GTie.enc g_s.ties),.lit (.int .i64 g_s.horizon),.mp 10001 0]),(10001,0,.map (eM g_known))] (.lit (.bool res.1)) [(10000,0,.var [.sl (ae GNode.encS g_s.nodes),.sl (ae GTie.enc g_s.ties),.lit (.int .i64 g_s.horizon),.mp 10001 0]),(10001,0,.map (eM res.2))]){g_s:GShow}{g_known:List (ByteArray × Bool)}{v1:GState}{res:Bool × (List (ByteArray × Bool))}(h:fI rec g_s g_known v1=some res):ao Tryz.prog 84 [.ptr 10000 0 0 0,.agg (GState.encS v1)] [(10000,0,.var [.sl (ae GNode.encS g_s.nodes),.sl (ae GTie.enc g_s.ties),.lit (.int .i64 g_s.horizon),.mp 10001 0]),(10001,0,.map (eM g_known))] (.lit (.bool res.1)) [(10000,0,.var [.sl (ae GNode.encS g_s.nodes),.sl (ae GTie.enc g_s.ties),.lit (.int .i64 g_s.horizon),.mp 10001 0]),(10001,0,.map (eM res.2))]:=by
 refine ak (ra:=[]) (md:=mdT) hT (hi:=hi84) Tryz.func84 rfl rfl (by decide +kernel) (by simp) ?_
 unfold fI at h
 obtain ⟨r01,g1,h⟩:=ab h
 simp(config:=cS)only[go_sem]
 refine ag (pk g1) ?_
 obtain ⟨h2,h⟩|⟨h2,h⟩:=af h
 ·cases h
  simp(config:=cS)only[go_sem,eZt h2]
 ·obtain ⟨r02,g3,h⟩:=ab h
  simp(config:=cS)only[go_sem,eZf h2]
  refine ag (ly g3) ?_
  obtain ⟨h4,h⟩|⟨h4,h⟩:=af h
  ·cases h
   simp(config:=cS)only[go_sem,eZt h4]
  ·obtain ⟨r03,g5,h⟩:=ab h
   simp(config:=cS)only[go_sem,eZf h4]
   refine ag (GQ g5) ?_
   obtain ⟨x04,g6,h8⟩|⟨g7,h8⟩:=Gz h
   ·cases h8
    simp(config:=cS)only[go_sem,g6]
   ·obtain ⟨r05,g9,h8⟩:=ab h8
    simp(config:=cS)only[go_sem,g7]
    refine ag (lx g9) ?_
    obtain ⟨q09,l10,h8⟩:=ab h8
    simp(config:=cS)only[go_sem]
    refine al (m1:=.mk) (m2:=.mk) [.freeze [2880],.nf [0,3,5,8,45,46,47] [10000,10001,192,2880]] (mv r03 ((r05.length:Nat):Int) v1.now v1.times v1.values r05 g_s.nodes g_s.ties g_s.horizon) l10 ?_ ?_
    ·simp(config:=cS)only[go_sem]
    ·intro nb11 sb11 bb11 b11 gb11
     obtain ⟨v47_1,h10001_1⟩:=sb11
     unfold eR at b11
     try dsimp only at b11
     obtain ⟨h12,b11⟩|⟨h12,b11⟩:=af b11
     ·obtain ⟨x06,g13,b11⟩:=ab b11
      obtain ⟨h14,h15,h16⟩:=ai g13
      obtain ⟨r07,g17,b11⟩:=ab b11
      simp(config:=cS)only[go_sem,eqT h12,h14,h15,h16]
      refine ag (ph g17) ?_
      obtain ⟨r08,g18,b11⟩:=ab b11
      simp(config:=cS)only[go_sem]
      refine ag (qi @hrec g18) ?_
      obtain ⟨h19,b11⟩|⟨h19,b11⟩:=af b11
      ·cases b11
       simp(config:=cS)only[go_sem,eZt h19]
       refine an gb11 ?_
       simp(config:=cS)only[go_sem]
      ·cases b11
       obtain rfl:=(aj gb11).symm
       try dsimp only at h8
       cases h8
       simp(config:=cS)only[go_sem,eZf h19]
     ·cases b11
      obtain rfl:=(aj gb11).symm
      try dsimp only at h8
      cases h8
      simp(config:=cS)only[go_sem,eqF h12]
theorem vf (n:Nat):∀ {g_s:GShow} {g_known:List (ByteArray × Bool)} {v1:GState} {res:Bool × (List (ByteArray × Bool))},ga n g_s g_known v1=some res→ao Tryz.prog 84 [.ptr 10000 0 0 0,.agg (GState.encS v1)] [(10000,0,.var [.sl (ae GNode.encS g_s.nodes),.sl (ae GTie.enc g_s.ties),.lit (.int .i64 g_s.horizon),.mp 10001 0]),(10001,0,.map (eM g_known))] (.lit (.bool res.1)) [(10000,0,.var [.sl (ae GNode.encS g_s.nodes),.sl (ae GTie.enc g_s.ties),.lit (.int .i64 g_s.horizon),.mp 10001 0]),(10001,0,.map (eM res.2))]:=by
 induction n with
 | zero=>intro _ _ _ _ h;cases h
 | succ n ih=>intro _ _ _ _ h;exact wN (@ih) h
theorem tn {g_s:GShow}{g_known:List (ByteArray × Bool)}{v1:GState}{res:Bool × (List (ByteArray × Bool))}(h:m_impl_game_wins g_s g_known v1=some res):ao Tryz.prog 84 [.ptr 10000 0 0 0,.agg (GState.encS v1)] [(10000,0,.var [.sl (ae GNode.encS g_s.nodes),.sl (ae GTie.enc g_s.ties),.lit (.int .i64 g_s.horizon),.mp 10001 0]),(10001,0,.map (eM g_known))] (.lit (.bool res.1)) [(10000,0,.var [.sl (ae GNode.encS g_s.nodes),.sl (ae GTie.enc g_s.ties),.lit (.int .i64 g_s.horizon),.mp 10001 0]),(10001,0,.map (eM res.2))]:=vf 40 h
theorem wO {g_s:GShow}{g_known:List (ByteArray × Bool)}{v1:GState}{nodes:List Int}{res:Bool × (List (ByteArray × Bool))}(h:kV g_s g_known v1 nodes=some res):ao Tryz.prog 75 [.ptr 10000 0 0 0,.agg (GState.encS v1),.sl (ae eI nodes)] [(10000,0,.var [.sl (ae GNode.encS g_s.nodes),.sl (ae GTie.enc g_s.ties),.lit (.int .i64 g_s.horizon),.mp 10001 0]),(10001,0,.map (eM g_known))] (.lit (.bool res.1)) [(10000,0,.var [.sl (ae GNode.encS g_s.nodes),.sl (ae GTie.enc g_s.ties),.lit (.int .i64 g_s.horizon),.mp 10001 0]),(10001,0,.map (eM res.2))]:=pl (@tn) h
theorem xL {g_s:GShow}{g_known:List (ByteArray × Bool)}{v1:GState}{res:(List Int) × Bool × (List (ByteArray × Bool))}(h:lP g_s g_known v1=some res):ao Tryz.prog 92 [.ptr 10000 0 0 0,.agg (GState.encS v1)] [(10000,0,.var [.sl (ae GNode.encS g_s.nodes),.sl (ae GTie.enc g_s.ties),.lit (.int .i64 g_s.horizon),.mp 10001 0]),(10001,0,.map (eM g_known))] (.tup [.sl (ae eI res.1),.lit (.bool res.2.1)]) [(10000,0,.var [.sl (ae GNode.encS g_s.nodes),.sl (ae GTie.enc g_s.ties),.lit (.int .i64 g_s.horizon),.mp 10001 0]),(10001,0,.map (eM res.2.2))]:=qi (@tn) h
attribute [go_sem] Tryz.ntmps173 Tryz.results173
theorem qj {nodes:List Int}{g_s:GShow}{g_known:List (ByteArray × Bool)}{v2:GState}{res:Bool × (List (ByteArray × Bool))}(h:dd nodes g_s g_known v2=some res):ao Tryz.prog 173 [.sl (ae eI nodes),.ptr 10000 0 0 0,.ptr 10003 0 0 0] [(10000,0,.var [.ptr 10001 0 0 0]),(10001,0,.var [.sl (ae GNode.encS g_s.nodes),.sl (ae GTie.enc g_s.ties),.lit (.int .i64 g_s.horizon),.mp 10002 0]),(10002,0,.map (eM g_known)),(10003,0,.var [.lit (.int .i64 v2.now),.sl (ae eI v2.times),.sl (ae eI v2.values)])] (.lit (.bool res.1)) [(10000,0,.var [.ptr 10001 0 0 0]),(10001,0,.var [.sl (ae GNode.encS g_s.nodes),.sl (ae GTie.enc g_s.ties),.lit (.int .i64 g_s.horizon),.mp 10002 0]),(10002,0,.map (eM res.2)),(10003,0,.var [.lit (.int .i64 v2.now),.sl (ae eI v2.times),.sl (ae eI v2.values)])]:=by
 refine ak (ra:=[]) (md:=mdT) hT (hi:=hi00) Tryz.func173 rfl rfl (by decide +kernel) (by simp) ?_
 unfold dd at h
 obtain ⟨r01,g1,h⟩:=ab h
 simp(config:=cS)only[go_sem]
 refine ag (wO g1) ?_
 cases h
 simp(config:=cS)only[go_sem]
def cp (h:Bool)(j:Int)(i:List (List Int))(a:List GNode)(b:List GTie)(c d:Int)(e f:List Int):(Int × (List (ByteArray × Bool)))→St
 | (k,g)=>⟨[(0,.ref 10000 0 0 i.length),(1,.fn 173 [.ptr 10001 0 0 0,.ptr 10004 0 0 0]),(7,.lit (.int .i64 j)),(8,.lit (.int .i64 k))],[(10000,0,.row h (ae (eLS eI) i)),(10001,0,.var [.ptr 10002 0 0 0]),(10002,0,.var [.sl (ae GNode.encS a),.sl (ae GTie.enc b),.lit (.int .i64 c),.mp 10003 0]),(10003,0,.map (eM g)),(10004,0,.var [.lit (.int .i64 d),.sl (ae eI e),.sl (ae eI f)])],2⟩
attribute [go_sem] cp
attribute [go_sem] Tryz.ntmps172 Tryz.results172
theorem iV {v0:List (List Int)}{g_s:GShow}{g_known:List (ByteArray × Bool)}{cap1:GState}{zb0:Bool}{res:Int × (List (List Int)) × (List (ByteArray × Bool))}(h:aU v0 g_s g_known cap1=some res):ao Tryz.prog 172 [.ref 10000 0 0 v0.length,.fn 173 [.ptr 10001 0 0 0,.ptr 10004 0 0 0]] [(10000,0,.row zb0 (ae (eLS eI) v0)),(10001,0,.var [.ptr 10002 0 0 0]),(10002,0,.var [.sl (ae GNode.encS g_s.nodes),.sl (ae GTie.enc g_s.ties),.lit (.int .i64 g_s.horizon),.mp 10003 0]),(10003,0,.map (eM g_known)),(10004,0,.var [.lit (.int .i64 cap1.now),.sl (ae eI cap1.times),.sl (ae eI cap1.values)])] (.lit (.int .i64 res.1)) [(10000,0,.row zb0 (ae (eLS eI) res.2.1)),(10001,0,.var [.ptr 10002 0 0 0]),(10002,0,.var [.sl (ae GNode.encS g_s.nodes),.sl (ae GTie.enc g_s.ties),.lit (.int .i64 g_s.horizon),.mp 10003 0]),(10003,0,.map (eM res.2.2)),(10004,0,.var [.lit (.int .i64 cap1.now),.sl (ae eI cap1.times),.sl (ae eI cap1.values)])]:=by
 refine ak (ra:=[]) (md:=mdT) hT (hi:=hi00) Tryz.func172 rfl rfl (by decide +kernel) (by simp) ?_
 unfold aU at h
 obtain ⟨q03,l1,h⟩:=ab h
 simp(config:=cS)only[go_sem]
 refine al (m1:=.mk) (m2:=.mk) [.nf [0,1,7,8] [10000,10001,10002,10003,10004]] (cp zb0 ((v0.length:Nat):Int) v0 g_s.nodes g_s.ties g_s.horizon cap1.now cap1.times cap1.values) l1 ?_ ?_
 ·simp(config:=cS)only[go_sem]
 ·intro nb2 sb2 bb2 b2 gb2
  obtain ⟨v8_1,h10003_1⟩:=sb2
  unfold aP at b2
  try dsimp only at b2
  obtain ⟨h3,b2⟩|⟨h3,b2⟩:=af b2
  ·obtain ⟨x01,g4,b2⟩:=ab b2
   obtain ⟨h5,h6,h7⟩:=ai g4
   obtain ⟨r02,g8,b2⟩:=ab b2
   simp(config:=cS)only[go_sem,eqT h3,h5,h6,h7]
   refine ag (qj g8) ?_
   obtain ⟨h9,b2⟩|⟨h9,b2⟩:=af b2
   ·cases b2
    obtain rfl:=(aj gb2).symm
    try dsimp only at h
    cases h
    simp(config:=cS)only[go_sem,eZt h9]
   ·cases b2
    simp(config:=cS)only[go_sem,eZf h9]
    refine an gb2 ?_
    simp(config:=cS)only[go_sem]
  ·cases b2
   obtain rfl:=(aj gb2).symm
   try dsimp only at h
   cases h
   simp(config:=cS)only[go_sem,eqF h3]
def co (i:Bool)(h:Nat)(a:List GNode)(b:List GTie)(c d:Int)(e f:List Int):(Int × Int × (List (List Int)) × (List (ByteArray × Bool)))→St
 | (j,k,l,g)=>⟨[(0,.ref 10000 0 0 h),(1,.fn 173 [.ptr 10001 0 0 0,.ptr 10004 0 0 0]),(5,.lit (.int .i64 j)),(6,.lit (.int .i64 k))],[(10000,0,.row i (ae (eLS eI) l)),(10001,0,.var [.ptr 10002 0 0 0]),(10002,0,.var [.sl (ae GNode.encS a),.sl (ae GTie.enc b),.lit (.int .i64 c),.mp 10003 0]),(10003,0,.map (eM g)),(10004,0,.var [.lit (.int .i64 d),.sl (ae eI e),.sl (ae eI f)])],2⟩
attribute [go_sem] co
def cy:Hint where
 acts:=fun i=>match i with | 0=>[.frIn 10000] | _=>[]
 draws:=fun
  | _=>⟨.nil,[],[]⟩
@[go_sem] theorem Oo:cy.acts 0=[.frIn 10000]:=rfl
@[go_sem] theorem Oq:cy.acts 1=[]:=rfl
@[go_sem] theorem Ot:cy.acts 2=[]:=rfl
@[go_sem] theorem Ou:cy.acts 3=[]:=rfl
@[go_sem] theorem Ov:cy.acts 4=[]:=rfl
@[go_sem] theorem Ow:cy.acts 5=[]:=rfl
@[go_sem] theorem Ox:cy.acts 7=[]:=rfl
@[go_sem] theorem Oy:cy.acts 8=[]:=rfl
@[go_sem] theorem Oz:cy.acts 9=[]:=rfl
@[go_sem] theorem Ny:cy.acts 10=[]:=rfl
@[go_sem] theorem OA:cy.acts 6=[]:=rfl
@[go_sem] theorem Nz:cy.acts 11=[]:=rfl
@[go_sem] theorem NA:cy.acts 12=[]:=rfl
theorem GR (i:Nat):cy.views i=none:=rfl
attribute [go_sem] GR Tryz.ntmps87 Tryz.results87
theorem iR {v0:List (List Int)}{g_s:GShow}{g_known:List (ByteArray × Bool)}{cap1:GState}{zb0:Bool}{res:(List (List Int)) × (List (ByteArray × Bool))}(h:aS v0 g_s g_known cap1=some res):ao Tryz.prog 87 [.ref 10000 0 0 v0.length,.fn 173 [.ptr 10001 0 0 0,.ptr 10004 0 0 0]] [(10000,0,.row zb0 (ae (eLO eI) v0)),(10001,0,.var [.ptr 10002 0 0 0]),(10002,0,.var [.sl (ae GNode.encS g_s.nodes),.sl (ae GTie.enc g_s.ties),.lit (.int .i64 g_s.horizon),.mp 10003 0]),(10003,0,.map (eM g_known)),(10004,0,.var [.lit (.int .i64 cap1.now),.sl (ae eI cap1.times),.sl (ae eI cap1.values)])] (.ref 10000 0 0 res.1.length) [(10000,0,.row false (ae (eLS eI) res.1)),(10001,0,.var [.ptr 10002 0 0 0]),(10002,0,.var [.sl (ae GNode.encS g_s.nodes),.sl (ae GTie.enc g_s.ties),.lit (.int .i64 g_s.horizon),.mp 10003 0]),(10003,0,.map (eM res.2)),(10004,0,.var [.lit (.int .i64 cap1.now),.sl (ae eI cap1.times),.sl (ae eI cap1.values)])]:=by
 refine ak (ra:=[.home 4,.trim 4]) (md:=mdT) hT (hi:=cy) Tryz.func87 rfl rfl (by decide +kernel) (by simp) ?_
 unfold aS at h
 obtain ⟨r01,g1,h⟩:=ab h
 simp(config:=cS)only[go_sem]
 refine ag (iV g1) ?_
 obtain ⟨h2,h⟩|⟨h2,h⟩:=af h
 ·obtain ⟨h3,h⟩:=ah h
  cases h
  simp(config:=cS)only[go_sem,eqT h2,eqT h3]
 ·obtain ⟨q05,l4,h⟩:=ab h
  simp(config:=cS)only[go_sem,eqF h2]
  refine al (m1:=.mk) (m2:=.mk) [.nf [0,1,5,6] [10000,10001,10002,10003,10004]] (co zb0 v0.length g_s.nodes g_s.ties g_s.horizon cap1.now cap1.times cap1.values) l4 ?_ ?_
  ·simp(config:=cS)only[go_sem]
  ·intro nb5 sb5 bb5 b5 gb5
   obtain ⟨v5_1,v6_1,v0_1,h10003_1⟩:=sb5
   unfold aO at b5
   try dsimp only at b5
   obtain ⟨h6,b5⟩|⟨h6,b5⟩:=af b5
   ·obtain ⟨h7,b5⟩:=ah b5
    obtain ⟨x02,g8,b5⟩:=ab b5
    obtain ⟨h9,h10,h11⟩:=ai g8
    obtain ⟨r03,g12,b5⟩:=ab b5
    simp(config:=cS)only[go_sem,eqT h6,eqT h7,h9,h10,h11]
    refine ag (qj g12) ?_
    obtain ⟨h13,b5⟩|⟨h13,b5⟩:=af b5
    ·cases b5
     simp(config:=cS)only[go_sem,eZt h13]
     refine an gb5 ?_
     simp(config:=cS)only[go_sem]
    ·obtain ⟨h14,b5⟩:=ah b5
     obtain ⟨x04,g15,b5⟩:=ab b5
     obtain ⟨h16,h17,h18⟩:=ai g15
     cases b5
     simp(config:=cS)only[go_sem,eZf h13,eqT h14,h16,h17,h18]
     refine an gb5 ?_
     simp(config:=cS)only[go_sem]
   ·cases b5
    obtain rfl:=(aj gb5).symm
    try dsimp only at h
    obtain ⟨h20,h⟩:=ah h
    obtain ⟨h21,h⟩:=ah h
    obtain ⟨h22,h⟩:=ah h
    obtain ⟨h23,h⟩:=ah h
    obtain ⟨h24,h⟩:=ah h
    obtain ⟨h25,h⟩:=ah h
    cases h
    simp(config:=cS)only[go_sem,eqF h6,eqT h20,eqT h21,eqT h22,eqT h23,eqT h24,eqT h25]
@[go_sem] def hi88_1:DT:=.i2 0 (.i2 1 (.i2 2 (.i2 3 (.i2 4 (.i2 6 (.i2 5 (.i2 7 (.i2 8 .nil))))))))
def hi88:Hint where
 acts:=fun _=>[]
 draws:=fun
  | 1=>⟨hi88_1,[[],[0],[0,1],[0,1,2],[],.range 5,[],.range 7,.range 8],.range 9⟩
  | _=>⟨.nil,[],[]⟩
theorem Pq (i:Nat):hi88.acts i=[]:=rfl
theorem Pr (i:Nat):hi88.views i=none:=rfl
attribute [go_sem] Pq Pr Tryz.ntmps88 Tryz.results88
@[go_sem] theorem RK:(hi88.draws 1).order=hi88_1:=rfl
theorem yE {g_s:GShow}{g_known:List (ByteArray × Bool)}{v1:GState}{res:(List (List Int)) × (List (ByteArray × Bool))}(h:ib g_s g_known v1=some res):ao Tryz.prog 88 [.ptr 10000 0 0 0,.agg (GState.encS v1)] [(10000,0,.var [.sl (ae GNode.encS g_s.nodes),.sl (ae GTie.enc g_s.ties),.lit (.int .i64 g_s.horizon),.mp 10001 0]),(10001,0,.map (eM g_known))] (.ref 20000 1 0 res.1.length) [(10000,0,.var [.sl (ae GNode.encS g_s.nodes),.sl (ae GTie.enc g_s.ties),.lit (.int .i64 g_s.horizon),.mp 10001 0]),(10001,0,.map (eM res.2)),(20000,1,.row false (ae (eLS eI) res.1))]:=by
 refine ak (ra:=[.home 4,.trim 4]) (md:=mdT) hT (hi:=hi88) Tryz.func88 rfl rfl (by decide +kernel) (by simp) ?_
 unfold ib at h
 obtain ⟨r01,g1,h⟩:=ab h
 simp(config:=cS)only[go_sem]
 refine ag (mR g1) ?_
 obtain ⟨r02,g2,h⟩:=ab h
 simp(config:=cS)only[go_sem]
 refine ag (iR g2) ?_
 cases h
 simp(config:=cS)only[go_sem]
attribute [go_sem] Tryz.ntmps86 Tryz.results86
theorem Eh {list:List (List Int)}{lazy:Bool}{res:(List Int) × Bool}(h:kW list lazy=some res):ao Tryz.prog 86 [.sl (ae (eLS eI) list),.lit (.bool lazy)] [] (.tup [.sl (ae eI res.1),.lit (.bool res.2)]) []:=by
 refine ak (ra:=[.nilSl 4]) (md:=mdT) hT (hi:=hi00) Tryz.func86 rfl rfl (by decide +kernel) (by simp) ?_
 unfold kW at h
 obtain ⟨h1,h⟩|⟨h1,h⟩:=af h
 ·cases h
  simp(config:=cS)only[go_sem,eqT h1]
 ·obtain ⟨h2,h⟩|⟨h2,h⟩:=af h
  ·obtain ⟨x01,g3,h⟩:=ab h
   obtain ⟨h4,h5,h6⟩:=ai g3
   cases h
   simp(config:=cS)only[go_sem,eqF h1,eZt h2,h4,h5,h6]
  ·obtain ⟨x02,g7,h⟩:=ab h
   obtain ⟨h9,h10⟩:=cR (k:=0) g7
   cases h
   simp(config:=cS)only[go_sem,eqF h1,eZf h2,h9,h10]
attribute [go_sem] Tryz.ntmps91 Tryz.results91
theorem ry {g_s:GShow}{g_known:List (ByteArray × Bool)}{v1:GState}{d:GDesk}{res:(List Int) × Bool × (List (ByteArray × Bool))}(h:fJ g_s g_known v1 d=some res):ao Tryz.prog 91 [.ptr 10000 0 0 0,.agg (GState.encS v1),.loc [.sl (ae GNode.encS d.show_.nodes),.sl (ae GTie.enc d.show_.ties),.lit (.int .i64 d.show_.horizon),.lit (.int .i64 d.state.now),.sl (ae eI d.state.times),.sl (ae eI d.state.values),.lit (.bool d.lazy),.sl (ae GEntry.encS d.log)]] [(10000,0,.var [.sl (ae GNode.encS g_s.nodes),.sl (ae GTie.enc g_s.ties),.lit (.int .i64 g_s.horizon),.mp 10001 0]),(10001,0,.map (eM g_known))] (.tup [.sl (ae eI res.1),.lit (.bool res.2.1)]) [(10000,0,.var [.sl (ae GNode.encS g_s.nodes),.sl (ae GTie.enc g_s.ties),.lit (.int .i64 g_s.horizon),.mp 10001 0]),(10001,0,.map (eM res.2.2))]:=by
 refine ak (ra:=[.home 5]) (md:=mdT) hT (hi:=hi00) Tryz.func91 rfl rfl (by decide +kernel) (by simp) ?_
 unfold fJ at h
 obtain ⟨h1,h⟩|⟨h1,h⟩:=af h
 ·obtain ⟨r01,g2,h⟩:=ab h
  simp(config:=cS)only[go_sem,eZt h1]
  refine ag (yE g2) ?_
  obtain ⟨r02,g3,h⟩:=ab h
  simp(config:=cS)only[go_sem]
  refine ag (Eh g3) ?_
  cases h
  simp(config:=cS)only[go_sem]
 ·obtain ⟨r03,g4,h⟩:=ab h
  simp(config:=cS)only[go_sem,eZf h1]
  refine ag (xL g4) ?_
  cases h
  simp(config:=cS)only[go_sem]
def nS (a d:List Int)(e:Int):(Int × (List Int))→St
 | (c,b)=>⟨[(1,.sl (ae eI a)),(5,.ref 383 1 0 b.length),(8,.sl (ae eI d)),(9,.lit (.int .i64 e)),(10,.lit (.int .i64 c))],[(383,1,.row true (ae eI b))],2⟩
attribute [go_sem] nS
attribute [go_sem] Tryz.ntmps162 Tryz.results162
theorem ug {props values res:List Int}(h:iM props values=some res):ao Tryz.prog 162 [.sl (ae eI props),.sl (ae eI values)] [] (.ref 20000 1 0 res.length) [(20000,1,.row true (ae eI res))]:=by
 refine ak (ra:=[.home 4]) (md:=mdT) hT (hi:=hi00) Tryz.func162 rfl rfl (by decide +kernel) (by simp) ?_
 unfold iM at h
 obtain ⟨q03,l1,h⟩:=ab h
 simp(config:=cS)only[go_sem]
 refine al (m1:=.mk) (m2:=.mk) [.home 5,.nf [1,5,8,9,10] [383]] (nS values props ((props.length:Nat):Int)) l1 ?_ ?_
 ·simp(config:=cS)only[go_sem]
 ·intro nb2 sb2 bb2 b2 gb2
  obtain ⟨v10_1,out_1⟩:=sb2
  unfold fK at b2
  try dsimp only at b2
  obtain ⟨h3,b2⟩|⟨h3,b2⟩:=af b2
  ·obtain ⟨x01,g4,b2⟩:=ab b2
   obtain ⟨h5,h6,h7⟩:=ai g4
   obtain ⟨x02,g8,b2⟩:=ab b2
   obtain ⟨h9,h10,h11⟩:=ai g8
   obtain ⟨h12,b2⟩:=ah b2
   obtain ⟨h13,b2⟩:=ah b2
   cases b2
   simp(config:=cS)only[go_sem,eqT h3,h5,h6,h7,h9,h10,h11,eqT h12,eqT h13]
   refine an gb2 ?_
   simp(config:=cS)only[go_sem]
  ·cases b2
   obtain rfl:=(aj gb2).symm
   try dsimp only at h
   cases h
   simp(config:=cS)only[go_sem,eqF h3]
def bS (s h l:List Int)(t m n:Int)(o:Bool)(p:Int)(q r:List Int)(i:Int)(a:List GNode)(b:List GTie)(c d:List Int)(e:List GEntry)(f g j:List Int):(Int × (List Int))→St
 | (u,k)=>⟨[(1,.sl (ae eI s)),(2,.sl (ae eI h)),(10,.ptr 640 1 0 0),(13,.ptr 832 1 0 0),(15,.ptr 960 1 0 0),(17,.sl (ae eI l)),(19,.ptr 1216 1 0 0),(20,.ref 5506 1 0 j.length),(21,.ref 1407 1 0 k.length),(89,.ref 5506 1 0 j.length),(90,.lit (.int .i64 t)),(91,.lit (.int .i64 u))],[(640,1,.var [.lit (.slice none 0 0),.lit (.slice none 0 0),.lit (.int .i64 0),.lit (.int .i64 0),.lit (.slice none 0 0),.lit (.slice none 0 0),.lit (.bool false),.lit (.slice none 0 0)]),(832,1,.var [.ref 1600 1 0 a.length,.ref 1601 1 0 b.length,.lit (.int .i64 m),.lit (.int .i64 n),.ref 1602 1 0 c.length,.ref 1603 1 0 d.length,.lit (.bool o),.ref 1604 1 0 e.length]),(1600,1,.row true (ae GNode.encO a)),(1601,1,.row true (ae GTie.enc b)),(1602,1,.row true (ae eI c)),(1603,1,.row true (ae eI d)),(1604,1,.row true (ae GEntry.encO e)),(960,1,.var [.lit (.int .i64 p),.sl (ae eI q),.sl (ae eI r)]),(1216,1,.var [.lit (.int .i64 i),.ref 5504 1 0 f.length,.ref 5505 1 0 g.length]),(5504,1,.row true (ae eI f)),(5505,1,.row true (ae eI g)),(5506,1,.row true (ae eI j)),(1407,1,.row true (ae eI k))],2⟩
attribute [go_sem] bS
@[go_sem] def hi71_s91_22:DT:=.i1 0 (.i2 1 (.i0 2 [0] (.i2 3 (.i2 4 (.i2 5 .nil)))))
@[go_sem] def hi71_s91_21:DT:=.i1 0 (.i1 1 (.i1 2 (.i1 3 (.i2 4 (.i2 6 (.i2 8 (.i2 9 (.i0 5 [0,1,2,3] (.i0 7 [0,1,2,3] (.i0 10 [0,1,2,3] (.i2 11 (.i0 12 [0,1] (.i2 13 (.i2 14 (.i2 15 .nil)))))))))))))))
@[go_sem] def hi71_s91_10:DT:=.i2 0 (.i2 1 (.i1 3 (.i0 2 [3] (.i2 4 (.i2 5 (.i2 6 (.i2 7 (.i2 8 (.i2 9 .nil)))))))))
@[go_sem] def hi71_s91_4:DT:=.i1 0 (.i1 1 (.i1 2 (.i1 3 (.fork (.i0 4 [0,1,2,3] (.i0 5 [0,1,2,3] (.i0 6 [2,3] (.i2 7 .nil)))) (.i0 5 [0,1,2,3] (.i0 4 [0,1,2,3] (.i0 6 [2,3] (.i2 7 .nil))))))))
def mS:Hint where
 acts:=fun _=>[]
 draws:=fun
  | 4=>⟨hi71_s91_4,[[],[0],[],[2],[],[],[0,1,4,5],.range 7],[0,1,5,6,2,3,4,7]⟩
  | 10=>⟨hi71_s91_10,[[],[],[1],[],[0,1,2,3],.range 5,.range 6,.range 6,.range 7,.range 9],[0,1,2,3,4,5,6,8,7,9]⟩
  | 21=>⟨hi71_s91_21,[[],[0],[],[2],[],[4],[],[4,5,6],[],[],[4,5,6,7,8,9],[2,3,4,5,6,7,8,9,10],[2,3,4,5,6,7,8,9,10,11],.range 13,.range 14,.range 15],.range 16⟩
  | 22=>⟨hi71_s91_22,[[],[],[1],[0,1,2],[0,1,2,3],.range 5],.range 6⟩
  | _=>⟨.nil,[],[]⟩
theorem Ih (i:Nat):mS.acts i=[]:=rfl
theorem Ii (i:Nat):mS.views i=none:=rfl
attribute [go_sem] Ih Ii Tryz.ntmps71 Tryz.results71
@[go_sem] theorem Ps:(mS.draws 4).order=hi71_s91_4:=rfl
@[go_sem] theorem OB:(mS.draws 10).order=hi71_s91_10:=rfl
@[go_sem] theorem OC:(mS.draws 21).order=hi71_s91_21:=rfl
@[go_sem] theorem OD:(mS.draws 22).order=hi71_s91_22:=rfl
theorem lz {d:GDesk}{ties values:List Int}{refused:Int}{d':GDesk}{res:GDesk × (List Int) × Int}(h:bl d ties values refused d'=some res):ao Tryz.prog 71 [.agg (GDesk.encS d),.sl (ae eI ties),.sl (ae eI values),.lit (.int .i64 refused),.fn 91 [.loc [.sl (ae GNode.encS d'.show_.nodes),.sl (ae GTie.enc d'.show_.ties),.lit (.int .i64 d'.show_.horizon),.lit (.int .i64 d'.state.now),.sl (ae eI d'.state.times),.sl (ae eI d'.state.values),.lit (.bool d'.lazy),.sl (ae GEntry.encS d'.log)]]] [] (.tup [.agg [.ref 20000 1 0 res.1.show_.nodes.length,.ref 20001 1 0 res.1.show_.ties.length,.lit (.int .i64 res.1.show_.horizon),.lit (.int .i64 res.1.state.now),.ref 20002 1 0 res.1.state.times.length,.ref 20003 1 0 res.1.state.values.length,.lit (.bool res.1.lazy),.ref 20004 1 0 res.1.log.length],.ref 20005 1 0 res.2.1.length,.lit (.int .i64 res.2.2)]) [(20000,1,.row true (ae GNode.encO res.1.show_.nodes)),(20001,1,.row true (ae GTie.enc res.1.show_.ties)),(20002,1,.row true (ae eI res.1.state.times)),(20003,1,.row true (ae eI res.1.state.values)),(20004,1,.row true (ae GEntry.encO res.1.log)),(20005,1,.row true (ae eI res.2.1))]:=by
 refine ak (ra:=[.homeCell 640 0,.homeCell 640 1,.homeCell 640 4,.homeCell 640 5,.homeCell 640 7,.home 11]) (md:=mdT) hT (hi:=mS) Tryz.func71 rfl rfl (by decide +kernel) (by simp) ?_
 unfold bl at h
 obtain ⟨r01,g1,h⟩:=ab h
 simp(config:=cS)only[go_sem]
 refine ag (ud g1) ?_
 obtain ⟨r02,g2,h⟩:=ab h
 simp(config:=cS)only[go_sem]
 refine ag (ir g2) ?_
 obtain ⟨h3,h⟩|⟨h3,h⟩:=af h
 ·obtain ⟨h4,h⟩|⟨h4,h⟩:=af h
  ·obtain ⟨r03,g5,h⟩:=ab h
   simp(config:=cS)only[go_sem,eZt h3,eqT h4]
   refine ag (dK (by exact fun _ _ hr=>wn hr) (by refine ⟨fun _=>?_,fun _=>?_⟩ <;> simp only [go_sem]) (fun _=>rfl) rfl g5) ?_
   obtain ⟨h6,h⟩|⟨h6,h⟩:=af h
   ·cases h
    simp(config:=cS)only[go_sem,eZt h3,eqT h4,eZt h6]
   ·try simp(config:=cS)only[go_sem,eZt h3,eqT h4,eZf h6]
    refine aT ?_ ?_
    ·obtain ⟨r04,g7,h⟩:=ab h
     simp(config:=cS)only[go_sem,eZt h3,eqT h4,eZf h6]
     refine ag (pk g7) ?_
     obtain ⟨h8,h⟩|⟨h8,h⟩:=af h
     ·cases h
      simp(config:=cS)only[go_sem,eZt h3,eqT h4,eZf h6,eZt h8]
     ·obtain ⟨r05,g9,h⟩:=ab h
      simp(config:=cS)only[go_sem,eZt h3,eqT h4,eZf h6,eZf h8]
      refine ag (ly g9) ?_
      obtain ⟨h10,h⟩|⟨h10,h⟩:=af h
      ·cases h
       simp(config:=cS)only[go_sem,eZt h3,eqT h4,eZf h6,eZf h8,eZt h10]
      ·obtain ⟨h11,h⟩|⟨h11,h⟩:=af h
       ·cases h
        simp(config:=cS)only[go_sem,eZt h3,eqT h4,eZf h6,eZf h8,eZf h10,eqT h11]
       ·obtain ⟨r06,g12,h⟩:=ab h
        simp(config:=cS)only[go_sem,eZt h3,eqT h4,eZf h6,eZf h8,eZf h10,eqF h11]
        refine ag (lx g12) ?_
        obtain ⟨r07,g13,h⟩:=ab h
        simp(config:=cS)only[go_sem,eZt h3,eqT h4,eZf h6,eZf h8,eZf h10,eqF h11]
        refine ag (sI g13) ?_
        obtain ⟨h14,h⟩|⟨h14,h⟩:=af h
        ·obtain ⟨r08,g15,h⟩:=ab h
         simp(config:=cS)only[go_sem,eZt h3,eqT h4,eZf h6,eZf h8,eZf h10,eqF h11,eZt h14]
         refine ag (ph g15) ?_
         obtain ⟨r09,g16,h⟩:=ab h
         simp(config:=cS)only[go_sem,eZt h3,eqT h4,eZf h6,eZf h8,eZf h10,eqF h11,eZt h14]
         refine ag (ve g16) ?_
         obtain ⟨r10,g17,h⟩:=ab h
         simp(config:=cS)only[go_sem,eZt h3,eqT h4,eZf h6,eZf h8,eZf h10,eqF h11,eZt h14]
         refine ag (ry g17) ?_
         obtain ⟨h18,h⟩|⟨h18,h⟩:=af h
         ·obtain ⟨r11,g19,h⟩:=ab h
          simp(config:=cS)only[go_sem,eZt h3,eqT h4,eZf h6,eZf h8,eZf h10,eqF h11,eZt h14,eZt h18]
          refine ag (jp g19) ?_
          obtain ⟨q19,l20,h⟩:=ab h
          simp(config:=cS)only[go_sem,eZt h3,eqT h4,eZf h6,eZf h8,eZf h10,eqF h11,eZt h14,eZt h18]
          refine al (m1:=.mk) (m2:=.mk) [.home 21,.nf [1,2,10,13,15,17,19,20,21,89,90,91] [640,832,1600,1601,1602,1603,1604,960,1216,5504,5505,5506,1407]] (bS ties values r10.1 ((r11.2.length:Nat):Int) r01.show_.horizon r01.state.now r01.lazy d.state.now d.state.times d.state.values r11.1.now r01.show_.nodes r01.show_.ties r01.state.times r01.state.values r01.log r11.1.times r11.1.values r11.2) l20 ?_ ?_
          ·simp(config:=cS)only[go_sem,eZt h3,eqT h4,eZf h6,eZf h8,eZf h10,eqF h11,eZt h14,eZt h18]
          ·intro nb21 sb21 bb21 b21 gb21
           obtain ⟨v91_1,seen_1⟩:=sb21
           unfold aR at b21
           try dsimp only at b21
           obtain ⟨h22,b21⟩|⟨h22,b21⟩:=af b21
           ·obtain ⟨x12,g23,b21⟩:=ab b21
            obtain ⟨h24,h25,h26⟩:=ai g23
            obtain ⟨x13,g27,b21⟩:=ab b21
            obtain ⟨h28,h29,h30⟩:=ai g27
            obtain ⟨h31,b21⟩:=ah b21
            obtain ⟨h32,b21⟩:=ah b21
            cases b21
            simp(config:=cS)only[go_sem,eZt h3,eqT h4,eZf h6,eZf h8,eZf h10,eqF h11,eZt h14,eZt h18,eqT h22,h24,h25,h26,h28,h29,h30,eqT h31,eqT h32]
            refine an gb21 ?_
            simp(config:=cS)only[go_sem,eZt h3,eqT h4,eZf h6,eZf h8,eZf h10,eqF h11,eZt h14,eZt h18,eqT h22,h24,h25,h26,h28,h29,h30,eqT h31,eqT h32]
           ·cases b21
            obtain rfl:=(aj gb21).symm
            try dsimp only at h
            obtain ⟨r14,g34,h⟩:=ab h
            simp(config:=cS)only[go_sem,eZt h3,eqT h4,eZf h6,eZf h8,eZf h10,eqF h11,eZt h14,eZt h18,eqF h22]
            refine ag (iB g34) ?_
            obtain ⟨r15,g35,h⟩:=ab h
            simp(config:=cS)only[go_sem,eZt h3,eqT h4,eZf h6,eZf h8,eZf h10,eqF h11,eZt h14,eZt h18,eqF h22]
            refine ag (aW g35) ?_
            obtain ⟨r16,g36,h⟩:=ab h
            simp(config:=cS)only[go_sem,eZt h3,eqT h4,eZf h6,eZf h8,eZf h10,eqF h11,eZt h14,eZt h18,eqF h22]
            refine ag (aW g36) ?_
            obtain ⟨r17,g37,h⟩:=ab h
            simp(config:=cS)only[go_sem,eZt h3,eqT h4,eZf h6,eZf h8,eZf h10,eqF h11,eZt h14,eZt h18,eqF h22]
            refine ag (ug g37) ?_
            obtain ⟨h38,h⟩:=ah h
            obtain ⟨h39,h⟩:=ah h
            obtain ⟨r18,g40,h⟩:=ab h
            simp(config:=cS)only[go_sem,eZt h3,eqT h4,eZf h6,eZf h8,eZf h10,eqF h11,eZt h14,eZt h18,eqF h22,eqT h38,eqT h39]
            refine ag (aW g40) ?_
            cases h
            simp(config:=cS)only[go_sem,eZt h3,eqT h4,eZf h6,eZf h8,eZf h10,eqF h11,eZt h14,eZt h18,eqF h22,eqT h38,eqT h39]
         ·cases h
          simp(config:=cS)only[go_sem,eZt h3,eqT h4,eZf h6,eZf h8,eZf h10,eqF h11,eZt h14,eZf h18]
        ·cases h
         simp(config:=cS)only[go_sem,eZt h3,eqT h4,eZf h6,eZf h8,eZf h10,eqF h11,eZf h14]
    ·obtain ⟨r20,g41,h⟩:=ab h
     simp(config:=cS)only[go_sem,eZt h3,eqT h4,eZf h6]
     refine ag (pk g41) ?_
     obtain ⟨h42,h⟩|⟨h42,h⟩:=af h
     ·cases h
      simp(config:=cS)only[go_sem,eZt h3,eqT h4,eZf h6,eZt h42]
     ·obtain ⟨r21,g43,h⟩:=ab h
      simp(config:=cS)only[go_sem,eZt h3,eqT h4,eZf h6,eZf h42]
      refine ag (ly g43) ?_
      obtain ⟨h44,h⟩|⟨h44,h⟩:=af h
      ·cases h
       simp(config:=cS)only[go_sem,eZt h3,eqT h4,eZf h6,eZf h42,eZt h44]
      ·obtain ⟨h45,h⟩|⟨h45,h⟩:=af h
       ·cases h
        simp(config:=cS)only[go_sem,eZt h3,eqT h4,eZf h6,eZf h42,eZf h44,eqT h45]
       ·obtain ⟨r22,g46,h⟩:=ab h
        simp(config:=cS)only[go_sem,eZt h3,eqT h4,eZf h6,eZf h42,eZf h44,eqF h45]
        refine ag (lx g46) ?_
        obtain ⟨r23,g47,h⟩:=ab h
        simp(config:=cS)only[go_sem,eZt h3,eqT h4,eZf h6,eZf h42,eZf h44,eqF h45]
        refine ag (sI g47) ?_
        obtain ⟨h48,h⟩|⟨h48,h⟩:=af h
        ·obtain ⟨r24,g49,h⟩:=ab h
         simp(config:=cS)only[go_sem,eZt h3,eqT h4,eZf h6,eZf h42,eZf h44,eqF h45,eZt h48]
         refine ag (ph g49) ?_
         obtain ⟨r25,g50,h⟩:=ab h
         simp(config:=cS)only[go_sem,eZt h3,eqT h4,eZf h6,eZf h42,eZf h44,eqF h45,eZt h48]
         refine ag (ve g50) ?_
         obtain ⟨r26,g51,h⟩:=ab h
         simp(config:=cS)only[go_sem,eZt h3,eqT h4,eZf h6,eZf h42,eZf h44,eqF h45,eZt h48]
         refine ag (ry g51) ?_
         obtain ⟨h52,h⟩|⟨h52,h⟩:=af h
         ·obtain ⟨r27,g53,h⟩:=ab h
          simp(config:=cS)only[go_sem,eZt h3,eqT h4,eZf h6,eZf h42,eZf h44,eqF h45,eZt h48,eZt h52]
          refine ag (jp g53) ?_
          obtain ⟨q35,l54,h⟩:=ab h
          simp(config:=cS)only[go_sem,eZt h3,eqT h4,eZf h6,eZf h42,eZf h44,eqF h45,eZt h48,eZt h52]
          refine al (m1:=.mk) (m2:=.mk) [.home 21,.nf [1,2,10,13,15,17,19,20,21,89,90,91] [640,832,1600,1601,1602,1603,1604,960,1216,5504,5505,5506,1407]] (bS ties values r26.1 ((r27.2.length:Nat):Int) r01.show_.horizon r01.state.now r01.lazy d.state.now d.state.times d.state.values r27.1.now r01.show_.nodes r01.show_.ties r01.state.times r01.state.values r01.log r27.1.times r27.1.values r27.2) l54 ?_ ?_
          ·simp(config:=cS)only[go_sem,eZt h3,eqT h4,eZf h6,eZf h42,eZf h44,eqF h45,eZt h48,eZt h52]
          ·intro nb55 sb55 bb55 b55 gb55
           obtain ⟨v91_2,seen_2⟩:=sb55
           unfold aR at b55
           try dsimp only at b55
           obtain ⟨h56,b55⟩|⟨h56,b55⟩:=af b55
           ·obtain ⟨x28,g57,b55⟩:=ab b55
            obtain ⟨h58,h59,h60⟩:=ai g57
            obtain ⟨x29,g61,b55⟩:=ab b55
            obtain ⟨h62,h63,h64⟩:=ai g61
            obtain ⟨h65,b55⟩:=ah b55
            obtain ⟨h66,b55⟩:=ah b55
            cases b55
            simp(config:=cS)only[go_sem,eZt h3,eqT h4,eZf h6,eZf h42,eZf h44,eqF h45,eZt h48,eZt h52,eqT h56,h58,h59,h60,h62,h63,h64,eqT h65,eqT h66]
            refine an gb55 ?_
            simp(config:=cS)only[go_sem,eZt h3,eqT h4,eZf h6,eZf h42,eZf h44,eqF h45,eZt h48,eZt h52,eqT h56,h58,h59,h60,h62,h63,h64,eqT h65,eqT h66]
           ·cases b55
            obtain rfl:=(aj gb55).symm
            try dsimp only at h
            obtain ⟨r30,g68,h⟩:=ab h
            simp(config:=cS)only[go_sem,eZt h3,eqT h4,eZf h6,eZf h42,eZf h44,eqF h45,eZt h48,eZt h52,eqF h56]
            refine ag (iB g68) ?_
            obtain ⟨r31,g69,h⟩:=ab h
            simp(config:=cS)only[go_sem,eZt h3,eqT h4,eZf h6,eZf h42,eZf h44,eqF h45,eZt h48,eZt h52,eqF h56]
            refine ag (aW g69) ?_
            obtain ⟨r32,g70,h⟩:=ab h
            simp(config:=cS)only[go_sem,eZt h3,eqT h4,eZf h6,eZf h42,eZf h44,eqF h45,eZt h48,eZt h52,eqF h56]
            refine ag (aW g70) ?_
            obtain ⟨r33,g71,h⟩:=ab h
            simp(config:=cS)only[go_sem,eZt h3,eqT h4,eZf h6,eZf h42,eZf h44,eqF h45,eZt h48,eZt h52,eqF h56]
            refine ag (ug g71) ?_
            obtain ⟨h72,h⟩:=ah h
            obtain ⟨h73,h⟩:=ah h
            obtain ⟨r34,g74,h⟩:=ab h
            simp(config:=cS)only[go_sem,eZt h3,eqT h4,eZf h6,eZf h42,eZf h44,eqF h45,eZt h48,eZt h52,eqF h56,eqT h72,eqT h73]
            refine ag (aW g74) ?_
            cases h
            simp(config:=cS)only[go_sem,eZt h3,eqT h4,eZf h6,eZf h42,eZf h44,eqF h45,eZt h48,eZt h52,eqF h56,eqT h72,eqT h73]
         ·cases h
          simp(config:=cS)only[go_sem,eZt h3,eqT h4,eZf h6,eZf h42,eZf h44,eqF h45,eZt h48,eZf h52]
        ·cases h
         simp(config:=cS)only[go_sem,eZt h3,eqT h4,eZf h6,eZf h42,eZf h44,eqF h45,eZf h48]
  ·cases h
   simp(config:=cS)only[go_sem,eZt h3,eqF h4]
 ·cases h
  simp(config:=cS)only[go_sem,eZf h3]
attribute [go_sem] Tryz.ntmps29 Tryz.results29
theorem pm {d:GDesk}{ties values:List Int}{res:GDesk × (List Int) × Int}(h:iN d ties values=some res):ao Tryz.prog 29 [.agg (GDesk.encS d),.sl (ae eI ties),.sl (ae eI values)] [] (.tup [.agg [.ref 20000 1 0 res.1.show_.nodes.length,.ref 20001 1 0 res.1.show_.ties.length,.lit (.int .i64 res.1.show_.horizon),.lit (.int .i64 res.1.state.now),.ref 20002 1 0 res.1.state.times.length,.ref 20003 1 0 res.1.state.values.length,.lit (.bool res.1.lazy),.ref 20004 1 0 res.1.log.length],.ref 20005 1 0 res.2.1.length,.lit (.int .i64 res.2.2)]) [(20000,1,.row true (ae GNode.encO res.1.show_.nodes)),(20001,1,.row true (ae GTie.enc res.1.show_.ties)),(20002,1,.row true (ae eI res.1.state.times)),(20003,1,.row true (ae eI res.1.state.values)),(20004,1,.row true (ae GEntry.encO res.1.log)),(20005,1,.row true (ae eI res.2.1))]:=by
 refine ak (ra:=[.homeCell 384 0,.homeCell 384 1,.homeCell 384 4,.homeCell 384 5,.homeCell 384 7,.home 7]) (md:=mdT) hT (hi:=hi00) Tryz.func29 rfl rfl (by decide +kernel) (by simp) ?_
 unfold iN at h
 obtain ⟨r01,g1,h⟩:=ab h
 simp(config:=cS)only[go_sem]
 refine ag (lz g1) ?_
 cases h
 simp(config:=cS)only[go_sem]
def qk (a b:List Int)(i:Int):St:=⟨[(0,.sl (ae eI a)),(1,.sl (ae eI b)),(5,.lit (.int .i64 i))],[],2⟩
attribute [go_sem] qk
@[go_sem] def hi37_6:DT:=.i2 0 (.i2 1 (.i2 2 (.i2 3 (.i2 4 (.i2 5 (.i2 6 (.i2 7 (.i2 8 .nil))))))))
def hi37:Hint where
 acts:=fun _=>[]
 draws:=fun
  | 6=>⟨hi37_6,[[],[],[0,1],[0,1,2],[],[],[4,5],[4,5,6],.range 8],.range 9⟩
  | _=>⟨.nil,[],[]⟩
theorem Pt (i:Nat):hi37.acts i=[]:=rfl
theorem Pu (i:Nat):hi37.views i=none:=rfl
attribute [go_sem] Pt Pu Tryz.ntmps37 Tryz.results37
@[go_sem] theorem RL:(hi37.draws 6).order=hi37_6:=rfl
theorem iu {a b:List Int}{res:Bool}(h:eE a b=some res):ao Tryz.prog 37 [.sl (ae eI a),.sl (ae eI b)] [] (.lit (.bool res)) []:=by
 refine ak (ra:=[]) (md:=mdT) hT (hi:=hi37) Tryz.func37 rfl rfl (by decide +kernel) (by simp) ?_
 unfold eE at h
 obtain ⟨h1,h⟩|⟨h1,h⟩:=af h
 ·obtain ⟨q03,l2,h⟩:=ab h
  simp(config:=cS)only[go_sem,eqT h1]
  refine al (m1:=.mk) (m2:=.mk) [.nf [0,1,5] []] (qk a b) l2 ?_ ?_
  ·simp(config:=cS)only[go_sem]
  ·intro nb3 i_1 bb3 b3 gb3
   unfold tB at b3
   try dsimp only at b3
   obtain ⟨h4,b3⟩|⟨h4,b3⟩:=af b3
   ·obtain ⟨x01,g5,b3⟩:=ab b3
    obtain ⟨h6,h7,h8⟩:=ai g5
    obtain ⟨x02,g9,b3⟩:=ab b3
    obtain ⟨h10,h11,h12⟩:=ai g9
    obtain ⟨h13,b3⟩|⟨h13,b3⟩:=af b3
    ·cases b3
     simp(config:=cS)only[go_sem,eqT h4,h6,h7,h8,h10,h11,h12,eqT h13]
     refine an gb3 ?_
     simp(config:=cS)only[go_sem]
    ·cases b3
     obtain rfl:=(aj gb3).symm
     try dsimp only at h
     cases h
     simp(config:=cS)only[go_sem,eqT h4,h6,h7,h8,h10,h11,h12,eqF h13]
   ·cases b3
    obtain rfl:=(aj gb3).symm
    try dsimp only at h
    cases h
    simp(config:=cS)only[go_sem,eqF h4]
 ·cases h
  simp(config:=cS)only[go_sem,eqF h1]
attribute [go_sem] Tryz.ntmps182 Tryz.results182
theorem CC {a b:GNode}{res:Bool}(h:sc a b=some res):ao Tryz.prog 182 [.agg (GNode.encS a),.agg (GNode.encS b)] [] (.lit (.bool res)) []:=by
 refine ak (ra:=[]) (md:=mdT) hT (hi:=hi00) Tryz.func182 rfl rfl (by decide +kernel) (by simp) ?_
 unfold sc at h
 obtain ⟨h1,h⟩|⟨h1,h⟩:=af h
 ·obtain ⟨r01,g2,h⟩:=ab h
  simp(config:=cS)only[go_sem,eqT h1]
  refine ag (iu g2) ?_
  obtain ⟨h3,h⟩|⟨h3,h⟩:=af h
  ·obtain ⟨h4,h⟩|⟨h4,h⟩:=af h
   ·cases h
    simp(config:=cS)only[go_sem,eZt h3,eqT h4]
   ·cases h
    simp(config:=cS)only[go_sem,eZt h3,eqF h4]
  ·cases h
   simp(config:=cS)only[go_sem,eZf h3]
 ·cases h
  simp(config:=cS)only[go_sem,eqF h1]
def pn (a b:List GNode)(i:Int):St:=⟨[(0,.sl (ae GNode.encS a)),(1,.sl (ae GNode.encS b)),(5,.lit (.int .i64 i))],[],2⟩
attribute [go_sem] pn
@[go_sem] def hi102_6:DT:=.i2 0 (.i2 1 (.i2 2 (.i2 3 (.i2 4 (.i2 5 (.i2 6 (.i2 7 (.i2 8 (.i2 9 .nil)))))))))
def Dw:Hint where
 acts:=fun _=>[]
 draws:=fun
  | 6=>⟨hi102_6,[[],[],[0,1],[0,1,2],[],[],[4,5],[4,5,6],.range 8,.range 9],.range 10⟩
  | _=>⟨.nil,[],[]⟩
theorem NB (i:Nat):Dw.acts i=[]:=rfl
theorem NC (i:Nat):Dw.views i=none:=rfl
attribute [go_sem] NB NC Tryz.ntmps102 Tryz.results102
@[go_sem] theorem QR:(Dw.draws 6).order=hi102_6:=rfl
theorem Bh {a b:List GNode}{res:Bool}(h:qO a b=some res):ao Tryz.prog 102 [.sl (ae GNode.encS a),.sl (ae GNode.encS b)] [] (.lit (.bool res)) []:=by
 refine ak (ra:=[]) (md:=mdT) hT (hi:=Dw) Tryz.func102 rfl rfl (by decide +kernel) (by simp) ?_
 unfold qO at h
 obtain ⟨h1,h⟩|⟨h1,h⟩:=af h
 ·obtain ⟨q04,l2,h⟩:=ab h
  simp(config:=cS)only[go_sem,eqT h1]
  refine al (m1:=.mk) (m2:=.mk) [.nf [0,1,5] []] (pn a b) l2 ?_ ?_
  ·simp(config:=cS)only[go_sem]
  ·intro nb3 i_1 bb3 b3 gb3
   unfold sw at b3
   try dsimp only at b3
   obtain ⟨h4,b3⟩|⟨h4,b3⟩:=af b3
   ·obtain ⟨x01,g5,b3⟩:=ab b3
    obtain ⟨h6,h7,h8⟩:=ai g5
    obtain ⟨x02,g9,b3⟩:=ab b3
    obtain ⟨h10,h11,h12⟩:=ai g9
    obtain ⟨r03,g13,b3⟩:=ab b3
    simp(config:=cS)only[go_sem,eqT h4,h6,h7,h8,h10,h11,h12]
    refine ag (CC g13) ?_
    obtain ⟨h14,b3⟩|⟨h14,b3⟩:=af b3
    ·cases b3
     simp(config:=cS)only[go_sem,eZt h14]
     refine an gb3 ?_
     simp(config:=cS)only[go_sem]
    ·cases b3
     obtain rfl:=(aj gb3).symm
     try dsimp only at h
     cases h
     simp(config:=cS)only[go_sem,eZf h14]
   ·cases b3
    obtain rfl:=(aj gb3).symm
    try dsimp only at h
    cases h
    simp(config:=cS)only[go_sem,eqF h4]
 ·cases h
  simp(config:=cS)only[go_sem,eqF h1]
attribute [go_sem] Tryz.ntmps183 Tryz.results183
theorem Ei {a b:GTie}{res:Bool}(h:tC a b=some res):ao Tryz.prog 183 [.agg (GTie.enc a),.agg (GTie.enc b)] [] (.lit (.bool res)) []:=by
 refine ak (ra:=[]) (md:=mdT) hT (hi:=hi00) Tryz.func183 rfl rfl (by decide +kernel) (by simp) ?_
 unfold tC at h
 obtain ⟨h1,h⟩|⟨h1,h⟩:=af h
 ·obtain ⟨h2,h⟩|⟨h2,h⟩:=af h
  ·obtain ⟨h3,h⟩|⟨h3,h⟩:=af h
   ·obtain ⟨h4,h⟩|⟨h4,h⟩:=af h
    ·obtain ⟨h5,h⟩|⟨h5,h⟩:=af h
     ·cases h
      simp(config:=cS)only[go_sem,eqT h1,eqT h2,eqT h3,eqT h4,eqT h5]
     ·cases h
      simp(config:=cS)only[go_sem,eqT h1,eqT h2,eqT h3,eqT h4,eqF h5]
    ·cases h
     simp(config:=cS)only[go_sem,eqT h1,eqT h2,eqT h3,eqF h4]
   ·cases h
    simp(config:=cS)only[go_sem,eqT h1,eqT h2,eqF h3]
  ·cases h
   simp(config:=cS)only[go_sem,eqT h1,eqF h2]
 ·cases h
  simp(config:=cS)only[go_sem,eqF h1]
def ql (a b:List GTie)(i:Int):St:=⟨[(0,.sl (ae GTie.enc a)),(1,.sl (ae GTie.enc b)),(5,.lit (.int .i64 i))],[],2⟩
attribute [go_sem] ql
@[go_sem] def hi103_6:DT:=.i2 0 (.i2 1 (.i2 2 (.i2 3 (.i2 4 (.i2 5 (.i2 6 (.i2 7 (.i2 8 (.i2 9 .nil)))))))))
def Dx:Hint where
 acts:=fun _=>[]
 draws:=fun
  | 6=>⟨hi103_6,[[],[],[0,1],[0,1,2],[],[],[4,5],[4,5,6],.range 8,.range 9],.range 10⟩
  | _=>⟨.nil,[],[]⟩
theorem ND (i:Nat):Dx.acts i=[]:=rfl
theorem NE (i:Nat):Dx.views i=none:=rfl
attribute [go_sem] ND NE Tryz.ntmps103 Tryz.results103
@[go_sem] theorem QS:(Dx.draws 6).order=hi103_6:=rfl
theorem CD {a b:List GTie}{res:Bool}(h:sd a b=some res):ao Tryz.prog 103 [.sl (ae GTie.enc a),.sl (ae GTie.enc b)] [] (.lit (.bool res)) []:=by
 refine ak (ra:=[]) (md:=mdT) hT (hi:=Dx) Tryz.func103 rfl rfl (by decide +kernel) (by simp) ?_
 unfold sd at h
 obtain ⟨h1,h⟩|⟨h1,h⟩:=af h
 ·obtain ⟨q04,l2,h⟩:=ab h
  simp(config:=cS)only[go_sem,eqT h1]
  refine al (m1:=.mk) (m2:=.mk) [.nf [0,1,5] []] (ql a b) l2 ?_ ?_
  ·simp(config:=cS)only[go_sem]
  ·intro nb3 i_1 bb3 b3 gb3
   unfold tD at b3
   try dsimp only at b3
   obtain ⟨h4,b3⟩|⟨h4,b3⟩:=af b3
   ·obtain ⟨x01,g5,b3⟩:=ab b3
    obtain ⟨h6,h7,h8⟩:=ai g5
    obtain ⟨x02,g9,b3⟩:=ab b3
    obtain ⟨h10,h11,h12⟩:=ai g9
    obtain ⟨r03,g13,b3⟩:=ab b3
    simp(config:=cS)only[go_sem,eqT h4,h6,h7,h8,h10,h11,h12]
    refine ag (Ei g13) ?_
    obtain ⟨h14,b3⟩|⟨h14,b3⟩:=af b3
    ·cases b3
     simp(config:=cS)only[go_sem,eZt h14]
     refine an gb3 ?_
     simp(config:=cS)only[go_sem]
    ·cases b3
     obtain rfl:=(aj gb3).symm
     try dsimp only at h
     cases h
     simp(config:=cS)only[go_sem,eZf h14]
   ·cases b3
    obtain rfl:=(aj gb3).symm
    try dsimp only at h
    cases h
    simp(config:=cS)only[go_sem,eqF h4]
 ·cases h
  simp(config:=cS)only[go_sem,eqF h1]
attribute [go_sem] Tryz.ntmps38 Tryz.results38
theorem CE {a b:GShow}{res:Bool}(h:se a b=some res):ao Tryz.prog 38 [.agg (GShow.encS a),.agg (GShow.encS b)] [] (.lit (.bool res)) []:=by
 refine ak (ra:=[]) (md:=mdT) hT (hi:=hi00) Tryz.func38 rfl rfl (by decide +kernel) (by simp) ?_
 unfold se at h
 obtain ⟨r01,g1,h⟩:=ab h
 simp(config:=cS)only[go_sem]
 refine ag (Bh g1) ?_
 obtain ⟨h2,h⟩|⟨h2,h⟩:=af h
 ·obtain ⟨r02,g3,h⟩:=ab h
  simp(config:=cS)only[go_sem,eZt h2]
  refine ag (CD g3) ?_
  obtain ⟨h4,h⟩|⟨h4,h⟩:=af h
  ·obtain ⟨h5,h⟩|⟨h5,h⟩:=af h
   ·cases h
    simp(config:=cS)only[go_sem,eZt h4,eqT h5]
   ·cases h
    simp(config:=cS)only[go_sem,eZt h4,eqF h5]
  ·cases h
   simp(config:=cS)only[go_sem,eZf h4]
 ·cases h
  simp(config:=cS)only[go_sem,eZf h2]
attribute [go_sem] Tryz.ntmps114 Tryz.results114
theorem Bi {a b:GState}{res:Bool}(h:qT a b=some res):ao Tryz.prog 114 [.agg (GState.encS a),.agg (GState.encS b)] [] (.lit (.bool res)) []:=by
 refine ak (ra:=[]) (md:=mdT) hT (hi:=hi00) Tryz.func114 rfl rfl (by decide +kernel) (by simp) ?_
 unfold qT at h
 obtain ⟨h1,h⟩|⟨h1,h⟩:=af h
 ·obtain ⟨r01,g2,h⟩:=ab h
  simp(config:=cS)only[go_sem,eqT h1]
  refine ag (iu g2) ?_
  obtain ⟨h3,h⟩|⟨h3,h⟩:=af h
  ·obtain ⟨r02,g4,h⟩:=ab h
   simp(config:=cS)only[go_sem,eZt h3]
   refine ag (iu g4) ?_
   obtain ⟨h5,h⟩|⟨h5,h⟩:=af h
   ·cases h
    simp(config:=cS)only[go_sem,eZt h5]
   ·cases h
    simp(config:=cS)only[go_sem,eZf h5]
  ·cases h
   simp(config:=cS)only[go_sem,eZf h3]
 ·cases h
  simp(config:=cS)only[go_sem,eqF h1]
attribute [go_sem] Tryz.ntmps195 Tryz.results195
theorem Bj {a b:GEntry}{res:Bool}(h:qU a b=some res):ao Tryz.prog 195 [.agg (GEntry.encS a),.agg (GEntry.encS b)] [] (.lit (.bool res)) []:=by
 refine ak (ra:=[]) (md:=mdT) hT (hi:=hi00) Tryz.func195 rfl rfl (by decide +kernel) (by simp) ?_
 unfold qU at h
 obtain ⟨h1,h⟩|⟨h1,h⟩:=af h
 ·obtain ⟨r01,g2,h⟩:=ab h
  simp(config:=cS)only[go_sem,eqT h1]
  refine ag (iu g2) ?_
  obtain ⟨h3,h⟩|⟨h3,h⟩:=af h
  ·obtain ⟨r02,g4,h⟩:=ab h
   simp(config:=cS)only[go_sem,eZt h3]
   refine ag (iu g4) ?_
   obtain ⟨h5,h⟩|⟨h5,h⟩:=af h
   ·obtain ⟨r03,g6,h⟩:=ab h
    simp(config:=cS)only[go_sem,eZt h5]
    refine ag (iu g6) ?_
    obtain ⟨h7,h⟩|⟨h7,h⟩:=af h
    ·cases h
     simp(config:=cS)only[go_sem,eZt h7]
    ·cases h
     simp(config:=cS)only[go_sem,eZf h7]
   ·cases h
    simp(config:=cS)only[go_sem,eZf h5]
  ·cases h
   simp(config:=cS)only[go_sem,eZf h3]
 ·cases h
  simp(config:=cS)only[go_sem,eqF h1]
def nT (a b:List GEntry)(i:Int):St:=⟨[(0,.sl (ae GEntry.encS a)),(1,.sl (ae GEntry.encS b)),(5,.lit (.int .i64 i))],[],2⟩
attribute [go_sem] nT
@[go_sem] def hi115_6:DT:=.i2 0 (.i2 1 (.i2 2 (.i2 3 (.i2 4 (.i2 5 (.i2 6 (.i2 7 (.i2 8 (.i2 9 .nil)))))))))
def Dy:Hint where
 acts:=fun _=>[]
 draws:=fun
  | 6=>⟨hi115_6,[[],[],[0,1],[0,1,2],[],[],[4,5],[4,5,6],.range 8,.range 9],.range 10⟩
  | _=>⟨.nil,[],[]⟩
theorem NF (i:Nat):Dy.acts i=[]:=rfl
theorem NG (i:Nat):Dy.views i=none:=rfl
attribute [go_sem] NF NG Tryz.ntmps115 Tryz.results115
@[go_sem] theorem QT:(Dy.draws 6).order=hi115_6:=rfl
theorem Ab {a b:List GEntry}{res:Bool}(h:pI a b=some res):ao Tryz.prog 115 [.sl (ae GEntry.encS a),.sl (ae GEntry.encS b)] [] (.lit (.bool res)) []:=by
 refine ak (ra:=[]) (md:=mdT) hT (hi:=Dy) Tryz.func115 rfl rfl (by decide +kernel) (by simp) ?_
 unfold pI at h
 obtain ⟨h1,h⟩|⟨h1,h⟩:=af h
 ·obtain ⟨q04,l2,h⟩:=ab h
  simp(config:=cS)only[go_sem,eqT h1]
  refine al (m1:=.mk) (m2:=.mk) [.nf [0,1,5] []] (nT a b) l2 ?_ ?_
  ·simp(config:=cS)only[go_sem]
  ·intro nb3 i_1 bb3 b3 gb3
   unfold rJ at b3
   try dsimp only at b3
   obtain ⟨h4,b3⟩|⟨h4,b3⟩:=af b3
   ·obtain ⟨x01,g5,b3⟩:=ab b3
    obtain ⟨h6,h7,h8⟩:=ai g5
    obtain ⟨x02,g9,b3⟩:=ab b3
    obtain ⟨h10,h11,h12⟩:=ai g9
    obtain ⟨r03,g13,b3⟩:=ab b3
    simp(config:=cS)only[go_sem,eqT h4,h6,h7,h8,h10,h11,h12]
    refine ag (Bj g13) ?_
    obtain ⟨h14,b3⟩|⟨h14,b3⟩:=af b3
    ·cases b3
     simp(config:=cS)only[go_sem,eZt h14]
     refine an gb3 ?_
     simp(config:=cS)only[go_sem]
    ·cases b3
     obtain rfl:=(aj gb3).symm
     try dsimp only at h
     cases h
     simp(config:=cS)only[go_sem,eZf h14]
   ·cases b3
    obtain rfl:=(aj gb3).symm
    try dsimp only at h
    cases h
    simp(config:=cS)only[go_sem,eqF h4]
 ·cases h
  simp(config:=cS)only[go_sem,eqF h1]
attribute [go_sem] Tryz.ntmps48 Tryz.results48
theorem LA {a b:GDesk}{res:Bool}(h:wb a b=some res):ao Tryz.prog 48 [.agg (GDesk.encS a),.agg (GDesk.encS b)] [] (.lit (.bool res)) []:=by
 refine ak (ra:=[]) (md:=mdT) hT (hi:=hi00) Tryz.func48 rfl rfl (by decide +kernel) (by simp) ?_
 unfold wb at h
 obtain ⟨r01,g1,h⟩:=ab h
 simp(config:=cS)only[go_sem]
 refine ag (CE g1) ?_
 obtain ⟨h2,h⟩|⟨h2,h⟩:=af h
 ·obtain ⟨r02,g3,h⟩:=ab h
  simp(config:=cS)only[go_sem,eZt h2]
  refine ag (Bi g3) ?_
  obtain ⟨h4,h⟩|⟨h4,h⟩:=af h
  ·obtain ⟨h5,h⟩|⟨h5,h⟩:=af h
   ·obtain ⟨r03,g6,h⟩:=ab h
    simp(config:=cS)only[go_sem,eZt h4,eqT h5]
    refine ag (Ab g6) ?_
    obtain ⟨h7,h⟩|⟨h7,h⟩:=af h
    ·cases h
     simp(config:=cS)only[go_sem,eZt h7]
    ·cases h
     simp(config:=cS)only[go_sem,eZf h7]
   ·cases h
    simp(config:=cS)only[go_sem,eZt h4,eqF h5]
  ·cases h
   simp(config:=cS)only[go_sem,eZf h4]
 ·cases h
  simp(config:=cS)only[go_sem,eZf h2]
def nU  : (Int × ByteArray)→St
 | (k,a)=>⟨[(0,.lit (.int .i64 k)),(3,.lit (.string a))],[],2⟩
attribute [go_sem] nU
attribute [go_sem] Tryz.ntmps184 Tryz.results184
theorem uh {k:Int}{res:ByteArray}(h:kG k=some res):ao Tryz.prog 184 [.lit (.int .i64 k)] [] (.lit (.string res)) []:=by
 refine ak (ra:=[]) (md:=mdT) hT (hi:=hi00) Tryz.func184 rfl rfl (by decide +kernel) (by simp) ?_
 unfold kG at h
 obtain ⟨h1,h⟩|⟨h1,h⟩:=af h
 ·cases h
  simp(config:=cS)only[go_sem,eqT h1]
 ·obtain ⟨q01,l2,h⟩:=ab h
  simp(config:=cS)only[go_sem,eqF h1]
  refine al (m1:=.mk) (m2:=.mk) [.nf [0,3] []] (nU) l2 ?_ ?_
  ·simp(config:=cS)only[go_sem]
  ·intro nb3 sb3 bb3 b3 gb3
   obtain ⟨k_1,out_1⟩:=sb3
   unfold rC at b3
   try dsimp only at b3
   obtain ⟨h4,b3⟩|⟨h4,b3⟩:=af b3
   ·obtain ⟨h5,b3⟩:=ah b3
    cases b3
    simp(config:=cS)only[go_sem,eqT h4,eqT h5]
    refine an gb3 ?_
    simp(config:=cS)only[go_sem]
   ·cases b3
    obtain rfl:=(aj gb3).symm
    try dsimp only at h
    obtain ⟨h7,h⟩:=ah h
    cases h
    simp(config:=cS)only[go_sem,eqF h4,eqT h7]
def nV (b:Bool)  : (Int × Int × (List Int))→St
 | (k,i,a)=>⟨[(0,.ref 10000 0 0 a.length),(1,.lit (.int .i64 k)),(5,.lit (.int .i64 i))],[(10000,0,.row b (ae eI a))],2⟩
attribute [go_sem] nV
attribute [go_sem] Tryz.ntmps42 Tryz.results42
theorem fS {a:List Int}{k:Int}{zb0:Bool}{res:Int × (List Int)}(h:cX a k=some res):ao Tryz.prog 42 [.ref 10000 0 0 a.length,.lit (.int .i64 k)] [(10000,0,.row zb0 (ae eI a))] (.lit (.int .i64 res.1)) [(10000,0,.row zb0 (ae eI res.2))]:=by
 refine ak (ra:=[]) (md:=mdT) hT (hi:=hi00) Tryz.func42 rfl rfl (by decide +kernel) (by simp) ?_
 unfold cX at h
 obtain ⟨q02,l1,h⟩:=ab h
 simp(config:=cS)only[go_sem]
 refine al (m1:=.mk) (m2:=.mk) [.nf [0,1,5] [10000]] (nV zb0) l1 ?_ ?_
 ·simp(config:=cS)only[go_sem]
 ·intro nb2 sb2 bb2 b2 gb2
  obtain ⟨k_1,i_1,a_1⟩:=sb2
  unfold rD at b2
  try dsimp only at b2
  obtain ⟨h3,b2⟩|⟨h3,b2⟩:=af b2
  ·obtain ⟨x01,g4,b2⟩:=ab b2
   obtain ⟨h5,h6,h7⟩:=ai g4
   cases b2
   simp(config:=cS)only[go_sem,eqT h3,h5,h6,h7]
   refine an gb2 ?_
   simp(config:=cS)only[go_sem]
  ·cases b2
   obtain rfl:=(aj gb2).symm
   try dsimp only at h
   cases h
   simp(config:=cS)only[go_sem,eqF h3]
def mw (b:Bool)  : (Int × Int × (List GNode))→St
 | (k,i,a)=>⟨[(0,.ref 10000 0 0 a.length),(1,.lit (.int .i64 k)),(5,.lit (.int .i64 i))],[(10000,0,.row b (ae GNode.encO a))],2⟩
attribute [go_sem] mw
def mI:Hint where
 acts:=fun _=>[]
 views:=fun
  | 6=>some (4,1)
  | _=>none
 draws:=fun
  | _=>⟨.nil,[],[]⟩
theorem NH (i:Nat):mI.acts i=[]:=rfl
@[go_sem] theorem QU:mI.views 0=none:=rfl
@[go_sem] theorem QV:mI.views 1=none:=rfl
@[go_sem] theorem QW:mI.views 2=none:=rfl
@[go_sem] theorem QX:mI.views 4=none:=rfl
@[go_sem] theorem QY:mI.views 5=none:=rfl
@[go_sem] theorem QZ:mI.views 6=some (4,1):=rfl
@[go_sem] theorem Ra:mI.views 7=none:=rfl
@[go_sem] theorem Rb:mI.views 8=none:=rfl
@[go_sem] theorem Rc:mI.views 3=none:=rfl
@[go_sem] theorem Rd:mI.views 9=none:=rfl
attribute [go_sem] NH Tryz.ntmps104 Tryz.results104
theorem yF {a:List GNode}{k:Int}{zb0:Bool}{res:Int × (List GNode)}(h:mZ a k=some res):ao Tryz.prog 104 [.ref 10000 0 0 a.length,.lit (.int .i64 k)] [(10000,0,.row zb0 (ae GNode.encO a))] (.lit (.int .i64 res.1)) [(10000,0,.row zb0 (ae GNode.encO res.2))]:=by
 refine ak (ra:=[]) (md:=mdT) hT (hi:=mI) Tryz.func104 rfl rfl (by decide +kernel) (by simp) ?_
 unfold mZ at h
 obtain ⟨q06,l1,h⟩:=ab h
 simp(config:=cS)only[go_sem]
 refine al (m1:=.mk) (m2:=.mk) [.nf [0,1,5] [10000]] (mw zb0) l1 ?_ ?_
 ·simp(config:=cS)only[go_sem]
 ·intro nb2 sb2 bb2 b2 gb2
  obtain ⟨k_1,i_1,a_1⟩:=sb2
  unfold qx at b2
  try dsimp only at b2
  obtain ⟨h3,b2⟩|⟨h3,b2⟩:=af b2
  ·obtain ⟨r01,g4,b2⟩:=ab b2
   simp(config:=cS)only[go_sem,eqT h3]
   refine ag (uh g4) ?_
   obtain ⟨x02,g5,b2⟩:=ab b2
   obtain ⟨h6,h7,h8⟩:=ai g5
   obtain ⟨x03,g9,b2⟩:=ab b2
   obtain ⟨h10,h11,h12⟩:=ai g9
   obtain ⟨r04,g13,b2⟩:=ab b2
   obtain ⟨h14,b2⟩:=ah b2
   simp(config:=cS)only[go_sem,eqT h3,h6,h7,h8,h10,h11,h12]
   refine vw h14 (by simp only [go_sem]) (fS g13) ?_
   obtain ⟨x05,g15,b2⟩:=ab b2
   obtain ⟨h16,h17,h18⟩:=ai g15
   cases b2
   simp(config:=cS)only[go_sem,eqT h3,h6,h7,h8,h10,h11,h12,h16,h17,h18]
   refine an gb2 ?_
   simp(config:=cS)only[go_sem,eqT h3,h6,h7,h8,h10,h11,h12,h16,h17,h18]
  ·cases b2
   obtain rfl:=(aj gb2).symm
   try dsimp only at h
   cases h
   simp(config:=cS)only[go_sem,eqF h3]
def nW (b:Bool)  : (Int × Int × (List GTie))→St
 | (k,i,a)=>⟨[(0,.ref 10000 0 0 a.length),(1,.lit (.int .i64 k)),(5,.lit (.int .i64 i))],[(10000,0,.row b (ae GTie.enc a))],2⟩
attribute [go_sem] nW
attribute [go_sem] Tryz.ntmps105 Tryz.results105
theorem Ac {a:List GTie}{k:Int}{zb0:Bool}{res:Int × (List GTie)}(h:pE a k=some res):ao Tryz.prog 105 [.ref 10000 0 0 a.length,.lit (.int .i64 k)] [(10000,0,.row zb0 (ae GTie.enc a))] (.lit (.int .i64 res.1)) [(10000,0,.row zb0 (ae GTie.enc res.2))]:=by
 refine ak (ra:=[]) (md:=mdT) hT (hi:=hi00) Tryz.func105 rfl rfl (by decide +kernel) (by simp) ?_
 unfold pE at h
 obtain ⟨q06,l1,h⟩:=ab h
 simp(config:=cS)only[go_sem]
 refine al (m1:=.mk) (m2:=.mk) [.nf [0,1,5] [10000]] (nW zb0) l1 ?_ ?_
 ·simp(config:=cS)only[go_sem]
 ·intro nb2 sb2 bb2 b2 gb2
  obtain ⟨k_1,i_1,a_1⟩:=sb2
  unfold rE at b2
  try dsimp only at b2
  obtain ⟨h3,b2⟩|⟨h3,b2⟩:=af b2
  ·obtain ⟨x01,g4,b2⟩:=ab b2
   obtain ⟨h5,h6,h7⟩:=ai g4
   obtain ⟨x02,g8,b2⟩:=ab b2
   obtain ⟨h9,h10,h11⟩:=ai g8
   obtain ⟨x03,g12,b2⟩:=ab b2
   obtain ⟨h13,h14,h15⟩:=ai g12
   obtain ⟨x04,g16,b2⟩:=ab b2
   obtain ⟨h17,h18,h19⟩:=ai g16
   obtain ⟨x05,g20,b2⟩:=ab b2
   obtain ⟨h21,h22,h23⟩:=ai g20
   cases b2
   simp(config:=cS)only[go_sem,eqT h3,h5,h6,h7,h9,h10,h11,h13,h14,h15,h17,h18,h19,h21,h22,h23]
   refine an gb2 ?_
   simp(config:=cS)only[go_sem]
  ·cases b2
   obtain rfl:=(aj gb2).symm
   try dsimp only at h
   cases h
   simp(config:=cS)only[go_sem,eqF h3]
attribute [go_sem] Tryz.ntmps40 Tryz.results40
theorem Ad {a:GShow}{k:Int}{zb0 zb1:Bool}{res:Int × (List GNode) × (List GTie)}(h:pF a k=some res):ao Tryz.prog 40 [.agg [.ref 10000 0 0 a.nodes.length,.ref 10001 0 0 a.ties.length,.lit (.int .i64 a.horizon)],.lit (.int .i64 k)] [(10000,0,.row zb0 (ae GNode.encO a.nodes)),(10001,0,.row zb1 (ae GTie.enc a.ties))] (.lit (.int .i64 res.1)) [(10000,0,.row zb0 (ae GNode.encO res.2.1)),(10001,0,.row zb1 (ae GTie.enc res.2.2))]:=by
 refine ak (ra:=[]) (md:=mdT) hT (hi:=hi00) Tryz.func40 rfl rfl (by decide +kernel) (by simp) ?_
 unfold pF at h
 obtain ⟨r01,g1,h⟩:=ab h
 simp(config:=cS)only[go_sem]
 refine ag (yF g1) ?_
 obtain ⟨r02,g2,h⟩:=ab h
 simp(config:=cS)only[go_sem]
 refine ag (Ac g2) ?_
 cases h
 simp(config:=cS)only[go_sem]
attribute [go_sem] Tryz.ntmps116 Tryz.results116
theorem yG {a:GState}{k:Int}{zb0 zb1:Bool}{res:Int × (List Int) × (List Int)}(h:na a k=some res):ao Tryz.prog 116 [.agg [.lit (.int .i64 a.now),.ref 10000 0 0 a.times.length,.ref 10001 0 0 a.values.length],.lit (.int .i64 k)] [(10000,0,.row zb0 (ae eI a.times)),(10001,0,.row zb1 (ae eI a.values))] (.lit (.int .i64 res.1)) [(10000,0,.row zb0 (ae eI res.2.1)),(10001,0,.row zb1 (ae eI res.2.2))]:=by
 refine ak (ra:=[]) (md:=mdT) hT (hi:=hi00) Tryz.func116 rfl rfl (by decide +kernel) (by simp) ?_
 unfold na at h
 obtain ⟨r01,g1,h⟩:=ab h
 simp(config:=cS)only[go_sem]
 refine ag (fS g1) ?_
 obtain ⟨r02,g2,h⟩:=ab h
 simp(config:=cS)only[go_sem]
 refine ag (fS g2) ?_
 cases h
 simp(config:=cS)only[go_sem]
def lM (b:Bool)  : (Int × Int × (List GEntry))→St
 | (k,i,a)=>⟨[(0,.ref 10000 0 0 a.length),(1,.lit (.int .i64 k)),(5,.lit (.int .i64 i))],[(10000,0,.row b (ae GEntry.encO a))],2⟩
attribute [go_sem] lM
def mJ:Hint where
 acts:=fun _=>[]
 views:=fun
  | 6=>some (4,1)
  | 7=>some (4,1)
  | 8=>some (4,1)
  | _=>none
 draws:=fun
  | _=>⟨.nil,[],[]⟩
theorem NI (i:Nat):mJ.acts i=[]:=rfl
@[go_sem] theorem Re:mJ.views 0=none:=rfl
@[go_sem] theorem Rf:mJ.views 1=none:=rfl
@[go_sem] theorem Rg:mJ.views 2=none:=rfl
@[go_sem] theorem Rh:mJ.views 4=none:=rfl
@[go_sem] theorem Ri:mJ.views 5=none:=rfl
@[go_sem] theorem Rj:mJ.views 6=some (4,1):=rfl
@[go_sem] theorem Rk:mJ.views 7=some (4,1):=rfl
@[go_sem] theorem Rl:mJ.views 8=some (4,1):=rfl
@[go_sem] theorem Rm:mJ.views 3=none:=rfl
@[go_sem] theorem Rn:mJ.views 9=none:=rfl
attribute [go_sem] NI Tryz.ntmps117 Tryz.results117
theorem xM {a:List GEntry}{k:Int}{zb0:Bool}{res:Int × (List GEntry)}(h:lS a k=some res):ao Tryz.prog 117 [.ref 10000 0 0 a.length,.lit (.int .i64 k)] [(10000,0,.row zb0 (ae GEntry.encO a))] (.lit (.int .i64 res.1)) [(10000,0,.row zb0 (ae GEntry.encO res.2))]:=by
 refine ak (ra:=[]) (md:=mdT) hT (hi:=mJ) Tryz.func117 rfl rfl (by decide +kernel) (by simp) ?_
 unfold lS at h
 obtain ⟨q08,l1,h⟩:=ab h
 simp(config:=cS)only[go_sem]
 refine al (m1:=.mk) (m2:=.mk) [.nf [0,1,5] [10000]] (lM zb0) l1 ?_ ?_
 ·simp(config:=cS)only[go_sem]
 ·intro nb2 sb2 bb2 b2 gb2
  obtain ⟨k_1,i_1,a_1⟩:=sb2
  unfold pJ at b2
  try dsimp only at b2
  obtain ⟨h3,b2⟩|⟨h3,b2⟩:=af b2
  ·obtain ⟨x01,g4,b2⟩:=ab b2
   obtain ⟨h5,h6,h7⟩:=ai g4
   obtain ⟨x02,g8,b2⟩:=ab b2
   obtain ⟨h9,h10,h11⟩:=ai g8
   obtain ⟨r03,g12,b2⟩:=ab b2
   obtain ⟨h13,b2⟩:=ah b2
   simp(config:=cS)only[go_sem,eqT h3,h5,h6,h7,h9,h10,h11]
   refine vw h13 (by simp only [go_sem]) (fS g12) ?_
   obtain ⟨x04,g14,b2⟩:=ab b2
   obtain ⟨h15,h16,h17⟩:=ai g14
   obtain ⟨r05,g18,b2⟩:=ab b2
   obtain ⟨h19,b2⟩:=ah b2
   simp(config:=cS)only[go_sem,eqT h3,h5,h6,h7,h9,h10,h11,h15,h16,h17]
   refine vw h19 (by simp only [go_sem]) (fS g18) ?_
   obtain ⟨x06,g20,b2⟩:=ab b2
   obtain ⟨h21,h22,h23⟩:=ai g20
   obtain ⟨r07,g24,b2⟩:=ab b2
   obtain ⟨h25,b2⟩:=ah b2
   simp(config:=cS)only[go_sem,eqT h3,h5,h6,h7,h9,h10,h11,h15,h16,h17,h21,h22,h23]
   refine vw h25 (by simp only [go_sem]) (fS g24) ?_
   cases b2
   simp(config:=cS)only[go_sem,eqT h3,h5,h6,h7,h9,h10,h11,h15,h16,h17,h21,h22,h23]
   refine an gb2 ?_
   simp(config:=cS)only[go_sem,eqT h3,h5,h6,h7,h9,h10,h11,h15,h16,h17,h21,h22,h23]
  ·cases b2
   obtain rfl:=(aj gb2).symm
   try dsimp only at h
   cases h
   simp(config:=cS)only[go_sem,eqF h3]
attribute [go_sem] Tryz.ntmps49 Tryz.results49
theorem JW {a:GDesk}{k:Int}{zb0 zb1 zb2 zb3 zb4:Bool}{res:Int × (List GNode) × (List GTie) × (List Int) × (List Int) × (List GEntry)}(h:uk a k=some res):ao Tryz.prog 49 [.agg [.ref 10000 0 0 a.show_.nodes.length,.ref 10001 0 0 a.show_.ties.length,.lit (.int .i64 a.show_.horizon),.lit (.int .i64 a.state.now),.ref 10002 0 0 a.state.times.length,.ref 10003 0 0 a.state.values.length,.lit (.bool a.lazy),.ref 10004 0 0 a.log.length],.lit (.int .i64 k)] [(10000,0,.row zb0 (ae GNode.encO a.show_.nodes)),(10001,0,.row zb1 (ae GTie.enc a.show_.ties)),(10002,0,.row zb2 (ae eI a.state.times)),(10003,0,.row zb3 (ae eI a.state.values)),(10004,0,.row zb4 (ae GEntry.encO a.log))] (.lit (.int .i64 res.1)) [(10000,0,.row zb0 (ae GNode.encO res.2.1)),(10001,0,.row zb1 (ae GTie.enc res.2.2.1)),(10002,0,.row zb2 (ae eI res.2.2.2.1)),(10003,0,.row zb3 (ae eI res.2.2.2.2.1)),(10004,0,.row zb4 (ae GEntry.encO res.2.2.2.2.2))]:=by
 refine ak (ra:=[]) (md:=mdT) hT (hi:=hi00) Tryz.func49 rfl rfl (by decide +kernel) (by simp) ?_
 unfold uk at h
 obtain ⟨r01,g1,h⟩:=ab h
 simp(config:=cS)only[go_sem]
 refine ag (Ad g1) ?_
 obtain ⟨r02,g2,h⟩:=ab h
 simp(config:=cS)only[go_sem]
 refine ag (yG g2) ?_
 obtain ⟨r03,g3,h⟩:=ab h
 simp(config:=cS)only[go_sem]
 refine ag (xM g3) ?_
 cases h
 simp(config:=cS)only[go_sem]
def nX (a:List Int):(Int × Int)→St
 | (k,i)=>⟨[(0,.sl (ae eI a)),(1,.lit (.int .i64 k)),(5,.lit (.int .i64 i))],[],2⟩
attribute [go_sem] nX
attribute [go_sem] Tryz.ntmps43 Tryz.results43
theorem fT {a:List Int}{k res:Int}(h:cY a k=some res):ao Tryz.prog 43 [.sl (ae eI a),.lit (.int .i64 k)] [] (.lit (.int .i64 res)) []:=by
 refine ak (ra:=[]) (md:=mdT) hT (hi:=hi00) Tryz.func43 rfl rfl (by decide +kernel) (by simp) ?_
 unfold cY at h
 obtain ⟨q02,l1,h⟩:=ab h
 simp(config:=cS)only[go_sem]
 refine al (m1:=.mk) (m2:=.mk) [.nf [0,1,5] []] (nX a) l1 ?_ ?_
 ·simp(config:=cS)only[go_sem]
 ·intro nb2 sb2 bb2 b2 gb2
  obtain ⟨k_1,i_1⟩:=sb2
  unfold rG at b2
  try dsimp only at b2
  obtain ⟨h3,b2⟩|⟨h3,b2⟩:=af b2
  ·obtain ⟨x01,g4,b2⟩:=ab b2
   obtain ⟨h5,h6,h7⟩:=ai g4
   obtain ⟨h8,b2⟩|⟨h8,b2⟩:=af b2
   ·cases b2
    simp(config:=cS)only[go_sem,eqT h3,h5,h6,h7,eqT h8]
    refine an gb2 ?_
    simp(config:=cS)only[go_sem]
   ·cases b2
    obtain rfl:=(aj gb2).symm
    try dsimp only at h
    cases h
    simp(config:=cS)only[go_sem,eqT h3,h5,h6,h7,eqF h8]
  ·cases b2
   obtain rfl:=(aj gb2).symm
   try dsimp only at h
   cases h
   simp(config:=cS)only[go_sem,eqF h3]
def my (a:List GNode):(Int × Int)→St
 | (k,i)=>⟨[(0,.sl (ae GNode.encS a)),(1,.lit (.int .i64 k)),(5,.lit (.int .i64 i))],[],2⟩
attribute [go_sem] my
@[go_sem] def hi196_4:DT:=.i2 0 (.i2 1 (.i1 2 (.i1 3 (.i1 4 (.i2 5 (.i0 6 [2,3,4] (.i2 7 .nil)))))))
def Dz:Hint where
 acts:=fun _=>[]
 draws:=fun
  | 4=>⟨hi196_4,[[],[],[0,1],[0,1,2],[0,1,2,3],[],[5],.range 7],.range 8⟩
  | _=>⟨.nil,[],[]⟩
theorem NJ (i:Nat):Dz.acts i=[]:=rfl
theorem NK (i:Nat):Dz.views i=none:=rfl
attribute [go_sem] NJ NK Tryz.ntmps196 Tryz.results196
@[go_sem] theorem Ro:(Dz.draws 4).order=hi196_4:=rfl
theorem yH {a:List GNode}{k res:Int}(h:nb a k=some res):ao Tryz.prog 196 [.sl (ae GNode.encS a),.lit (.int .i64 k)] [] (.lit (.int .i64 res)) []:=by
 refine ak (ra:=[]) (md:=mdT) hT (hi:=Dz) Tryz.func196 rfl rfl (by decide +kernel) (by simp) ?_
 unfold nb at h
 obtain ⟨q04,l1,h⟩:=ab h
 simp(config:=cS)only[go_sem]
 refine al (m1:=.mk) (m2:=.mk) [.nf [0,1,5] []] (my a) l1 ?_ ?_
 ·simp(config:=cS)only[go_sem]
 ·intro nb2 sb2 bb2 b2 gb2
  obtain ⟨k_1,i_1⟩:=sb2
  unfold qy at b2
  try dsimp only at b2
  obtain ⟨h3,b2⟩|⟨h3,b2⟩:=af b2
  ·obtain ⟨x01,g4,b2⟩:=ab b2
   obtain ⟨h5,h6,h7⟩:=ai g4
   obtain ⟨r02,g8,b2⟩:=ab b2
   simp(config:=cS)only[go_sem,eqT h3,h5,h6,h7]
   refine ag (uh g8) ?_
   obtain ⟨h9,b2⟩|⟨h9,b2⟩:=af b2
   ·obtain ⟨r03,g10,b2⟩:=ab b2
    simp(config:=cS)only[go_sem,eqT h3,h5,h6,h7,eqT h9]
    refine ag (fT g10) ?_
    obtain ⟨h11,b2⟩|⟨h11,b2⟩:=af b2
    ·cases b2
     obtain rfl:=(aj gb2).symm
     try dsimp only at h
     cases h
     simp(config:=cS)only[go_sem,eqT h3,h5,h6,h7,eqT h9,eqT h11]
    ·obtain ⟨h13,b2⟩|⟨h13,b2⟩:=af b2
     ·cases b2
      simp(config:=cS)only[go_sem,eqT h3,h5,h6,h7,eqT h9,eqF h11,eqT h13]
      refine an gb2 ?_
      simp(config:=cS)only[go_sem,eqT h3,h5,h6,h7,eqT h9,eqF h11,eqT h13]
     ·cases b2
      obtain rfl:=(aj gb2).symm
      try dsimp only at h
      cases h
      simp(config:=cS)only[go_sem,eqT h3,h5,h6,h7,eqT h9,eqF h11,eqF h13]
   ·cases b2
    obtain rfl:=(aj gb2).symm
    try dsimp only at h
    cases h
    simp(config:=cS)only[go_sem,eqT h3,h5,h6,h7,eqF h9]
  ·cases b2
   obtain rfl:=(aj gb2).symm
   try dsimp only at h
   cases h
   simp(config:=cS)only[go_sem,eqF h3]
def nY (a:List GTie):(Int × Int)→St
 | (k,i)=>⟨[(0,.sl (ae GTie.enc a)),(1,.lit (.int .i64 k)),(5,.lit (.int .i64 i))],[],2⟩
attribute [go_sem] nY
attribute [go_sem] Tryz.ntmps197 Tryz.results197
theorem Ae {a:List GTie}{k res:Int}(h:pK a k=some res):ao Tryz.prog 197 [.sl (ae GTie.enc a),.lit (.int .i64 k)] [] (.lit (.int .i64 res)) []:=by
 refine ak (ra:=[]) (md:=mdT) hT (hi:=hi00) Tryz.func197 rfl rfl (by decide +kernel) (by simp) ?_
 unfold pK at h
 obtain ⟨q02,l1,h⟩:=ab h
 simp(config:=cS)only[go_sem]
 refine al (m1:=.mk) (m2:=.mk) [.nf [0,1,5] []] (nY a) l1 ?_ ?_
 ·simp(config:=cS)only[go_sem]
 ·intro nb2 sb2 bb2 b2 gb2
  obtain ⟨k_1,i_1⟩:=sb2
  unfold rK at b2
  try dsimp only at b2
  obtain ⟨h3,b2⟩|⟨h3,b2⟩:=af b2
  ·obtain ⟨x01,g4,b2⟩:=ab b2
   obtain ⟨h5,h6,h7⟩:=ai g4
   obtain ⟨h8,b2⟩|⟨h8,b2⟩:=af b2
   ·obtain ⟨h9,b2⟩|⟨h9,b2⟩:=af b2
    ·obtain ⟨h10,b2⟩|⟨h10,b2⟩:=af b2
     ·obtain ⟨h11,b2⟩|⟨h11,b2⟩:=af b2
      ·obtain ⟨h12,b2⟩|⟨h12,b2⟩:=af b2
       ·cases b2
        simp(config:=cS)only[go_sem,eqT h3,h5,h6,h7,eqT h8,eqT h9,eqT h10,eqT h11,eqT h12]
        refine an gb2 ?_
        simp(config:=cS)only[go_sem]
       ·cases b2
        obtain rfl:=(aj gb2).symm
        try dsimp only at h
        cases h
        simp(config:=cS)only[go_sem,eqT h3,h5,h6,h7,eqT h8,eqT h9,eqT h10,eqT h11,eqF h12]
      ·cases b2
       obtain rfl:=(aj gb2).symm
       try dsimp only at h
       cases h
       simp(config:=cS)only[go_sem,eqT h3,h5,h6,h7,eqT h8,eqT h9,eqT h10,eqF h11]
     ·cases b2
      obtain rfl:=(aj gb2).symm
      try dsimp only at h
      cases h
      simp(config:=cS)only[go_sem,eqT h3,h5,h6,h7,eqT h8,eqT h9,eqF h10]
    ·cases b2
     obtain rfl:=(aj gb2).symm
     try dsimp only at h
     cases h
     simp(config:=cS)only[go_sem,eqT h3,h5,h6,h7,eqT h8,eqF h9]
   ·cases b2
    obtain rfl:=(aj gb2).symm
    try dsimp only at h
    cases h
    simp(config:=cS)only[go_sem,eqT h3,h5,h6,h7,eqF h8]
  ·cases b2
   obtain rfl:=(aj gb2).symm
   try dsimp only at h
   cases h
   simp(config:=cS)only[go_sem,eqF h3]
attribute [go_sem] Tryz.ntmps118 Tryz.results118
theorem Af {a:GShow}{k res:Int}(h:pL a k=some res):ao Tryz.prog 118 [.agg (GShow.encS a),.lit (.int .i64 k)] [] (.lit (.int .i64 res)) []:=by
 refine ak (ra:=[]) (md:=mdT) hT (hi:=hi00) Tryz.func118 rfl rfl (by decide +kernel) (by simp) ?_
 unfold pL at h
 obtain ⟨r01,g1,h⟩:=ab h
 simp(config:=cS)only[go_sem]
 refine ag (yH g1) ?_
 obtain ⟨h2,h⟩|⟨h2,h⟩:=af h
 ·cases h
  simp(config:=cS)only[go_sem,eqT h2]
 ·obtain ⟨r02,g3,h⟩:=ab h
  simp(config:=cS)only[go_sem,eqF h2]
  refine ag (Ae g3) ?_
  obtain ⟨h4,h⟩|⟨h4,h⟩:=af h
  ·cases h
   simp(config:=cS)only[go_sem,eqT h4]
  ·cases h
   simp(config:=cS)only[go_sem,eqF h4]
attribute [go_sem] Tryz.ntmps119 Tryz.results119
theorem yI {a:GState}{k res:Int}(h:nc a k=some res):ao Tryz.prog 119 [.agg (GState.encS a),.lit (.int .i64 k)] [] (.lit (.int .i64 res)) []:=by
 refine ak (ra:=[]) (md:=mdT) hT (hi:=hi00) Tryz.func119 rfl rfl (by decide +kernel) (by simp) ?_
 unfold nc at h
 obtain ⟨r01,g1,h⟩:=ab h
 simp(config:=cS)only[go_sem]
 refine ag (fT g1) ?_
 obtain ⟨h2,h⟩|⟨h2,h⟩:=af h
 ·cases h
  simp(config:=cS)only[go_sem,eqT h2]
 ·obtain ⟨r02,g3,h⟩:=ab h
  simp(config:=cS)only[go_sem,eqF h2]
  refine ag (fT g3) ?_
  obtain ⟨h4,h⟩|⟨h4,h⟩:=af h
  ·cases h
   simp(config:=cS)only[go_sem,eqT h4]
  ·cases h
   simp(config:=cS)only[go_sem,eqF h4]
def lN (a:List GEntry):(Int × Int)→St
 | (k,i)=>⟨[(0,.sl (ae GEntry.encS a)),(1,.lit (.int .i64 k)),(5,.lit (.int .i64 i))],[],2⟩
attribute [go_sem] lN
attribute [go_sem] Tryz.ntmps120 Tryz.results120
theorem xN {a:List GEntry}{k res:Int}(h:lT a k=some res):ao Tryz.prog 120 [.sl (ae GEntry.encS a),.lit (.int .i64 k)] [] (.lit (.int .i64 res)) []:=by
 refine ak (ra:=[]) (md:=mdT) hT (hi:=hi00) Tryz.func120 rfl rfl (by decide +kernel) (by simp) ?_
 unfold lT at h
 obtain ⟨q05,l1,h⟩:=ab h
 simp(config:=cS)only[go_sem]
 refine al (m1:=.mk) (m2:=.mk) [.nf [0,1,5] []] (lN a) l1 ?_ ?_
 ·simp(config:=cS)only[go_sem]
 ·intro nb2 sb2 bb2 b2 gb2
  obtain ⟨k_1,i_1⟩:=sb2
  unfold pM at b2
  try dsimp only at b2
  obtain ⟨h3,b2⟩|⟨h3,b2⟩:=af b2
  ·obtain ⟨x01,g4,b2⟩:=ab b2
   obtain ⟨h5,h6,h7⟩:=ai g4
   obtain ⟨h8,b2⟩|⟨h8,b2⟩:=af b2
   ·obtain ⟨r02,g9,b2⟩:=ab b2
    simp(config:=cS)only[go_sem,eqT h3,h5,h6,h7,eqT h8]
    refine ag (fT g9) ?_
    obtain ⟨h10,b2⟩|⟨h10,b2⟩:=af b2
    ·cases b2
     obtain rfl:=(aj gb2).symm
     try dsimp only at h
     cases h
     simp(config:=cS)only[go_sem,eqT h3,h5,h6,h7,eqT h8,eqT h10]
    ·obtain ⟨r03,g12,b2⟩:=ab b2
     simp(config:=cS)only[go_sem,eqT h3,h5,h6,h7,eqT h8,eqF h10]
     refine ag (fT g12) ?_
     obtain ⟨h13,b2⟩|⟨h13,b2⟩:=af b2
     ·cases b2
      obtain rfl:=(aj gb2).symm
      try dsimp only at h
      cases h
      simp(config:=cS)only[go_sem,eqT h3,h5,h6,h7,eqT h8,eqF h10,eqT h13]
     ·obtain ⟨r04,g15,b2⟩:=ab b2
      simp(config:=cS)only[go_sem,eqT h3,h5,h6,h7,eqT h8,eqF h10,eqF h13]
      refine ag (fT g15) ?_
      obtain ⟨h16,b2⟩|⟨h16,b2⟩:=af b2
      ·cases b2
       obtain rfl:=(aj gb2).symm
       try dsimp only at h
       cases h
       simp(config:=cS)only[go_sem,eqT h3,h5,h6,h7,eqT h8,eqF h10,eqF h13,eqT h16]
      ·cases b2
       simp(config:=cS)only[go_sem,eqT h3,h5,h6,h7,eqT h8,eqF h10,eqF h13,eqF h16]
       refine an gb2 ?_
       simp(config:=cS)only[go_sem,eqT h3,h5,h6,h7,eqT h8,eqF h10,eqF h13,eqF h16]
   ·cases b2
    obtain rfl:=(aj gb2).symm
    try dsimp only at h
    cases h
    simp(config:=cS)only[go_sem,eqT h3,h5,h6,h7,eqF h8]
  ·cases b2
   obtain rfl:=(aj gb2).symm
   try dsimp only at h
   cases h
   simp(config:=cS)only[go_sem,eqF h3]
attribute [go_sem] Tryz.ntmps50 Tryz.results50
theorem JX {a:GDesk}{k res:Int}(h:ul a k=some res):ao Tryz.prog 50 [.agg (GDesk.encS a),.lit (.int .i64 k)] [] (.lit (.int .i64 res)) []:=by
 refine ak (ra:=[]) (md:=mdT) hT (hi:=hi00) Tryz.func50 rfl rfl (by decide +kernel) (by simp) ?_
 unfold ul at h
 obtain ⟨r01,g1,h⟩:=ab h
 simp(config:=cS)only[go_sem]
 refine ag (Af g1) ?_
 obtain ⟨h2,h⟩|⟨h2,h⟩:=af h
 ·cases h
  simp(config:=cS)only[go_sem,eqT h2]
 ·obtain ⟨r02,g3,h⟩:=ab h
  simp(config:=cS)only[go_sem,eqF h2]
  refine ag (yI g3) ?_
  obtain ⟨h4,h⟩|⟨h4,h⟩:=af h
  ·cases h
   simp(config:=cS)only[go_sem,eqT h4]
  ·obtain ⟨r03,g5,h⟩:=ab h
   simp(config:=cS)only[go_sem,eqF h4]
   refine ag (xN g5) ?_
   obtain ⟨h6,h⟩|⟨h6,h⟩:=af h
   ·cases h
    simp(config:=cS)only[go_sem,eqT h6]
   ·cases h
    simp(config:=cS)only[go_sem,eqF h6]
@[go_sem] def hi9_16:DT:=.i1 0 (.i2 1 (.i0 2 [0] (.i2 3 (.i2 4 .nil))))
def hi9:Hint where
 acts:=fun _=>[]
 draws:=fun
  | 16=>⟨hi9_16,[[],[],[1],[0,1,2],[0,1,2,3]],.range 5⟩
  | _=>⟨.nil,[],[]⟩
theorem hi9a (i:Nat):hi9.acts i=[]:=rfl
theorem hi9v (i:Nat):hi9.views i=none:=rfl
attribute [go_sem] hi9a hi9v Tryz.ntmps9 Tryz.results9
@[go_sem] theorem RM:(hi9.draws 16).order=hi9_16:=rfl
end Go.Proofs.QA
