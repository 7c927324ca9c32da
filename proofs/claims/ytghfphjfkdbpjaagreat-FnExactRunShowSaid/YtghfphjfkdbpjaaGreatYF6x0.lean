/- Functions. -/
import Derived.Test.YtghfphjfkdbpjaaGreatYFK2
set_option linter.all false
set_option maxRecDepth 100000
set_option maxHeartbeats 400000
namespace Go.Proofs.YtghfphjfkdbpjaaGreatY
open Go
attribute [go_sem] Tryz.ntmps32 Tryz.results32
theorem Bw {a:GChoice}{left res:Int}(h:kr a left=some res):ap Tryz.prog 32 [.agg [.sl (ab eI a.lengths),.sl (ab eI a.values)],.lit (.int .i64 left)] [] (.lit (.int .i64 res)) []:=by
 refine aj (ra:=[]) (md:=mdT) hT (hi:=hi00) Tryz.func32 rfl rfl (by decide +kernel) (by simp) ?_
 unfold kr at h
 obtain ⟨r1001,g1,h⟩:=ae h
 simp(config:=cS)only[go_sem]
 refine ag (sw g1) ?_
 obtain ⟨h2,h⟩|⟨h2,h⟩:=af h
 ·cases h
  simp(config:=cS)only[go_sem,eqT h2]
 ·obtain ⟨r1002,g3,h⟩:=ae h
  simp(config:=cS)only[go_sem,eqF h2]
  refine ag (sw g3) ?_
  obtain ⟨h4,h⟩|⟨h4,h⟩:=af h
  ·cases h
   simp(config:=cS)only[go_sem,eqT h4]
  ·cases h
   simp(config:=cS)only[go_sem,eqF h4]
attribute [go_sem] Tryz.ntmps35 Tryz.results35
theorem mF {a res:GChoice}(h:dF a=some res):ap Tryz.prog 35 [.agg [.sl (ab eI a.lengths),.sl (ab eI a.values)]] [] (.agg [.ref 20000 1 0 res.lengths.length,.ref 20001 1 0 res.values.length]) [(20000,1,.row true (ab eI res.lengths)),(20001,1,.row true (ab eI res.values))]:=by
 refine aj (ra:=[.homeCell 128 0,.homeCell 128 1]) (md:=mdT) hT (hi:=hi00) Tryz.func35 rfl rfl (by decide +kernel) (by simp) ?_
 unfold dF at h
 obtain ⟨r1001,g1,h⟩:=ae h
 simp(config:=cS)only[go_sem]
 refine ag (sx g1) ?_
 obtain ⟨r1002,g2,h⟩:=ae h
 simp(config:=cS)only[go_sem]
 refine ag (sx g2) ?_
 cases h
 simp(config:=cS)only[go_sem]
@[go_sem] def hi96_3:DT:=.i2 0 (.i1 2 (.i2 4 (.i0 1 [2] (.i2 3 (.i2 5 (.i2 6 (.i2 7 .nil)))))))
def hi96:Hint where
 acts:=fun _=>[]
 draws:=fun
  | 3=>⟨hi96_3,[[],[0],[],[0,1,2],[],.range 5,.range 6,.range 7],.range 8⟩
  | _=>⟨.nil,[],[]⟩
theorem Sb (i:Nat):hi96.acts i=[]:=rfl
theorem Sc (i:Nat):hi96.views i=none:=rfl
attribute [go_sem] Sb Sc Tryz.ntmps96 Tryz.results96
@[go_sem] theorem Um:(hi96.draws 3).order=hi96_3:=rfl
theorem CV {s:GShow}{lazy:Bool}{res:GDesk × Bool}(h:lr s lazy=some res):ap Tryz.prog 96 [.agg (GShow.encS s),.lit (.bool lazy)] [] (.tup [.agg [.ref 20000 1 0 res.1.show_.nodes.length,.ref 20001 1 0 res.1.show_.ties.length,.lit (.int .i64 res.1.show_.horizon),.lit (.int .i64 res.1.state.now),.ref 20002 1 0 res.1.state.times.length,.ref 20003 1 0 res.1.state.values.length,.lit (.bool res.1.lazy),.ref 20004 1 0 res.1.log.length],.lit (.bool res.2)]) [(20000,1,.row true (ab GNode.encO res.1.show_.nodes)),(20001,1,.row true (ab GTie.enc res.1.show_.ties)),(20002,1,.row true (ab eI res.1.state.times)),(20003,1,.row true (ab eI res.1.state.values)),(20004,1,.row true (ab GEntry.encO res.1.log))]:=by
 refine aj (ra:=[.homeCell 256 0,.homeCell 256 1,.homeCell 256 4,.homeCell 256 5,.homeCell 256 7]) (md:=mdT) hT (hi:=hi96) Tryz.func96 rfl rfl (by decide +kernel) (by simp) ?_
 unfold lr at h
 obtain ⟨r1001,g1,h⟩:=ae h
 simp(config:=cS)only[go_sem]
 refine ag (jM g1) ?_
 obtain ⟨h2,h⟩|⟨h2,h⟩:=af h
 ·obtain ⟨r1002,g3,h⟩:=ae h
  simp(config:=cS)only[go_sem,eZt h2]
  refine ag (ry g3) ?_
  obtain ⟨r1003,g4,h⟩:=ae h
  simp(config:=cS)only[go_sem]
  refine ag (sA g4) ?_
  cases h
  simp(config:=cS)only[go_sem]
 ·cases h
  simp(config:=cS)only[go_sem,eZf h2]
def qd (v8:List GTie)(v9:Int):(Int × (List Int))→St
 | (v10,out)=>⟨[(3,.ref 384 1 0 out.length),(8,.sl (ab GTie.enc v8)),(9,.lit (.int .i64 v9)),(10,.lit (.int .i64 v10))],[(384,1,.row true (ab eI out))],2⟩
attribute [go_sem] qd
attribute [go_sem] Tryz.ntmps135 Tryz.results135
theorem uU {s:GShow}{res:List Int}(h:jc s=some res):ap Tryz.prog 135 [.agg (GShow.encS s)] [] (.ref 20000 1 0 res.length) [(20000,1,.row true (ab eI res))]:=by
 refine aj (ra:=[.home 2]) (md:=mdT) hT (hi:=hi00) Tryz.func135 rfl rfl (by decide +kernel) (by simp) ?_
 unfold jc at h
 obtain ⟨q1002,l1,h⟩:=ae h
 simp(config:=cS)only[go_sem]
 refine an (m1:=.mk) (m2:=.mk) [.nf [3,8,9,10] [384]] (qd s.ties ((s.ties.length:Nat):Int)) l1 ?_ ?_
 ·simp(config:=cS)only[go_sem]
 ·intro nb2 sb2 bb2 b2 gb2
  obtain ⟨v10_1,out_1⟩:=sb2
  unfold ix at b2
  try dsimp only at b2
  obtain ⟨h3,b2⟩|⟨h3,b2⟩:=af b2
  ·obtain ⟨x1001,g4,b2⟩:=ae b2
   obtain ⟨h5,h6,h7⟩:=ai g4
   obtain ⟨h8,b2⟩|⟨h8,b2⟩:=af b2
   ·obtain ⟨h9,b2⟩:=ah b2
    obtain ⟨h10,b2⟩:=ah b2
    cases b2
    simp(config:=cS)only[go_sem,eqT h3,h5,h6,h7,eZt h8,eqT h9,eqT h10]
    refine ao gb2 ?_
    simp(config:=cS)only[go_sem]
   ·cases b2
    simp(config:=cS)only[go_sem,eqT h3,h5,h6,h7,eZf h8]
    refine ao gb2 ?_
    simp(config:=cS)only[go_sem]
  ·cases b2
   obtain rfl:=(ak gb2).symm
   try dsimp only at h
   cases h
   simp(config:=cS)only[go_sem,eqF h3]
def pm (v28:Int)(s_0:List GNode)(s_1:List GTie)(s_2:Int)(v3_0 v3_1 v27:List Int)(v29:Int):St:=⟨[(2,.ptr 128 1 0 0),(3,.ptr 192 1 0 0),(27,.ref 896 1 0 v27.length),(28,.lit (.int .i64 v28)),(29,.lit (.int .i64 v29))],[(128,1,.var [.sl (ab GNode.encS s_0),.sl (ab GTie.enc s_1),.lit (.int .i64 s_2)]),(192,1,.var [.sl (ab eI v3_0),.sl (ab eI v3_1)]),(896,1,.row true (ab eI v27))],2⟩
attribute [go_sem] pm
def pn (v55:List Int)(v56:Int)(s_0:List GNode)(s_1:List GTie)(s_2 v57:Int):St:=⟨[(2,.ptr 128 1 0 0),(55,.sl (ab eI v55)),(56,.lit (.int .i64 v56)),(57,.lit (.int .i64 v57))],[(128,1,.var [.sl (ab GNode.encS s_0),.sl (ab GTie.enc s_1),.lit (.int .i64 s_2)])],2⟩
attribute [go_sem] pn
@[go_sem] def hi97_9:DT:=.i2 0 (.i2 1 (.i2 2 (.i2 3 (.i2 4 (.i2 5 (.i2 6 (.i2 7 (.i2 8 (.i2 9 (.i2 10 (.i2 11 (.i2 12 (.i2 13 (.i2 14 (.i2 15 (.i2 16 (.i2 17 (.i2 18 .nil))))))))))))))))))
def hi97:Hint where
 acts:=fun _=>[]
 draws:=fun
  | 9=>⟨hi97_9,[[],[0],[],[0,1,2],[0,1,2,3],[],[5],[],[5,6,7],[5,6,7,8],[5,6,7,8,9],[],[11],[],[11,12,13],[11,12,13,14],[11,12,13,14,15],.range 17,.range 18],.range 19⟩
  | _=>⟨.nil,[],[]⟩
theorem Sd (i:Nat):hi97.acts i=[]:=rfl
theorem Se (i:Nat):hi97.views i=none:=rfl
attribute [go_sem] Sd Se Tryz.ntmps97 Tryz.results97
@[go_sem] theorem Un:(hi97.draws 9).order=hi97_9:=rfl
theorem ud {s:GShow}{v1:GChoice}{res:Bool}(h:ip s v1=some res):ap Tryz.prog 97 [.agg (GShow.encS s),.agg [.sl (ab eI v1.lengths),.sl (ab eI v1.values)]] [] (.lit (.bool res)) []:=by
 refine aj (ra:=[]) (md:=mdT) hT (hi:=hi97) Tryz.func97 rfl rfl (by decide +kernel) (by simp) ?_
 unfold ip at h
 obtain ⟨r1001,g1,h⟩:=ae h
 simp(config:=cS)only[go_sem]
 refine ag (jM g1) ?_
 obtain ⟨h2,h⟩|⟨h2,h⟩:=af h
 ·obtain ⟨r1002,g3,h⟩:=ae h
  simp(config:=cS)only[go_sem,eZt h2]
  refine ag (uU g3) ?_
  obtain ⟨h4,h⟩|⟨h4,h⟩:=af h
  ·obtain ⟨h5,h⟩|⟨h5,h⟩:=af h
   ·obtain ⟨q1011,l6,h⟩:=ae h
    simp(config:=cS)only[go_sem,eqT h4,eqT h5]
    refine an (m1:=.mk) (m2:=.mk) [.nf [2,3,27,28,29] [128,192,896]] (pm ((r1002.length:Nat):Int) s.nodes s.ties s.horizon v1.lengths v1.values r1002) l6 ?_ ?_
    ·simp(config:=cS)only[go_sem]
    ·intro nb7 v29_1 bb7 b7 gb7
     unfold eP at b7
     try dsimp only at b7
     obtain ⟨h8,b7⟩|⟨h8,b7⟩:=af b7
     ·obtain ⟨x1003,g9,b7⟩:=ae b7
      obtain ⟨h10,h11,h12⟩:=ai g9
      obtain ⟨x1004,g13,b7⟩:=ae b7
      obtain ⟨h14,h15,h16⟩:=ai g13
      obtain ⟨x1005,g17,b7⟩:=ae b7
      obtain ⟨h18,h19,h20⟩:=ai g17
      obtain ⟨r1006,g21,b7⟩:=ae b7
      simp(config:=cS)only[go_sem,eqT h8,h10,h11,h12,h14,h15,h16,h18,h19,h20]
      refine ag (bU g21) ?_
      obtain ⟨h22,b7⟩|⟨h22,b7⟩:=af b7
      ·cases b7
       simp(config:=cS)only[go_sem,eZt h22]
       refine ao gb7 ?_
       simp(config:=cS)only[go_sem]
      ·cases b7
       obtain rfl:=(ak gb7).symm
       try dsimp only at h
       cases h
       simp(config:=cS)only[go_sem,eZf h22]
     ·cases b7
      obtain rfl:=(ak gb7).symm
      try dsimp only at h
      obtain ⟨q1010,l25,h⟩:=ae h
      simp(config:=cS)only[go_sem,eqF h8]
      refine an (m1:=.mk) (m2:=.mk) [.nf [2,55,56,57] [128]] (pn v1.values ((v1.values.length:Nat):Int) s.nodes s.ties s.horizon) l25 ?_ ?_
      ·simp(config:=cS)only[go_sem]
      ·intro nb26 v57_2 bb26 b26 gb26
       unfold eQ at b26
       try dsimp only at b26
       obtain ⟨h27,b26⟩|⟨h27,b26⟩:=af b26
       ·obtain ⟨x1007,g28,b26⟩:=ae b26
        obtain ⟨h29,h30,h31⟩:=ai g28
        obtain ⟨h32,b26⟩|⟨h32,b26⟩:=af b26
        ·obtain ⟨h33,b26⟩|⟨h33,b26⟩:=af b26
         ·obtain ⟨r1008,g34,b26⟩:=ae b26
          simp(config:=cS)only[go_sem,eqT h27,h29,h30,h31,eqT h32,eqT h33]
          refine ag (fq g34) ?_
          obtain ⟨h35,b26⟩|⟨h35,b26⟩:=af b26
          ·cases b26
           obtain rfl:=(ak gb26).symm
           try dsimp only at h
           cases h
           simp(config:=cS)only[go_sem,eqT h35]
          ·cases b26
           simp(config:=cS)only[go_sem,eqF h35]
           refine ao gb26 ?_
           simp(config:=cS)only[go_sem]
         ·cases b26
          simp(config:=cS)only[go_sem,eqT h27,h29,h30,h31,eqT h32,eqF h33]
          refine ao gb26 ?_
          simp(config:=cS)only[go_sem]
        ·obtain ⟨h37,b26⟩|⟨h37,b26⟩:=af b26
         ·obtain ⟨r1009,g38,b26⟩:=ae b26
          simp(config:=cS)only[go_sem,eqT h27,h29,h30,h31,eqF h32,eqT h37]
          refine ag (fq g38) ?_
          obtain ⟨h39,b26⟩|⟨h39,b26⟩:=af b26
          ·cases b26
           obtain rfl:=(ak gb26).symm
           try dsimp only at h
           cases h
           simp(config:=cS)only[go_sem,eqT h39]
          ·cases b26
           simp(config:=cS)only[go_sem,eqF h39]
           refine ao gb26 ?_
           simp(config:=cS)only[go_sem]
         ·cases b26
          obtain rfl:=(ak gb26).symm
          try dsimp only at h
          cases h
          simp(config:=cS)only[go_sem,eqT h27,h29,h30,h31,eqF h32,eqF h37]
       ·cases b26
        obtain rfl:=(ak gb26).symm
        try dsimp only at h
        cases h
        simp(config:=cS)only[go_sem,eqF h27]
   ·cases h
    simp(config:=cS)only[go_sem,eqT h4,eqF h5]
  ·cases h
   simp(config:=cS)only[go_sem,eqF h4]
 ·cases h
  simp(config:=cS)only[go_sem,eZf h2]
def nZ (tie v11:Int)(v4_0 v4_1 v10:List Int)(v12:Int):St:=⟨[(2,.lit (.int .i64 tie)),(4,.ptr 256 1 0 0),(10,.ref 640 1 0 v10.length),(11,.lit (.int .i64 v11)),(12,.lit (.int .i64 v12))],[(256,1,.var [.sl (ab eI v4_0),.sl (ab eI v4_1)]),(640,1,.row true (ab eI v10))],2⟩
attribute [go_sem] nZ
attribute [go_sem] Tryz.ntmps202 Tryz.results202
theorem zI {s:GShow}{v1:GChoice}{tie res:Int}(h:jB s v1 tie=some res):ap Tryz.prog 202 [.agg (GShow.encS s),.agg [.sl (ab eI v1.lengths),.sl (ab eI v1.values)],.lit (.int .i64 tie)] [] (.lit (.int .i64 res)) []:=by
 refine aj (ra:=[]) (md:=mdT) hT (hi:=hi00) Tryz.func202 rfl rfl (by decide +kernel) (by simp) ?_
 unfold jB at h
 obtain ⟨r1001,g1,h⟩:=ae h
 simp(config:=cS)only[go_sem]
 refine ag (uU g1) ?_
 obtain ⟨q1004,l2,h⟩:=ae h
 simp(config:=cS)only[go_sem]
 refine an (m1:=.mk) (m2:=.mk) [.nf [2,4,10,11,12] [256,640]] (nZ tie ((r1001.length:Nat):Int) v1.lengths v1.values r1001) l2 ?_ ?_
 ·simp(config:=cS)only[go_sem]
 ·intro nb3 v12_1 bb3 b3 gb3
  unfold dO at b3
  try dsimp only at b3
  obtain ⟨h4,b3⟩|⟨h4,b3⟩:=af b3
  ·obtain ⟨x1002,g5,b3⟩:=ae b3
   obtain ⟨h6,h7,h8⟩:=ai g5
   obtain ⟨h9,b3⟩|⟨h9,b3⟩:=af b3
   ·obtain ⟨x1003,g10,b3⟩:=ae b3
    obtain ⟨h11,h12,h13⟩:=ai g10
    cases b3
    obtain rfl:=(ak gb3).symm
    try dsimp only at h
    cases h
    simp(config:=cS)only[go_sem,eqT h4,h6,h7,h8,eqT h9,h11,h12,h13]
   ·cases b3
    simp(config:=cS)only[go_sem,eqT h4,h6,h7,h8,eqF h9]
    refine ao gb3 ?_
    simp(config:=cS)only[go_sem]
  ·cases b3
   obtain rfl:=(ak gb3).symm
   try dsimp only at h
   cases h
   simp(config:=cS)only[go_sem,eqF h4]
def oa (v14:Int)(s_0:List GNode)(s_1:List GTie)(s_2 v4_0:Int)(v4_1 v4_2 v5_0 v5_1 v13:List Int):(Int × (List Int))→St
 | (v15,out)=>⟨[(3,.ptr 192 1 0 0),(4,.ptr 256 1 0 0),(5,.ptr 320 1 0 0),(7,.ref 640 1 0 out.length),(13,.ref 832 1 0 v13.length),(14,.lit (.int .i64 v14)),(15,.lit (.int .i64 v15))],[(192,1,.var [.sl (ab GNode.encS s_0),.sl (ab GTie.enc s_1),.lit (.int .i64 s_2)]),(256,1,.var [.lit (.int .i64 v4_0),.sl (ab eI v4_1),.sl (ab eI v4_2)]),(320,1,.var [.sl (ab eI v5_0),.sl (ab eI v5_1)]),(640,1,.row true (ab eI out)),(832,1,.row true (ab eI v13))],2⟩
attribute [go_sem] oa
@[go_sem] def hi123_5:DT:=.i1 0 (.i1 1 (.i1 2 (.i1 3 (.i1 4 (.i1 5 (.i2 6 (.i1 7 (.i1 8 (.i1 9 (.i1 10 (.i1 11 (.i2 12 (.i2 13 (.i2 14 (.i2 15 (.i0 16 [0,1,2,3,4,5,7,8,9,10,11] (.i2 17 .nil)))))))))))))))))
def Fq:Hint where
 acts:=fun _=>[]
 draws:=fun
  | 5=>⟨hi123_5,[[],[0],[],[2],[],[4],[],[4,5,6],[4,5,6,7],[4,5,6,7,8],[2,3,4,5,6,7,8,9],[2,3,4,5,6,7,8,9,10],.range 12,[],[],[],[13,14,15],.range 17],.range 18⟩
  | _=>⟨.nil,[],[]⟩
theorem Pz (i:Nat):Fq.acts i=[]:=rfl
theorem PA (i:Nat):Fq.views i=none:=rfl
attribute [go_sem] Pz PA Tryz.ntmps123 Tryz.results123
@[go_sem] theorem Te:(Fq.draws 5).order=hi123_5:=rfl
theorem tn {s:GShow}{v1:GState}{v2:GChoice}{res:List Int}(h:jC s v1 v2=some res):ap Tryz.prog 123 [.agg (GShow.encS s),.agg (GState.encS v1),.agg [.sl (ab eI v2.lengths),.sl (ab eI v2.values)]] [] (.ref 20000 1 0 res.length) [(20000,1,.row true (ab eI res))]:=by
 refine aj (ra:=[.home 6]) (md:=mdT) hT (hi:=Fq) Tryz.func123 rfl rfl (by decide +kernel) (by simp) ?_
 unfold jC at h
 obtain ⟨r1001,g1,h⟩:=ae h
 simp(config:=cS)only[go_sem]
 refine ag (tq g1) ?_
 obtain ⟨q1006,l2,h⟩:=ae h
 simp(config:=cS)only[go_sem]
 refine an (m1:=.mk) (m2:=.mk) [.nf [3,4,5,7,13,14,15] [192,256,320,640,832]] (oa ((r1001.length:Nat):Int) s.nodes s.ties s.horizon v1.now v1.times v1.values v2.lengths v2.values r1001) l2 ?_ ?_
 ·simp(config:=cS)only[go_sem]
 ·intro nb3 sb3 bb3 b3 gb3
  obtain ⟨v15_1,out_1⟩:=sb3
  unfold gj at b3
  try dsimp only at b3
  obtain ⟨h4,b3⟩|⟨h4,b3⟩:=af b3
  ·obtain ⟨x1002,g5,b3⟩:=ae b3
   obtain ⟨h6,h7,h8⟩:=ai g5
   obtain ⟨x1003,g9,b3⟩:=ae b3
   obtain ⟨h10,h11,h12⟩:=ai g9
   obtain ⟨x1004,g13,b3⟩:=ae b3
   obtain ⟨h14,h15,h16⟩:=ai g13
   obtain ⟨r1005,g17,b3⟩:=ae b3
   simp(config:=cS)only[go_sem,eqT h4,h6,h7,h8,h10,h11,h12,h14,h15,h16]
   refine ag (zI g17) ?_
   obtain ⟨h18,b3⟩|⟨h18,b3⟩:=af b3
   ·obtain ⟨h19,b3⟩:=ah b3
    obtain ⟨h20,b3⟩:=ah b3
    cases b3
    simp(config:=cS)only[go_sem,eqT h4,h6,h7,h8,h10,h11,h12,h14,h15,h16,eqT h18,eqT h19,eqT h20]
    refine ao gb3 ?_
    simp(config:=cS)only[go_sem,eqT h4,h6,h7,h8,h10,h11,h12,h14,h15,h16,eqT h18,eqT h19,eqT h20]
   ·cases b3
    simp(config:=cS)only[go_sem,eqT h4,h6,h7,h8,h10,h11,h12,h14,h15,h16,eqF h18]
    refine ao gb3 ?_
    simp(config:=cS)only[go_sem,eqT h4,h6,h7,h8,h10,h11,h12,h14,h15,h16,eqF h18]
  ·cases b3
   obtain rfl:=(ak gb3).symm
   try dsimp only at h
   cases h
   simp(config:=cS)only[go_sem,eqF h4]
def qe (v3_0 v3_1:List Int):(Int × Int × Bool × (List GNode) × (List GTie) × (List Int) × (List Int) × (List GEntry))→St
 | (out_2,out_3,out_6,h704,h705,h706,h707,h708)=>⟨[(3,.ptr 192 1 0 0),(4,.ptr 256 1 0 0),(6,.ptr 384 1 0 0)],[(192,1,.var [.sl (ab eI v3_0),.sl (ab eI v3_1)]),(256,1,.var [.lit (.slice none 0 0),.lit (.slice none 0 0),.lit (.int .i64 0),.lit (.int .i64 0),.lit (.slice none 0 0),.lit (.slice none 0 0),.lit (.bool false),.lit (.slice none 0 0)]),(384,1,.var [.ref 704 1 0 h704.length,.ref 705 1 0 h705.length,.lit (.int .i64 out_2),.lit (.int .i64 out_3),.ref 706 1 0 h706.length,.ref 707 1 0 h707.length,.lit (.bool out_6),.ref 708 1 0 h708.length]),(704,1,.row true (ab GNode.encO h704)),(705,1,.row true (ab GTie.enc h705)),(706,1,.row true (ab eI h706)),(707,1,.row true (ab eI h707)),(708,1,.row true (ab GEntry.encO h708))],2⟩
attribute [go_sem] qe
@[go_sem] def hi53_4:DT:=.i1 0 (.i1 1 (.i1 2 (.i1 3 (.i1 4 (.i1 5 (.i1 7 (.i1 8 (.fork (.i0 6 [0,7,8] (.fork (.i2 9 (.i2 10 (.i2 11 (.i2 12 (.i2 13 (.i0 14 [0,1,2,3,4,5,7,8] (.i2 15 (.i2 16 (.i2 17 .nil))))))))) (.i0 14 [0,1,2,3,4,5,7,8] (.i2 9 (.i2 10 (.i2 11 (.i2 12 (.i2 13 (.i2 15 (.i2 16 (.i2 17 .nil))))))))))) (.i0 14 [0,1,2,3,4,5,7,8] (.i0 6 [0,7,8] (.i2 9 (.i2 10 (.i2 11 (.i2 12 (.i2 13 (.i2 15 (.i2 16 (.i2 17 .nil))))))))))))))))))
def hi53:Hint where
 acts:=fun _=>[]
 draws:=fun
  | 4=>⟨hi53_4,[[],[],[1],[],[3],[],[1,2,3,4,5],[],[7],.range 9,.range 10,.range 11,.range 11,.range 11,[],[0,1,2,3,4,5,6,7,8,9,10,11,14],[0,1,2,3,4,5,6,7,8,9,10,11,12,14,15],.range 17],[0,1,2,3,4,5,6,7,8,9,10,11,14,16,12,13,15,17]⟩
  | _=>⟨.nil,[],[]⟩
theorem Sf (i:Nat):hi53.acts i=[]:=rfl
theorem Sg (i:Nat):hi53.views i=none:=rfl
attribute [go_sem] Sf Sg Tryz.ntmps53 Tryz.results53
@[go_sem] theorem Uo:(hi53.draws 4).order=hi53_4:=rfl
theorem CW {d:GDesk}{v1:GChoice}{res:GDesk × Int}(h:lx d v1=some res):ap Tryz.prog 53 [.agg (GDesk.encS d),.agg [.sl (ab eI v1.lengths),.sl (ab eI v1.values)]] [] (.tup [.agg [.ref 20000 1 0 res.1.show_.nodes.length,.ref 20001 1 0 res.1.show_.ties.length,.lit (.int .i64 res.1.show_.horizon),.lit (.int .i64 res.1.state.now),.ref 20002 1 0 res.1.state.times.length,.ref 20003 1 0 res.1.state.values.length,.lit (.bool res.1.lazy),.ref 20004 1 0 res.1.log.length],.lit (.int .i64 res.2)]) [(20000,1,.row true (ab GNode.encO res.1.show_.nodes)),(20001,1,.row true (ab GTie.enc res.1.show_.ties)),(20002,1,.row true (ab eI res.1.state.times)),(20003,1,.row true (ab eI res.1.state.values)),(20004,1,.row true (ab GEntry.encO res.1.log))]:=by
 refine aj (ra:=[.homeCell 256 0,.homeCell 256 1,.homeCell 256 4,.homeCell 256 5,.homeCell 256 7]) (md:=mdT) hT (hi:=hi53) Tryz.func53 rfl rfl (by decide +kernel) (by simp) ?_
 unfold lx at h
 obtain ⟨r1001,g1,h⟩:=ae h
 simp(config:=cS)only[go_sem]
 refine ag (nD g1) ?_
 obtain ⟨r1002,g2,h⟩:=ae h
 simp(config:=cS)only[go_sem]
 refine ag (we g2) ?_
 obtain ⟨h3,h⟩|⟨h3,h⟩:=af h
 ·obtain ⟨r1003,g4,h⟩:=ae h
  simp(config:=cS)only[go_sem,eZt h3]
  refine ag (ud g4) ?_
  obtain ⟨h5,h⟩|⟨h5,h⟩:=af h
  ·obtain ⟨q1009,l6,h⟩:=ae h
   simp(config:=cS)only[go_sem,eZt h3,eZt h5]
   refine an (m1:=.mk) (m2:=.mk) [.nfp [3,4,6] [(192,192),(256,256),(384,384),(2112,704),(704,704),(2113,705),(705,705),(2114,706),(706,706),(2115,707),(707,707),(2116,708),(708,708)] []] (qe v1.lengths v1.values) l6 ?_ ?_
   ·simp(config:=cS)only[go_sem,eZt h3,eZt h5]
   ·intro nb7 sb7 bb7 b7 gb7
    obtain ⟨out_2_1,out_3_1,out_6_1,h704_1,h705_1,h706_1,h707_1,h708_1⟩:=sb7
    unfold kS at b7
    try dsimp only at b7
    try simp(config:=cS)only[go_sem,eZt h3,eZt h5]
    refine bg ?_ ?_
    ·obtain ⟨r1004,g8,b7⟩:=ae b7
     simp(config:=cS)only[go_sem,eZt h3,eZt h5]
     refine ag (tn g8) ?_
     try simp(config:=cS)only[go_sem,eZt h3,eZt h5]
     refine bg ?_ ?_
     ·obtain ⟨r1005,g9,b7⟩:=ae b7
      simp(config:=cS)only[go_sem,eZt h3,eZt h5]
      refine ag (qt g9) ?_
      obtain ⟨h10,b7⟩|⟨h10,b7⟩:=af b7
      ·cases b7
       simp(config:=cS)only[go_sem,eZt h3,eZt h5,eqT h10]
       refine ao gb7 ?_
       simp(config:=cS)only[go_sem,eZt h3,eZt h5,eqT h10]
      ·cases b7
       obtain rfl:=(ak gb7).symm
       try dsimp only at h
       cases h
       simp(config:=cS)only[go_sem,eZt h3,eZt h5,eqF h10]
     ·obtain ⟨r1006,g12,b7⟩:=ae b7
      simp(config:=cS)only[go_sem,eZt h3,eZt h5]
      refine ag (qt g12) ?_
      obtain ⟨h13,b7⟩|⟨h13,b7⟩:=af b7
      ·cases b7
       simp(config:=cS)only[go_sem,eZt h3,eZt h5,eqT h13]
       refine ao gb7 ?_
       simp(config:=cS)only[go_sem,eZt h3,eZt h5,eqT h13]
      ·cases b7
       obtain rfl:=(ak gb7).symm
       try dsimp only at h
       cases h
       simp(config:=cS)only[go_sem,eZt h3,eZt h5,eqF h13]
    ·obtain ⟨r1007,g15,b7⟩:=ae b7
     simp(config:=cS)only[go_sem,eZt h3,eZt h5]
     refine ag (tn g15) ?_
     obtain ⟨r1008,g16,b7⟩:=ae b7
     simp(config:=cS)only[go_sem,eZt h3,eZt h5]
     refine ag (qt g16) ?_
     obtain ⟨h17,b7⟩|⟨h17,b7⟩:=af b7
     ·cases b7
      simp(config:=cS)only[go_sem,eZt h3,eZt h5,eqT h17]
      refine ao gb7 ?_
      simp(config:=cS)only[go_sem,eZt h3,eZt h5,eqT h17]
     ·cases b7
      obtain rfl:=(ak gb7).symm
      try dsimp only at h
      cases h
      simp(config:=cS)only[go_sem,eZt h3,eZt h5,eqF h17]
  ·cases h
   simp(config:=cS)only[go_sem,eZt h3,eZf h5]
 ·cases h
  simp(config:=cS)only[go_sem,eZf h3]
attribute [go_sem] Tryz.ntmps98 Tryz.results98
theorem Ez {s:GShow}{v1:GState}{res:Bool}(h:mr s v1=some res):ap Tryz.prog 98 [.agg (GShow.encS s),.agg (GState.encS v1)] [] (.lit (.bool res)) []:=by
 refine aj (ra:=[]) (md:=mdT) hT (hi:=hi00) Tryz.func98 rfl rfl (by decide +kernel) (by simp) ?_
 unfold mr at h
 obtain ⟨r1001,g1,h⟩:=ae h
 simp(config:=cS)only[go_sem]
 refine ag (ny g1) ?_
 obtain ⟨h2,h⟩|⟨h2,h⟩:=af h
 ·obtain ⟨r1002,g3,h⟩:=ae h
  simp(config:=cS)only[go_sem,eZt h2]
  refine ag (oX g3) ?_
  obtain ⟨h4,h⟩|⟨h4,h⟩:=af h
  ·cases h
   simp(config:=cS)only[go_sem,eZt h2,eZt h4]
  ·obtain ⟨r1003,g5,h⟩:=ae h
   simp(config:=cS)only[go_sem,eZt h2,eZf h4]
   refine ag (rx g5) ?_
   cases h
   simp(config:=cS)only[go_sem,eZt h2,eZf h4]
 ·cases h
  simp(config:=cS)only[go_sem,eZf h2]
attribute [go_sem] Tryz.ntmps33 Tryz.results33
theorem CX {s:GShow}{v1:GChoice}{lazy:Bool}{res:(List Int) × Bool}(h:ly s v1 lazy=some res):ap Tryz.prog 33 [.agg (GShow.encS s),.agg [.sl (ab eI v1.lengths),.sl (ab eI v1.values)],.lit (.bool lazy)] [] (.tup [.ref 20000 1 0 res.1.length,.lit (.bool res.2)]) [(20000,1,.row true (ab eI res.1))]:=by
 refine aj (ra:=[.home 6]) (md:=mdT) hT (hi:=hi00) Tryz.func33 rfl rfl (by decide +kernel) (by simp) ?_
 unfold ly at h
 obtain ⟨r1001,g1,h⟩:=ae h
 simp(config:=cS)only[go_sem]
 refine ag (CV g1) ?_
 obtain ⟨h2,h⟩|⟨h2,h⟩:=af h
 ·obtain ⟨r1002,g3,h⟩:=ae h
  simp(config:=cS)only[go_sem,eZt h2]
  refine ag (ud g3) ?_
  obtain ⟨h4,h⟩|⟨h4,h⟩:=af h
  ·obtain ⟨r1003,g5,h⟩:=ae h
   simp(config:=cS)only[go_sem,eZt h2,eZt h4]
   refine ag (CW g5) ?_
   obtain ⟨r1004,g6,h⟩:=ae h
   simp(config:=cS)only[go_sem,eZt h2,eZt h4]
   refine ag (Ez g6) ?_
   obtain ⟨h7,h⟩|⟨h7,h⟩:=af h
   ·obtain ⟨h8,h⟩:=ah h
    obtain ⟨h9,h⟩:=ah h
    cases h
    simp(config:=cS)only[go_sem,eZt h2,eZt h4,eZt h7,eqT h8,eqT h9]
   ·cases h
    simp(config:=cS)only[go_sem,eZt h2,eZt h4,eZf h7]
  ·cases h
   simp(config:=cS)only[go_sem,eZt h2,eZf h4]
 ·cases h
  simp(config:=cS)only[go_sem,eZf h2]
@[go_sem] def hi12_3:DT:=.i2 0 (.i1 2 (.i2 4 (.i0 1 [2] (.i2 3 (.i2 5 (.i2 6 (.i2 7 .nil)))))))
def hi12:Hint where
 acts:=fun _=>[]
 draws:=fun
  | 3=>⟨hi12_3,[[],[0],[],[0,1,2],[],.range 5,.range 6,.range 7],.range 8⟩
  | _=>⟨.nil,[],[]⟩
theorem Si (i:Nat):hi12.acts i=[]:=rfl
theorem Sj (i:Nat):hi12.views i=none:=rfl
attribute [go_sem] Si Sj Tryz.ntmps12 Tryz.results12
@[go_sem] theorem Up:(hi12.draws 3).order=hi12_3:=rfl
theorem CY {s:GShow}{lazy:Bool}{res:GDesk × Bool}(h:lj s lazy=some res):ap Tryz.prog 12 [.agg (GShow.encS s),.lit (.bool lazy)] [] (.tup [.agg [.ref 20000 1 0 res.1.show_.nodes.length,.ref 20001 1 0 res.1.show_.ties.length,.lit (.int .i64 res.1.show_.horizon),.lit (.int .i64 res.1.state.now),.ref 20002 1 0 res.1.state.times.length,.ref 20003 1 0 res.1.state.values.length,.lit (.bool res.1.lazy),.ref 20004 1 0 res.1.log.length],.lit (.bool res.2)]) [(20000,1,.row true (ab GNode.encO res.1.show_.nodes)),(20001,1,.row true (ab GTie.enc res.1.show_.ties)),(20002,1,.row true (ab eI res.1.state.times)),(20003,1,.row true (ab eI res.1.state.values)),(20004,1,.row true (ab GEntry.encO res.1.log))]:=by
 refine aj (ra:=[.homeCell 256 0,.homeCell 256 1,.homeCell 256 4,.homeCell 256 5,.homeCell 256 7]) (md:=mdT) hT (hi:=hi12) Tryz.func12 rfl rfl (by decide +kernel) (by simp) ?_
 unfold lj at h
 obtain ⟨r1001,g1,h⟩:=ae h
 simp(config:=cS)only[go_sem]
 refine ag (oQ g1) ?_
 obtain ⟨h2,h⟩|⟨h2,h⟩:=af h
 ·obtain ⟨r1002,g3,h⟩:=ae h
  simp(config:=cS)only[go_sem,eZt h2]
  refine ag (uh g3) ?_
  obtain ⟨r1003,g4,h⟩:=ae h
  simp(config:=cS)only[go_sem]
  refine ag (sD g4) ?_
  cases h
  simp(config:=cS)only[go_sem]
 ·cases h
  simp(config:=cS)only[go_sem,eZf h2]
def po (v7:List GTie)(v8:Int):(Int × (List Int))→St
 | (v9,out)=>⟨[(3,.ref 255 1 0 out.length),(7,.sl (ab GTie.enc v7)),(8,.lit (.int .i64 v8)),(9,.lit (.int .i64 v9))],[(255,1,.row true (ab eI out))],2⟩
attribute [go_sem] po
attribute [go_sem] Tryz.ntmps140 Tryz.results140
theorem ue {s:GShow}{res:List Int}(h:il s=some res):ap Tryz.prog 140 [.agg (GShow.encS s)] [] (.ref 20000 1 0 res.length) [(20000,1,.row true (ab eI res))]:=by
 refine aj (ra:=[.home 2]) (md:=mdT) hT (hi:=hi00) Tryz.func140 rfl rfl (by decide +kernel) (by simp) ?_
 unfold il at h
 obtain ⟨q1002,l1,h⟩:=ae h
 simp(config:=cS)only[go_sem]
 refine an (m1:=.mk) (m2:=.mk) [.home 3,.nf [3,7,8,9] [255]] (po s.ties ((s.ties.length:Nat):Int)) l1 ?_ ?_
 ·simp(config:=cS)only[go_sem]
 ·intro nb2 sb2 bb2 b2 gb2
  obtain ⟨v9_1,out_1⟩:=sb2
  unfold gW at b2
  try dsimp only at b2
  obtain ⟨h3,b2⟩|⟨h3,b2⟩:=af b2
  ·obtain ⟨x1001,g4,b2⟩:=ae b2
   obtain ⟨h5,h6,h7⟩:=ai g4
   obtain ⟨h8,b2⟩|⟨h8,b2⟩:=af b2
   ·obtain ⟨h9,b2⟩:=ah b2
    obtain ⟨h10,b2⟩:=ah b2
    cases b2
    simp(config:=cS)only[go_sem,eqT h3,h5,h6,h7,eZt h8,eqT h9,eqT h10]
    refine ao gb2 ?_
    simp(config:=cS)only[go_sem]
   ·cases b2
    simp(config:=cS)only[go_sem,eqT h3,h5,h6,h7,eZf h8]
    refine ao gb2 ?_
    simp(config:=cS)only[go_sem]
  ·cases b2
   obtain rfl:=(ak gb2).symm
   try dsimp only at h
   cases h
   simp(config:=cS)only[go_sem,eqF h3]
def pq (v25:Int)(s_0:List GNode)(s_1:List GTie)(s_2:Int)(v3_0 v3_1 v24:List Int)(v26:Int):St:=⟨[(2,.ptr 128 1 0 0),(3,.ptr 192 1 0 0),(24,.ref 704 1 0 v24.length),(25,.lit (.int .i64 v25)),(26,.lit (.int .i64 v26))],[(128,1,.var [.sl (ab GNode.encS s_0),.sl (ab GTie.enc s_1),.lit (.int .i64 s_2)]),(192,1,.var [.sl (ab eI v3_0),.sl (ab eI v3_1)]),(704,1,.row true (ab eI v24))],2⟩
attribute [go_sem] pq
def pt (v59:List Int)(v60:Int)(s_0:List GNode)(s_1:List GTie)(s_2 v61:Int):St:=⟨[(2,.ptr 128 1 0 0),(59,.sl (ab eI v59)),(60,.lit (.int .i64 v60)),(61,.lit (.int .i64 v61))],[(128,1,.var [.sl (ab GNode.encS s_0),.sl (ab GTie.enc s_1),.lit (.int .i64 s_2)])],2⟩
attribute [go_sem] pt
@[go_sem] def hi62_7:DT:=.i2 0 (.i2 1 (.i2 2 (.i2 3 (.i2 4 (.i2 5 (.i2 6 (.i2 7 (.i2 8 (.i2 9 (.i2 10 (.i2 11 (.i2 12 (.i2 13 (.i2 14 (.i2 15 (.i2 16 (.i2 17 (.i2 18 (.i2 19 (.i2 20 (.i2 21 (.i2 22 (.i2 23 (.i2 24 (.i2 25 .nil)))))))))))))))))))))))))
def hi62:Hint where
 acts:=fun _=>[]
 draws:=fun
  | 7=>⟨hi62_7,[[],[0],[],[0,1,2],[0,1,2,3],[],[5],[],[5,6,7],[5,6,7,8],[5,6,7,8,9],.range 11,.range 12,.range 13,.range 14,.range 13,.range 16,.range 17,.range 13,[0,1,2,3,4,5,6,7,8,9,10,11,12,18],.range 13,[0,1,2,3,4,5,6,7,8,9,10,11,12,18,19,20],[0,1,2,3,4,5,6,7,8,9,10,11,12,18,19,20,21],[0,1,2,3,4,5,6,7,8,9,10,11,12,18,19,20,21,22],.range 24,.range 25],.range 26⟩
  | _=>⟨.nil,[],[]⟩
theorem Sk (i:Nat):hi62.acts i=[]:=rfl
theorem Sl (i:Nat):hi62.views i=none:=rfl
attribute [go_sem] Sk Sl Tryz.ntmps62 Tryz.results62
@[go_sem] theorem Uq:(hi62.draws 7).order=hi62_7:=rfl
theorem qf {s:GShow}{v1:GChoice}{res:Bool}(h:fe s v1=some res):ap Tryz.prog 62 [.agg (GShow.encS s),.agg [.sl (ab eI v1.lengths),.sl (ab eI v1.values)]] [] (.lit (.bool res)) []:=by
 refine aj (ra:=[]) (md:=mdT) hT (hi:=hi62) Tryz.func62 rfl rfl (by decide +kernel) (by simp) ?_
 unfold fe at h
 obtain ⟨r1001,g1,h⟩:=ae h
 simp(config:=cS)only[go_sem]
 refine ag (ue g1) ?_
 obtain ⟨h2,h⟩|⟨h2,h⟩:=af h
 ·obtain ⟨h3,h⟩|⟨h3,h⟩:=af h
  ·obtain ⟨q1009,l4,h⟩:=ae h
   simp(config:=cS)only[go_sem,eqT h2,eqT h3]
   refine an (m1:=.mk) (m2:=.mk) [.nf [2,3,24,25,26] [128,192,704]] (pq ((r1001.length:Nat):Int) s.nodes s.ties s.horizon v1.lengths v1.values r1001) l4 ?_ ?_
   ·simp(config:=cS)only[go_sem]
   ·intro nb5 v26_1 bb5 b5 gb5
    unfold ew at b5
    try dsimp only at b5
    obtain ⟨h6,b5⟩|⟨h6,b5⟩:=af b5
    ·obtain ⟨x1002,g7,b5⟩:=ae b5
     obtain ⟨h8,h9,h10⟩:=ai g7
     obtain ⟨x1003,g11,b5⟩:=ae b5
     obtain ⟨h12,h13,h14⟩:=ai g11
     obtain ⟨x1004,g15,b5⟩:=ae b5
     obtain ⟨h16,h17,h18⟩:=ai g15
     obtain ⟨h19,b5⟩|⟨h19,b5⟩:=af b5
     ·cases b5
      obtain rfl:=(ak gb5).symm
      try dsimp only at h
      cases h
      simp(config:=cS)only[go_sem,eqT h6,h8,h9,h10,h12,h13,h14,h16,h17,h18,eqT h19]
     ·obtain ⟨h21,b5⟩|⟨h21,b5⟩:=af b5
      ·cases b5
       obtain rfl:=(ak gb5).symm
       try dsimp only at h
       cases h
       simp(config:=cS)only[go_sem,eqT h6,h8,h9,h10,h12,h13,h14,h16,h17,h18,eqF h19,eqT h21]
      ·cases b5
       simp(config:=cS)only[go_sem,eqT h6,h8,h9,h10,h12,h13,h14,h16,h17,h18,eqF h19,eqF h21]
       refine ao gb5 ?_
       simp(config:=cS)only[go_sem]
    ·cases b5
     obtain rfl:=(ak gb5).symm
     try dsimp only at h
     obtain ⟨q1008,l24,h⟩:=ae h
     simp(config:=cS)only[go_sem,eqF h6]
     refine an (m1:=.mk) (m2:=.mk) [.nf [2,59,60,61] [128]] (pt v1.values ((v1.values.length:Nat):Int) s.nodes s.ties s.horizon) l24 ?_ ?_
     ·simp(config:=cS)only[go_sem]
     ·intro nb25 v61_2 bb25 b25 gb25
      unfold ex at b25
      try dsimp only at b25
      obtain ⟨h26,b25⟩|⟨h26,b25⟩:=af b25
      ·obtain ⟨x1005,g27,b25⟩:=ae b25
       obtain ⟨h28,h29,h30⟩:=ai g27
       obtain ⟨h31,b25⟩|⟨h31,b25⟩:=af b25
       ·obtain ⟨h32,b25⟩|⟨h32,b25⟩:=af b25
        ·obtain ⟨r1006,g33,b25⟩:=ae b25
         simp(config:=cS)only[go_sem,eqT h26,h28,h29,h30,eqT h31,eqT h32]
         refine ag (nE g33) ?_
         obtain ⟨h34,b25⟩|⟨h34,b25⟩:=af b25
         ·cases b25
          obtain rfl:=(ak gb25).symm
          try dsimp only at h
          cases h
          simp(config:=cS)only[go_sem,eqT h34]
         ·cases b25
          simp(config:=cS)only[go_sem,eqF h34]
          refine ao gb25 ?_
          simp(config:=cS)only[go_sem]
        ·cases b25
         simp(config:=cS)only[go_sem,eqT h26,h28,h29,h30,eqT h31,eqF h32]
         refine ao gb25 ?_
         simp(config:=cS)only[go_sem]
       ·obtain ⟨h36,b25⟩|⟨h36,b25⟩:=af b25
        ·obtain ⟨r1007,g37,b25⟩:=ae b25
         simp(config:=cS)only[go_sem,eqT h26,h28,h29,h30,eqF h31,eqT h36]
         refine ag (nE g37) ?_
         obtain ⟨h38,b25⟩|⟨h38,b25⟩:=af b25
         ·cases b25
          obtain rfl:=(ak gb25).symm
          try dsimp only at h
          cases h
          simp(config:=cS)only[go_sem,eqT h38]
         ·cases b25
          simp(config:=cS)only[go_sem,eqF h38]
          refine ao gb25 ?_
          simp(config:=cS)only[go_sem]
        ·cases b25
         obtain rfl:=(ak gb25).symm
         try dsimp only at h
         cases h
         simp(config:=cS)only[go_sem,eqT h26,h28,h29,h30,eqF h31,eqF h36]
      ·cases b25
       obtain rfl:=(ak gb25).symm
       try dsimp only at h
       cases h
       simp(config:=cS)only[go_sem,eqF h26]
  ·cases h
   simp(config:=cS)only[go_sem,eqT h2,eqF h3]
 ·cases h
  simp(config:=cS)only[go_sem,eqF h2]
@[go_sem] def hi144_1:DT:=.i1 0 (.i1 1 (.i1 2 (.i1 3 (.i1 4 (.i1 5 (.i2 6 (.i1 7 (.i1 8 (.i1 9 (.i1 10 (.i1 11 (.i2 12 (.i1 13 (.i1 14 (.i2 15 (.i2 16 (.i0 17 [0,1,2,3,4,5,7,8,9,10,11,13,14] (.i2 18 (.i2 19 (.i2 20 (.i2 21 .nil)))))))))))))))))))))
def Fs:Hint where
 acts:=fun _=>[]
 draws:=fun
  | 1=>⟨hi144_1,[[],[0],[],[2],[],[4],[],[4,5,6],[4,5,6,7],[4,5,6,7,8],[2,3,4,5,6,7,8,9],[2,3,4,5,6,7,8,9,10],.range 12,[],[13],[],[],[15,16],[13,14,15,16,17],[13,14,15,16,17,18],.range 20,.range 21],.range 22⟩
  | _=>⟨.nil,[],[]⟩
theorem PB (i:Nat):Fs.acts i=[]:=rfl
theorem PC (i:Nat):Fs.views i=none:=rfl
attribute [go_sem] PB PC Tryz.ntmps144 Tryz.results144
@[go_sem] theorem Tf:(Fs.draws 1).order=hi144_1:=rfl
theorem wz {i:Int}{v1:GState}{s:GShow}{v3:GChoice}{free:List Int}{res:Bool}(h:jG i v1 s v3 free=some res):ap Tryz.prog 144 [.lit (.int .i64 i),.loc [.lit (.int .i64 v1.now),.sl (ab eI v1.times),.sl (ab eI v1.values)],.loc [.sl (ab GNode.encS s.nodes),.sl (ab GTie.enc s.ties),.lit (.int .i64 s.horizon)],.loc [.sl (ab eI v3.lengths),.sl (ab eI v3.values)],.loc [.sl (ab eI free)]] [] (.lit (.bool res)) []:=by
 refine aj (ra:=[]) (md:=mdT) hT (hi:=Fs) Tryz.func144 rfl rfl (by decide +kernel) (by simp) ?_
 unfold jG at h
 obtain ⟨x1001,g1,h⟩:=ae h
 obtain ⟨h2,h3,h4⟩:=ai g1
 obtain ⟨x1002,g5,h⟩:=ae h
 obtain ⟨h6,h7,h8⟩:=ai g5
 obtain ⟨r1003,g9,h⟩:=ae h
 simp(config:=cS)only[go_sem,h2,h3,h4,h6,h7,h8]
 refine ag (sd g9) ?_
 obtain ⟨x1004,g10,h⟩:=ae h
 obtain ⟨h11,h12,h13⟩:=ai g10
 cases h
 simp(config:=cS)only[go_sem,h2,h3,h4,h6,h7,h8,h11,h12,h13]
attribute [go_sem] Tryz.ntmps63 Tryz.results63
theorem tp {s:GShow}{v1:GState}{v2:GChoice}{res:List Int}(h:jr s v1 v2=some res):ap Tryz.prog 63 [.agg (GShow.encS s),.agg (GState.encS v1),.agg [.sl (ab eI v2.lengths),.sl (ab eI v2.values)]] [] (.ref 20000 1 0 res.length) [(20000,1,.row false (ab eI res))]:=by
 refine aj (ra:=[.home 6,.trim 6]) (md:=mdT) hT (hi:=hi00) Tryz.func63 rfl rfl (by decide +kernel) (by simp) ?_
 unfold jr at h
 obtain ⟨r1001,g1,h⟩:=ae h
 simp(config:=cS)only[go_sem]
 refine ag (rz g1) ?_
 obtain ⟨h2,h⟩|⟨h2,h⟩:=af h
 ·obtain ⟨r1002,g3,h⟩:=ae h
  simp(config:=cS)only[go_sem,eZt h2]
  refine ag (qf g3) ?_
  obtain ⟨h4,h⟩|⟨h4,h⟩:=af h
  ·obtain ⟨r1003,g5,h⟩:=ae h
   simp(config:=cS)only[go_sem,eZt h2,eZt h4]
   refine ag (ue g5) ?_
   obtain ⟨r1004,g6,h⟩:=ae h
   simp(config:=cS)only[go_sem,eZt h2,eZt h4]
   refine ag (wi g6) ?_
   obtain ⟨r1005,g7,h⟩:=ae h
   simp(config:=cS)only[go_sem,eZt h2,eZt h4]
   refine ag (nQ (by exact fun _ _ hr=>wz hr) (by refine ⟨fun _=>?_,fun _=>?_⟩ <;> simp only [go_sem]) (fun _=>rfl) rfl g7) ?_
   cases h
   simp(config:=cS)only[go_sem,eZt h2,eZt h4]
  ·cases h
   simp(config:=cS)only[go_sem,eZt h2,eZf h4]
 ·cases h
  simp(config:=cS)only[go_sem,eZf h2]
def qg (v3_0 v3_1:List Int):(Int × Int × Bool × (List GNode) × (List GTie) × (List Int) × (List Int) × (List GEntry))→St
 | (out_2,out_3,out_6,h704,h705,h706,h707,h708)=>⟨[(3,.ptr 192 1 0 0),(4,.ptr 256 1 0 0),(6,.ptr 384 1 0 0)],[(192,1,.var [.sl (ab eI v3_0),.sl (ab eI v3_1)]),(256,1,.var [.lit (.slice none 0 0),.lit (.slice none 0 0),.lit (.int .i64 0),.lit (.int .i64 0),.lit (.slice none 0 0),.lit (.slice none 0 0),.lit (.bool false),.lit (.slice none 0 0)]),(384,1,.var [.ref 704 1 0 h704.length,.ref 705 1 0 h705.length,.lit (.int .i64 out_2),.lit (.int .i64 out_3),.ref 706 1 0 h706.length,.ref 707 1 0 h707.length,.lit (.bool out_6),.ref 708 1 0 h708.length]),(704,1,.row true (ab GNode.encO h704)),(705,1,.row true (ab GTie.enc h705)),(706,1,.row true (ab eI h706)),(707,1,.row true (ab eI h707)),(708,1,.row true (ab GEntry.encO h708))],2⟩
attribute [go_sem] qg
@[go_sem] def hi14_4:DT:=.i1 0 (.i1 1 (.i1 2 (.i1 3 (.i1 4 (.i1 5 (.i1 7 (.i1 8 (.fork (.i0 6 [0,7,8] (.fork (.i2 9 (.i2 10 (.i2 11 (.i2 12 (.i2 13 (.i0 14 [0,1,2,3,4,5,7,8] (.i2 15 (.i2 16 (.i2 17 .nil))))))))) (.i0 14 [0,1,2,3,4,5,7,8] (.i2 9 (.i2 10 (.i2 11 (.i2 12 (.i2 13 (.i2 15 (.i2 16 (.i2 17 .nil))))))))))) (.i0 14 [0,1,2,3,4,5,7,8] (.i0 6 [0,7,8] (.i2 9 (.i2 10 (.i2 11 (.i2 12 (.i2 13 (.i2 15 (.i2 16 (.i2 17 .nil))))))))))))))))))
def hi14:Hint where
 acts:=fun _=>[]
 draws:=fun
  | 4=>⟨hi14_4,[[],[],[1],[],[3],[],[1,2,3,4,5],[],[7],.range 9,.range 10,.range 11,.range 11,.range 11,[],[0,1,2,3,4,5,6,7,8,9,10,11,14],[0,1,2,3,4,5,6,7,8,9,10,11,12,14,15],.range 17],[0,1,2,3,4,5,6,7,8,9,10,11,14,16,12,13,15,17]⟩
  | _=>⟨.nil,[],[]⟩
theorem Sm (i:Nat):hi14.acts i=[]:=rfl
theorem Sn (i:Nat):hi14.views i=none:=rfl
attribute [go_sem] Sm Sn Tryz.ntmps14 Tryz.results14
@[go_sem] theorem Ur:(hi14.draws 4).order=hi14_4:=rfl
theorem CZ {d:GDesk}{v1:GChoice}{res:GDesk × Int}(h:lq d v1=some res):ap Tryz.prog 14 [.agg (GDesk.encS d),.agg [.sl (ab eI v1.lengths),.sl (ab eI v1.values)]] [] (.tup [.agg [.ref 20000 1 0 res.1.show_.nodes.length,.ref 20001 1 0 res.1.show_.ties.length,.lit (.int .i64 res.1.show_.horizon),.lit (.int .i64 res.1.state.now),.ref 20002 1 0 res.1.state.times.length,.ref 20003 1 0 res.1.state.values.length,.lit (.bool res.1.lazy),.ref 20004 1 0 res.1.log.length],.lit (.int .i64 res.2)]) [(20000,1,.row true (ab GNode.encO res.1.show_.nodes)),(20001,1,.row true (ab GTie.enc res.1.show_.ties)),(20002,1,.row true (ab eI res.1.state.times)),(20003,1,.row true (ab eI res.1.state.values)),(20004,1,.row true (ab GEntry.encO res.1.log))]:=by
 refine aj (ra:=[.homeCell 256 0,.homeCell 256 1,.homeCell 256 4,.homeCell 256 5,.homeCell 256 7]) (md:=mdT) hT (hi:=hi14) Tryz.func14 rfl rfl (by decide +kernel) (by simp) ?_
 unfold lq at h
 obtain ⟨r1001,g1,h⟩:=ae h
 simp(config:=cS)only[go_sem]
 refine ag (ui g1) ?_
 obtain ⟨r1002,g2,h⟩:=ae h
 simp(config:=cS)only[go_sem]
 refine ag (wj g2) ?_
 obtain ⟨h3,h⟩|⟨h3,h⟩:=af h
 ·obtain ⟨r1003,g4,h⟩:=ae h
  simp(config:=cS)only[go_sem,eZt h3]
  refine ag (qf g4) ?_
  obtain ⟨h5,h⟩|⟨h5,h⟩:=af h
  ·obtain ⟨q1009,l6,h⟩:=ae h
   simp(config:=cS)only[go_sem,eZt h3,eZt h5]
   refine an (m1:=.mk) (m2:=.mk) [.nfp [3,4,6] [(192,192),(256,256),(384,384),(2112,704),(704,704),(2113,705),(705,705),(2114,706),(706,706),(2115,707),(707,707),(2116,708),(708,708)] []] (qg v1.lengths v1.values) l6 ?_ ?_
   ·simp(config:=cS)only[go_sem,eZt h3,eZt h5]
   ·intro nb7 sb7 bb7 b7 gb7
    obtain ⟨out_2_1,out_3_1,out_6_1,h704_1,h705_1,h706_1,h707_1,h708_1⟩:=sb7
    unfold kR at b7
    try dsimp only at b7
    try simp(config:=cS)only[go_sem,eZt h3,eZt h5]
    refine bg ?_ ?_
    ·obtain ⟨r1004,g8,b7⟩:=ae b7
     simp(config:=cS)only[go_sem,eZt h3,eZt h5]
     refine ag (tp g8) ?_
     try simp(config:=cS)only[go_sem,eZt h3,eZt h5]
     refine bg ?_ ?_
     ·obtain ⟨r1005,g9,b7⟩:=ae b7
      simp(config:=cS)only[go_sem,eZt h3,eZt h5]
      refine ag (qG g9) ?_
      obtain ⟨h10,b7⟩|⟨h10,b7⟩:=af b7
      ·cases b7
       simp(config:=cS)only[go_sem,eZt h3,eZt h5,eqT h10]
       refine ao gb7 ?_
       simp(config:=cS)only[go_sem,eZt h3,eZt h5,eqT h10]
      ·cases b7
       obtain rfl:=(ak gb7).symm
       try dsimp only at h
       cases h
       simp(config:=cS)only[go_sem,eZt h3,eZt h5,eqF h10]
     ·obtain ⟨r1006,g12,b7⟩:=ae b7
      simp(config:=cS)only[go_sem,eZt h3,eZt h5]
      refine ag (qG g12) ?_
      obtain ⟨h13,b7⟩|⟨h13,b7⟩:=af b7
      ·cases b7
       simp(config:=cS)only[go_sem,eZt h3,eZt h5,eqT h13]
       refine ao gb7 ?_
       simp(config:=cS)only[go_sem,eZt h3,eZt h5,eqT h13]
      ·cases b7
       obtain rfl:=(ak gb7).symm
       try dsimp only at h
       cases h
       simp(config:=cS)only[go_sem,eZt h3,eZt h5,eqF h13]
    ·obtain ⟨r1007,g15,b7⟩:=ae b7
     simp(config:=cS)only[go_sem,eZt h3,eZt h5]
     refine ag (tp g15) ?_
     obtain ⟨r1008,g16,b7⟩:=ae b7
     simp(config:=cS)only[go_sem,eZt h3,eZt h5]
     refine ag (qG g16) ?_
     obtain ⟨h17,b7⟩|⟨h17,b7⟩:=af b7
     ·cases b7
      simp(config:=cS)only[go_sem,eZt h3,eZt h5,eqT h17]
      refine ao gb7 ?_
      simp(config:=cS)only[go_sem,eZt h3,eZt h5,eqT h17]
     ·cases b7
      obtain rfl:=(ak gb7).symm
      try dsimp only at h
      cases h
      simp(config:=cS)only[go_sem,eZt h3,eZt h5,eqF h17]
  ·cases h
   simp(config:=cS)only[go_sem,eZt h3,eZf h5]
 ·cases h
  simp(config:=cS)only[go_sem,eZf h3]
attribute [go_sem] Tryz.ntmps19 Tryz.results19
theorem EA {s:GShow}{v1:GState}{res:Bool}(h:mi s v1=some res):ap Tryz.prog 19 [.agg (GShow.encS s),.agg (GState.encS v1)] [] (.lit (.bool res)) []:=by
 refine aj (ra:=[]) (md:=mdT) hT (hi:=hi00) Tryz.func19 rfl rfl (by decide +kernel) (by simp) ?_
 unfold mi at h
 obtain ⟨r1001,g1,h⟩:=ae h
 simp(config:=cS)only[go_sem]
 refine ag (rz g1) ?_
 obtain ⟨h2,h⟩|⟨h2,h⟩:=af h
 ·obtain ⟨r1002,g3,h⟩:=ae h
  simp(config:=cS)only[go_sem,eZt h2]
  refine ag (mL g3) ?_
  obtain ⟨h4,h⟩|⟨h4,h⟩:=af h
  ·cases h
   simp(config:=cS)only[go_sem,eZt h2,eZt h4]
  ·obtain ⟨r1003,g5,h⟩:=ae h
   simp(config:=cS)only[go_sem,eZt h2,eZf h4]
   refine ag (lg g5) ?_
   cases h
   simp(config:=cS)only[go_sem,eZt h2,eZf h4]
 ·cases h
  simp(config:=cS)only[go_sem,eZf h2]
attribute [go_sem] Tryz.ntmps36 Tryz.results36
theorem uV {s:GShow}{v1:GChoice}{lazy:Bool}{res:(List Int) × Bool}(h:jg s v1 lazy=some res):ap Tryz.prog 36 [.agg (GShow.encS s),.agg [.sl (ab eI v1.lengths),.sl (ab eI v1.values)],.lit (.bool lazy)] [] (.tup [.ref 20000 1 0 res.1.length,.lit (.bool res.2)]) [(20000,1,.row true (ab eI res.1))]:=by
 refine aj (ra:=[.home 6]) (md:=mdT) hT (hi:=hi00) Tryz.func36 rfl rfl (by decide +kernel) (by simp) ?_
 unfold jg at h
 obtain ⟨r1001,g1,h⟩:=ae h
 simp(config:=cS)only[go_sem]
 refine ag (CY g1) ?_
 obtain ⟨h2,h⟩|⟨h2,h⟩:=af h
 ·obtain ⟨r1002,g3,h⟩:=ae h
  simp(config:=cS)only[go_sem,eZt h2]
  refine ag (qf g3) ?_
  obtain ⟨h4,h⟩|⟨h4,h⟩:=af h
  ·obtain ⟨r1003,g5,h⟩:=ae h
   simp(config:=cS)only[go_sem,eZt h2,eZt h4]
   refine ag (CZ g5) ?_
   obtain ⟨r1004,g6,h⟩:=ae h
   simp(config:=cS)only[go_sem,eZt h2,eZt h4]
   refine ag (EA g6) ?_
   obtain ⟨h7,h⟩|⟨h7,h⟩:=af h
   ·obtain ⟨r1005,g8,h⟩:=ae h
    simp(config:=cS)only[go_sem,eZt h2,eZt h4,eZt h7]
    refine ag (aX g8) ?_
    cases h
    simp(config:=cS)only[go_sem,eZt h2,eZt h4,eZt h7]
   ·cases h
    simp(config:=cS)only[go_sem,eZt h2,eZt h4,eZf h7]
  ·cases h
   simp(config:=cS)only[go_sem,eZt h2,eZf h4]
 ·cases h
  simp(config:=cS)only[go_sem,eZf h2]
attribute [go_sem] Tryz.ntmps39 Tryz.results39
theorem Bx {a b:GChoice}{res:Bool}(h:ku a b=some res):ap Tryz.prog 39 [.agg [.sl (ab eI a.lengths),.sl (ab eI a.values)],.agg [.sl (ab eI b.lengths),.sl (ab eI b.values)]] [] (.lit (.bool res)) []:=by
 refine aj (ra:=[]) (md:=mdT) hT (hi:=hi00) Tryz.func39 rfl rfl (by decide +kernel) (by simp) ?_
 unfold ku at h
 obtain ⟨r1001,g1,h⟩:=ae h
 simp(config:=cS)only[go_sem]
 refine ag (jO g1) ?_
 obtain ⟨h2,h⟩|⟨h2,h⟩:=af h
 ·obtain ⟨r1002,g3,h⟩:=ae h
  simp(config:=cS)only[go_sem,eZt h2]
  refine ag (jO g3) ?_
  obtain ⟨h4,h⟩|⟨h4,h⟩:=af h
  ·cases h
   simp(config:=cS)only[go_sem,eZt h4]
  ·cases h
   simp(config:=cS)only[go_sem,eZf h4]
 ·cases h
  simp(config:=cS)only[go_sem,eZf h2]
attribute [go_sem] Tryz.ntmps41 Tryz.results41
theorem yq {a:GChoice}{k:Int}{zb0 zb1:Bool}{res:Int × (List Int) × (List Int)}(h:iL a k=some res):ap Tryz.prog 41 [.agg [.ref 10000 0 0 a.lengths.length,.ref 10001 0 0 a.values.length],.lit (.int .i64 k)] [(10000,0,.row zb0 (ab eI a.lengths)),(10001,0,.row zb1 (ab eI a.values))] (.lit (.int .i64 res.1)) [(10000,0,.row zb0 (ab eI res.2.1)),(10001,0,.row zb1 (ab eI res.2.2))]:=by
 refine aj (ra:=[]) (md:=mdT) hT (hi:=hi00) Tryz.func41 rfl rfl (by decide +kernel) (by simp) ?_
 unfold iL at h
 obtain ⟨r1001,g1,h⟩:=ae h
 simp(config:=cS)only[go_sem]
 refine ag (mM g1) ?_
 obtain ⟨r1002,g2,h⟩:=ae h
 simp(config:=cS)only[go_sem]
 refine ag (mM g2) ?_
 cases h
 simp(config:=cS)only[go_sem]
@[go_sem] def hi6_31:DT:=.i2 0 (.i1 2 (.i2 4 (.i0 1 [2] (.i2 3 (.i2 5 (.i2 6 (.i2 7 (.i2 8 (.i2 9 (.i2 10 .nil))))))))))
@[go_sem] def hi6_16:DT:=.i1 0 (.i2 1 (.i0 2 [0] (.i2 3 (.i2 4 .nil))))
@[go_sem] def hi6_14:DT:=.i1 0 (.i2 1 (.i0 2 [0] (.i2 3 (.i2 4 .nil))))
@[go_sem] def hi6_8:DT:=.i2 0 (.i1 2 (.i2 4 (.i0 1 [2] (.i2 3 (.i2 5 (.i2 6 (.i2 7 (.i2 8 (.i2 9 (.i2 10 .nil))))))))))
def hi6:Hint where
 acts:=fun _=>[]
 draws:=fun
  | 8=>⟨hi6_8,[[],[0],[],[0,1,2],[],.range 5,.range 6,.range 7,.range 7,.range 8,.range 10],[0,1,2,3,4,5,6,7,9,8,10]⟩
  | 14=>⟨hi6_14,[[],[],[1],[0,1,2],[0,1,2,3]],.range 5⟩
  | 16=>⟨hi6_16,[[],[],[1],[0,1,2],[0,1,2,3]],.range 5⟩
  | 31=>⟨hi6_31,[[],[0],[],[0,1,2],[],.range 5,.range 6,.range 7,.range 7,.range 8,.range 10],[0,1,2,3,4,5,6,7,9,8,10]⟩
  | _=>⟨.nil,[],[]⟩
theorem hi6a (i:Nat):hi6.acts i=[]:=rfl
theorem hi6v (i:Nat):hi6.views i=none:=rfl
attribute [go_sem] hi6a hi6v Tryz.ntmps6 Tryz.results6
@[go_sem] theorem UX:(hi6.draws 8).order=hi6_8:=rfl
@[go_sem] theorem Us:(hi6.draws 14).order=hi6_14:=rfl
@[go_sem] theorem Ut:(hi6.draws 16).order=hi6_16:=rfl
@[go_sem] theorem Uu:(hi6.draws 31).order=hi6_31:=rfl
theorem uW {aS:GShow}{aC:GChoice}{aLazy res:Bool}(h:ir aS aC aLazy=some res):ap Tryz.prog 6 [.agg (GShow.encS aS),.agg [.sl (ab eI aC.lengths),.sl (ab eI aC.values)],.lit (.bool aLazy)] [] (.lit (.bool res)) []:=by
 refine aj (ra:=[]) (md:=mdT) hT (hi:=hi6) Tryz.func6 rfl rfl (by decide +kernel) (by simp) ?_
 unfold ir at h
 obtain ⟨r1001,g1,h⟩:=ae h
 simp(config:=cS)only[go_sem]
 refine ag (ED g1) ?_
 obtain ⟨h2,h⟩|⟨h2,h⟩:=af h
 ·cases h
  simp(config:=cS)only[go_sem,eqT h2]
 ·obtain ⟨r1002,g3,h⟩:=ae h
  simp(config:=cS)only[go_sem,eqF h2]
  refine ag (Bw g3) ?_
  obtain ⟨h4,h⟩|⟨h4,h⟩:=af h
  ·cases h
   simp(config:=cS)only[go_sem,eqF h2,eqT h4]
  ·obtain ⟨r1003,g5,h⟩:=ae h
   simp(config:=cS)only[go_sem,eqF h2,eqF h4]
   refine ag (oP g5) ?_
   obtain ⟨r1004,g6,h⟩:=ae h
   simp(config:=cS)only[go_sem,eqF h2,eqF h4]
   refine ag (mF g6) ?_
   obtain ⟨r1005,g7,h⟩:=ae h
   simp(config:=cS)only[go_sem,eqF h2,eqF h4]
   refine ag (CX g7) ?_
   obtain ⟨r1006,g8,h⟩:=ae h
   simp(config:=cS)only[go_sem,eqF h2,eqF h4]
   refine ag (oP g8) ?_
   obtain ⟨r1007,g9,h⟩:=ae h
   simp(config:=cS)only[go_sem,eqF h2,eqF h4]
   refine ag (mF g9) ?_
   obtain ⟨r1008,g10,h⟩:=ae h
   simp(config:=cS)only[go_sem,eqF h2,eqF h4]
   refine ag (uV g10) ?_
   obtain ⟨r1009,g11,h⟩:=ae h
   simp(config:=cS)only[go_sem,eqF h2,eqF h4]
   refine ag (jO g11) ?_
   obtain ⟨h12,h⟩|⟨h12,h⟩:=af h
   ·obtain ⟨h13,h⟩|⟨h13,h⟩:=af h
    ·obtain ⟨r1010,g14,h⟩:=ae h
     simp(config:=cS)only[go_sem,eqF h2,eqF h4,eZt h12,eqT h13]
     refine ag (oP g14) ?_
     obtain ⟨r1011,g15,h⟩:=ae h
     simp(config:=cS)only[go_sem,eqF h2,eqF h4,eZt h12,eqT h13]
     refine ag (EQ g15) ?_
     obtain ⟨h16,h⟩|⟨h16,h⟩:=af h
     ·obtain ⟨r1012,g17,h⟩:=ae h
      simp(config:=cS)only[go_sem,eqF h2,eqF h4,eZt h12,eqT h13,eZt h16]
      refine ag (mF g17) ?_
      obtain ⟨r1013,g18,h⟩:=ae h
      simp(config:=cS)only[go_sem,eqF h2,eqF h4,eZt h12,eqT h13,eZt h16]
      refine ag (Bx g18) ?_
      obtain ⟨h19,h⟩|⟨h19,h⟩:=af h
      ·obtain ⟨r1014,g20,h⟩:=ae h
       simp(config:=cS)only[go_sem,eqF h2,eqF h4,eZt h12,eqT h13,eZt h16,eZt h19]
       refine ag (BO g20) ?_
       obtain ⟨r1015,g21,h⟩:=ae h
       simp(config:=cS)only[go_sem,eqF h2,eqF h4,eZt h12,eqT h13,eZt h16,eZt h19]
       refine ag (yq g21) ?_
       obtain ⟨h22,h⟩|⟨h22,h⟩:=af h
       ·cases h
        simp(config:=cS)only[go_sem,eqF h2,eqF h4,eZt h12,eqT h13,eZt h16,eZt h19,eqT h22]
       ·obtain ⟨r1016,g23,h⟩:=ae h
        simp(config:=cS)only[go_sem,eqF h2,eqF h4,eZt h12,eqT h13,eZt h16,eZt h19,eqF h22]
        refine ag (jO g23) ?_
        obtain ⟨h24,h⟩|⟨h24,h⟩:=af h
        ·obtain ⟨r1017,g25,h⟩:=ae h
         simp(config:=cS)only[go_sem,eqF h2,eqF h4,eZt h12,eqT h13,eZt h16,eZt h19,eqF h22,eZt h24]
         refine ag (mM g25) ?_
         obtain ⟨h26,h⟩:=ah h
         obtain ⟨r1018,g27,h⟩:=ae h
         simp(config:=cS)only[go_sem,eqF h2,eqF h4,eZt h12,eqT h13,eZt h16,eZt h19,eqF h22,eZt h24,eqT h26]
         refine ag (um g27) ?_
         obtain ⟨h28,h⟩|⟨h28,h⟩:=af h
         ·cases h
          simp(config:=cS)only[go_sem,eqF h2,eqF h4,eZt h12,eqT h13,eZt h16,eZt h19,eqF h22,eZt h24,eqT h26,eqT h28]
         ·obtain ⟨h29,h⟩|⟨h29,h⟩:=af h
          ·obtain ⟨r1019,g30,h⟩:=ae h
           simp(config:=cS)only[go_sem,eqF h2,eqF h4,eZt h12,eqT h13,eZt h16,eZt h19,eqF h22,eZt h24,eqT h26,eqF h28,eqT h29]
           refine ag (oP g30) ?_
           obtain ⟨r1020,g31,h⟩:=ae h
           simp(config:=cS)only[go_sem,eqF h2,eqF h4,eZt h12,eqT h13,eZt h16,eZt h19,eqF h22,eZt h24,eqT h26,eqF h28,eqT h29]
           refine ag (mF g31) ?_
           obtain ⟨r1021,g32,h⟩:=ae h
           simp(config:=cS)only[go_sem,eqF h2,eqF h4,eZt h12,eqT h13,eZt h16,eZt h19,eqF h22,eZt h24,eqT h26,eqF h28,eqT h29]
           refine ag (uV g32) ?_
           obtain ⟨r1022,g33,h⟩:=ae h
           simp(config:=cS)only[go_sem,eqF h2,eqF h4,eZt h12,eqT h13,eZt h16,eZt h19,eqF h22,eZt h24,eqT h26,eqF h28,eqT h29]
           refine ag (jO g33) ?_
           obtain ⟨h34,h⟩|⟨h34,h⟩:=af h
           ·obtain ⟨h35,h⟩|⟨h35,h⟩:=af h
            ·obtain ⟨r1023,g36,h⟩:=ae h
             simp(config:=cS)only[go_sem,eqF h2,eqF h4,eZt h12,eqT h13,eZt h16,eZt h19,eqF h22,eZt h24,eqT h26,eqF h28,eqT h29,eZt h34,eqT h35]
             refine ag (um g36) ?_
             obtain ⟨h37,h⟩|⟨h37,h⟩:=af h
             ·cases h
              simp(config:=cS)only[go_sem,eqF h2,eqF h4,eZt h12,eqT h13,eZt h16,eZt h19,eqF h22,eZt h24,eqT h26,eqF h28,eqT h29,eZt h34,eqT h35,eqT h37]
             ·obtain ⟨h38,h⟩|⟨h38,h⟩:=af h
              ·cases h
               simp(config:=cS)only[go_sem,eqF h2,eqF h4,eZt h12,eqT h13,eZt h16,eZt h19,eqF h22,eZt h24,eqT h26,eqF h28,eqT h29,eZt h34,eqT h35,eqF h37,eqT h38]
              ·cases h
               simp(config:=cS)only[go_sem,eqF h2,eqF h4,eZt h12,eqT h13,eZt h16,eZt h19,eqF h22,eZt h24,eqT h26,eqF h28,eqT h29,eZt h34,eqT h35,eqF h37,eqF h38]
            ·cases h
             simp(config:=cS)only[go_sem,eqF h2,eqF h4,eZt h12,eqT h13,eZt h16,eZt h19,eqF h22,eZt h24,eqT h26,eqF h28,eqT h29,eZt h34,eqF h35]
           ·cases h
            simp(config:=cS)only[go_sem,eqF h2,eqF h4,eZt h12,eqT h13,eZt h16,eZt h19,eqF h22,eZt h24,eqT h26,eqF h28,eqT h29,eZf h34]
          ·cases h
           simp(config:=cS)only[go_sem,eqF h2,eqF h4,eZt h12,eqT h13,eZt h16,eZt h19,eqF h22,eZt h24,eqT h26,eqF h28,eqF h29]
        ·cases h
         simp(config:=cS)only[go_sem,eqF h2,eqF h4,eZt h12,eqT h13,eZt h16,eZt h19,eqF h22,eZf h24]
      ·cases h
       simp(config:=cS)only[go_sem,eqF h2,eqF h4,eZt h12,eqT h13,eZt h16,eZf h19]
     ·cases h
      simp(config:=cS)only[go_sem,eqF h2,eqF h4,eZt h12,eqT h13,eZf h16]
    ·cases h
     simp(config:=cS)only[go_sem,eqF h2,eqF h4,eZt h12,eqF h13]
   ·cases h
    simp(config:=cS)only[go_sem,eqF h2,eqF h4,eZf h12]
end Go.Proofs.YtghfphjfkdbpjaaGreatY
