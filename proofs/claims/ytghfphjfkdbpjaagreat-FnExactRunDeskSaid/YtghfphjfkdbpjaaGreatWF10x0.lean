/- Functions. -/
import Derived.Test.YtghfphjfkdbpjaaGreatWFK2
set_option linter.all false
set_option maxRecDepth 100000
set_option maxHeartbeats 4000000
namespace Go.Proofs.QW
open Go
attribute [go_sem] Tryz.ntmps32 Tryz.results32
theorem AH {a:GChoice}{left res:Int}(h:kQ a left=some res):ap Tryz.prog 32 [.agg [.sl (ae eI a.lengths),.sl (ae eI a.values)],.lit (.int .i64 left)] [] (.lit (.int .i64 res)) []:=by
 refine ak (ra:=[]) (md:=mdT) hT (hi:=hi00) Tryz.func32 rfl rfl (by decide +kernel) (by simp) ?_
 unfold kQ at h
 obtain ⟨r01,g1,h⟩:=ab h
 simp(config:=cS)only[go_sem]
 refine ag (fT g1) ?_
 obtain ⟨h2,h⟩|⟨h2,h⟩:=af h
 ·cases h
  simp(config:=cS)only[go_sem,eqT h2]
 ·obtain ⟨r02,g3,h⟩:=ab h
  simp(config:=cS)only[go_sem,eqF h2]
  refine ag (fT g3) ?_
  obtain ⟨h4,h⟩|⟨h4,h⟩:=af h
  ·cases h
   simp(config:=cS)only[go_sem,eqT h4]
  ·cases h
   simp(config:=cS)only[go_sem,eqF h4]
attribute [go_sem] Tryz.ntmps35 Tryz.results35
theorem aK {a res:GChoice}(h:dM a=some res):ap Tryz.prog 35 [.agg [.sl (ae eI a.lengths),.sl (ae eI a.values)]] [] (.agg [.ref 20000 1 0 res.lengths.length,.ref 20001 1 0 res.values.length]) [(20000,1,.row true (ae eI res.lengths)),(20001,1,.row true (ae eI res.values))]:=by
 refine ak (ra:=[.homeCell 128 0,.homeCell 128 1]) (md:=mdT) hT (hi:=hi00) Tryz.func35 rfl rfl (by decide +kernel) (by simp) ?_
 unfold dM at h
 obtain ⟨r01,g1,h⟩:=ab h
 simp(config:=cS)only[go_sem]
 refine ag (fU g1) ?_
 obtain ⟨r02,g2,h⟩:=ab h
 simp(config:=cS)only[go_sem]
 refine ag (fU g2) ?_
 cases h
 simp(config:=cS)only[go_sem]
def qY (c:List GTie)(d:Int):(Int × (List Int))→St
 | (b,a)=>⟨[(3,.ref 384 1 0 a.length),(8,.sl (ae GTie.enc c)),(9,.lit (.int .i64 d)),(10,.lit (.int .i64 b))],[(384,1,.row true (ae eI a))],2⟩
attribute [go_sem] qY
attribute [go_sem] Tryz.ntmps135 Tryz.results135
theorem vC {s:GShow}{res:List Int}(h:jy s=some res):ap Tryz.prog 135 [.agg (GShow.encS s)] [] (.ref 20000 1 0 res.length) [(20000,1,.row true (ae eI res))]:=by
 refine ak (ra:=[.home 2]) (md:=mdT) hT (hi:=hi00) Tryz.func135 rfl rfl (by decide +kernel) (by simp) ?_
 unfold jy at h
 obtain ⟨q02,l1,h⟩:=ab h
 simp(config:=cS)only[go_sem]
 refine am (m1:=.mk) (m2:=.mk) [.nf [3,8,9,10] [384]] (qY s.ties ((s.ties.length:Nat):Int)) l1 ?_ ?_
 ·simp(config:=cS)only[go_sem]
 ·intro nb2 sb2 bb2 b2 gb2
  obtain ⟨v10_1,out_1⟩:=sb2
  unfold iO at b2
  try dsimp only at b2
  obtain ⟨h3,b2⟩|⟨h3,b2⟩:=af b2
  ·obtain ⟨x01,g4,b2⟩:=ab b2
   obtain ⟨h5,h6,h7⟩:=ai g4
   obtain ⟨h8,b2⟩|⟨h8,b2⟩:=af b2
   ·obtain ⟨h9,b2⟩:=ah b2
    obtain ⟨h10,b2⟩:=ah b2
    cases b2
    simp(config:=cS)only[go_sem,eqT h3,h5,h6,h7,eZt h8,eqT h9,eqT h10]
    refine ao gb2 ?_
    simp(config:=cS)only[go_sem]
   ·cases b2
    simp(config:=cS)only[go_sem,eqT h3,h5,h6,h7,eZf h8]
    refine ao gb2 ?_
    simp(config:=cS)only[go_sem]
  ·cases b2
   obtain rfl:=(aj gb2).symm
   try dsimp only at h
   cases h
   simp(config:=cS)only[go_sem,eqF h3]
def qg (d:Int)(e:List GNode)(f:List GTie)(g:Int)(b c a:List Int)(h:Int):St:=⟨[(2,.ptr 128 1 0 0),(3,.ptr 192 1 0 0),(27,.ref 896 1 0 a.length),(28,.lit (.int .i64 d)),(29,.lit (.int .i64 h))],[(128,1,.var [.sl (ae GNode.encS e),.sl (ae GTie.enc f),.lit (.int .i64 g)]),(192,1,.var [.sl (ae eI b),.sl (ae eI c)]),(896,1,.row true (ae eI a))],2⟩
attribute [go_sem] qg
def qh (a:List Int)(b:Int)(c:List GNode)(d:List GTie)(e f:Int):St:=⟨[(2,.ptr 128 1 0 0),(55,.sl (ae eI a)),(56,.lit (.int .i64 b)),(57,.lit (.int .i64 f))],[(128,1,.var [.sl (ae GNode.encS c),.sl (ae GTie.enc d),.lit (.int .i64 e)])],2⟩
attribute [go_sem] qh
@[go_sem] def hi97_9:DT:=.i2 0 (.i2 1 (.i2 2 (.i2 3 (.i2 4 (.i2 5 (.i2 6 (.i2 7 (.i2 8 (.i2 9 (.i2 10 (.i2 11 (.i2 12 (.i2 13 (.i2 14 (.i2 15 (.i2 16 (.i2 17 (.i2 18 .nil))))))))))))))))))
def hi97:Hint where
 acts:=fun _=>[]
 draws:=fun
  | 9=>⟨hi97_9,[[],[0],[],[0,1,2],[0,1,2,3],[],[5],[],[5,6,7],[5,6,7,8],[5,6,7,8,9],[],[11],[],[11,12,13],[11,12,13,14],[11,12,13,14,15],.range 17,.range 18],.range 19⟩
  | _=>⟨.nil,[],[]⟩
theorem PX (i:Nat):hi97.acts i=[]:=rfl
theorem PY (i:Nat):hi97.views i=none:=rfl
attribute [go_sem] PX PY Tryz.ntmps97 Tryz.results97
@[go_sem] theorem Sg:(hi97.draws 9).order=hi97_9:=rfl
theorem AI {s:GShow}{v1:GChoice}{res:Bool}(h:kR s v1=some res):ap Tryz.prog 97 [.agg (GShow.encS s),.agg [.sl (ae eI v1.lengths),.sl (ae eI v1.values)]] [] (.lit (.bool res)) []:=by
 refine ak (ra:=[]) (md:=mdT) hT (hi:=hi97) Tryz.func97 rfl rfl (by decide +kernel) (by simp) ?_
 unfold kR at h
 obtain ⟨r01,g1,h⟩:=ab h
 simp(config:=cS)only[go_sem]
 refine ag (mN g1) ?_
 obtain ⟨h2,h⟩|⟨h2,h⟩:=af h
 ·obtain ⟨r02,g3,h⟩:=ab h
  simp(config:=cS)only[go_sem,eZt h2]
  refine ag (vC g3) ?_
  obtain ⟨h4,h⟩|⟨h4,h⟩:=af h
  ·obtain ⟨h5,h⟩|⟨h5,h⟩:=af h
   ·obtain ⟨q11,l6,h⟩:=ab h
    simp(config:=cS)only[go_sem,eqT h4,eqT h5]
    refine am (m1:=.mk) (m2:=.mk) [.nf [2,3,27,28,29] [128,192,896]] (qg ((r02.length:Nat):Int) s.nodes s.ties s.horizon v1.lengths v1.values r02) l6 ?_ ?_
    ·simp(config:=cS)only[go_sem]
    ·intro nb7 v29_1 bb7 b7 gb7
     unfold eZ at b7
     try dsimp only at b7
     obtain ⟨h8,b7⟩|⟨h8,b7⟩:=af b7
     ·obtain ⟨x03,g9,b7⟩:=ab b7
      obtain ⟨h10,h11,h12⟩:=ai g9
      obtain ⟨x04,g13,b7⟩:=ab b7
      obtain ⟨h14,h15,h16⟩:=ai g13
      obtain ⟨x05,g17,b7⟩:=ab b7
      obtain ⟨h18,h19,h20⟩:=ai g17
      obtain ⟨r06,g21,b7⟩:=ab b7
      simp(config:=cS)only[go_sem,eqT h8,h10,h11,h12,h14,h15,h16,h18,h19,h20]
      refine ag (bW g21) ?_
      obtain ⟨h22,b7⟩|⟨h22,b7⟩:=af b7
      ·cases b7
       simp(config:=cS)only[go_sem,eZt h22]
       refine ao gb7 ?_
       simp(config:=cS)only[go_sem]
      ·cases b7
       obtain rfl:=(aj gb7).symm
       try dsimp only at h
       cases h
       simp(config:=cS)only[go_sem,eZf h22]
     ·cases b7
      obtain rfl:=(aj gb7).symm
      try dsimp only at h
      obtain ⟨q10,l25,h⟩:=ab h
      simp(config:=cS)only[go_sem,eqF h8]
      refine am (m1:=.mk) (m2:=.mk) [.nf [2,55,56,57] [128]] (qh v1.values ((v1.values.length:Nat):Int) s.nodes s.ties s.horizon) l25 ?_ ?_
      ·simp(config:=cS)only[go_sem]
      ·intro nb26 v57_2 bb26 b26 gb26
       unfold fa at b26
       try dsimp only at b26
       obtain ⟨h27,b26⟩|⟨h27,b26⟩:=af b26
       ·obtain ⟨x07,g28,b26⟩:=ab b26
        obtain ⟨h29,h30,h31⟩:=ai g28
        obtain ⟨h32,b26⟩|⟨h32,b26⟩:=af b26
        ·obtain ⟨h33,b26⟩|⟨h33,b26⟩:=af b26
         ·obtain ⟨r08,g34,b26⟩:=ab b26
          simp(config:=cS)only[go_sem,eqT h27,h29,h30,h31,eqT h32,eqT h33]
          refine ag (fC g34) ?_
          obtain ⟨h35,b26⟩|⟨h35,b26⟩:=af b26
          ·cases b26
           obtain rfl:=(aj gb26).symm
           try dsimp only at h
           cases h
           simp(config:=cS)only[go_sem,eqT h35]
          ·cases b26
           simp(config:=cS)only[go_sem,eqF h35]
           refine ao gb26 ?_
           simp(config:=cS)only[go_sem]
         ·cases b26
          simp(config:=cS)only[go_sem,eqT h27,h29,h30,h31,eqT h32,eqF h33]
          refine ao gb26 ?_
          simp(config:=cS)only[go_sem]
        ·obtain ⟨h37,b26⟩|⟨h37,b26⟩:=af b26
         ·obtain ⟨r09,g38,b26⟩:=ab b26
          simp(config:=cS)only[go_sem,eqT h27,h29,h30,h31,eqF h32,eqT h37]
          refine ag (fC g38) ?_
          obtain ⟨h39,b26⟩|⟨h39,b26⟩:=af b26
          ·cases b26
           obtain rfl:=(aj gb26).symm
           try dsimp only at h
           cases h
           simp(config:=cS)only[go_sem,eqT h39]
          ·cases b26
           simp(config:=cS)only[go_sem,eqF h39]
           refine ao gb26 ?_
           simp(config:=cS)only[go_sem]
         ·cases b26
          obtain rfl:=(aj gb26).symm
          try dsimp only at h
          cases h
          simp(config:=cS)only[go_sem,eqT h27,h29,h30,h31,eqF h32,eqF h37]
       ·cases b26
        obtain rfl:=(aj gb26).symm
        try dsimp only at h
        cases h
        simp(config:=cS)only[go_sem,eqF h27]
   ·cases h
    simp(config:=cS)only[go_sem,eqT h4,eqF h5]
  ·cases h
   simp(config:=cS)only[go_sem,eqF h4]
 ·cases h
  simp(config:=cS)only[go_sem,eZf h2]
def pd (d e:Int)(b c a:List Int)(f:Int):St:=⟨[(2,.lit (.int .i64 d)),(4,.ptr 256 1 0 0),(10,.ref 640 1 0 a.length),(11,.lit (.int .i64 e)),(12,.lit (.int .i64 f))],[(256,1,.var [.sl (ae eI b),.sl (ae eI c)]),(640,1,.row true (ae eI a))],2⟩
attribute [go_sem] pd
attribute [go_sem] Tryz.ntmps202 Tryz.results202
theorem zu {s:GShow}{v1:GChoice}{tie res:Int}(h:jY s v1 tie=some res):ap Tryz.prog 202 [.agg (GShow.encS s),.agg [.sl (ae eI v1.lengths),.sl (ae eI v1.values)],.lit (.int .i64 tie)] [] (.lit (.int .i64 res)) []:=by
 refine ak (ra:=[]) (md:=mdT) hT (hi:=hi00) Tryz.func202 rfl rfl (by decide +kernel) (by simp) ?_
 unfold jY at h
 obtain ⟨r01,g1,h⟩:=ab h
 simp(config:=cS)only[go_sem]
 refine ag (vC g1) ?_
 obtain ⟨q04,l2,h⟩:=ab h
 simp(config:=cS)only[go_sem]
 refine am (m1:=.mk) (m2:=.mk) [.nf [2,4,10,11,12] [256,640]] (pd tie ((r01.length:Nat):Int) v1.lengths v1.values r01) l2 ?_ ?_
 ·simp(config:=cS)only[go_sem]
 ·intro nb3 v12_1 bb3 b3 gb3
  unfold dU at b3
  try dsimp only at b3
  obtain ⟨h4,b3⟩|⟨h4,b3⟩:=af b3
  ·obtain ⟨x02,g5,b3⟩:=ab b3
   obtain ⟨h6,h7,h8⟩:=ai g5
   obtain ⟨h9,b3⟩|⟨h9,b3⟩:=af b3
   ·obtain ⟨x03,g10,b3⟩:=ab b3
    obtain ⟨h11,h12,h13⟩:=ai g10
    cases b3
    obtain rfl:=(aj gb3).symm
    try dsimp only at h
    cases h
    simp(config:=cS)only[go_sem,eqT h4,h6,h7,h8,eqT h9,h11,h12,h13]
   ·cases b3
    simp(config:=cS)only[go_sem,eqT h4,h6,h7,h8,eqF h9]
    refine ao gb3 ?_
    simp(config:=cS)only[go_sem]
  ·cases b3
   obtain rfl:=(aj gb3).symm
   try dsimp only at h
   cases h
   simp(config:=cS)only[go_sem,eqF h4]
def pf (h:Int)(i:List GNode)(j:List GTie)(k c:Int)(d e f g a:List Int):(Int × (List Int))→St
 | (l,b)=>⟨[(3,.ptr 192 1 0 0),(4,.ptr 256 1 0 0),(5,.ptr 320 1 0 0),(7,.ref 640 1 0 b.length),(13,.ref 832 1 0 a.length),(14,.lit (.int .i64 h)),(15,.lit (.int .i64 l))],[(192,1,.var [.sl (ae GNode.encS i),.sl (ae GTie.enc j),.lit (.int .i64 k)]),(256,1,.var [.lit (.int .i64 c),.sl (ae eI d),.sl (ae eI e)]),(320,1,.var [.sl (ae eI f),.sl (ae eI g)]),(640,1,.row true (ae eI b)),(832,1,.row true (ae eI a))],2⟩
attribute [go_sem] pf
@[go_sem] def hi123_5:DT:=.i1 0 (.i1 1 (.i1 2 (.i1 3 (.i1 4 (.i1 5 (.i2 6 (.i1 7 (.i1 8 (.i1 9 (.i1 10 (.i1 11 (.i2 12 (.i2 13 (.i2 14 (.i2 15 (.i0 16 [0,1,2,3,4,5,7,8,9,10,11] (.i2 17 .nil)))))))))))))))))
def DW:Hint where
 acts:=fun _=>[]
 draws:=fun
  | 5=>⟨hi123_5,[[],[0],[],[2],[],[4],[],[4,5,6],[4,5,6,7],[4,5,6,7,8],[2,3,4,5,6,7,8,9],[2,3,4,5,6,7,8,9,10],.range 12,[],[],[],[13,14,15],.range 17],.range 18⟩
  | _=>⟨.nil,[],[]⟩
theorem Nt (i:Nat):DW.acts i=[]:=rfl
theorem Nu (i:Nat):DW.views i=none:=rfl
attribute [go_sem] Nt Nu Tryz.ntmps123 Tryz.results123
@[go_sem] theorem QX:(DW.draws 5).order=hi123_5:=rfl
theorem ud {s:GShow}{v1:GState}{v2:GChoice}{res:List Int}(h:jZ s v1 v2=some res):ap Tryz.prog 123 [.agg (GShow.encS s),.agg (GState.encS v1),.agg [.sl (ae eI v2.lengths),.sl (ae eI v2.values)]] [] (.ref 20000 1 0 res.length) [(20000,1,.row true (ae eI res))]:=by
 refine ak (ra:=[.home 6]) (md:=mdT) hT (hi:=DW) Tryz.func123 rfl rfl (by decide +kernel) (by simp) ?_
 unfold jZ at h
 obtain ⟨r01,g1,h⟩:=ab h
 simp(config:=cS)only[go_sem]
 refine ag (uf g1) ?_
 obtain ⟨q06,l2,h⟩:=ab h
 simp(config:=cS)only[go_sem]
 refine am (m1:=.mk) (m2:=.mk) [.nf [3,4,5,7,13,14,15] [192,256,320,640,832]] (pf ((r01.length:Nat):Int) s.nodes s.ties s.horizon v1.now v1.times v1.values v2.lengths v2.values r01) l2 ?_ ?_
 ·simp(config:=cS)only[go_sem]
 ·intro nb3 sb3 bb3 b3 gb3
  obtain ⟨v15_1,out_1⟩:=sb3
  unfold gv at b3
  try dsimp only at b3
  obtain ⟨h4,b3⟩|⟨h4,b3⟩:=af b3
  ·obtain ⟨x02,g5,b3⟩:=ab b3
   obtain ⟨h6,h7,h8⟩:=ai g5
   obtain ⟨x03,g9,b3⟩:=ab b3
   obtain ⟨h10,h11,h12⟩:=ai g9
   obtain ⟨x04,g13,b3⟩:=ab b3
   obtain ⟨h14,h15,h16⟩:=ai g13
   obtain ⟨r05,g17,b3⟩:=ab b3
   simp(config:=cS)only[go_sem,eqT h4,h6,h7,h8,h10,h11,h12,h14,h15,h16]
   refine ag (zu g17) ?_
   obtain ⟨h18,b3⟩|⟨h18,b3⟩:=af b3
   ·obtain ⟨h19,b3⟩:=ah b3
    obtain ⟨h20,b3⟩:=ah b3
    cases b3
    simp(config:=cS)only[go_sem,eqT h4,h6,h7,h8,h10,h11,h12,h14,h15,h16,eqT h18,eqT h19,eqT h20]
    refine ao gb3 ?_
    simp(config:=cS)only[go_sem,eqT h4,h6,h7,h8,h10,h11,h12,h14,h15,h16,eqT h18,eqT h19,eqT h20]
   ·cases b3
    simp(config:=cS)only[go_sem,eqT h4,h6,h7,h8,h10,h11,h12,h14,h15,h16,eqF h18]
    refine ao gb3 ?_
    simp(config:=cS)only[go_sem,eqT h4,h6,h7,h8,h10,h11,h12,h14,h15,h16,eqF h18]
  ·cases b3
   obtain rfl:=(aj gb3).symm
   try dsimp only at h
   cases h
   simp(config:=cS)only[go_sem,eqF h4]
def qZ (i j:List Int):(Int × Int × Bool × (List GNode) × (List GTie) × (List Int) × (List Int) × (List GEntry))→St
 | (f,g,h,a,b,c,d,e)=>⟨[(3,.ptr 192 1 0 0),(4,.ptr 256 1 0 0),(6,.ptr 384 1 0 0)],[(192,1,.var [.sl (ae eI i),.sl (ae eI j)]),(256,1,.var [.lit (.slice none 0 0),.lit (.slice none 0 0),.lit (.int .i64 0),.lit (.int .i64 0),.lit (.slice none 0 0),.lit (.slice none 0 0),.lit (.bool false),.lit (.slice none 0 0)]),(384,1,.var [.ref 704 1 0 a.length,.ref 705 1 0 b.length,.lit (.int .i64 f),.lit (.int .i64 g),.ref 706 1 0 c.length,.ref 707 1 0 d.length,.lit (.bool h),.ref 708 1 0 e.length]),(704,1,.row true (ae GNode.encO a)),(705,1,.row true (ae GTie.enc b)),(706,1,.row true (ae eI c)),(707,1,.row true (ae eI d)),(708,1,.row true (ae GEntry.encO e))],2⟩
attribute [go_sem] qZ
@[go_sem] def hi53_4:DT:=.i1 0 (.i1 1 (.i1 2 (.i1 3 (.i1 4 (.i1 5 (.i1 7 (.i1 8 (.fork (.i0 6 [0,7,8] (.fork (.i2 9 (.i2 10 (.i2 11 (.i2 12 (.i2 13 (.i0 14 [0,1,2,3,4,5,7,8] (.i2 15 (.i2 16 (.i2 17 .nil))))))))) (.i0 14 [0,1,2,3,4,5,7,8] (.i2 9 (.i2 10 (.i2 11 (.i2 12 (.i2 13 (.i2 15 (.i2 16 (.i2 17 .nil))))))))))) (.i0 14 [0,1,2,3,4,5,7,8] (.i0 6 [0,7,8] (.i2 9 (.i2 10 (.i2 11 (.i2 12 (.i2 13 (.i2 15 (.i2 16 (.i2 17 .nil))))))))))))))))))
def hi53:Hint where
 acts:=fun _=>[]
 draws:=fun
  | 4=>⟨hi53_4,[[],[],[1],[],[3],[],[1,2,3,4,5],[],[7],.range 9,.range 10,.range 11,.range 11,.range 11,[],[0,1,2,3,4,5,6,7,8,9,10,11,14],[0,1,2,3,4,5,6,7,8,9,10,11,12,14,15],.range 17],[0,1,2,3,4,5,6,7,8,9,10,11,14,16,12,13,15,17]⟩
  | _=>⟨.nil,[],[]⟩
theorem PZ (i:Nat):hi53.acts i=[]:=rfl
theorem Qa (i:Nat):hi53.views i=none:=rfl
attribute [go_sem] PZ Qa Tryz.ntmps53 Tryz.results53
@[go_sem] theorem Si:(hi53.draws 4).order=hi53_4:=rfl
theorem oo {d:GDesk}{v1:GChoice}{res:GDesk × Int}(h:lV d v1=some res):ap Tryz.prog 53 [.agg (GDesk.encS d),.agg [.sl (ae eI v1.lengths),.sl (ae eI v1.values)]] [] (.tup [.agg [.ref 20000 1 0 res.1.show_.nodes.length,.ref 20001 1 0 res.1.show_.ties.length,.lit (.int .i64 res.1.show_.horizon),.lit (.int .i64 res.1.state.now),.ref 20002 1 0 res.1.state.times.length,.ref 20003 1 0 res.1.state.values.length,.lit (.bool res.1.lazy),.ref 20004 1 0 res.1.log.length],.lit (.int .i64 res.2)]) [(20000,1,.row true (ae GNode.encO res.1.show_.nodes)),(20001,1,.row true (ae GTie.enc res.1.show_.ties)),(20002,1,.row true (ae eI res.1.state.times)),(20003,1,.row true (ae eI res.1.state.values)),(20004,1,.row true (ae GEntry.encO res.1.log))]:=by
 refine ak (ra:=[.homeCell 256 0,.homeCell 256 1,.homeCell 256 4,.homeCell 256 5,.homeCell 256 7]) (md:=mdT) hT (hi:=hi53) Tryz.func53 rfl rfl (by decide +kernel) (by simp) ?_
 unfold lV at h
 obtain ⟨r01,g1,h⟩:=ab h
 simp(config:=cS)only[go_sem]
 refine ag (ow g1) ?_
 obtain ⟨r02,g2,h⟩:=ab h
 simp(config:=cS)only[go_sem]
 refine ag (wQ g2) ?_
 obtain ⟨h3,h⟩|⟨h3,h⟩:=af h
 ·obtain ⟨r03,g4,h⟩:=ab h
  simp(config:=cS)only[go_sem,eZt h3]
  refine ag (AI g4) ?_
  obtain ⟨h5,h⟩|⟨h5,h⟩:=af h
  ·obtain ⟨q09,l6,h⟩:=ab h
   simp(config:=cS)only[go_sem,eZt h3,eZt h5]
   refine am (m1:=.mk) (m2:=.mk) [.nfp [3,4,6] [(192,192),(256,256),(384,384),(2112,704),(704,704),(2113,705),(705,705),(2114,706),(706,706),(2115,707),(707,707),(2116,708),(708,708)] []] (qZ v1.lengths v1.values) l6 ?_ ?_
   ·simp(config:=cS)only[go_sem,eZt h3,eZt h5]
   ·intro nb7 sb7 bb7 b7 gb7
    obtain ⟨out_2_1,out_3_1,out_6_1,h704_1,h705_1,h706_1,h707_1,h708_1⟩:=sb7
    unfold ly at b7
    try dsimp only at b7
    try simp(config:=cS)only[go_sem,eZt h3,eZt h5]
    refine aO ?_ ?_
    ·obtain ⟨r04,g8,b7⟩:=ab b7
     simp(config:=cS)only[go_sem,eZt h3,eZt h5]
     refine ag (ud g8) ?_
     try simp(config:=cS)only[go_sem,eZt h3,eZt h5]
     refine aO ?_ ?_
     ·obtain ⟨r05,g9,b7⟩:=ab b7
      simp(config:=cS)only[go_sem,eZt h3,eZt h5]
      refine ag (rp g9) ?_
      obtain ⟨h10,b7⟩|⟨h10,b7⟩:=af b7
      ·cases b7
       simp(config:=cS)only[go_sem,eZt h3,eZt h5,eqT h10]
       refine ao gb7 ?_
       simp(config:=cS)only[go_sem,eZt h3,eZt h5,eqT h10]
      ·cases b7
       obtain rfl:=(aj gb7).symm
       try dsimp only at h
       cases h
       simp(config:=cS)only[go_sem,eZt h3,eZt h5,eqF h10]
     ·obtain ⟨r06,g12,b7⟩:=ab b7
      simp(config:=cS)only[go_sem,eZt h3,eZt h5]
      refine ag (rp g12) ?_
      obtain ⟨h13,b7⟩|⟨h13,b7⟩:=af b7
      ·cases b7
       simp(config:=cS)only[go_sem,eZt h3,eZt h5,eqT h13]
       refine ao gb7 ?_
       simp(config:=cS)only[go_sem,eZt h3,eZt h5,eqT h13]
      ·cases b7
       obtain rfl:=(aj gb7).symm
       try dsimp only at h
       cases h
       simp(config:=cS)only[go_sem,eZt h3,eZt h5,eqF h13]
    ·obtain ⟨r07,g15,b7⟩:=ab b7
     simp(config:=cS)only[go_sem,eZt h3,eZt h5]
     refine ag (ud g15) ?_
     obtain ⟨r08,g16,b7⟩:=ab b7
     simp(config:=cS)only[go_sem,eZt h3,eZt h5]
     refine ag (rp g16) ?_
     obtain ⟨h17,b7⟩|⟨h17,b7⟩:=af b7
     ·cases b7
      simp(config:=cS)only[go_sem,eZt h3,eZt h5,eqT h17]
      refine ao gb7 ?_
      simp(config:=cS)only[go_sem,eZt h3,eZt h5,eqT h17]
     ·cases b7
      obtain rfl:=(aj gb7).symm
      try dsimp only at h
      cases h
      simp(config:=cS)only[go_sem,eZt h3,eZt h5,eqF h17]
  ·cases h
   simp(config:=cS)only[go_sem,eZt h3,eZf h5]
 ·cases h
  simp(config:=cS)only[go_sem,eZf h3]
def qi (b:List GTie)(c:Int):(Int × (List Int))→St
 | (d,a)=>⟨[(3,.ref 255 1 0 a.length),(7,.sl (ae GTie.enc b)),(8,.lit (.int .i64 c)),(9,.lit (.int .i64 d))],[(255,1,.row true (ae eI a))],2⟩
attribute [go_sem] qi
attribute [go_sem] Tryz.ntmps140 Tryz.results140
theorem uQ {s:GShow}{res:List Int}(h:iD s=some res):ap Tryz.prog 140 [.agg (GShow.encS s)] [] (.ref 20000 1 0 res.length) [(20000,1,.row true (ae eI res))]:=by
 refine ak (ra:=[.home 2]) (md:=mdT) hT (hi:=hi00) Tryz.func140 rfl rfl (by decide +kernel) (by simp) ?_
 unfold iD at h
 obtain ⟨q02,l1,h⟩:=ab h
 simp(config:=cS)only[go_sem]
 refine am (m1:=.mk) (m2:=.mk) [.home 3,.nf [3,7,8,9] [255]] (qi s.ties ((s.ties.length:Nat):Int)) l1 ?_ ?_
 ·simp(config:=cS)only[go_sem]
 ·intro nb2 sb2 bb2 b2 gb2
  obtain ⟨v9_1,out_1⟩:=sb2
  unfold ig at b2
  try dsimp only at b2
  obtain ⟨h3,b2⟩|⟨h3,b2⟩:=af b2
  ·obtain ⟨x01,g4,b2⟩:=ab b2
   obtain ⟨h5,h6,h7⟩:=ai g4
   obtain ⟨h8,b2⟩|⟨h8,b2⟩:=af b2
   ·obtain ⟨h9,b2⟩:=ah b2
    obtain ⟨h10,b2⟩:=ah b2
    cases b2
    simp(config:=cS)only[go_sem,eqT h3,h5,h6,h7,eZt h8,eqT h9,eqT h10]
    refine ao gb2 ?_
    simp(config:=cS)only[go_sem]
   ·cases b2
    simp(config:=cS)only[go_sem,eqT h3,h5,h6,h7,eZf h8]
    refine ao gb2 ?_
    simp(config:=cS)only[go_sem]
  ·cases b2
   obtain rfl:=(aj gb2).symm
   try dsimp only at h
   cases h
   simp(config:=cS)only[go_sem,eqF h3]
def qj (d:Int)(e:List GNode)(f:List GTie)(g:Int)(b c a:List Int)(h:Int):St:=⟨[(2,.ptr 128 1 0 0),(3,.ptr 192 1 0 0),(24,.ref 704 1 0 a.length),(25,.lit (.int .i64 d)),(26,.lit (.int .i64 h))],[(128,1,.var [.sl (ae GNode.encS e),.sl (ae GTie.enc f),.lit (.int .i64 g)]),(192,1,.var [.sl (ae eI b),.sl (ae eI c)]),(704,1,.row true (ae eI a))],2⟩
attribute [go_sem] qj
def qk (a:List Int)(b:Int)(c:List GNode)(d:List GTie)(e f:Int):St:=⟨[(2,.ptr 128 1 0 0),(59,.sl (ae eI a)),(60,.lit (.int .i64 b)),(61,.lit (.int .i64 f))],[(128,1,.var [.sl (ae GNode.encS c),.sl (ae GTie.enc d),.lit (.int .i64 e)])],2⟩
attribute [go_sem] qk
@[go_sem] def hi62_7:DT:=.i2 0 (.i2 1 (.i2 2 (.i2 3 (.i2 4 (.i2 5 (.i2 6 (.i2 7 (.i2 8 (.i2 9 (.i2 10 (.i2 11 (.i2 12 (.i2 13 (.i2 14 (.i2 15 (.i2 16 (.i2 17 (.i2 18 (.i2 19 (.i2 20 (.i2 21 (.i2 22 (.i2 23 (.i2 24 (.i2 25 .nil)))))))))))))))))))))))))
def hi62:Hint where
 acts:=fun _=>[]
 draws:=fun
  | 7=>⟨hi62_7,[[],[0],[],[0,1,2],[0,1,2,3],[],[5],[],[5,6,7],[5,6,7,8],[5,6,7,8,9],.range 11,.range 12,.range 13,.range 14,.range 13,.range 16,.range 17,.range 13,[0,1,2,3,4,5,6,7,8,9,10,11,12,18],.range 13,[0,1,2,3,4,5,6,7,8,9,10,11,12,18,19,20],[0,1,2,3,4,5,6,7,8,9,10,11,12,18,19,20,21],[0,1,2,3,4,5,6,7,8,9,10,11,12,18,19,20,21,22],.range 24,.range 25],.range 26⟩
  | _=>⟨.nil,[],[]⟩
theorem Qb (i:Nat):hi62.acts i=[]:=rfl
theorem Qc (i:Nat):hi62.views i=none:=rfl
attribute [go_sem] Qb Qc Tryz.ntmps62 Tryz.results62
@[go_sem] theorem Sj:(hi62.draws 7).order=hi62_7:=rfl
theorem uR {s:GShow}{v1:GChoice}{res:Bool}(h:iE s v1=some res):ap Tryz.prog 62 [.agg (GShow.encS s),.agg [.sl (ae eI v1.lengths),.sl (ae eI v1.values)]] [] (.lit (.bool res)) []:=by
 refine ak (ra:=[]) (md:=mdT) hT (hi:=hi62) Tryz.func62 rfl rfl (by decide +kernel) (by simp) ?_
 unfold iE at h
 obtain ⟨r01,g1,h⟩:=ab h
 simp(config:=cS)only[go_sem]
 refine ag (uQ g1) ?_
 obtain ⟨h2,h⟩|⟨h2,h⟩:=af h
 ·obtain ⟨h3,h⟩|⟨h3,h⟩:=af h
  ·obtain ⟨q09,l4,h⟩:=ab h
   simp(config:=cS)only[go_sem,eqT h2,eqT h3]
   refine am (m1:=.mk) (m2:=.mk) [.nf [2,3,24,25,26] [128,192,704]] (qj ((r01.length:Nat):Int) s.nodes s.ties s.horizon v1.lengths v1.values r01) l4 ?_ ?_
   ·simp(config:=cS)only[go_sem]
   ·intro nb5 v26_1 bb5 b5 gb5
    unfold eF at b5
    try dsimp only at b5
    obtain ⟨h6,b5⟩|⟨h6,b5⟩:=af b5
    ·obtain ⟨x02,g7,b5⟩:=ab b5
     obtain ⟨h8,h9,h10⟩:=ai g7
     obtain ⟨x03,g11,b5⟩:=ab b5
     obtain ⟨h12,h13,h14⟩:=ai g11
     obtain ⟨x04,g15,b5⟩:=ab b5
     obtain ⟨h16,h17,h18⟩:=ai g15
     obtain ⟨h19,b5⟩|⟨h19,b5⟩:=af b5
     ·cases b5
      obtain rfl:=(aj gb5).symm
      try dsimp only at h
      cases h
      simp(config:=cS)only[go_sem,eqT h6,h8,h9,h10,h12,h13,h14,h16,h17,h18,eqT h19]
     ·obtain ⟨h21,b5⟩|⟨h21,b5⟩:=af b5
      ·cases b5
       obtain rfl:=(aj gb5).symm
       try dsimp only at h
       cases h
       simp(config:=cS)only[go_sem,eqT h6,h8,h9,h10,h12,h13,h14,h16,h17,h18,eqF h19,eqT h21]
      ·cases b5
       simp(config:=cS)only[go_sem,eqT h6,h8,h9,h10,h12,h13,h14,h16,h17,h18,eqF h19,eqF h21]
       refine ao gb5 ?_
       simp(config:=cS)only[go_sem]
    ·cases b5
     obtain rfl:=(aj gb5).symm
     try dsimp only at h
     obtain ⟨q08,l24,h⟩:=ab h
     simp(config:=cS)only[go_sem,eqF h6]
     refine am (m1:=.mk) (m2:=.mk) [.nf [2,59,60,61] [128]] (qk v1.values ((v1.values.length:Nat):Int) s.nodes s.ties s.horizon) l24 ?_ ?_
     ·simp(config:=cS)only[go_sem]
     ·intro nb25 v61_2 bb25 b25 gb25
      unfold eG at b25
      try dsimp only at b25
      obtain ⟨h26,b25⟩|⟨h26,b25⟩:=af b25
      ·obtain ⟨x05,g27,b25⟩:=ab b25
       obtain ⟨h28,h29,h30⟩:=ai g27
       obtain ⟨h31,b25⟩|⟨h31,b25⟩:=af b25
       ·obtain ⟨h32,b25⟩|⟨h32,b25⟩:=af b25
        ·obtain ⟨r06,g33,b25⟩:=ab b25
         simp(config:=cS)only[go_sem,eqT h26,h28,h29,h30,eqT h31,eqT h32]
         refine ag (oz g33) ?_
         obtain ⟨h34,b25⟩|⟨h34,b25⟩:=af b25
         ·cases b25
          obtain rfl:=(aj gb25).symm
          try dsimp only at h
          cases h
          simp(config:=cS)only[go_sem,eqT h34]
         ·cases b25
          simp(config:=cS)only[go_sem,eqF h34]
          refine ao gb25 ?_
          simp(config:=cS)only[go_sem]
        ·cases b25
         simp(config:=cS)only[go_sem,eqT h26,h28,h29,h30,eqT h31,eqF h32]
         refine ao gb25 ?_
         simp(config:=cS)only[go_sem]
       ·obtain ⟨h36,b25⟩|⟨h36,b25⟩:=af b25
        ·obtain ⟨r07,g37,b25⟩:=ab b25
         simp(config:=cS)only[go_sem,eqT h26,h28,h29,h30,eqF h31,eqT h36]
         refine ag (oz g37) ?_
         obtain ⟨h38,b25⟩|⟨h38,b25⟩:=af b25
         ·cases b25
          obtain rfl:=(aj gb25).symm
          try dsimp only at h
          cases h
          simp(config:=cS)only[go_sem,eqT h38]
         ·cases b25
          simp(config:=cS)only[go_sem,eqF h38]
          refine ao gb25 ?_
          simp(config:=cS)only[go_sem]
        ·cases b25
         obtain rfl:=(aj gb25).symm
         try dsimp only at h
         cases h
         simp(config:=cS)only[go_sem,eqT h26,h28,h29,h30,eqF h31,eqF h36]
      ·cases b25
       obtain rfl:=(aj gb25).symm
       try dsimp only at h
       cases h
       simp(config:=cS)only[go_sem,eqF h26]
  ·cases h
   simp(config:=cS)only[go_sem,eqT h2,eqF h3]
 ·cases h
  simp(config:=cS)only[go_sem,eqF h2]
@[go_sem] def hi144_1:DT:=.i1 0 (.i1 1 (.i1 2 (.i1 3 (.i1 4 (.i1 5 (.i2 6 (.i1 7 (.i1 8 (.i1 9 (.i1 10 (.i1 11 (.i2 12 (.i1 13 (.i1 14 (.i2 15 (.i2 16 (.i0 17 [0,1,2,3,4,5,7,8,9,10,11,13,14] (.i2 18 (.i2 19 (.i2 20 (.i2 21 .nil)))))))))))))))))))))
def DX:Hint where
 acts:=fun _=>[]
 draws:=fun
  | 1=>⟨hi144_1,[[],[0],[],[2],[],[4],[],[4,5,6],[4,5,6,7],[4,5,6,7,8],[2,3,4,5,6,7,8,9],[2,3,4,5,6,7,8,9,10],.range 12,[],[13],[],[],[15,16],[13,14,15,16,17],[13,14,15,16,17,18],.range 20,.range 21],.range 22⟩
  | _=>⟨.nil,[],[]⟩
theorem Nv (i:Nat):DX.acts i=[]:=rfl
theorem Nw (i:Nat):DX.views i=none:=rfl
attribute [go_sem] Nv Nw Tryz.ntmps144 Tryz.results144
@[go_sem] theorem QY:(DX.draws 1).order=hi144_1:=rfl
theorem xf {i:Int}{v1:GState}{s:GShow}{v3:GChoice}{free:List Int}{res:Bool}(h:kd i v1 s v3 free=some res):ap Tryz.prog 144 [.lit (.int .i64 i),.loc [.lit (.int .i64 v1.now),.sl (ae eI v1.times),.sl (ae eI v1.values)],.loc [.sl (ae GNode.encS s.nodes),.sl (ae GTie.enc s.ties),.lit (.int .i64 s.horizon)],.loc [.sl (ae eI v3.lengths),.sl (ae eI v3.values)],.loc [.sl (ae eI free)]] [] (.lit (.bool res)) []:=by
 refine ak (ra:=[]) (md:=mdT) hT (hi:=DX) Tryz.func144 rfl rfl (by decide +kernel) (by simp) ?_
 unfold kd at h
 obtain ⟨x01,g1,h⟩:=ab h
 obtain ⟨h2,h3,h4⟩:=ai g1
 obtain ⟨x02,g5,h⟩:=ab h
 obtain ⟨h6,h7,h8⟩:=ai g5
 obtain ⟨r03,g9,h⟩:=ab h
 simp(config:=cS)only[go_sem,h2,h3,h4,h6,h7,h8]
 refine ag (sX g9) ?_
 obtain ⟨x04,g10,h⟩:=ab h
 obtain ⟨h11,h12,h13⟩:=ai g10
 cases h
 simp(config:=cS)only[go_sem,h2,h3,h4,h6,h7,h8,h11,h12,h13]
attribute [go_sem] Tryz.ntmps63 Tryz.results63
theorem ue {s:GShow}{v1:GState}{v2:GChoice}{res:List Int}(h:jO s v1 v2=some res):ap Tryz.prog 63 [.agg (GShow.encS s),.agg (GState.encS v1),.agg [.sl (ae eI v2.lengths),.sl (ae eI v2.values)]] [] (.ref 20000 1 0 res.length) [(20000,1,.row false (ae eI res))]:=by
 refine ak (ra:=[.home 6,.trim 6]) (md:=mdT) hT (hi:=hi00) Tryz.func63 rfl rfl (by decide +kernel) (by simp) ?_
 unfold jO at h
 obtain ⟨r01,g1,h⟩:=ab h
 simp(config:=cS)only[go_sem]
 refine ag (vJ g1) ?_
 obtain ⟨h2,h⟩|⟨h2,h⟩:=af h
 ·obtain ⟨r02,g3,h⟩:=ab h
  simp(config:=cS)only[go_sem,eZt h2]
  refine ag (uR g3) ?_
  obtain ⟨h4,h⟩|⟨h4,h⟩:=af h
  ·obtain ⟨r03,g5,h⟩:=ab h
   simp(config:=cS)only[go_sem,eZt h2,eZt h4]
   refine ag (uQ g5) ?_
   obtain ⟨r04,g6,h⟩:=ab h
   simp(config:=cS)only[go_sem,eZt h2,eZt h4]
   refine ag (wT g6) ?_
   obtain ⟨r05,g7,h⟩:=ab h
   simp(config:=cS)only[go_sem,eZt h2,eZt h4]
   refine ag (oO (by exact fun _ _ hr=>xf hr) (by refine ⟨fun _=>?_,fun _=>?_⟩ <;> simp only [go_sem]) (fun _=>rfl) rfl g7) ?_
   cases h
   simp(config:=cS)only[go_sem,eZt h2,eZt h4]
  ·cases h
   simp(config:=cS)only[go_sem,eZt h2,eZf h4]
 ·cases h
  simp(config:=cS)only[go_sem,eZf h2]
def rb (i j:List Int):(Int × Int × Bool × (List GNode) × (List GTie) × (List Int) × (List Int) × (List GEntry))→St
 | (f,g,h,a,b,c,d,e)=>⟨[(3,.ptr 192 1 0 0),(4,.ptr 256 1 0 0),(6,.ptr 384 1 0 0)],[(192,1,.var [.sl (ae eI i),.sl (ae eI j)]),(256,1,.var [.lit (.slice none 0 0),.lit (.slice none 0 0),.lit (.int .i64 0),.lit (.int .i64 0),.lit (.slice none 0 0),.lit (.slice none 0 0),.lit (.bool false),.lit (.slice none 0 0)]),(384,1,.var [.ref 704 1 0 a.length,.ref 705 1 0 b.length,.lit (.int .i64 f),.lit (.int .i64 g),.ref 706 1 0 c.length,.ref 707 1 0 d.length,.lit (.bool h),.ref 708 1 0 e.length]),(704,1,.row true (ae GNode.encO a)),(705,1,.row true (ae GTie.enc b)),(706,1,.row true (ae eI c)),(707,1,.row true (ae eI d)),(708,1,.row true (ae GEntry.encO e))],2⟩
attribute [go_sem] rb
@[go_sem] def hi14_4:DT:=.i1 0 (.i1 1 (.i1 2 (.i1 3 (.i1 4 (.i1 5 (.i1 7 (.i1 8 (.fork (.i0 6 [0,7,8] (.fork (.i2 9 (.i2 10 (.i2 11 (.i2 12 (.i2 13 (.i0 14 [0,1,2,3,4,5,7,8] (.i2 15 (.i2 16 (.i2 17 .nil))))))))) (.i0 14 [0,1,2,3,4,5,7,8] (.i2 9 (.i2 10 (.i2 11 (.i2 12 (.i2 13 (.i2 15 (.i2 16 (.i2 17 .nil))))))))))) (.i0 14 [0,1,2,3,4,5,7,8] (.i0 6 [0,7,8] (.i2 9 (.i2 10 (.i2 11 (.i2 12 (.i2 13 (.i2 15 (.i2 16 (.i2 17 .nil))))))))))))))))))
def hi14:Hint where
 acts:=fun _=>[]
 draws:=fun
  | 4=>⟨hi14_4,[[],[],[1],[],[3],[],[1,2,3,4,5],[],[7],.range 9,.range 10,.range 11,.range 11,.range 11,[],[0,1,2,3,4,5,6,7,8,9,10,11,14],[0,1,2,3,4,5,6,7,8,9,10,11,12,14,15],.range 17],[0,1,2,3,4,5,6,7,8,9,10,11,14,16,12,13,15,17]⟩
  | _=>⟨.nil,[],[]⟩
theorem Qd (i:Nat):hi14.acts i=[]:=rfl
theorem Qe (i:Nat):hi14.views i=none:=rfl
attribute [go_sem] Qd Qe Tryz.ntmps14 Tryz.results14
@[go_sem] theorem Sk:(hi14.draws 4).order=hi14_4:=rfl
theorem aU {d:GDesk}{v1:GChoice}{res:GDesk × Int}(h:jB d v1=some res):ap Tryz.prog 14 [.agg (GDesk.encS d),.agg [.sl (ae eI v1.lengths),.sl (ae eI v1.values)]] [] (.tup [.agg [.ref 20000 1 0 res.1.show_.nodes.length,.ref 20001 1 0 res.1.show_.ties.length,.lit (.int .i64 res.1.show_.horizon),.lit (.int .i64 res.1.state.now),.ref 20002 1 0 res.1.state.times.length,.ref 20003 1 0 res.1.state.values.length,.lit (.bool res.1.lazy),.ref 20004 1 0 res.1.log.length],.lit (.int .i64 res.2)]) [(20000,1,.row true (ae GNode.encO res.1.show_.nodes)),(20001,1,.row true (ae GTie.enc res.1.show_.ties)),(20002,1,.row true (ae eI res.1.state.times)),(20003,1,.row true (ae eI res.1.state.values)),(20004,1,.row true (ae GEntry.encO res.1.log))]:=by
 refine ak (ra:=[.homeCell 256 0,.homeCell 256 1,.homeCell 256 4,.homeCell 256 5,.homeCell 256 7]) (md:=mdT) hT (hi:=hi14) Tryz.func14 rfl rfl (by decide +kernel) (by simp) ?_
 unfold jB at h
 obtain ⟨r01,g1,h⟩:=ab h
 simp(config:=cS)only[go_sem]
 refine ag (uU g1) ?_
 obtain ⟨r02,g2,h⟩:=ab h
 simp(config:=cS)only[go_sem]
 refine ag (wU g2) ?_
 obtain ⟨h3,h⟩|⟨h3,h⟩:=af h
 ·obtain ⟨r03,g4,h⟩:=ab h
  simp(config:=cS)only[go_sem,eZt h3]
  refine ag (uR g4) ?_
  obtain ⟨h5,h⟩|⟨h5,h⟩:=af h
  ·obtain ⟨q09,l6,h⟩:=ab h
   simp(config:=cS)only[go_sem,eZt h3,eZt h5]
   refine am (m1:=.mk) (m2:=.mk) [.nfp [3,4,6] [(192,192),(256,256),(384,384),(2112,704),(704,704),(2113,705),(705,705),(2114,706),(706,706),(2115,707),(707,707),(2116,708),(708,708)] []] (rb v1.lengths v1.values) l6 ?_ ?_
   ·simp(config:=cS)only[go_sem,eZt h3,eZt h5]
   ·intro nb7 sb7 bb7 b7 gb7
    obtain ⟨out_2_1,out_3_1,out_6_1,h704_1,h705_1,h706_1,h707_1,h708_1⟩:=sb7
    unfold lx at b7
    try dsimp only at b7
    try simp(config:=cS)only[go_sem,eZt h3,eZt h5]
    refine aO ?_ ?_
    ·obtain ⟨r04,g8,b7⟩:=ab b7
     simp(config:=cS)only[go_sem,eZt h3,eZt h5]
     refine ag (ue g8) ?_
     try simp(config:=cS)only[go_sem,eZt h3,eZt h5]
     refine aO ?_ ?_
     ·obtain ⟨r05,g9,b7⟩:=ab b7
      simp(config:=cS)only[go_sem,eZt h3,eZt h5]
      refine ag (rG g9) ?_
      obtain ⟨h10,b7⟩|⟨h10,b7⟩:=af b7
      ·cases b7
       simp(config:=cS)only[go_sem,eZt h3,eZt h5,eqT h10]
       refine ao gb7 ?_
       simp(config:=cS)only[go_sem,eZt h3,eZt h5,eqT h10]
      ·cases b7
       obtain rfl:=(aj gb7).symm
       try dsimp only at h
       cases h
       simp(config:=cS)only[go_sem,eZt h3,eZt h5,eqF h10]
     ·obtain ⟨r06,g12,b7⟩:=ab b7
      simp(config:=cS)only[go_sem,eZt h3,eZt h5]
      refine ag (rG g12) ?_
      obtain ⟨h13,b7⟩|⟨h13,b7⟩:=af b7
      ·cases b7
       simp(config:=cS)only[go_sem,eZt h3,eZt h5,eqT h13]
       refine ao gb7 ?_
       simp(config:=cS)only[go_sem,eZt h3,eZt h5,eqT h13]
      ·cases b7
       obtain rfl:=(aj gb7).symm
       try dsimp only at h
       cases h
       simp(config:=cS)only[go_sem,eZt h3,eZt h5,eqF h13]
    ·obtain ⟨r07,g15,b7⟩:=ab b7
     simp(config:=cS)only[go_sem,eZt h3,eZt h5]
     refine ag (ue g15) ?_
     obtain ⟨r08,g16,b7⟩:=ab b7
     simp(config:=cS)only[go_sem,eZt h3,eZt h5]
     refine ag (rG g16) ?_
     obtain ⟨h17,b7⟩|⟨h17,b7⟩:=af b7
     ·cases b7
      simp(config:=cS)only[go_sem,eZt h3,eZt h5,eqT h17]
      refine ao gb7 ?_
      simp(config:=cS)only[go_sem,eZt h3,eZt h5,eqT h17]
     ·cases b7
      obtain rfl:=(aj gb7).symm
      try dsimp only at h
      cases h
      simp(config:=cS)only[go_sem,eZt h3,eZt h5,eqF h17]
  ·cases h
   simp(config:=cS)only[go_sem,eZt h3,eZf h5]
 ·cases h
  simp(config:=cS)only[go_sem,eZf h3]
attribute [go_sem] Tryz.ntmps39 Tryz.results39
theorem nx {a b:GChoice}{res:Bool}(h:kS a b=some res):ap Tryz.prog 39 [.agg [.sl (ae eI a.lengths),.sl (ae eI a.values)],.agg [.sl (ae eI b.lengths),.sl (ae eI b.values)]] [] (.lit (.bool res)) []:=by
 refine ak (ra:=[]) (md:=mdT) hT (hi:=hi00) Tryz.func39 rfl rfl (by decide +kernel) (by simp) ?_
 unfold kS at h
 obtain ⟨r01,g1,h⟩:=ab h
 simp(config:=cS)only[go_sem]
 refine ag (fX g1) ?_
 obtain ⟨h2,h⟩|⟨h2,h⟩:=af h
 ·obtain ⟨r02,g3,h⟩:=ab h
  simp(config:=cS)only[go_sem,eZt h2]
  refine ag (fX g3) ?_
  obtain ⟨h4,h⟩|⟨h4,h⟩:=af h
  ·cases h
   simp(config:=cS)only[go_sem,eZt h4]
  ·cases h
   simp(config:=cS)only[go_sem,eZf h4]
 ·cases h
  simp(config:=cS)only[go_sem,eZf h2]
attribute [go_sem] Tryz.ntmps41 Tryz.results41
theorem ls {a:GChoice}{k:Int}{zb0 zb1:Bool}{res:Int × (List Int) × (List Int)}(h:jd a k=some res):ap Tryz.prog 41 [.agg [.ref 10000 0 0 a.lengths.length,.ref 10001 0 0 a.values.length],.lit (.int .i64 k)] [(10000,0,.row zb0 (ae eI a.lengths)),(10001,0,.row zb1 (ae eI a.values))] (.lit (.int .i64 res.1)) [(10000,0,.row zb0 (ae eI res.2.1)),(10001,0,.row zb1 (ae eI res.2.2))]:=by
 refine ak (ra:=[]) (md:=mdT) hT (hi:=hi00) Tryz.func41 rfl rfl (by decide +kernel) (by simp) ?_
 unfold jd at h
 obtain ⟨r01,g1,h⟩:=ab h
 simp(config:=cS)only[go_sem]
 refine ag (dK g1) ?_
 obtain ⟨r02,g2,h⟩:=ab h
 simp(config:=cS)only[go_sem]
 refine ag (dK g2) ?_
 cases h
 simp(config:=cS)only[go_sem]
@[go_sem] def hi10_31:DT:=.i1 0 (.i1 2 (.fork (.i0 1 [2] (.fork (.i2 3 (.fork (.i2 4 (.i2 5 (.i2 6 (.i2 7 (.i0 8 [0,2] (.i2 9 (.i2 10 .nil))))))) (.i0 8 [0,2] (.i2 4 (.i2 5 (.i2 6 (.i2 7 (.i2 9 (.i2 10 .nil))))))))) (.i0 8 [0,2] (.i2 3 (.i2 4 (.i2 5 (.i2 6 (.i2 7 (.i2 9 (.i2 10 .nil)))))))))) (.i0 8 [0,2] (.i0 1 [2] (.i2 3 (.i2 4 (.i2 5 (.i2 6 (.i2 7 (.i2 9 (.i2 10 .nil)))))))))))
@[go_sem] def hi10_16:DT:=.i1 0 (.i2 1 (.i0 2 [0] (.i2 3 (.i2 4 .nil))))
@[go_sem] def hi10_14:DT:=.i1 0 (.i2 1 (.i0 2 [0] (.i2 3 (.i2 4 .nil))))
@[go_sem] def hi10_8:DT:=.i1 0 (.i1 2 (.fork (.i0 1 [2] (.fork (.i2 3 (.fork (.i2 4 (.i2 5 (.i2 6 (.i2 7 (.i0 8 [0,2] (.i2 9 (.i2 10 .nil))))))) (.i0 8 [0,2] (.i2 4 (.i2 5 (.i2 6 (.i2 7 (.i2 9 (.i2 10 .nil))))))))) (.i0 8 [0,2] (.i2 3 (.i2 4 (.i2 5 (.i2 6 (.i2 7 (.i2 9 (.i2 10 .nil)))))))))) (.i0 8 [0,2] (.i0 1 [2] (.i2 3 (.i2 4 (.i2 5 (.i2 6 (.i2 7 (.i2 9 (.i2 10 .nil)))))))))))
def hi10:Hint where
 acts:=fun _=>[]
 draws:=fun
  | 8=>⟨hi10_8,[[],[0],[],[0,1,2],[0,1,2,3],.range 5,.range 6,.range 6,[],[0,1,2,3,4,5,6,8],.range 10],[0,1,2,3,4,5,6,9,7,8,10]⟩
  | 14=>⟨hi10_14,[[],[],[1],[0,1,2],[0,1,2,3]],.range 5⟩
  | 16=>⟨hi10_16,[[],[],[1],[0,1,2],[0,1,2,3]],.range 5⟩
  | 31=>⟨hi10_31,[[],[0],[],[0,1,2],[0,1,2,3],.range 5,.range 6,.range 6,[],[0,1,2,3,4,5,6,8],.range 10],[0,1,2,3,4,5,6,9,7,8,10]⟩
  | _=>⟨.nil,[],[]⟩
theorem Qf (i:Nat):hi10.acts i=[]:=rfl
theorem Qg (i:Nat):hi10.views i=none:=rfl
attribute [go_sem] Qf Qg Tryz.ntmps10 Tryz.results10
@[go_sem] theorem Sl:(hi10.draws 8).order=hi10_8:=rfl
@[go_sem] theorem QZ:(hi10.draws 14).order=hi10_14:=rfl
@[go_sem] theorem Ra:(hi10.draws 16).order=hi10_16:=rfl
@[go_sem] theorem Rb:(hi10.draws 31).order=hi10_31:=rfl
theorem vD {aD:GDesk}{aC:GChoice}{res:Bool}(h:iK aD aC=some res):ap Tryz.prog 10 [.agg (GDesk.encS aD),.agg [.sl (ae eI aC.lengths),.sl (ae eI aC.values)]] [] (.lit (.bool res)) []:=by
 refine ak (ra:=[]) (md:=mdT) hT (hi:=hi10) Tryz.func10 rfl rfl (by decide +kernel) (by simp) ?_
 unfold iK at h
 obtain ⟨r01,g1,h⟩:=ab h
 simp(config:=cS)only[go_sem]
 refine ag (Df g1) ?_
 obtain ⟨h2,h⟩|⟨h2,h⟩:=af h
 ·cases h
  simp(config:=cS)only[go_sem,eqT h2]
 ·obtain ⟨r02,g3,h⟩:=ab h
  simp(config:=cS)only[go_sem,eqF h2]
  refine ag (AH g3) ?_
  obtain ⟨h4,h⟩|⟨h4,h⟩:=af h
  ·cases h
   simp(config:=cS)only[go_sem,eqF h2,eqT h4]
  ·try simp(config:=cS)only[go_sem,eqF h2,eqF h4]
   refine aO ?_ ?_
   ·obtain ⟨r03,g5,h⟩:=ab h
    simp(config:=cS)only[go_sem,eqF h2,eqF h4]
    refine ag (bj g5) ?_
    try simp(config:=cS)only[go_sem,eqF h2,eqF h4]
    refine aO ?_ ?_
    ·obtain ⟨r04,g6,h⟩:=ab h
     simp(config:=cS)only[go_sem,eqF h2,eqF h4]
     refine ag (aK g6) ?_
     try simp(config:=cS)only[go_sem,eqF h2,eqF h4]
     refine aO ?_ ?_
     ·obtain ⟨r05,g7,h⟩:=ab h
      simp(config:=cS)only[go_sem,eqF h2,eqF h4]
      refine ag (oo g7) ?_
      obtain ⟨r06,g8,h⟩:=ab h
      simp(config:=cS)only[go_sem,eqF h2,eqF h4]
      refine ag (bj g8) ?_
      obtain ⟨r07,g9,h⟩:=ab h
      simp(config:=cS)only[go_sem,eqF h2,eqF h4]
      refine ag (aK g9) ?_
      obtain ⟨r08,g10,h⟩:=ab h
      simp(config:=cS)only[go_sem,eqF h2,eqF h4]
      refine ag (aU g10) ?_
      obtain ⟨r09,g11,h⟩:=ab h
      simp(config:=cS)only[go_sem,eqF h2,eqF h4]
      refine ag (aI g11) ?_
      obtain ⟨h12,h⟩|⟨h12,h⟩:=af h
      ·obtain ⟨h13,h⟩|⟨h13,h⟩:=af h
       ·obtain ⟨r10,g14,h⟩:=ab h
        simp(config:=cS)only[go_sem,eqF h2,eqF h4,eZt h12,eqT h13]
        refine ag (bj g14) ?_
        obtain ⟨r11,g15,h⟩:=ab h
        simp(config:=cS)only[go_sem,eqF h2,eqF h4,eZt h12,eqT h13]
        refine ag (aI g15) ?_
        obtain ⟨h16,h⟩|⟨h16,h⟩:=af h
        ·obtain ⟨r12,g17,h⟩:=ab h
         simp(config:=cS)only[go_sem,eqF h2,eqF h4,eZt h12,eqT h13,eZt h16]
         refine ag (aK g17) ?_
         obtain ⟨r13,g18,h⟩:=ab h
         simp(config:=cS)only[go_sem,eqF h2,eqF h4,eZt h12,eqT h13,eZt h16]
         refine ag (nx g18) ?_
         obtain ⟨h19,h⟩|⟨h19,h⟩:=af h
         ·obtain ⟨r14,g20,h⟩:=ab h
          simp(config:=cS)only[go_sem,eqF h2,eqF h4,eZt h12,eqT h13,eZt h16,eZt h19]
          refine ag (dL g20) ?_
          obtain ⟨r15,g21,h⟩:=ab h
          simp(config:=cS)only[go_sem,eqF h2,eqF h4,eZt h12,eqT h13,eZt h16,eZt h19]
          refine ag (ls g21) ?_
          obtain ⟨h22,h⟩|⟨h22,h⟩:=af h
          ·cases h
           simp(config:=cS)only[go_sem,eqF h2,eqF h4,eZt h12,eqT h13,eZt h16,eZt h19,eqT h22]
          ·obtain ⟨r16,g23,h⟩:=ab h
           simp(config:=cS)only[go_sem,eqF h2,eqF h4,eZt h12,eqT h13,eZt h16,eZt h19,eqF h22]
           refine ag (aI g23) ?_
           obtain ⟨h24,h⟩|⟨h24,h⟩:=af h
           ·obtain ⟨r17,g25,h⟩:=ab h
            simp(config:=cS)only[go_sem,eqF h2,eqF h4,eZt h12,eqT h13,eZt h16,eZt h19,eqF h22,eZt h24]
            refine ag (dL g25) ?_
            obtain ⟨h26,h⟩:=ah h
            obtain ⟨h27,h⟩:=ah h
            obtain ⟨h28,h⟩:=ah h
            obtain ⟨h29,h⟩:=ah h
            obtain ⟨h30,h⟩:=ah h
            obtain ⟨r18,g31,h⟩:=ab h
            simp(config:=cS)only[go_sem,eqF h2,eqF h4,eZt h12,eqT h13,eZt h16,eZt h19,eqF h22,eZt h24,eqT h26,eqT h27,eqT h28,eqT h29,eqT h30]
            refine ag (aR g31) ?_
            obtain ⟨h32,h⟩|⟨h32,h⟩:=af h
            ·cases h
             simp(config:=cS)only[go_sem,eqF h2,eqF h4,eZt h12,eqT h13,eZt h16,eZt h19,eqF h22,eZt h24,eqT h26,eqT h27,eqT h28,eqT h29,eqT h30,eqT h32]
            ·obtain ⟨h33,h⟩|⟨h33,h⟩:=af h
             ·try simp(config:=cS)only[go_sem,eqF h2,eqF h4,eZt h12,eqT h13,eZt h16,eZt h19,eqF h22,eZt h24,eqT h26,eqT h27,eqT h28,eqT h29,eqT h30,eqF h32,eqT h33]
              refine aO ?_ ?_
              ·obtain ⟨r19,g34,h⟩:=ab h
               simp(config:=cS)only[go_sem,eqF h2,eqF h4,eZt h12,eqT h13,eZt h16,eZt h19,eqF h22,eZt h24,eqT h26,eqT h27,eqT h28,eqT h29,eqT h30,eqF h32,eqT h33]
               refine ag (bj g34) ?_
               try simp(config:=cS)only[go_sem,eqF h2,eqF h4,eZt h12,eqT h13,eZt h16,eZt h19,eqF h22,eZt h24,eqT h26,eqT h27,eqT h28,eqT h29,eqT h30,eqF h32,eqT h33]
               refine aO ?_ ?_
               ·obtain ⟨r20,g35,h⟩:=ab h
                simp(config:=cS)only[go_sem,eqF h2,eqF h4,eZt h12,eqT h13,eZt h16,eZt h19,eqF h22,eZt h24,eqT h26,eqT h27,eqT h28,eqT h29,eqT h30,eqF h32,eqT h33]
                refine ag (aK g35) ?_
                try simp(config:=cS)only[go_sem,eqF h2,eqF h4,eZt h12,eqT h13,eZt h16,eZt h19,eqF h22,eZt h24,eqT h26,eqT h27,eqT h28,eqT h29,eqT h30,eqF h32,eqT h33]
                refine aO ?_ ?_
                ·obtain ⟨r21,g36,h⟩:=ab h
                 simp(config:=cS)only[go_sem,eqF h2,eqF h4,eZt h12,eqT h13,eZt h16,eZt h19,eqF h22,eZt h24,eqT h26,eqT h27,eqT h28,eqT h29,eqT h30,eqF h32,eqT h33]
                 refine ag (aU g36) ?_
                 obtain ⟨r22,g37,h⟩:=ab h
                 simp(config:=cS)only[go_sem,eqF h2,eqF h4,eZt h12,eqT h13,eZt h16,eZt h19,eqF h22,eZt h24,eqT h26,eqT h27,eqT h28,eqT h29,eqT h30,eqF h32,eqT h33]
                 refine ag (aI g37) ?_
                 obtain ⟨h38,h⟩|⟨h38,h⟩:=af h
                 ·obtain ⟨h39,h⟩|⟨h39,h⟩:=af h
                  ·obtain ⟨r23,g40,h⟩:=ab h
                   simp(config:=cS)only[go_sem,eqF h2,eqF h4,eZt h12,eqT h13,eZt h16,eZt h19,eqF h22,eZt h24,eqT h26,eqT h27,eqT h28,eqT h29,eqT h30,eqF h32,eqT h33,eZt h38,eqT h39]
                   refine ag (aR g40) ?_
                   obtain ⟨h41,h⟩|⟨h41,h⟩:=af h
                   ·cases h
                    simp(config:=cS)only[go_sem,eqF h2,eqF h4,eZt h12,eqT h13,eZt h16,eZt h19,eqF h22,eZt h24,eqT h26,eqT h27,eqT h28,eqT h29,eqT h30,eqF h32,eqT h33,eZt h38,eqT h39,eqT h41]
                   ·obtain ⟨h42,h⟩|⟨h42,h⟩:=af h
                    ·cases h
                     simp(config:=cS)only[go_sem,eqF h2,eqF h4,eZt h12,eqT h13,eZt h16,eZt h19,eqF h22,eZt h24,eqT h26,eqT h27,eqT h28,eqT h29,eqT h30,eqF h32,eqT h33,eZt h38,eqT h39,eqF h41,eqT h42]
                    ·cases h
                     simp(config:=cS)only[go_sem,eqF h2,eqF h4,eZt h12,eqT h13,eZt h16,eZt h19,eqF h22,eZt h24,eqT h26,eqT h27,eqT h28,eqT h29,eqT h30,eqF h32,eqT h33,eZt h38,eqT h39,eqF h41,eqF h42]
                  ·cases h
                   simp(config:=cS)only[go_sem,eqF h2,eqF h4,eZt h12,eqT h13,eZt h16,eZt h19,eqF h22,eZt h24,eqT h26,eqT h27,eqT h28,eqT h29,eqT h30,eqF h32,eqT h33,eZt h38,eqF h39]
                 ·cases h
                  simp(config:=cS)only[go_sem,eqF h2,eqF h4,eZt h12,eqT h13,eZt h16,eZt h19,eqF h22,eZt h24,eqT h26,eqT h27,eqT h28,eqT h29,eqT h30,eqF h32,eqT h33,eZf h38]
                ·obtain ⟨r24,g43,h⟩:=ab h
                 simp(config:=cS)only[go_sem,eqF h2,eqF h4,eZt h12,eqT h13,eZt h16,eZt h19,eqF h22,eZt h24,eqT h26,eqT h27,eqT h28,eqT h29,eqT h30,eqF h32,eqT h33]
                 refine ag (aU g43) ?_
                 obtain ⟨r25,g44,h⟩:=ab h
                 simp(config:=cS)only[go_sem,eqF h2,eqF h4,eZt h12,eqT h13,eZt h16,eZt h19,eqF h22,eZt h24,eqT h26,eqT h27,eqT h28,eqT h29,eqT h30,eqF h32,eqT h33]
                 refine ag (aI g44) ?_
                 obtain ⟨h45,h⟩|⟨h45,h⟩:=af h
                 ·obtain ⟨h46,h⟩|⟨h46,h⟩:=af h
                  ·obtain ⟨r26,g47,h⟩:=ab h
                   simp(config:=cS)only[go_sem,eqF h2,eqF h4,eZt h12,eqT h13,eZt h16,eZt h19,eqF h22,eZt h24,eqT h26,eqT h27,eqT h28,eqT h29,eqT h30,eqF h32,eqT h33,eZt h45,eqT h46]
                   refine ag (aR g47) ?_
                   obtain ⟨h48,h⟩|⟨h48,h⟩:=af h
                   ·cases h
                    simp(config:=cS)only[go_sem,eqF h2,eqF h4,eZt h12,eqT h13,eZt h16,eZt h19,eqF h22,eZt h24,eqT h26,eqT h27,eqT h28,eqT h29,eqT h30,eqF h32,eqT h33,eZt h45,eqT h46,eqT h48]
                   ·obtain ⟨h49,h⟩|⟨h49,h⟩:=af h
                    ·cases h
                     simp(config:=cS)only[go_sem,eqF h2,eqF h4,eZt h12,eqT h13,eZt h16,eZt h19,eqF h22,eZt h24,eqT h26,eqT h27,eqT h28,eqT h29,eqT h30,eqF h32,eqT h33,eZt h45,eqT h46,eqF h48,eqT h49]
                    ·cases h
                     simp(config:=cS)only[go_sem,eqF h2,eqF h4,eZt h12,eqT h13,eZt h16,eZt h19,eqF h22,eZt h24,eqT h26,eqT h27,eqT h28,eqT h29,eqT h30,eqF h32,eqT h33,eZt h45,eqT h46,eqF h48,eqF h49]
                  ·cases h
                   simp(config:=cS)only[go_sem,eqF h2,eqF h4,eZt h12,eqT h13,eZt h16,eZt h19,eqF h22,eZt h24,eqT h26,eqT h27,eqT h28,eqT h29,eqT h30,eqF h32,eqT h33,eZt h45,eqF h46]
                 ·cases h
                  simp(config:=cS)only[go_sem,eqF h2,eqF h4,eZt h12,eqT h13,eZt h16,eZt h19,eqF h22,eZt h24,eqT h26,eqT h27,eqT h28,eqT h29,eqT h30,eqF h32,eqT h33,eZf h45]
               ·obtain ⟨r27,g50,h⟩:=ab h
                simp(config:=cS)only[go_sem,eqF h2,eqF h4,eZt h12,eqT h13,eZt h16,eZt h19,eqF h22,eZt h24,eqT h26,eqT h27,eqT h28,eqT h29,eqT h30,eqF h32,eqT h33]
                refine ag (aK g50) ?_
                obtain ⟨r28,g51,h⟩:=ab h
                simp(config:=cS)only[go_sem,eqF h2,eqF h4,eZt h12,eqT h13,eZt h16,eZt h19,eqF h22,eZt h24,eqT h26,eqT h27,eqT h28,eqT h29,eqT h30,eqF h32,eqT h33]
                refine ag (aU g51) ?_
                obtain ⟨r29,g52,h⟩:=ab h
                simp(config:=cS)only[go_sem,eqF h2,eqF h4,eZt h12,eqT h13,eZt h16,eZt h19,eqF h22,eZt h24,eqT h26,eqT h27,eqT h28,eqT h29,eqT h30,eqF h32,eqT h33]
                refine ag (aI g52) ?_
                obtain ⟨h53,h⟩|⟨h53,h⟩:=af h
                ·obtain ⟨h54,h⟩|⟨h54,h⟩:=af h
                 ·obtain ⟨r30,g55,h⟩:=ab h
                  simp(config:=cS)only[go_sem,eqF h2,eqF h4,eZt h12,eqT h13,eZt h16,eZt h19,eqF h22,eZt h24,eqT h26,eqT h27,eqT h28,eqT h29,eqT h30,eqF h32,eqT h33,eZt h53,eqT h54]
                  refine ag (aR g55) ?_
                  obtain ⟨h56,h⟩|⟨h56,h⟩:=af h
                  ·cases h
                   simp(config:=cS)only[go_sem,eqF h2,eqF h4,eZt h12,eqT h13,eZt h16,eZt h19,eqF h22,eZt h24,eqT h26,eqT h27,eqT h28,eqT h29,eqT h30,eqF h32,eqT h33,eZt h53,eqT h54,eqT h56]
                  ·obtain ⟨h57,h⟩|⟨h57,h⟩:=af h
                   ·cases h
                    simp(config:=cS)only[go_sem,eqF h2,eqF h4,eZt h12,eqT h13,eZt h16,eZt h19,eqF h22,eZt h24,eqT h26,eqT h27,eqT h28,eqT h29,eqT h30,eqF h32,eqT h33,eZt h53,eqT h54,eqF h56,eqT h57]
                   ·cases h
                    simp(config:=cS)only[go_sem,eqF h2,eqF h4,eZt h12,eqT h13,eZt h16,eZt h19,eqF h22,eZt h24,eqT h26,eqT h27,eqT h28,eqT h29,eqT h30,eqF h32,eqT h33,eZt h53,eqT h54,eqF h56,eqF h57]
                 ·cases h
                  simp(config:=cS)only[go_sem,eqF h2,eqF h4,eZt h12,eqT h13,eZt h16,eZt h19,eqF h22,eZt h24,eqT h26,eqT h27,eqT h28,eqT h29,eqT h30,eqF h32,eqT h33,eZt h53,eqF h54]
                ·cases h
                 simp(config:=cS)only[go_sem,eqF h2,eqF h4,eZt h12,eqT h13,eZt h16,eZt h19,eqF h22,eZt h24,eqT h26,eqT h27,eqT h28,eqT h29,eqT h30,eqF h32,eqT h33,eZf h53]
              ·obtain ⟨r31,g58,h⟩:=ab h
               simp(config:=cS)only[go_sem,eqF h2,eqF h4,eZt h12,eqT h13,eZt h16,eZt h19,eqF h22,eZt h24,eqT h26,eqT h27,eqT h28,eqT h29,eqT h30,eqF h32,eqT h33]
               refine ag (bj g58) ?_
               obtain ⟨r32,g59,h⟩:=ab h
               simp(config:=cS)only[go_sem,eqF h2,eqF h4,eZt h12,eqT h13,eZt h16,eZt h19,eqF h22,eZt h24,eqT h26,eqT h27,eqT h28,eqT h29,eqT h30,eqF h32,eqT h33]
               refine ag (aK g59) ?_
               obtain ⟨r33,g60,h⟩:=ab h
               simp(config:=cS)only[go_sem,eqF h2,eqF h4,eZt h12,eqT h13,eZt h16,eZt h19,eqF h22,eZt h24,eqT h26,eqT h27,eqT h28,eqT h29,eqT h30,eqF h32,eqT h33]
               refine ag (aU g60) ?_
               obtain ⟨r34,g61,h⟩:=ab h
               simp(config:=cS)only[go_sem,eqF h2,eqF h4,eZt h12,eqT h13,eZt h16,eZt h19,eqF h22,eZt h24,eqT h26,eqT h27,eqT h28,eqT h29,eqT h30,eqF h32,eqT h33]
               refine ag (aI g61) ?_
               obtain ⟨h62,h⟩|⟨h62,h⟩:=af h
               ·obtain ⟨h63,h⟩|⟨h63,h⟩:=af h
                ·obtain ⟨r35,g64,h⟩:=ab h
                 simp(config:=cS)only[go_sem,eqF h2,eqF h4,eZt h12,eqT h13,eZt h16,eZt h19,eqF h22,eZt h24,eqT h26,eqT h27,eqT h28,eqT h29,eqT h30,eqF h32,eqT h33,eZt h62,eqT h63]
                 refine ag (aR g64) ?_
                 obtain ⟨h65,h⟩|⟨h65,h⟩:=af h
                 ·cases h
                  simp(config:=cS)only[go_sem,eqF h2,eqF h4,eZt h12,eqT h13,eZt h16,eZt h19,eqF h22,eZt h24,eqT h26,eqT h27,eqT h28,eqT h29,eqT h30,eqF h32,eqT h33,eZt h62,eqT h63,eqT h65]
                 ·obtain ⟨h66,h⟩|⟨h66,h⟩:=af h
                  ·cases h
                   simp(config:=cS)only[go_sem,eqF h2,eqF h4,eZt h12,eqT h13,eZt h16,eZt h19,eqF h22,eZt h24,eqT h26,eqT h27,eqT h28,eqT h29,eqT h30,eqF h32,eqT h33,eZt h62,eqT h63,eqF h65,eqT h66]
                  ·cases h
                   simp(config:=cS)only[go_sem,eqF h2,eqF h4,eZt h12,eqT h13,eZt h16,eZt h19,eqF h22,eZt h24,eqT h26,eqT h27,eqT h28,eqT h29,eqT h30,eqF h32,eqT h33,eZt h62,eqT h63,eqF h65,eqF h66]
                ·cases h
                 simp(config:=cS)only[go_sem,eqF h2,eqF h4,eZt h12,eqT h13,eZt h16,eZt h19,eqF h22,eZt h24,eqT h26,eqT h27,eqT h28,eqT h29,eqT h30,eqF h32,eqT h33,eZt h62,eqF h63]
               ·cases h
                simp(config:=cS)only[go_sem,eqF h2,eqF h4,eZt h12,eqT h13,eZt h16,eZt h19,eqF h22,eZt h24,eqT h26,eqT h27,eqT h28,eqT h29,eqT h30,eqF h32,eqT h33,eZf h62]
             ·cases h
              simp(config:=cS)only[go_sem,eqF h2,eqF h4,eZt h12,eqT h13,eZt h16,eZt h19,eqF h22,eZt h24,eqT h26,eqT h27,eqT h28,eqT h29,eqT h30,eqF h32,eqF h33]
           ·cases h
            simp(config:=cS)only[go_sem,eqF h2,eqF h4,eZt h12,eqT h13,eZt h16,eZt h19,eqF h22,eZf h24]
         ·cases h
          simp(config:=cS)only[go_sem,eqF h2,eqF h4,eZt h12,eqT h13,eZt h16,eZf h19]
        ·cases h
         simp(config:=cS)only[go_sem,eqF h2,eqF h4,eZt h12,eqT h13,eZf h16]
       ·cases h
        simp(config:=cS)only[go_sem,eqF h2,eqF h4,eZt h12,eqF h13]
      ·cases h
       simp(config:=cS)only[go_sem,eqF h2,eqF h4,eZf h12]
     ·obtain ⟨r36,g67,h⟩:=ab h
      simp(config:=cS)only[go_sem,eqF h2,eqF h4]
      refine ag (oo g67) ?_
      obtain ⟨r37,g68,h⟩:=ab h
      simp(config:=cS)only[go_sem,eqF h2,eqF h4]
      refine ag (bj g68) ?_
      obtain ⟨r38,g69,h⟩:=ab h
      simp(config:=cS)only[go_sem,eqF h2,eqF h4]
      refine ag (aK g69) ?_
      obtain ⟨r39,g70,h⟩:=ab h
      simp(config:=cS)only[go_sem,eqF h2,eqF h4]
      refine ag (aU g70) ?_
      obtain ⟨r40,g71,h⟩:=ab h
      simp(config:=cS)only[go_sem,eqF h2,eqF h4]
      refine ag (aI g71) ?_
      obtain ⟨h72,h⟩|⟨h72,h⟩:=af h
      ·obtain ⟨h73,h⟩|⟨h73,h⟩:=af h
       ·obtain ⟨r41,g74,h⟩:=ab h
        simp(config:=cS)only[go_sem,eqF h2,eqF h4,eZt h72,eqT h73]
        refine ag (bj g74) ?_
        obtain ⟨r42,g75,h⟩:=ab h
        simp(config:=cS)only[go_sem,eqF h2,eqF h4,eZt h72,eqT h73]
        refine ag (aI g75) ?_
        obtain ⟨h76,h⟩|⟨h76,h⟩:=af h
        ·obtain ⟨r43,g77,h⟩:=ab h
         simp(config:=cS)only[go_sem,eqF h2,eqF h4,eZt h72,eqT h73,eZt h76]
         refine ag (aK g77) ?_
         obtain ⟨r44,g78,h⟩:=ab h
         simp(config:=cS)only[go_sem,eqF h2,eqF h4,eZt h72,eqT h73,eZt h76]
         refine ag (nx g78) ?_
         obtain ⟨h79,h⟩|⟨h79,h⟩:=af h
         ·obtain ⟨r45,g80,h⟩:=ab h
          simp(config:=cS)only[go_sem,eqF h2,eqF h4,eZt h72,eqT h73,eZt h76,eZt h79]
          refine ag (dL g80) ?_
          obtain ⟨r46,g81,h⟩:=ab h
          simp(config:=cS)only[go_sem,eqF h2,eqF h4,eZt h72,eqT h73,eZt h76,eZt h79]
          refine ag (ls g81) ?_
          obtain ⟨h82,h⟩|⟨h82,h⟩:=af h
          ·cases h
           simp(config:=cS)only[go_sem,eqF h2,eqF h4,eZt h72,eqT h73,eZt h76,eZt h79,eqT h82]
          ·obtain ⟨r47,g83,h⟩:=ab h
           simp(config:=cS)only[go_sem,eqF h2,eqF h4,eZt h72,eqT h73,eZt h76,eZt h79,eqF h82]
           refine ag (aI g83) ?_
           obtain ⟨h84,h⟩|⟨h84,h⟩:=af h
           ·obtain ⟨r48,g85,h⟩:=ab h
            simp(config:=cS)only[go_sem,eqF h2,eqF h4,eZt h72,eqT h73,eZt h76,eZt h79,eqF h82,eZt h84]
            refine ag (dL g85) ?_
            obtain ⟨h86,h⟩:=ah h
            obtain ⟨h87,h⟩:=ah h
            obtain ⟨h88,h⟩:=ah h
            obtain ⟨h89,h⟩:=ah h
            obtain ⟨h90,h⟩:=ah h
            obtain ⟨r49,g91,h⟩:=ab h
            simp(config:=cS)only[go_sem,eqF h2,eqF h4,eZt h72,eqT h73,eZt h76,eZt h79,eqF h82,eZt h84,eqT h86,eqT h87,eqT h88,eqT h89,eqT h90]
            refine ag (aR g91) ?_
            obtain ⟨h92,h⟩|⟨h92,h⟩:=af h
            ·cases h
             simp(config:=cS)only[go_sem,eqF h2,eqF h4,eZt h72,eqT h73,eZt h76,eZt h79,eqF h82,eZt h84,eqT h86,eqT h87,eqT h88,eqT h89,eqT h90,eqT h92]
            ·obtain ⟨h93,h⟩|⟨h93,h⟩:=af h
             ·try simp(config:=cS)only[go_sem,eqF h2,eqF h4,eZt h72,eqT h73,eZt h76,eZt h79,eqF h82,eZt h84,eqT h86,eqT h87,eqT h88,eqT h89,eqT h90,eqF h92,eqT h93]
              refine aO ?_ ?_
              ·obtain ⟨r50,g94,h⟩:=ab h
               simp(config:=cS)only[go_sem,eqF h2,eqF h4,eZt h72,eqT h73,eZt h76,eZt h79,eqF h82,eZt h84,eqT h86,eqT h87,eqT h88,eqT h89,eqT h90,eqF h92,eqT h93]
               refine ag (bj g94) ?_
               try simp(config:=cS)only[go_sem,eqF h2,eqF h4,eZt h72,eqT h73,eZt h76,eZt h79,eqF h82,eZt h84,eqT h86,eqT h87,eqT h88,eqT h89,eqT h90,eqF h92,eqT h93]
               refine aO ?_ ?_
               ·obtain ⟨r51,g95,h⟩:=ab h
                simp(config:=cS)only[go_sem,eqF h2,eqF h4,eZt h72,eqT h73,eZt h76,eZt h79,eqF h82,eZt h84,eqT h86,eqT h87,eqT h88,eqT h89,eqT h90,eqF h92,eqT h93]
                refine ag (aK g95) ?_
                try simp(config:=cS)only[go_sem,eqF h2,eqF h4,eZt h72,eqT h73,eZt h76,eZt h79,eqF h82,eZt h84,eqT h86,eqT h87,eqT h88,eqT h89,eqT h90,eqF h92,eqT h93]
                refine aO ?_ ?_
                ·obtain ⟨r52,g96,h⟩:=ab h
                 simp(config:=cS)only[go_sem,eqF h2,eqF h4,eZt h72,eqT h73,eZt h76,eZt h79,eqF h82,eZt h84,eqT h86,eqT h87,eqT h88,eqT h89,eqT h90,eqF h92,eqT h93]
                 refine ag (aU g96) ?_
                 obtain ⟨r53,g97,h⟩:=ab h
                 simp(config:=cS)only[go_sem,eqF h2,eqF h4,eZt h72,eqT h73,eZt h76,eZt h79,eqF h82,eZt h84,eqT h86,eqT h87,eqT h88,eqT h89,eqT h90,eqF h92,eqT h93]
                 refine ag (aI g97) ?_
                 obtain ⟨h98,h⟩|⟨h98,h⟩:=af h
                 ·obtain ⟨h99,h⟩|⟨h99,h⟩:=af h
                  ·obtain ⟨r54,g100,h⟩:=ab h
                   simp(config:=cS)only[go_sem,eqF h2,eqF h4,eZt h72,eqT h73,eZt h76,eZt h79,eqF h82,eZt h84,eqT h86,eqT h87,eqT h88,eqT h89,eqT h90,eqF h92,eqT h93,eZt h98,eqT h99]
                   refine ag (aR g100) ?_
                   obtain ⟨h101,h⟩|⟨h101,h⟩:=af h
                   ·cases h
                    simp(config:=cS)only[go_sem,eqF h2,eqF h4,eZt h72,eqT h73,eZt h76,eZt h79,eqF h82,eZt h84,eqT h86,eqT h87,eqT h88,eqT h89,eqT h90,eqF h92,eqT h93,eZt h98,eqT h99,eqT h101]
                   ·obtain ⟨h102,h⟩|⟨h102,h⟩:=af h
                    ·cases h
                     simp(config:=cS)only[go_sem,eqF h2,eqF h4,eZt h72,eqT h73,eZt h76,eZt h79,eqF h82,eZt h84,eqT h86,eqT h87,eqT h88,eqT h89,eqT h90,eqF h92,eqT h93,eZt h98,eqT h99,eqF h101,eqT h102]
                    ·cases h
                     simp(config:=cS)only[go_sem,eqF h2,eqF h4,eZt h72,eqT h73,eZt h76,eZt h79,eqF h82,eZt h84,eqT h86,eqT h87,eqT h88,eqT h89,eqT h90,eqF h92,eqT h93,eZt h98,eqT h99,eqF h101,eqF h102]
                  ·cases h
                   simp(config:=cS)only[go_sem,eqF h2,eqF h4,eZt h72,eqT h73,eZt h76,eZt h79,eqF h82,eZt h84,eqT h86,eqT h87,eqT h88,eqT h89,eqT h90,eqF h92,eqT h93,eZt h98,eqF h99]
                 ·cases h
                  simp(config:=cS)only[go_sem,eqF h2,eqF h4,eZt h72,eqT h73,eZt h76,eZt h79,eqF h82,eZt h84,eqT h86,eqT h87,eqT h88,eqT h89,eqT h90,eqF h92,eqT h93,eZf h98]
                ·obtain ⟨r55,g103,h⟩:=ab h
                 simp(config:=cS)only[go_sem,eqF h2,eqF h4,eZt h72,eqT h73,eZt h76,eZt h79,eqF h82,eZt h84,eqT h86,eqT h87,eqT h88,eqT h89,eqT h90,eqF h92,eqT h93]
                 refine ag (aU g103) ?_
                 obtain ⟨r56,g104,h⟩:=ab h
                 simp(config:=cS)only[go_sem,eqF h2,eqF h4,eZt h72,eqT h73,eZt h76,eZt h79,eqF h82,eZt h84,eqT h86,eqT h87,eqT h88,eqT h89,eqT h90,eqF h92,eqT h93]
                 refine ag (aI g104) ?_
                 obtain ⟨h105,h⟩|⟨h105,h⟩:=af h
                 ·obtain ⟨h106,h⟩|⟨h106,h⟩:=af h
                  ·obtain ⟨r57,g107,h⟩:=ab h
                   simp(config:=cS)only[go_sem,eqF h2,eqF h4,eZt h72,eqT h73,eZt h76,eZt h79,eqF h82,eZt h84,eqT h86,eqT h87,eqT h88,eqT h89,eqT h90,eqF h92,eqT h93,eZt h105,eqT h106]
                   refine ag (aR g107) ?_
                   obtain ⟨h108,h⟩|⟨h108,h⟩:=af h
                   ·cases h
                    simp(config:=cS)only[go_sem,eqF h2,eqF h4,eZt h72,eqT h73,eZt h76,eZt h79,eqF h82,eZt h84,eqT h86,eqT h87,eqT h88,eqT h89,eqT h90,eqF h92,eqT h93,eZt h105,eqT h106,eqT h108]
                   ·obtain ⟨h109,h⟩|⟨h109,h⟩:=af h
                    ·cases h
                     simp(config:=cS)only[go_sem,eqF h2,eqF h4,eZt h72,eqT h73,eZt h76,eZt h79,eqF h82,eZt h84,eqT h86,eqT h87,eqT h88,eqT h89,eqT h90,eqF h92,eqT h93,eZt h105,eqT h106,eqF h108,eqT h109]
                    ·cases h
                     simp(config:=cS)only[go_sem,eqF h2,eqF h4,eZt h72,eqT h73,eZt h76,eZt h79,eqF h82,eZt h84,eqT h86,eqT h87,eqT h88,eqT h89,eqT h90,eqF h92,eqT h93,eZt h105,eqT h106,eqF h108,eqF h109]
                  ·cases h
                   simp(config:=cS)only[go_sem,eqF h2,eqF h4,eZt h72,eqT h73,eZt h76,eZt h79,eqF h82,eZt h84,eqT h86,eqT h87,eqT h88,eqT h89,eqT h90,eqF h92,eqT h93,eZt h105,eqF h106]
                 ·cases h
                  simp(config:=cS)only[go_sem,eqF h2,eqF h4,eZt h72,eqT h73,eZt h76,eZt h79,eqF h82,eZt h84,eqT h86,eqT h87,eqT h88,eqT h89,eqT h90,eqF h92,eqT h93,eZf h105]
               ·obtain ⟨r58,g110,h⟩:=ab h
                simp(config:=cS)only[go_sem,eqF h2,eqF h4,eZt h72,eqT h73,eZt h76,eZt h79,eqF h82,eZt h84,eqT h86,eqT h87,eqT h88,eqT h89,eqT h90,eqF h92,eqT h93]
                refine ag (aK g110) ?_
                obtain ⟨r59,g111,h⟩:=ab h
                simp(config:=cS)only[go_sem,eqF h2,eqF h4,eZt h72,eqT h73,eZt h76,eZt h79,eqF h82,eZt h84,eqT h86,eqT h87,eqT h88,eqT h89,eqT h90,eqF h92,eqT h93]
                refine ag (aU g111) ?_
                obtain ⟨r60,g112,h⟩:=ab h
                simp(config:=cS)only[go_sem,eqF h2,eqF h4,eZt h72,eqT h73,eZt h76,eZt h79,eqF h82,eZt h84,eqT h86,eqT h87,eqT h88,eqT h89,eqT h90,eqF h92,eqT h93]
                refine ag (aI g112) ?_
                obtain ⟨h113,h⟩|⟨h113,h⟩:=af h
                ·obtain ⟨h114,h⟩|⟨h114,h⟩:=af h
                 ·obtain ⟨r61,g115,h⟩:=ab h
                  simp(config:=cS)only[go_sem,eqF h2,eqF h4,eZt h72,eqT h73,eZt h76,eZt h79,eqF h82,eZt h84,eqT h86,eqT h87,eqT h88,eqT h89,eqT h90,eqF h92,eqT h93,eZt h113,eqT h114]
                  refine ag (aR g115) ?_
                  obtain ⟨h116,h⟩|⟨h116,h⟩:=af h
                  ·cases h
                   simp(config:=cS)only[go_sem,eqF h2,eqF h4,eZt h72,eqT h73,eZt h76,eZt h79,eqF h82,eZt h84,eqT h86,eqT h87,eqT h88,eqT h89,eqT h90,eqF h92,eqT h93,eZt h113,eqT h114,eqT h116]
                  ·obtain ⟨h117,h⟩|⟨h117,h⟩:=af h
                   ·cases h
                    simp(config:=cS)only[go_sem,eqF h2,eqF h4,eZt h72,eqT h73,eZt h76,eZt h79,eqF h82,eZt h84,eqT h86,eqT h87,eqT h88,eqT h89,eqT h90,eqF h92,eqT h93,eZt h113,eqT h114,eqF h116,eqT h117]
                   ·cases h
                    simp(config:=cS)only[go_sem,eqF h2,eqF h4,eZt h72,eqT h73,eZt h76,eZt h79,eqF h82,eZt h84,eqT h86,eqT h87,eqT h88,eqT h89,eqT h90,eqF h92,eqT h93,eZt h113,eqT h114,eqF h116,eqF h117]
                 ·cases h
                  simp(config:=cS)only[go_sem,eqF h2,eqF h4,eZt h72,eqT h73,eZt h76,eZt h79,eqF h82,eZt h84,eqT h86,eqT h87,eqT h88,eqT h89,eqT h90,eqF h92,eqT h93,eZt h113,eqF h114]
                ·cases h
                 simp(config:=cS)only[go_sem,eqF h2,eqF h4,eZt h72,eqT h73,eZt h76,eZt h79,eqF h82,eZt h84,eqT h86,eqT h87,eqT h88,eqT h89,eqT h90,eqF h92,eqT h93,eZf h113]
              ·obtain ⟨r62,g118,h⟩:=ab h
               simp(config:=cS)only[go_sem,eqF h2,eqF h4,eZt h72,eqT h73,eZt h76,eZt h79,eqF h82,eZt h84,eqT h86,eqT h87,eqT h88,eqT h89,eqT h90,eqF h92,eqT h93]
               refine ag (bj g118) ?_
               obtain ⟨r63,g119,h⟩:=ab h
               simp(config:=cS)only[go_sem,eqF h2,eqF h4,eZt h72,eqT h73,eZt h76,eZt h79,eqF h82,eZt h84,eqT h86,eqT h87,eqT h88,eqT h89,eqT h90,eqF h92,eqT h93]
               refine ag (aK g119) ?_
               obtain ⟨r64,g120,h⟩:=ab h
               simp(config:=cS)only[go_sem,eqF h2,eqF h4,eZt h72,eqT h73,eZt h76,eZt h79,eqF h82,eZt h84,eqT h86,eqT h87,eqT h88,eqT h89,eqT h90,eqF h92,eqT h93]
               refine ag (aU g120) ?_
               obtain ⟨r65,g121,h⟩:=ab h
               simp(config:=cS)only[go_sem,eqF h2,eqF h4,eZt h72,eqT h73,eZt h76,eZt h79,eqF h82,eZt h84,eqT h86,eqT h87,eqT h88,eqT h89,eqT h90,eqF h92,eqT h93]
               refine ag (aI g121) ?_
               obtain ⟨h122,h⟩|⟨h122,h⟩:=af h
               ·obtain ⟨h123,h⟩|⟨h123,h⟩:=af h
                ·obtain ⟨r66,g124,h⟩:=ab h
                 simp(config:=cS)only[go_sem,eqF h2,eqF h4,eZt h72,eqT h73,eZt h76,eZt h79,eqF h82,eZt h84,eqT h86,eqT h87,eqT h88,eqT h89,eqT h90,eqF h92,eqT h93,eZt h122,eqT h123]
                 refine ag (aR g124) ?_
                 obtain ⟨h125,h⟩|⟨h125,h⟩:=af h
                 ·cases h
                  simp(config:=cS)only[go_sem,eqF h2,eqF h4,eZt h72,eqT h73,eZt h76,eZt h79,eqF h82,eZt h84,eqT h86,eqT h87,eqT h88,eqT h89,eqT h90,eqF h92,eqT h93,eZt h122,eqT h123,eqT h125]
                 ·obtain ⟨h126,h⟩|⟨h126,h⟩:=af h
                  ·cases h
                   simp(config:=cS)only[go_sem,eqF h2,eqF h4,eZt h72,eqT h73,eZt h76,eZt h79,eqF h82,eZt h84,eqT h86,eqT h87,eqT h88,eqT h89,eqT h90,eqF h92,eqT h93,eZt h122,eqT h123,eqF h125,eqT h126]
                  ·cases h
                   simp(config:=cS)only[go_sem,eqF h2,eqF h4,eZt h72,eqT h73,eZt h76,eZt h79,eqF h82,eZt h84,eqT h86,eqT h87,eqT h88,eqT h89,eqT h90,eqF h92,eqT h93,eZt h122,eqT h123,eqF h125,eqF h126]
                ·cases h
                 simp(config:=cS)only[go_sem,eqF h2,eqF h4,eZt h72,eqT h73,eZt h76,eZt h79,eqF h82,eZt h84,eqT h86,eqT h87,eqT h88,eqT h89,eqT h90,eqF h92,eqT h93,eZt h122,eqF h123]
               ·cases h
                simp(config:=cS)only[go_sem,eqF h2,eqF h4,eZt h72,eqT h73,eZt h76,eZt h79,eqF h82,eZt h84,eqT h86,eqT h87,eqT h88,eqT h89,eqT h90,eqF h92,eqT h93,eZf h122]
             ·cases h
              simp(config:=cS)only[go_sem,eqF h2,eqF h4,eZt h72,eqT h73,eZt h76,eZt h79,eqF h82,eZt h84,eqT h86,eqT h87,eqT h88,eqT h89,eqT h90,eqF h92,eqF h93]
           ·cases h
            simp(config:=cS)only[go_sem,eqF h2,eqF h4,eZt h72,eqT h73,eZt h76,eZt h79,eqF h82,eZf h84]
         ·cases h
          simp(config:=cS)only[go_sem,eqF h2,eqF h4,eZt h72,eqT h73,eZt h76,eZf h79]
        ·cases h
         simp(config:=cS)only[go_sem,eqF h2,eqF h4,eZt h72,eqT h73,eZf h76]
       ·cases h
        simp(config:=cS)only[go_sem,eqF h2,eqF h4,eZt h72,eqF h73]
      ·cases h
       simp(config:=cS)only[go_sem,eqF h2,eqF h4,eZf h72]
    ·obtain ⟨r67,g127,h⟩:=ab h
     simp(config:=cS)only[go_sem,eqF h2,eqF h4]
     refine ag (aK g127) ?_
     obtain ⟨r68,g128,h⟩:=ab h
     simp(config:=cS)only[go_sem,eqF h2,eqF h4]
     refine ag (oo g128) ?_
     obtain ⟨r69,g129,h⟩:=ab h
     simp(config:=cS)only[go_sem,eqF h2,eqF h4]
     refine ag (bj g129) ?_
     obtain ⟨r70,g130,h⟩:=ab h
     simp(config:=cS)only[go_sem,eqF h2,eqF h4]
     refine ag (aK g130) ?_
     obtain ⟨r71,g131,h⟩:=ab h
     simp(config:=cS)only[go_sem,eqF h2,eqF h4]
     refine ag (aU g131) ?_
     obtain ⟨r72,g132,h⟩:=ab h
     simp(config:=cS)only[go_sem,eqF h2,eqF h4]
     refine ag (aI g132) ?_
     obtain ⟨h133,h⟩|⟨h133,h⟩:=af h
     ·obtain ⟨h134,h⟩|⟨h134,h⟩:=af h
      ·obtain ⟨r73,g135,h⟩:=ab h
       simp(config:=cS)only[go_sem,eqF h2,eqF h4,eZt h133,eqT h134]
       refine ag (bj g135) ?_
       obtain ⟨r74,g136,h⟩:=ab h
       simp(config:=cS)only[go_sem,eqF h2,eqF h4,eZt h133,eqT h134]
       refine ag (aI g136) ?_
       obtain ⟨h137,h⟩|⟨h137,h⟩:=af h
       ·obtain ⟨r75,g138,h⟩:=ab h
        simp(config:=cS)only[go_sem,eqF h2,eqF h4,eZt h133,eqT h134,eZt h137]
        refine ag (aK g138) ?_
        obtain ⟨r76,g139,h⟩:=ab h
        simp(config:=cS)only[go_sem,eqF h2,eqF h4,eZt h133,eqT h134,eZt h137]
        refine ag (nx g139) ?_
        obtain ⟨h140,h⟩|⟨h140,h⟩:=af h
        ·obtain ⟨r77,g141,h⟩:=ab h
         simp(config:=cS)only[go_sem,eqF h2,eqF h4,eZt h133,eqT h134,eZt h137,eZt h140]
         refine ag (dL g141) ?_
         obtain ⟨r78,g142,h⟩:=ab h
         simp(config:=cS)only[go_sem,eqF h2,eqF h4,eZt h133,eqT h134,eZt h137,eZt h140]
         refine ag (ls g142) ?_
         obtain ⟨h143,h⟩|⟨h143,h⟩:=af h
         ·cases h
          simp(config:=cS)only[go_sem,eqF h2,eqF h4,eZt h133,eqT h134,eZt h137,eZt h140,eqT h143]
         ·obtain ⟨r79,g144,h⟩:=ab h
          simp(config:=cS)only[go_sem,eqF h2,eqF h4,eZt h133,eqT h134,eZt h137,eZt h140,eqF h143]
          refine ag (aI g144) ?_
          obtain ⟨h145,h⟩|⟨h145,h⟩:=af h
          ·obtain ⟨r80,g146,h⟩:=ab h
           simp(config:=cS)only[go_sem,eqF h2,eqF h4,eZt h133,eqT h134,eZt h137,eZt h140,eqF h143,eZt h145]
           refine ag (dL g146) ?_
           obtain ⟨h147,h⟩:=ah h
           obtain ⟨h148,h⟩:=ah h
           obtain ⟨h149,h⟩:=ah h
           obtain ⟨h150,h⟩:=ah h
           obtain ⟨h151,h⟩:=ah h
           obtain ⟨r81,g152,h⟩:=ab h
           simp(config:=cS)only[go_sem,eqF h2,eqF h4,eZt h133,eqT h134,eZt h137,eZt h140,eqF h143,eZt h145,eqT h147,eqT h148,eqT h149,eqT h150,eqT h151]
           refine ag (aR g152) ?_
           obtain ⟨h153,h⟩|⟨h153,h⟩:=af h
           ·cases h
            simp(config:=cS)only[go_sem,eqF h2,eqF h4,eZt h133,eqT h134,eZt h137,eZt h140,eqF h143,eZt h145,eqT h147,eqT h148,eqT h149,eqT h150,eqT h151,eqT h153]
           ·obtain ⟨h154,h⟩|⟨h154,h⟩:=af h
            ·try simp(config:=cS)only[go_sem,eqF h2,eqF h4,eZt h133,eqT h134,eZt h137,eZt h140,eqF h143,eZt h145,eqT h147,eqT h148,eqT h149,eqT h150,eqT h151,eqF h153,eqT h154]
             refine aO ?_ ?_
             ·obtain ⟨r82,g155,h⟩:=ab h
              simp(config:=cS)only[go_sem,eqF h2,eqF h4,eZt h133,eqT h134,eZt h137,eZt h140,eqF h143,eZt h145,eqT h147,eqT h148,eqT h149,eqT h150,eqT h151,eqF h153,eqT h154]
              refine ag (bj g155) ?_
              try simp(config:=cS)only[go_sem,eqF h2,eqF h4,eZt h133,eqT h134,eZt h137,eZt h140,eqF h143,eZt h145,eqT h147,eqT h148,eqT h149,eqT h150,eqT h151,eqF h153,eqT h154]
              refine aO ?_ ?_
              ·obtain ⟨r83,g156,h⟩:=ab h
               simp(config:=cS)only[go_sem,eqF h2,eqF h4,eZt h133,eqT h134,eZt h137,eZt h140,eqF h143,eZt h145,eqT h147,eqT h148,eqT h149,eqT h150,eqT h151,eqF h153,eqT h154]
               refine ag (aK g156) ?_
               try simp(config:=cS)only[go_sem,eqF h2,eqF h4,eZt h133,eqT h134,eZt h137,eZt h140,eqF h143,eZt h145,eqT h147,eqT h148,eqT h149,eqT h150,eqT h151,eqF h153,eqT h154]
               refine aO ?_ ?_
               ·obtain ⟨r84,g157,h⟩:=ab h
                simp(config:=cS)only[go_sem,eqF h2,eqF h4,eZt h133,eqT h134,eZt h137,eZt h140,eqF h143,eZt h145,eqT h147,eqT h148,eqT h149,eqT h150,eqT h151,eqF h153,eqT h154]
                refine ag (aU g157) ?_
                obtain ⟨r85,g158,h⟩:=ab h
                simp(config:=cS)only[go_sem,eqF h2,eqF h4,eZt h133,eqT h134,eZt h137,eZt h140,eqF h143,eZt h145,eqT h147,eqT h148,eqT h149,eqT h150,eqT h151,eqF h153,eqT h154]
                refine ag (aI g158) ?_
                obtain ⟨h159,h⟩|⟨h159,h⟩:=af h
                ·obtain ⟨h160,h⟩|⟨h160,h⟩:=af h
                 ·obtain ⟨r86,g161,h⟩:=ab h
                  simp(config:=cS)only[go_sem,eqF h2,eqF h4,eZt h133,eqT h134,eZt h137,eZt h140,eqF h143,eZt h145,eqT h147,eqT h148,eqT h149,eqT h150,eqT h151,eqF h153,eqT h154,eZt h159,eqT h160]
                  refine ag (aR g161) ?_
                  obtain ⟨h162,h⟩|⟨h162,h⟩:=af h
                  ·cases h
                   simp(config:=cS)only[go_sem,eqF h2,eqF h4,eZt h133,eqT h134,eZt h137,eZt h140,eqF h143,eZt h145,eqT h147,eqT h148,eqT h149,eqT h150,eqT h151,eqF h153,eqT h154,eZt h159,eqT h160,eqT h162]
                  ·obtain ⟨h163,h⟩|⟨h163,h⟩:=af h
                   ·cases h
                    simp(config:=cS)only[go_sem,eqF h2,eqF h4,eZt h133,eqT h134,eZt h137,eZt h140,eqF h143,eZt h145,eqT h147,eqT h148,eqT h149,eqT h150,eqT h151,eqF h153,eqT h154,eZt h159,eqT h160,eqF h162,eqT h163]
                   ·cases h
                    simp(config:=cS)only[go_sem,eqF h2,eqF h4,eZt h133,eqT h134,eZt h137,eZt h140,eqF h143,eZt h145,eqT h147,eqT h148,eqT h149,eqT h150,eqT h151,eqF h153,eqT h154,eZt h159,eqT h160,eqF h162,eqF h163]
                 ·cases h
                  simp(config:=cS)only[go_sem,eqF h2,eqF h4,eZt h133,eqT h134,eZt h137,eZt h140,eqF h143,eZt h145,eqT h147,eqT h148,eqT h149,eqT h150,eqT h151,eqF h153,eqT h154,eZt h159,eqF h160]
                ·cases h
                 simp(config:=cS)only[go_sem,eqF h2,eqF h4,eZt h133,eqT h134,eZt h137,eZt h140,eqF h143,eZt h145,eqT h147,eqT h148,eqT h149,eqT h150,eqT h151,eqF h153,eqT h154,eZf h159]
               ·obtain ⟨r87,g164,h⟩:=ab h
                simp(config:=cS)only[go_sem,eqF h2,eqF h4,eZt h133,eqT h134,eZt h137,eZt h140,eqF h143,eZt h145,eqT h147,eqT h148,eqT h149,eqT h150,eqT h151,eqF h153,eqT h154]
                refine ag (aU g164) ?_
                obtain ⟨r88,g165,h⟩:=ab h
                simp(config:=cS)only[go_sem,eqF h2,eqF h4,eZt h133,eqT h134,eZt h137,eZt h140,eqF h143,eZt h145,eqT h147,eqT h148,eqT h149,eqT h150,eqT h151,eqF h153,eqT h154]
                refine ag (aI g165) ?_
                obtain ⟨h166,h⟩|⟨h166,h⟩:=af h
                ·obtain ⟨h167,h⟩|⟨h167,h⟩:=af h
                 ·obtain ⟨r89,g168,h⟩:=ab h
                  simp(config:=cS)only[go_sem,eqF h2,eqF h4,eZt h133,eqT h134,eZt h137,eZt h140,eqF h143,eZt h145,eqT h147,eqT h148,eqT h149,eqT h150,eqT h151,eqF h153,eqT h154,eZt h166,eqT h167]
                  refine ag (aR g168) ?_
                  obtain ⟨h169,h⟩|⟨h169,h⟩:=af h
                  ·cases h
                   simp(config:=cS)only[go_sem,eqF h2,eqF h4,eZt h133,eqT h134,eZt h137,eZt h140,eqF h143,eZt h145,eqT h147,eqT h148,eqT h149,eqT h150,eqT h151,eqF h153,eqT h154,eZt h166,eqT h167,eqT h169]
                  ·obtain ⟨h170,h⟩|⟨h170,h⟩:=af h
                   ·cases h
                    simp(config:=cS)only[go_sem,eqF h2,eqF h4,eZt h133,eqT h134,eZt h137,eZt h140,eqF h143,eZt h145,eqT h147,eqT h148,eqT h149,eqT h150,eqT h151,eqF h153,eqT h154,eZt h166,eqT h167,eqF h169,eqT h170]
                   ·cases h
                    simp(config:=cS)only[go_sem,eqF h2,eqF h4,eZt h133,eqT h134,eZt h137,eZt h140,eqF h143,eZt h145,eqT h147,eqT h148,eqT h149,eqT h150,eqT h151,eqF h153,eqT h154,eZt h166,eqT h167,eqF h169,eqF h170]
                 ·cases h
                  simp(config:=cS)only[go_sem,eqF h2,eqF h4,eZt h133,eqT h134,eZt h137,eZt h140,eqF h143,eZt h145,eqT h147,eqT h148,eqT h149,eqT h150,eqT h151,eqF h153,eqT h154,eZt h166,eqF h167]
                ·cases h
                 simp(config:=cS)only[go_sem,eqF h2,eqF h4,eZt h133,eqT h134,eZt h137,eZt h140,eqF h143,eZt h145,eqT h147,eqT h148,eqT h149,eqT h150,eqT h151,eqF h153,eqT h154,eZf h166]
              ·obtain ⟨r90,g171,h⟩:=ab h
               simp(config:=cS)only[go_sem,eqF h2,eqF h4,eZt h133,eqT h134,eZt h137,eZt h140,eqF h143,eZt h145,eqT h147,eqT h148,eqT h149,eqT h150,eqT h151,eqF h153,eqT h154]
               refine ag (aK g171) ?_
               obtain ⟨r91,g172,h⟩:=ab h
               simp(config:=cS)only[go_sem,eqF h2,eqF h4,eZt h133,eqT h134,eZt h137,eZt h140,eqF h143,eZt h145,eqT h147,eqT h148,eqT h149,eqT h150,eqT h151,eqF h153,eqT h154]
               refine ag (aU g172) ?_
               obtain ⟨r92,g173,h⟩:=ab h
               simp(config:=cS)only[go_sem,eqF h2,eqF h4,eZt h133,eqT h134,eZt h137,eZt h140,eqF h143,eZt h145,eqT h147,eqT h148,eqT h149,eqT h150,eqT h151,eqF h153,eqT h154]
               refine ag (aI g173) ?_
               obtain ⟨h174,h⟩|⟨h174,h⟩:=af h
               ·obtain ⟨h175,h⟩|⟨h175,h⟩:=af h
                ·obtain ⟨r93,g176,h⟩:=ab h
                 simp(config:=cS)only[go_sem,eqF h2,eqF h4,eZt h133,eqT h134,eZt h137,eZt h140,eqF h143,eZt h145,eqT h147,eqT h148,eqT h149,eqT h150,eqT h151,eqF h153,eqT h154,eZt h174,eqT h175]
                 refine ag (aR g176) ?_
                 obtain ⟨h177,h⟩|⟨h177,h⟩:=af h
                 ·cases h
                  simp(config:=cS)only[go_sem,eqF h2,eqF h4,eZt h133,eqT h134,eZt h137,eZt h140,eqF h143,eZt h145,eqT h147,eqT h148,eqT h149,eqT h150,eqT h151,eqF h153,eqT h154,eZt h174,eqT h175,eqT h177]
                 ·obtain ⟨h178,h⟩|⟨h178,h⟩:=af h
                  ·cases h
                   simp(config:=cS)only[go_sem,eqF h2,eqF h4,eZt h133,eqT h134,eZt h137,eZt h140,eqF h143,eZt h145,eqT h147,eqT h148,eqT h149,eqT h150,eqT h151,eqF h153,eqT h154,eZt h174,eqT h175,eqF h177,eqT h178]
                  ·cases h
                   simp(config:=cS)only[go_sem,eqF h2,eqF h4,eZt h133,eqT h134,eZt h137,eZt h140,eqF h143,eZt h145,eqT h147,eqT h148,eqT h149,eqT h150,eqT h151,eqF h153,eqT h154,eZt h174,eqT h175,eqF h177,eqF h178]
                ·cases h
                 simp(config:=cS)only[go_sem,eqF h2,eqF h4,eZt h133,eqT h134,eZt h137,eZt h140,eqF h143,eZt h145,eqT h147,eqT h148,eqT h149,eqT h150,eqT h151,eqF h153,eqT h154,eZt h174,eqF h175]
               ·cases h
                simp(config:=cS)only[go_sem,eqF h2,eqF h4,eZt h133,eqT h134,eZt h137,eZt h140,eqF h143,eZt h145,eqT h147,eqT h148,eqT h149,eqT h150,eqT h151,eqF h153,eqT h154,eZf h174]
             ·obtain ⟨r94,g179,h⟩:=ab h
              simp(config:=cS)only[go_sem,eqF h2,eqF h4,eZt h133,eqT h134,eZt h137,eZt h140,eqF h143,eZt h145,eqT h147,eqT h148,eqT h149,eqT h150,eqT h151,eqF h153,eqT h154]
              refine ag (bj g179) ?_
              obtain ⟨r95,g180,h⟩:=ab h
              simp(config:=cS)only[go_sem,eqF h2,eqF h4,eZt h133,eqT h134,eZt h137,eZt h140,eqF h143,eZt h145,eqT h147,eqT h148,eqT h149,eqT h150,eqT h151,eqF h153,eqT h154]
              refine ag (aK g180) ?_
              obtain ⟨r96,g181,h⟩:=ab h
              simp(config:=cS)only[go_sem,eqF h2,eqF h4,eZt h133,eqT h134,eZt h137,eZt h140,eqF h143,eZt h145,eqT h147,eqT h148,eqT h149,eqT h150,eqT h151,eqF h153,eqT h154]
              refine ag (aU g181) ?_
              obtain ⟨r97,g182,h⟩:=ab h
              simp(config:=cS)only[go_sem,eqF h2,eqF h4,eZt h133,eqT h134,eZt h137,eZt h140,eqF h143,eZt h145,eqT h147,eqT h148,eqT h149,eqT h150,eqT h151,eqF h153,eqT h154]
              refine ag (aI g182) ?_
              obtain ⟨h183,h⟩|⟨h183,h⟩:=af h
              ·obtain ⟨h184,h⟩|⟨h184,h⟩:=af h
               ·obtain ⟨r98,g185,h⟩:=ab h
                simp(config:=cS)only[go_sem,eqF h2,eqF h4,eZt h133,eqT h134,eZt h137,eZt h140,eqF h143,eZt h145,eqT h147,eqT h148,eqT h149,eqT h150,eqT h151,eqF h153,eqT h154,eZt h183,eqT h184]
                refine ag (aR g185) ?_
                obtain ⟨h186,h⟩|⟨h186,h⟩:=af h
                ·cases h
                 simp(config:=cS)only[go_sem,eqF h2,eqF h4,eZt h133,eqT h134,eZt h137,eZt h140,eqF h143,eZt h145,eqT h147,eqT h148,eqT h149,eqT h150,eqT h151,eqF h153,eqT h154,eZt h183,eqT h184,eqT h186]
                ·obtain ⟨h187,h⟩|⟨h187,h⟩:=af h
                 ·cases h
                  simp(config:=cS)only[go_sem,eqF h2,eqF h4,eZt h133,eqT h134,eZt h137,eZt h140,eqF h143,eZt h145,eqT h147,eqT h148,eqT h149,eqT h150,eqT h151,eqF h153,eqT h154,eZt h183,eqT h184,eqF h186,eqT h187]
                 ·cases h
                  simp(config:=cS)only[go_sem,eqF h2,eqF h4,eZt h133,eqT h134,eZt h137,eZt h140,eqF h143,eZt h145,eqT h147,eqT h148,eqT h149,eqT h150,eqT h151,eqF h153,eqT h154,eZt h183,eqT h184,eqF h186,eqF h187]
               ·cases h
                simp(config:=cS)only[go_sem,eqF h2,eqF h4,eZt h133,eqT h134,eZt h137,eZt h140,eqF h143,eZt h145,eqT h147,eqT h148,eqT h149,eqT h150,eqT h151,eqF h153,eqT h154,eZt h183,eqF h184]
              ·cases h
               simp(config:=cS)only[go_sem,eqF h2,eqF h4,eZt h133,eqT h134,eZt h137,eZt h140,eqF h143,eZt h145,eqT h147,eqT h148,eqT h149,eqT h150,eqT h151,eqF h153,eqT h154,eZf h183]
            ·cases h
             simp(config:=cS)only[go_sem,eqF h2,eqF h4,eZt h133,eqT h134,eZt h137,eZt h140,eqF h143,eZt h145,eqT h147,eqT h148,eqT h149,eqT h150,eqT h151,eqF h153,eqF h154]
          ·cases h
           simp(config:=cS)only[go_sem,eqF h2,eqF h4,eZt h133,eqT h134,eZt h137,eZt h140,eqF h143,eZf h145]
        ·cases h
         simp(config:=cS)only[go_sem,eqF h2,eqF h4,eZt h133,eqT h134,eZt h137,eZf h140]
       ·cases h
        simp(config:=cS)only[go_sem,eqF h2,eqF h4,eZt h133,eqT h134,eZf h137]
      ·cases h
       simp(config:=cS)only[go_sem,eqF h2,eqF h4,eZt h133,eqF h134]
     ·cases h
      simp(config:=cS)only[go_sem,eqF h2,eqF h4,eZf h133]
   ·obtain ⟨r99,g188,h⟩:=ab h
    simp(config:=cS)only[go_sem,eqF h2,eqF h4]
    refine ag (bj g188) ?_
    obtain ⟨r1100,g189,h⟩:=ab h
    simp(config:=cS)only[go_sem,eqF h2,eqF h4]
    refine ag (aK g189) ?_
    obtain ⟨r1101,g190,h⟩:=ab h
    simp(config:=cS)only[go_sem,eqF h2,eqF h4]
    refine ag (oo g190) ?_
    obtain ⟨r1102,g191,h⟩:=ab h
    simp(config:=cS)only[go_sem,eqF h2,eqF h4]
    refine ag (bj g191) ?_
    obtain ⟨r1103,g192,h⟩:=ab h
    simp(config:=cS)only[go_sem,eqF h2,eqF h4]
    refine ag (aK g192) ?_
    obtain ⟨r1104,g193,h⟩:=ab h
    simp(config:=cS)only[go_sem,eqF h2,eqF h4]
    refine ag (aU g193) ?_
    obtain ⟨r1105,g194,h⟩:=ab h
    simp(config:=cS)only[go_sem,eqF h2,eqF h4]
    refine ag (aI g194) ?_
    obtain ⟨h195,h⟩|⟨h195,h⟩:=af h
    ·obtain ⟨h196,h⟩|⟨h196,h⟩:=af h
     ·obtain ⟨r1106,g197,h⟩:=ab h
      simp(config:=cS)only[go_sem,eqF h2,eqF h4,eZt h195,eqT h196]
      refine ag (bj g197) ?_
      obtain ⟨r1107,g198,h⟩:=ab h
      simp(config:=cS)only[go_sem,eqF h2,eqF h4,eZt h195,eqT h196]
      refine ag (aI g198) ?_
      obtain ⟨h199,h⟩|⟨h199,h⟩:=af h
      ·obtain ⟨r1108,g200,h⟩:=ab h
       simp(config:=cS)only[go_sem,eqF h2,eqF h4,eZt h195,eqT h196,eZt h199]
       refine ag (aK g200) ?_
       obtain ⟨r1109,g201,h⟩:=ab h
       simp(config:=cS)only[go_sem,eqF h2,eqF h4,eZt h195,eqT h196,eZt h199]
       refine ag (nx g201) ?_
       obtain ⟨h202,h⟩|⟨h202,h⟩:=af h
       ·obtain ⟨r1110,g203,h⟩:=ab h
        simp(config:=cS)only[go_sem,eqF h2,eqF h4,eZt h195,eqT h196,eZt h199,eZt h202]
        refine ag (dL g203) ?_
        obtain ⟨r1111,g204,h⟩:=ab h
        simp(config:=cS)only[go_sem,eqF h2,eqF h4,eZt h195,eqT h196,eZt h199,eZt h202]
        refine ag (ls g204) ?_
        obtain ⟨h205,h⟩|⟨h205,h⟩:=af h
        ·cases h
         simp(config:=cS)only[go_sem,eqF h2,eqF h4,eZt h195,eqT h196,eZt h199,eZt h202,eqT h205]
        ·obtain ⟨r1112,g206,h⟩:=ab h
         simp(config:=cS)only[go_sem,eqF h2,eqF h4,eZt h195,eqT h196,eZt h199,eZt h202,eqF h205]
         refine ag (aI g206) ?_
         obtain ⟨h207,h⟩|⟨h207,h⟩:=af h
         ·obtain ⟨r1113,g208,h⟩:=ab h
          simp(config:=cS)only[go_sem,eqF h2,eqF h4,eZt h195,eqT h196,eZt h199,eZt h202,eqF h205,eZt h207]
          refine ag (dL g208) ?_
          obtain ⟨h209,h⟩:=ah h
          obtain ⟨h210,h⟩:=ah h
          obtain ⟨h211,h⟩:=ah h
          obtain ⟨h212,h⟩:=ah h
          obtain ⟨h213,h⟩:=ah h
          obtain ⟨r1114,g214,h⟩:=ab h
          simp(config:=cS)only[go_sem,eqF h2,eqF h4,eZt h195,eqT h196,eZt h199,eZt h202,eqF h205,eZt h207,eqT h209,eqT h210,eqT h211,eqT h212,eqT h213]
          refine ag (aR g214) ?_
          obtain ⟨h215,h⟩|⟨h215,h⟩:=af h
          ·cases h
           simp(config:=cS)only[go_sem,eqF h2,eqF h4,eZt h195,eqT h196,eZt h199,eZt h202,eqF h205,eZt h207,eqT h209,eqT h210,eqT h211,eqT h212,eqT h213,eqT h215]
          ·obtain ⟨h216,h⟩|⟨h216,h⟩:=af h
           ·try simp(config:=cS)only[go_sem,eqF h2,eqF h4,eZt h195,eqT h196,eZt h199,eZt h202,eqF h205,eZt h207,eqT h209,eqT h210,eqT h211,eqT h212,eqT h213,eqF h215,eqT h216]
            refine aO ?_ ?_
            ·obtain ⟨r1115,g217,h⟩:=ab h
             simp(config:=cS)only[go_sem,eqF h2,eqF h4,eZt h195,eqT h196,eZt h199,eZt h202,eqF h205,eZt h207,eqT h209,eqT h210,eqT h211,eqT h212,eqT h213,eqF h215,eqT h216]
             refine ag (bj g217) ?_
             try simp(config:=cS)only[go_sem,eqF h2,eqF h4,eZt h195,eqT h196,eZt h199,eZt h202,eqF h205,eZt h207,eqT h209,eqT h210,eqT h211,eqT h212,eqT h213,eqF h215,eqT h216]
             refine aO ?_ ?_
             ·obtain ⟨r1116,g218,h⟩:=ab h
              simp(config:=cS)only[go_sem,eqF h2,eqF h4,eZt h195,eqT h196,eZt h199,eZt h202,eqF h205,eZt h207,eqT h209,eqT h210,eqT h211,eqT h212,eqT h213,eqF h215,eqT h216]
              refine ag (aK g218) ?_
              try simp(config:=cS)only[go_sem,eqF h2,eqF h4,eZt h195,eqT h196,eZt h199,eZt h202,eqF h205,eZt h207,eqT h209,eqT h210,eqT h211,eqT h212,eqT h213,eqF h215,eqT h216]
              refine aO ?_ ?_
              ·obtain ⟨r1117,g219,h⟩:=ab h
               simp(config:=cS)only[go_sem,eqF h2,eqF h4,eZt h195,eqT h196,eZt h199,eZt h202,eqF h205,eZt h207,eqT h209,eqT h210,eqT h211,eqT h212,eqT h213,eqF h215,eqT h216]
               refine ag (aU g219) ?_
               obtain ⟨r1118,g220,h⟩:=ab h
               simp(config:=cS)only[go_sem,eqF h2,eqF h4,eZt h195,eqT h196,eZt h199,eZt h202,eqF h205,eZt h207,eqT h209,eqT h210,eqT h211,eqT h212,eqT h213,eqF h215,eqT h216]
               refine ag (aI g220) ?_
               obtain ⟨h221,h⟩|⟨h221,h⟩:=af h
               ·obtain ⟨h222,h⟩|⟨h222,h⟩:=af h
                ·obtain ⟨r1119,g223,h⟩:=ab h
                 simp(config:=cS)only[go_sem,eqF h2,eqF h4,eZt h195,eqT h196,eZt h199,eZt h202,eqF h205,eZt h207,eqT h209,eqT h210,eqT h211,eqT h212,eqT h213,eqF h215,eqT h216,eZt h221,eqT h222]
                 refine ag (aR g223) ?_
                 obtain ⟨h224,h⟩|⟨h224,h⟩:=af h
                 ·cases h
                  simp(config:=cS)only[go_sem,eqF h2,eqF h4,eZt h195,eqT h196,eZt h199,eZt h202,eqF h205,eZt h207,eqT h209,eqT h210,eqT h211,eqT h212,eqT h213,eqF h215,eqT h216,eZt h221,eqT h222,eqT h224]
                 ·obtain ⟨h225,h⟩|⟨h225,h⟩:=af h
                  ·cases h
                   simp(config:=cS)only[go_sem,eqF h2,eqF h4,eZt h195,eqT h196,eZt h199,eZt h202,eqF h205,eZt h207,eqT h209,eqT h210,eqT h211,eqT h212,eqT h213,eqF h215,eqT h216,eZt h221,eqT h222,eqF h224,eqT h225]
                  ·cases h
                   simp(config:=cS)only[go_sem,eqF h2,eqF h4,eZt h195,eqT h196,eZt h199,eZt h202,eqF h205,eZt h207,eqT h209,eqT h210,eqT h211,eqT h212,eqT h213,eqF h215,eqT h216,eZt h221,eqT h222,eqF h224,eqF h225]
                ·cases h
                 simp(config:=cS)only[go_sem,eqF h2,eqF h4,eZt h195,eqT h196,eZt h199,eZt h202,eqF h205,eZt h207,eqT h209,eqT h210,eqT h211,eqT h212,eqT h213,eqF h215,eqT h216,eZt h221,eqF h222]
               ·cases h
                simp(config:=cS)only[go_sem,eqF h2,eqF h4,eZt h195,eqT h196,eZt h199,eZt h202,eqF h205,eZt h207,eqT h209,eqT h210,eqT h211,eqT h212,eqT h213,eqF h215,eqT h216,eZf h221]
              ·obtain ⟨r1120,g226,h⟩:=ab h
               simp(config:=cS)only[go_sem,eqF h2,eqF h4,eZt h195,eqT h196,eZt h199,eZt h202,eqF h205,eZt h207,eqT h209,eqT h210,eqT h211,eqT h212,eqT h213,eqF h215,eqT h216]
               refine ag (aU g226) ?_
               obtain ⟨r1121,g227,h⟩:=ab h
               simp(config:=cS)only[go_sem,eqF h2,eqF h4,eZt h195,eqT h196,eZt h199,eZt h202,eqF h205,eZt h207,eqT h209,eqT h210,eqT h211,eqT h212,eqT h213,eqF h215,eqT h216]
               refine ag (aI g227) ?_
               obtain ⟨h228,h⟩|⟨h228,h⟩:=af h
               ·obtain ⟨h229,h⟩|⟨h229,h⟩:=af h
                ·obtain ⟨r1122,g230,h⟩:=ab h
                 simp(config:=cS)only[go_sem,eqF h2,eqF h4,eZt h195,eqT h196,eZt h199,eZt h202,eqF h205,eZt h207,eqT h209,eqT h210,eqT h211,eqT h212,eqT h213,eqF h215,eqT h216,eZt h228,eqT h229]
                 refine ag (aR g230) ?_
                 obtain ⟨h231,h⟩|⟨h231,h⟩:=af h
                 ·cases h
                  simp(config:=cS)only[go_sem,eqF h2,eqF h4,eZt h195,eqT h196,eZt h199,eZt h202,eqF h205,eZt h207,eqT h209,eqT h210,eqT h211,eqT h212,eqT h213,eqF h215,eqT h216,eZt h228,eqT h229,eqT h231]
                 ·obtain ⟨h232,h⟩|⟨h232,h⟩:=af h
                  ·cases h
                   simp(config:=cS)only[go_sem,eqF h2,eqF h4,eZt h195,eqT h196,eZt h199,eZt h202,eqF h205,eZt h207,eqT h209,eqT h210,eqT h211,eqT h212,eqT h213,eqF h215,eqT h216,eZt h228,eqT h229,eqF h231,eqT h232]
                  ·cases h
                   simp(config:=cS)only[go_sem,eqF h2,eqF h4,eZt h195,eqT h196,eZt h199,eZt h202,eqF h205,eZt h207,eqT h209,eqT h210,eqT h211,eqT h212,eqT h213,eqF h215,eqT h216,eZt h228,eqT h229,eqF h231,eqF h232]
                ·cases h
                 simp(config:=cS)only[go_sem,eqF h2,eqF h4,eZt h195,eqT h196,eZt h199,eZt h202,eqF h205,eZt h207,eqT h209,eqT h210,eqT h211,eqT h212,eqT h213,eqF h215,eqT h216,eZt h228,eqF h229]
               ·cases h
                simp(config:=cS)only[go_sem,eqF h2,eqF h4,eZt h195,eqT h196,eZt h199,eZt h202,eqF h205,eZt h207,eqT h209,eqT h210,eqT h211,eqT h212,eqT h213,eqF h215,eqT h216,eZf h228]
             ·obtain ⟨r1123,g233,h⟩:=ab h
              simp(config:=cS)only[go_sem,eqF h2,eqF h4,eZt h195,eqT h196,eZt h199,eZt h202,eqF h205,eZt h207,eqT h209,eqT h210,eqT h211,eqT h212,eqT h213,eqF h215,eqT h216]
              refine ag (aK g233) ?_
              obtain ⟨r1124,g234,h⟩:=ab h
              simp(config:=cS)only[go_sem,eqF h2,eqF h4,eZt h195,eqT h196,eZt h199,eZt h202,eqF h205,eZt h207,eqT h209,eqT h210,eqT h211,eqT h212,eqT h213,eqF h215,eqT h216]
              refine ag (aU g234) ?_
              obtain ⟨r1125,g235,h⟩:=ab h
              simp(config:=cS)only[go_sem,eqF h2,eqF h4,eZt h195,eqT h196,eZt h199,eZt h202,eqF h205,eZt h207,eqT h209,eqT h210,eqT h211,eqT h212,eqT h213,eqF h215,eqT h216]
              refine ag (aI g235) ?_
              obtain ⟨h236,h⟩|⟨h236,h⟩:=af h
              ·obtain ⟨h237,h⟩|⟨h237,h⟩:=af h
               ·obtain ⟨r1126,g238,h⟩:=ab h
                simp(config:=cS)only[go_sem,eqF h2,eqF h4,eZt h195,eqT h196,eZt h199,eZt h202,eqF h205,eZt h207,eqT h209,eqT h210,eqT h211,eqT h212,eqT h213,eqF h215,eqT h216,eZt h236,eqT h237]
                refine ag (aR g238) ?_
                obtain ⟨h239,h⟩|⟨h239,h⟩:=af h
                ·cases h
                 simp(config:=cS)only[go_sem,eqF h2,eqF h4,eZt h195,eqT h196,eZt h199,eZt h202,eqF h205,eZt h207,eqT h209,eqT h210,eqT h211,eqT h212,eqT h213,eqF h215,eqT h216,eZt h236,eqT h237,eqT h239]
                ·obtain ⟨h240,h⟩|⟨h240,h⟩:=af h
                 ·cases h
                  simp(config:=cS)only[go_sem,eqF h2,eqF h4,eZt h195,eqT h196,eZt h199,eZt h202,eqF h205,eZt h207,eqT h209,eqT h210,eqT h211,eqT h212,eqT h213,eqF h215,eqT h216,eZt h236,eqT h237,eqF h239,eqT h240]
                 ·cases h
                  simp(config:=cS)only[go_sem,eqF h2,eqF h4,eZt h195,eqT h196,eZt h199,eZt h202,eqF h205,eZt h207,eqT h209,eqT h210,eqT h211,eqT h212,eqT h213,eqF h215,eqT h216,eZt h236,eqT h237,eqF h239,eqF h240]
               ·cases h
                simp(config:=cS)only[go_sem,eqF h2,eqF h4,eZt h195,eqT h196,eZt h199,eZt h202,eqF h205,eZt h207,eqT h209,eqT h210,eqT h211,eqT h212,eqT h213,eqF h215,eqT h216,eZt h236,eqF h237]
              ·cases h
               simp(config:=cS)only[go_sem,eqF h2,eqF h4,eZt h195,eqT h196,eZt h199,eZt h202,eqF h205,eZt h207,eqT h209,eqT h210,eqT h211,eqT h212,eqT h213,eqF h215,eqT h216,eZf h236]
            ·obtain ⟨r1127,g241,h⟩:=ab h
             simp(config:=cS)only[go_sem,eqF h2,eqF h4,eZt h195,eqT h196,eZt h199,eZt h202,eqF h205,eZt h207,eqT h209,eqT h210,eqT h211,eqT h212,eqT h213,eqF h215,eqT h216]
             refine ag (bj g241) ?_
             obtain ⟨r1128,g242,h⟩:=ab h
             simp(config:=cS)only[go_sem,eqF h2,eqF h4,eZt h195,eqT h196,eZt h199,eZt h202,eqF h205,eZt h207,eqT h209,eqT h210,eqT h211,eqT h212,eqT h213,eqF h215,eqT h216]
             refine ag (aK g242) ?_
             obtain ⟨r1129,g243,h⟩:=ab h
             simp(config:=cS)only[go_sem,eqF h2,eqF h4,eZt h195,eqT h196,eZt h199,eZt h202,eqF h205,eZt h207,eqT h209,eqT h210,eqT h211,eqT h212,eqT h213,eqF h215,eqT h216]
             refine ag (aU g243) ?_
             obtain ⟨r1130,g244,h⟩:=ab h
             simp(config:=cS)only[go_sem,eqF h2,eqF h4,eZt h195,eqT h196,eZt h199,eZt h202,eqF h205,eZt h207,eqT h209,eqT h210,eqT h211,eqT h212,eqT h213,eqF h215,eqT h216]
             refine ag (aI g244) ?_
             obtain ⟨h245,h⟩|⟨h245,h⟩:=af h
             ·obtain ⟨h246,h⟩|⟨h246,h⟩:=af h
              ·obtain ⟨r1131,g247,h⟩:=ab h
               simp(config:=cS)only[go_sem,eqF h2,eqF h4,eZt h195,eqT h196,eZt h199,eZt h202,eqF h205,eZt h207,eqT h209,eqT h210,eqT h211,eqT h212,eqT h213,eqF h215,eqT h216,eZt h245,eqT h246]
               refine ag (aR g247) ?_
               obtain ⟨h248,h⟩|⟨h248,h⟩:=af h
               ·cases h
                simp(config:=cS)only[go_sem,eqF h2,eqF h4,eZt h195,eqT h196,eZt h199,eZt h202,eqF h205,eZt h207,eqT h209,eqT h210,eqT h211,eqT h212,eqT h213,eqF h215,eqT h216,eZt h245,eqT h246,eqT h248]
               ·obtain ⟨h249,h⟩|⟨h249,h⟩:=af h
                ·cases h
                 simp(config:=cS)only[go_sem,eqF h2,eqF h4,eZt h195,eqT h196,eZt h199,eZt h202,eqF h205,eZt h207,eqT h209,eqT h210,eqT h211,eqT h212,eqT h213,eqF h215,eqT h216,eZt h245,eqT h246,eqF h248,eqT h249]
                ·cases h
                 simp(config:=cS)only[go_sem,eqF h2,eqF h4,eZt h195,eqT h196,eZt h199,eZt h202,eqF h205,eZt h207,eqT h209,eqT h210,eqT h211,eqT h212,eqT h213,eqF h215,eqT h216,eZt h245,eqT h246,eqF h248,eqF h249]
              ·cases h
               simp(config:=cS)only[go_sem,eqF h2,eqF h4,eZt h195,eqT h196,eZt h199,eZt h202,eqF h205,eZt h207,eqT h209,eqT h210,eqT h211,eqT h212,eqT h213,eqF h215,eqT h216,eZt h245,eqF h246]
             ·cases h
              simp(config:=cS)only[go_sem,eqF h2,eqF h4,eZt h195,eqT h196,eZt h199,eZt h202,eqF h205,eZt h207,eqT h209,eqT h210,eqT h211,eqT h212,eqT h213,eqF h215,eqT h216,eZf h245]
           ·cases h
            simp(config:=cS)only[go_sem,eqF h2,eqF h4,eZt h195,eqT h196,eZt h199,eZt h202,eqF h205,eZt h207,eqT h209,eqT h210,eqT h211,eqT h212,eqT h213,eqF h215,eqF h216]
         ·cases h
          simp(config:=cS)only[go_sem,eqF h2,eqF h4,eZt h195,eqT h196,eZt h199,eZt h202,eqF h205,eZf h207]
       ·cases h
        simp(config:=cS)only[go_sem,eqF h2,eqF h4,eZt h195,eqT h196,eZt h199,eZf h202]
      ·cases h
       simp(config:=cS)only[go_sem,eqF h2,eqF h4,eZt h195,eqT h196,eZf h199]
     ·cases h
      simp(config:=cS)only[go_sem,eqF h2,eqF h4,eZt h195,eqF h196]
    ·cases h
     simp(config:=cS)only[go_sem,eqF h2,eqF h4,eZf h195]
end Go.Proofs.QW
