/- Functions. -/
import Derived.Test.YtghfphjfkdbpjaaGreatAFK0
set_option linter.all false
set_option maxRecDepth 100000
set_option maxHeartbeats 4000000
namespace Go.Proofs.QA
open Go
def qd (f:List GNode)(g:List GTie)(h c:Int)(d e a b:List Int)(n:Int):St:=⟨[(2,.ptr 128 1 0 0),(3,.ptr 192 1 0 0),(5,.ref 1280 1 0 a.length),(6,.ref 1281 1 0 b.length),(7,.lit (.int .i64 n))],[(128,1,.var [.sl (ae GNode.encS f),.sl (ae GTie.enc g),.lit (.int .i64 h)]),(192,1,.var [.lit (.int .i64 c),.sl (ae eI d),.sl (ae eI e)]),(1280,1,.row true (ae eI a)),(1281,1,.row true (ae eI b))],2⟩
attribute [go_sem] qd
@[go_sem] def hi237_11:DT:=.i1 0 (.i1 1 (.i1 2 (.i2 3 (.i2 4 (.i2 5 (.i0 6 [0,1,2] (.i0 7 [0,1,2] (.i0 8 [0] (.i2 9 (.i2 10 .nil))))))))))
def Di:Hint where
 acts:=fun _=>[]
 draws:=fun
  | 11=>⟨hi237_11,[[],[],[],[],[],[],[4,5],[3,4,5,6],[1,2,3,4,5,6,7],.range 9,.range 10],.range 11⟩
  | _=>⟨.nil,[],[]⟩
theorem MN (i:Nat):Di.acts i=[]:=rfl
theorem MO (i:Nat):Di.views i=none:=rfl
attribute [go_sem] MN MO Tryz.ntmps237 Tryz.results237
@[go_sem] theorem Qd:(Di.draws 11).order=hi237_11:=rfl
theorem zV {rec:GShow→GState→Option Bool}(hrec:∀ {s:GShow} {v1:GState} {res:Bool},rec s v1=some res→ao Tryz.prog 237 [.agg (GShow.encS s),.agg (GState.encS v1)] [] (.lit (.bool res)) []){s:GShow}{v1:GState}{res:Bool}(h:pC rec s v1=some res):ao Tryz.prog 237 [.agg (GShow.encS s),.agg (GState.encS v1)] [] (.lit (.bool res)) []:=by
 refine ak (ra:=[]) (md:=mdT) hT (hi:=Di) Tryz.func237 rfl rfl (by decide +kernel) (by simp) ?_
 unfold pC at h
 obtain ⟨r01,g1,h⟩:=ab h
 simp(config:=cS)only[go_sem]
 refine ag (th g1) ?_
 obtain ⟨h2,h⟩|⟨h2,h⟩:=af h
 ·cases h
  simp(config:=cS)only[go_sem,eZt h2]
 ·obtain ⟨r02,g3,h⟩:=ab h
  simp(config:=cS)only[go_sem,eZf h2]
  refine ag (uY g3) ?_
  obtain ⟨h4,h⟩|⟨h4,h⟩:=af h
  ·cases h
   simp(config:=cS)only[go_sem,eZt h4]
  ·obtain ⟨r03,g5,h⟩:=ab h
   simp(config:=cS)only[go_sem,eZf h4]
   refine ag (wI g5) ?_
   obtain ⟨h6,h⟩|⟨h6,h⟩:=af h
   ·cases h
    simp(config:=cS)only[go_sem,eZt h6]
   ·obtain ⟨r04,g7,h⟩:=ab h
    simp(config:=cS)only[go_sem,eZf h6]
    refine ag (sg g7) ?_
    obtain ⟨q09,l8,h⟩:=ab h
    simp(config:=cS)only[go_sem]
    refine al (m1:=.mk) (m2:=.mk) [.nf [2,3,5,6,7] [128,192,1280,1281]] (qd s.nodes s.ties s.horizon v1.now v1.times v1.values r04.1 r04.2) l8 ?_ ?_
    ·simp(config:=cS)only[go_sem]
    ·intro nb9 n_1 bb9 b9 gb9
     unfold tw at b9
     try dsimp only at b9
     obtain ⟨h10,b9⟩:=ah b9
     obtain ⟨h11,b9⟩|⟨h11,b9⟩:=af b9
     ·obtain ⟨r05,g12,b9⟩:=ab b9
      simp(config:=cS)only[go_sem,eqF h10,eqT h11]
      refine ag (lv g12) ?_
      obtain ⟨r06,g13,b9⟩:=ab b9
      simp(config:=cS)only[go_sem]
      refine ag (ua g13) ?_
      obtain ⟨r07,g14,b9⟩:=ab b9
      simp(config:=cS)only[go_sem]
      refine ag (vU g14) ?_
      obtain ⟨r08,g15,b9⟩:=ab b9
      simp(config:=cS)only[go_sem]
      refine ag (zU @hrec g15) ?_
      obtain ⟨h16,b9⟩|⟨h16,b9⟩:=af b9
      ·cases b9
       simp(config:=cS)only[go_sem,eZt h16]
       refine an gb9 ?_
       simp(config:=cS)only[go_sem]
      ·cases b9
       obtain rfl:=(aj gb9).symm
       try dsimp only at h
       cases h
       simp(config:=cS)only[go_sem,eZf h16]
     ·cases b9
      obtain rfl:=(aj gb9).symm
      try dsimp only at h
      cases h
      simp(config:=cS)only[go_sem,eqF h10,eqF h11]
theorem wJ (n:Nat):∀ {s:GShow} {v1:GState} {res:Bool},lb n s v1=some res→ao Tryz.prog 237 [.agg (GShow.encS s),.agg (GState.encS v1)] [] (.lit (.bool res)) []:=by
 induction n with
 | zero=>intro _ _ _ h;cases h
 | succ n ih=>intro _ _ _ h;exact zV (@ih) h
theorem Cx {s:GShow}{v1:GState}{res:Bool}(h:vY s v1=some res):ao Tryz.prog 237 [.agg (GShow.encS s),.agg (GState.encS v1)] [] (.lit (.bool res)) []:=wJ 40 h
theorem va {s:GShow}{v1:GState}{nodes:List Int}{res:Bool}(h:qL s v1 nodes=some res):ao Tryz.prog 191 [.agg (GShow.encS s),.agg (GState.encS v1),.sl (ae eI nodes)] [] (.lit (.bool res)) []:=ti (@Cx) h
def mm (a b:Int)(c:List GNode)(d:List GTie)(e f:Int)(g h:List Int)(i:Bool)(j:List GEntry)(k:Int)(m n:List Int)(l:List (List Int))(o:Int):St:=⟨[(2,.lit (.int .i64 a)),(3,.ptr 192 1 0 0),(4,.ptr 256 1 0 0),(8,.ref 896 1 0 l.length),(16,.lit (.int .i64 b)),(17,.lit (.int .i64 o))],[(192,1,.var [.sl (ae GNode.encS c),.sl (ae GTie.enc d),.lit (.int .i64 e),.lit (.int .i64 f),.sl (ae eI g),.sl (ae eI h),.lit (.bool i),.sl (ae GEntry.encS j)]),(256,1,.var [.lit (.int .i64 k),.sl (ae eI m),.sl (ae eI n)]),(896,1,.tree (ae (eLS eI) l))],2⟩
attribute [go_sem] mm
attribute [go_sem] Tryz.ntmps121 Tryz.results121
theorem yz {d:GDesk}{y:GState}{without:Int}{res:(List Int) × Bool}(h:mX d y without=some res):ao Tryz.prog 121 [.agg (GDesk.encS d),.agg (GState.encS y),.lit (.int .i64 without)] [] (.tup [.ref 20000 1 0 res.1.length,.lit (.bool res.2)]) [(20000,1,.row true (ae eI res.1))]:=by
 refine ak (ra:=[.home 6]) (md:=mdT) hT (hi:=hi00) Tryz.func121 rfl rfl (by decide +kernel) (by simp) ?_
 unfold mX at h
 obtain ⟨r01,g1,h⟩:=ab h
 simp(config:=cS)only[go_sem]
 refine ag (rq g1) ?_
 obtain ⟨q08,l2,h⟩:=ab h
 simp(config:=cS)only[go_sem]
 refine al (m1:=.mk) (m2:=.mk) [.freeze [896],.nf [2,3,4,8,16,17] [192,256,896]] (mm without ((r01.length:Nat):Int) d.show_.nodes d.show_.ties d.show_.horizon d.state.now d.state.times d.state.values d.lazy d.log y.now y.times y.values r01) l2 ?_ ?_
 ·simp(config:=cS)only[go_sem]
 ·intro nb3 v17_1 bb3 b3 gb3
  unfold qv at b3
  try dsimp only at b3
  obtain ⟨h4,b3⟩|⟨h4,b3⟩:=af b3
  ·obtain ⟨x02,g5,b3⟩:=ab b3
   obtain ⟨h6,h7,h8⟩:=ai g5
   obtain ⟨h9,b3⟩|⟨h9,b3⟩:=af b3
   ·obtain ⟨x03,g10,b3⟩:=ab b3
    obtain ⟨h11,h12,h13⟩:=ai g10
    obtain ⟨r04,g14,b3⟩:=ab b3
    simp(config:=cS)only[go_sem,eqT h4,h6,h7,h8,eZt h9,h11,h12,h13]
    refine ag (ip g14) ?_
    obtain ⟨h15,b3⟩|⟨h15,b3⟩:=af b3
    ·cases b3
     simp(config:=cS)only[go_sem,eqT h4,h6,h7,h8,eZt h9,h11,h12,h13,eZt h15]
     refine an gb3 ?_
     simp(config:=cS)only[go_sem,eqT h4,h6,h7,h8,eZt h9,h11,h12,h13,eZt h15]
    ·obtain ⟨r05,g16,b3⟩:=ab b3
     simp(config:=cS)only[go_sem,eqT h4,h6,h7,h8,eZt h9,h11,h12,h13,eZf h15]
     refine ag (va g16) ?_
     obtain ⟨h17,b3⟩|⟨h17,b3⟩:=af b3
     ·obtain ⟨h18,b3⟩:=ah b3
      obtain ⟨h19,b3⟩:=ah b3
      cases b3
      obtain rfl:=(aj gb3).symm
      try dsimp only at h
      cases h
      simp(config:=cS)only[go_sem,eqT h4,h6,h7,h8,eZt h9,h11,h12,h13,eZf h15,eZt h17,eqT h18,eqT h19]
     ·cases b3
      simp(config:=cS)only[go_sem,eqT h4,h6,h7,h8,eZt h9,h11,h12,h13,eZf h15,eZf h17]
      refine an gb3 ?_
      simp(config:=cS)only[go_sem,eqT h4,h6,h7,h8,eZt h9,h11,h12,h13,eZf h15,eZf h17]
   ·obtain ⟨r06,g21,b3⟩:=ab b3
    simp(config:=cS)only[go_sem,eqT h4,h6,h7,h8,eZf h9]
    refine ag (ip g21) ?_
    obtain ⟨h22,b3⟩|⟨h22,b3⟩:=af b3
    ·cases b3
     simp(config:=cS)only[go_sem,eqT h4,h6,h7,h8,eZf h9,eZt h22]
     refine an gb3 ?_
     simp(config:=cS)only[go_sem,eqT h4,h6,h7,h8,eZf h9,eZt h22]
    ·obtain ⟨r07,g23,b3⟩:=ab b3
     simp(config:=cS)only[go_sem,eqT h4,h6,h7,h8,eZf h9,eZf h22]
     refine ag (va g23) ?_
     obtain ⟨h24,b3⟩|⟨h24,b3⟩:=af b3
     ·obtain ⟨h25,b3⟩:=ah b3
      obtain ⟨h26,b3⟩:=ah b3
      cases b3
      obtain rfl:=(aj gb3).symm
      try dsimp only at h
      cases h
      simp(config:=cS)only[go_sem,eqT h4,h6,h7,h8,eZf h9,eZf h22,eZt h24,eqT h25,eqT h26]
     ·cases b3
      simp(config:=cS)only[go_sem,eqT h4,h6,h7,h8,eZf h9,eZf h22,eZf h24]
      refine an gb3 ?_
      simp(config:=cS)only[go_sem,eqT h4,h6,h7,h8,eZf h9,eZf h22,eZf h24]
  ·cases b3
   obtain rfl:=(aj gb3).symm
   try dsimp only at h
   cases h
   simp(config:=cS)only[go_sem,eqF h4]
def gx (d:List GNode)(e c:Int)(b:List GTie):(Int × (List GNode))→St
 | (f,a)=>⟨[(2,.ptr 128 1 0 0),(3,.ptr 192 1 0 0),(14,.sl (ae GNode.encS d)),(15,.lit (.int .i64 e)),(16,.lit (.int .i64 f))],[(128,1,.var [.lit (.slice none 0 0),.lit (.slice none 0 0),.lit (.int .i64 0)]),(192,1,.var [.ref 100012288 1 0 a.length,.ref 384 1 0 b.length,.lit (.int .i64 c)]),(100012288,1,.row true (ae GNode.encO a)),(384,1,.row true (ae GTie.enc b))],2⟩
attribute [go_sem] gx
@[go_sem] def hi175_5:DT:=.i1 0 (.i1 1 (.i1 2 (.i1 3 (.i1 5 (.i1 6 (.i1 8 (.i1 9 (.i0 4 [0,1,2,3,5,6,8,9] (.i0 7 [0,1,2,3,8,9] (.i2 10 (.i0 11 [0,1] (.i2 12 (.i2 13 (.i2 14 .nil))))))))))))))
@[go_sem] def hi175_1:DT:=.i1 1 (.i1 2 (.i1 4 (.i1 5 (.fork (.i0 0 [1,2,4,5] (.fork (.i0 3 [4,5] (.i2 6 (.i0 7 [1,2,4,5] (.i2 8 .nil)))) (.i0 7 [1,2,4,5] (.i0 3 [4,5] (.i2 6 (.i2 8 .nil)))))) (.i0 7 [1,2,4,5] (.i0 0 [1,2,4,5] (.i0 3 [4,5] (.i2 6 (.i2 8 .nil)))))))))
def zW:Hint where
 acts:=fun _=>[]
 draws:=fun
  | 1=>⟨hi175_1,[[],[],[1],[0,1,2],[],[4],.range 6,[],.range 8],.range 9⟩
  | 5=>⟨hi175_5,[[],[0],[],[2],[],[],[5],[4,5,6],[],[8],[2,3,4,5,6,7,8,9],[2,3,4,5,6,7,8,9,10],.range 12,.range 13,.range 14],.range 15⟩
  | _=>⟨.nil,[],[]⟩
theorem MP (i:Nat):zW.acts i=[]:=rfl
theorem MQ (i:Nat):zW.views i=none:=rfl
attribute [go_sem] MP MQ Tryz.ntmps175 Tryz.results175
@[go_sem] theorem Qv:(zW.draws 1).order=hi175_1:=rfl
@[go_sem] theorem Qw:(zW.draws 5).order=hi175_5:=rfl
theorem vb {s res:GShow}(h:qJ s=some res):ao Tryz.prog 175 [.agg (GShow.encS s)] [] (.agg [.ref 20000 1 0 res.nodes.length,.ref 20001 1 0 res.ties.length,.lit (.int .i64 res.horizon)]) [(20000,1,.row true (ae GNode.encO res.nodes)),(20001,1,.row true (ae GTie.enc res.ties))]:=by
 refine ak (ra:=[.homeCell 128 0,.homeCell 128 1]) (md:=mdT) hT (hi:=zW) Tryz.func175 rfl rfl (by decide +kernel) (by simp) ?_
 unfold qJ at h
 try simp(config:=cS)only[go_sem]
 refine aT ?_ ?_
 ·try simp(config:=cS)only[go_sem]
  refine aT ?_ ?_
  ·obtain ⟨h1,h⟩:=ah h
   obtain ⟨h2,h⟩:=ah h
   obtain ⟨q02,l3,h⟩:=ab h
   simp(config:=cS)only[go_sem,eqT h1,eqT h2]
   refine al (m1:=.mk) (m2:=.mk) [.homeCell 192 0,.nf [2,3,14,15,16] [128,192,100012288,384]] (gx s.nodes ((s.nodes.length:Nat):Int) s.horizon s.ties) l3 ?_ ?_
   ·simp(config:=cS)only[go_sem]
   ·intro nb4 sb4 bb4 b4 gb4
    obtain ⟨v16_1,h100012288_1⟩:=sb4
    unfold jb at b4
    try dsimp only at b4
    obtain ⟨h5,b4⟩|⟨h5,b4⟩:=af b4
    ·obtain ⟨x01,g6,b4⟩:=ab b4
     obtain ⟨h7,h8,h9⟩:=ai g6
     obtain ⟨h10,b4⟩:=ah b4
     obtain ⟨h11,b4⟩:=ah b4
     obtain ⟨h12,b4⟩:=ah b4
     obtain ⟨h13,b4⟩:=ah b4
     cases b4
     simp(config:=cS)only[go_sem,eqT h5,h7,h8,h9,eqT h10,eqT h11,eqT h12,eqT h13]
     refine an gb4 ?_
     simp(config:=cS)only[go_sem]
    ·cases b4
     obtain rfl:=(aj gb4).symm
     try dsimp only at h
     cases h
     simp(config:=cS)only[go_sem,eqF h5]
  ·obtain ⟨h15,h⟩:=ah h
   obtain ⟨h16,h⟩:=ah h
   obtain ⟨q04,l17,h⟩:=ab h
   simp(config:=cS)only[go_sem,eqT h15,eqT h16]
   refine al (m1:=.mk) (m2:=.mk) [.homeCell 192 0,.nf [2,3,14,15,16] [128,192,100012288,384]] (gx s.nodes ((s.nodes.length:Nat):Int) s.horizon s.ties) l17 ?_ ?_
   ·simp(config:=cS)only[go_sem]
   ·intro nb18 sb18 bb18 b18 gb18
    obtain ⟨v16_2,h100012288_2⟩:=sb18
    unfold jb at b18
    try dsimp only at b18
    obtain ⟨h19,b18⟩|⟨h19,b18⟩:=af b18
    ·obtain ⟨x03,g20,b18⟩:=ab b18
     obtain ⟨h21,h22,h23⟩:=ai g20
     obtain ⟨h24,b18⟩:=ah b18
     obtain ⟨h25,b18⟩:=ah b18
     obtain ⟨h26,b18⟩:=ah b18
     obtain ⟨h27,b18⟩:=ah b18
     cases b18
     simp(config:=cS)only[go_sem,eqT h19,h21,h22,h23,eqT h24,eqT h25,eqT h26,eqT h27]
     refine an gb18 ?_
     simp(config:=cS)only[go_sem]
    ·cases b18
     obtain rfl:=(aj gb18).symm
     try dsimp only at h
     cases h
     simp(config:=cS)only[go_sem,eqF h19]
 ·obtain ⟨h29,h⟩:=ah h
  obtain ⟨h30,h⟩:=ah h
  obtain ⟨q06,l31,h⟩:=ab h
  simp(config:=cS)only[go_sem,eqT h29,eqT h30]
  refine al (m1:=.mk) (m2:=.mk) [.homeCell 192 0,.nf [2,3,14,15,16] [128,192,100012288,384]] (gx s.nodes ((s.nodes.length:Nat):Int) s.horizon s.ties) l31 ?_ ?_
  ·simp(config:=cS)only[go_sem]
  ·intro nb32 sb32 bb32 b32 gb32
   obtain ⟨v16_3,h100012288_3⟩:=sb32
   unfold jb at b32
   try dsimp only at b32
   obtain ⟨h33,b32⟩|⟨h33,b32⟩:=af b32
   ·obtain ⟨x05,g34,b32⟩:=ab b32
    obtain ⟨h35,h36,h37⟩:=ai g34
    obtain ⟨h38,b32⟩:=ah b32
    obtain ⟨h39,b32⟩:=ah b32
    obtain ⟨h40,b32⟩:=ah b32
    obtain ⟨h41,b32⟩:=ah b32
    cases b32
    simp(config:=cS)only[go_sem,eqT h33,h35,h36,h37,eqT h38,eqT h39,eqT h40,eqT h41]
    refine an gb32 ?_
    simp(config:=cS)only[go_sem]
   ·cases b32
    obtain rfl:=(aj gb32).symm
    try dsimp only at h
    cases h
    simp(config:=cS)only[go_sem,eqF h33]
@[go_sem] def hi188_1:DT:=.i1 0 (.i1 1 (.i1 3 (.i1 4 (.i1 7 (.i1 8 (.i1 11 (.i1 12 (.fork (.i0 2 [0,1,3,4,7,8,11,12] (.fork (.i0 5 [0,1,7,8,11,12] (.fork (.i0 6 [0,1,3,4,7,8,11,12] (.fork (.i0 9 [0,1,11,12] (.i0 10 [0,1,3,4,7,8,11,12] (.i0 13 [0,1] (.i2 14 (.i2 15 .nil))))) (.i0 10 [0,1,3,4,7,8,11,12] (.i0 9 [0,1,11,12] (.i0 13 [0,1] (.i2 14 (.i2 15 .nil))))))) (.i0 10 [0,1,3,4,7,8,11,12] (.i0 6 [0,1,3,4,7,8,11,12] (.i0 9 [0,1,11,12] (.i0 13 [0,1] (.i2 14 (.i2 15 .nil)))))))) (.fork (.i0 6 [0,1,3,4,7,8,11,12] (.fork (.i0 5 [0,1,7,8,11,12] (.fork (.i0 9 [0,1,11,12] (.i0 10 [0,1,3,4,7,8,11,12] (.i0 13 [0,1] (.i2 14 (.i2 15 .nil))))) (.i0 10 [0,1,3,4,7,8,11,12] (.i0 9 [0,1,11,12] (.i0 13 [0,1] (.i2 14 (.i2 15 .nil))))))) (.i0 10 [0,1,3,4,7,8,11,12] (.i0 5 [0,1,7,8,11,12] (.i0 9 [0,1,11,12] (.i0 13 [0,1] (.i2 14 (.i2 15 .nil)))))))) (.i0 10 [0,1,3,4,7,8,11,12] (.fork (.i0 5 [0,1,7,8,11,12] (.i0 6 [0,1,3,4,7,8,11,12] (.i0 9 [0,1,11,12] (.i0 13 [0,1] (.i2 14 (.i2 15 .nil)))))) (.i0 6 [0,1,3,4,7,8,11,12] (.i0 5 [0,1,7,8,11,12] (.i0 9 [0,1,11,12] (.i0 13 [0,1] (.i2 14 (.i2 15 .nil))))))))))) (.fork (.i0 6 [0,1,3,4,7,8,11,12] (.fork (.i0 2 [0,1,3,4,7,8,11,12] (.fork (.i0 5 [0,1,7,8,11,12] (.fork (.i0 9 [0,1,11,12] (.i0 10 [0,1,3,4,7,8,11,12] (.i0 13 [0,1] (.i2 14 (.i2 15 .nil))))) (.i0 10 [0,1,3,4,7,8,11,12] (.i0 9 [0,1,11,12] (.i0 13 [0,1] (.i2 14 (.i2 15 .nil))))))) (.i0 10 [0,1,3,4,7,8,11,12] (.i0 5 [0,1,7,8,11,12] (.i0 9 [0,1,11,12] (.i0 13 [0,1] (.i2 14 (.i2 15 .nil)))))))) (.i0 10 [0,1,3,4,7,8,11,12] (.i0 2 [0,1,3,4,7,8,11,12] (.i0 5 [0,1,7,8,11,12] (.i0 9 [0,1,11,12] (.i0 13 [0,1] (.i2 14 (.i2 15 .nil))))))))) (.i0 10 [0,1,3,4,7,8,11,12] (.fork (.i0 2 [0,1,3,4,7,8,11,12] (.fork (.i0 5 [0,1,7,8,11,12] (.i0 6 [0,1,3,4,7,8,11,12] (.i0 9 [0,1,11,12] (.i0 13 [0,1] (.i2 14 (.i2 15 .nil)))))) (.i0 6 [0,1,3,4,7,8,11,12] (.i0 5 [0,1,7,8,11,12] (.i0 9 [0,1,11,12] (.i0 13 [0,1] (.i2 14 (.i2 15 .nil)))))))) (.i0 6 [0,1,3,4,7,8,11,12] (.i0 2 [0,1,3,4,7,8,11,12] (.i0 5 [0,1,7,8,11,12] (.i0 9 [0,1,11,12] (.i0 13 [0,1] (.i2 14 (.i2 15 .nil))))))))))))))))))
def Dj:Hint where
 acts:=fun _=>[]
 draws:=fun
  | 1=>⟨hi188_1,[[],[0],[],[],[3],[2,3,4],[],[],[7],[2,3,4,5,6,7,8],[],[],[11],[2,3,4,5,6,7,8,9,10,11,12],.range 14,.range 15],.range 16⟩
  | _=>⟨.nil,[],[]⟩
theorem MR (i:Nat):Dj.acts i=[]:=rfl
theorem MS (i:Nat):Dj.views i=none:=rfl
attribute [go_sem] MR MS Tryz.ntmps188 Tryz.results188
@[go_sem] theorem Qy:(Dj.draws 1).order=hi188_1:=rfl
theorem oU {e res:GEntry}(h:pD e=some res):ao Tryz.prog 188 [.agg (GEntry.encS e)] [] (.agg [.lit (.int .i64 res.now),.ref 20000 1 0 res.ties.length,.ref 20001 1 0 res.nodes.length,.ref 20002 1 0 res.values.length]) [(20000,1,.row true (ae eI res.ties)),(20001,1,.row true (ae eI res.nodes)),(20002,1,.row true (ae eI res.values))]:=by
 refine ak (ra:=[.homeCell 128 1,.homeCell 128 2,.homeCell 128 3]) (md:=mdT) hT (hi:=Dj) Tryz.func188 rfl rfl (by decide +kernel) (by simp) ?_
 unfold pD at h
 try simp(config:=cS)only[go_sem]
 refine aT ?_ ?_
 ·try simp(config:=cS)only[go_sem]
  refine aT ?_ ?_
  ·obtain ⟨h1,h⟩:=ah h
   obtain ⟨h2,h⟩:=ah h
   try simp(config:=cS)only[go_sem,eqT h1,eqT h2]
   refine aT ?_ ?_
   ·try simp(config:=cS)only[go_sem]
    refine aT ?_ ?_
    ·obtain ⟨h3,h⟩:=ah h
     obtain ⟨h4,h⟩:=ah h
     obtain ⟨h5,h⟩:=ah h
     obtain ⟨h6,h⟩:=ah h
     cases h
     simp(config:=cS)only[go_sem,eqT h3,eqT h4,eqT h5,eqT h6]
    ·obtain ⟨h7,h⟩:=ah h
     obtain ⟨h8,h⟩:=ah h
     obtain ⟨h9,h⟩:=ah h
     obtain ⟨h10,h⟩:=ah h
     cases h
     simp(config:=cS)only[go_sem,eqT h7,eqT h8,eqT h9,eqT h10]
   ·obtain ⟨h11,h⟩:=ah h
    obtain ⟨h12,h⟩:=ah h
    obtain ⟨h13,h⟩:=ah h
    obtain ⟨h14,h⟩:=ah h
    cases h
    simp(config:=cS)only[go_sem,eqT h11,eqT h12,eqT h13,eqT h14]
  ·try simp(config:=cS)only[go_sem]
   refine aT ?_ ?_
   ·try simp(config:=cS)only[go_sem]
    refine aT ?_ ?_
    ·obtain ⟨h15,h⟩:=ah h
     obtain ⟨h16,h⟩:=ah h
     try simp(config:=cS)only[go_sem,eqT h15,eqT h16]
     refine aT ?_ ?_
     ·obtain ⟨h17,h⟩:=ah h
      obtain ⟨h18,h⟩:=ah h
      obtain ⟨h19,h⟩:=ah h
      obtain ⟨h20,h⟩:=ah h
      cases h
      simp(config:=cS)only[go_sem,eqT h17,eqT h18,eqT h19,eqT h20]
     ·obtain ⟨h21,h⟩:=ah h
      obtain ⟨h22,h⟩:=ah h
      obtain ⟨h23,h⟩:=ah h
      obtain ⟨h24,h⟩:=ah h
      cases h
      simp(config:=cS)only[go_sem,eqT h21,eqT h22,eqT h23,eqT h24]
    ·obtain ⟨h25,h⟩:=ah h
     obtain ⟨h26,h⟩:=ah h
     obtain ⟨h27,h⟩:=ah h
     obtain ⟨h28,h⟩:=ah h
     obtain ⟨h29,h⟩:=ah h
     obtain ⟨h30,h⟩:=ah h
     cases h
     simp(config:=cS)only[go_sem,eqT h25,eqT h26,eqT h27,eqT h28,eqT h29,eqT h30]
   ·try simp(config:=cS)only[go_sem]
    refine aT ?_ ?_
    ·obtain ⟨h31,h⟩:=ah h
     obtain ⟨h32,h⟩:=ah h
     obtain ⟨h33,h⟩:=ah h
     obtain ⟨h34,h⟩:=ah h
     obtain ⟨h35,h⟩:=ah h
     obtain ⟨h36,h⟩:=ah h
     cases h
     simp(config:=cS)only[go_sem,eqT h31,eqT h32,eqT h33,eqT h34,eqT h35,eqT h36]
    ·obtain ⟨h37,h⟩:=ah h
     obtain ⟨h38,h⟩:=ah h
     obtain ⟨h39,h⟩:=ah h
     obtain ⟨h40,h⟩:=ah h
     obtain ⟨h41,h⟩:=ah h
     obtain ⟨h42,h⟩:=ah h
     cases h
     simp(config:=cS)only[go_sem,eqT h37,eqT h38,eqT h39,eqT h40,eqT h41,eqT h42]
 ·try simp(config:=cS)only[go_sem]
  refine aT ?_ ?_
  ·try simp(config:=cS)only[go_sem]
   refine aT ?_ ?_
   ·try simp(config:=cS)only[go_sem]
    refine aT ?_ ?_
    ·obtain ⟨h43,h⟩:=ah h
     obtain ⟨h44,h⟩:=ah h
     try simp(config:=cS)only[go_sem,eqT h43,eqT h44]
     refine aT ?_ ?_
     ·obtain ⟨h45,h⟩:=ah h
      obtain ⟨h46,h⟩:=ah h
      obtain ⟨h47,h⟩:=ah h
      obtain ⟨h48,h⟩:=ah h
      cases h
      simp(config:=cS)only[go_sem,eqT h45,eqT h46,eqT h47,eqT h48]
     ·obtain ⟨h49,h⟩:=ah h
      obtain ⟨h50,h⟩:=ah h
      obtain ⟨h51,h⟩:=ah h
      obtain ⟨h52,h⟩:=ah h
      cases h
      simp(config:=cS)only[go_sem,eqT h49,eqT h50,eqT h51,eqT h52]
    ·obtain ⟨h53,h⟩:=ah h
     obtain ⟨h54,h⟩:=ah h
     obtain ⟨h55,h⟩:=ah h
     obtain ⟨h56,h⟩:=ah h
     obtain ⟨h57,h⟩:=ah h
     obtain ⟨h58,h⟩:=ah h
     cases h
     simp(config:=cS)only[go_sem,eqT h53,eqT h54,eqT h55,eqT h56,eqT h57,eqT h58]
   ·obtain ⟨h59,h⟩:=ah h
    obtain ⟨h60,h⟩:=ah h
    obtain ⟨h61,h⟩:=ah h
    obtain ⟨h62,h⟩:=ah h
    obtain ⟨h63,h⟩:=ah h
    obtain ⟨h64,h⟩:=ah h
    cases h
    simp(config:=cS)only[go_sem,eqT h59,eqT h60,eqT h61,eqT h62,eqT h63,eqT h64]
  ·try simp(config:=cS)only[go_sem]
   refine aT ?_ ?_
   ·try simp(config:=cS)only[go_sem]
    refine aT ?_ ?_
    ·obtain ⟨h65,h⟩:=ah h
     obtain ⟨h66,h⟩:=ah h
     obtain ⟨h67,h⟩:=ah h
     obtain ⟨h68,h⟩:=ah h
     obtain ⟨h69,h⟩:=ah h
     obtain ⟨h70,h⟩:=ah h
     cases h
     simp(config:=cS)only[go_sem,eqT h65,eqT h66,eqT h67,eqT h68,eqT h69,eqT h70]
    ·obtain ⟨h71,h⟩:=ah h
     obtain ⟨h72,h⟩:=ah h
     obtain ⟨h73,h⟩:=ah h
     obtain ⟨h74,h⟩:=ah h
     obtain ⟨h75,h⟩:=ah h
     obtain ⟨h76,h⟩:=ah h
     cases h
     simp(config:=cS)only[go_sem,eqT h71,eqT h72,eqT h73,eqT h74,eqT h75,eqT h76]
   ·obtain ⟨h77,h⟩:=ah h
    obtain ⟨h78,h⟩:=ah h
    obtain ⟨h79,h⟩:=ah h
    obtain ⟨h80,h⟩:=ah h
    obtain ⟨h81,h⟩:=ah h
    obtain ⟨h82,h⟩:=ah h
    cases h
    simp(config:=cS)only[go_sem,eqT h77,eqT h78,eqT h79,eqT h80,eqT h81,eqT h82]
def gy (i:List GEntry)(j f g:Int)(h:Bool)(b:List GNode)(c:List GTie)(d e:List Int):(Int × (List GEntry))→St
 | (k,a)=>⟨[(2,.ptr 128 1 0 0),(3,.ptr 192 1 0 0),(16,.sl (ae GEntry.encS i)),(17,.lit (.int .i64 j)),(18,.lit (.int .i64 k))],[(128,1,.var [.lit (.slice none 0 0),.lit (.slice none 0 0),.lit (.int .i64 0),.lit (.int .i64 0),.lit (.slice none 0 0),.lit (.slice none 0 0),.lit (.bool false),.lit (.slice none 0 0)]),(192,1,.var [.ref 512 1 0 b.length,.ref 513 1 0 c.length,.lit (.int .i64 f),.lit (.int .i64 g),.ref 704 1 0 d.length,.ref 705 1 0 e.length,.lit (.bool h),.ref 100012295 1 0 a.length]),(512,1,.row true (ae GNode.encO b)),(513,1,.row true (ae GTie.enc c)),(704,1,.row true (ae eI d)),(705,1,.row true (ae eI e)),(100012295,1,.row true (ae GEntry.encO a))],2⟩
attribute [go_sem] gy
@[go_sem] def hi109_5:DT:=.i1 0 (.i1 1 (.i2 2 (.i0 3 [0,1] (.i0 4 [0,1] (.i2 5 (.i2 6 (.i2 7 .nil)))))))
@[go_sem] def hi109_1:DT:=.i1 0 (.i1 1 (.i1 3 (.i1 4 (.i1 6 (.i1 7 (.fork (.i0 2 [3,4,6,7] (.fork (.i0 5 [6,7] (.i2 8 (.i0 9 [0,1,3,4,6,7] (.i2 10 .nil)))) (.i0 9 [0,1,3,4,6,7] (.i0 5 [6,7] (.i2 8 (.i2 10 .nil)))))) (.i0 9 [0,1,3,4,6,7] (.i0 2 [3,4,6,7] (.i0 5 [6,7] (.i2 8 (.i2 10 .nil)))))))))))
def zX:Hint where
 acts:=fun _=>[]
 draws:=fun
  | 1=>⟨hi109_1,[[],[0],[0,1],[],[3],.range 5,[],[6],.range 8,[],.range 10],.range 11⟩
  | 5=>⟨hi109_5,[[],[0],[],[2],[2,3],.range 5,.range 6,.range 7],.range 8⟩
  | _=>⟨.nil,[],[]⟩
theorem MT (i:Nat):zX.acts i=[]:=rfl
theorem MU (i:Nat):zX.views i=none:=rfl
attribute [go_sem] MT MU Tryz.ntmps109 Tryz.results109
@[go_sem] theorem Qz:(zX.draws 1).order=hi109_1:=rfl
@[go_sem] theorem QA:(zX.draws 5).order=hi109_5:=rfl
theorem qI {d res:GDesk}(h:jB d=some res):ao Tryz.prog 109 [.agg (GDesk.encS d)] [] (.agg [.ref 20000 1 0 res.show_.nodes.length,.ref 20001 1 0 res.show_.ties.length,.lit (.int .i64 res.show_.horizon),.lit (.int .i64 res.state.now),.ref 20002 1 0 res.state.times.length,.ref 20003 1 0 res.state.values.length,.lit (.bool res.lazy),.ref 20004 1 0 res.log.length]) [(20000,1,.row true (ae GNode.encO res.show_.nodes)),(20001,1,.row true (ae GTie.enc res.show_.ties)),(20002,1,.row true (ae eI res.state.times)),(20003,1,.row true (ae eI res.state.values)),(20004,1,.row true (ae GEntry.encO res.log))]:=by
 refine ak (ra:=[.homeCell 128 0,.homeCell 128 1,.homeCell 128 4,.homeCell 128 5,.homeCell 128 7]) (md:=mdT) hT (hi:=zX) Tryz.func109 rfl rfl (by decide +kernel) (by simp) ?_
 unfold jB at h
 try simp(config:=cS)only[go_sem]
 refine aT ?_ ?_
 ·obtain ⟨r01,g1,h⟩:=ab h
  simp(config:=cS)only[go_sem]
  refine ag (vb g1) ?_
  try simp(config:=cS)only[go_sem]
  refine aT ?_ ?_
  ·obtain ⟨r02,g2,h⟩:=ab h
   simp(config:=cS)only[go_sem]
   refine ag (fa g2) ?_
   obtain ⟨q05,l3,h⟩:=ab h
   simp(config:=cS)only[go_sem]
   refine al (m1:=.mk) (m2:=.mk) [.homeCell 192 7,.nf [2,3,16,17,18] [128,192,512,513,704,705,100012295]] (gy d.log ((d.log.length:Nat):Int) r01.horizon r02.now d.lazy r01.nodes r01.ties r02.times r02.values) l3 ?_ ?_
   ·simp(config:=cS)only[go_sem]
   ·intro nb4 sb4 bb4 b4 gb4
    obtain ⟨v18_1,h100012295_1⟩:=sb4
    unfold je at b4
    try dsimp only at b4
    obtain ⟨h5,b4⟩|⟨h5,b4⟩:=af b4
    ·obtain ⟨x03,g6,b4⟩:=ab b4
     obtain ⟨h7,h8,h9⟩:=ai g6
     obtain ⟨r04,g10,b4⟩:=ab b4
     simp(config:=cS)only[go_sem,eqT h5,h7,h8,h9]
     refine ag (oU g10) ?_
     obtain ⟨h11,b4⟩:=ah b4
     obtain ⟨h12,b4⟩:=ah b4
     cases b4
     simp(config:=cS)only[go_sem,eqT h11,eqT h12]
     refine an gb4 ?_
     simp(config:=cS)only[go_sem]
    ·cases b4
     obtain rfl:=(aj gb4).symm
     try dsimp only at h
     cases h
     simp(config:=cS)only[go_sem,eqF h5]
  ·obtain ⟨r06,g14,h⟩:=ab h
   simp(config:=cS)only[go_sem]
   refine ag (fa g14) ?_
   obtain ⟨q09,l15,h⟩:=ab h
   simp(config:=cS)only[go_sem]
   refine al (m1:=.mk) (m2:=.mk) [.homeCell 192 7,.nf [2,3,16,17,18] [128,192,512,513,704,705,100012295]] (gy d.log ((d.log.length:Nat):Int) r01.horizon r06.now d.lazy r01.nodes r01.ties r06.times r06.values) l15 ?_ ?_
   ·simp(config:=cS)only[go_sem]
   ·intro nb16 sb16 bb16 b16 gb16
    obtain ⟨v18_2,h100012295_2⟩:=sb16
    unfold je at b16
    try dsimp only at b16
    obtain ⟨h17,b16⟩|⟨h17,b16⟩:=af b16
    ·obtain ⟨x07,g18,b16⟩:=ab b16
     obtain ⟨h19,h20,h21⟩:=ai g18
     obtain ⟨r08,g22,b16⟩:=ab b16
     simp(config:=cS)only[go_sem,eqT h17,h19,h20,h21]
     refine ag (oU g22) ?_
     obtain ⟨h23,b16⟩:=ah b16
     obtain ⟨h24,b16⟩:=ah b16
     cases b16
     simp(config:=cS)only[go_sem,eqT h23,eqT h24]
     refine an gb16 ?_
     simp(config:=cS)only[go_sem]
    ·cases b16
     obtain rfl:=(aj gb16).symm
     try dsimp only at h
     cases h
     simp(config:=cS)only[go_sem,eqF h17]
 ·obtain ⟨r10,g26,h⟩:=ab h
  simp(config:=cS)only[go_sem]
  refine ag (vb g26) ?_
  obtain ⟨r11,g27,h⟩:=ab h
  simp(config:=cS)only[go_sem]
  refine ag (fa g27) ?_
  obtain ⟨q14,l28,h⟩:=ab h
  simp(config:=cS)only[go_sem]
  refine al (m1:=.mk) (m2:=.mk) [.homeCell 192 7,.nf [2,3,16,17,18] [128,192,512,513,704,705,100012295]] (gy d.log ((d.log.length:Nat):Int) r10.horizon r11.now d.lazy r10.nodes r10.ties r11.times r11.values) l28 ?_ ?_
  ·simp(config:=cS)only[go_sem]
  ·intro nb29 sb29 bb29 b29 gb29
   obtain ⟨v18_3,h100012295_3⟩:=sb29
   unfold je at b29
   try dsimp only at b29
   obtain ⟨h30,b29⟩|⟨h30,b29⟩:=af b29
   ·obtain ⟨x12,g31,b29⟩:=ab b29
    obtain ⟨h32,h33,h34⟩:=ai g31
    obtain ⟨r13,g35,b29⟩:=ab b29
    simp(config:=cS)only[go_sem,eqT h30,h32,h33,h34]
    refine ag (oU g35) ?_
    obtain ⟨h36,b29⟩:=ah b29
    obtain ⟨h37,b29⟩:=ah b29
    cases b29
    simp(config:=cS)only[go_sem,eqT h36,eqT h37]
    refine an gb29 ?_
    simp(config:=cS)only[go_sem]
   ·cases b29
    obtain rfl:=(aj gb29).symm
    try dsimp only at h
    cases h
    simp(config:=cS)only[go_sem,eqF h30]
def mn (o j h:List Int)(p q:Int)(r s:List Int)(k m:Int)(n:Bool)(t:Int)(a:List GNode)(b:List GTie)(c d:List Int)(e:List GEntry)(f g i:List Int):(Int × (List Int) × (List Int))→St
 | (u,v,l)=>⟨[(1,.sl (ae eI o)),(3,.sl (ae eI j)),(4,.sl (ae eI h)),(7,.ptr 448 1 0 0),(10,.ptr 640 1 0 0),(11,.ptr 704 1 0 0),(12,.ptr 768 1 0 0),(13,.ref 1602 1 0 i.length),(14,.ref 1792 1 0 v.length),(15,.ref 1856 1 0 l.length),(30,.ref 1602 1 0 i.length),(31,.lit (.int .i64 p)),(32,.lit (.int .i64 u))],[(448,1,.var [.lit (.int .i64 q),.sl (ae eI r),.sl (ae eI s)]),(640,1,.var [.lit (.slice none 0 0),.lit (.slice none 0 0),.lit (.int .i64 0),.lit (.int .i64 0),.lit (.slice none 0 0),.lit (.slice none 0 0),.lit (.bool false),.lit (.slice none 0 0)]),(704,1,.var [.ref 1216 1 0 a.length,.ref 1217 1 0 b.length,.lit (.int .i64 k),.lit (.int .i64 m),.ref 1218 1 0 c.length,.ref 1219 1 0 d.length,.lit (.bool n),.ref 1220 1 0 e.length]),(1216,1,.row true (ae GNode.encO a)),(1217,1,.row true (ae GTie.enc b)),(1218,1,.row true (ae eI c)),(1219,1,.row true (ae eI d)),(1220,1,.row true (ae GEntry.encO e)),(768,1,.var [.lit (.int .i64 t),.ref 1600 1 0 f.length,.ref 1601 1 0 g.length]),(1600,1,.row true (ae eI f)),(1601,1,.row true (ae eI g)),(1602,1,.row true (ae eI i)),(1792,1,.row true (ae eI v)),(1856,1,.row true (ae eI l))],2⟩
attribute [go_sem] mn
@[go_sem] def hi111_11:DT:=.i1 0 (.i1 1 (.i1 2 (.i1 3 (.i2 5 (.i2 8 (.i2 10 (.fork (.i0 4 [0,1,2,3] (.fork (.i0 6 [0,1,2,3] (.i0 7 [0,1,2,3] (.i0 9 [0,1,2,3] (.i2 11 (.i0 12 [0,1] (.i2 13 (.i2 14 (.i2 15 .nil)))))))) (.i0 7 [0,1,2,3] (.i0 6 [0,1,2,3] (.i0 9 [0,1,2,3] (.i2 11 (.i0 12 [0,1] (.i2 13 (.i2 14 (.i2 15 .nil)))))))))) (.i0 7 [0,1,2,3] (.i0 4 [0,1,2,3] (.i0 6 [0,1,2,3] (.i0 9 [0,1,2,3] (.i2 11 (.i0 12 [0,1] (.i2 13 (.i2 14 (.i2 15 .nil))))))))))))))))
def Dk:Hint where
 acts:=fun _=>[]
 draws:=fun
  | 11=>⟨hi111_11,[[],[0],[],[2],[],[],[4,5],[],[],[4,5,6,7,8],[],[2,3,4,5,6,7,8,9,10],[2,3,4,5,6,7,8,9,10,11],.range 13,.range 14,.range 15],.range 16⟩
  | _=>⟨.nil,[],[]⟩
theorem MV (i:Nat):Dk.acts i=[]:=rfl
theorem MW (i:Nat):Dk.views i=none:=rfl
attribute [go_sem] MV MW Tryz.ntmps111 Tryz.results111
@[go_sem] theorem Qe:(Dk.draws 11).order=hi111_11:=rfl
theorem yA {d:GDesk}{ties:List Int}{y:GState}{nodes values:List Int}{res:GDesk}(h:mY d ties y nodes values=some res):ao Tryz.prog 111 [.agg (GDesk.encS d),.sl (ae eI ties),.agg (GState.encS y),.sl (ae eI nodes),.sl (ae eI values)] [] (.agg [.ref 20000 1 0 res.show_.nodes.length,.ref 20001 1 0 res.show_.ties.length,.lit (.int .i64 res.show_.horizon),.lit (.int .i64 res.state.now),.ref 20002 1 0 res.state.times.length,.ref 20003 1 0 res.state.values.length,.lit (.bool res.lazy),.ref 20004 1 0 res.log.length]) [(20000,1,.row true (ae GNode.encO res.show_.nodes)),(20001,1,.row true (ae GTie.enc res.show_.ties)),(20002,1,.row true (ae eI res.state.times)),(20003,1,.row true (ae eI res.state.values)),(20004,1,.row true (ae GEntry.encO res.log))]:=by
 refine ak (ra:=[.homeCell 640 0,.homeCell 640 1,.homeCell 640 4,.homeCell 640 5,.homeCell 640 7]) (md:=mdT) hT (hi:=Dk) Tryz.func111 rfl rfl (by decide +kernel) (by simp) ?_
 unfold mY at h
 obtain ⟨r01,g1,h⟩:=ab h
 simp(config:=cS)only[go_sem]
 refine ag (qI g1) ?_
 obtain ⟨r02,g2,h⟩:=ab h
 simp(config:=cS)only[go_sem]
 refine ag (mQ g2) ?_
 obtain ⟨q08,l3,h⟩:=ab h
 simp(config:=cS)only[go_sem]
 refine al (m1:=.mk) (m2:=.mk) [.nf [1,3,4,7,10,11,12,13,14,15,30,31,32] [448,640,704,1216,1217,1218,1219,1220,768,1600,1601,1602,1792,1856]] (mn ties nodes values ((r02.2.length:Nat):Int) y.now y.times y.values r01.show_.horizon r01.state.now r01.lazy r02.1.now r01.show_.nodes r01.show_.ties r01.state.times r01.state.values r01.log r02.1.times r02.1.values r02.2) l3 ?_ ?_
 ·simp(config:=cS)only[go_sem]
 ·intro nb4 sb4 bb4 b4 gb4
  obtain ⟨v32_1,v_1,l_1⟩:=sb4
  unfold qw at b4
  try dsimp only at b4
  obtain ⟨h5,b4⟩|⟨h5,b4⟩:=af b4
  ·obtain ⟨x03,g6,b4⟩:=ab b4
   obtain ⟨h7,h8,h9⟩:=ai g6
   obtain ⟨x04,g10,b4⟩:=ab b4
   obtain ⟨h11,h12,h13⟩:=ai g10
   obtain ⟨h14,b4⟩:=ah b4
   obtain ⟨h15,b4⟩:=ah b4
   obtain ⟨h16,b4⟩:=ah b4
   obtain ⟨h17,b4⟩:=ah b4
   cases b4
   simp(config:=cS)only[go_sem,eqT h5,h7,h8,h9,h11,h12,h13,eqT h14,eqT h15,eqT h16,eqT h17]
   refine an gb4 ?_
   simp(config:=cS)only[go_sem]
  ·cases b4
   obtain rfl:=(aj gb4).symm
   try dsimp only at h
   try simp(config:=cS)only[go_sem,eqF h5]
   refine aT ?_ ?_
   ·try simp(config:=cS)only[go_sem]
    refine aT ?_ ?_
    ·obtain ⟨h19,h⟩:=ah h
     obtain ⟨h20,h⟩:=ah h
     obtain ⟨h21,h⟩:=ah h
     obtain ⟨h22,h⟩:=ah h
     obtain ⟨h23,h⟩:=ah h
     obtain ⟨h24,h⟩:=ah h
     obtain ⟨r05,g25,h⟩:=ab h
     simp(config:=cS)only[go_sem,eqT h19,eqT h20,eqT h21,eqT h22,eqT h23,eqT h24]
     refine ag (gT g25) ?_
     cases h
     simp(config:=cS)only[go_sem]
    ·obtain ⟨h26,h⟩:=ah h
     obtain ⟨h27,h⟩:=ah h
     obtain ⟨h28,h⟩:=ah h
     obtain ⟨h29,h⟩:=ah h
     obtain ⟨h30,h⟩:=ah h
     obtain ⟨h31,h⟩:=ah h
     obtain ⟨r06,g32,h⟩:=ab h
     simp(config:=cS)only[go_sem,eqT h26,eqT h27,eqT h28,eqT h29,eqT h30,eqT h31]
     refine ag (gT g32) ?_
     cases h
     simp(config:=cS)only[go_sem]
   ·obtain ⟨h33,h⟩:=ah h
    obtain ⟨h34,h⟩:=ah h
    obtain ⟨h35,h⟩:=ah h
    obtain ⟨h36,h⟩:=ah h
    obtain ⟨h37,h⟩:=ah h
    obtain ⟨h38,h⟩:=ah h
    obtain ⟨r07,g39,h⟩:=ab h
    simp(config:=cS)only[go_sem,eqT h33,eqT h34,eqT h35,eqT h36,eqT h37,eqT h38]
    refine ag (gT g39) ?_
    cases h
    simp(config:=cS)only[go_sem]
attribute [go_sem] Tryz.ntmps52 Tryz.results52
theorem JV {d:GDesk}{ties values:List Int}{res:GDesk × (List Int) × Int}(h:uj d ties values=some res):ao Tryz.prog 52 [.agg (GDesk.encS d),.sl (ae eI ties),.sl (ae eI values)] [] (.tup [.agg [.ref 20000 1 0 res.1.show_.nodes.length,.ref 20001 1 0 res.1.show_.ties.length,.lit (.int .i64 res.1.show_.horizon),.lit (.int .i64 res.1.state.now),.ref 20002 1 0 res.1.state.times.length,.ref 20003 1 0 res.1.state.values.length,.lit (.bool res.1.lazy),.ref 20004 1 0 res.1.log.length],.ref 20005 1 0 res.2.1.length,.lit (.int .i64 res.2.2)]) [(20000,1,.row true (ae GNode.encO res.1.show_.nodes)),(20001,1,.row true (ae GTie.enc res.1.show_.ties)),(20002,1,.row true (ae eI res.1.state.times)),(20003,1,.row true (ae eI res.1.state.values)),(20004,1,.row true (ae GEntry.encO res.1.log)),(20005,1,.row true (ae eI res.2.1))]:=by
 refine ak (ra:=[.homeCell 384 0,.homeCell 384 1,.homeCell 384 4,.homeCell 384 5,.homeCell 384 7,.home 7]) (md:=mdT) hT (hi:=hi00) Tryz.func52 rfl rfl (by decide +kernel) (by simp) ?_
 unfold uj at h
 obtain ⟨r01,g1,h⟩:=ab h
 simp(config:=cS)only[go_sem]
 refine ag (zT g1) ?_
 obtain ⟨h2,h⟩|⟨h2,h⟩:=af h
 ·obtain ⟨r02,g3,h⟩:=ab h
  simp(config:=cS)only[go_sem,eqT h2]
  refine ag (yz g3) ?_
  obtain ⟨h4,h⟩|⟨h4,h⟩:=af h
  ·obtain ⟨r03,g5,h⟩:=ab h
   simp(config:=cS)only[go_sem,eZt h4]
   refine ag (yA g5) ?_
   cases h
   simp(config:=cS)only[go_sem]
  ·obtain ⟨r04,g6,h⟩:=ab h
   simp(config:=cS)only[go_sem,eZf h4]
   refine ag (qI g6) ?_
   cases h
   simp(config:=cS)only[go_sem]
 ·obtain ⟨r05,g7,h⟩:=ab h
  simp(config:=cS)only[go_sem,eqF h2]
  refine ag (qI g7) ?_
  cases h
  simp(config:=cS)only[go_sem]
attribute [go_sem] Tryz.ntmps132 Tryz.results132
theorem rr {v0 res:List GTie}(h:fD v0=some res):ao Tryz.prog 132 [.sl (ae GTie.enc v0)] [] (.ref 20000 1 0 res.length) [(20000,1,.row true (ae GTie.enc res))]:=by
 refine ak (ra:=[.home 2]) (md:=mdT) hT (hi:=hi00) Tryz.func132 rfl rfl (by decide +kernel) (by simp) ?_
 unfold fD at h
 obtain ⟨h1,h3,h2⟩|⟨h1,h3⟩:=BI h
 ·cases h3
  simp(config:=cS)only[go_sem,h1]
 ·obtain ⟨h4,h3⟩:=ah h3
  obtain ⟨h5,h3⟩:=ah h3
  cases h3
  simp(config:=cS)only[go_sem,zm h1,eqT h4,eqT h5]
attribute [go_sem] Tryz.ntmps101 Tryz.results101
theorem aW {v0 res:List Int}(h:aX v0=some res):ao Tryz.prog 101 [.sl (ae eI v0)] [] (.ref 20000 1 0 res.length) [(20000,1,.row true (ae eI res))]:=by
 refine ak (ra:=[.home 2]) (md:=mdT) hT (hi:=hi00) Tryz.func101 rfl rfl (by decide +kernel) (by simp) ?_
 unfold aX at h
 obtain ⟨h1,h3,h2⟩|⟨h1,h3⟩:=BI h
 ·cases h3
  simp(config:=cS)only[go_sem,h1]
 ·obtain ⟨h4,h3⟩:=ah h3
  obtain ⟨h5,h3⟩:=ah h3
  cases h3
  simp(config:=cS)only[go_sem,zm h1,eqT h4,eqT h5]
def jk (d:List GNode)(e c:Int)(b:List GTie):(Int × (List GNode))→St
 | (f,a)=>⟨[(2,.ptr 128 1 0 0),(3,.ptr 192 1 0 0),(13,.sl (ae GNode.encS d)),(14,.lit (.int .i64 e)),(15,.lit (.int .i64 f))],[(128,1,.var [.lit (.slice none 0 0),.lit (.slice none 0 0),.lit (.int .i64 0)]),(192,1,.var [.ref 100012288 1 0 a.length,.ref 512 1 0 b.length,.lit (.int .i64 c)]),(100012288,1,.row true (ae GNode.encO a)),(512,1,.row true (ae GTie.enc b))],2⟩
attribute [go_sem] jk
@[go_sem] def hi57_1:DT:=.i1 0 (.i1 1 (.i1 3 (.i1 4 (.fork (.i0 2 [3,4] (.i2 5 (.i0 6 [0,1,3,4] (.i2 7 .nil)))) (.i0 6 [0,1,3,4] (.i0 2 [3,4] (.i2 5 (.i2 7 .nil))))))))
def hi57:Hint where
 acts:=fun _=>[]
 draws:=fun
  | 1=>⟨hi57_1,[[],[0],[0,1],[],[3],.range 5,[],.range 7],.range 8⟩
  | _=>⟨.nil,[],[]⟩
theorem Pd (i:Nat):hi57.acts i=[]:=rfl
theorem Pe (i:Nat):hi57.views i=none:=rfl
attribute [go_sem] Pd Pe Tryz.ntmps57 Tryz.results57
@[go_sem] theorem RB:(hi57.draws 1).order=hi57_1:=rfl
theorem uc {s res:GShow}(h:fU s=some res):ao Tryz.prog 57 [.agg (GShow.encS s)] [] (.agg [.ref 20000 1 0 res.nodes.length,.ref 20001 1 0 res.ties.length,.lit (.int .i64 res.horizon)]) [(20000,1,.row true (ae GNode.encO res.nodes)),(20001,1,.row true (ae GTie.enc res.ties))]:=by
 refine ak (ra:=[.homeCell 128 0,.homeCell 128 1]) (md:=mdT) hT (hi:=hi57) Tryz.func57 rfl rfl (by decide +kernel) (by simp) ?_
 unfold fU at h
 try simp(config:=cS)only[go_sem]
 refine aT ?_ ?_
 ·obtain ⟨r01,g1,h⟩:=ab h
  simp(config:=cS)only[go_sem]
  refine ag (rr g1) ?_
  obtain ⟨q04,l2,h⟩:=ab h
  simp(config:=cS)only[go_sem]
  refine al (m1:=.mk) (m2:=.mk) [.homeCell 192 0,.nf [2,3,13,14,15] [128,192,100012288,512]] (jk s.nodes ((s.nodes.length:Nat):Int) s.horizon r01) l2 ?_ ?_
  ·simp(config:=cS)only[go_sem]
  ·intro nb3 sb3 bb3 b3 gb3
   obtain ⟨v15_1,h100012288_1⟩:=sb3
   unfold dy at b3
   try dsimp only at b3
   obtain ⟨h4,b3⟩|⟨h4,b3⟩:=af b3
   ·obtain ⟨x02,g5,b3⟩:=ab b3
    obtain ⟨h6,h7,h8⟩:=ai g5
    obtain ⟨r03,g9,b3⟩:=ab b3
    simp(config:=cS)only[go_sem,eqT h4,h6,h7,h8]
    refine ag (aW g9) ?_
    obtain ⟨h10,b3⟩:=ah b3
    obtain ⟨h11,b3⟩:=ah b3
    cases b3
    simp(config:=cS)only[go_sem,eqT h10,eqT h11]
    refine an gb3 ?_
    simp(config:=cS)only[go_sem]
   ·cases b3
    obtain rfl:=(aj gb3).symm
    try dsimp only at h
    cases h
    simp(config:=cS)only[go_sem,eqF h4]
 ·obtain ⟨r05,g13,h⟩:=ab h
  simp(config:=cS)only[go_sem]
  refine ag (rr g13) ?_
  obtain ⟨q08,l14,h⟩:=ab h
  simp(config:=cS)only[go_sem]
  refine al (m1:=.mk) (m2:=.mk) [.homeCell 192 0,.nf [2,3,13,14,15] [128,192,100012288,512]] (jk s.nodes ((s.nodes.length:Nat):Int) s.horizon r05) l14 ?_ ?_
  ·simp(config:=cS)only[go_sem]
  ·intro nb15 sb15 bb15 b15 gb15
   obtain ⟨v15_2,h100012288_2⟩:=sb15
   unfold dy at b15
   try dsimp only at b15
   obtain ⟨h16,b15⟩|⟨h16,b15⟩:=af b15
   ·obtain ⟨x06,g17,b15⟩:=ab b15
    obtain ⟨h18,h19,h20⟩:=ai g17
    obtain ⟨r07,g21,b15⟩:=ab b15
    simp(config:=cS)only[go_sem,eqT h16,h18,h19,h20]
    refine ag (aW g21) ?_
    obtain ⟨h22,b15⟩:=ah b15
    obtain ⟨h23,b15⟩:=ah b15
    cases b15
    simp(config:=cS)only[go_sem,eqT h22,eqT h23]
    refine an gb15 ?_
    simp(config:=cS)only[go_sem]
   ·cases b15
    obtain rfl:=(aj gb15).symm
    try dsimp only at h
    cases h
    simp(config:=cS)only[go_sem,eqF h16]
@[go_sem] def hi138_1:DT:=.i1 0 (.i1 1 (.i2 2 (.i2 3 (.i1 5 (.i1 6 (.i0 4 [0,1,5,6] (.i0 7 [0,1] (.i2 8 (.i2 9 .nil)))))))))
def Dl:Hint where
 acts:=fun _=>[]
 draws:=fun
  | 1=>⟨hi138_1,[[],[0],[],[2],[2,3],[],[5],[2,3,4,5,6],.range 8,.range 9],.range 10⟩
  | _=>⟨.nil,[],[]⟩
theorem MX (i:Nat):Dl.acts i=[]:=rfl
theorem MY (i:Nat):Dl.views i=none:=rfl
attribute [go_sem] MX MY Tryz.ntmps138 Tryz.results138
@[go_sem] theorem QB:(Dl.draws 1).order=hi138_1:=rfl
theorem jQ {v0 res:GState}(h:cz v0=some res):ao Tryz.prog 138 [.agg (GState.encS v0)] [] (.agg [.lit (.int .i64 res.now),.ref 20000 1 0 res.times.length,.ref 20001 1 0 res.values.length]) [(20000,1,.row true (ae eI res.times)),(20001,1,.row true (ae eI res.values))]:=by
 refine ak (ra:=[.homeCell 128 1,.homeCell 128 2]) (md:=mdT) hT (hi:=Dl) Tryz.func138 rfl rfl (by decide +kernel) (by simp) ?_
 unfold cz at h
 obtain ⟨r01,g1,h⟩:=ab h
 simp(config:=cS)only[go_sem]
 refine ag (aW g1) ?_
 obtain ⟨r02,g2,h⟩:=ab h
 simp(config:=cS)only[go_sem]
 refine ag (aW g2) ?_
 cases h
 simp(config:=cS)only[go_sem]
def oV (b:List GEntry)(c:Int):(Int × (List GEntry))→St
 | (d,a)=>⟨[(3,.ref 255 1 0 a.length),(6,.sl (ae GEntry.encS b)),(7,.lit (.int .i64 c)),(8,.lit (.int .i64 d))],[(255,1,.row true (ae GEntry.encO a))],2⟩
attribute [go_sem] oV
@[go_sem] def hi139_5:DT:=.i2 0 (.i1 1 (.i1 2 (.i2 3 (.i2 4 (.i1 6 (.i1 7 (.i1 9 (.i1 10 (.i0 5 [1,2,6,7,9,10] (.i0 8 [1,2,9,10] (.i0 11 [1,2] (.i2 12 (.i2 13 (.i2 14 (.i2 15 .nil)))))))))))))))
def Dm:Hint where
 acts:=fun _=>[]
 draws:=fun
  | 5=>⟨hi139_5,[[],[],[1],[],[3],[3,4],[],[6],[3,4,5,6,7],[],[9],[3,4,5,6,7,8,9,10],[1,2,3,4,5,6,7,8,9,10,11],[1,2,3,4,5,6,7,8,9,10,11,12],.range 14,.range 15],.range 16⟩
  | _=>⟨.nil,[],[]⟩
theorem MZ (i:Nat):Dm.acts i=[]:=rfl
theorem Na (i:Nat):Dm.views i=none:=rfl
attribute [go_sem] MZ Na Tryz.ntmps139 Tryz.results139
@[go_sem] theorem QC:(Dm.draws 5).order=hi139_5:=rfl
theorem Bb {log res:List GEntry}(h:ju log=some res):ao Tryz.prog 139 [.sl (ae GEntry.encS log)] [] (.ref 20000 1 0 res.length) [(20000,1,.row true (ae GEntry.encO res))]:=by
 refine ak (ra:=[.home 2]) (md:=mdT) hT (hi:=Dm) Tryz.func139 rfl rfl (by decide +kernel) (by simp) ?_
 unfold ju at h
 obtain ⟨q05,l1,h⟩:=ab h
 simp(config:=cS)only[go_sem]
 refine al (m1:=.mk) (m2:=.mk) [.home 3,.nf [3,6,7,8] [255]] (oV log ((log.length:Nat):Int)) l1 ?_ ?_
 ·simp(config:=cS)only[go_sem]
 ·intro nb2 sb2 bb2 b2 gb2
  obtain ⟨v8_1,out_1⟩:=sb2
  unfold gj at b2
  try dsimp only at b2
  obtain ⟨h3,b2⟩|⟨h3,b2⟩:=af b2
  ·obtain ⟨x01,g4,b2⟩:=ab b2
   obtain ⟨h5,h6,h7⟩:=ai g4
   obtain ⟨r02,g8,b2⟩:=ab b2
   simp(config:=cS)only[go_sem,eqT h3,h5,h6,h7]
   refine ag (aW g8) ?_
   obtain ⟨r03,g9,b2⟩:=ab b2
   simp(config:=cS)only[go_sem]
   refine ag (aW g9) ?_
   obtain ⟨r04,g10,b2⟩:=ab b2
   simp(config:=cS)only[go_sem]
   refine ag (aW g10) ?_
   obtain ⟨h11,b2⟩:=ah b2
   obtain ⟨h12,b2⟩:=ah b2
   cases b2
   simp(config:=cS)only[go_sem,eqT h11,eqT h12]
   refine an gb2 ?_
   simp(config:=cS)only[go_sem]
  ·cases b2
   obtain rfl:=(aj gb2).symm
   try dsimp only at h
   cases h
   simp(config:=cS)only[go_sem,eqF h3]
@[go_sem] def hi61_1:DT:=.i2 0 (.i2 1 (.i1 3 (.i1 4 (.i1 6 (.i1 7 (.i1 8 (.i1 9 (.i0 2 [3,4,6,7,8,9] (.i0 5 [6,7,8,9] (.i0 10 [6,7] (.i2 11 (.i2 12 .nil))))))))))))
def hi61:Hint where
 acts:=fun _=>[]
 draws:=fun
  | 1=>⟨hi61_1,[[],[0],[0,1],[],[3],.range 5,[],[6],[],[8],[0,1,2,3,4,5,8,9],.range 11,.range 12],.range 13⟩
  | _=>⟨.nil,[],[]⟩
theorem Pf (i:Nat):hi61.acts i=[]:=rfl
theorem Pg (i:Nat):hi61.views i=none:=rfl
attribute [go_sem] Pf Pg Tryz.ntmps61 Tryz.results61
@[go_sem] theorem RC:(hi61.draws 1).order=hi61_1:=rfl
theorem ud {d res:GDesk}(h:fV d=some res):ao Tryz.prog 61 [.agg (GDesk.encS d)] [] (.agg [.ref 20000 1 0 res.show_.nodes.length,.ref 20001 1 0 res.show_.ties.length,.lit (.int .i64 res.show_.horizon),.lit (.int .i64 res.state.now),.ref 20002 1 0 res.state.times.length,.ref 20003 1 0 res.state.values.length,.lit (.bool res.lazy),.ref 20004 1 0 res.log.length]) [(20000,1,.row true (ae GNode.encO res.show_.nodes)),(20001,1,.row true (ae GTie.enc res.show_.ties)),(20002,1,.row true (ae eI res.state.times)),(20003,1,.row true (ae eI res.state.values)),(20004,1,.row true (ae GEntry.encO res.log))]:=by
 refine ak (ra:=[.homeCell 128 0,.homeCell 128 1,.homeCell 128 4,.homeCell 128 5,.homeCell 128 7]) (md:=mdT) hT (hi:=hi61) Tryz.func61 rfl rfl (by decide +kernel) (by simp) ?_
 unfold fV at h
 obtain ⟨r01,g1,h⟩:=ab h
 simp(config:=cS)only[go_sem]
 refine ag (uc g1) ?_
 obtain ⟨r02,g2,h⟩:=ab h
 simp(config:=cS)only[go_sem]
 refine ag (jQ g2) ?_
 obtain ⟨r03,g3,h⟩:=ab h
 simp(config:=cS)only[go_sem]
 refine ag (Bb g3) ?_
 cases h
 simp(config:=cS)only[go_sem]
def qe (s:ByteArray)(i:Int):St:=⟨[(0,.lit (.string s)),(3,.lit (.int .i64 i))],[],2⟩
attribute [go_sem] qe
@[go_sem] def hi239_4:DT:=.i2 0 (.i2 1 (.i2 2 (.i2 3 (.i2 4 (.i2 5 (.i2 6 (.i2 7 (.i2 8 (.i2 9 (.i2 10 (.i2 11 (.i2 12 (.i2 13 (.i2 14 (.i2 15 (.i2 16 (.i2 17 (.i2 18 (.i2 19 (.i2 20 (.i2 21 .nil)))))))))))))))))))))
def Dn:Hint where
 acts:=fun _=>[]
 draws:=fun
  | 4=>⟨hi239_4,[[],[],[0,1],[0,1,2],[0,1,2,3],.range 5,.range 5,.range 7,.range 8,.range 9,[],[],[10,11],[10,11,12],[0,1,2,3,4,10,11,12,13],[0,1,2,3,4,10,11,12,13,14],[0,1,2,3,4,10,11,12,13,14],[0,1,2,3,4,10,11,12,13,14,15,16],[0,1,2,3,4,10,11,12,13,14,15,16,17],[0,1,2,3,4,10,11,12,13,14,15,16,17,18],.range 15,.range 21],[0,1,2,3,4,5,6,7,8,9,10,11,12,13,14,16,17,18,19,20,15,21]⟩
  | _=>⟨.nil,[],[]⟩
theorem Nb (i:Nat):Dn.acts i=[]:=rfl
theorem Nc (i:Nat):Dn.views i=none:=rfl
attribute [go_sem] Nb Nc Tryz.ntmps239 Tryz.results239
@[go_sem] theorem QD:(Dn.draws 4).order=hi239_4:=rfl
theorem Cy {s:ByteArray}{res:Bool}(h:kc s=some res):ao Tryz.prog 239 [.lit (.string s)] [] (.lit (.bool res)) []:=by
 refine ak (ra:=[]) (md:=mdT) hT (hi:=Dn) Tryz.func239 rfl rfl (by decide +kernel) (by simp) ?_
 unfold kc at h
 obtain ⟨q02,l1,h⟩:=ab h
 simp(config:=cS)only[go_sem]
 refine al (m1:=.mk) (m2:=.mk) [.nf [0,3] []] (qe s) l1 ?_ ?_
 ·simp(config:=cS)only[go_sem]
 ·intro nb2 i_1 bb2 b2 gb2
  unfold fc at b2
  try dsimp only at b2
  obtain ⟨h3,b2⟩|⟨h3,b2⟩:=af b2
  ·obtain ⟨c1001,g4,b2⟩:=ab b2
   obtain ⟨h5,h6,h7⟩:=gC g4
   obtain ⟨h8,b2⟩|⟨h8,b2⟩:=af b2
   ·obtain ⟨h9,b2⟩|⟨h9,b2⟩:=af b2
    ·obtain ⟨h10,b2⟩|⟨h10,b2⟩:=af b2
     ·cases b2
      simp(config:=cS)only[go_sem,eqT h3,h5,h6,h7,eqT h8,eqT h9,eqT h10]
      refine an gb2 ?_
      simp(config:=cS)only[go_sem]
     ·obtain ⟨h11,b2⟩|⟨h11,b2⟩:=af b2
      ·obtain ⟨h12,b2⟩|⟨h12,b2⟩:=af b2
       ·cases b2
        obtain rfl:=(aj gb2).symm
        try dsimp only at h
        cases h
        simp(config:=cS)only[go_sem,eqT h3,h5,h6,h7,eqT h8,eqT h9,eqF h10,eqT h11,eqT h12]
       ·cases b2
        simp(config:=cS)only[go_sem,eqT h3,h5,h6,h7,eqT h8,eqT h9,eqF h10,eqT h11,eqF h12]
        refine an gb2 ?_
        simp(config:=cS)only[go_sem]
      ·cases b2
       obtain rfl:=(aj gb2).symm
       try dsimp only at h
       cases h
       simp(config:=cS)only[go_sem,eqT h3,h5,h6,h7,eqT h8,eqT h9,eqF h10,eqF h11]
    ·obtain ⟨h15,b2⟩|⟨h15,b2⟩:=af b2
     ·cases b2
      simp(config:=cS)only[go_sem,eqT h3,h5,h6,h7,eqT h8,eqF h9,eqT h15]
      refine an gb2 ?_
      simp(config:=cS)only[go_sem]
     ·cases b2
      obtain rfl:=(aj gb2).symm
      try dsimp only at h
      cases h
      simp(config:=cS)only[go_sem,eqT h3,h5,h6,h7,eqT h8,eqF h9,eqF h15]
   ·obtain ⟨h17,b2⟩|⟨h17,b2⟩:=af b2
    ·obtain ⟨h18,b2⟩|⟨h18,b2⟩:=af b2
     ·obtain ⟨h19,b2⟩|⟨h19,b2⟩:=af b2
      ·cases b2
       obtain rfl:=(aj gb2).symm
       try dsimp only at h
       cases h
       simp(config:=cS)only[go_sem,eqT h3,h5,h6,h7,eqF h8,eqT h17,eqT h18,eqT h19]
      ·cases b2
       simp(config:=cS)only[go_sem,eqT h3,h5,h6,h7,eqF h8,eqT h17,eqT h18,eqF h19]
       refine an gb2 ?_
       simp(config:=cS)only[go_sem]
     ·cases b2
      obtain rfl:=(aj gb2).symm
      try dsimp only at h
      cases h
      simp(config:=cS)only[go_sem,eqT h3,h5,h6,h7,eqF h8,eqT h17,eqF h18]
    ·cases b2
     obtain rfl:=(aj gb2).symm
     try dsimp only at h
     cases h
     simp(config:=cS)only[go_sem,eqT h3,h5,h6,h7,eqF h8,eqF h17]
  ·cases b2
   obtain rfl:=(aj gb2).symm
   try dsimp only at h
   obtain ⟨h24,h⟩|⟨h24,h⟩:=af h
   ·cases h
    simp(config:=cS)only[go_sem,eqF h3,eqT h24]
   ·cases h
    simp(config:=cS)only[go_sem,eqF h3,eqF h24]
attribute [go_sem] Tryz.ntmps210 Tryz.results210
theorem iq {l res:Int}(h:cG l=some res):ao Tryz.prog 210 [.lit (.int .i64 l)] [] (.lit (.int .i64 res)) []:=by
 refine ak (ra:=[]) (md:=mdT) hT (hi:=hi00) Tryz.func210 rfl rfl (by decide +kernel) (by simp) ?_
 unfold cG at h
 cases h
 simp(config:=cS)only[go_sem]
def oW (l:List Int)(a b:Int):St:=⟨[(0,.sl (ae eI l)),(5,.sl (ae eI l)),(6,.lit (.int .i64 a)),(7,.lit (.int .i64 b))],[],2⟩
attribute [go_sem] oW
attribute [go_sem] Tryz.ntmps218 Tryz.results218
theorem jl {l:List Int}{res:Bool}(h:cH l=some res):ao Tryz.prog 218 [.sl (ae eI l)] [] (.lit (.bool res)) []:=by
 refine ak (ra:=[]) (md:=mdT) hT (hi:=hi00) Tryz.func218 rfl rfl (by decide +kernel) (by simp) ?_
 unfold cH at h
 obtain ⟨q05,l1,h⟩:=ab h
 simp(config:=cS)only[go_sem]
 refine al (m1:=.mk) (m2:=.mk) [.nf [0,5,6,7] []] (oW l ((l.length:Nat):Int)) l1 ?_ ?_
 ·simp(config:=cS)only[go_sem]
 ·intro nb2 v7_1 bb2 b2 gb2
  unfold ea at b2
  try dsimp only at b2
  obtain ⟨h3,b2⟩|⟨h3,b2⟩:=af b2
  ·obtain ⟨x01,g4,b2⟩:=ab b2
   obtain ⟨h5,h6,h7⟩:=ai g4
   obtain ⟨h8,b2⟩|⟨h8,b2⟩:=af b2
   ·cases b2
    obtain rfl:=(aj gb2).symm
    try dsimp only at h
    cases h
    simp(config:=cS)only[go_sem,eqT h3,h5,h6,h7,eqT h8]
   ·obtain ⟨h10,b2⟩|⟨h10,b2⟩:=af b2
    ·cases b2
     obtain rfl:=(aj gb2).symm
     try dsimp only at h
     cases h
     simp(config:=cS)only[go_sem,eqT h3,h5,h6,h7,eqF h8,eqT h10]
    ·obtain ⟨h12,b2⟩|⟨h12,b2⟩:=af b2
     ·cases b2
      obtain rfl:=(aj gb2).symm
      try dsimp only at h
      cases h
      simp(config:=cS)only[go_sem,eqT h3,h5,h6,h7,eqF h8,eqF h10,eqT h12]
     ·obtain ⟨h14,b2⟩|⟨h14,b2⟩:=af b2
      ·obtain ⟨x02,g15,b2⟩:=ab b2
       obtain ⟨h16,h17,h18⟩:=ai g15
       obtain ⟨r03,g19,b2⟩:=ab b2
       simp(config:=cS)only[go_sem,eqT h3,h5,h6,h7,eqF h8,eqF h10,eqF h12,eqT h14,h16,h17,h18]
       refine ag (iq g19) ?_
       obtain ⟨r04,g20,b2⟩:=ab b2
       simp(config:=cS)only[go_sem]
       refine ag (iq g20) ?_
       obtain ⟨h21,b2⟩|⟨h21,b2⟩:=af b2
       ·cases b2
        obtain rfl:=(aj gb2).symm
        try dsimp only at h
        cases h
        simp(config:=cS)only[go_sem,eqT h21]
       ·cases b2
        simp(config:=cS)only[go_sem,eqF h21]
        refine an gb2 ?_
        simp(config:=cS)only[go_sem]
      ·cases b2
       simp(config:=cS)only[go_sem,eqT h3,h5,h6,h7,eqF h8,eqF h10,eqF h12,eqF h14]
       refine an gb2 ?_
       simp(config:=cS)only[go_sem]
  ·cases b2
   obtain rfl:=(aj gb2).symm
   try dsimp only at h
   cases h
   simp(config:=cS)only[go_sem,eqF h3]
attribute [go_sem] Tryz.ntmps205 Tryz.results205
theorem Cz {n:GNode}{res:Bool}(h:kd n=some res):ao Tryz.prog 205 [.agg (GNode.encS n)] [] (.lit (.bool res)) []:=by
 refine ak (ra:=[]) (md:=mdT) hT (hi:=hi00) Tryz.func205 rfl rfl (by decide +kernel) (by simp) ?_
 unfold kd at h
 obtain ⟨r01,g1,h⟩:=ab h
 simp(config:=cS)only[go_sem]
 refine ag (Cy g1) ?_
 obtain ⟨h2,h⟩|⟨h2,h⟩:=af h
 ·obtain ⟨r02,g3,h⟩:=ab h
  simp(config:=cS)only[go_sem,eZt h2]
  refine ag (jl g3) ?_
  obtain ⟨h4,h⟩|⟨h4,h⟩:=af h
  ·obtain ⟨h5,h⟩|⟨h5,h⟩:=af h
   ·cases h
    simp(config:=cS)only[go_sem,eZt h2,eZt h4,eqT h5]
   ·cases h
    simp(config:=cS)only[go_sem,eZt h2,eZt h4,eqF h5]
  ·cases h
   simp(config:=cS)only[go_sem,eZt h2,eZf h4]
 ·cases h
  simp(config:=cS)only[go_sem,eZf h2]
def nO (a:List GNode)(b c:Int)(d:List GNode)(e:Int)(f:List GTie)(g:Int)(h:ByteArray)(i:List Int)(j k:Int):St:=⟨[(1,.ptr 64 1 0 0),(4,.ptr 256 1 0 0),(35,.sl (ae GNode.encS a)),(36,.lit (.int .i64 b)),(37,.lit (.int .i64 c)),(48,.sl (ae GNode.encS d)),(49,.lit (.int .i64 e)),(50,.lit (.int .i64 k))],[(64,1,.var [.sl (ae GNode.encS a),.sl (ae GTie.enc f),.lit (.int .i64 g)]),(256,1,.var [.lit (.string h),.sl (ae eI i),.lit (.int .i64 j)])],2⟩
attribute [go_sem] nO
def nP (a:List GNode)(b:Int)(c:List GTie)(d e:Int):St:=⟨[(1,.ptr 64 1 0 0),(35,.sl (ae GNode.encS a)),(36,.lit (.int .i64 b)),(37,.lit (.int .i64 e))],[(64,1,.var [.sl (ae GNode.encS a),.sl (ae GTie.enc c),.lit (.int .i64 d)])],2⟩
attribute [go_sem] nP
attribute [go_sem] Tryz.ntmps127 Tryz.results127
theorem zY {s:GShow}{res:Bool}(h:iE s=some res):ao Tryz.prog 127 [.agg (GShow.encS s)] [] (.lit (.bool res)) []:=by
 refine ak (ra:=[]) (md:=mdT) hT (hi:=hi00) Tryz.func127 rfl rfl (by decide +kernel) (by simp) ?_
 unfold iE at h
 obtain ⟨h1,h⟩|⟨h1,h⟩:=af h
 ·cases h
  simp(config:=cS)only[go_sem,eqT h1]
 ·obtain ⟨h2,h⟩|⟨h2,h⟩:=af h
  ·cases h
   simp(config:=cS)only[go_sem,eqF h1,eqT h2]
  ·obtain ⟨x01,g3,h⟩:=ab h
   obtain ⟨h5,h6⟩:=cR (k:=0) g3
   obtain ⟨h7,h⟩|⟨h7,h⟩:=af h
   ·cases h
    simp(config:=cS)only[go_sem,eqF h1,eqF h2,h5,h6,eqT h7]
   ·obtain ⟨h8,h⟩|⟨h8,h⟩:=af h
    ·obtain ⟨q06,l9,h⟩:=ab h
     simp(config:=cS)only[go_sem,eqF h1,eqF h2,h5,h6,eqF h7,eqT h8]
     refine al (m1:=.mk) (m2:=.mk) [.nf [1,35,36,37] [64]] (nP s.nodes ((s.nodes.length:Nat):Int) s.ties s.horizon) l9 ?_ ?_
     ·simp(config:=cS)only[go_sem]
     ·intro nb10 v37_1 bb10 b10 gb10
      unfold dv at b10
      try dsimp only at b10
      obtain ⟨h11,b10⟩|⟨h11,b10⟩:=af b10
      ·obtain ⟨x02,g12,b10⟩:=ab b10
       obtain ⟨h13,h14,h15⟩:=ai g12
       obtain ⟨r03,g16,b10⟩:=ab b10
       simp(config:=cS)only[go_sem,eqT h11,h13,h14,h15]
       refine ag (Cz g16) ?_
       obtain ⟨h17,b10⟩|⟨h17,b10⟩:=af b10
       ·obtain ⟨h18,b10⟩:=ah b10
        obtain ⟨h19,b10⟩:=ah b10
        obtain ⟨q05,l20,b10⟩:=ab b10
        simp(config:=cS)only[go_sem,eZt h17,eqT h18,eqT h19]
        refine al (m1:=.mk) (m2:=.mk) [.nf [1,4,35,36,37,48,49,50] [64,256]] (nO s.nodes ((s.nodes.length:Nat):Int) v37_1 (s.nodes.take v37_1.toNat) (((s.nodes.take v37_1.toNat).length:Nat):Int) s.ties s.horizon x02.name x02.label x02.watch) l20 ?_ ?_
        ·simp(config:=cS)only[go_sem]
        ·intro nb21 v50_2 bb21 b21 gb21
         unfold du at b21
         try dsimp only at b21
         obtain ⟨h22,b21⟩|⟨h22,b21⟩:=af b21
         ·obtain ⟨x04,g23,b21⟩:=ab b21
          obtain ⟨h24,h25,h26⟩:=ai g23
          obtain ⟨h27,b21⟩|⟨h27,b21⟩:=af b21
          ·cases b21
           obtain rfl:=(aj gb21).symm
           try dsimp only at b10
           cases b10
           obtain rfl:=(aj gb10).symm
           try dsimp only at h
           cases h
           simp(config:=cS)only[go_sem,eqT h22,h24,h25,h26,eqT h27]
          ·obtain ⟨h30,b21⟩|⟨h30,b21⟩:=af b21
           ·cases b21
            simp(config:=cS)only[go_sem,eqT h22,h24,h25,h26,eqF h27,eqT h30]
            refine an gb21 ?_
            simp(config:=cS)only[go_sem]
           ·obtain ⟨h31,b21⟩|⟨h31,b21⟩:=af b21
            ·cases b21
             obtain rfl:=(aj gb21).symm
             try dsimp only at b10
             cases b10
             obtain rfl:=(aj gb10).symm
             try dsimp only at h
             cases h
             simp(config:=cS)only[go_sem,eqT h22,h24,h25,h26,eqF h27,eqF h30,eqT h31]
            ·cases b21
             simp(config:=cS)only[go_sem,eqT h22,h24,h25,h26,eqF h27,eqF h30,eqF h31]
             refine an gb21 ?_
             simp(config:=cS)only[go_sem]
         ·cases b21
          obtain rfl:=(aj gb21).symm
          try dsimp only at b10
          cases b10
          simp(config:=cS)only[go_sem,eqF h22]
          refine an gb10 ?_
          simp(config:=cS)only[go_sem]
       ·cases b10
        obtain rfl:=(aj gb10).symm
        try dsimp only at h
        cases h
        simp(config:=cS)only[go_sem,eZf h17]
      ·cases b10
       obtain rfl:=(aj gb10).symm
       try dsimp only at h
       cases h
       simp(config:=cS)only[go_sem,eqF h11]
    ·cases h
     simp(config:=cS)only[go_sem,eqF h1,eqF h2,h5,h6,eqF h7,eqF h8]
attribute [go_sem] Tryz.ntmps206 Tryz.results206
theorem vV {n node:Int}{res:Bool}(h:iw n node=some res):ao Tryz.prog 206 [.lit (.int .i64 n),.lit (.int .i64 node)] [] (.lit (.bool res)) []:=by
 refine ak (ra:=[]) (md:=mdT) hT (hi:=hi00) Tryz.func206 rfl rfl (by decide +kernel) (by simp) ?_
 unfold iw at h
 obtain ⟨h1,h⟩|⟨h1,h⟩:=af h
 ·cases h
  simp(config:=cS)only[go_sem,eqT h1]
 ·cases h
  simp(config:=cS)only[go_sem,eqF h1]
attribute [go_sem] Tryz.ntmps207 Tryz.results207
theorem vW {n:Int}{res:Bool}(h:ix n=some res):ao Tryz.prog 207 [.lit (.int .i64 n)] [] (.lit (.bool res)) []:=by
 refine ak (ra:=[]) (md:=mdT) hT (hi:=hi00) Tryz.func207 rfl rfl (by decide +kernel) (by simp) ?_
 unfold ix at h
 obtain ⟨h1,h⟩|⟨h1,h⟩:=af h
 ·cases h
  simp(config:=cS)only[go_sem,eqT h1]
 ·cases h
  simp(config:=cS)only[go_sem,eqF h1]
def kR (c d:List Int)(a b:Int):St:=⟨[(0,.sl (ae eI c)),(1,.sl (ae eI d)),(12,.lit (.int .i64 a)),(13,.lit (.int .i64 b))],[],2⟩
attribute [go_sem] kR
@[go_sem] def hi148_6:DT:=.i2 0 (.i2 1 (.i2 2 (.i2 3 (.i2 4 (.i2 5 (.i2 6 (.i2 7 (.i2 8 .nil))))))))
def Do:Hint where
 acts:=fun _=>[]
 draws:=fun
  | 6=>⟨hi148_6,[[],[],[0,1],[0,1,2],[],[],[4,5],[4,5,6],.range 8],.range 9⟩
  | _=>⟨.nil,[],[]⟩
theorem Nd (i:Nat):Do.acts i=[]:=rfl
theorem Nf (i:Nat):Do.views i=none:=rfl
attribute [go_sem] Nd Nf Tryz.ntmps148 Tryz.results148
@[go_sem] theorem QE:(Do.draws 6).order=hi148_6:=rfl
theorem fB {v0 v1:List Int}{res:Bool}(h:bG v0 v1=some res):ao Tryz.prog 148 [.sl (ae eI v0),.sl (ae eI v1)] [] (.lit (.bool res)) []:=by
 refine ak (ra:=[]) (md:=mdT) hT (hi:=Do) Tryz.func148 rfl rfl (by decide +kernel) (by simp) ?_
 unfold bG at h
 obtain ⟨h1,h⟩|⟨h1,h⟩:=af h
 ·obtain ⟨q03,l2,h⟩:=ab h
  simp(config:=cS)only[go_sem,eqT h1]
  refine al (m1:=.mk) (m2:=.mk) [.nf [0,1,12,13] []] (kR v0 v1 ((v0.length:Nat):Int)) l2 ?_ ?_
  ·simp(config:=cS)only[go_sem]
  ·intro nb3 v13_1 bb3 b3 gb3
   unfold cq at b3
   try dsimp only at b3
   obtain ⟨h4,b3⟩|⟨h4,b3⟩:=af b3
   ·obtain ⟨x01,g5,b3⟩:=ab b3
    obtain ⟨h6,h7,h8⟩:=ai g5
    obtain ⟨x02,g9,b3⟩:=ab b3
    obtain ⟨h10,h11,h12⟩:=ai g9
    obtain ⟨h13,b3⟩|⟨h13,b3⟩:=af b3
    ·cases b3
     simp(config:=cS)only[go_sem,eqT h4,h6,h7,h8,h10,h11,h12,eqT h13]
     refine an gb3 ?_
     simp(config:=cS)only[go_sem]
    ·cases b3
     obtain rfl:=(aj gb3).symm
     try dsimp only at h
     cases h
     simp(config:=cS)only[go_sem,eqT h4,h6,h7,h8,h10,h11,h12,eqF h13]
   ·cases b3
    obtain rfl:=(aj gb3).symm
    try dsimp only at h
    cases h
    simp(config:=cS)only[go_sem,eqF h4]
 ·cases h
  simp(config:=cS)only[go_sem,eqF h1]
def jm (c:List GTie)(a:Nat)(b:List AV)(d e:Int):St:=⟨[(0,.sl (ae GTie.enc c)),(1,.fn a b),(7,.lit (.int .i64 d)),(8,.lit (.int .i64 e))],[],2⟩
attribute [go_sem] jm
attribute [go_sem] Tryz.ntmps225 Tryz.results225
theorem mq {v0:List GTie}{v1:GTie→Option Bool}{f_v1:Nat}{k_v1:List AV}(hp_v1:∀ y0 r,v1 y0=some r→ao Tryz.prog f_v1 ([.agg (GTie.enc y0)]++k_v1) [] (.lit (.bool r)) [])(hc_v1:KC k_v1)(hm_v1:∀ a,mdT f_v1 a=⟨[],false⟩)(hk_v1:spf f_v1=false){res:Int}(h:ce v0 v1=some res):ao Tryz.prog 225 [.sl (ae GTie.enc v0),.fn f_v1 k_v1] [] (.lit (.int .i64 res)) []:=by
 refine ak (ra:=[]) (md:=mdT) hT (hi:=hi00) Tryz.func225 rfl rfl (by decide +kernel) (by simp) ?_
 unfold ce at h
 obtain ⟨q03,l1,h⟩:=ab h
 simp(config:=cS)only[go_sem,hc_v1.1,hc_v1.2,hm_v1,hk_v1]
 refine al (m1:=.mk) (m2:=.mk) [.nf [0,1,7,8] []] (jm v0 f_v1 k_v1 ((v0.length:Nat):Int)) l1 ?_ ?_
 ·simp(config:=cS)only[go_sem,hc_v1.1,hc_v1.2,hm_v1,hk_v1]
 ·intro nb2 v8_1 bb2 b2 gb2
  unfold bJ at b2
  try dsimp only at b2
  obtain ⟨h3,b2⟩|⟨h3,b2⟩:=af b2
  ·obtain ⟨x01,g4,b2⟩:=ab b2
   obtain ⟨h5,h6,h7⟩:=ai g4
   obtain ⟨r02,g8,b2⟩:=ab b2
   simp(config:=cS)only[go_sem,hc_v1.1,hc_v1.2,hm_v1,hk_v1,eqT h3,h5,h6,h7]
   refine ag (hp_v1 _ _ g8) ?_
   obtain ⟨h9,b2⟩|⟨h9,b2⟩:=af b2
   ·cases b2
    obtain rfl:=(aj gb2).symm
    try dsimp only at h
    cases h
    simp(config:=cS)only[go_sem,hc_v1.1,hc_v1.2,hm_v1,hk_v1,eqT h3,h5,h6,h7,eZt h9]
   ·cases b2
    simp(config:=cS)only[go_sem,hc_v1.1,hc_v1.2,hm_v1,hk_v1,eqT h3,h5,h6,h7,eZf h9]
    refine an gb2 ?_
    simp(config:=cS)only[go_sem,hc_v1.1,hc_v1.2,hm_v1,hk_v1,eqT h3,h5,h6,h7,eZf h9]
  ·cases b2
   obtain rfl:=(aj gb2).symm
   try dsimp only at h
   cases h
   simp(config:=cS)only[go_sem,hc_v1.1,hc_v1.2,hm_v1,hk_v1,eqF h3]
attribute [go_sem] Tryz.ntmps155 Tryz.results155
theorem kB {v0:List GTie}{v1:GTie→Option Bool}{f_v1:Nat}{k_v1:List AV}(hp_v1:∀ y0 r,v1 y0=some r→ao Tryz.prog f_v1 ([.agg (GTie.enc y0)]++k_v1) [] (.lit (.bool r)) [])(hc_v1:KC k_v1)(hm_v1:∀ a,mdT f_v1 a=⟨[],false⟩)(hk_v1:spf f_v1=false){res:Bool}(h:br v0 v1=some res):ao Tryz.prog 155 [.sl (ae GTie.enc v0),.fn f_v1 k_v1] [] (.lit (.bool res)) []:=by
 refine ak (ra:=[]) (md:=mdT) hT (hi:=hi00) Tryz.func155 rfl rfl (by decide +kernel) (by simp) ?_
 unfold br at h
 obtain ⟨r01,g1,h⟩:=ab h
 simp(config:=cS)only[go_sem,hc_v1.1,hc_v1.2,hm_v1,hk_v1]
 refine ag (mq hp_v1 hc_v1 hm_v1 hk_v1 g1) ?_
 cases h
 simp(config:=cS)only[go_sem]
attribute [go_sem] Tryz.ntmps208 Tryz.results208
theorem xE {u t:GTie}{res:Bool}(h:gh u t=some res):ao Tryz.prog 208 [.agg (GTie.enc u),.loc [.lit (.int .i64 t.from_),.lit (.int .i64 t.to),.lit (.int .i64 t.low),.lit (.int .i64 t.high),.lit (.bool t.free)]] [] (.lit (.bool res)) []:=by
 refine ak (ra:=[]) (md:=mdT) hT (hi:=hi00) Tryz.func208 rfl rfl (by decide +kernel) (by simp) ?_
 unfold gh at h
 obtain ⟨h1,h⟩|⟨h1,h⟩:=af h
 ·cases h
  simp(config:=cS)only[go_sem,eZt h1]
 ·cases h
  simp(config:=cS)only[go_sem,eZf h1]
def oX (a:List GTie)(d:Int)(b:List GNode)(c e:Int):St:=⟨[(1,.ptr 64 1 0 0),(6,.sl (ae GTie.enc a)),(7,.lit (.int .i64 d)),(8,.lit (.int .i64 e))],[(64,1,.var [.sl (ae GNode.encS b),.sl (ae GTie.enc a),.lit (.int .i64 c)])],2⟩
attribute [go_sem] oX
@[go_sem] def hi128_7:DT:=.i2 0 (.i2 1 (.i2 2 (.i2 3 (.i2 4 (.i2 5 (.i2 6 (.i2 7 (.i2 8 (.i2 9 (.i2 10 (.i2 11 (.i2 12 (.i2 13 (.i2 14 (.i2 15 (.i2 16 (.i2 17 (.i2 18 (.i2 19 (.i2 20 (.i2 21 (.i2 22 (.i2 23 (.i2 24 (.i2 25 (.i2 26 (.i2 27 (.i2 28 (.i2 29 (.i2 30 (.i2 31 (.i2 32 (.i2 33 (.i2 34 (.i2 35 .nil)))))))))))))))))))))))))))))))))))
def Dp:Hint where
 acts:=fun _=>[]
 draws:=fun
  | 7=>⟨hi128_7,[[],[0],[0,1],[0,1,2],[0,1,2,3],.range 5,.range 6,.range 7,.range 8,.range 9,.range 10,.range 9,[0,1,2,3,4,5,6,7,8,11],.range 13,.range 14,.range 15,.range 16,.range 17,.range 18,.range 19,.range 20,.range 19,[0,1,2,3,4,5,6,7,8,9,10,11,12,13,14,15,16,17,18,21],.range 23,.range 24,.range 25,.range 19,[0,1,2,3,4,5,6,7,8,9,10,11,12,13,14,15,16,17,18,26],.range 19,[0,1,2,3,4,5,6,7,8,9,10,11,12,13,14,15,16,17,18,28],[0,1,2,3,4,5,6,7,8,9,10,11,12,13,14,15,16,17,18,26,27,28,29],[0,1,2,3,4,5,6,7,8,9,10,11,12,13,14,15,16,17,18,26,27,28,29,30],[0,1,2,3,4,5,6,7,8,9,10,11,12,13,14,15,16,17,18,26,27,28,29,30,31],.range 33,.range 34,.range 35],.range 36⟩
  | _=>⟨.nil,[],[]⟩
theorem Ng (i:Nat):Dp.acts i=[]:=rfl
theorem Nh (i:Nat):Dp.views i=none:=rfl
attribute [go_sem] Ng Nh Tryz.ntmps128 Tryz.results128
@[go_sem] theorem QF:(Dp.draws 7).order=hi128_7:=rfl
theorem Bc {s:GShow}{res:Bool}(h:js s=some res):ao Tryz.prog 128 [.agg (GShow.encS s)] [] (.lit (.bool res)) []:=by
 refine ak (ra:=[]) (md:=mdT) hT (hi:=Dp) Tryz.func128 rfl rfl (by decide +kernel) (by simp) ?_
 unfold js at h
 obtain ⟨q10,l1,h⟩:=ab h
 simp(config:=cS)only[go_sem]
 refine al (m1:=.mk) (m2:=.mk) [.nf [1,6,7,8] [64]] (oX s.ties ((s.ties.length:Nat):Int) s.nodes s.horizon) l1 ?_ ?_
 ·simp(config:=cS)only[go_sem]
 ·intro nb2 v8_1 bb2 b2 gb2
  unfold eb at b2
  try dsimp only at b2
  obtain ⟨h3,b2⟩|⟨h3,b2⟩:=af b2
  ·obtain ⟨x01,g4,b2⟩:=ab b2
   obtain ⟨h5,h6,h7⟩:=ai g4
   obtain ⟨r02,g8,b2⟩:=ab b2
   simp(config:=cS)only[go_sem,eqT h3,h5,h6,h7]
   refine ag (vV g8) ?_
   obtain ⟨h9,b2⟩|⟨h9,b2⟩:=af b2
   ·obtain ⟨r03,g10,b2⟩:=ab b2
    simp(config:=cS)only[go_sem,eqT h3,h5,h6,h7,eZt h9]
    refine ag (vV g10) ?_
    obtain ⟨h11,b2⟩|⟨h11,b2⟩:=af b2
    ·obtain ⟨h12,b2⟩|⟨h12,b2⟩:=af b2
     ·cases b2
      obtain rfl:=(aj gb2).symm
      try dsimp only at h
      cases h
      simp(config:=cS)only[go_sem,eqT h3,h5,h6,h7,eZt h9,eZt h11,eqT h12]
     ·obtain ⟨r04,g14,b2⟩:=ab b2
      simp(config:=cS)only[go_sem,eqT h3,h5,h6,h7,eZt h9,eZt h11,eqF h12]
      refine ag (vW g14) ?_
      obtain ⟨h15,b2⟩|⟨h15,b2⟩:=af b2
      ·obtain ⟨r05,g16,b2⟩:=ab b2
       simp(config:=cS)only[go_sem,eqT h3,h5,h6,h7,eZt h9,eZt h11,eqF h12,eZt h15]
       refine ag (vW g16) ?_
       obtain ⟨h17,b2⟩|⟨h17,b2⟩:=af b2
       ·obtain ⟨h18,b2⟩|⟨h18,b2⟩:=af b2
        ·cases b2
         obtain rfl:=(aj gb2).symm
         try dsimp only at h
         cases h
         simp(config:=cS)only[go_sem,eqT h3,h5,h6,h7,eZt h9,eZt h11,eqF h12,eZt h15,eZt h17,eqT h18]
        ·obtain ⟨h20,b2⟩|⟨h20,b2⟩:=af b2
         ·obtain ⟨h21,b2⟩|⟨h21,b2⟩:=af b2
          ·cases b2
           obtain rfl:=(aj gb2).symm
           try dsimp only at h
           cases h
           simp(config:=cS)only[go_sem,eqT h3,h5,h6,h7,eZt h9,eZt h11,eqF h12,eZt h15,eZt h17,eqF h18,eZt h20,eqT h21]
          ·obtain ⟨h23,b2⟩|⟨h23,b2⟩:=af b2
           ·cases b2
            obtain rfl:=(aj gb2).symm
            try dsimp only at h
            cases h
            simp(config:=cS)only[go_sem,eqT h3,h5,h6,h7,eZt h9,eZt h11,eqF h12,eZt h15,eZt h17,eqF h18,eZt h20,eqF h21,eqT h23]
           ·obtain ⟨x06,g25,b2⟩:=ab b2
            obtain ⟨h26,h27,h28⟩:=ai g25
            obtain ⟨h29,b2⟩|⟨h29,b2⟩:=af b2
            ·obtain ⟨x07,g30,b2⟩:=ab b2
             obtain ⟨h31,h32,h33⟩:=ai g30
             obtain ⟨r08,g34,b2⟩:=ab b2
             simp(config:=cS)only[go_sem,eqT h3,h5,h6,h7,eZt h9,eZt h11,eqF h12,eZt h15,eZt h17,eqF h18,eZt h20,eqF h21,eqF h23,h26,h27,h28,eqT h29,h31,h32,h33]
             refine ag (fB g34) ?_
             obtain ⟨h35,b2⟩|⟨h35,b2⟩:=af b2
             ·obtain ⟨h36,b2⟩:=ah b2
              obtain ⟨h37,b2⟩:=ah b2
              obtain ⟨r09,g38,b2⟩:=ab b2
              simp(config:=cS)only[go_sem,eqT h3,h5,h6,h7,eZt h9,eZt h11,eqF h12,eZt h15,eZt h17,eqF h18,eZt h20,eqF h21,eqF h23,h26,h27,h28,eqT h29,h31,h32,h33,eZt h35,eqT h36,eqT h37]
              refine ag (kB (by exact fun _ _ hr=>xE hr) (by refine ⟨fun _=>?_,fun _=>?_⟩ <;> simp only [go_sem]) (fun _=>rfl) rfl g38) ?_
              obtain ⟨h39,b2⟩|⟨h39,b2⟩:=af b2
              ·cases b2
               obtain rfl:=(aj gb2).symm
               try dsimp only at h
               cases h
               simp(config:=cS)only[go_sem,eqT h3,h5,h6,h7,eZt h9,eZt h11,eqF h12,eZt h15,eZt h17,eqF h18,eZt h20,eqF h21,eqF h23,h26,h27,h28,eqT h29,h31,h32,h33,eZt h35,eqT h36,eqT h37,eZt h39]
              ·cases b2
               simp(config:=cS)only[go_sem,eqT h3,h5,h6,h7,eZt h9,eZt h11,eqF h12,eZt h15,eZt h17,eqF h18,eZt h20,eqF h21,eqF h23,h26,h27,h28,eqT h29,h31,h32,h33,eZt h35,eqT h36,eqT h37,eZf h39]
               refine an gb2 ?_
               simp(config:=cS)only[go_sem,eqT h3,h5,h6,h7,eZt h9,eZt h11,eqF h12,eZt h15,eZt h17,eqF h18,eZt h20,eqF h21,eqF h23,h26,h27,h28,eqT h29,h31,h32,h33,eZt h35,eqT h36,eqT h37,eZf h39]
             ·cases b2
              obtain rfl:=(aj gb2).symm
              try dsimp only at h
              cases h
              simp(config:=cS)only[go_sem,eqT h3,h5,h6,h7,eZt h9,eZt h11,eqF h12,eZt h15,eZt h17,eqF h18,eZt h20,eqF h21,eqF h23,h26,h27,h28,eqT h29,h31,h32,h33,eZf h35]
            ·cases b2
             obtain rfl:=(aj gb2).symm
             try dsimp only at h
             cases h
             simp(config:=cS)only[go_sem,eqT h3,h5,h6,h7,eZt h9,eZt h11,eqF h12,eZt h15,eZt h17,eqF h18,eZt h20,eqF h21,eqF h23,h26,h27,h28,eqF h29]
         ·cases b2
          simp(config:=cS)only[go_sem,eqT h3,h5,h6,h7,eZt h9,eZt h11,eqF h12,eZt h15,eZt h17,eqF h18,eZf h20]
          refine an gb2 ?_
          simp(config:=cS)only[go_sem,eqT h3,h5,h6,h7,eZt h9,eZt h11,eqF h12,eZt h15,eZt h17,eqF h18,eZf h20]
       ·cases b2
        obtain rfl:=(aj gb2).symm
        try dsimp only at h
        cases h
        simp(config:=cS)only[go_sem,eqT h3,h5,h6,h7,eZt h9,eZt h11,eqF h12,eZt h15,eZf h17]
      ·cases b2
       obtain rfl:=(aj gb2).symm
       try dsimp only at h
       cases h
       simp(config:=cS)only[go_sem,eqT h3,h5,h6,h7,eZt h9,eZt h11,eqF h12,eZf h15]
    ·cases b2
     obtain rfl:=(aj gb2).symm
     try dsimp only at h
     cases h
     simp(config:=cS)only[go_sem,eqT h3,h5,h6,h7,eZt h9,eZf h11]
   ·cases b2
    obtain rfl:=(aj gb2).symm
    try dsimp only at h
    cases h
    simp(config:=cS)only[go_sem,eqT h3,h5,h6,h7,eZf h9]
  ·cases b2
   obtain rfl:=(aj gb2).symm
   try dsimp only at h
   cases h
   simp(config:=cS)only[go_sem,eqF h3]
def jn (c:List Int)(a:Nat)(b:List AV)(d e:Int):St:=⟨[(0,.sl (ae eI c)),(1,.fn a b),(7,.lit (.int .i64 d)),(8,.lit (.int .i64 e))],[],2⟩
attribute [go_sem] jn
attribute [go_sem] Tryz.ntmps209 Tryz.results209
theorem mr {v0:List Int}{v1:Int→Option Bool}{f_v1:Nat}{k_v1:List AV}(hp_v1:∀ y0 r,v1 y0=some r→ao Tryz.prog f_v1 ([.lit (.int .i64 y0)]++k_v1) [] (.lit (.bool r)) [])(hc_v1:KC k_v1)(hm_v1:∀ a,mdT f_v1 a=⟨[],false⟩)(hk_v1:spf f_v1=false){res:Int}(h:cf v0 v1=some res):ao Tryz.prog 209 [.sl (ae eI v0),.fn f_v1 k_v1] [] (.lit (.int .i64 res)) []:=by
 refine ak (ra:=[]) (md:=mdT) hT (hi:=hi00) Tryz.func209 rfl rfl (by decide +kernel) (by simp) ?_
 unfold cf at h
 obtain ⟨q03,l1,h⟩:=ab h
 simp(config:=cS)only[go_sem,hc_v1.1,hc_v1.2,hm_v1,hk_v1]
 refine al (m1:=.mk) (m2:=.mk) [.nf [0,1,7,8] []] (jn v0 f_v1 k_v1 ((v0.length:Nat):Int)) l1 ?_ ?_
 ·simp(config:=cS)only[go_sem,hc_v1.1,hc_v1.2,hm_v1,hk_v1]
 ·intro nb2 v8_1 bb2 b2 gb2
  unfold bK at b2
  try dsimp only at b2
  obtain ⟨h3,b2⟩|⟨h3,b2⟩:=af b2
  ·obtain ⟨x01,g4,b2⟩:=ab b2
   obtain ⟨h5,h6,h7⟩:=ai g4
   obtain ⟨r02,g8,b2⟩:=ab b2
   simp(config:=cS)only[go_sem,hc_v1.1,hc_v1.2,hm_v1,hk_v1,eqT h3,h5,h6,h7]
   refine ag (hp_v1 _ _ g8) ?_
   obtain ⟨h9,b2⟩|⟨h9,b2⟩:=af b2
   ·cases b2
    obtain rfl:=(aj gb2).symm
    try dsimp only at h
    cases h
    simp(config:=cS)only[go_sem,hc_v1.1,hc_v1.2,hm_v1,hk_v1,eqT h3,h5,h6,h7,eZt h9]
   ·cases b2
    simp(config:=cS)only[go_sem,hc_v1.1,hc_v1.2,hm_v1,hk_v1,eqT h3,h5,h6,h7,eZf h9]
    refine an gb2 ?_
    simp(config:=cS)only[go_sem,hc_v1.1,hc_v1.2,hm_v1,hk_v1,eqT h3,h5,h6,h7,eZf h9]
  ·cases b2
   obtain rfl:=(aj gb2).symm
   try dsimp only at h
   cases h
   simp(config:=cS)only[go_sem,hc_v1.1,hc_v1.2,hm_v1,hk_v1,eqF h3]
attribute [go_sem] Tryz.ntmps129 Tryz.results129
theorem dK {v0:List Int}{v1:Int→Option Bool}{f_v1:Nat}{k_v1:List AV}(hp_v1:∀ y0 r,v1 y0=some r→ao Tryz.prog f_v1 ([.lit (.int .i64 y0)]++k_v1) [] (.lit (.bool r)) [])(hc_v1:KC k_v1)(hm_v1:∀ a,mdT f_v1 a=⟨[],false⟩)(hk_v1:spf f_v1=false){res:Bool}(h:aZ v0 v1=some res):ao Tryz.prog 129 [.sl (ae eI v0),.fn f_v1 k_v1] [] (.lit (.bool res)) []:=by
 refine ak (ra:=[]) (md:=mdT) hT (hi:=hi00) Tryz.func129 rfl rfl (by decide +kernel) (by simp) ?_
 unfold aZ at h
 obtain ⟨r01,g1,h⟩:=ab h
 simp(config:=cS)only[go_sem,hc_v1.1,hc_v1.2,hm_v1,hk_v1]
 refine ag (mr hp_v1 hc_v1 hm_v1 hk_v1 g1) ?_
 cases h
 simp(config:=cS)only[go_sem]
def iS (c:List GNode)(a:Nat)(b:List AV)(d e:Int):St:=⟨[(0,.sl (ae GNode.encS c)),(1,.fn a b),(7,.lit (.int .i64 d)),(8,.lit (.int .i64 e))],[],2⟩
attribute [go_sem] iS
attribute [go_sem] Tryz.ntmps215 Tryz.results215
theorem tM {v0:List GNode}{v1:GNode→Option Bool}{f_v1:Nat}{k_v1:List AV}(hp_v1:∀ y0 r,v1 y0=some r→ao Tryz.prog f_v1 ([.agg (GNode.encS y0)]++k_v1) [] (.lit (.bool r)) [])(hc_v1:KC k_v1)(hm_v1:∀ a,mdT f_v1 a=⟨[],false⟩)(hk_v1:spf f_v1=false){res:Int}(h:cO v0 v1=some res):ao Tryz.prog 215 [.sl (ae GNode.encS v0),.fn f_v1 k_v1] [] (.lit (.int .i64 res)) []:=by
 refine ak (ra:=[]) (md:=mdT) hT (hi:=hi00) Tryz.func215 rfl rfl (by decide +kernel) (by simp) ?_
 unfold cO at h
 obtain ⟨q03,l1,h⟩:=ab h
 simp(config:=cS)only[go_sem,hc_v1.1,hc_v1.2,hm_v1,hk_v1]
 refine al (m1:=.mk) (m2:=.mk) [.nf [0,1,7,8] []] (iS v0 f_v1 k_v1 ((v0.length:Nat):Int)) l1 ?_ ?_
 ·simp(config:=cS)only[go_sem,hc_v1.1,hc_v1.2,hm_v1,hk_v1]
 ·intro nb2 v8_1 bb2 b2 gb2
  unfold bC at b2
  try dsimp only at b2
  obtain ⟨h3,b2⟩|⟨h3,b2⟩:=af b2
  ·obtain ⟨x01,g4,b2⟩:=ab b2
   obtain ⟨h5,h6,h7⟩:=ai g4
   obtain ⟨r02,g8,b2⟩:=ab b2
   simp(config:=cS)only[go_sem,hc_v1.1,hc_v1.2,hm_v1,hk_v1,eqT h3,h5,h6,h7]
   refine ag (hp_v1 _ _ g8) ?_
   obtain ⟨h9,b2⟩|⟨h9,b2⟩:=af b2
   ·cases b2
    obtain rfl:=(aj gb2).symm
    try dsimp only at h
    cases h
    simp(config:=cS)only[go_sem,hc_v1.1,hc_v1.2,hm_v1,hk_v1,eqT h3,h5,h6,h7,eZt h9]
   ·cases b2
    simp(config:=cS)only[go_sem,hc_v1.1,hc_v1.2,hm_v1,hk_v1,eqT h3,h5,h6,h7,eZf h9]
    refine an gb2 ?_
    simp(config:=cS)only[go_sem,hc_v1.1,hc_v1.2,hm_v1,hk_v1,eqT h3,h5,h6,h7,eZf h9]
  ·cases b2
   obtain rfl:=(aj gb2).symm
   try dsimp only at h
   cases h
   simp(config:=cS)only[go_sem,hc_v1.1,hc_v1.2,hm_v1,hk_v1,eqF h3]
attribute [go_sem] Tryz.ntmps216 Tryz.results216
theorem xF {n:GNode}{p:Int}{res:Bool}(h:iX n p=some res):ao Tryz.prog 216 [.agg (GNode.encS n),.loc [.lit (.int .i64 p)]] [] (.lit (.bool res)) []:=by
 refine ak (ra:=[]) (md:=mdT) hT (hi:=hi00) Tryz.func216 rfl rfl (by decide +kernel) (by simp) ?_
 unfold iX at h
 obtain ⟨h1,h⟩|⟨h1,h⟩:=af h
 ·cases h
  simp(config:=cS)only[go_sem,eqT h1]
 ·cases h
  simp(config:=cS)only[go_sem,eqF h1]
attribute [go_sem] Tryz.ntmps141 Tryz.results141
theorem lw {s:GShow}{p res:Int}(h:dw s p=some res):ao Tryz.prog 141 [.agg (GShow.encS s),.lit (.int .i64 p)] [] (.lit (.int .i64 res)) []:=by
 refine ak (ra:=[]) (md:=mdT) hT (hi:=hi00) Tryz.func141 rfl rfl (by decide +kernel) (by simp) ?_
 unfold dw at h
 obtain ⟨r01,g1,h⟩:=ab h
 simp(config:=cS)only[go_sem]
 refine ag (tM (by exact fun _ _ hr=>xF hr) (by refine ⟨fun _=>?_,fun _=>?_⟩ <;> simp only [go_sem]) (fun _=>rfl) rfl g1) ?_
 cases h
 simp(config:=cS)only[go_sem]
def kS (a:List Int)(b c d:Int):St:=⟨[(0,.sl (ae eI a)),(1,.lit (.int .i64 b)),(7,.lit (.int .i64 c)),(8,.lit (.int .i64 d))],[],2⟩
attribute [go_sem] kS
attribute [go_sem] Tryz.ntmps145 Tryz.results145
theorem rt {v0:List Int}{v1 res:Int}(h:dx v0 v1=some res):ao Tryz.prog 145 [.sl (ae eI v0),.lit (.int .i64 v1)] [] (.lit (.int .i64 res)) []:=by
 refine ak (ra:=[]) (md:=mdT) hT (hi:=hi00) Tryz.func145 rfl rfl (by decide +kernel) (by simp) ?_
 unfold dx at h
 obtain ⟨q02,l1,h⟩:=ab h
 simp(config:=cS)only[go_sem]
 refine al (m1:=.mk) (m2:=.mk) [.nf [0,1,7,8] []] (kS v0 v1 ((v0.length:Nat):Int)) l1 ?_ ?_
 ·simp(config:=cS)only[go_sem]
 ·intro nb2 v8_1 bb2 b2 gb2
  unfold ct at b2
  try dsimp only at b2
  obtain ⟨h3,b2⟩|⟨h3,b2⟩:=af b2
  ·obtain ⟨x01,g4,b2⟩:=ab b2
   obtain ⟨h5,h6,h7⟩:=ai g4
   obtain ⟨h8,b2⟩|⟨h8,b2⟩:=af b2
   ·cases b2
    obtain rfl:=(aj gb2).symm
    try dsimp only at h
    cases h
    simp(config:=cS)only[go_sem,eqT h3,h5,h6,h7,eqT h8]
   ·cases b2
    simp(config:=cS)only[go_sem,eqT h3,h5,h6,h7,eqF h8]
    refine an gb2 ?_
    simp(config:=cS)only[go_sem]
  ·cases b2
   obtain rfl:=(aj gb2).symm
   try dsimp only at h
   cases h
   simp(config:=cS)only[go_sem,eqF h3]
attribute [go_sem] Tryz.ntmps90 Tryz.results90
theorem jo {v0:List Int}{v1:Int}{res:Bool}(h:bP v0 v1=some res):ao Tryz.prog 90 [.sl (ae eI v0),.lit (.int .i64 v1)] [] (.lit (.bool res)) []:=by
 refine ak (ra:=[]) (md:=mdT) hT (hi:=hi00) Tryz.func90 rfl rfl (by decide +kernel) (by simp) ?_
 unfold bP at h
 obtain ⟨r01,g1,h⟩:=ab h
 simp(config:=cS)only[go_sem]
 refine ag (rt g1) ?_
 cases h
 simp(config:=cS)only[go_sem]
attribute [go_sem] Tryz.ntmps240 Tryz.results240
theorem uA {v0:Int}{a:List Int}{res:Bool}(h:fq v0 a=some res):ao Tryz.prog 240 [.lit (.int .i64 v0),.loc [.sl (ae eI a)]] [] (.lit (.bool res)) []:=by
 refine ak (ra:=[]) (md:=mdT) hT (hi:=hi00) Tryz.func240 rfl rfl (by decide +kernel) (by simp) ?_
 unfold fq at h
 obtain ⟨r01,g1,h⟩:=ab h
 simp(config:=cS)only[go_sem]
 refine ag (jo g1) ?_
 cases h
 simp(config:=cS)only[go_sem]
attribute [go_sem] Tryz.ntmps211 Tryz.results211
theorem wk {a b:List Int}{res:Bool}(h:eL a b=some res):ao Tryz.prog 211 [.sl (ae eI a),.sl (ae eI b)] [] (.lit (.bool res)) []:=by
 refine ak (ra:=[]) (md:=mdT) hT (hi:=hi00) Tryz.func211 rfl rfl (by decide +kernel) (by simp) ?_
 unfold eL at h
 obtain ⟨r01,g1,h⟩:=ab h
 simp(config:=cS)only[go_sem]
 refine ag (jl g1) ?_
 obtain ⟨h2,h⟩|⟨h2,h⟩:=af h
 ·obtain ⟨r02,g3,h⟩:=ab h
  simp(config:=cS)only[go_sem,eZt h2]
  refine ag (jl g3) ?_
  obtain ⟨h4,h⟩|⟨h4,h⟩:=af h
  ·obtain ⟨r03,g5,h⟩:=ab h
   simp(config:=cS)only[go_sem,eZt h2,eZt h4]
   refine ag (dK (by exact fun _ _ hr=>uA hr) (by refine ⟨fun _=>?_,fun _=>?_⟩ <;> simp only [go_sem]) (fun _=>rfl) rfl g5) ?_
   cases h
   simp(config:=cS)only[go_sem,eZt h2,eZt h4]
  ·cases h
   simp(config:=cS)only[go_sem,eZt h2,eZf h4]
 ·cases h
  simp(config:=cS)only[go_sem,eZf h2]
@[go_sem] def hi131_1:DT:=.i1 0 (.i2 1 (.i0 2 [0] (.i2 3 (.i2 4 .nil))))
def Dq:Hint where
 acts:=fun _=>[]
 draws:=fun
  | 1=>⟨hi131_1,[[],[],[1],[0,1,2],[0,1,2,3]],.range 5⟩
  | _=>⟨.nil,[],[]⟩
theorem Ni (i:Nat):Dq.acts i=[]:=rfl
theorem Nj (i:Nat):Dq.views i=none:=rfl
attribute [go_sem] Ni Nj Tryz.ntmps131 Tryz.results131
@[go_sem] theorem QG:(Dq.draws 1).order=hi131_1:=rfl
theorem yB {s:GShow}{label:List Int}{v2:Int}{res:Bool}(h:gX s label v2=some res):ao Tryz.prog 131 [.agg (GShow.encS s),.sl (ae eI label),.lit (.int .i64 v2)] [] (.lit (.bool res)) []:=by
 refine ak (ra:=[]) (md:=mdT) hT (hi:=Dq) Tryz.func131 rfl rfl (by decide +kernel) (by simp) ?_
 unfold gX at h
 obtain ⟨r01,g1,h⟩:=ab h
 simp(config:=cS)only[go_sem]
 refine ag (iq g1) ?_
 obtain ⟨r02,g2,h⟩:=ab h
 simp(config:=cS)only[go_sem]
 refine ag (lw g2) ?_
 obtain ⟨h3,h⟩|⟨h3,h⟩:=af h
 ·cases h
  simp(config:=cS)only[go_sem,eqT h3]
 ·obtain ⟨x03,g4,h⟩:=ab h
  obtain ⟨h5,h6,h7⟩:=ai g4
  obtain ⟨r04,g8,h⟩:=ab h
  simp(config:=cS)only[go_sem,eqF h3,h5,h6,h7]
  refine ag (jo g8) ?_
  obtain ⟨h9,h⟩|⟨h9,h⟩:=af h
  ·cases h
   simp(config:=cS)only[go_sem,eqF h3,h5,h6,h7,eZt h9]
  ·obtain ⟨r05,g10,h⟩:=ab h
   simp(config:=cS)only[go_sem,eqF h3,h5,h6,h7,eZf h9]
   refine ag (jo g10) ?_
   obtain ⟨h11,h⟩|⟨h11,h⟩:=af h
   ·cases h
    simp(config:=cS)only[go_sem,eqF h3,h5,h6,h7,eZf h9,eZt h11]
   ·obtain ⟨r06,g12,h⟩:=ab h
    simp(config:=cS)only[go_sem,eqF h3,h5,h6,h7,eZf h9,eZf h11]
    refine ag (wk g12) ?_
    cases h
    simp(config:=cS)only[go_sem,eqF h3,h5,h6,h7,eZf h9,eZf h11]
attribute [go_sem] Tryz.ntmps130 Tryz.results130
theorem yC {v0:Int}{s:GShow}{n:GNode}{res:Bool}(h:gY v0 s n=some res):ao Tryz.prog 130 [.lit (.int .i64 v0),.loc [.sl (ae GNode.encS s.nodes),.sl (ae GTie.enc s.ties),.lit (.int .i64 s.horizon)],.loc [.lit (.string n.name),.sl (ae eI n.label),.lit (.int .i64 n.watch)]] [] (.lit (.bool res)) []:=by
 refine ak (ra:=[]) (md:=mdT) hT (hi:=hi00) Tryz.func130 rfl rfl (by decide +kernel) (by simp) ?_
 unfold gY at h
 obtain ⟨r01,g1,h⟩:=ab h
 simp(config:=cS)only[go_sem]
 refine ag (yB g1) ?_
 cases h
 simp(config:=cS)only[go_sem]
def qf (a:List GNode)(b:Int)(c:List GTie)(d e:Int):St:=⟨[(1,.ptr 64 1 0 0),(24,.sl (ae GNode.encS a)),(25,.lit (.int .i64 b)),(26,.lit (.int .i64 e))],[(64,1,.var [.sl (ae GNode.encS a),.sl (ae GTie.enc c),.lit (.int .i64 d)])],2⟩
attribute [go_sem] qf
attribute [go_sem] Tryz.ntmps56 Tryz.results56
theorem mH {s:GShow}{res:Bool}(h:ez s=some res):ao Tryz.prog 56 [.agg (GShow.encS s)] [] (.lit (.bool res)) []:=by
 refine ak (ra:=[]) (md:=mdT) hT (hi:=hi00) Tryz.func56 rfl rfl (by decide +kernel) (by simp) ?_
 unfold ez at h
 obtain ⟨r01,g1,h⟩:=ab h
 simp(config:=cS)only[go_sem]
 refine ag (zY g1) ?_
 obtain ⟨h2,h⟩|⟨h2,h⟩:=af h
 ·obtain ⟨r02,g3,h⟩:=ab h
  simp(config:=cS)only[go_sem,eZt h2]
  refine ag (Bc g3) ?_
  obtain ⟨h4,h⟩|⟨h4,h⟩:=af h
  ·obtain ⟨h5,h⟩|⟨h5,h⟩:=af h
   ·cases h
    simp(config:=cS)only[go_sem,eZt h2,eZt h4,eqT h5]
   ·obtain ⟨h6,h⟩|⟨h6,h⟩:=af h
    ·cases h
     simp(config:=cS)only[go_sem,eZt h2,eZt h4,eqF h5,eqT h6]
    ·obtain ⟨q05,l7,h⟩:=ab h
     simp(config:=cS)only[go_sem,eZt h2,eZt h4,eqF h5,eqF h6]
     refine al (m1:=.mk) (m2:=.mk) [.nf [1,24,25,26] [64]] (qf s.nodes ((s.nodes.length:Nat):Int) s.ties s.horizon) l7 ?_ ?_
     ·simp(config:=cS)only[go_sem,eZt h2,eZt h4,eqF h5,eqF h6]
     ·intro nb8 v26_1 bb8 b8 gb8
      unfold fe at b8
      try dsimp only at b8
      obtain ⟨h9,b8⟩|⟨h9,b8⟩:=af b8
      ·obtain ⟨x03,g10,b8⟩:=ab b8
       obtain ⟨h11,h12,h13⟩:=ai g10
       obtain ⟨r04,g14,b8⟩:=ab b8
       simp(config:=cS)only[go_sem,eZt h2,eZt h4,eqF h5,eqF h6,eqT h9,h11,h12,h13]
       refine ag (dK (by exact fun _ _ hr=>yC hr) (by refine ⟨fun _=>?_,fun _=>?_⟩ <;> simp only [go_sem]) (fun _=>rfl) rfl g14) ?_
       obtain ⟨h15,b8⟩|⟨h15,b8⟩:=af b8
       ·cases b8
        obtain rfl:=(aj gb8).symm
        try dsimp only at h
        cases h
        simp(config:=cS)only[go_sem,eZt h2,eZt h4,eqF h5,eqF h6,eqT h9,h11,h12,h13,eZt h15]
       ·cases b8
        simp(config:=cS)only[go_sem,eZt h2,eZt h4,eqF h5,eqF h6,eqT h9,h11,h12,h13,eZf h15]
        refine an gb8 ?_
        simp(config:=cS)only[go_sem,eZt h2,eZt h4,eqF h5,eqF h6,eqT h9,h11,h12,h13,eZf h15]
      ·cases b8
       obtain rfl:=(aj gb8).symm
       try dsimp only at h
       cases h
       simp(config:=cS)only[go_sem,eZt h2,eZt h4,eqF h5,eqF h6,eqF h9]
  ·cases h
   simp(config:=cS)only[go_sem,eZt h2,eZf h4]
 ·cases h
  simp(config:=cS)only[go_sem,eZf h2]
attribute [go_sem] Tryz.ntmps248 Tryz.results248
theorem wK {n:Int}{res:Bool}(h:iH n=some res):ao Tryz.prog 248 [.lit (.int .i64 n)] [] (.lit (.bool res)) []:=by
 refine ak (ra:=[]) (md:=mdT) hT (hi:=hi00) Tryz.func248 rfl rfl (by decide +kernel) (by simp) ?_
 unfold iH at h
 obtain ⟨h1,h⟩|⟨h1,h⟩:=af h
 ·cases h
  simp(config:=cS)only[go_sem,eqT h1]
 ·cases h
  simp(config:=cS)only[go_sem,eqF h1]
attribute [go_sem] Tryz.ntmps217 Tryz.results217
theorem ue {v:List Int}{res:Bool}(h:fW v=some res):ao Tryz.prog 217 [.sl (ae eI v)] [] (.lit (.bool res)) []:=by
 refine ak (ra:=[]) (md:=mdT) hT (hi:=hi00) Tryz.func217 rfl rfl (by decide +kernel) (by simp) ?_
 unfold fW at h
 obtain ⟨h1,h⟩|⟨h1,h⟩:=af h
 ·obtain ⟨r01,g2,h⟩:=ab h
  simp(config:=cS)only[go_sem,eqT h1]
  refine ag (dK (by exact fun _ _ hr=>wK hr) (by refine ⟨fun _=>?_,fun _=>?_⟩ <;> simp only [go_sem]) (fun _=>rfl) rfl g2) ?_
  cases h
  simp(config:=cS)only[go_sem]
 ·cases h
  simp(config:=cS)only[go_sem,eqF h1]
def oY (a:List Int)(d:Int)(e:List GNode)(f:List GTie)(g b:Int)(c:List Int)(h:Int):St:=⟨[(2,.ptr 128 1 0 0),(3,.ptr 192 1 0 0),(37,.sl (ae eI a)),(38,.lit (.int .i64 d)),(39,.lit (.int .i64 h))],[(128,1,.var [.sl (ae GNode.encS e),.sl (ae GTie.enc f),.lit (.int .i64 g)]),(192,1,.var [.lit (.int .i64 b),.sl (ae eI a),.sl (ae eI c)])],2⟩
attribute [go_sem] oY
def oZ (a:List Int)(d:Int)(e:List GNode)(f:List GTie)(g b:Int)(c:List Int)(h:Int):St:=⟨[(2,.ptr 128 1 0 0),(3,.ptr 192 1 0 0),(67,.sl (ae eI a)),(68,.lit (.int .i64 d)),(69,.lit (.int .i64 h))],[(128,1,.var [.sl (ae GNode.encS e),.sl (ae GTie.enc f),.lit (.int .i64 g)]),(192,1,.var [.lit (.int .i64 b),.sl (ae eI c),.sl (ae eI a)])],2⟩
attribute [go_sem] oZ
attribute [go_sem] Tryz.ntmps146 Tryz.results146
theorem Bd {s:GShow}{v1:GState}{res:Bool}(h:jv s v1=some res):ao Tryz.prog 146 [.agg (GShow.encS s),.agg (GState.encS v1)] [] (.lit (.bool res)) []:=by
 refine ak (ra:=[]) (md:=mdT) hT (hi:=hi00) Tryz.func146 rfl rfl (by decide +kernel) (by simp) ?_
 unfold jv at h
 obtain ⟨h1,h⟩|⟨h1,h⟩:=af h
 ·cases h
  simp(config:=cS)only[go_sem,eqT h1]
 ·obtain ⟨h2,h⟩|⟨h2,h⟩:=af h
  ·cases h
   simp(config:=cS)only[go_sem,eqF h1,eqT h2]
  ·obtain ⟨h3,h⟩|⟨h3,h⟩:=af h
   ·obtain ⟨r01,g4,h⟩:=ab h
    simp(config:=cS)only[go_sem,eqF h1,eqF h2,eqT h3]
    refine ag (ue g4) ?_
    obtain ⟨h5,h⟩|⟨h5,h⟩:=af h
    ·obtain ⟨q07,l6,h⟩:=ab h
     simp(config:=cS)only[go_sem,eZt h5]
     refine al (m1:=.mk) (m2:=.mk) [.nf [2,3,37,38,39] [128,192]] (oY v1.times ((v1.times.length:Nat):Int) s.nodes s.ties s.horizon v1.now v1.values) l6 ?_ ?_
     ·simp(config:=cS)only[go_sem]
     ·intro nb7 v39_1 bb7 b7 gb7
      unfold ek at b7
      try dsimp only at b7
      obtain ⟨h8,b7⟩|⟨h8,b7⟩:=af b7
      ·obtain ⟨x02,g9,b7⟩:=ab b7
       obtain ⟨h10,h11,h12⟩:=ai g9
       obtain ⟨h13,b7⟩|⟨h13,b7⟩:=af b7
       ·obtain ⟨h14,b7⟩|⟨h14,b7⟩:=af b7
        ·obtain ⟨h15,b7⟩|⟨h15,b7⟩:=af b7
         ·obtain ⟨h16,b7⟩|⟨h16,b7⟩:=af b7
          ·cases b7
           obtain rfl:=(aj gb7).symm
           try dsimp only at h
           cases h
           simp(config:=cS)only[go_sem,eqT h8,h10,h11,h12,eqT h13,eqT h14,eqT h15,eqT h16]
          ·obtain ⟨h18,b7⟩|⟨h18,b7⟩:=af b7
           ·cases b7
            obtain rfl:=(aj gb7).symm
            try dsimp only at h
            cases h
            simp(config:=cS)only[go_sem,eqT h8,h10,h11,h12,eqT h13,eqT h14,eqT h15,eqF h16,eqT h18]
           ·cases b7
            simp(config:=cS)only[go_sem,eqT h8,h10,h11,h12,eqT h13,eqT h14,eqT h15,eqF h16,eqF h18]
            refine an gb7 ?_
            simp(config:=cS)only[go_sem]
         ·cases b7
          simp(config:=cS)only[go_sem,eqT h8,h10,h11,h12,eqT h13,eqT h14,eqF h15]
          refine an gb7 ?_
          simp(config:=cS)only[go_sem]
        ·cases b7
         obtain rfl:=(aj gb7).symm
         try dsimp only at h
         cases h
         simp(config:=cS)only[go_sem,eqT h8,h10,h11,h12,eqT h13,eqF h14]
       ·obtain ⟨h21,b7⟩|⟨h21,b7⟩:=af b7
        ·obtain ⟨h22,b7⟩|⟨h22,b7⟩:=af b7
         ·cases b7
          obtain rfl:=(aj gb7).symm
          try dsimp only at h
          cases h
          simp(config:=cS)only[go_sem,eqT h8,h10,h11,h12,eqF h13,eqT h21,eqT h22]
         ·obtain ⟨h24,b7⟩|⟨h24,b7⟩:=af b7
          ·cases b7
           obtain rfl:=(aj gb7).symm
           try dsimp only at h
           cases h
           simp(config:=cS)only[go_sem,eqT h8,h10,h11,h12,eqF h13,eqT h21,eqF h22,eqT h24]
          ·cases b7
           simp(config:=cS)only[go_sem,eqT h8,h10,h11,h12,eqF h13,eqT h21,eqF h22,eqF h24]
           refine an gb7 ?_
           simp(config:=cS)only[go_sem]
        ·cases b7
         simp(config:=cS)only[go_sem,eqT h8,h10,h11,h12,eqF h13,eqF h21]
         refine an gb7 ?_
         simp(config:=cS)only[go_sem]
      ·cases b7
       obtain rfl:=(aj gb7).symm
       try dsimp only at h
       obtain ⟨q06,l27,h⟩:=ab h
       simp(config:=cS)only[go_sem,eqF h8]
       refine al (m1:=.mk) (m2:=.mk) [.nf [2,3,67,68,69] [128,192]] (oZ v1.values ((v1.values.length:Nat):Int) s.nodes s.ties s.horizon v1.now v1.times) l27 ?_ ?_
       ·simp(config:=cS)only[go_sem]
       ·intro nb28 v69_2 bb28 b28 gb28
        unfold em at b28
        try dsimp only at b28
        obtain ⟨h29,b28⟩|⟨h29,b28⟩:=af b28
        ·obtain ⟨x03,g30,b28⟩:=ab b28
         obtain ⟨h31,h32,h33⟩:=ai g30
         obtain ⟨r04,g34,b28⟩:=ab b28
         simp(config:=cS)only[go_sem,eqT h29,h31,h32,h33]
         refine ag (lw g34) ?_
         obtain ⟨h35,b28⟩|⟨h35,b28⟩:=af b28
         ·obtain ⟨x05,g36,b28⟩:=ab b28
          obtain ⟨h37,h38,h39⟩:=ai g36
          obtain ⟨h40,b28⟩|⟨h40,b28⟩:=af b28
          ·cases b28
           simp(config:=cS)only[go_sem,eqT h35,h37,h38,h39,eqT h40]
           refine an gb28 ?_
           simp(config:=cS)only[go_sem]
          ·cases b28
           obtain rfl:=(aj gb28).symm
           try dsimp only at h
           cases h
           simp(config:=cS)only[go_sem,eqT h35,h37,h38,h39,eqF h40]
         ·obtain ⟨h42,b28⟩|⟨h42,b28⟩:=af b28
          ·cases b28
           simp(config:=cS)only[go_sem,eqF h35,eqT h42]
           refine an gb28 ?_
           simp(config:=cS)only[go_sem]
          ·cases b28
           obtain rfl:=(aj gb28).symm
           try dsimp only at h
           cases h
           simp(config:=cS)only[go_sem,eqF h35,eqF h42]
        ·cases b28
         obtain rfl:=(aj gb28).symm
         try dsimp only at h
         cases h
         simp(config:=cS)only[go_sem,eqF h29]
    ·cases h
     simp(config:=cS)only[go_sem,eZf h5]
   ·cases h
    simp(config:=cS)only[go_sem,eqF h1,eqF h2,eqF h3]
attribute [go_sem] Tryz.ntmps64 Tryz.results64
theorem vc {s:GShow}{v1:GState}{res:Bool}(h:gM s v1=some res):ao Tryz.prog 64 [.agg (GShow.encS s),.agg (GState.encS v1)] [] (.lit (.bool res)) []:=by
 refine ak (ra:=[]) (md:=mdT) hT (hi:=hi00) Tryz.func64 rfl rfl (by decide +kernel) (by simp) ?_
 unfold gM at h
 obtain ⟨r01,g1,h⟩:=ab h
 simp(config:=cS)only[go_sem]
 refine ag (mH g1) ?_
 obtain ⟨h2,h⟩|⟨h2,h⟩:=af h
 ·obtain ⟨r02,g3,h⟩:=ab h
  simp(config:=cS)only[go_sem,eZt h2]
  refine ag (Bd g3) ?_
  cases h
  simp(config:=cS)only[go_sem,eZt h2]
 ·cases h
  simp(config:=cS)only[go_sem,eZf h2]
attribute [go_sem] Tryz.ntmps242 Tryz.results242
theorem Ed {v0 y:Int}{res:Int × Int}(h:tp v0 y=some res):ao Tryz.prog 242 [.lit (.int .u64 v0),.lit (.int .u64 y)] [] (.tup [.lit (.int .u64 res.1),.lit (.int .u64 res.2)]) []:=by
 refine ak (ra:=[]) (md:=mdT) hT (hi:=hi00) Tryz.func242 rfl rfl (by decide +kernel) (by simp) ?_
 unfold tp at h
 cases h
 simp(config:=cS)only[go_sem]
attribute [go_sem] Tryz.ntmps212 Tryz.results212
theorem GO {v0 y:Int}{res:Int × Int}(h:fu v0 y=some res):ao Tryz.prog 212 [.lit (.int .u64 v0),.lit (.int .u64 y)] [] (.tup [.lit (.int .u64 res.1),.lit (.int .u64 res.2)]) []:=by
 refine ak (ra:=[]) (md:=mdT) hT (hi:=hi00) Tryz.func212 rfl rfl (by decide +kernel) (by simp) ?_
 unfold fu at h
 obtain ⟨r01,g1,h⟩:=ab h
 simp(config:=cS)only[go_sem]
 refine ag (Ed g1) ?_
 cases h
 simp(config:=cS)only[go_sem]
def kC  : (Int × (List Int))→St
 | (b,a)=>⟨[(7,.ref 1920 1 0 a.length),(8,.lit (.int .i64 b))],[(1920,1,.row true (ae eI a))],2⟩
attribute [go_sem] kC
@[go_sem] def hi133_9:DT:=.i2 0 (.i2 1 (.i2 2 (.i2 3 (.i2 4 (.i2 5 (.i2 6 (.i2 7 (.i2 8 (.i2 9 .nil)))))))))
def Dr:Hint where
 acts:=fun _=>[]
 draws:=fun
  | 9=>⟨hi133_9,[[],[],[],[1,2],[],[],[4,5],[1,2,3,4,5,6],.range 8,.range 9],.range 10⟩
  | _=>⟨.nil,[],[]⟩
theorem Nk (i:Nat):Dr.acts i=[]:=rfl
theorem Nl (i:Nat):Dr.views i=none:=rfl
attribute [go_sem] Nk Nl Tryz.ntmps133 Tryz.results133
@[go_sem] theorem QH:(Dr.draws 9).order=hi133_9:=rfl
theorem bi {v0:List Int}{v1:Int}{res:List Int}(h:aG v0 v1=some res):ao Tryz.prog 133 [.sl (ae eI v0),.lit (.int .i64 v1)] [] (.ref 20000 1 0 res.length) [(20000,1,.row true (ae eI res))]:=by
 refine ak (ra:=[.home 4]) (md:=mdT) hT (hi:=Dr) Tryz.func133 rfl rfl (by decide +kernel) (by simp) ?_
 unfold aG at h
 obtain ⟨h1,h⟩|⟨h1,h⟩:=af h
 ·cases h
 ·obtain ⟨r01,g2,h⟩:=ab h
  simp(config:=cS)only[go_sem,eqF h1]
  refine ag (GO g2) ?_
  obtain ⟨h3,h⟩|⟨h3,h⟩:=af h
  ·cases h
  ·obtain ⟨h4,h⟩|⟨h4,h⟩:=af h
   ·cases h
   ·obtain ⟨h5,h⟩:=ah h
    obtain ⟨h6,h⟩:=ah h
    obtain ⟨h7,h⟩:=ah h
    obtain ⟨q02,l8,h⟩:=ab h
    simp(config:=cS)only[go_sem,eqF h3,eqF h4,eqT h5,eqT h6,eqT h7]
    refine al (m1:=.mk) (m2:=.mk) [.nf [7,8] [1920]] (kC) l8 ?_ ?_
    ·simp(config:=cS)only[go_sem]
    ·intro nb9 sb9 bb9 b9 gb9
     obtain ⟨v8_1,v7_1⟩:=sb9
     unfold aw at b9
     try dsimp only at b9
     obtain ⟨h10,b9⟩|⟨h10,b9⟩:=af b9
     ·obtain ⟨h11,b9⟩:=ah b9
      obtain ⟨h12,b9⟩:=ah b9
      obtain ⟨h13,b9⟩:=ah b9
      cases b9
      simp(config:=cS)only[go_sem,eqT h10,eqT h11,eqT h12,eqT h13]
      refine an gb9 ?_
      simp(config:=cS)only[go_sem]
     ·cases b9
      obtain rfl:=(aj gb9).symm
      try dsimp only at h
      cases h
      simp(config:=cS)only[go_sem,eqF h10]
@[go_sem] def hi58_3:DT:=.i1 1 (.i1 2 (.i1 3 (.fork (.i0 0 [1,2,3] (.fork (.i2 4 (.fork (.i0 5 [1,2,3] (.i2 6 (.i0 7 [1,2,3] (.i2 8 .nil)))) (.i0 7 [1,2,3] (.i0 5 [1,2,3] (.i2 6 (.i2 8 .nil)))))) (.fork (.i0 5 [1,2,3] (.fork (.i2 4 (.i2 6 (.i0 7 [1,2,3] (.i2 8 .nil)))) (.i0 7 [1,2,3] (.i2 4 (.i2 6 (.i2 8 .nil)))))) (.i0 7 [1,2,3] (.fork (.i2 4 (.i0 5 [1,2,3] (.i2 6 (.i2 8 .nil)))) (.i0 5 [1,2,3] (.i2 4 (.i2 6 (.i2 8 .nil))))))))) (.fork (.i0 5 [1,2,3] (.fork (.i0 0 [1,2,3] (.fork (.i2 4 (.i2 6 (.i0 7 [1,2,3] (.i2 8 .nil)))) (.i0 7 [1,2,3] (.i2 4 (.i2 6 (.i2 8 .nil)))))) (.i0 7 [1,2,3] (.i0 0 [1,2,3] (.i2 4 (.i2 6 (.i2 8 .nil))))))) (.i0 7 [1,2,3] (.fork (.i0 0 [1,2,3] (.fork (.i2 4 (.i0 5 [1,2,3] (.i2 6 (.i2 8 .nil)))) (.i0 5 [1,2,3] (.i2 4 (.i2 6 (.i2 8 .nil)))))) (.i0 5 [1,2,3] (.i0 0 [1,2,3] (.i2 4 (.i2 6 (.i2 8 .nil)))))))))))
def hi58:Hint where
 acts:=fun _=>[]
 draws:=fun
  | 3=>⟨hi58_3,[[],[],[1],[1,2],[0,1,2,3],[],.range 6,[],.range 8],.range 9⟩
  | _=>⟨.nil,[],[]⟩
theorem Ph (i:Nat):hi58.acts i=[]:=rfl
theorem Pi (i:Nat):hi58.views i=none:=rfl
attribute [go_sem] Ph Pi Tryz.ntmps58 Tryz.results58
@[go_sem] theorem RD:(hi58.draws 3).order=hi58_3:=rfl
theorem sj {s:GShow}{res:GState}(h:ed s=some res):ao Tryz.prog 58 [.agg (GShow.encS s)] [] (.agg [.lit (.int .i64 res.now),.ref 20000 1 0 res.times.length,.ref 20001 1 0 res.values.length]) [(20000,1,.row true (ae eI res.times)),(20001,1,.row true (ae eI res.values))]:=by
 refine ak (ra:=[.homeCell 128 1,.homeCell 128 2]) (md:=mdT) hT (hi:=hi58) Tryz.func58 rfl rfl (by decide +kernel) (by simp) ?_
 unfold ed at h
 obtain ⟨r01,g1,h⟩:=ab h
 simp(config:=cS)only[go_sem]
 refine ag (mH g1) ?_
 obtain ⟨h2,h⟩|⟨h2,h⟩:=af h
 ·try simp(config:=cS)only[go_sem,eZt h2]
  refine aT ?_ ?_
  ·try simp(config:=cS)only[go_sem]
   refine aT ?_ ?_
   ·obtain ⟨r02,g3,h⟩:=ab h
    simp(config:=cS)only[go_sem]
    refine ag (bi g3) ?_
    try simp(config:=cS)only[go_sem]
    refine aT ?_ ?_
    ·obtain ⟨x03,g4,h⟩:=ab h
     obtain ⟨h6,h7⟩:=cR (k:=0) g4
     cases h
     simp(config:=cS)only[go_sem,h6,h7]
    ·obtain ⟨x04,g8,h⟩:=ab h
     obtain ⟨h10,h11⟩:=cR (k:=0) g8
     cases h
     simp(config:=cS)only[go_sem,h10,h11]
   ·try simp(config:=cS)only[go_sem]
    refine aT ?_ ?_
    ·try simp(config:=cS)only[go_sem]
     refine aT ?_ ?_
     ·obtain ⟨r05,g12,h⟩:=ab h
      simp(config:=cS)only[go_sem]
      refine ag (bi g12) ?_
      obtain ⟨x06,g13,h⟩:=ab h
      obtain ⟨h15,h16⟩:=cR (k:=0) g13
      cases h
      simp(config:=cS)only[go_sem,h15,h16]
     ·obtain ⟨r07,g17,h⟩:=ab h
      simp(config:=cS)only[go_sem]
      refine ag (bi g17) ?_
      obtain ⟨x08,g18,h⟩:=ab h
      obtain ⟨h20,h21⟩:=cR (k:=0) g18
      cases h
      simp(config:=cS)only[go_sem,h20,h21]
    ·try simp(config:=cS)only[go_sem]
     refine aT ?_ ?_
     ·obtain ⟨r09,g22,h⟩:=ab h
      simp(config:=cS)only[go_sem]
      refine ag (bi g22) ?_
      obtain ⟨x10,g23,h⟩:=ab h
      obtain ⟨h25,h26⟩:=cR (k:=0) g23
      cases h
      simp(config:=cS)only[go_sem,h25,h26]
     ·obtain ⟨r11,g27,h⟩:=ab h
      simp(config:=cS)only[go_sem]
      refine ag (bi g27) ?_
      obtain ⟨x12,g28,h⟩:=ab h
      obtain ⟨h30,h31⟩:=cR (k:=0) g28
      cases h
      simp(config:=cS)only[go_sem,h30,h31]
  ·try simp(config:=cS)only[go_sem]
   refine aT ?_ ?_
   ·try simp(config:=cS)only[go_sem]
    refine aT ?_ ?_
    ·try simp(config:=cS)only[go_sem]
     refine aT ?_ ?_
     ·obtain ⟨r13,g32,h⟩:=ab h
      simp(config:=cS)only[go_sem]
      refine ag (bi g32) ?_
      obtain ⟨x14,g33,h⟩:=ab h
      obtain ⟨h35,h36⟩:=cR (k:=0) g33
      cases h
      simp(config:=cS)only[go_sem,h35,h36]
     ·obtain ⟨r15,g37,h⟩:=ab h
      simp(config:=cS)only[go_sem]
      refine ag (bi g37) ?_
      obtain ⟨x16,g38,h⟩:=ab h
      obtain ⟨h40,h41⟩:=cR (k:=0) g38
      cases h
      simp(config:=cS)only[go_sem,h40,h41]
    ·obtain ⟨r17,g42,h⟩:=ab h
     simp(config:=cS)only[go_sem]
     refine ag (bi g42) ?_
     obtain ⟨x18,g43,h⟩:=ab h
     obtain ⟨h45,h46⟩:=cR (k:=0) g43
     cases h
     simp(config:=cS)only[go_sem,h45,h46]
   ·try simp(config:=cS)only[go_sem]
    refine aT ?_ ?_
    ·try simp(config:=cS)only[go_sem]
     refine aT ?_ ?_
     ·obtain ⟨r19,g47,h⟩:=ab h
      simp(config:=cS)only[go_sem]
      refine ag (bi g47) ?_
      obtain ⟨x20,g48,h⟩:=ab h
      obtain ⟨h50,h51⟩:=cR (k:=0) g48
      cases h
      simp(config:=cS)only[go_sem,h50,h51]
     ·obtain ⟨r21,g52,h⟩:=ab h
      simp(config:=cS)only[go_sem]
      refine ag (bi g52) ?_
      obtain ⟨x22,g53,h⟩:=ab h
      obtain ⟨h55,h56⟩:=cR (k:=0) g53
      cases h
      simp(config:=cS)only[go_sem,h55,h56]
    ·obtain ⟨r23,g57,h⟩:=ab h
     simp(config:=cS)only[go_sem]
     refine ag (bi g57) ?_
     obtain ⟨x24,g58,h⟩:=ab h
     obtain ⟨h60,h61⟩:=cR (k:=0) g58
     cases h
     simp(config:=cS)only[go_sem,h60,h61]
 ·cases h
  simp(config:=cS)only[go_sem,eZf h2]
def qg (g:List GTie)(e b:Int)(c d:List Int):(Int × (List Int))→St
 | (f,a)=>⟨[(3,.ptr 192 1 0 0),(5,.ref 383 1 0 a.length),(9,.sl (ae GTie.enc g)),(10,.lit (.int .i64 e)),(11,.lit (.int .i64 f))],[(192,1,.var [.lit (.int .i64 b),.sl (ae eI c),.sl (ae eI d)]),(383,1,.row true (ae eI a))],2⟩
attribute [go_sem] qg
attribute [go_sem] Tryz.ntmps143 Tryz.results143
theorem vX {s:GShow}{v1:GState}{res:List Int}(h:iy s v1=some res):ao Tryz.prog 143 [.agg (GShow.encS s),.agg (GState.encS v1)] [] (.ref 20000 1 0 res.length) [(20000,1,.row true (ae eI res))]:=by
 refine ak (ra:=[.home 4]) (md:=mdT) hT (hi:=hi00) Tryz.func143 rfl rfl (by decide +kernel) (by simp) ?_
 unfold iy at h
 obtain ⟨q04,l1,h⟩:=ab h
 simp(config:=cS)only[go_sem]
 refine al (m1:=.mk) (m2:=.mk) [.home 5,.nf [3,5,9,10,11] [192,383]] (qg s.ties ((s.ties.length:Nat):Int) v1.now v1.times v1.values) l1 ?_ ?_
 ·simp(config:=cS)only[go_sem]
 ·intro nb2 sb2 bb2 b2 gb2
  obtain ⟨v11_1,out_1⟩:=sb2
  unfold hU at b2
  try dsimp only at b2
  obtain ⟨h3,b2⟩|⟨h3,b2⟩:=af b2
  ·obtain ⟨x01,g4,b2⟩:=ab b2
   obtain ⟨h5,h6,h7⟩:=ai g4
   obtain ⟨h8,b2⟩|⟨h8,b2⟩:=af b2
   ·obtain ⟨x02,g9,b2⟩:=ab b2
    obtain ⟨h10,h11,h12⟩:=ai g9
    obtain ⟨h13,b2⟩|⟨h13,b2⟩:=af b2
    ·cases b2
     simp(config:=cS)only[go_sem,eqT h3,h5,h6,h7,eZt h8,h10,h11,h12,eqT h13]
     refine an gb2 ?_
     simp(config:=cS)only[go_sem]
    ·obtain ⟨x03,g14,b2⟩:=ab b2
     obtain ⟨h15,h16,h17⟩:=ai g14
     obtain ⟨h18,b2⟩|⟨h18,b2⟩:=af b2
     ·obtain ⟨h19,b2⟩:=ah b2
      obtain ⟨h20,b2⟩:=ah b2
      cases b2
      simp(config:=cS)only[go_sem,eqT h3,h5,h6,h7,eZt h8,h10,h11,h12,eqF h13,h15,h16,h17,eqT h18,eqT h19,eqT h20]
      refine an gb2 ?_
      simp(config:=cS)only[go_sem]
     ·cases b2
      simp(config:=cS)only[go_sem,eqT h3,h5,h6,h7,eZt h8,h10,h11,h12,eqF h13,h15,h16,h17,eqF h18]
      refine an gb2 ?_
      simp(config:=cS)only[go_sem]
   ·cases b2
    simp(config:=cS)only[go_sem,eqT h3,h5,h6,h7,eZf h8]
    refine an gb2 ?_
    simp(config:=cS)only[go_sem]
  ·cases b2
   obtain rfl:=(aj gb2).symm
   try dsimp only at h
   cases h
   simp(config:=cS)only[go_sem,eqF h3]
def pd (b:Int)(d:List Int)(e:Int):(Int × (List Int))→St
 | (c,a)=>⟨[(1,.lit (.int .i64 b)),(5,.ref 383 1 0 a.length),(8,.sl (ae eI d)),(9,.lit (.int .i64 e)),(10,.lit (.int .i64 c))],[(383,1,.row true (ae eI a))],2⟩
attribute [go_sem] pd
attribute [go_sem] Tryz.ntmps153 Tryz.results153
theorem vd {list:List Int}{set:Int}{res:List Int}(h:gN list set=some res):ao Tryz.prog 153 [.sl (ae eI list),.lit (.int .i64 set)] [] (.ref 20000 1 0 res.length) [(20000,1,.row true (ae eI res))]:=by
 refine ak (ra:=[.home 4]) (md:=mdT) hT (hi:=hi00) Tryz.func153 rfl rfl (by decide +kernel) (by simp) ?_
 unfold gN at h
 obtain ⟨q02,l1,h⟩:=ab h
 simp(config:=cS)only[go_sem]
 refine al (m1:=.mk) (m2:=.mk) [.home 5,.nf [1,5,8,9,10] [383]] (pd set list ((list.length:Nat):Int)) l1 ?_ ?_
 ·simp(config:=cS)only[go_sem]
 ·intro nb2 sb2 bb2 b2 gb2
  obtain ⟨v10_1,out_1⟩:=sb2
  unfold gk at b2
  try dsimp only at b2
  obtain ⟨h3,b2⟩|⟨h3,b2⟩:=af b2
  ·obtain ⟨x01,g4,b2⟩:=ab b2
   obtain ⟨h5,h6,h7⟩:=ai g4
   obtain ⟨h8,b2⟩:=ah b2
   obtain ⟨h9,b2⟩|⟨h9,b2⟩:=af b2
   ·obtain ⟨h10,b2⟩:=ah b2
    obtain ⟨h11,b2⟩:=ah b2
    cases b2
    simp(config:=cS)only[go_sem,eqT h3,h5,h6,h7,eqF h8,eqT h9,eqT h10,eqT h11]
    refine an gb2 ?_
    simp(config:=cS)only[go_sem]
   ·cases b2
    simp(config:=cS)only[go_sem,eqT h3,h5,h6,h7,eqF h8,eqF h9]
    refine an gb2 ?_
    simp(config:=cS)only[go_sem]
  ·cases b2
   obtain rfl:=(aj gb2).symm
   try dsimp only at h
   cases h
   simp(config:=cS)only[go_sem,eqF h3]
attribute [go_sem] Tryz.ntmps222 Tryz.results222
theorem xG {v1:Int}{res:List Int × Nat}(h:gl v1=some res):ao Tryz.prog 222 [.lit (.slice none 0 0),.lit (.int .i64 v1)] [] (.ref 20000 1 0 res.2) [(20000,1,.row true (ae eI res.1))]:=by
 refine ak (ra:=[.home 4]) (md:=mdT) hT (hi:=hi00) Tryz.func222 rfl rfl (by decide +kernel) (by simp) ?_
 unfold gl at h
 obtain ⟨h1,h⟩|⟨h1,h⟩:=af h
 ·cases h
 ·obtain ⟨h2,h⟩|⟨h2,h⟩:=af h
  ·obtain ⟨h3,h⟩:=ah h
   obtain ⟨h4,h⟩:=ah h
   obtain ⟨h5,h⟩:=ah h
   cases h
   simp(config:=cS)only[go_sem,eqF h1,eqT h2,eqT h3,eqT h4,eqT h5]
  ·cases h
   simp(config:=cS)only[go_sem,eqF h1,eqF h2]
def kD (a:List (List Int))(b:Int):(Int × Int)→St
 | (d,c)=>⟨[(0,.sl (ae (eLS eI) a)),(3,.lit (.int .i64 d)),(9,.sl (ae (eLS eI) a)),(10,.lit (.int .i64 b)),(11,.lit (.int .i64 c))],[],2⟩
attribute [go_sem] kD
def kE (b:List (List Int))(c:Int):(Nat × Int × (List Int))→St
 | (a,d,e)=>⟨[(6,.ref 1536 1 0 a),(25,.sl (ae (eLS eI) b)),(26,.lit (.int .i64 c)),(27,.lit (.int .i64 d))],[(1536,1,.row true (ae eI e))],2⟩
attribute [go_sem] kE
attribute [go_sem] Tryz.ntmps152 Tryz.results152
theorem wm {v0:List (List Int)}{res:List Int}(h:eN v0=some res):ao Tryz.prog 152 [.sl (ae (eLS eI) v0)] [] (.ref 20000 1 0 res.length) [(20000,1,.row true (ae eI res))]:=by
 refine ak (ra:=[.home 2,.trimT 2]) (md:=mdT) hT (hi:=hi00) Tryz.func152 rfl rfl (by decide +kernel) (by simp) ?_
 unfold eN at h
 obtain ⟨q05,l1,h⟩:=ab h
 simp(config:=cS)only[go_sem]
 refine al (m1:=.mk) (m2:=.mk) [.nf [0,3,9,10,11] []] (kD v0 ((v0.length:Nat):Int)) l1 ?_ ?_
 ·simp(config:=cS)only[go_sem]
 ·intro nb2 sb2 bb2 b2 gb2
  obtain ⟨v3_1,v11_1⟩:=sb2
  unfold df at b2
  try dsimp only at b2
  obtain ⟨h3,b2⟩|⟨h3,b2⟩:=af b2
  ·obtain ⟨x01,g4,b2⟩:=ab b2
   obtain ⟨h5,h6,h7⟩:=ai g4
   obtain ⟨h8,b2⟩|⟨h8,b2⟩:=af b2
   ·cases b2
   ·cases b2
    simp(config:=cS)only[go_sem,eqT h3,h5,h6,h7,eqF h8]
    refine an gb2 ?_
    simp(config:=cS)only[go_sem]
  ·cases b2
   obtain rfl:=(aj gb2).symm
   try dsimp only at h
   obtain ⟨r02,g10,h⟩:=ab h
   simp(config:=cS)only[go_sem,eqF h3]
   refine ag (xG g10) ?_
   obtain ⟨q04,l11,h⟩:=ab h
   simp(config:=cS)only[go_sem]
   refine al (m1:=.mk) (m2:=.mk) [.nf [6,25,26,27] [1536]] (kE v0 ((v0.length:Nat):Int)) l11 ?_ ?_
   ·simp(config:=cS)only[go_sem]
   ·intro nb12 sb12 bb12 b12 gb12
    obtain ⟨v6_n_2,v27_2,v6_2⟩:=sb12
    unfold dg at b12
    try dsimp only at b12
    obtain ⟨h13,b12⟩|⟨h13,b12⟩:=af b12
    ·obtain ⟨x03,g14,b12⟩:=ab b12
     obtain ⟨h15,h16,h17⟩:=ai g14
     obtain ⟨h18,b12⟩|⟨h18,b12⟩:=af b12
     ·obtain ⟨h19,b12⟩:=ah b12
      obtain ⟨h20,b12⟩:=ah b12
      cases b12
      simp(config:=cS)only[go_sem,eqT h13,h15,h16,h17,eqT h18,eqT h19,eqT h20]
      refine an gb12 ?_
      simp(config:=cS)only[go_sem]
     ·obtain ⟨h21,b12⟩:=ah b12
      obtain ⟨h22,b12⟩|⟨h22,b12⟩:=af b12
      ·cases b12
       simp(config:=cS)only[go_sem,eqT h13,h15,h16,h17,eqF h18,eqT h21,eqT h22]
       refine an gb12 ?_
       simp(config:=cS)only[go_sem]
      ·obtain ⟨h23,b12⟩:=ah b12
       obtain ⟨h24,b12⟩:=ah b12
       cases b12
       simp(config:=cS)only[go_sem,eqT h13,h15,h16,h17,eqF h18,eqT h21,eqF h22,eqT h23,eqT h24]
       refine an gb12 ?_
       simp(config:=cS)only[go_sem]
    ·cases b12
     obtain rfl:=(aj gb12).symm
     try dsimp only at h
     obtain ⟨h26,h⟩:=ah h
     obtain ⟨h27,h⟩:=ah h
     cases h
     simp(config:=cS)only[go_sem,eqF h13,eqT h26,eqT h27]
attribute [go_sem] Tryz.ntmps259 Tryz.results259
theorem Ee {v0 res:Int}(h:tq v0=some res):ao Tryz.prog 259 [.lit (.int .u64 v0)] [] (.lit (.int .i64 res)) []:=by
 refine ak (ra:=[]) (md:=mdT) hT (hi:=hi00) Tryz.func259 rfl rfl (by decide +kernel) (by simp) ?_
 unfold tq at h
 obtain ⟨h1,h⟩|⟨h1,h⟩:=af h
 ·obtain ⟨h2,h⟩|⟨h2,h⟩:=af h
  ·obtain ⟨h3,h⟩|⟨h3,h⟩:=af h
   ·obtain ⟨c1001,g4,h⟩:=ab h
    obtain ⟨h5,h6,h7⟩:=gC g4
    cases h
    simp(config:=cS)only[go_sem,eqT h1,eqT h2,eqT h3,h5,h6,h7]
   ·obtain ⟨c1002,g8,h⟩:=ab h
    obtain ⟨h9,h10,h11⟩:=gC g8
    cases h
    simp(config:=cS)only[go_sem,eqT h1,eqT h2,eqF h3,h9,h10,h11]
  ·obtain ⟨h12,h⟩|⟨h12,h⟩:=af h
   ·obtain ⟨c1003,g13,h⟩:=ab h
    obtain ⟨h14,h15,h16⟩:=gC g13
    cases h
    simp(config:=cS)only[go_sem,eqT h1,eqF h2,eqT h12,h14,h15,h16]
   ·obtain ⟨c1004,g17,h⟩:=ab h
    obtain ⟨h18,h19,h20⟩:=gC g17
    cases h
    simp(config:=cS)only[go_sem,eqT h1,eqF h2,eqF h12,h18,h19,h20]
 ·obtain ⟨h21,h⟩|⟨h21,h⟩:=af h
  ·obtain ⟨h22,h⟩|⟨h22,h⟩:=af h
   ·obtain ⟨c1005,g23,h⟩:=ab h
    obtain ⟨h24,h25,h26⟩:=gC g23
    cases h
    simp(config:=cS)only[go_sem,eqF h1,eqT h21,eqT h22,h24,h25,h26]
   ·obtain ⟨c1006,g27,h⟩:=ab h
    obtain ⟨h28,h29,h30⟩:=gC g27
    cases h
    simp(config:=cS)only[go_sem,eqF h1,eqT h21,eqF h22,h28,h29,h30]
  ·obtain ⟨h31,h⟩|⟨h31,h⟩:=af h
   ·obtain ⟨c1007,g32,h⟩:=ab h
    obtain ⟨h33,h34,h35⟩:=gC g32
    cases h
    simp(config:=cS)only[go_sem,eqF h1,eqF h21,eqT h31,h33,h34,h35]
   ·obtain ⟨c1008,g36,h⟩:=ab h
    obtain ⟨h37,h38,h39⟩:=gC g36
    cases h
    simp(config:=cS)only[go_sem,eqF h1,eqF h21,eqF h31,h37,h38,h39]
attribute [go_sem] Tryz.ntmps224 Tryz.results224
theorem GP {v0 res:Int}(h:sJ v0=some res):ao Tryz.prog 224 [.lit (.int .u64 v0)] [] (.lit (.int .i64 res)) []:=by
 refine ak (ra:=[]) (md:=mdT) hT (hi:=hi00) Tryz.func224 rfl rfl (by decide +kernel) (by simp) ?_
 unfold sJ at h
 obtain ⟨r01,g1,h⟩:=ab h
 simp(config:=cS)only[go_sem]
 refine ag (Ee g1) ?_
 cases h
 simp(config:=cS)only[go_sem]
attribute [go_sem] Tryz.ntmps272 Tryz.results272
theorem uf {v0:Int}{res:Bool}(h:iI v0=some res):ao Tryz.prog 272 [.lit (.int .i64 v0)] [] (.lit (.bool res)) []:=by
 refine ak (ra:=[]) (md:=mdT) hT (hi:=hi00) Tryz.func272 rfl rfl (by decide +kernel) (by simp) ?_
 unfold iI at h
 cases h
 simp(config:=cS)only[go_sem]
attribute [go_sem] Tryz.ntmps255 Tryz.results255
theorem Be {v0 v1:Int}{res:Bool}(h:jw v0 v1=some res):ao Tryz.prog 255 [.lit (.int .i64 v0),.lit (.int .i64 v1)] [] (.lit (.bool res)) []:=by
 refine ak (ra:=[]) (md:=mdT) hT (hi:=hi00) Tryz.func255 rfl rfl (by decide +kernel) (by simp) ?_
 unfold jw at h
 obtain ⟨r01,g1,h⟩:=ab h
 simp(config:=cS)only[go_sem]
 refine ag (uf g1) ?_
 obtain ⟨h2,h⟩|⟨h2,h⟩:=af h
 ·obtain ⟨r02,g3,h⟩:=ab h
  simp(config:=cS)only[go_sem,eZt h2]
  refine ag (uf g3) ?_
  obtain ⟨h4,h⟩|⟨h4,h⟩:=af h
  ·cases h
   simp(config:=cS)only[go_sem,eZt h2,eZt h4]
  ·cases h
   simp(config:=cS)only[go_sem,eZt h2,eZf h4]
 ·cases h
  simp(config:=cS)only[go_sem,eZf h2]
def ex (a:Bool)(c d e:Int):(Int × (List Int))→St
 | (f,b)=>⟨[(0,.ref 10000 0 0 b.length),(1,.lit (.int .i64 c)),(2,.lit (.int .i64 d)),(6,.lit (.int .i64 e)),(7,.lit (.int .i64 f))],[(10000,0,.row a (ae eI b))],2⟩
attribute [go_sem] ex
def ey (a:Bool)(c d:Int):(Int × (List Int))→St
 | (e,b)=>⟨[(0,.ref 10000 0 0 b.length),(1,.lit (.int .i64 c)),(2,.lit (.int .i64 d)),(6,.lit (.int .i64 e))],[(10000,0,.row a (ae eI b))],2⟩
attribute [go_sem] ey
@[go_sem] def hi249_6:DT:=.i2 0 (.i2 1 (.i2 2 (.i2 3 (.i2 4 (.i2 5 (.i2 6 (.i2 7 (.i2 8 (.i2 9 (.i2 10 (.i2 11 (.i2 12 (.i2 13 (.i2 14 (.i2 15 (.i2 16 (.i2 17 .nil)))))))))))))))))
@[go_sem] def hi249_4:DT:=.i2 0 (.i2 1 (.i2 2 (.i2 3 (.i2 4 (.i2 5 (.i2 6 (.i2 7 (.i2 8 (.i2 9 (.i2 10 (.i2 11 (.i2 12 (.i2 13 (.i2 14 .nil))))))))))))))
def zZ:Hint where
 acts:=fun _=>[]
 draws:=fun
  | 4=>⟨hi249_4,[[],[],[0,1],[0,1,2],[0,1,2,3],[0,1,2,3],.range 6,.range 7,[0,1,2,3],[0,1,2,3],[0,1,2,3,9],[0,1,2,3,8,9,10],[0,1,2,3,8,9,10,11],.range 13,.range 14],.range 15⟩
  | 6=>⟨hi249_6,[[],[],[],[],[3],[],[],[6],[5,6,7],[5,6,7,8],[],[],[10,11],[10,11,12],[0,1,5,6,7,8,9,10,11,12,13],[0,1,5,6,7,8,9,10,11,12,13,14],.range 16,.range 17],[0,1,13,14,15,2,3,4,5,6,7,8,9,10,11,12,16,17]⟩
  | _=>⟨.nil,[],[]⟩
theorem Nm (i:Nat):zZ.acts i=[]:=rfl
theorem Nn (i:Nat):zZ.views i=none:=rfl
attribute [go_sem] Nm Nn Tryz.ntmps249 Tryz.results249
@[go_sem] theorem QI:(zZ.draws 4).order=hi249_4:=rfl
@[go_sem] theorem QJ:(zZ.draws 6).order=hi249_6:=rfl
theorem ms {v0:List Int}{v1 v2:Int}{zb0:Bool}{res:List Int}(h:bv v0 v1 v2=some res):ao Tryz.prog 249 [.ref 10000 0 0 v0.length,.lit (.int .i64 v1),.lit (.int .i64 v2)] [(10000,0,.row zb0 (ae eI v0))] (.tup []) [(10000,0,.row zb0 (ae eI res))]:=by
 refine ak (ra:=[]) (md:=mdT) hT (hi:=zZ) Tryz.func249 rfl rfl (by decide +kernel) (by simp) ?_
 unfold bv at h
 obtain ⟨q06,l1,h⟩:=ab h
 simp(config:=cS)only[go_sem]
 refine al (m1:=.mk) (m2:=.mk) [.nf [0,1,2,6] [10000]] (ey zb0 v1 v2) l1 ?_ ?_
 ·simp(config:=cS)only[go_sem]
 ·intro nb2 sb2 bb2 b2 gb2
  obtain ⟨v6_1,v0_1⟩:=sb2
  unfold aY at b2
  try dsimp only at b2
  obtain ⟨h3,b2⟩|⟨h3,b2⟩:=af b2
  ·obtain ⟨q05,l4,b2⟩:=ab b2
   simp(config:=cS)only[go_sem,eqT h3]
   refine al (m1:=.mk) (m2:=.mk) [.nf [0,1,2,6,7] [10000]] (ex zb0 v1 v2 v6_1) l4 ?_ ?_
   ·simp(config:=cS)only[go_sem,eqT h3]
   ·intro nb5 sb5 bb5 b5 gb5
    obtain ⟨v7_2,v0_2⟩:=sb5
    unfold aL at b5
    try dsimp only at b5
    obtain ⟨h6,b5⟩|⟨h6,b5⟩:=af b5
    ·obtain ⟨x01,g7,b5⟩:=ab b5
     obtain ⟨h8,h9,h10⟩:=ai g7
     obtain ⟨x02,g11,b5⟩:=ab b5
     obtain ⟨h12,h13,h14⟩:=ai g11
     obtain ⟨r03,g15,b5⟩:=ab b5
     simp(config:=cS)only[go_sem,eqT h3,eqT h6,h8,h9,h10,h12,h13,h14]
     refine ag (Be g15) ?_
     obtain ⟨h16,b5⟩|⟨h16,b5⟩:=af b5
     ·obtain ⟨x04,g17,b5⟩:=ab b5
      obtain ⟨h18,h19,h20⟩:=ai g17
      cases b5
      simp(config:=cS)only[go_sem,eqT h3,eqT h6,h8,h9,h10,h12,h13,h14,eZt h16,h18,h19,h20]
      refine an gb5 ?_
      simp(config:=cS)only[go_sem,eqT h3,eqT h6,h8,h9,h10,h12,h13,h14,eZt h16,h18,h19,h20]
     ·cases b5
      obtain rfl:=(aj gb5).symm
      try dsimp only at b2
      cases b2
      simp(config:=cS)only[go_sem,eqT h3,eqT h6,h8,h9,h10,h12,h13,h14,eZf h16]
      refine an gb2 ?_
      simp(config:=cS)only[go_sem,eqT h3,eqT h6,h8,h9,h10,h12,h13,h14,eZf h16]
    ·cases b5
     obtain rfl:=(aj gb5).symm
     try dsimp only at b2
     cases b2
     simp(config:=cS)only[go_sem,eqT h3,eqF h6]
     refine an gb2 ?_
     simp(config:=cS)only[go_sem,eqT h3,eqF h6]
  ·cases b2
   obtain rfl:=(aj gb2).symm
   try dsimp only at h
   cases h
   simp(config:=cS)only[go_sem,eqF h3]
def gF (a:Bool)(c d e:Int)(b:List Int)(_:Unit):St:=⟨[(0,.ref 10000 0 0 b.length),(1,.lit (.int .i64 c)),(2,.lit (.int .i64 d)),(3,.lit (.int .i64 e)),(8,.lit (.bool true)),(9,.lit (.bool true))],[(10000,0,.row a (ae eI b))],2⟩
attribute [go_sem] gF
@[go_sem] def hi223_17:DT:=.i2 0 (.i2 1 (.i2 2 (.i2 3 (.i2 4 (.i2 5 (.i2 6 (.i2 7 (.i2 8 (.i2 9 (.i2 10 (.i2 11 (.i2 12 (.i2 13 (.i2 14 .nil))))))))))))))
def Ds:Hint where
 acts:=fun _=>[]
 draws:=fun
  | 17=>⟨hi223_17,[[],[0],[0,1],[0,1,2],[0,1,2],[0,1,2,4],.range 6,.range 7,[0,1,2],[0,1,2],[0,1,2,8,9],[0,1,2,8,9,10],.range 12,.range 13,.range 14],.range 15⟩
  | _=>⟨.nil,[],[]⟩
theorem No (i:Nat):Ds.acts i=[]:=rfl
theorem Np (i:Nat):Ds.views i=none:=rfl
attribute [go_sem] No Np Tryz.ntmps223 Tryz.results223
@[go_sem] theorem Qf:(Ds.draws 17).order=hi223_17:=rfl
theorem ru {v0:List Int}{v1 v2 v3:Int}{zb0:Bool}{res:List Int}(h:bU v0 v1 v2 v3=some res):ao Tryz.prog 223 [.ref 10000 0 0 v0.length,.lit (.int .i64 v1),.lit (.int .i64 v2),.lit (.int .i64 v3)] [(10000,0,.row zb0 (ae eI v0))] (.tup []) [(10000,0,.row zb0 (ae eI res))]:=by
 refine ak (ra:=[]) (md:=mdT) hT (hi:=Ds) Tryz.func223 rfl rfl (by decide +kernel) (by simp) ?_
 unfold bU at h
 obtain ⟨q02,l1,h⟩:=ab h
 simp(config:=cS)only[go_sem]
 refine al (m1:=.mk) (m2:=.mk) [.nf [0,1,2,3,8,9] [10000]] (gF zb0 v1 v2 v3 v0) l1 ?_ ?_
 ·simp(config:=cS)only[go_sem]
 ·intro nb2 sb2 bb2 b2 gb2
  unfold dQ at b2
  try dsimp only at b2
  obtain ⟨h3,b2⟩|⟨h3,b2⟩:=af b2
  ·obtain ⟨r01,g4,b2⟩:=ab b2
   simp(config:=cS)only[go_sem,eqT h3]
   refine ag (ms g4) ?_
   cases b2
   obtain rfl:=(aj gb2).symm
   try dsimp only at h
   cases h
   simp(config:=cS)only[go_sem]
  ·cases b2
attribute [go_sem] Tryz.ntmps154 Tryz.results154
theorem sk {v0:List Int}{zb0:Bool}{res:List Int}(h:bM v0=some res):ao Tryz.prog 154 [.ref 10000 0 0 v0.length] [(10000,0,.row zb0 (ae eI v0))] (.tup []) [(10000,0,.row zb0 (ae eI res))]:=by
 refine ak (ra:=[]) (md:=mdT) hT (hi:=hi00) Tryz.func154 rfl rfl (by decide +kernel) (by simp) ?_
 unfold bM at h
 obtain ⟨r01,g1,h⟩:=ab h
 simp(config:=cS)only[go_sem]
 refine ag (GP g1) ?_
 obtain ⟨r02,g2,h⟩:=ab h
 simp(config:=cS)only[go_sem]
 refine ag (ru g2) ?_
 cases h
 simp(config:=cS)only[go_sem]
def pf (g:Int)(h:List GNode)(i:List GTie)(j d:Int)(e f b:List Int):(Int × (List Int) × (List Int))→St
 | (k,a,c)=>⟨[(2,.ptr 128 1 0 0),(3,.ptr 192 1 0 0),(5,.ref 383 1 0 a.length),(6,.ref 447 1 0 c.length),(20,.ref 1280 1 0 b.length),(21,.lit (.int .i64 g)),(22,.lit (.int .i64 k))],[(128,1,.var [.sl (ae GNode.encS h),.sl (ae GTie.enc i),.lit (.int .i64 j)]),(192,1,.var [.lit (.int .i64 d),.sl (ae eI e),.sl (ae eI f)]),(383,1,.row true (ae eI a)),(447,1,.row true (ae eI c)),(1280,1,.row true (ae eI b))],2⟩
attribute [go_sem] pf
def pg (a b:List Int):(Int × (List (List Int)))→St
 | (d,c)=>⟨[(5,.ref 383 1 0 a.length),(6,.ref 447 1 0 b.length),(10,.ref 703 1 0 c.length),(11,.lit (.int .i64 d))],[(383,1,.tree (ae eI a)),(447,1,.row true (ae eI b)),(703,1,.row true (ae (eLO eI) c))],2⟩
attribute [go_sem] pg
@[go_sem] def hi68_7:DT:=.i2 0 (.i2 1 (.i2 2 (.i2 3 (.i2 4 (.i2 5 (.i2 6 (.i2 7 (.i2 8 (.i2 9 (.i2 10 (.i2 11 (.i2 12 (.i2 13 .nil)))))))))))))
def hi68:Hint where
 acts:=fun _=>[]
 draws:=fun
  | 7=>⟨hi68_7,[[],[0],[],[2],[],[4],[],[4,5,6],[4,5,6,7],[4,5,6,7,8],[2,3,4,5,6,7,8,9],[2,3,4,5,6,7,8,9,10],.range 12,.range 13],.range 14⟩
  | _=>⟨.nil,[],[]⟩
theorem Pj (i:Nat):hi68.acts i=[]:=rfl
theorem Pk (i:Nat):hi68.views i=none:=rfl
attribute [go_sem] Pj Pk Tryz.ntmps68 Tryz.results68
@[go_sem] theorem RE:(hi68.draws 7).order=hi68_7:=rfl
theorem lx {s:GShow}{v1:GState}{res:List (List Int)}(h:fi s v1=some res):ao Tryz.prog 68 [.agg (GShow.encS s),.agg (GState.encS v1)] [] (.ref 20000 1 0 res.length) [(20000,1,.row true (ae (eLO eI) res))]:=by
 refine ak (ra:=[.home 4]) (md:=mdT) hT (hi:=hi68) Tryz.func68 rfl rfl (by decide +kernel) (by simp) ?_
 unfold fi at h
 obtain ⟨h1,h⟩|⟨h1,h⟩:=af h
 ·cases h
  simp(config:=cS)only[go_sem,eqT h1]
 ·obtain ⟨r01,g2,h⟩:=ab h
  simp(config:=cS)only[go_sem,eqF h1]
  refine ag (vX g2) ?_
  obtain ⟨q09,l3,h⟩:=ab h
  simp(config:=cS)only[go_sem]
  refine al (m1:=.mk) (m2:=.mk) [.home 5,.home 6,.nf [2,3,5,6,20,21,22] [128,192,383,447,1280]] (pf ((r01.length:Nat):Int) s.nodes s.ties s.horizon v1.now v1.times v1.values r01) l3 ?_ ?_
  ·simp(config:=cS)only[go_sem]
  ·intro nb4 sb4 bb4 b4 gb4
   obtain ⟨v22_1,must_1,may_1⟩:=sb4
   unfold gm at b4
   try dsimp only at b4
   obtain ⟨h5,b4⟩|⟨h5,b4⟩:=af b4
   ·obtain ⟨x02,g6,b4⟩:=ab b4
    obtain ⟨h7,h8,h9⟩:=ai g6
    obtain ⟨x03,g10,b4⟩:=ab b4
    obtain ⟨h11,h12,h13⟩:=ai g10
    obtain ⟨x04,g14,b4⟩:=ab b4
    obtain ⟨h15,h16,h17⟩:=ai g14
    obtain ⟨h18,b4⟩|⟨h18,b4⟩:=af b4
    ·obtain ⟨h19,b4⟩:=ah b4
     obtain ⟨h20,b4⟩:=ah b4
     cases b4
     simp(config:=cS)only[go_sem,eqT h5,h7,h8,h9,h11,h12,h13,h15,h16,h17,eqT h18,eqT h19,eqT h20]
     refine an gb4 ?_
     simp(config:=cS)only[go_sem]
    ·obtain ⟨h21,b4⟩|⟨h21,b4⟩:=af b4
     ·obtain ⟨h22,b4⟩:=ah b4
      obtain ⟨h23,b4⟩:=ah b4
      cases b4
      simp(config:=cS)only[go_sem,eqT h5,h7,h8,h9,h11,h12,h13,h15,h16,h17,eqF h18,eqT h21,eqT h22,eqT h23]
      refine an gb4 ?_
      simp(config:=cS)only[go_sem]
     ·cases b4
      simp(config:=cS)only[go_sem,eqT h5,h7,h8,h9,h11,h12,h13,h15,h16,h17,eqF h18,eqF h21]
      refine an gb4 ?_
      simp(config:=cS)only[go_sem]
   ·cases b4
    obtain rfl:=(aj gb4).symm
    try dsimp only at h
    obtain ⟨q08,l25,h⟩:=ab h
    simp(config:=cS)only[go_sem,eqF h5]
    refine al (m1:=.mk) (m2:=.mk) [.home 10,.freeze [383],.nf [5,6,10,11] [383,447,703]] (pg must_1 may_1) l25 ?_ ?_
    ·simp(config:=cS)only[go_sem]
    ·intro nb26 sb26 bb26 b26 gb26
     obtain ⟨set_2,out_2⟩:=sb26
     unfold gn at b26
     try dsimp only at b26
     obtain ⟨h27,b26⟩:=ah b26
     obtain ⟨h28,b26⟩|⟨h28,b26⟩:=af b26
     ·obtain ⟨r05,g29,b26⟩:=ab b26
      simp(config:=cS)only[go_sem,eqF h27,eqT h28]
      refine ag (vd g29) ?_
      obtain ⟨r06,g30,b26⟩:=ab b26
      simp(config:=cS)only[go_sem]
      refine ag (wm g30) ?_
      obtain ⟨r07,g31,b26⟩:=ab b26
      simp(config:=cS)only[go_sem]
      refine ag (sk g31) ?_
      obtain ⟨h32,b26⟩:=ah b26
      obtain ⟨h33,b26⟩:=ah b26
      obtain ⟨h34,b26⟩:=ah b26
      cases b26
      simp(config:=cS)only[go_sem,h32.symm,eqT h33,eqT h34]
      refine an gb26 ?_
      simp(config:=cS)only[go_sem]
     ·cases b26
      obtain rfl:=(aj gb26).symm
      try dsimp only at h
      cases h
      simp(config:=cS)only[go_sem,eqF h27,eqF h28]
def iT (c:List (List Int))(a:Nat)(b:List AV)(d e:Int):St:=⟨[(0,.sl (ae (eLS eI) c)),(1,.fn a b),(7,.lit (.int .i64 d)),(8,.lit (.int .i64 e))],[],2⟩
attribute [go_sem] iT
attribute [go_sem] Tryz.ntmps172 Tryz.results172
theorem tN {v0:List (List Int)}{v1:(List Int)→Option Bool}{f_v1:Nat}{k_v1:List AV}(hp_v1:∀ y0 r,v1 y0=some r→ao Tryz.prog f_v1 ([.sl (ae eI y0)]++k_v1) [] (.lit (.bool r)) [])(hc_v1:KC k_v1)(hm_v1:∀ a,mdT f_v1 a=⟨[],false⟩)(hk_v1:spf f_v1=false){res:Int}(h:cP v0 v1=some res):ao Tryz.prog 172 [.sl (ae (eLS eI) v0),.fn f_v1 k_v1] [] (.lit (.int .i64 res)) []:=by
 refine ak (ra:=[]) (md:=mdT) hT (hi:=hi00) Tryz.func172 rfl rfl (by decide +kernel) (by simp) ?_
 unfold cP at h
 obtain ⟨q03,l1,h⟩:=ab h
 simp(config:=cS)only[go_sem,hc_v1.1,hc_v1.2,hm_v1,hk_v1]
 refine al (m1:=.mk) (m2:=.mk) [.nf [0,1,7,8] []] (iT v0 f_v1 k_v1 ((v0.length:Nat):Int)) l1 ?_ ?_
 ·simp(config:=cS)only[go_sem,hc_v1.1,hc_v1.2,hm_v1,hk_v1]
 ·intro nb2 v8_1 bb2 b2 gb2
  unfold bD at b2
  try dsimp only at b2
  obtain ⟨h3,b2⟩|⟨h3,b2⟩:=af b2
  ·obtain ⟨x01,g4,b2⟩:=ab b2
   obtain ⟨h5,h6,h7⟩:=ai g4
   obtain ⟨r02,g8,b2⟩:=ab b2
   simp(config:=cS)only[go_sem,hc_v1.1,hc_v1.2,hm_v1,hk_v1,eqT h3,h5,h6,h7]
   refine ag (hp_v1 _ _ g8) ?_
   obtain ⟨h9,b2⟩|⟨h9,b2⟩:=af b2
   ·cases b2
    obtain rfl:=(aj gb2).symm
    try dsimp only at h
    cases h
    simp(config:=cS)only[go_sem,hc_v1.1,hc_v1.2,hm_v1,hk_v1,eqT h3,h5,h6,h7,eZt h9]
   ·cases b2
    simp(config:=cS)only[go_sem,hc_v1.1,hc_v1.2,hm_v1,hk_v1,eqT h3,h5,h6,h7,eZf h9]
    refine an gb2 ?_
    simp(config:=cS)only[go_sem,hc_v1.1,hc_v1.2,hm_v1,hk_v1,eqT h3,h5,h6,h7,eZf h9]
  ·cases b2
   obtain rfl:=(aj gb2).symm
   try dsimp only at h
   cases h
   simp(config:=cS)only[go_sem,hc_v1.1,hc_v1.2,hm_v1,hk_v1,eqF h3]
attribute [go_sem] Tryz.ntmps163 Tryz.results163
theorem rU {v0:List (List Int)}{v1:(List Int)→Option Bool}{f_v1:Nat}{k_v1:List AV}(hp_v1:∀ y0 r,v1 y0=some r→ao Tryz.prog f_v1 ([.sl (ae eI y0)]++k_v1) [] (.lit (.bool r)) [])(hc_v1:KC k_v1)(hm_v1:∀ a,mdT f_v1 a=⟨[],false⟩)(hk_v1:spf f_v1=false){res:Bool}(h:dl v0 v1=some res):ao Tryz.prog 163 [.sl (ae (eLS eI) v0),.fn f_v1 k_v1] [] (.lit (.bool res)) []:=by
 refine ak (ra:=[]) (md:=mdT) hT (hi:=hi00) Tryz.func163 rfl rfl (by decide +kernel) (by simp) ?_
 unfold dl at h
 obtain ⟨r01,g1,h⟩:=ab h
 simp(config:=cS)only[go_sem,hc_v1.1,hc_v1.2,hm_v1,hk_v1]
 refine ag (tN hp_v1 hc_v1 hm_v1 hk_v1 g1) ?_
 cases h
 simp(config:=cS)only[go_sem,hc_v1.1,hc_v1.2,hm_v1,hk_v1]
attribute [go_sem] Tryz.ntmps164 Tryz.results164
theorem CA {y v1:List Int}{res:Bool}(h:mK y v1=some res):ao Tryz.prog 164 [.sl (ae eI y),.loc [.sl (ae eI v1)]] [] (.lit (.bool res)) []:=by
 refine ak (ra:=[]) (md:=mdT) hT (hi:=hi00) Tryz.func164 rfl rfl (by decide +kernel) (by simp) ?_
 unfold mK at h
 obtain ⟨r01,g1,h⟩:=ab h
 simp(config:=cS)only[go_sem]
 refine ag (fB g1) ?_
 cases h
 simp(config:=cS)only[go_sem]
attribute [go_sem] Tryz.ntmps73 Tryz.results73
theorem sI {list:List (List Int)}{v1:List Int}{res:Bool}(h:jS list v1=some res):ao Tryz.prog 73 [.sl (ae (eLS eI) list),.sl (ae eI v1)] [] (.lit (.bool res)) []:=by
 refine ak (ra:=[]) (md:=mdT) hT (hi:=hi00) Tryz.func73 rfl rfl (by decide +kernel) (by simp) ?_
 unfold jS at h
 obtain ⟨r01,g1,h⟩:=ab h
 simp(config:=cS)only[go_sem]
 refine ag (rU (by exact fun _ _ hr=>CA hr) (by refine ⟨fun _=>?_,fun _=>?_⟩ <;> simp only [go_sem]) (fun _=>rfl) rfl g1) ?_
 cases h
 simp(config:=cS)only[go_sem]
def rv (g:List Int)(h:Int)(i:List GNode)(j:List GTie)(k d:Int)(e f:List Int)(c:Int)(a:List Int):(Int × (List Int))→St
 | (l,b)=>⟨[(3,.ptr 192 1 0 0),(4,.ptr 256 1 0 0),(6,.ptr 384 1 0 0),(7,.ptr 448 1 0 0),(12,.sl (ae eI g)),(13,.lit (.int .i64 h)),(14,.lit (.int .i64 l))],[(192,1,.var [.sl (ae GNode.encS i),.sl (ae GTie.enc j),.lit (.int .i64 k)]),(256,1,.var [.lit (.int .i64 d),.sl (ae eI e),.sl (ae eI f)]),(384,1,.var [.lit (.int .i64 0),.lit (.slice none 0 0),.lit (.slice none 0 0)]),(448,1,.var [.lit (.int .i64 c),.ref 704 1 0 b.length,.ref 705 1 0 a.length]),(704,1,.row true (ae eI b)),(705,1,.row true (ae eI a))],2⟩
attribute [go_sem] rv
@[go_sem] def hi78_5:DT:=.i2 0 (.i2 1 (.i2 2 (.i2 3 (.i2 4 (.i2 5 (.i2 6 (.i2 7 (.i2 8 (.i2 9 (.i2 10 (.i2 11 .nil)))))))))))
def hi78:Hint where
 acts:=fun _=>[]
 draws:=fun
  | 5=>⟨hi78_5,[[],[0],[],[2],[],[2,3,4],[2,3,4,5],[2,3,4,5,6],[],[8],.range 10,.range 11],.range 12⟩
  | _=>⟨.nil,[],[]⟩
theorem Pl (i:Nat):hi78.acts i=[]:=rfl
theorem Pm (i:Nat):hi78.views i=none:=rfl
attribute [go_sem] Pl Pm Tryz.ntmps78 Tryz.results78
@[go_sem] theorem RF:(hi78.draws 5).order=hi78_5:=rfl
theorem ph {s:GShow}{v1:GState}{ties:List Int}{res:GState}(h:hX s v1 ties=some res):ao Tryz.prog 78 [.agg (GShow.encS s),.agg (GState.encS v1),.sl (ae eI ties)] [] (.agg [.lit (.int .i64 res.now),.ref 20000 1 0 res.times.length,.ref 20001 1 0 res.values.length]) [(20000,1,.row true (ae eI res.times)),(20001,1,.row true (ae eI res.values))]:=by
 refine ak (ra:=[.homeCell 384 1,.homeCell 384 2]) (md:=mdT) hT (hi:=hi78) Tryz.func78 rfl rfl (by decide +kernel) (by simp) ?_
 unfold hX at h
 obtain ⟨r01,g1,h⟩:=ab h
 simp(config:=cS)only[go_sem]
 refine ag (jQ g1) ?_
 obtain ⟨q05,l2,h⟩:=ab h
 simp(config:=cS)only[go_sem]
 refine al (m1:=.mk) (m2:=.mk) [.nf [3,4,6,7,12,13,14] [192,256,384,448,704,705]] (rv ties ((ties.length:Nat):Int) s.nodes s.ties s.horizon v1.now v1.times v1.values r01.now r01.values) l2 ?_ ?_
 ·simp(config:=cS)only[go_sem]
 ·intro nb3 sb3 bb3 b3 gb3
  obtain ⟨v14_1,h704_1⟩:=sb3
  unfold iJ at b3
  try dsimp only at b3
  obtain ⟨h4,b3⟩|⟨h4,b3⟩:=af b3
  ·obtain ⟨x02,g5,b3⟩:=ab b3
   obtain ⟨h6,h7,h8⟩:=ai g5
   obtain ⟨x03,g9,b3⟩:=ab b3
   obtain ⟨h10,h11,h12⟩:=ai g9
   obtain ⟨x04,g13,b3⟩:=ab b3
   obtain ⟨h14,h15,h16⟩:=ai g13
   cases b3
   simp(config:=cS)only[go_sem,eqT h4,h6,h7,h8,h10,h11,h12,h14,h15,h16]
   refine an gb3 ?_
   simp(config:=cS)only[go_sem]
  ·cases b3
   obtain rfl:=(aj gb3).symm
   try dsimp only at h
   cases h
   simp(config:=cS)only[go_sem,eqF h4]
attribute [go_sem] Tryz.ntmps273 Tryz.results273
theorem xH {t:GTie}{node:Int}{res:Bool}(h:iY t node=some res):ao Tryz.prog 273 [.agg (GTie.enc t),.loc [.lit (.int .i64 node)]] [] (.lit (.bool res)) []:=by
 refine ak (ra:=[]) (md:=mdT) hT (hi:=hi00) Tryz.func273 rfl rfl (by decide +kernel) (by simp) ?_
 unfold iY at h
 obtain ⟨h1,h⟩|⟨h1,h⟩:=af h
 ·cases h
  simp(config:=cS)only[go_sem,eZt h1]
 ·cases h
  simp(config:=cS)only[go_sem,eZf h1]
attribute [go_sem] Tryz.ntmps261 Tryz.results261
theorem Bf {s:GShow}{node res:Int}(h:jx s node=some res):ao Tryz.prog 261 [.agg (GShow.encS s),.lit (.int .i64 node)] [] (.lit (.int .i64 res)) []:=by
 refine ak (ra:=[]) (md:=mdT) hT (hi:=hi00) Tryz.func261 rfl rfl (by decide +kernel) (by simp) ?_
 unfold jx at h
 obtain ⟨r01,g1,h⟩:=ab h
 simp(config:=cS)only[go_sem]
 refine ag (mq (by exact fun _ _ hr=>xH hr) (by refine ⟨fun _=>?_,fun _=>?_⟩ <;> simp only [go_sem]) (fun _=>rfl) rfl g1) ?_
 cases h
 simp(config:=cS)only[go_sem]
def qh (b:List GNode)(c:List GTie)(d:Int):(Int × (List Int))→St
 | (i,a)=>⟨[(1,.ptr 64 1 0 0),(3,.ref 255 1 0 a.length),(4,.lit (.int .i64 i))],[(64,1,.var [.sl (ae GNode.encS b),.sl (ae GTie.enc c),.lit (.int .i64 d)]),(255,1,.row true (ae eI a))],2⟩
attribute [go_sem] qh
attribute [go_sem] Tryz.ntmps227 Tryz.results227
theorem CB {s:GShow}{res:List Int}(h:ki s=some res):ao Tryz.prog 227 [.agg (GShow.encS s)] [] (.ref 20000 1 0 res.length) [(20000,1,.row true (ae eI res))]:=by
 refine ak (ra:=[.home 2]) (md:=mdT) hT (hi:=hi00) Tryz.func227 rfl rfl (by decide +kernel) (by simp) ?_
 unfold ki at h
 obtain ⟨q02,l1,h⟩:=ab h
 simp(config:=cS)only[go_sem]
 refine al (m1:=.mk) (m2:=.mk) [.home 3,.nf [1,3,4] [64,255]] (qh s.nodes s.ties s.horizon) l1 ?_ ?_
 ·simp(config:=cS)only[go_sem]
 ·intro nb2 sb2 bb2 b2 gb2
  obtain ⟨i_1,out_1⟩:=sb2
  unfold hY at b2
  try dsimp only at b2
  obtain ⟨h3,b2⟩|⟨h3,b2⟩:=af b2
  ·obtain ⟨r01,g4,b2⟩:=ab b2
   simp(config:=cS)only[go_sem,eqT h3]
   refine ag (Bf g4) ?_
   obtain ⟨h5,b2⟩|⟨h5,b2⟩:=af b2
   ·obtain ⟨h6,b2⟩:=ah b2
    obtain ⟨h7,b2⟩:=ah b2
    cases b2
    simp(config:=cS)only[go_sem,eqT h5,eqT h6,eqT h7]
    refine an gb2 ?_
    simp(config:=cS)only[go_sem]
   ·cases b2
    simp(config:=cS)only[go_sem,eqF h5]
    refine an gb2 ?_
    simp(config:=cS)only[go_sem]
  ·cases b2
   obtain rfl:=(aj gb2).symm
   try dsimp only at h
   cases h
   simp(config:=cS)only[go_sem,eqF h3]
def iU (c:Bool)(a:Nat)(b:List AV):(Int × Int × (List Int))→St
 | (e,f,d)=>⟨[(0,.ref 10000 0 0 d.length),(1,.fn a b),(5,.lit (.int .i64 e)),(6,.lit (.int .i64 f))],[(10000,0,.row c (ae eI d))],2⟩
attribute [go_sem] iU
attribute [go_sem] Tryz.ntmps142 Tryz.results142
theorem lJ {v0:List Int}{v1:Int→Option Bool}{zb0:Bool}{f_v1:Nat}{k_v1:List AV}(hp_v1:∀ y0 r,v1 y0=some r→ao Tryz.prog f_v1 ([.lit (.int .i64 y0)]++k_v1) [] (.lit (.bool r)) [])(hc_v1:KC k_v1)(hm_v1:∀ a,mdT f_v1 a=⟨[],false⟩)(hk_v1:spf f_v1=false){res:List Int}(h:bX v0 v1=some res):ao Tryz.prog 142 [.ref 10000 0 0 v0.length,.fn f_v1 k_v1] [(10000,0,.row zb0 (ae eI v0))] (.ref 10000 0 0 res.length) [(10000,0,.row false (ae eI res))]:=by
 refine ak (ra:=[.home 4,.trim 4]) (md:=mdT) hT (hi:=hi00) Tryz.func142 rfl rfl (by decide +kernel) (by simp) ?_
 unfold bX at h
 obtain ⟨r01,g1,h⟩:=ab h
 simp(config:=cS)only[go_sem,hc_v1.1,hc_v1.2,hm_v1,hk_v1]
 refine ag (mr hp_v1 hc_v1 hm_v1 hk_v1 g1) ?_
 obtain ⟨h2,h⟩|⟨h2,h⟩:=af h
 ·cases h
  simp(config:=cS)only[go_sem,hc_v1.1,hc_v1.2,hm_v1,hk_v1,eqT h2]
 ·obtain ⟨q05,l3,h⟩:=ab h
  simp(config:=cS)only[go_sem,hc_v1.1,hc_v1.2,hm_v1,hk_v1,eqF h2]
  refine al (m1:=.mk) (m2:=.mk) [.nf [0,1,5,6] [10000]] (iU zb0 f_v1 k_v1) l3 ?_ ?_
  ·simp(config:=cS)only[go_sem,hc_v1.1,hc_v1.2,hm_v1,hk_v1,eqF h2]
  ·intro nb4 sb4 bb4 b4 gb4
   obtain ⟨v5_1,v6_1,v0_1⟩:=sb4
   unfold cd at b4
   try dsimp only at b4
   obtain ⟨h5,b4⟩|⟨h5,b4⟩:=af b4
   ·obtain ⟨x02,g6,b4⟩:=ab b4
    obtain ⟨h7,h8,h9⟩:=ai g6
    obtain ⟨r03,g10,b4⟩:=ab b4
    simp(config:=cS)only[go_sem,hc_v1.1,hc_v1.2,hm_v1,hk_v1,eqF h2,eqT h5,h7,h8,h9]
    refine ag (hp_v1 _ _ g10) ?_
    obtain ⟨h11,b4⟩|⟨h11,b4⟩:=af b4
    ·cases b4
     simp(config:=cS)only[go_sem,hc_v1.1,hc_v1.2,hm_v1,hk_v1,eqF h2,eqT h5,h7,h8,h9,eZt h11]
     refine an gb4 ?_
     simp(config:=cS)only[go_sem,hc_v1.1,hc_v1.2,hm_v1,hk_v1,eqF h2,eqT h5,h7,h8,h9,eZt h11]
    ·obtain ⟨x04,g12,b4⟩:=ab b4
     obtain ⟨h13,h14,h15⟩:=ai g12
     cases b4
     simp(config:=cS)only[go_sem,hc_v1.1,hc_v1.2,hm_v1,hk_v1,eqF h2,eqT h5,h7,h8,h9,eZf h11,h13,h14,h15]
     refine an gb4 ?_
     simp(config:=cS)only[go_sem,hc_v1.1,hc_v1.2,hm_v1,hk_v1,eqF h2,eqT h5,h7,h8,h9,eZf h11,h13,h14,h15]
   ·cases b4
    obtain rfl:=(aj gb4).symm
    try dsimp only at h
    obtain ⟨h17,h⟩:=ah h
    obtain ⟨h18,h⟩:=ah h
    obtain ⟨h19,h⟩:=ah h
    cases h
    simp(config:=cS)only[go_sem,hc_v1.1,hc_v1.2,hm_v1,hk_v1,eqF h2,eqF h5,eqT h17,eqT h18,eqT h19]
attribute [go_sem] Tryz.ntmps260 Tryz.results260
theorem Ef {l:Int}{v:List Int}{res:Int}(h:kT l v=some res):ao Tryz.prog 260 [.lit (.int .i64 l),.sl (ae eI v)] [] (.lit (.int .i64 res)) []:=by
 refine ak (ra:=[]) (md:=mdT) hT (hi:=hi00) Tryz.func260 rfl rfl (by decide +kernel) (by simp) ?_
 unfold kT at h
 obtain ⟨r01,g1,h⟩:=ab h
 simp(config:=cS)only[go_sem]
 refine ag (iq g1) ?_
 obtain ⟨x02,g2,h⟩:=ab h
 obtain ⟨h3,h4,h5⟩:=ai g2
 obtain ⟨h6,h⟩|⟨h6,h⟩:=af h
 ·cases h
  simp(config:=cS)only[go_sem,h3,h4,h5,eqT h6]
 ·cases h
  simp(config:=cS)only[go_sem,h3,h4,h5,eqF h6]
def lK (v a:List Int)(b:Int):(Int × Int)→St
 | (c,d)=>⟨[(1,.sl (ae eI v)),(5,.lit (.int .i64 c)),(16,.sl (ae eI a)),(17,.lit (.int .i64 b)),(18,.lit (.int .i64 d))],[],2⟩
attribute [go_sem] lK
attribute [go_sem] Tryz.ntmps226 Tryz.results226
theorem xI {l v:List Int}{res:Int}(h:eo l v=some res):ao Tryz.prog 226 [.sl (ae eI l),.sl (ae eI v)] [] (.lit (.int .i64 res)) []:=by
 refine ak (ra:=[]) (md:=mdT) hT (hi:=hi00) Tryz.func226 rfl rfl (by decide +kernel) (by simp) ?_
 unfold eo at h
 obtain ⟨r01,g1,h⟩:=ab h
 simp(config:=cS)only[go_sem]
 refine ag (jl g1) ?_
 obtain ⟨h2,h⟩|⟨h2,h⟩:=af h
 ·obtain ⟨r02,g3,h⟩:=ab h
  simp(config:=cS)only[go_sem,eZt h2]
  refine ag (ue g3) ?_
  obtain ⟨h4,h⟩|⟨h4,h⟩:=af h
  ·obtain ⟨q05,l5,h⟩:=ab h
   simp(config:=cS)only[go_sem,eZt h2,eZt h4]
   refine al (m1:=.mk) (m2:=.mk) [.nf [1,5,16,17,18] []] (lK v l ((l.length:Nat):Int)) l5 ?_ ?_
   ·simp(config:=cS)only[go_sem,eZt h2,eZt h4]
   ·intro nb6 sb6 bb6 b6 gb6
    obtain ⟨out_1,v18_1⟩:=sb6
    unfold dR at b6
    try dsimp only at b6
    obtain ⟨h7,b6⟩|⟨h7,b6⟩:=af b6
    ·obtain ⟨x03,g8,b6⟩:=ab b6
     obtain ⟨h9,h10,h11⟩:=ai g8
     obtain ⟨r04,g12,b6⟩:=ab b6
     simp(config:=cS)only[go_sem,eZt h2,eZt h4,eqT h7,h9,h10,h11]
     refine ag (Ef g12) ?_
     cases b6
     simp(config:=cS)only[go_sem,eZt h2,eZt h4,eqT h7,h9,h10,h11]
     refine an gb6 ?_
     simp(config:=cS)only[go_sem,eZt h2,eZt h4,eqT h7,h9,h10,h11]
    ·cases b6
     obtain rfl:=(aj gb6).symm
     try dsimp only at h
     cases h
     simp(config:=cS)only[go_sem,eZt h2,eZt h4,eqF h7]
  ·cases h
   simp(config:=cS)only[go_sem,eZt h2,eZf h4]
 ·cases h
  simp(config:=cS)only[go_sem,eZf h2]
@[go_sem] def hi158_1:DT:=.i2 0 (.i2 1 (.i2 2 (.i2 3 (.i2 4 (.i2 5 (.i2 6 (.i2 7 (.i2 8 (.i2 9 .nil)))))))))
def Dt:Hint where
 acts:=fun _=>[]
 draws:=fun
  | 1=>⟨hi158_1,[[],[0],[],[0,1,2],[0,1,2,3],.range 5,[],[6],.range 8,.range 9],.range 10⟩
  | _=>⟨.nil,[],[]⟩
theorem Nq (i:Nat):Dt.acts i=[]:=rfl
theorem Nr (i:Nat):Dt.views i=none:=rfl
attribute [go_sem] Nq Nr Tryz.ntmps158 Tryz.results158
@[go_sem] theorem QK:(Dt.draws 1).order=hi158_1:=rfl
theorem jR {s:GShow}{v1:GState}{node res:Int}(h:bZ s v1 node=some res):ao Tryz.prog 158 [.agg (GShow.encS s),.agg (GState.encS v1),.lit (.int .i64 node)] [] (.lit (.int .i64 res)) []:=by
 refine ak (ra:=[]) (md:=mdT) hT (hi:=Dt) Tryz.func158 rfl rfl (by decide +kernel) (by simp) ?_
 unfold bZ at h
 obtain ⟨x01,g1,h⟩:=ab h
 obtain ⟨h2,h3,h4⟩:=ai g1
 obtain ⟨r02,g5,h⟩:=ab h
 simp(config:=cS)only[go_sem,h2,h3,h4]
 refine ag (xI g5) ?_
 cases h
 simp(config:=cS)only[go_sem]
attribute [go_sem] Tryz.ntmps228 Tryz.results228
theorem xJ {i:Int}{v1:GState}{s:GShow}{res:Bool}(h:iZ i v1 s=some res):ao Tryz.prog 228 [.lit (.int .i64 i),.loc [.lit (.int .i64 v1.now),.sl (ae eI v1.times),.sl (ae eI v1.values)],.loc [.sl (ae GNode.encS s.nodes),.sl (ae GTie.enc s.ties),.lit (.int .i64 s.horizon)]] [] (.lit (.bool res)) []:=by
 refine ak (ra:=[]) (md:=mdT) hT (hi:=hi00) Tryz.func228 rfl rfl (by decide +kernel) (by simp) ?_
 unfold iZ at h
 obtain ⟨x01,g1,h⟩:=ab h
 obtain ⟨h2,h3,h4⟩:=ai g1
 obtain ⟨h5,h⟩|⟨h5,h⟩:=af h
 ·obtain ⟨r02,g6,h⟩:=ab h
  simp(config:=cS)only[go_sem,h2,h3,h4,eqT h5]
  refine ag (jR g6) ?_
  cases h
  simp(config:=cS)only[go_sem]
 ·cases h
  simp(config:=cS)only[go_sem,h2,h3,h4,eqF h5]
attribute [go_sem] Tryz.ntmps165 Tryz.results165
theorem Bg {s:GShow}{v1:GState}{res:List Int}(h:jy s v1=some res):ao Tryz.prog 165 [.agg (GShow.encS s),.agg (GState.encS v1)] [] (.ref 20000 1 0 res.length) [(20000,1,.row false (ae eI res))]:=by
 refine ak (ra:=[.home 4,.trim 4]) (md:=mdT) hT (hi:=hi00) Tryz.func165 rfl rfl (by decide +kernel) (by simp) ?_
 unfold jy at h
 obtain ⟨r01,g1,h⟩:=ab h
 simp(config:=cS)only[go_sem]
 refine ag (CB g1) ?_
 obtain ⟨r02,g2,h⟩:=ab h
 simp(config:=cS)only[go_sem]
 refine ag (lJ (by exact fun _ _ hr=>xJ hr) (by refine ⟨fun _=>?_,fun _=>?_⟩ <;> simp only [go_sem]) (fun _=>rfl) rfl g2) ?_
 cases h
 simp(config:=cS)only[go_sem]
def mt (a:List Int):(Int × (List (List Int)))→St
 | (c,b)=>⟨[(5,.ref 640 1 0 a.length),(6,.ref 447 1 0 b.length),(7,.lit (.int .i64 c))],[(640,1,.row false (ae eI a)),(447,1,.row true (ae (eLO eI) b))],2⟩
attribute [go_sem] mt
attribute [go_sem] Tryz.ntmps74 Tryz.results74
theorem mR {s:GShow}{v1:GState}{res:List (List Int)}(h:dm s v1=some res):ao Tryz.prog 74 [.agg (GShow.encS s),.agg (GState.encS v1)] [] (.ref 20000 1 0 res.length) [(20000,1,.row true (ae (eLO eI) res))]:=by
 refine ak (ra:=[.home 4]) (md:=mdT) hT (hi:=hi00) Tryz.func74 rfl rfl (by decide +kernel) (by simp) ?_
 unfold dm at h
 obtain ⟨r01,g1,h⟩:=ab h
 simp(config:=cS)only[go_sem]
 refine ag (Bg g1) ?_
 obtain ⟨h2,h⟩:=ah h
 obtain ⟨q03,l3,h⟩:=ab h
 simp(config:=cS)only[go_sem,eqF h2]
 refine al (m1:=.mk) (m2:=.mk) [.home 6,.nf [5,6,7] [640,447]] (mt r01) l3 ?_ ?_
 ·simp(config:=cS)only[go_sem]
 ·intro nb4 sb4 bb4 b4 gb4
  obtain ⟨set_1,out_1⟩:=sb4
  unfold eO at b4
  try dsimp only at b4
  obtain ⟨h5,b4⟩|⟨h5,b4⟩:=af b4
  ·obtain ⟨r02,g6,b4⟩:=ab b4
   simp(config:=cS)only[go_sem,eqT h5]
   refine ag (vd g6) ?_
   obtain ⟨h7,b4⟩:=ah b4
   obtain ⟨h8,b4⟩:=ah b4
   cases b4
   simp(config:=cS)only[go_sem,eqT h7,eqT h8]
   refine an gb4 ?_
   simp(config:=cS)only[go_sem]
  ·cases b4
   obtain rfl:=(aj gb4).symm
   try dsimp only at h
   cases h
   simp(config:=cS)only[go_sem,eqF h5]
end Go.Proofs.QA
