/- Functions. -/
import Derived.Test.YtghfphjfkdbpjaaGreatZM
import Derived.Test.YtghfphjfkdbpjaaGreatZ37
set_option linter.all false
set_option maxRecDepth 100000
set_option maxHeartbeats 400000
namespace Go.Proofs.YtghfphjfkdbpjaaGreatZ
open Go
def hi95:Hint where
 acts:=fun _=>[]
 draws:=fun
  | _=>⟨.nil,[],[]⟩
theorem XQ (i:Nat):hi95.acts i=[]:=rfl
theorem XR (i:Nat):hi95.views i=none:=rfl
attribute [go_sem] XQ XR Tryz.ntmps95 Tryz.results95
theorem jE {a:List Int}{left:Int}{res:Int}(h:dj a left=some res):ao Tryz.prog 95 [.sl (ab eI a),.lit (.int .i64 left)] [] (.lit (.int .i64 res)) []:=by
 refine aj (ra:=[]) (md:=mdT) hT (hi:=hi95) Tryz.func95 rfl rfl (by decide +kernel) (by simp) ?_
 unfold dj at h
 obtain ⟨h1,h⟩|⟨h1,h⟩:=af h
 ·cases h
  simp(config:=cS)only[go_sem,eqT h1]
 ·cases h
  simp(config:=cS)only[go_sem,eqF h1]
def Jr:Hint where
 acts:=fun _=>[]
 draws:=fun
  | _=>⟨.nil,[],[]⟩
theorem Rj (i:Nat):Jr.acts i=[]:=rfl
theorem Rk (i:Nat):Jr.views i=none:=rfl
attribute [go_sem] Rj Rk Tryz.ntmps174 Tryz.results174
theorem Eb {a:GNode}{left:Int}{res:Int}(h:me a left=some res):ao Tryz.prog 174 [.agg (GNode.encS a),.lit (.int .i64 left)] [] (.lit (.int .i64 res)) []:=by
 refine aj (ra:=[]) (md:=mdT) hT (hi:=Jr) Tryz.func174 rfl rfl (by decide +kernel) (by simp) ?_
 unfold me at h
 obtain ⟨h1,h⟩|⟨h1,h⟩:=af h
 ·cases h
  simp(config:=cS)only[go_sem,eqT h1]
 ·obtain ⟨r1001,g2,h⟩:=ae h
  simp(config:=cS)only[go_sem,eqF h1]
  refine ag (jE g2) ?_
  obtain ⟨h3,h⟩|⟨h3,h⟩:=af h
  ·cases h
   simp(config:=cS)only[go_sem,eqT h3]
  ·cases h
   simp(config:=cS)only[go_sem,eqF h3]
def pZ (a:List GNode):(Int × Int)→St
 | (left,i)=>⟨[(0,.sl (ab GNode.encS a)),(1,.lit (.int .i64 left)),(5,.lit (.int .i64 i))],[],2⟩
attribute [go_sem] pZ
def hi93:Hint where
 acts:=fun _=>[]
 draws:=fun
  | _=>⟨.nil,[],[]⟩
theorem XS (i:Nat):hi93.acts i=[]:=rfl
theorem XT (i:Nat):hi93.views i=none:=rfl
attribute [go_sem] XS XT Tryz.ntmps93 Tryz.results93
theorem Cu {a:List GNode}{left:Int}{res:Int}(h:lg a left=some res):ao Tryz.prog 93 [.sl (ab GNode.encS a),.lit (.int .i64 left)] [] (.lit (.int .i64 res)) []:=by
 refine aj (ra:=[]) (md:=mdT) hT (hi:=hi93) Tryz.func93 rfl rfl (by decide +kernel) (by simp) ?_
 unfold lg at h
 obtain ⟨h1,h⟩|⟨h1,h⟩:=af h
 ·cases h
  simp(config:=cS)only[go_sem,eqT h1]
 ·obtain ⟨q1003,l2,h⟩:=ae h
  simp(config:=cS)only[go_sem,eqF h1]
  refine an (m1:=.mk) (m2:=.mk) [.nf [0,1,5] []] (pZ a) l2 ?_ ?_
  ·simp(config:=cS)only[go_sem]
  ·intro nb3 sb3 bb3 b3 gb3
   obtain ⟨left_1,i_1⟩:=sb3
   unfold iD at b3
   try dsimp only at b3
   obtain ⟨h4,b3⟩|⟨h4,b3⟩:=af b3
   ·obtain ⟨x1001,g5,b3⟩:=ae b3
    obtain ⟨h6,h7,h8⟩:=ai g5
    obtain ⟨r1002,g9,b3⟩:=ae b3
    simp(config:=cS)only[go_sem,eqT h4,h6,h7,h8]
    refine ag (Eb g9) ?_
    obtain ⟨h10,b3⟩|⟨h10,b3⟩:=af b3
    ·cases b3
     have e11:=(ak gb3).symm
     subst e11
     try dsimp only at h
     cases h
     simp(config:=cS)only[go_sem,eqT h10]
    ·cases b3
     simp(config:=cS)only[go_sem,eqF h10]
     refine ap gb3 ?_
     simp(config:=cS)only[go_sem]
   ·cases b3
    have e12:=(ak gb3).symm
    subst e12
    try dsimp only at h
    cases h
    simp(config:=cS)only[go_sem,eqF h4]
def hi94:Hint where
 acts:=fun _=>[]
 draws:=fun
  | _=>⟨.nil,[],[]⟩
theorem XU (i:Nat):hi94.acts i=[]:=rfl
theorem XV (i:Nat):hi94.views i=none:=rfl
attribute [go_sem] XU XV Tryz.ntmps94 Tryz.results94
theorem Ec {a:List GTie}{left:Int}{res:Int}(h:mf a left=some res):ao Tryz.prog 94 [.sl (ab GTie.enc a),.lit (.int .i64 left)] [] (.lit (.int .i64 res)) []:=by
 refine aj (ra:=[]) (md:=mdT) hT (hi:=hi94) Tryz.func94 rfl rfl (by decide +kernel) (by simp) ?_
 unfold mf at h
 obtain ⟨h1,h⟩|⟨h1,h⟩:=af h
 ·cases h
  simp(config:=cS)only[go_sem,eqT h1]
 ·cases h
  simp(config:=cS)only[go_sem,eqF h1]
def hi31:Hint where
 acts:=fun _=>[]
 draws:=fun
  | _=>⟨.nil,[],[]⟩
theorem XW (i:Nat):hi31.acts i=[]:=rfl
theorem XX (i:Nat):hi31.views i=none:=rfl
attribute [go_sem] XW XX Tryz.ntmps31 Tryz.results31
theorem Ed {a:GShow}{left:Int}{res:Int}(h:mg a left=some res):ao Tryz.prog 31 [.agg (GShow.encS a),.lit (.int .i64 left)] [] (.lit (.int .i64 res)) []:=by
 refine aj (ra:=[]) (md:=mdT) hT (hi:=hi31) Tryz.func31 rfl rfl (by decide +kernel) (by simp) ?_
 unfold mg at h
 obtain ⟨r1001,g1,h⟩:=ae h
 simp(config:=cS)only[go_sem]
 refine ag (Cu g1) ?_
 obtain ⟨h2,h⟩|⟨h2,h⟩:=af h
 ·cases h
  simp(config:=cS)only[go_sem,eqT h2]
 ·obtain ⟨r1002,g3,h⟩:=ae h
  simp(config:=cS)only[go_sem,eqF h2]
  refine ag (Ec g3) ?_
  obtain ⟨h4,h⟩|⟨h4,h⟩:=af h
  ·cases h
   simp(config:=cS)only[go_sem,eqT h4]
  ·cases h
   simp(config:=cS)only[go_sem,eqF h4]
def Js:Hint where
 acts:=fun _=>[]
 draws:=fun
  | _=>⟨.nil,[],[]⟩
theorem Rl (i:Nat):Js.acts i=[]:=rfl
theorem Rm (i:Nat):Js.views i=none:=rfl
attribute [go_sem] Rl Rm Tryz.ntmps106 Tryz.results106
theorem Cv {a:GState}{left:Int}{res:Int}(h:lk a left=some res):ao Tryz.prog 106 [.agg (GState.encS a),.lit (.int .i64 left)] [] (.lit (.int .i64 res)) []:=by
 refine aj (ra:=[]) (md:=mdT) hT (hi:=Js) Tryz.func106 rfl rfl (by decide +kernel) (by simp) ?_
 unfold lk at h
 obtain ⟨r1001,g1,h⟩:=ae h
 simp(config:=cS)only[go_sem]
 refine ag (jE g1) ?_
 obtain ⟨h2,h⟩|⟨h2,h⟩:=af h
 ·cases h
  simp(config:=cS)only[go_sem,eqT h2]
 ·obtain ⟨r1002,g3,h⟩:=ae h
  simp(config:=cS)only[go_sem,eqF h2]
  refine ag (jE g3) ?_
  obtain ⟨h4,h⟩|⟨h4,h⟩:=af h
  ·cases h
   simp(config:=cS)only[go_sem,eqT h4]
  ·cases h
   simp(config:=cS)only[go_sem,eqF h4]
def Jt:Hint where
 acts:=fun _=>[]
 draws:=fun
  | _=>⟨.nil,[],[]⟩
theorem Rn (i:Nat):Jt.acts i=[]:=rfl
theorem Ro (i:Nat):Jt.views i=none:=rfl
attribute [go_sem] Rn Ro Tryz.ntmps185 Tryz.results185
theorem Cw {a:GEntry}{left:Int}{res:Int}(h:ll a left=some res):ao Tryz.prog 185 [.agg (GEntry.encS a),.lit (.int .i64 left)] [] (.lit (.int .i64 res)) []:=by
 refine aj (ra:=[]) (md:=mdT) hT (hi:=Jt) Tryz.func185 rfl rfl (by decide +kernel) (by simp) ?_
 unfold ll at h
 obtain ⟨r1001,g1,h⟩:=ae h
 simp(config:=cS)only[go_sem]
 refine ag (jE g1) ?_
 obtain ⟨h2,h⟩|⟨h2,h⟩:=af h
 ·cases h
  simp(config:=cS)only[go_sem,eqT h2]
 ·obtain ⟨r1002,g3,h⟩:=ae h
  simp(config:=cS)only[go_sem,eqF h2]
  refine ag (jE g3) ?_
  obtain ⟨h4,h⟩|⟨h4,h⟩:=af h
  ·cases h
   simp(config:=cS)only[go_sem,eqT h4]
  ·obtain ⟨r1003,g5,h⟩:=ae h
   simp(config:=cS)only[go_sem,eqF h4]
   refine ag (jE g5) ?_
   obtain ⟨h6,h⟩|⟨h6,h⟩:=af h
   ·cases h
    simp(config:=cS)only[go_sem,eqT h6]
   ·cases h
    simp(config:=cS)only[go_sem,eqF h6]
def pi (a:List GEntry):(Int × Int)→St
 | (left,i)=>⟨[(0,.sl (ab GEntry.encS a)),(1,.lit (.int .i64 left)),(5,.lit (.int .i64 i))],[],2⟩
attribute [go_sem] pi
def Ju:Hint where
 acts:=fun _=>[]
 draws:=fun
  | _=>⟨.nil,[],[]⟩
theorem Rp (i:Nat):Ju.acts i=[]:=rfl
theorem Rq (i:Nat):Ju.views i=none:=rfl
attribute [go_sem] Rp Rq Tryz.ntmps107 Tryz.results107
theorem AM {a:List GEntry}{left:Int}{res:Int}(h:kf a left=some res):ao Tryz.prog 107 [.sl (ab GEntry.encS a),.lit (.int .i64 left)] [] (.lit (.int .i64 res)) []:=by
 refine aj (ra:=[]) (md:=mdT) hT (hi:=Ju) Tryz.func107 rfl rfl (by decide +kernel) (by simp) ?_
 unfold kf at h
 obtain ⟨h1,h⟩|⟨h1,h⟩:=af h
 ·cases h
  simp(config:=cS)only[go_sem,eqT h1]
 ·obtain ⟨q1003,l2,h⟩:=ae h
  simp(config:=cS)only[go_sem,eqF h1]
  refine an (m1:=.mk) (m2:=.mk) [.nf [0,1,5] []] (pi a) l2 ?_ ?_
  ·simp(config:=cS)only[go_sem]
  ·intro nb3 sb3 bb3 b3 gb3
   obtain ⟨left_1,i_1⟩:=sb3
   unfold hD at b3
   try dsimp only at b3
   obtain ⟨h4,b3⟩|⟨h4,b3⟩:=af b3
   ·obtain ⟨x1001,g5,b3⟩:=ae b3
    obtain ⟨h6,h7,h8⟩:=ai g5
    obtain ⟨r1002,g9,b3⟩:=ae b3
    simp(config:=cS)only[go_sem,eqT h4,h6,h7,h8]
    refine ag (Cw g9) ?_
    obtain ⟨h10,b3⟩|⟨h10,b3⟩:=af b3
    ·cases b3
     have e11:=(ak gb3).symm
     subst e11
     try dsimp only at h
     cases h
     simp(config:=cS)only[go_sem,eqT h10]
    ·cases b3
     simp(config:=cS)only[go_sem,eqF h10]
     refine ap gb3 ?_
     simp(config:=cS)only[go_sem]
   ·cases b3
    have e12:=(ak gb3).symm
    subst e12
    try dsimp only at h
    cases h
    simp(config:=cS)only[go_sem,eqF h4]
def hi44:Hint where
 acts:=fun _=>[]
 draws:=fun
  | _=>⟨.nil,[],[]⟩
theorem XY (i:Nat):hi44.acts i=[]:=rfl
theorem XZ (i:Nat):hi44.views i=none:=rfl
attribute [go_sem] XY XZ Tryz.ntmps44 Tryz.results44
theorem Ee {a:GDesk}{left:Int}{res:Int}(h:mq a left=some res):ao Tryz.prog 44 [.agg (GDesk.encS a),.lit (.int .i64 left)] [] (.lit (.int .i64 res)) []:=by
 refine aj (ra:=[]) (md:=mdT) hT (hi:=hi44) Tryz.func44 rfl rfl (by decide +kernel) (by simp) ?_
 unfold mq at h
 obtain ⟨r1001,g1,h⟩:=ae h
 simp(config:=cS)only[go_sem]
 refine ag (Ed g1) ?_
 obtain ⟨h2,h⟩|⟨h2,h⟩:=af h
 ·cases h
  simp(config:=cS)only[go_sem,eqT h2]
 ·obtain ⟨r1002,g3,h⟩:=ae h
  simp(config:=cS)only[go_sem,eqF h2]
  refine ag (Cv g3) ?_
  obtain ⟨h4,h⟩|⟨h4,h⟩:=af h
  ·cases h
   simp(config:=cS)only[go_sem,eqT h4]
  ·obtain ⟨r1003,g5,h⟩:=ae h
   simp(config:=cS)only[go_sem,eqF h4]
   refine ag (AM g5) ?_
   obtain ⟨h6,h⟩|⟨h6,h⟩:=af h
   ·cases h
    simp(config:=cS)only[go_sem,eqT h6]
   ·cases h
    simp(config:=cS)only[go_sem,eqF h6]
def qJ (a:List Int):(Int × (List Int))→St
 | (i,out)=>⟨[(0,.sl (ab eI a)),(3,.ref 448 1 0 out.length),(4,.lit (.int .i64 i))],[(448,1,.row true (ab eI out))],2⟩
attribute [go_sem] qJ
def hi47:Hint where
 acts:=fun _=>[]
 draws:=fun
  | _=>⟨.nil,[],[]⟩
theorem Ya (i:Nat):hi47.acts i=[]:=rfl
theorem Yb (i:Nat):hi47.views i=none:=rfl
attribute [go_sem] Ya Yb Tryz.ntmps47 Tryz.results47
theorem bL {a:List Int}{res:List Int}(h:bc a=some res):ao Tryz.prog 47 [.sl (ab eI a)] [] (.ref 20000 1 0 res.length) [(20000,1,.row true (ab eI res))]:=by
 refine aj (ra:=[.home 2]) (md:=mdT) hT (hi:=hi47) Tryz.func47 rfl rfl (by decide +kernel) (by simp) ?_
 unfold bc at h
 obtain ⟨h1,h⟩:=ah h
 obtain ⟨h2,h⟩:=ah h
 obtain ⟨q1003,l3,h⟩:=ae h
 simp(config:=cS)only[go_sem,eqT h1,eqT h2]
 refine an (m1:=.mk) (m2:=.mk) [.nf [0,3,4] [448]] (qJ a) l3 ?_ ?_
 ·simp(config:=cS)only[go_sem]
 ·intro nb4 sb4 bb4 b4 gb4
  obtain ⟨i_1,out_1⟩:=sb4
  unfold jw at b4
  try dsimp only at b4
  obtain ⟨h5,b4⟩|⟨h5,b4⟩:=af b4
  ·obtain ⟨x1001,g6,b4⟩:=ae b4
   obtain ⟨h7,h8,h9⟩:=ai g6
   obtain ⟨x1002,g10,b4⟩:=ae b4
   obtain ⟨h11,h12,h13⟩:=ai g10
   cases b4
   simp(config:=cS)only[go_sem,eqT h5,h7,h8,h9,h11,h12,h13]
   refine ap gb4 ?_
   simp(config:=cS)only[go_sem]
  ·cases b4
   have e14:=(ak gb4).symm
   subst e14
   try dsimp only at h
   cases h
   simp(config:=cS)only[go_sem,eqF h5]
def Jv:Hint where
 acts:=fun _=>[]
 draws:=fun
  | _=>⟨.nil,[],[]⟩
theorem Rr (i:Nat):Jv.acts i=[]:=rfl
theorem Rs (i:Nat):Jv.views i=none:=rfl
attribute [go_sem] Rr Rs Tryz.ntmps180 Tryz.results180
theorem Ef {a:GNode}{res:GNode}(h:mh a=some res):ao Tryz.prog 180 [.agg (GNode.encS a)] [] (.agg [.lit (.string res.name),.ref 20000 1 0 res.label.length,.lit (.int .i64 res.watch)]) [(20000,1,.row true (ab eI res.label))]:=by
 refine aj (ra:=[.homeCell 128 1]) (md:=mdT) hT (hi:=Jv) Tryz.func180 rfl rfl (by decide +kernel) (by simp) ?_
 unfold mh at h
 obtain ⟨r1001,g1,h⟩:=ae h
 simp(config:=cS)only[go_sem]
 refine ag (bL g1) ?_
 cases h
 simp(config:=cS)only[go_sem]
def qa (a:List GNode):(Int × (List GNode))→St
 | (i,out)=>⟨[(0,.sl (ab GNode.encS a)),(3,.ref 448 1 0 out.length),(4,.lit (.int .i64 i))],[(448,1,.row true (ab GNode.encO out))],2⟩
attribute [go_sem] qa
def hi99:Hint where
 acts:=fun _=>[]
 draws:=fun
  | _=>⟨.nil,[],[]⟩
theorem Yc (i:Nat):hi99.acts i=[]:=rfl
theorem Yd (i:Nat):hi99.views i=none:=rfl
attribute [go_sem] Yc Yd Tryz.ntmps99 Tryz.results99
theorem Cx {a:List GNode}{res:List GNode}(h:li a=some res):ao Tryz.prog 99 [.sl (ab GNode.encS a)] [] (.ref 20000 1 0 res.length) [(20000,1,.row true (ab GNode.encO res))]:=by
 refine aj (ra:=[.home 2]) (md:=mdT) hT (hi:=hi99) Tryz.func99 rfl rfl (by decide +kernel) (by simp) ?_
 unfold li at h
 obtain ⟨h1,h⟩:=ah h
 obtain ⟨h2,h⟩:=ah h
 obtain ⟨q1004,l3,h⟩:=ae h
 simp(config:=cS)only[go_sem,eqT h1,eqT h2]
 refine an (m1:=.mk) (m2:=.mk) [.nf [0,3,4] [448]] (qa a) l3 ?_ ?_
 ·simp(config:=cS)only[go_sem]
 ·intro nb4 sb4 bb4 b4 gb4
  obtain ⟨i_1,out_1⟩:=sb4
  unfold iE at b4
  try dsimp only at b4
  obtain ⟨h5,b4⟩|⟨h5,b4⟩:=af b4
  ·obtain ⟨x1001,g6,b4⟩:=ae b4
   obtain ⟨h7,h8,h9⟩:=ai g6
   obtain ⟨r1002,g10,b4⟩:=ae b4
   simp(config:=cS)only[go_sem,eqT h5,h7,h8,h9]
   refine ag (Ef g10) ?_
   obtain ⟨x1003,g11,b4⟩:=ae b4
   obtain ⟨h12,h13,h14⟩:=ai g11
   cases b4
   simp(config:=cS)only[go_sem,h12,h13,h14]
   refine ap gb4 ?_
   simp(config:=cS)only[go_sem]
  ·cases b4
   have e15:=(ak gb4).symm
   subst e15
   try dsimp only at h
   cases h
   simp(config:=cS)only[go_sem,eqF h5]
def Jw:Hint where
 acts:=fun _=>[]
 draws:=fun
  | _=>⟨.nil,[],[]⟩
theorem Rt (i:Nat):Jw.acts i=[]:=rfl
theorem Ru (i:Nat):Jw.views i=none:=rfl
attribute [go_sem] Rt Ru Tryz.ntmps181 Tryz.results181
theorem Gg {a:GTie}{res:GTie}(h:qA a=some res):ao Tryz.prog 181 [.agg (GTie.enc a)] [] (.agg (GTie.enc res)) []:=by
 refine aj (ra:=[]) (md:=mdT) hT (hi:=Jw) Tryz.func181 rfl rfl (by decide +kernel) (by simp) ?_
 unfold qA at h
 cases h
 simp(config:=cS)only[go_sem]
def qK (a:List GTie):(Int × (List GTie))→St
 | (i,out)=>⟨[(0,.sl (ab GTie.enc a)),(3,.ref 448 1 0 out.length),(4,.lit (.int .i64 i))],[(448,1,.row true (ab GTie.enc out))],2⟩
attribute [go_sem] qK
def Jx:Hint where
 acts:=fun _=>[]
 draws:=fun
  | _=>⟨.nil,[],[]⟩
theorem Rv (i:Nat):Jx.acts i=[]:=rfl
theorem Rw (i:Nat):Jx.views i=none:=rfl
attribute [go_sem] Rv Rw Tryz.ntmps100 Tryz.results100
theorem Eg {a:List GTie}{res:List GTie}(h:mi a=some res):ao Tryz.prog 100 [.sl (ab GTie.enc a)] [] (.ref 20000 1 0 res.length) [(20000,1,.row true (ab GTie.enc res))]:=by
 refine aj (ra:=[.home 2]) (md:=mdT) hT (hi:=Jx) Tryz.func100 rfl rfl (by decide +kernel) (by simp) ?_
 unfold mi at h
 obtain ⟨h1,h⟩:=ah h
 obtain ⟨h2,h⟩:=ah h
 obtain ⟨q1004,l3,h⟩:=ae h
 simp(config:=cS)only[go_sem,eqT h1,eqT h2]
 refine an (m1:=.mk) (m2:=.mk) [.nf [0,3,4] [448]] (qK a) l3 ?_ ?_
 ·simp(config:=cS)only[go_sem]
 ·intro nb4 sb4 bb4 b4 gb4
  obtain ⟨i_1,out_1⟩:=sb4
  unfold jx at b4
  try dsimp only at b4
  obtain ⟨h5,b4⟩|⟨h5,b4⟩:=af b4
  ·obtain ⟨x1001,g6,b4⟩:=ae b4
   obtain ⟨h7,h8,h9⟩:=ai g6
   obtain ⟨r1002,g10,b4⟩:=ae b4
   simp(config:=cS)only[go_sem,eqT h5,h7,h8,h9]
   refine ag (Gg g10) ?_
   obtain ⟨x1003,g11,b4⟩:=ae b4
   obtain ⟨h12,h13,h14⟩:=ai g11
   cases b4
   simp(config:=cS)only[go_sem,h12,h13,h14]
   refine ap gb4 ?_
   simp(config:=cS)only[go_sem]
  ·cases b4
   have e15:=(ak gb4).symm
   subst e15
   try dsimp only at h
   cases h
   simp(config:=cS)only[go_sem,eqF h5]
def hi34:Hint where
 acts:=fun _=>[]
 draws:=fun
  | _=>⟨.nil,[],[]⟩
theorem Ye (i:Nat):hi34.acts i=[]:=rfl
theorem Yf (i:Nat):hi34.views i=none:=rfl
attribute [go_sem] Ye Yf Tryz.ntmps34 Tryz.results34
theorem Eh {a:GShow}{res:GShow}(h:mj a=some res):ao Tryz.prog 34 [.agg (GShow.encS a)] [] (.agg [.ref 20000 1 0 res.nodes.length,.ref 20001 1 0 res.ties.length,.lit (.int .i64 res.horizon)]) [(20000,1,.row true (ab GNode.encO res.nodes)),(20001,1,.row true (ab GTie.enc res.ties))]:=by
 refine aj (ra:=[.homeCell 128 0,.homeCell 128 1]) (md:=mdT) hT (hi:=hi34) Tryz.func34 rfl rfl (by decide +kernel) (by simp) ?_
 unfold mj at h
 obtain ⟨r1001,g1,h⟩:=ae h
 simp(config:=cS)only[go_sem]
 refine ag (Cx g1) ?_
 obtain ⟨r1002,g2,h⟩:=ae h
 simp(config:=cS)only[go_sem]
 refine ag (Eg g2) ?_
 cases h
 simp(config:=cS)only[go_sem]
def Jy:Hint where
 acts:=fun _=>[]
 draws:=fun
  | _=>⟨.nil,[],[]⟩
theorem Rx (i:Nat):Jy.acts i=[]:=rfl
theorem Ry (i:Nat):Jy.views i=none:=rfl
attribute [go_sem] Rx Ry Tryz.ntmps112 Tryz.results112
theorem Cy {a:GState}{res:GState}(h:lm a=some res):ao Tryz.prog 112 [.agg (GState.encS a)] [] (.agg [.lit (.int .i64 res.now),.ref 20000 1 0 res.times.length,.ref 20001 1 0 res.values.length]) [(20000,1,.row true (ab eI res.times)),(20001,1,.row true (ab eI res.values))]:=by
 refine aj (ra:=[.homeCell 128 1,.homeCell 128 2]) (md:=mdT) hT (hi:=Jy) Tryz.func112 rfl rfl (by decide +kernel) (by simp) ?_
 unfold lm at h
 obtain ⟨r1001,g1,h⟩:=ae h
 simp(config:=cS)only[go_sem]
 refine ag (bL g1) ?_
 obtain ⟨r1002,g2,h⟩:=ae h
 simp(config:=cS)only[go_sem]
 refine ag (bL g2) ?_
 cases h
 simp(config:=cS)only[go_sem]
def Jz:Hint where
 acts:=fun _=>[]
 draws:=fun
  | _=>⟨.nil,[],[]⟩
theorem Rz (i:Nat):Jz.acts i=[]:=rfl
theorem RA (i:Nat):Jz.views i=none:=rfl
attribute [go_sem] Rz RA Tryz.ntmps194 Tryz.results194
theorem Cz {a:GEntry}{res:GEntry}(h:ln a=some res):ao Tryz.prog 194 [.agg (GEntry.encS a)] [] (.agg [.lit (.int .i64 res.now),.ref 20000 1 0 res.ties.length,.ref 20001 1 0 res.nodes.length,.ref 20002 1 0 res.values.length]) [(20000,1,.row true (ab eI res.ties)),(20001,1,.row true (ab eI res.nodes)),(20002,1,.row true (ab eI res.values))]:=by
 refine aj (ra:=[.homeCell 128 1,.homeCell 128 2,.homeCell 128 3]) (md:=mdT) hT (hi:=Jz) Tryz.func194 rfl rfl (by decide +kernel) (by simp) ?_
 unfold ln at h
 obtain ⟨r1001,g1,h⟩:=ae h
 simp(config:=cS)only[go_sem]
 refine ag (bL g1) ?_
 obtain ⟨r1002,g2,h⟩:=ae h
 simp(config:=cS)only[go_sem]
 refine ag (bL g2) ?_
 obtain ⟨r1003,g3,h⟩:=ae h
 simp(config:=cS)only[go_sem]
 refine ag (bL g3) ?_
 cases h
 simp(config:=cS)only[go_sem]
def pj (a:List GEntry):(Int × (List GEntry))→St
 | (i,out)=>⟨[(0,.sl (ab GEntry.encS a)),(3,.ref 448 1 0 out.length),(4,.lit (.int .i64 i))],[(448,1,.row true (ab GEntry.encO out))],2⟩
attribute [go_sem] pj
def JA:Hint where
 acts:=fun _=>[]
 draws:=fun
  | _=>⟨.nil,[],[]⟩
theorem RB (i:Nat):JA.acts i=[]:=rfl
theorem RC (i:Nat):JA.views i=none:=rfl
attribute [go_sem] RB RC Tryz.ntmps113 Tryz.results113
theorem AN {a:List GEntry}{res:List GEntry}(h:kg a=some res):ao Tryz.prog 113 [.sl (ab GEntry.encS a)] [] (.ref 20000 1 0 res.length) [(20000,1,.row true (ab GEntry.encO res))]:=by
 refine aj (ra:=[.home 2]) (md:=mdT) hT (hi:=JA) Tryz.func113 rfl rfl (by decide +kernel) (by simp) ?_
 unfold kg at h
 obtain ⟨h1,h⟩:=ah h
 obtain ⟨h2,h⟩:=ah h
 obtain ⟨q1004,l3,h⟩:=ae h
 simp(config:=cS)only[go_sem,eqT h1,eqT h2]
 refine an (m1:=.mk) (m2:=.mk) [.nf [0,3,4] [448]] (pj a) l3 ?_ ?_
 ·simp(config:=cS)only[go_sem]
 ·intro nb4 sb4 bb4 b4 gb4
  obtain ⟨i_1,out_1⟩:=sb4
  unfold hS at b4
  try dsimp only at b4
  obtain ⟨h5,b4⟩|⟨h5,b4⟩:=af b4
  ·obtain ⟨x1001,g6,b4⟩:=ae b4
   obtain ⟨h7,h8,h9⟩:=ai g6
   obtain ⟨r1002,g10,b4⟩:=ae b4
   simp(config:=cS)only[go_sem,eqT h5,h7,h8,h9]
   refine ag (Cz g10) ?_
   obtain ⟨x1003,g11,b4⟩:=ae b4
   obtain ⟨h12,h13,h14⟩:=ai g11
   cases b4
   simp(config:=cS)only[go_sem,h12,h13,h14]
   refine ap gb4 ?_
   simp(config:=cS)only[go_sem]
  ·cases b4
   have e15:=(ak gb4).symm
   subst e15
   try dsimp only at h
   cases h
   simp(config:=cS)only[go_sem,eqF h5]
def hi46:Hint where
 acts:=fun _=>[]
 draws:=fun
  | _=>⟨.nil,[],[]⟩
theorem Yg (i:Nat):hi46.acts i=[]:=rfl
theorem Yh (i:Nat):hi46.views i=none:=rfl
attribute [go_sem] Yg Yh Tryz.ntmps46 Tryz.results46
theorem oJ {a:GDesk}{res:GDesk}(h:fJ a=some res):ao Tryz.prog 46 [.agg (GDesk.encS a)] [] (.agg [.ref 20000 1 0 res.show_.nodes.length,.ref 20001 1 0 res.show_.ties.length,.lit (.int .i64 res.show_.horizon),.lit (.int .i64 res.state.now),.ref 20002 1 0 res.state.times.length,.ref 20003 1 0 res.state.values.length,.lit (.bool res.lazy),.ref 20004 1 0 res.log.length]) [(20000,1,.row true (ab GNode.encO res.show_.nodes)),(20001,1,.row true (ab GTie.enc res.show_.ties)),(20002,1,.row true (ab eI res.state.times)),(20003,1,.row true (ab eI res.state.values)),(20004,1,.row true (ab GEntry.encO res.log))]:=by
 refine aj (ra:=[.homeCell 128 0,.homeCell 128 1,.homeCell 128 4,.homeCell 128 5,.homeCell 128 7]) (md:=mdT) hT (hi:=hi46) Tryz.func46 rfl rfl (by decide +kernel) (by simp) ?_
 unfold fJ at h
 obtain ⟨r1001,g1,h⟩:=ae h
 simp(config:=cS)only[go_sem]
 refine ag (Eh g1) ?_
 obtain ⟨r1002,g2,h⟩:=ae h
 simp(config:=cS)only[go_sem]
 refine ag (Cy g2) ?_
 obtain ⟨r1003,g3,h⟩:=ae h
 simp(config:=cS)only[go_sem]
 refine ag (AN g3) ?_
 cases h
 simp(config:=cS)only[go_sem]
def JB:Hint where
 acts:=fun _=>[]
 draws:=fun
  | _=>⟨.nil,[],[]⟩
theorem RD (i:Nat):JB.acts i=[]:=rfl
theorem RE (i:Nat):JB.views i=none:=rfl
attribute [go_sem] RD RE Tryz.ntmps134 Tryz.results134
theorem co {n:Int}{lo:Int}{hi:Int}{res:Bool}(h:bu n lo hi=some res):ao Tryz.prog 134 [.lit (.int .i64 n),.lit (.int .i64 lo),.lit (.int .i64 hi)] [] (.lit (.bool res)) []:=by
 refine aj (ra:=[]) (md:=mdT) hT (hi:=JB) Tryz.func134 rfl rfl (by decide +kernel) (by simp) ?_
 unfold bu at h
 obtain ⟨h1,h⟩|⟨h1,h⟩:=af h
 ·cases h
  simp(config:=cS)only[go_sem,eqT h1]
 ·cases h
  simp(config:=cS)only[go_sem,eqF h1]
def qL (s:ByteArray)(i:Int):St:=⟨[(0,.lit (.string s)),(3,.lit (.int .i64 i))],[],2⟩
attribute [go_sem] qL
def JC:Hint where
 acts:=fun _=>[]
 draws:=fun
  | _=>⟨.nil,[],[]⟩
theorem RF (i:Nat):JC.acts i=[]:=rfl
theorem RG (i:Nat):JC.views i=none:=rfl
attribute [go_sem] RF RG Tryz.ntmps266 Tryz.results266
theorem Ei {s:ByteArray}{res:Bool}(h:lU s=some res):ao Tryz.prog 266 [.lit (.string s)] [] (.lit (.bool res)) []:=by
 refine aj (ra:=[]) (md:=mdT) hT (hi:=JC) Tryz.func266 rfl rfl (by decide +kernel) (by simp) ?_
 unfold lU at h
 obtain ⟨q1003,l1,h⟩:=ae h
 simp(config:=cS)only[go_sem]
 refine an (m1:=.mk) (m2:=.mk) [.nf [0,3] []] (qL s) l1 ?_ ?_
 ·simp(config:=cS)only[go_sem]
 ·intro nb2 sb2 bb2 b2 gb2
  obtain ⟨i_1,eb2⟩:∃ v,v=sb2:=⟨_,rfl⟩;subst eb2
  unfold gl at b2
  try dsimp only at b2
  obtain ⟨h3,b2⟩|⟨h3,b2⟩:=af b2
  ·obtain ⟨c1001,g4,b2⟩:=ae b2
   obtain ⟨h5,h6,h7⟩:=iS g4
   obtain ⟨h8,b2⟩|⟨h8,b2⟩:=af b2
   ·obtain ⟨h9,b2⟩|⟨h9,b2⟩:=af b2
    ·cases b2
     simp(config:=cS)only[go_sem,eqT h3,h5,h6,h7,eqT h8,eqT h9]
     refine ap gb2 ?_
     simp(config:=cS)only[go_sem]
    ·obtain ⟨h10,b2⟩|⟨h10,b2⟩:=af b2
     ·cases b2
      have e11:=(ak gb2).symm
      subst e11
      try dsimp only at h
      cases h
      simp(config:=cS)only[go_sem,eqT h3,h5,h6,h7,eqT h8,eqF h9,eqT h10]
     ·obtain ⟨h12,b2⟩|⟨h12,b2⟩:=af b2
      ·cases b2
       have e13:=(ak gb2).symm
       subst e13
       try dsimp only at h
       cases h
       simp(config:=cS)only[go_sem,eqT h3,h5,h6,h7,eqT h8,eqF h9,eqF h10,eqT h12]
      ·obtain ⟨h14,b2⟩|⟨h14,b2⟩:=af b2
       ·cases b2
        have e15:=(ak gb2).symm
        subst e15
        try dsimp only at h
        cases h
        simp(config:=cS)only[go_sem,eqT h3,h5,h6,h7,eqT h8,eqF h9,eqF h10,eqF h12,eqT h14]
       ·cases b2
        simp(config:=cS)only[go_sem,eqT h3,h5,h6,h7,eqT h8,eqF h9,eqF h10,eqF h12,eqF h14]
        refine ap gb2 ?_
        simp(config:=cS)only[go_sem]
   ·obtain ⟨h16,b2⟩|⟨h16,b2⟩:=af b2
    ·cases b2
     have e17:=(ak gb2).symm
     subst e17
     try dsimp only at h
     cases h
     simp(config:=cS)only[go_sem,eqT h3,h5,h6,h7,eqF h8,eqT h16]
    ·obtain ⟨h18,b2⟩|⟨h18,b2⟩:=af b2
     ·cases b2
      have e19:=(ak gb2).symm
      subst e19
      try dsimp only at h
      cases h
      simp(config:=cS)only[go_sem,eqT h3,h5,h6,h7,eqF h8,eqF h16,eqT h18]
     ·obtain ⟨h20,b2⟩|⟨h20,b2⟩:=af b2
      ·cases b2
       have e21:=(ak gb2).symm
       subst e21
       try dsimp only at h
       cases h
       simp(config:=cS)only[go_sem,eqT h3,h5,h6,h7,eqF h8,eqF h16,eqF h18,eqT h20]
      ·cases b2
       simp(config:=cS)only[go_sem,eqT h3,h5,h6,h7,eqF h8,eqF h16,eqF h18,eqF h20]
       refine ap gb2 ?_
       simp(config:=cS)only[go_sem]
  ·cases b2
   have e22:=(ak gb2).symm
   subst e22
   try dsimp only at h
   obtain ⟨r1002,g23,h⟩:=ae h
   simp(config:=cS)only[go_sem,eqF h3]
   refine ag (co g23) ?_
   cases h
   simp(config:=cS)only[go_sem]
def JD:Hint where
 acts:=fun _=>[]
 draws:=fun
  | _=>⟨.nil,[],[]⟩
theorem RH (i:Nat):JD.acts i=[]:=rfl
theorem RI (i:Nat):JD.views i=none:=rfl
attribute [go_sem] RH RI Tryz.ntmps245 Tryz.results245
theorem nn {n:Int}{res:Int}(h:dq n=some res):ao Tryz.prog 245 [.lit (.int .i64 n)] [] (.lit (.int .i64 res)) []:=by
 refine aj (ra:=[]) (md:=mdT) hT (hi:=JD) Tryz.func245 rfl rfl (by decide +kernel) (by simp) ?_
 unfold dq at h
 obtain ⟨h1,h⟩|⟨h1,h⟩:=af h
 ·cases h
  simp(config:=cS)only[go_sem,eqT h1]
 ·cases h
  simp(config:=cS)only[go_sem,eqF h1]
def qb (l:List Int)(v6:Int)(v7:Int):St:=⟨[(0,.sl (ab eI l)),(5,.sl (ab eI l)),(6,.lit (.int .i64 v6)),(7,.lit (.int .i64 v7))],[],2⟩
attribute [go_sem] qb
def JE:Hint where
 acts:=fun _=>[]
 draws:=fun
  | _=>⟨.nil,[],[]⟩
theorem RJ (i:Nat):JE.acts i=[]:=rfl
theorem RK (i:Nat):JE.views i=none:=rfl
attribute [go_sem] RJ RK Tryz.ntmps264 Tryz.results264
theorem np {l:List Int}{res:Bool}(h:ej l=some res):ao Tryz.prog 264 [.sl (ab eI l)] [] (.lit (.bool res)) []:=by
 refine aj (ra:=[]) (md:=mdT) hT (hi:=JE) Tryz.func264 rfl rfl (by decide +kernel) (by simp) ?_
 unfold ej at h
 obtain ⟨q1006,l1,h⟩:=ae h
 simp(config:=cS)only[go_sem]
 refine an (m1:=.mk) (m2:=.mk) [.nf [0,5,6,7] []] (qb l ((l.length:Nat):Int)) l1 ?_ ?_
 ·simp(config:=cS)only[go_sem]
 ·intro nb2 sb2 bb2 b2 gb2
  obtain ⟨v7_1,eb2⟩:∃ v,v=sb2:=⟨_,rfl⟩;subst eb2
  unfold fo at b2
  try dsimp only at b2
  obtain ⟨h3,b2⟩|⟨h3,b2⟩:=af b2
  ·obtain ⟨x1001,g4,b2⟩:=ae b2
   obtain ⟨h5,h6,h7⟩:=ai g4
   obtain ⟨h8,b2⟩|⟨h8,b2⟩:=af b2
   ·cases b2
    have e9:=(ak gb2).symm
    subst e9
    try dsimp only at h
    cases h
    simp(config:=cS)only[go_sem,eqT h3,h5,h6,h7,eqT h8]
   ·obtain ⟨r1002,g10,b2⟩:=ae b2
    simp(config:=cS)only[go_sem,eqT h3,h5,h6,h7,eqF h8]
    refine ag (co g10) ?_
    obtain ⟨h11,b2⟩|⟨h11,b2⟩:=af b2
    ·obtain ⟨h12,b2⟩|⟨h12,b2⟩:=af b2
     ·obtain ⟨x1003,g13,b2⟩:=ae b2
      obtain ⟨h14,h15,h16⟩:=ai g13
      obtain ⟨r1004,g17,b2⟩:=ae b2
      simp(config:=cS)only[go_sem,eqT h3,h5,h6,h7,eqF h8,eZt h11,eqT h12,h14,h15,h16]
      refine ag (nn g17) ?_
      obtain ⟨r1005,g18,b2⟩:=ae b2
      simp(config:=cS)only[go_sem,eqT h3,h5,h6,h7,eqF h8,eZt h11,eqT h12,h14,h15,h16]
      refine ag (nn g18) ?_
      obtain ⟨h19,b2⟩|⟨h19,b2⟩:=af b2
      ·cases b2
       have e20:=(ak gb2).symm
       subst e20
       try dsimp only at h
       cases h
       simp(config:=cS)only[go_sem,eqT h3,h5,h6,h7,eqF h8,eZt h11,eqT h12,h14,h15,h16,eqT h19]
      ·cases b2
       simp(config:=cS)only[go_sem,eqT h3,h5,h6,h7,eqF h8,eZt h11,eqT h12,h14,h15,h16,eqF h19]
       refine ap gb2 ?_
       simp(config:=cS)only[go_sem,eqT h3,h5,h6,h7,eqF h8,eZt h11,eqT h12,h14,h15,h16,eqF h19]
     ·cases b2
      simp(config:=cS)only[go_sem,eqT h3,h5,h6,h7,eqF h8,eZt h11,eqF h12]
      refine ap gb2 ?_
      simp(config:=cS)only[go_sem,eqT h3,h5,h6,h7,eqF h8,eZt h11,eqF h12]
    ·cases b2
     have e21:=(ak gb2).symm
     subst e21
     try dsimp only at h
     cases h
     simp(config:=cS)only[go_sem,eqT h3,h5,h6,h7,eqF h8,eZf h11]
  ·cases b2
   have e22:=(ak gb2).symm
   subst e22
   try dsimp only at h
   cases h
   simp(config:=cS)only[go_sem,eqF h3]
def JF:Hint where
 acts:=fun _=>[]
 draws:=fun
  | _=>⟨.nil,[],[]⟩
theorem RL (i:Nat):JF.acts i=[]:=rfl
theorem RM (i:Nat):JF.views i=none:=rfl
attribute [go_sem] RL RM Tryz.ntmps243 Tryz.results243
theorem Ej {n:GNode}{res:Bool}(h:lV n=some res):ao Tryz.prog 243 [.agg (GNode.encS n)] [] (.lit (.bool res)) []:=by
 refine aj (ra:=[]) (md:=mdT) hT (hi:=JF) Tryz.func243 rfl rfl (by decide +kernel) (by simp) ?_
 unfold lV at h
 obtain ⟨r1001,g1,h⟩:=ae h
 simp(config:=cS)only[go_sem]
 refine ag (Ei g1) ?_
 obtain ⟨h2,h⟩|⟨h2,h⟩:=af h
 ·obtain ⟨r1002,g3,h⟩:=ae h
  simp(config:=cS)only[go_sem,eZt h2]
  refine ag (np g3) ?_
  obtain ⟨h4,h⟩|⟨h4,h⟩:=af h
  ·obtain ⟨r1003,g5,h⟩:=ae h
   simp(config:=cS)only[go_sem,eZt h2,eZt h4]
   refine ag (co g5) ?_
   cases h
   simp(config:=cS)only[go_sem,eZt h2,eZt h4]
  ·cases h
   simp(config:=cS)only[go_sem,eZt h2,eZf h4]
 ·cases h
  simp(config:=cS)only[go_sem,eZf h2]
def nV (name:ByteArray)(v8:List GNode)(v9:Int)(v10:Int):St:=⟨[(1,.lit (.string name)),(8,.sl (ab GNode.encS v8)),(9,.lit (.int .i64 v9)),(10,.lit (.int .i64 v10))],[],2⟩
attribute [go_sem] nV
def JG:Hint where
 acts:=fun _=>[]
 draws:=fun
  | _=>⟨.nil,[],[]⟩
theorem RN (i:Nat):JG.acts i=[]:=rfl
theorem RP (i:Nat):JG.views i=none:=rfl
attribute [go_sem] RN RP Tryz.ntmps244 Tryz.results244
theorem yR {s:GShow}{name:ByteArray}{res:Int}(h:jj s name=some res):ao Tryz.prog 244 [.agg (GShow.encS s),.lit (.string name)] [] (.lit (.int .i64 res)) []:=by
 refine aj (ra:=[]) (md:=mdT) hT (hi:=JG) Tryz.func244 rfl rfl (by decide +kernel) (by simp) ?_
 unfold jj at h
 obtain ⟨q1002,l1,h⟩:=ae h
 simp(config:=cS)only[go_sem]
 refine an (m1:=.mk) (m2:=.mk) [.nf [1,8,9,10] []] (nV name s.nodes ((s.nodes.length:Nat):Int)) l1 ?_ ?_
 ·simp(config:=cS)only[go_sem]
 ·intro nb2 sb2 bb2 b2 gb2
  obtain ⟨v10_1,eb2⟩:∃ v,v=sb2:=⟨_,rfl⟩;subst eb2
  unfold dM at b2
  try dsimp only at b2
  obtain ⟨h3,b2⟩|⟨h3,b2⟩:=af b2
  ·obtain ⟨x1001,g4,b2⟩:=ae b2
   obtain ⟨h5,h6,h7⟩:=ai g4
   obtain ⟨h8,b2⟩|⟨h8,b2⟩:=af b2
   ·cases b2
    have e9:=(ak gb2).symm
    subst e9
    try dsimp only at h
    cases h
    simp(config:=cS)only[go_sem,eqT h3,h5,h6,h7,eqT h8]
   ·cases b2
    simp(config:=cS)only[go_sem,eqT h3,h5,h6,h7,eqF h8]
    refine ap gb2 ?_
    simp(config:=cS)only[go_sem]
  ·cases b2
   have e10:=(ak gb2).symm
   subst e10
   try dsimp only at h
   cases h
   simp(config:=cS)only[go_sem,eqF h3]
def nH (p:Int)(v8:List GNode)(v9:Int)(v10:Int):St:=⟨[(1,.lit (.int .i64 p)),(8,.sl (ab GNode.encS v8)),(9,.lit (.int .i64 v9)),(10,.lit (.int .i64 v10))],[],2⟩
attribute [go_sem] nH
def JH:Hint where
 acts:=fun _=>[]
 draws:=fun
  | _=>⟨.nil,[],[]⟩
theorem RQ (i:Nat):JH.acts i=[]:=rfl
theorem RR (i:Nat):JH.views i=none:=rfl
attribute [go_sem] RQ RR Tryz.ntmps136 Tryz.results136
theorem kD {s:GShow}{p:Int}{res:Int}(h:cj s p=some res):ao Tryz.prog 136 [.agg (GShow.encS s),.lit (.int .i64 p)] [] (.lit (.int .i64 res)) []:=by
 refine aj (ra:=[]) (md:=mdT) hT (hi:=JH) Tryz.func136 rfl rfl (by decide +kernel) (by simp) ?_
 unfold cj at h
 obtain ⟨q1002,l1,h⟩:=ae h
 simp(config:=cS)only[go_sem]
 refine an (m1:=.mk) (m2:=.mk) [.nf [1,8,9,10] []] (nH p s.nodes ((s.nodes.length:Nat):Int)) l1 ?_ ?_
 ·simp(config:=cS)only[go_sem]
 ·intro nb2 sb2 bb2 b2 gb2
  obtain ⟨v10_1,eb2⟩:∃ v,v=sb2:=⟨_,rfl⟩;subst eb2
  unfold dr at b2
  try dsimp only at b2
  obtain ⟨h3,b2⟩|⟨h3,b2⟩:=af b2
  ·obtain ⟨x1001,g4,b2⟩:=ae b2
   obtain ⟨h5,h6,h7⟩:=ai g4
   obtain ⟨h8,b2⟩|⟨h8,b2⟩:=af b2
   ·cases b2
    have e9:=(ak gb2).symm
    subst e9
    try dsimp only at h
    cases h
    simp(config:=cS)only[go_sem,eqT h3,h5,h6,h7,eqT h8]
   ·cases b2
    simp(config:=cS)only[go_sem,eqT h3,h5,h6,h7,eqF h8]
    refine ap gb2 ?_
    simp(config:=cS)only[go_sem]
  ·cases b2
   have e10:=(ak gb2).symm
   subst e10
   try dsimp only at h
   cases h
   simp(config:=cS)only[go_sem,eqF h3]
def qM (n:Int)(v7:List Int)(v8:Int)(v9:Int):St:=⟨[(1,.lit (.int .i64 n)),(7,.sl (ab eI v7)),(8,.lit (.int .i64 v8)),(9,.lit (.int .i64 v9))],[],2⟩
attribute [go_sem] qM
def JI:Hint where
 acts:=fun _=>[]
 draws:=fun
  | _=>⟨.nil,[],[]⟩
theorem RS (i:Nat):JI.acts i=[]:=rfl
theorem RT (i:Nat):JI.views i=none:=rfl
attribute [go_sem] RS RT Tryz.ntmps198 Tryz.results198
theorem jF {l:List Int}{n:Int}{res:Bool}(h:cm l n=some res):ao Tryz.prog 198 [.sl (ab eI l),.lit (.int .i64 n)] [] (.lit (.bool res)) []:=by
 refine aj (ra:=[]) (md:=mdT) hT (hi:=JI) Tryz.func198 rfl rfl (by decide +kernel) (by simp) ?_
 unfold cm at h
 obtain ⟨q1002,l1,h⟩:=ae h
 simp(config:=cS)only[go_sem]
 refine an (m1:=.mk) (m2:=.mk) [.nf [1,7,8,9] []] (qM n l ((l.length:Nat):Int)) l1 ?_ ?_
 ·simp(config:=cS)only[go_sem]
 ·intro nb2 sb2 bb2 b2 gb2
  obtain ⟨v9_1,eb2⟩:∃ v,v=sb2:=⟨_,rfl⟩;subst eb2
  unfold gm at b2
  try dsimp only at b2
  obtain ⟨h3,b2⟩|⟨h3,b2⟩:=af b2
  ·obtain ⟨x1001,g4,b2⟩:=ae b2
   obtain ⟨h5,h6,h7⟩:=ai g4
   obtain ⟨h8,b2⟩|⟨h8,b2⟩:=af b2
   ·cases b2
    have e9:=(ak gb2).symm
    subst e9
    try dsimp only at h
    cases h
    simp(config:=cS)only[go_sem,eqT h3,h5,h6,h7,eqT h8]
   ·cases b2
    simp(config:=cS)only[go_sem,eqT h3,h5,h6,h7,eqF h8]
    refine ap gb2 ?_
    simp(config:=cS)only[go_sem]
  ·cases b2
   have e10:=(ak gb2).symm
   subst e10
   try dsimp only at h
   cases h
   simp(config:=cS)only[go_sem,eqF h3]
def mA (a:List Int)(v15:List Int)(v16:Int)(v17:Int):St:=⟨[(0,.sl (ab eI a)),(15,.sl (ab eI v15)),(16,.lit (.int .i64 v16)),(17,.lit (.int .i64 v17))],[],2⟩
attribute [go_sem] mA
def JJ:Hint where
 acts:=fun _=>[]
 draws:=fun
  | _=>⟨.nil,[],[]⟩
theorem RU (i:Nat):JJ.acts i=[]:=rfl
theorem RV (i:Nat):JJ.views i=none:=rfl
attribute [go_sem] RU RV Tryz.ntmps246 Tryz.results246
theorem vJ {a:List Int}{b:List Int}{res:Bool}(h:dN a b=some res):ao Tryz.prog 246 [.sl (ab eI a),.sl (ab eI b)] [] (.lit (.bool res)) []:=by
 refine aj (ra:=[]) (md:=mdT) hT (hi:=JJ) Tryz.func246 rfl rfl (by decide +kernel) (by simp) ?_
 unfold dN at h
 obtain ⟨r1001,g1,h⟩:=ae h
 simp(config:=cS)only[go_sem]
 refine ag (np g1) ?_
 obtain ⟨h2,h⟩|⟨h2,h⟩:=af h
 ·obtain ⟨r1002,g3,h⟩:=ae h
  simp(config:=cS)only[go_sem,eZt h2]
  refine ag (np g3) ?_
  obtain ⟨h4,h⟩|⟨h4,h⟩:=af h
  ·obtain ⟨q1005,l5,h⟩:=ae h
   simp(config:=cS)only[go_sem,eZt h2,eZt h4]
   refine an (m1:=.mk) (m2:=.mk) [.nf [0,15,16,17] []] (mA a b ((b.length:Nat):Int)) l5 ?_ ?_
   ·simp(config:=cS)only[go_sem,eZt h2,eZt h4]
   ·intro nb6 sb6 bb6 b6 gb6
    obtain ⟨v17_1,eb6⟩:∃ v,v=sb6:=⟨_,rfl⟩;subst eb6
    unfold cJ at b6
    try dsimp only at b6
    obtain ⟨h7,b6⟩|⟨h7,b6⟩:=af b6
    ·obtain ⟨x1003,g8,b6⟩:=ae b6
     obtain ⟨h9,h10,h11⟩:=ai g8
     obtain ⟨r1004,g12,b6⟩:=ae b6
     simp(config:=cS)only[go_sem,eZt h2,eZt h4,eqT h7,h9,h10,h11]
     refine ag (jF g12) ?_
     obtain ⟨h13,b6⟩|⟨h13,b6⟩:=af b6
     ·cases b6
      simp(config:=cS)only[go_sem,eZt h2,eZt h4,eqT h7,h9,h10,h11,eZt h13]
      refine ap gb6 ?_
      simp(config:=cS)only[go_sem,eZt h2,eZt h4,eqT h7,h9,h10,h11,eZt h13]
     ·cases b6
      have e14:=(ak gb6).symm
      subst e14
      try dsimp only at h
      cases h
      simp(config:=cS)only[go_sem,eZt h2,eZt h4,eqT h7,h9,h10,h11,eZf h13]
    ·cases b6
     have e15:=(ak gb6).symm
     subst e15
     try dsimp only at h
     cases h
     simp(config:=cS)only[go_sem,eZt h2,eZt h4,eqF h7]
  ·cases h
   simp(config:=cS)only[go_sem,eZt h2,eZf h4]
 ·cases h
  simp(config:=cS)only[go_sem,eZf h2]
def pk (v33:List GNode)(v34:Int)(s_1:List GTie)(s_2:Int)(v35:Int):St:=⟨[(1,.ptr 64 1 0 0),(33,.sl (ab GNode.encS v33)),(34,.lit (.int .i64 v34)),(35,.lit (.int .i64 v35))],[(64,1,.var [.sl (ab GNode.encS v33),.sl (ab GTie.enc s_1),.lit (.int .i64 s_2)])],2⟩
attribute [go_sem] pk
def pl (v66:List GNode)(v67:Int)(v68:Int)(v73:List Int)(v74:Int)(s_1:List GTie)(s_2:Int)(n_0:ByteArray)(n_2:Int)(v75:Int):St:=⟨[(1,.ptr 64 1 0 0),(6,.ptr 384 1 0 0),(66,.sl (ab GNode.encS v66)),(67,.lit (.int .i64 v67)),(68,.lit (.int .i64 v68)),(73,.sl (ab eI v73)),(74,.lit (.int .i64 v74)),(75,.lit (.int .i64 v75))],[(64,1,.var [.sl (ab GNode.encS v66),.sl (ab GTie.enc s_1),.lit (.int .i64 s_2)]),(384,1,.var [.lit (.string n_0),.sl (ab eI v73),.lit (.int .i64 n_2)])],2⟩
attribute [go_sem] pl
def pm (v66:List GNode)(v67:Int)(s_1:List GTie)(s_2:Int)(v68:Int):St:=⟨[(1,.ptr 64 1 0 0),(66,.sl (ab GNode.encS v66)),(67,.lit (.int .i64 v67)),(68,.lit (.int .i64 v68))],[(64,1,.var [.sl (ab GNode.encS v66),.sl (ab GTie.enc s_1),.lit (.int .i64 s_2)])],2⟩
attribute [go_sem] pm
@[go_sem] def hi213_16:DT:=.i2 0 (.i2 1 (.i2 2 (.i2 3 (.i2 4 (.i2 5 (.i2 6 (.i2 7 (.i2 8 (.i2 9 (.i2 10 (.i2 11 (.i2 12 (.i2 13 (.i2 14 (.i2 15 (.i2 16 (.i2 17 (.i2 18 (.i2 19 (.i2 20 (.i2 21 (.i2 22 (.i2 23 (.i2 24 (.i2 25 (.i2 26 (.i2 27 (.i2 28 (.i2 29 (.i2 30 (.i2 31 (.i2 32 (.i2 33 (.i2 34 .nil))))))))))))))))))))))))))))))))))
@[go_sem] def hi213_15:DT:=.i1 0 (.i2 1 (.i0 2 [0] (.i2 3 (.i2 4 .nil))))
def AO:Hint where
 acts:=fun _=>[]
 draws:=fun
  | 15=>⟨hi213_15,[[],[],[1],[0,1,2],[0,1,2,3]],.range 5⟩
  | 16=>⟨hi213_16,[[],[0],[0,1],[0,1,2],[0,1,2,3],[0,1,2],.range 6,.range 7,.range 8,[0,1,2],.range 10,.range 11,.range 12,.range 13,.range 14,.range 13,.range 16,.range 17,.range 18,.range 13,[0,1,2,3,4,5,6,7,8,9,10,11,12,19],.range 21,.range 22,.range 23,.range 24,.range 25,.range 24,[0,1,2,3,4,5,6,7,8,9,10,11,12,13,14,15,16,17,18,19,20,21,22,23,26],.range 24,[0,1,2,3,4,5,6,7,8,9,10,11,12,13,14,15,16,17,18,19,20,21,22,23,26,27,28],[0,1,2,3,4,5,6,7,8,9,10,11,12,13,14,15,16,17,18,19,20,21,22,23,26,27,28,29],[0,1,2,3,4,5,6,7,8,9,10,11,12,13,14,15,16,17,18,19,20,21,22,23,26,27,28,29,30],.range 32,.range 33,.range 34],.range 35⟩
  | _=>⟨.nil,[],[]⟩
theorem RW (i:Nat):AO.acts i=[]:=rfl
theorem RX (i:Nat):AO.views i=none:=rfl
attribute [go_sem] RW RX Tryz.ntmps213 Tryz.results213
@[go_sem] theorem ZD:(AO.draws 15).order=hi213_15:=rfl
@[go_sem] theorem ZE:(AO.draws 16).order=hi213_16:=rfl
theorem AP {s:GShow}{res:Bool}(h:jP s=some res):ao Tryz.prog 213 [.agg (GShow.encS s)] [] (.lit (.bool res)) []:=by
 refine aj (ra:=[]) (md:=mdT) hT (hi:=AO) Tryz.func213 rfl rfl (by decide +kernel) (by simp) ?_
 unfold jP at h
 obtain ⟨r1001,g1,h⟩:=ae h
 simp(config:=cS)only[go_sem]
 refine ag (co g1) ?_
 obtain ⟨h2,h⟩|⟨h2,h⟩:=af h
 ·obtain ⟨x1002,g3,h⟩:=ae h
  obtain ⟨h5,h6⟩:=dC (k:=0) g3
  obtain ⟨h7,h⟩|⟨h7,h⟩:=af h
  ·cases h
   simp(config:=cS)only[go_sem,eZt h2,h5,h6,eqT h7]
  ·obtain ⟨h8,h⟩|⟨h8,h⟩:=af h
   ·obtain ⟨q1017,l9,h⟩:=ae h
    simp(config:=cS)only[go_sem,eZt h2,h5,h6,eqF h7,eqT h8]
    refine an (m1:=.mk) (m2:=.mk) [.nf [1,33,34,35] [64]] (pk s.nodes ((s.nodes.length:Nat):Int) s.ties s.horizon) l9 ?_ ?_
    ·simp(config:=cS)only[go_sem,eZt h2,h5,h6,eqF h7,eqT h8]
    ·intro nb10 sb10 bb10 b10 gb10
     obtain ⟨v35_1,eb10⟩:∃ v,v=sb10:=⟨_,rfl⟩;subst eb10
     unfold ek at b10
     try dsimp only at b10
     obtain ⟨h11,b10⟩|⟨h11,b10⟩:=af b10
     ·obtain ⟨x1003,g12,b10⟩:=ae b10
      obtain ⟨h13,h14,h15⟩:=ai g12
      obtain ⟨r1004,g16,b10⟩:=ae b10
      simp(config:=cS)only[go_sem,eZt h2,h5,h6,eqF h7,eqT h8,eqT h11,h13,h14,h15]
      refine ag (Ej g16) ?_
      obtain ⟨h17,b10⟩|⟨h17,b10⟩:=af b10
      ·obtain ⟨r1005,g18,b10⟩:=ae b10
       simp(config:=cS)only[go_sem,eZt h2,h5,h6,eqF h7,eqT h8,eqT h11,h13,h14,h15,eZt h17]
       refine ag (yR g18) ?_
       obtain ⟨h19,b10⟩|⟨h19,b10⟩:=af b10
       ·obtain ⟨h20,b10⟩|⟨h20,b10⟩:=af b10
        ·cases b10
         simp(config:=cS)only[go_sem,eZt h2,h5,h6,eqF h7,eqT h8,eqT h11,h13,h14,h15,eZt h17,eqT h19,eqT h20]
         refine ap gb10 ?_
         simp(config:=cS)only[go_sem,eZt h2,h5,h6,eqF h7,eqT h8,eqT h11,h13,h14,h15,eZt h17,eqT h19,eqT h20]
        ·obtain ⟨r1006,g21,b10⟩:=ae b10
         simp(config:=cS)only[go_sem,eZt h2,h5,h6,eqF h7,eqT h8,eqT h11,h13,h14,h15,eZt h17,eqT h19,eqF h20]
         refine ag (kD g21) ?_
         obtain ⟨h22,b10⟩|⟨h22,b10⟩:=af b10
         ·cases b10
          simp(config:=cS)only[go_sem,eZt h2,h5,h6,eqF h7,eqT h8,eqT h11,h13,h14,h15,eZt h17,eqT h19,eqF h20,eqT h22]
          refine ap gb10 ?_
          simp(config:=cS)only[go_sem,eZt h2,h5,h6,eqF h7,eqT h8,eqT h11,h13,h14,h15,eZt h17,eqT h19,eqF h20,eqT h22]
         ·cases b10
          have e23:=(ak gb10).symm
          subst e23
          try dsimp only at h
          cases h
          simp(config:=cS)only[go_sem,eZt h2,h5,h6,eqF h7,eqT h8,eqT h11,h13,h14,h15,eZt h17,eqT h19,eqF h20,eqF h22]
       ·cases b10
        have e24:=(ak gb10).symm
        subst e24
        try dsimp only at h
        cases h
        simp(config:=cS)only[go_sem,eZt h2,h5,h6,eqF h7,eqT h8,eqT h11,h13,h14,h15,eZt h17,eqF h19]
      ·cases b10
       have e25:=(ak gb10).symm
       subst e25
       try dsimp only at h
       cases h
       simp(config:=cS)only[go_sem,eZt h2,h5,h6,eqF h7,eqT h8,eqT h11,h13,h14,h15,eZf h17]
     ·cases b10
      have e26:=(ak gb10).symm
      subst e26
      try dsimp only at h
      obtain ⟨q1016,l27,h⟩:=ae h
      simp(config:=cS)only[go_sem,eZt h2,h5,h6,eqF h7,eqT h8,eqF h11]
      refine an (m1:=.mk) (m2:=.mk) [.nf [1,66,67,68] [64]] (pm s.nodes ((s.nodes.length:Nat):Int) s.ties s.horizon) l27 ?_ ?_
      ·simp(config:=cS)only[go_sem,eZt h2,h5,h6,eqF h7,eqT h8,eqF h11]
      ·intro nb28 sb28 bb28 b28 gb28
       obtain ⟨v68_2,eb28⟩:∃ v,v=sb28:=⟨_,rfl⟩;subst eb28
       unfold eo at b28
       try dsimp only at b28
       obtain ⟨h29,b28⟩|⟨h29,b28⟩:=af b28
       ·obtain ⟨x1007,g30,b28⟩:=ae b28
        obtain ⟨h31,h32,h33⟩:=ai g30
        obtain ⟨q1015,l34,b28⟩:=ae b28
        simp(config:=cS)only[go_sem,eZt h2,h5,h6,eqF h7,eqT h8,eqF h11,eqT h29,h31,h32,h33]
        refine an (m1:=.mk) (m2:=.mk) [.nf [1,6,66,67,68,73,74,75] [64,384]] (pl s.nodes ((s.nodes.length:Nat):Int) v68_2 x1007.label ((x1007.label.length:Nat):Int) s.ties s.horizon x1007.name x1007.watch) l34 ?_ ?_
        ·simp(config:=cS)only[go_sem,eZt h2,h5,h6,eqF h7,eqT h8,eqF h11,eqT h29,h31,h32,h33]
        ·intro nb35 sb35 bb35 b35 gb35
         obtain ⟨v75_3,eb35⟩:∃ v,v=sb35:=⟨_,rfl⟩;subst eb35
         unfold em at b35
         try dsimp only at b35
         obtain ⟨h36,b35⟩|⟨h36,b35⟩:=af b35
         ·obtain ⟨x1008,g37,b35⟩:=ae b35
          obtain ⟨h38,h39,h40⟩:=ai g37
          obtain ⟨r1009,g41,b35⟩:=ae b35
          simp(config:=cS)only[go_sem,eZt h2,h5,h6,eqF h7,eqT h8,eqF h11,eqT h29,h31,h32,h33,eqT h36,h38,h39,h40]
          refine ag (nn g41) ?_
          obtain ⟨r1010,g42,b35⟩:=ae b35
          simp(config:=cS)only[go_sem,eZt h2,h5,h6,eqF h7,eqT h8,eqF h11,eqT h29,h31,h32,h33,eqT h36,h38,h39,h40]
          refine ag (kD g42) ?_
          obtain ⟨h43,b35⟩|⟨h43,b35⟩:=af b35
          ·cases b35
           have e44:=(ak gb35).symm
           subst e44
           try dsimp only at b28
           cases b28
           have e45:=(ak gb28).symm
           subst e45
           try dsimp only at h
           cases h
           simp(config:=cS)only[go_sem,eZt h2,h5,h6,eqF h7,eqT h8,eqF h11,eqT h29,h31,h32,h33,eqT h36,h38,h39,h40,eqT h43]
          ·obtain ⟨x1011,g46,b35⟩:=ae b35
           obtain ⟨h47,h48,h49⟩:=ai g46
           obtain ⟨r1012,g50,b35⟩:=ae b35
           simp(config:=cS)only[go_sem,eZt h2,h5,h6,eqF h7,eqT h8,eqF h11,eqT h29,h31,h32,h33,eqT h36,h38,h39,h40,eqF h43,h47,h48,h49]
           refine ag (jF g50) ?_
           obtain ⟨h51,b35⟩|⟨h51,b35⟩:=af b35
           ·cases b35
            have e52:=(ak gb35).symm
            subst e52
            try dsimp only at b28
            cases b28
            have e53:=(ak gb28).symm
            subst e53
            try dsimp only at h
            cases h
            simp(config:=cS)only[go_sem,eZt h2,h5,h6,eqF h7,eqT h8,eqF h11,eqT h29,h31,h32,h33,eqT h36,h38,h39,h40,eqF h43,h47,h48,h49,eZt h51]
           ·obtain ⟨r1013,g54,b35⟩:=ae b35
            simp(config:=cS)only[go_sem,eZt h2,h5,h6,eqF h7,eqT h8,eqF h11,eqT h29,h31,h32,h33,eqT h36,h38,h39,h40,eqF h43,h47,h48,h49,eZf h51]
            refine ag (jF g54) ?_
            obtain ⟨h55,b35⟩|⟨h55,b35⟩:=af b35
            ·cases b35
             have e56:=(ak gb35).symm
             subst e56
             try dsimp only at b28
             cases b28
             have e57:=(ak gb28).symm
             subst e57
             try dsimp only at h
             cases h
             simp(config:=cS)only[go_sem,eZt h2,h5,h6,eqF h7,eqT h8,eqF h11,eqT h29,h31,h32,h33,eqT h36,h38,h39,h40,eqF h43,h47,h48,h49,eZf h51,eZt h55]
            ·obtain ⟨r1014,g58,b35⟩:=ae b35
             simp(config:=cS)only[go_sem,eZt h2,h5,h6,eqF h7,eqT h8,eqF h11,eqT h29,h31,h32,h33,eqT h36,h38,h39,h40,eqF h43,h47,h48,h49,eZf h51,eZf h55]
             refine ag (vJ g58) ?_
             obtain ⟨h59,b35⟩|⟨h59,b35⟩:=af b35
             ·cases b35
              simp(config:=cS)only[go_sem,eZt h2,h5,h6,eqF h7,eqT h8,eqF h11,eqT h29,h31,h32,h33,eqT h36,h38,h39,h40,eqF h43,h47,h48,h49,eZf h51,eZf h55,eZt h59]
              refine ap gb35 ?_
              simp(config:=cS)only[go_sem,eZt h2,h5,h6,eqF h7,eqT h8,eqF h11,eqT h29,h31,h32,h33,eqT h36,h38,h39,h40,eqF h43,h47,h48,h49,eZf h51,eZf h55,eZt h59]
             ·cases b35
              have e60:=(ak gb35).symm
              subst e60
              try dsimp only at b28
              cases b28
              have e61:=(ak gb28).symm
              subst e61
              try dsimp only at h
              cases h
              simp(config:=cS)only[go_sem,eZt h2,h5,h6,eqF h7,eqT h8,eqF h11,eqT h29,h31,h32,h33,eqT h36,h38,h39,h40,eqF h43,h47,h48,h49,eZf h51,eZf h55,eZf h59]
         ·cases b35
          have e62:=(ak gb35).symm
          subst e62
          try dsimp only at b28
          cases b28
          simp(config:=cS)only[go_sem,eZt h2,h5,h6,eqF h7,eqT h8,eqF h11,eqT h29,h31,h32,h33,eqF h36]
          refine ap gb28 ?_
          simp(config:=cS)only[go_sem,eZt h2,h5,h6,eqF h7,eqT h8,eqF h11,eqT h29,h31,h32,h33,eqF h36]
       ·cases b28
        have e63:=(ak gb28).symm
        subst e63
        try dsimp only at h
        cases h
        simp(config:=cS)only[go_sem,eZt h2,h5,h6,eqF h7,eqT h8,eqF h11,eqF h29]
   ·cases h
    simp(config:=cS)only[go_sem,eZt h2,h5,h6,eqF h7,eqF h8]
 ·cases h
  simp(config:=cS)only[go_sem,eZf h2]
def qc (b:List Int)(v12:List Int)(v13:Int)(v14:Int):St:=⟨[(1,.sl (ab eI b)),(12,.sl (ab eI v12)),(13,.lit (.int .i64 v13)),(14,.lit (.int .i64 v14))],[],2⟩
attribute [go_sem] qc
def JK:Hint where
 acts:=fun _=>[]
 draws:=fun
  | _=>⟨.nil,[],[]⟩
theorem RY (i:Nat):JK.acts i=[]:=rfl
theorem RZ (i:Nat):JK.views i=none:=rfl
attribute [go_sem] RY RZ Tryz.ntmps233 Tryz.results233
theorem nq {a:List Int}{b:List Int}{res:Bool}(h:ep a b=some res):ao Tryz.prog 233 [.sl (ab eI a),.sl (ab eI b)] [] (.lit (.bool res)) []:=by
 refine aj (ra:=[]) (md:=mdT) hT (hi:=JK) Tryz.func233 rfl rfl (by decide +kernel) (by simp) ?_
 unfold ep at h
 obtain ⟨h1,h⟩|⟨h1,h⟩:=af h
 ·obtain ⟨q1003,l2,h⟩:=ae h
  simp(config:=cS)only[go_sem,eqT h1]
  refine an (m1:=.mk) (m2:=.mk) [.nf [1,12,13,14] []] (qc b a ((a.length:Nat):Int)) l2 ?_ ?_
  ·simp(config:=cS)only[go_sem]
  ·intro nb3 sb3 bb3 b3 gb3
   obtain ⟨v14_1,eb3⟩:∃ v,v=sb3:=⟨_,rfl⟩;subst eb3
   unfold fq at b3
   try dsimp only at b3
   obtain ⟨h4,b3⟩|⟨h4,b3⟩:=af b3
   ·obtain ⟨x1001,g5,b3⟩:=ae b3
    obtain ⟨h6,h7,h8⟩:=ai g5
    obtain ⟨x1002,g9,b3⟩:=ae b3
    obtain ⟨h10,h11,h12⟩:=ai g9
    obtain ⟨h13,b3⟩|⟨h13,b3⟩:=af b3
    ·cases b3
     simp(config:=cS)only[go_sem,eqT h4,h6,h7,h8,h10,h11,h12,eqT h13]
     refine ap gb3 ?_
     simp(config:=cS)only[go_sem]
    ·cases b3
     have e14:=(ak gb3).symm
     subst e14
     try dsimp only at h
     cases h
     simp(config:=cS)only[go_sem,eqT h4,h6,h7,h8,h10,h11,h12,eqF h13]
   ·cases b3
    have e15:=(ak gb3).symm
    subst e15
    try dsimp only at h
    cases h
    simp(config:=cS)only[go_sem,eqF h4]
 ·cases h
  simp(config:=cS)only[go_sem,eqF h1]
def qd (node:Int)(v8:List GTie)(v9:Int)(v10:Int):St:=⟨[(1,.lit (.int .i64 node)),(8,.sl (ab GTie.enc v8)),(9,.lit (.int .i64 v9)),(10,.lit (.int .i64 v10))],[],2⟩
attribute [go_sem] qd
def JL:Hint where
 acts:=fun _=>[]
 draws:=fun
  | _=>⟨.nil,[],[]⟩
theorem Sa (i:Nat):JL.acts i=[]:=rfl
theorem Sb (i:Nat):JL.views i=none:=rfl
attribute [go_sem] Sa Sb Tryz.ntmps247 Tryz.results247
theorem uu {s:GShow}{node:Int}{res:Int}(h:ja s node=some res):ao Tryz.prog 247 [.agg (GShow.encS s),.lit (.int .i64 node)] [] (.lit (.int .i64 res)) []:=by
 refine aj (ra:=[]) (md:=mdT) hT (hi:=JL) Tryz.func247 rfl rfl (by decide +kernel) (by simp) ?_
 unfold ja at h
 obtain ⟨q1002,l1,h⟩:=ae h
 simp(config:=cS)only[go_sem]
 refine an (m1:=.mk) (m2:=.mk) [.nf [1,8,9,10] []] (qd node s.ties ((s.ties.length:Nat):Int)) l1 ?_ ?_
 ·simp(config:=cS)only[go_sem]
 ·intro nb2 sb2 bb2 b2 gb2
  obtain ⟨v10_1,eb2⟩:∃ v,v=sb2:=⟨_,rfl⟩;subst eb2
  unfold fu at b2
  try dsimp only at b2
  obtain ⟨h3,b2⟩|⟨h3,b2⟩:=af b2
  ·obtain ⟨x1001,g4,b2⟩:=ae b2
   obtain ⟨h5,h6,h7⟩:=ai g4
   obtain ⟨h8,b2⟩|⟨h8,b2⟩:=af b2
   ·obtain ⟨h9,b2⟩|⟨h9,b2⟩:=af b2
    ·cases b2
     have e10:=(ak gb2).symm
     subst e10
     try dsimp only at h
     cases h
     simp(config:=cS)only[go_sem,eqT h3,h5,h6,h7,eZt h8,eqT h9]
    ·cases b2
     simp(config:=cS)only[go_sem,eqT h3,h5,h6,h7,eZt h8,eqF h9]
     refine ap gb2 ?_
     simp(config:=cS)only[go_sem]
   ·cases b2
    simp(config:=cS)only[go_sem,eqT h3,h5,h6,h7,eZf h8]
    refine ap gb2 ?_
    simp(config:=cS)only[go_sem]
  ·cases b2
   have e11:=(ak gb2).symm
   subst e11
   try dsimp only at h
   cases h
   simp(config:=cS)only[go_sem,eqF h3]
@[go_sem] def hi214_5:DT:=.i2 0 (.i2 1 (.i2 2 (.i2 3 (.i2 4 (.i2 5 (.i2 6 (.i2 7 (.i2 8 (.i2 9 (.i2 10 (.i2 11 (.i2 12 (.i2 13 (.i2 14 (.i2 15 (.i2 16 (.i2 17 (.i2 18 (.i2 19 (.i2 20 (.i2 21 (.i2 22 (.i2 23 (.i2 24 (.i2 25 (.i2 26 (.i2 27 (.i2 28 (.i2 29 (.i2 30 (.i2 31 (.i2 32 (.i2 33 (.i2 34 (.i2 35 (.i2 36 (.i2 37 (.i2 38 (.i2 39 (.i2 40 (.i2 41 (.i2 42 (.i2 44 (.i2 43 (.i2 45 (.i2 46 (.i2 47 (.i2 48 .nil))))))))))))))))))))))))))))))))))))))))))))))))
def EX:Hint where
 acts:=fun _=>[]
 draws:=fun
  | 5=>⟨hi214_5,[[],[0],[0,1],[0,1,2],[0,1,2,3],.range 5,.range 6,.range 7,.range 8,.range 9,.range 10,.range 11,.range 12,.range 13,.range 14,.range 13,[0,1,2,3,4,5,6,7,8,9,10,11,12,15],.range 17,.range 18,.range 19,.range 20,.range 21,.range 22,.range 23,.range 24,.range 23,[0,1,2,3,4,5,6,7,8,9,10,11,12,13,14,15,16,17,18,19,20,21,22,25],.range 27,.range 28,.range 29,.range 23,[0,1,2,3,4,5,6,7,8,9,10,11,12,13,14,15,16,17,18,19,20,21,22,30],.range 23,[0,1,2,3,4,5,6,7,8,9,10,11,12,13,14,15,16,17,18,19,20,21,22,32],[0,1,2,3,4,5,6,7,8,9,10,11,12,13,14,15,16,17,18,19,20,21,22,30,31,32,33],[0,1,2,3,4,5,6,7,8,9,10,11,12,13,14,15,16,17,18,19,20,21,22,30,31,32,33,34],[0,1,2,3,4,5,6,7,8,9,10,11,12,13,14,15,16,17,18,19,20,21,22,30,31,32,33,34,35],.range 37,.range 38,.range 39,.range 40,.range 40,[0,1,2,3,4,5,6,7,8,9,10,11,12,13,14,15,16,17,18,19,20,21,22,23,24,25,26,27,28,29,30,31,32,33,34,35,36,37,38,39,41],.range 43,.range 40,.range 45,.range 46,.range 47,.range 48],.range 49⟩
  | _=>⟨.nil,[],[]⟩
theorem Sc (i:Nat):EX.acts i=[]:=rfl
theorem Sd (i:Nat):EX.views i=none:=rfl
attribute [go_sem] Sc Sd Tryz.ntmps214 Tryz.results214
@[go_sem] theorem ZP:(EX.draws 5).order=hi214_5:=rfl
theorem Ek {s:GShow}{i:Int}{res:Bool}(h:lW s i=some res):ao Tryz.prog 214 [.agg (GShow.encS s),.lit (.int .i64 i)] [] (.lit (.bool res)) []:=by
 refine aj (ra:=[]) (md:=mdT) hT (hi:=EX) Tryz.func214 rfl rfl (by decide +kernel) (by simp) ?_
 unfold lW at h
 obtain ⟨x1001,g1,h⟩:=ae h
 obtain ⟨h2,h3,h4⟩:=ai g1
 obtain ⟨r1002,g5,h⟩:=ae h
 simp(config:=cS)only[go_sem,h2,h3,h4]
 refine ag (co g5) ?_
 obtain ⟨h6,h⟩|⟨h6,h⟩:=af h
 ·obtain ⟨r1003,g7,h⟩:=ae h
  simp(config:=cS)only[go_sem,h2,h3,h4,eZt h6]
  refine ag (co g7) ?_
  obtain ⟨h8,h⟩|⟨h8,h⟩:=af h
  ·obtain ⟨h9,h⟩|⟨h9,h⟩:=af h
   ·cases h
    simp(config:=cS)only[go_sem,h2,h3,h4,eZt h6,eZt h8,eqT h9]
   ·obtain ⟨h10,h⟩|⟨h10,h⟩:=af h
    ·cases h
     simp(config:=cS)only[go_sem,h2,h3,h4,eZt h6,eZt h8,eqF h9,eqT h10]
    ·obtain ⟨h11,h⟩|⟨h11,h⟩:=af h
     ·cases h
      simp(config:=cS)only[go_sem,h2,h3,h4,eZt h6,eZt h8,eqF h9,eqF h10,eqT h11]
     ·obtain ⟨h12,h⟩|⟨h12,h⟩:=af h
      ·cases h
       simp(config:=cS)only[go_sem,h2,h3,h4,eZt h6,eZt h8,eqF h9,eqF h10,eqF h11,eqT h12]
      ·obtain ⟨h13,h⟩|⟨h13,h⟩:=af h
       ·obtain ⟨h14,h⟩|⟨h14,h⟩:=af h
        ·obtain ⟨h15,h⟩|⟨h15,h⟩:=af h
         ·cases h
          simp(config:=cS)only[go_sem,h2,h3,h4,eZt h6,eZt h8,eqF h9,eqF h10,eqF h11,eqF h12,eZt h13,eqT h14,eqT h15]
         ·obtain ⟨x1004,g16,h⟩:=ae h
          obtain ⟨h17,h18,h19⟩:=ai g16
          obtain ⟨h20,h⟩|⟨h20,h⟩:=af h
          ·obtain ⟨x1005,g21,h⟩:=ae h
           obtain ⟨h22,h23,h24⟩:=ai g21
           obtain ⟨r1006,g25,h⟩:=ae h
           simp(config:=cS)only[go_sem,h2,h3,h4,eZt h6,eZt h8,eqF h9,eqF h10,eqF h11,eqF h12,eZt h13,eqT h14,eqF h15,h17,h18,h19,eqT h20,h22,h23,h24]
           refine ag (nq g25) ?_
           obtain ⟨h26,h⟩|⟨h26,h⟩:=af h
           ·obtain ⟨r1007,g27,h⟩:=ae h
            simp(config:=cS)only[go_sem,h2,h3,h4,eZt h6,eZt h8,eqF h9,eqF h10,eqF h11,eqF h12,eZt h13,eqT h14,eqF h15,h17,h18,h19,eqT h20,h22,h23,h24,eZt h26]
            refine ag (uu g27) ?_
            cases h
            simp(config:=cS)only[go_sem,h2,h3,h4,eZt h6,eZt h8,eqF h9,eqF h10,eqF h11,eqF h12,eZt h13,eqT h14,eqF h15,h17,h18,h19,eqT h20,h22,h23,h24,eZt h26]
           ·cases h
            simp(config:=cS)only[go_sem,h2,h3,h4,eZt h6,eZt h8,eqF h9,eqF h10,eqF h11,eqF h12,eZt h13,eqT h14,eqF h15,h17,h18,h19,eqT h20,h22,h23,h24,eZf h26]
          ·cases h
           simp(config:=cS)only[go_sem,h2,h3,h4,eZt h6,eZt h8,eqF h9,eqF h10,eqF h11,eqF h12,eZt h13,eqT h14,eqF h15,h17,h18,h19,eqF h20]
        ·cases h
         simp(config:=cS)only[go_sem,h2,h3,h4,eZt h6,eZt h8,eqF h9,eqF h10,eqF h11,eqF h12,eZt h13,eqF h14]
       ·cases h
        simp(config:=cS)only[go_sem,h2,h3,h4,eZt h6,eZt h8,eqF h9,eqF h10,eqF h11,eqF h12,eZf h13]
  ·cases h
   simp(config:=cS)only[go_sem,h2,h3,h4,eZt h6,eZf h8]
 ·cases h
  simp(config:=cS)only[go_sem,h2,h3,h4,eZf h6]
def qN (v21:Int)(s_0:List GNode)(s_1:List GTie)(s_2:Int)(v22:Int):St:=⟨[(1,.ptr 64 1 0 0),(21,.lit (.int .i64 v21)),(22,.lit (.int .i64 v22))],[(64,1,.var [.sl (ab GNode.encS s_0),.sl (ab GTie.enc s_1),.lit (.int .i64 s_2)])],2⟩
attribute [go_sem] qN
def JM:Hint where
 acts:=fun _=>[]
 draws:=fun
  | _=>⟨.nil,[],[]⟩
theorem Se (i:Nat):JM.acts i=[]:=rfl
theorem Sf (i:Nat):JM.views i=none:=rfl
attribute [go_sem] Se Sf Tryz.ntmps137 Tryz.results137
theorem oK {s:GShow}{res:Bool}(h:fI s=some res):ao Tryz.prog 137 [.agg (GShow.encS s)] [] (.lit (.bool res)) []:=by
 refine aj (ra:=[]) (md:=mdT) hT (hi:=JM) Tryz.func137 rfl rfl (by decide +kernel) (by simp) ?_
 unfold fI at h
 obtain ⟨r1001,g1,h⟩:=ae h
 simp(config:=cS)only[go_sem]
 refine ag (AP g1) ?_
 obtain ⟨h2,h⟩|⟨h2,h⟩:=af h
 ·obtain ⟨h3,h⟩|⟨h3,h⟩:=af h
  ·cases h
   simp(config:=cS)only[go_sem,eZt h2,eqT h3]
  ·obtain ⟨r1002,g4,h⟩:=ae h
   simp(config:=cS)only[go_sem,eZt h2,eqF h3]
   refine ag (co g4) ?_
   obtain ⟨h5,h⟩|⟨h5,h⟩:=af h
   ·obtain ⟨q1004,l6,h⟩:=ae h
    simp(config:=cS)only[go_sem,eZt h5]
    refine an (m1:=.mk) (m2:=.mk) [.nf [1,21,22] [64]] (qN ((s.ties.length:Nat):Int) s.nodes s.ties s.horizon) l6 ?_ ?_
    ·simp(config:=cS)only[go_sem]
    ·intro nb7 sb7 bb7 b7 gb7
     obtain ⟨v22_1,eb7⟩:∃ v,v=sb7:=⟨_,rfl⟩;subst eb7
     unfold gn at b7
     try dsimp only at b7
     obtain ⟨h8,b7⟩|⟨h8,b7⟩:=af b7
     ·obtain ⟨r1003,g9,b7⟩:=ae b7
      simp(config:=cS)only[go_sem,eqT h8]
      refine ag (Ek g9) ?_
      obtain ⟨h10,b7⟩|⟨h10,b7⟩:=af b7
      ·cases b7
       simp(config:=cS)only[go_sem,eZt h10]
       refine ap gb7 ?_
       simp(config:=cS)only[go_sem]
      ·cases b7
       have e11:=(ak gb7).symm
       subst e11
       try dsimp only at h
       cases h
       simp(config:=cS)only[go_sem,eZf h10]
     ·cases b7
      have e12:=(ak gb7).symm
      subst e12
      try dsimp only at h
      cases h
      simp(config:=cS)only[go_sem,eqF h8]
   ·cases h
    simp(config:=cS)only[go_sem,eZf h5]
 ·cases h
  simp(config:=cS)only[go_sem,eZf h2]
def pn (v:List Int)(v6:Int)(v7:Int):St:=⟨[(0,.sl (ab eI v)),(5,.sl (ab eI v)),(6,.lit (.int .i64 v6)),(7,.lit (.int .i64 v7))],[],2⟩
attribute [go_sem] pn
def JN:Hint where
 acts:=fun _=>[]
 draws:=fun
  | _=>⟨.nil,[],[]⟩
theorem Sg (i:Nat):JN.acts i=[]:=rfl
theorem Si (i:Nat):JN.views i=none:=rfl
attribute [go_sem] Sg Si Tryz.ntmps229 Tryz.results229
theorem AQ {v:List Int}{res:Bool}(h:jX v=some res):ao Tryz.prog 229 [.sl (ab eI v)] [] (.lit (.bool res)) []:=by
 refine aj (ra:=[]) (md:=mdT) hT (hi:=JN) Tryz.func229 rfl rfl (by decide +kernel) (by simp) ?_
 unfold jX at h
 obtain ⟨q1003,l1,h⟩:=ae h
 simp(config:=cS)only[go_sem]
 refine an (m1:=.mk) (m2:=.mk) [.nf [0,5,6,7] []] (pn v ((v.length:Nat):Int)) l1 ?_ ?_
 ·simp(config:=cS)only[go_sem]
 ·intro nb2 sb2 bb2 b2 gb2
  obtain ⟨v7_1,eb2⟩:∃ v,v=sb2:=⟨_,rfl⟩;subst eb2
  unfold ew at b2
  try dsimp only at b2
  obtain ⟨h3,b2⟩|⟨h3,b2⟩:=af b2
  ·obtain ⟨x1001,g4,b2⟩:=ae b2
   obtain ⟨h5,h6,h7⟩:=ai g4
   obtain ⟨r1002,g8,b2⟩:=ae b2
   simp(config:=cS)only[go_sem,eqT h3,h5,h6,h7]
   refine ag (co g8) ?_
   obtain ⟨h9,b2⟩|⟨h9,b2⟩:=af b2
   ·cases b2
    simp(config:=cS)only[go_sem,eZt h9]
    refine ap gb2 ?_
    simp(config:=cS)only[go_sem]
   ·cases b2
    have e10:=(ak gb2).symm
    subst e10
    try dsimp only at h
    cases h
    simp(config:=cS)only[go_sem,eZf h9]
  ·cases b2
   have e11:=(ak gb2).symm
   subst e11
   try dsimp only at h
   cases h
   simp(config:=cS)only[go_sem,eqF h3]
def qe (v44:List Int)(v45:Int)(s_0:List GNode)(s_1:List GTie)(s_2:Int)(v3_0:Int)(v3_2:List Int)(v46:Int):St:=⟨[(2,.ptr 128 1 0 0),(3,.ptr 192 1 0 0),(44,.sl (ab eI v44)),(45,.lit (.int .i64 v45)),(46,.lit (.int .i64 v46))],[(128,1,.var [.sl (ab GNode.encS s_0),.sl (ab GTie.enc s_1),.lit (.int .i64 s_2)]),(192,1,.var [.lit (.int .i64 v3_0),.sl (ab eI v44),.sl (ab eI v3_2)])],2⟩
attribute [go_sem] qe
def qf (s_0:List GNode)(s_1:List GTie)(s_2:Int)(v3_0:Int)(v3_1:List Int)(v3_2:List Int)(p:Int):St:=⟨[(2,.ptr 128 1 0 0),(3,.ptr 192 1 0 0),(7,.lit (.int .i64 p))],[(128,1,.var [.sl (ab GNode.encS s_0),.sl (ab GTie.enc s_1),.lit (.int .i64 s_2)]),(192,1,.var [.lit (.int .i64 v3_0),.sl (ab eI v3_1),.sl (ab eI v3_2)])],2⟩
attribute [go_sem] qf
@[go_sem] def hi177_13:DT:=.i2 0 (.i2 1 (.i2 2 (.i2 3 (.i2 4 (.i2 5 (.i2 6 (.i2 7 (.i2 8 (.i2 9 (.i2 10 (.i2 11 (.i2 12 (.i2 13 (.i2 14 (.i2 15 (.i2 16 (.i2 17 .nil)))))))))))))))))
def EY:Hint where
 acts:=fun _=>[]
 draws:=fun
  | 13=>⟨hi177_13,[[],[0],[],[2],[0,1,2,3],.range 5,.range 6,[],[7],[7,8],[7,8,9],[7,8,9,10],[7,8,9],[7,8,9,10,11,12],[7,8,9,10,11,12,13],[7,8,9,10,11,12,13,14],[7,8,9,10,11,12,13,14,15],.range 17],.range 18⟩
  | _=>⟨.nil,[],[]⟩
theorem Sj (i:Nat):EY.acts i=[]:=rfl
theorem Sk (i:Nat):EY.views i=none:=rfl
attribute [go_sem] Sj Sk Tryz.ntmps177 Tryz.results177
@[go_sem] theorem ZF:(EY.draws 13).order=hi177_13:=rfl
theorem rj {s:GShow}{v1:GState}{res:Bool}(h:ex s v1=some res):ao Tryz.prog 177 [.agg (GShow.encS s),.agg (GState.encS v1)] [] (.lit (.bool res)) []:=by
 refine aj (ra:=[]) (md:=mdT) hT (hi:=EY) Tryz.func177 rfl rfl (by decide +kernel) (by simp) ?_
 unfold ex at h
 obtain ⟨r1001,g1,h⟩:=ae h
 simp(config:=cS)only[go_sem]
 refine ag (oK g1) ?_
 obtain ⟨h2,h⟩|⟨h2,h⟩:=af h
 ·obtain ⟨r1002,g3,h⟩:=ae h
  simp(config:=cS)only[go_sem,eZt h2]
  refine ag (co g3) ?_
  obtain ⟨h4,h⟩|⟨h4,h⟩:=af h
  ·obtain ⟨h5,h⟩|⟨h5,h⟩:=af h
   ·obtain ⟨x1003,g6,h⟩:=ae h
    obtain ⟨h8,h9⟩:=dC (k:=0) g6
    obtain ⟨h10,h⟩|⟨h10,h⟩:=af h
    ·obtain ⟨r1004,g11,h⟩:=ae h
     simp(config:=cS)only[go_sem,eZt h2,eZt h4,eqT h5,h8,h9,eqT h10]
     refine ag (AQ g11) ?_
     obtain ⟨h12,h⟩|⟨h12,h⟩:=af h
     ·obtain ⟨q1011,l13,h⟩:=ae h
      simp(config:=cS)only[go_sem,eZt h2,eZt h4,eqT h5,h8,h9,eqT h10,eZt h12]
      refine an (m1:=.mk) (m2:=.mk) [.nf [2,3,44,45,46] [128,192]] (qe v1.times ((v1.times.length:Nat):Int) s.nodes s.ties s.horizon v1.now v1.values) l13 ?_ ?_
      ·simp(config:=cS)only[go_sem,eZt h2,eZt h4,eqT h5,h8,h9,eqT h10,eZt h12]
      ·intro nb14 sb14 bb14 b14 gb14
       obtain ⟨v46_1,eb14⟩:∃ v,v=sb14:=⟨_,rfl⟩;subst eb14
       unfold fz at b14
       try dsimp only at b14
       obtain ⟨h15,b14⟩|⟨h15,b14⟩:=af b14
       ·obtain ⟨x1005,g16,b14⟩:=ae b14
        obtain ⟨h17,h18,h19⟩:=ai g16
        obtain ⟨h20,b14⟩|⟨h20,b14⟩:=af b14
        ·obtain ⟨r1006,g21,b14⟩:=ae b14
         simp(config:=cS)only[go_sem,eZt h2,eZt h4,eqT h5,h8,h9,eqT h10,eZt h12,eqT h15,h17,h18,h19,eqT h20]
         refine ag (co g21) ?_
         obtain ⟨h22,b14⟩|⟨h22,b14⟩:=af b14
         ·cases b14
          simp(config:=cS)only[go_sem,eZt h2,eZt h4,eqT h5,h8,h9,eqT h10,eZt h12,eqT h15,h17,h18,h19,eqT h20,eZt h22]
          refine ap gb14 ?_
          simp(config:=cS)only[go_sem,eZt h2,eZt h4,eqT h5,h8,h9,eqT h10,eZt h12,eqT h15,h17,h18,h19,eqT h20,eZt h22]
         ·cases b14
          have e23:=(ak gb14).symm
          subst e23
          try dsimp only at h
          cases h
          simp(config:=cS)only[go_sem,eZt h2,eZt h4,eqT h5,h8,h9,eqT h10,eZt h12,eqT h15,h17,h18,h19,eqT h20,eZf h22]
        ·cases b14
         simp(config:=cS)only[go_sem,eZt h2,eZt h4,eqT h5,h8,h9,eqT h10,eZt h12,eqT h15,h17,h18,h19,eqF h20]
         refine ap gb14 ?_
         simp(config:=cS)only[go_sem,eZt h2,eZt h4,eqT h5,h8,h9,eqT h10,eZt h12,eqT h15,h17,h18,h19,eqF h20]
       ·cases b14
        have e24:=(ak gb14).symm
        subst e24
        try dsimp only at h
        obtain ⟨q1010,l25,h⟩:=ae h
        simp(config:=cS)only[go_sem,eZt h2,eZt h4,eqT h5,h8,h9,eqT h10,eZt h12,eqF h15]
        refine an (m1:=.mk) (m2:=.mk) [.nf [2,3,7] [128,192]] (qf s.nodes s.ties s.horizon v1.now v1.times v1.values) l25 ?_ ?_
        ·simp(config:=cS)only[go_sem,eZt h2,eZt h4,eqT h5,h8,h9,eqT h10,eZt h12,eqF h15]
        ·intro nb26 sb26 bb26 b26 gb26
         obtain ⟨p_2,eb26⟩:∃ v,v=sb26:=⟨_,rfl⟩;subst eb26
         unfold fA at b26
         try dsimp only at b26
         obtain ⟨h27,b26⟩|⟨h27,b26⟩:=af b26
         ·obtain ⟨r1007,g28,b26⟩:=ae b26
          simp(config:=cS)only[go_sem,eZt h2,eZt h4,eqT h5,h8,h9,eqT h10,eZt h12,eqF h15,eqT h27]
          refine ag (kD g28) ?_
          obtain ⟨x1008,g29,b26⟩:=ae b26
          obtain ⟨h30,h31,h32⟩:=ai g29
          obtain ⟨h33,b26⟩|⟨h33,b26⟩:=af b26
          ·obtain ⟨x1009,g34,b26⟩:=ae b26
           obtain ⟨h35,h36,h37⟩:=ai g34
           obtain ⟨h38,b26⟩|⟨h38,b26⟩:=af b26
           ·cases b26
            simp(config:=cS)only[go_sem,eZt h2,eZt h4,eqT h5,h8,h9,eqT h10,eZt h12,eqF h15,eqT h27,h30,h31,h32,eqT h33,h35,h36,h37,eqT h38]
            refine ap gb26 ?_
            simp(config:=cS)only[go_sem,eZt h2,eZt h4,eqT h5,h8,h9,eqT h10,eZt h12,eqF h15,eqT h27,h30,h31,h32,eqT h33,h35,h36,h37,eqT h38]
           ·cases b26
            have e39:=(ak gb26).symm
            subst e39
            try dsimp only at h
            cases h
            simp(config:=cS)only[go_sem,eZt h2,eZt h4,eqT h5,h8,h9,eqT h10,eZt h12,eqF h15,eqT h27,h30,h31,h32,eqT h33,h35,h36,h37,eqF h38]
          ·obtain ⟨h40,b26⟩|⟨h40,b26⟩:=af b26
           ·cases b26
            simp(config:=cS)only[go_sem,eZt h2,eZt h4,eqT h5,h8,h9,eqT h10,eZt h12,eqF h15,eqT h27,h30,h31,h32,eqF h33,eqT h40]
            refine ap gb26 ?_
            simp(config:=cS)only[go_sem,eZt h2,eZt h4,eqT h5,h8,h9,eqT h10,eZt h12,eqF h15,eqT h27,h30,h31,h32,eqF h33,eqT h40]
           ·cases b26
            have e41:=(ak gb26).symm
            subst e41
            try dsimp only at h
            cases h
            simp(config:=cS)only[go_sem,eZt h2,eZt h4,eqT h5,h8,h9,eqT h10,eZt h12,eqF h15,eqT h27,h30,h31,h32,eqF h33,eqF h40]
         ·cases b26
          have e42:=(ak gb26).symm
          subst e42
          try dsimp only at h
          cases h
          simp(config:=cS)only[go_sem,eZt h2,eZt h4,eqT h5,h8,h9,eqT h10,eZt h12,eqF h15,eqF h27]
     ·cases h
      simp(config:=cS)only[go_sem,eZt h2,eZt h4,eqT h5,h8,h9,eqT h10,eZf h12]
    ·cases h
     simp(config:=cS)only[go_sem,eZt h2,eZt h4,eqT h5,h8,h9,eqF h10]
   ·cases h
    simp(config:=cS)only[go_sem,eZt h2,eZt h4,eqF h5]
  ·cases h
   simp(config:=cS)only[go_sem,eZt h2,eZf h4]
 ·cases h
  simp(config:=cS)only[go_sem,eZf h2]
def nI (v14:Int)(h640:List Int):(Int × (List Int))→St
 | (v15,h100012289)=>⟨[(2,.ptr 128 1 0 0),(3,.ptr 192 1 0 0),(14,.lit (.int .i64 v14)),(15,.lit (.int .i64 v15))],[(128,1,.var [.lit (.int .i64 0),.lit (.slice none 0 0),.lit (.slice none 0 0)]),(192,1,.var [.lit (.int .i64 0),.ref 100012289 1 0 h100012289.length,.ref 640 1 0 h640.length]),(100012289,1,.row true (ab eI h100012289)),(640,1,.row true (ab eI h640))],2⟩
attribute [go_sem] nI
def JO:Hint where
 acts:=fun _=>[]
 draws:=fun
  | _=>⟨.nil,[],[]⟩
theorem Sl (i:Nat):JO.acts i=[]:=rfl
theorem Sm (i:Nat):JO.views i=none:=rfl
attribute [go_sem] Sl Sm Tryz.ntmps176 Tryz.results176
theorem xF {s:GShow}{res:GState}(h:iz s=some res):ao Tryz.prog 176 [.agg (GShow.encS s)] [] (.agg [.lit (.int .i64 res.now),.ref 20000 1 0 res.times.length,.ref 20001 1 0 res.values.length]) [(20000,1,.row true (ab eI res.times)),(20001,1,.row true (ab eI res.values))]:=by
 refine aj (ra:=[.homeCell 128 1,.homeCell 128 2]) (md:=mdT) hT (hi:=JO) Tryz.func176 rfl rfl (by decide +kernel) (by simp) ?_
 unfold iz at h
 obtain ⟨r1001,g1,h⟩:=ae h
 simp(config:=cS)only[go_sem]
 refine ag (oK g1) ?_
 obtain ⟨h2,h⟩|⟨h2,h⟩:=af h
 ·obtain ⟨q1002,l3,h⟩:=ae h
  simp(config:=cS)only[go_sem,eZt h2]
  refine an (m1:=.mk) (m2:=.mk) [.homeCell 192 1,.nf [2,3,14,15] [128,192,100012289,640]] (nI ((s.nodes.length:Nat):Int) (List.replicate 3 0)) l3 ?_ ?_
  ·simp(config:=cS)only[go_sem]
  ·intro nb4 sb4 bb4 b4 gb4
   obtain ⟨v15_1,h100012289_1⟩:=sb4
   unfold du at b4
   try dsimp only at b4
   obtain ⟨h5,b4⟩|⟨h5,b4⟩:=af b4
   ·obtain ⟨h6,b4⟩|⟨h6,b4⟩:=af b4
    ·obtain ⟨h7,b4⟩:=ah b4
     obtain ⟨h8,b4⟩:=ah b4
     cases b4
     simp(config:=cS)only[go_sem,eqT h5,eqT h6,eqT h7,eqT h8]
     refine ap gb4 ?_
     simp(config:=cS)only[go_sem]
    ·obtain ⟨h9,b4⟩:=ah b4
     obtain ⟨h10,b4⟩:=ah b4
     cases b4
     simp(config:=cS)only[go_sem,eqT h5,eqF h6,eqT h9,eqT h10]
     refine ap gb4 ?_
     simp(config:=cS)only[go_sem]
   ·cases b4
    have e11:=(ak gb4).symm
    subst e11
    try dsimp only at h
    cases h
    simp(config:=cS)only[go_sem,eqF h5]
 ·cases h
  simp(config:=cS)only[go_sem,eZf h2]
def nW (v10:List GTie)(v11:Int)(v3_0:Int)(v3_1:List Int)(v3_2:List Int):(Int × (List Int))→St
 | (v12,out)=>⟨[(3,.ptr 192 1 0 0),(5,.ref 512 1 0 out.length),(10,.sl (ab GTie.enc v10)),(11,.lit (.int .i64 v11)),(12,.lit (.int .i64 v12))],[(192,1,.var [.lit (.int .i64 v3_0),.sl (ab eI v3_1),.sl (ab eI v3_2)]),(512,1,.row true (ab eI out))],2⟩
attribute [go_sem] nW
def JP:Hint where
 acts:=fun _=>[]
 draws:=fun
  | _=>⟨.nil,[],[]⟩
theorem Sn (i:Nat):JP.acts i=[]:=rfl
theorem So (i:Nat):JP.views i=none:=rfl
attribute [go_sem] Sn So Tryz.ntmps201 Tryz.results201
theorem yS {s:GShow}{v1:GState}{res:List Int}(h:jp s v1=some res):ao Tryz.prog 201 [.agg (GShow.encS s),.agg (GState.encS v1)] [] (.ref 20000 1 0 res.length) [(20000,1,.row true (ab eI res))]:=by
 refine aj (ra:=[.home 4]) (md:=mdT) hT (hi:=JP) Tryz.func201 rfl rfl (by decide +kernel) (by simp) ?_
 unfold jp at h
 obtain ⟨q1004,l1,h⟩:=ae h
 simp(config:=cS)only[go_sem]
 refine an (m1:=.mk) (m2:=.mk) [.nf [3,5,10,11,12] [192,512]] (nW s.ties ((s.ties.length:Nat):Int) v1.now v1.times v1.values) l1 ?_ ?_
 ·simp(config:=cS)only[go_sem]
 ·intro nb2 sb2 bb2 b2 gb2
  obtain ⟨v12_1,out_1⟩:=sb2
  unfold fS at b2
  try dsimp only at b2
  obtain ⟨h3,b2⟩|⟨h3,b2⟩:=af b2
  ·obtain ⟨x1001,g4,b2⟩:=ae b2
   obtain ⟨h5,h6,h7⟩:=ai g4
   obtain ⟨h8,b2⟩|⟨h8,b2⟩:=af b2
   ·obtain ⟨x1002,g9,b2⟩:=ae b2
    obtain ⟨h10,h11,h12⟩:=ai g9
    obtain ⟨h13,b2⟩|⟨h13,b2⟩:=af b2
    ·cases b2
     simp(config:=cS)only[go_sem,eqT h3,h5,h6,h7,eZt h8,h10,h11,h12,eqT h13]
     refine ap gb2 ?_
     simp(config:=cS)only[go_sem]
    ·obtain ⟨x1003,g14,b2⟩:=ae b2
     obtain ⟨h15,h16,h17⟩:=ai g14
     obtain ⟨h18,b2⟩|⟨h18,b2⟩:=af b2
     ·obtain ⟨h19,b2⟩:=ah b2
      obtain ⟨h20,b2⟩:=ah b2
      cases b2
      simp(config:=cS)only[go_sem,eqT h3,h5,h6,h7,eZt h8,h10,h11,h12,eqF h13,h15,h16,h17,eqT h18,eqT h19,eqT h20]
      refine ap gb2 ?_
      simp(config:=cS)only[go_sem]
     ·cases b2
      simp(config:=cS)only[go_sem,eqT h3,h5,h6,h7,eZt h8,h10,h11,h12,eqF h13,h15,h16,h17,eqF h18]
      refine ap gb2 ?_
      simp(config:=cS)only[go_sem]
   ·cases b2
    simp(config:=cS)only[go_sem,eqT h3,h5,h6,h7,eZf h8]
    refine ap gb2 ?_
    simp(config:=cS)only[go_sem]
  ·cases b2
   have e21:=(ak gb2).symm
   subst e21
   try dsimp only at h
   cases h
   simp(config:=cS)only[go_sem,eqF h3]
def nJ (v16:Int)(s_0:List GNode)(s_1:List GTie)(s_2:Int)(v3_0:Int)(v3_1:List Int)(v3_2:List Int)(v15:List Int):(Int × (List Int) × (List Int))→St
 | (v17,must,may)=>⟨[(2,.ptr 128 1 0 0),(3,.ptr 192 1 0 0),(6,.ref 704 1 0 must.length),(7,.ref 768 1 0 may.length),(15,.ref 960 1 0 v15.length),(16,.lit (.int .i64 v16)),(17,.lit (.int .i64 v17))],[(128,1,.var [.sl (ab GNode.encS s_0),.sl (ab GTie.enc s_1),.lit (.int .i64 s_2)]),(192,1,.var [.lit (.int .i64 v3_0),.sl (ab eI v3_1),.sl (ab eI v3_2)]),(704,1,.row true (ab eI must)),(768,1,.row true (ab eI may)),(960,1,.row true (ab eI v15))],2⟩
attribute [go_sem] nJ
@[go_sem] def hi219_6:DT:=.i2 0 (.i2 1 (.i2 2 (.i2 3 (.i2 4 (.i2 5 (.i2 6 (.i2 7 (.i2 8 (.i2 9 (.i2 10 (.i2 11 (.i2 12 (.i2 13 .nil)))))))))))))
def EZ:Hint where
 acts:=fun _=>[]
 draws:=fun
  | 6=>⟨hi219_6,[[],[0],[],[2],[],[4],[],[4,5,6],[4,5,6,7],[4,5,6,7,8],[2,3,4,5,6,7,8,9],[2,3,4,5,6,7,8,9,10],.range 12,.range 13],.range 14⟩
  | _=>⟨.nil,[],[]⟩
theorem Sp (i:Nat):EZ.acts i=[]:=rfl
theorem Sq (i:Nat):EZ.views i=none:=rfl
attribute [go_sem] Sp Sq Tryz.ntmps219 Tryz.results219
@[go_sem] theorem ZQ:(EZ.draws 6).order=hi219_6:=rfl
theorem sd {s:GShow}{v1:GState}{res:(List Int) × (List Int)}(h:fB s v1=some res):ao Tryz.prog 219 [.agg (GShow.encS s),.agg (GState.encS v1)] [] (.tup [.ref 20000 1 0 res.1.length,.ref 20001 1 0 res.2.length]) [(20000,1,.row true (ab eI res.1)),(20001,1,.row true (ab eI res.2))]:=by
 refine aj (ra:=[.home 4,.home 5]) (md:=mdT) hT (hi:=EZ) Tryz.func219 rfl rfl (by decide +kernel) (by simp) ?_
 unfold fB at h
 obtain ⟨r1001,g1,h⟩:=ae h
 simp(config:=cS)only[go_sem]
 refine ag (yS g1) ?_
 obtain ⟨q1005,l2,h⟩:=ae h
 simp(config:=cS)only[go_sem]
 refine an (m1:=.mk) (m2:=.mk) [.nf [2,3,6,7,15,16,17] [128,192,704,768,960]] (nJ ((r1001.length:Nat):Int) s.nodes s.ties s.horizon v1.now v1.times v1.values r1001) l2 ?_ ?_
 ·simp(config:=cS)only[go_sem]
 ·intro nb3 sb3 bb3 b3 gb3
  obtain ⟨v17_1,must_1,may_1⟩:=sb3
  unfold fb at b3
  try dsimp only at b3
  obtain ⟨h4,b3⟩|⟨h4,b3⟩:=af b3
  ·obtain ⟨x1002,g5,b3⟩:=ae b3
   obtain ⟨h6,h7,h8⟩:=ai g5
   obtain ⟨x1003,g9,b3⟩:=ae b3
   obtain ⟨h10,h11,h12⟩:=ai g9
   obtain ⟨x1004,g13,b3⟩:=ae b3
   obtain ⟨h14,h15,h16⟩:=ai g13
   obtain ⟨h17,b3⟩|⟨h17,b3⟩:=af b3
   ·obtain ⟨h18,b3⟩:=ah b3
    obtain ⟨h19,b3⟩:=ah b3
    cases b3
    simp(config:=cS)only[go_sem,eqT h4,h6,h7,h8,h10,h11,h12,h14,h15,h16,eqT h17,eqT h18,eqT h19]
    refine ap gb3 ?_
    simp(config:=cS)only[go_sem]
   ·obtain ⟨h20,b3⟩|⟨h20,b3⟩:=af b3
    ·obtain ⟨h21,b3⟩:=ah b3
     obtain ⟨h22,b3⟩:=ah b3
     cases b3
     simp(config:=cS)only[go_sem,eqT h4,h6,h7,h8,h10,h11,h12,h14,h15,h16,eqF h17,eqT h20,eqT h21,eqT h22]
     refine ap gb3 ?_
     simp(config:=cS)only[go_sem]
    ·cases b3
     simp(config:=cS)only[go_sem,eqT h4,h6,h7,h8,h10,h11,h12,h14,h15,h16,eqF h17,eqF h20]
     refine ap gb3 ?_
     simp(config:=cS)only[go_sem]
  ·cases b3
   have e23:=(ak gb3).symm
   subst e23
   try dsimp only at h
   cases h
   simp(config:=cS)only[go_sem,eqF h4]
def qg (n:Int)(v9:List Int)(v10:Int):(Int × (List Int))→St
 | (v11,out)=>⟨[(1,.lit (.int .i64 n)),(5,.ref 512 1 0 out.length),(9,.sl (ab eI v9)),(10,.lit (.int .i64 v10)),(11,.lit (.int .i64 v11))],[(512,1,.row true (ab eI out))],2⟩
attribute [go_sem] qg
def JQ:Hint where
 acts:=fun _=>[]
 draws:=fun
  | _=>⟨.nil,[],[]⟩
theorem Sr (i:Nat):JQ.acts i=[]:=rfl
theorem Ss (i:Nat):JQ.views i=none:=rfl
attribute [go_sem] Sr Ss Tryz.ntmps221 Tryz.results221
theorem nr {l:List Int}{n:Int}{res:List Int}(h:ey l n=some res):ao Tryz.prog 221 [.sl (ab eI l),.lit (.int .i64 n)] [] (.ref 20000 1 0 res.length) [(20000,1,.row true (ab eI res))]:=by
 refine aj (ra:=[.home 4]) (md:=mdT) hT (hi:=JQ) Tryz.func221 rfl rfl (by decide +kernel) (by simp) ?_
 unfold ey at h
 obtain ⟨q1002,l1,h⟩:=ae h
 simp(config:=cS)only[go_sem]
 refine an (m1:=.mk) (m2:=.mk) [.nf [1,5,9,10,11] [512]] (qg n l ((l.length:Nat):Int)) l1 ?_ ?_
 ·simp(config:=cS)only[go_sem]
 ·intro nb2 sb2 bb2 b2 gb2
  obtain ⟨v11_1,out_1⟩:=sb2
  unfold iA at b2
  try dsimp only at b2
  obtain ⟨h3,b2⟩|⟨h3,b2⟩:=af b2
  ·obtain ⟨x1001,g4,b2⟩:=ae b2
   obtain ⟨h5,h6,h7⟩:=ai g4
   obtain ⟨h8,b2⟩:=ah b2
   obtain ⟨h9,b2⟩|⟨h9,b2⟩:=af b2
   ·obtain ⟨h10,b2⟩:=ah b2
    obtain ⟨h11,b2⟩:=ah b2
    cases b2
    simp(config:=cS)only[go_sem,eqT h3,h5,h6,h7,eqF h8,eqT h9,eqT h10,eqT h11]
    refine ap gb2 ?_
    simp(config:=cS)only[go_sem]
   ·cases b2
    simp(config:=cS)only[go_sem,eqT h3,h5,h6,h7,eqF h8,eqF h9]
    refine ap gb2 ?_
    simp(config:=cS)only[go_sem]
  ·cases b2
   have e12:=(ak gb2).symm
   subst e12
   try dsimp only at h
   cases h
   simp(config:=cS)only[go_sem,eqF h3]
def po (a:List Int)(b:List Int):(Int × Int × (List Int))→St
 | (i,k,out)=>⟨[(0,.sl (ab eI a)),(1,.sl (ab eI b)),(5,.ref 512 1 0 out.length),(6,.lit (.int .i64 i)),(7,.lit (.int .i64 k))],[(512,1,.row true (ab eI out))],2⟩
attribute [go_sem] po
@[go_sem] def hi220_5:DT:=.i2 0 (.i2 1 (.i2 2 (.i2 3 (.i2 4 (.i2 5 (.i2 6 (.i2 7 (.i2 8 (.i2 9 (.i2 10 (.i2 11 (.i2 12 (.i2 13 (.i2 14 (.i2 15 (.i2 16 (.i2 17 (.i2 18 (.i2 19 (.i2 20 .nil))))))))))))))))))))
def Fa:Hint where
 acts:=fun _=>[]
 draws:=fun
  | 5=>⟨hi220_5,[[],[],[1],[0,1,2],[0,1,2,3],.range 5,.range 5,[0,1,2,3,4,6],.range 8,.range 9,.range 10,.range 10,.range 12,.range 13,.range 10,.range 10,[0,1,2,3,4,5,6,7,8,9,14,15],[0,1,2,3,4,5,6,7,8,9,14,15,16],.range 18,.range 19,.range 20],.range 21⟩
  | _=>⟨.nil,[],[]⟩
theorem Su (i:Nat):Fa.acts i=[]:=rfl
theorem Sv (i:Nat):Fa.views i=none:=rfl
attribute [go_sem] Su Sv Tryz.ntmps220 Tryz.results220
@[go_sem] theorem ZR:(Fa.draws 5).order=hi220_5:=rfl
theorem tH {a:List Int}{b:List Int}{res:List Int}(h:fc a b=some res):ao Tryz.prog 220 [.sl (ab eI a),.sl (ab eI b)] [] (.ref 20000 1 0 res.length) [(20000,1,.row true (ab eI res))]:=by
 refine aj (ra:=[.home 4]) (md:=mdT) hT (hi:=Fa) Tryz.func220 rfl rfl (by decide +kernel) (by simp) ?_
 unfold fc at h
 obtain ⟨q1006,l1,h⟩:=ae h
 simp(config:=cS)only[go_sem]
 refine an (m1:=.mk) (m2:=.mk) [.nf [0,1,5,6,7] [512]] (po a b) l1 ?_ ?_
 ·simp(config:=cS)only[go_sem]
 ·intro nb2 sb2 bb2 b2 gb2
  obtain ⟨i_1,k_1,out_1⟩:=sb2
  unfold gV at b2
  try dsimp only at b2
  obtain ⟨h3,b2⟩|⟨h3,b2⟩:=af b2
  ·obtain ⟨h4,b2⟩|⟨h4,b2⟩:=af b2
   ·obtain ⟨x1001,g5,b2⟩:=ae b2
    obtain ⟨h6,h7,h8⟩:=ai g5
    obtain ⟨h9,b2⟩:=ah b2
    obtain ⟨h10,b2⟩:=ah b2
    cases b2
    simp(config:=cS)only[go_sem,eqT h3,eqT h4,h6,h7,h8,eqT h9,eqT h10]
    refine ap gb2 ?_
    simp(config:=cS)only[go_sem]
   ·obtain ⟨x1002,g11,b2⟩:=ae b2
    obtain ⟨h12,h13,h14⟩:=ai g11
    obtain ⟨x1003,g15,b2⟩:=ae b2
    obtain ⟨h16,h17,h18⟩:=ai g15
    obtain ⟨h19,b2⟩|⟨h19,b2⟩:=af b2
    ·obtain ⟨h20,b2⟩:=ah b2
     obtain ⟨h21,b2⟩:=ah b2
     cases b2
     simp(config:=cS)only[go_sem,eqT h3,eqF h4,h12,h13,h14,h16,h17,h18,eqT h19,eqT h20,eqT h21]
     refine ap gb2 ?_
     simp(config:=cS)only[go_sem]
    ·obtain ⟨h22,b2⟩:=ah b2
     obtain ⟨h23,b2⟩:=ah b2
     cases b2
     simp(config:=cS)only[go_sem,eqT h3,eqF h4,h12,h13,h14,h16,h17,h18,eqF h19,eqT h22,eqT h23]
     refine ap gb2 ?_
     simp(config:=cS)only[go_sem]
  ·obtain ⟨h24,b2⟩|⟨h24,b2⟩:=af b2
   ·obtain ⟨h25,b2⟩|⟨h25,b2⟩:=af b2
    ·obtain ⟨x1004,g26,b2⟩:=ae b2
     obtain ⟨h27,h28,h29⟩:=ai g26
     obtain ⟨h30,b2⟩:=ah b2
     obtain ⟨h31,b2⟩:=ah b2
     cases b2
     simp(config:=cS)only[go_sem,eqF h3,eqT h24,eqT h25,h27,h28,h29,eqT h30,eqT h31]
     refine ap gb2 ?_
     simp(config:=cS)only[go_sem]
    ·obtain ⟨x1005,g32,b2⟩:=ae b2
     obtain ⟨h33,h34,h35⟩:=ai g32
     obtain ⟨h36,b2⟩:=ah b2
     obtain ⟨h37,b2⟩:=ah b2
     cases b2
     simp(config:=cS)only[go_sem,eqF h3,eqT h24,eqF h25,h33,h34,h35,eqT h36,eqT h37]
     refine ap gb2 ?_
     simp(config:=cS)only[go_sem]
   ·cases b2
    have e38:=(ak gb2).symm
    subst e38
    try dsimp only at h
    cases h
    simp(config:=cS)only[go_sem,eqF h3,eqF h24]
def nX (must:List Int)(may:List Int):(Int × (List (List Int)))→St
 | (n,out)=>⟨[(5,.ref 1472 1 0 must.length),(6,.ref 1473 1 0 may.length),(7,.ref 1664 1 0 out.length),(8,.lit (.int .i64 n))],[(1472,1,.row true (ab eI must)),(1473,1,.row true (ab eI may)),(1664,1,.row true (ab (eLO eI) out))],2⟩
attribute [go_sem] nX
def JR:Hint where
 acts:=fun _=>[]
 draws:=fun
  | _=>⟨.nil,[],[]⟩
theorem Sw (i:Nat):JR.acts i=[]:=rfl
theorem Sx (i:Nat):JR.views i=none:=rfl
attribute [go_sem] Sw Sx Tryz.ntmps150 Tryz.results150
theorem yT {s:GShow}{v1:GState}{res:List (List Int)}(h:jq s v1=some res):ao Tryz.prog 150 [.agg (GShow.encS s),.agg (GState.encS v1)] [] (.ref 20000 1 0 res.length) [(20000,1,.row true (ab (eLO eI) res))]:=by
 refine aj (ra:=[.home 4]) (md:=mdT) hT (hi:=JR) Tryz.func150 rfl rfl (by decide +kernel) (by simp) ?_
 unfold jq at h
 obtain ⟨r1001,g1,h⟩:=ae h
 simp(config:=cS)only[go_sem]
 refine ag (rj g1) ?_
 obtain ⟨h2,h⟩|⟨h2,h⟩:=af h
 ·obtain ⟨h3,h⟩|⟨h3,h⟩:=af h
  ·cases h
   simp(config:=cS)only[go_sem,eZt h2,eqT h3]
  ·obtain ⟨r1002,g4,h⟩:=ae h
   simp(config:=cS)only[go_sem,eZt h2,eqF h3]
   refine ag (sd g4) ?_
   obtain ⟨q1005,l5,h⟩:=ae h
   simp(config:=cS)only[go_sem]
   refine an (m1:=.mk) (m2:=.mk) [.nf [5,6,7,8] [1472,1473,1664]] (nX r1002.1 r1002.2) l5 ?_ ?_
   ·simp(config:=cS)only[go_sem]
   ·intro nb6 sb6 bb6 b6 gb6
    obtain ⟨n_1,out_1⟩:=sb6
    unfold fT at b6
    try dsimp only at b6
    obtain ⟨h7,b6⟩:=ah b6
    obtain ⟨h8,b6⟩|⟨h8,b6⟩:=af b6
    ·obtain ⟨r1003,g9,b6⟩:=ae b6
     simp(config:=cS)only[go_sem,eqF h7,eqT h8]
     refine ag (nr g9) ?_
     obtain ⟨r1004,g10,b6⟩:=ae b6
     simp(config:=cS)only[go_sem]
     refine ag (tH g10) ?_
     obtain ⟨h11,b6⟩:=ah b6
     obtain ⟨h12,b6⟩:=ah b6
     cases b6
     simp(config:=cS)only[go_sem,eqT h11,eqT h12]
     refine ap gb6 ?_
     simp(config:=cS)only[go_sem]
    ·cases b6
     have e13:=(ak gb6).symm
     subst e13
     try dsimp only at h
     cases h
     simp(config:=cS)only[go_sem,eqF h7,eqF h8]
 ·cases h
  simp(config:=cS)only[go_sem,eZf h2]
def rJ (set:List Int)(v7:List (List Int))(v8:Int)(v9:Int):St:=⟨[(1,.sl (ab eI set)),(7,.sl (ab (eLS eI) v7)),(8,.lit (.int .i64 v8)),(9,.lit (.int .i64 v9))],[],2⟩
attribute [go_sem] rJ
def JS:Hint where
 acts:=fun _=>[]
 draws:=fun
  | _=>⟨.nil,[],[]⟩
theorem Sy (i:Nat):JS.acts i=[]:=rfl
theorem Sz (i:Nat):JS.views i=none:=rfl
attribute [go_sem] Sy Sz Tryz.ntmps189 Tryz.results189
theorem wo {l:List (List Int)}{set:List Int}{res:Bool}(h:lc l set=some res):ao Tryz.prog 189 [.sl (ab (eLS eI) l),.sl (ab eI set)] [] (.lit (.bool res)) []:=by
 refine aj (ra:=[]) (md:=mdT) hT (hi:=JS) Tryz.func189 rfl rfl (by decide +kernel) (by simp) ?_
 unfold lc at h
 obtain ⟨q1003,l1,h⟩:=ae h
 simp(config:=cS)only[go_sem]
 refine an (m1:=.mk) (m2:=.mk) [.nf [1,7,8,9] []] (rJ set l ((l.length:Nat):Int)) l1 ?_ ?_
 ·simp(config:=cS)only[go_sem]
 ·intro nb2 sb2 bb2 b2 gb2
  obtain ⟨v9_1,eb2⟩:∃ v,v=sb2:=⟨_,rfl⟩;subst eb2
  unfold ij at b2
  try dsimp only at b2
  obtain ⟨h3,b2⟩|⟨h3,b2⟩:=af b2
  ·obtain ⟨x1001,g4,b2⟩:=ae b2
   obtain ⟨h5,h6,h7⟩:=ai g4
   obtain ⟨r1002,g8,b2⟩:=ae b2
   simp(config:=cS)only[go_sem,eqT h3,h5,h6,h7]
   refine ag (nq g8) ?_
   obtain ⟨h9,b2⟩|⟨h9,b2⟩:=af b2
   ·cases b2
    have e10:=(ak gb2).symm
    subst e10
    try dsimp only at h
    cases h
    simp(config:=cS)only[go_sem,eZt h9]
   ·cases b2
    simp(config:=cS)only[go_sem,eZf h9]
    refine ap gb2 ?_
    simp(config:=cS)only[go_sem]
  ·cases b2
   have e11:=(ak gb2).symm
   subst e11
   try dsimp only at h
   cases h
   simp(config:=cS)only[go_sem,eqF h3]
@[go_sem] def hi187_1:DT:=.i1 0 (.i1 1 (.i1 3 (.i1 4 (.i1 7 (.i1 8 (.fork (.i0 2 [0,1,3,4,7,8] (.fork (.i0 5 [0,1,7,8] (.i0 6 [0,1,3,4,7,8] (.i0 9 [0,1] (.i2 10 (.i2 11 .nil))))) (.i0 6 [0,1,3,4,7,8] (.i0 5 [0,1,7,8] (.i0 9 [0,1] (.i2 10 (.i2 11 .nil))))))) (.i0 6 [0,1,3,4,7,8] (.i0 2 [0,1,3,4,7,8] (.i0 5 [0,1,7,8] (.i0 9 [0,1] (.i2 10 (.i2 11 .nil))))))))))))
def Fb:Hint where
 acts:=fun _=>[]
 draws:=fun
  | 1=>⟨hi187_1,[[],[0],[],[],[3],[2,3,4],[],[],[7],[2,3,4,5,6,7,8],.range 10,.range 11],.range 12⟩
  | _=>⟨.nil,[],[]⟩
theorem SA (i:Nat):Fb.acts i=[]:=rfl
theorem SB (i:Nat):Fb.views i=none:=rfl
attribute [go_sem] SA SB Tryz.ntmps187 Tryz.results187
@[go_sem] theorem ZS:(Fb.draws 1).order=hi187_1:=rfl
theorem gi {v0:GState}{res:GState}(h:dv v0=some res):ao Tryz.prog 187 [.agg (GState.encS v0)] [] (.agg [.lit (.int .i64 res.now),.ref 20000 1 0 res.times.length,.ref 20001 1 0 res.values.length]) [(20000,1,.row true (ab eI res.times)),(20001,1,.row true (ab eI res.values))]:=by
 refine aj (ra:=[.homeCell 128 1,.homeCell 128 2]) (md:=mdT) hT (hi:=Fb) Tryz.func187 rfl rfl (by decide +kernel) (by simp) ?_
 unfold dv at h
 try simp(config:=cS)only[go_sem]
 refine bn ?_ ?_
 ·try simp(config:=cS)only[go_sem]
  refine bn ?_ ?_
  ·obtain ⟨h1,h⟩:=ah h
   obtain ⟨h2,h⟩:=ah h
   obtain ⟨h3,h⟩:=ah h
   obtain ⟨h4,h⟩:=ah h
   cases h
   simp(config:=cS)only[go_sem,eqT h1,eqT h2,eqT h3,eqT h4]
  ·obtain ⟨h5,h⟩:=ah h
   obtain ⟨h6,h⟩:=ah h
   obtain ⟨h7,h⟩:=ah h
   obtain ⟨h8,h⟩:=ah h
   cases h
   simp(config:=cS)only[go_sem,eqT h5,eqT h6,eqT h7,eqT h8]
 ·obtain ⟨h9,h⟩:=ah h
  obtain ⟨h10,h⟩:=ah h
  obtain ⟨h11,h⟩:=ah h
  obtain ⟨h12,h⟩:=ah h
  cases h
  simp(config:=cS)only[go_sem,eqT h9,eqT h10,eqT h11,eqT h12]
def qO (v12:List Int)(v13:Int)(s_0:List GNode)(s_1:List GTie)(s_2:Int)(v4_0:Int)(v4_1:List Int)(v4_2:List Int)(out_0:Int)(h705:List Int):(Int × (List Int))→St
 | (v14,h704)=>⟨[(3,.ptr 192 1 0 0),(4,.ptr 256 1 0 0),(6,.ptr 384 1 0 0),(7,.ptr 448 1 0 0),(12,.sl (ab eI v12)),(13,.lit (.int .i64 v13)),(14,.lit (.int .i64 v14))],[(192,1,.var [.sl (ab GNode.encS s_0),.sl (ab GTie.enc s_1),.lit (.int .i64 s_2)]),(256,1,.var [.lit (.int .i64 v4_0),.sl (ab eI v4_1),.sl (ab eI v4_2)]),(384,1,.var [.lit (.int .i64 0),.lit (.slice none 0 0),.lit (.slice none 0 0)]),(448,1,.var [.lit (.int .i64 out_0),.ref 704 1 0 h704.length,.ref 705 1 0 h705.length]),(704,1,.row true (ab eI h704)),(705,1,.row true (ab eI h705))],2⟩
attribute [go_sem] qO
@[go_sem] def hi232_5:DT:=.i2 0 (.i2 1 (.i2 2 (.i2 3 (.i2 4 (.i2 5 (.i2 6 (.i2 7 (.i2 8 (.i2 9 (.i2 10 (.i2 11 .nil)))))))))))
def Fc:Hint where
 acts:=fun _=>[]
 draws:=fun
  | 5=>⟨hi232_5,[[],[0],[],[2],[],[2,3,4],[2,3,4,5],[2,3,4,5,6],[],[8],.range 10,.range 11],.range 12⟩
  | _=>⟨.nil,[],[]⟩
theorem SC (i:Nat):Fc.acts i=[]:=rfl
theorem SD (i:Nat):Fc.views i=none:=rfl
attribute [go_sem] SC SD Tryz.ntmps232 Tryz.results232
@[go_sem] theorem ZT:(Fc.draws 5).order=hi232_5:=rfl
theorem vy {s:GShow}{v1:GState}{ties:List Int}{res:GState}(h:jJ s v1 ties=some res):ao Tryz.prog 232 [.agg (GShow.encS s),.agg (GState.encS v1),.sl (ab eI ties)] [] (.agg [.lit (.int .i64 res.now),.ref 20000 1 0 res.times.length,.ref 20001 1 0 res.values.length]) [(20000,1,.row true (ab eI res.times)),(20001,1,.row true (ab eI res.values))]:=by
 refine aj (ra:=[.homeCell 384 1,.homeCell 384 2]) (md:=mdT) hT (hi:=Fc) Tryz.func232 rfl rfl (by decide +kernel) (by simp) ?_
 unfold jJ at h
 obtain ⟨r1001,g1,h⟩:=ae h
 simp(config:=cS)only[go_sem]
 refine ag (gi g1) ?_
 obtain ⟨q1005,l2,h⟩:=ae h
 simp(config:=cS)only[go_sem]
 refine an (m1:=.mk) (m2:=.mk) [.nf [3,4,6,7,12,13,14] [192,256,384,448,704,705]] (qO ties ((ties.length:Nat):Int) s.nodes s.ties s.horizon v1.now v1.times v1.values r1001.now r1001.values) l2 ?_ ?_
 ·simp(config:=cS)only[go_sem]
 ·intro nb3 sb3 bb3 b3 gb3
  obtain ⟨v14_1,h704_1⟩:=sb3
  unfold jr at b3
  try dsimp only at b3
  obtain ⟨h4,b3⟩|⟨h4,b3⟩:=af b3
  ·obtain ⟨x1002,g5,b3⟩:=ae b3
   obtain ⟨h6,h7,h8⟩:=ai g5
   obtain ⟨x1003,g9,b3⟩:=ae b3
   obtain ⟨h10,h11,h12⟩:=ai g9
   obtain ⟨x1004,g13,b3⟩:=ae b3
   obtain ⟨h14,h15,h16⟩:=ai g13
   cases b3
   simp(config:=cS)only[go_sem,eqT h4,h6,h7,h8,h10,h11,h12,h14,h15,h16]
   refine ap gb3 ?_
   simp(config:=cS)only[go_sem]
  ·cases b3
   have e17:=(ak gb3).symm
   subst e17
   try dsimp only at h
   cases h
   simp(config:=cS)only[go_sem,eqF h4]
def JT:Hint where
 acts:=fun _=>[]
 draws:=fun
  | _=>⟨.nil,[],[]⟩
theorem SE (i:Nat):JT.acts i=[]:=rfl
theorem SF (i:Nat):JT.views i=none:=rfl
attribute [go_sem] SE SF Tryz.ntmps186 Tryz.results186
theorem qP {s:GShow}{v1:GState}{ties:List Int}{res:GState × Bool}(h:cM s v1 ties=some res):ao Tryz.prog 186 [.agg (GShow.encS s),.agg (GState.encS v1),.sl (ab eI ties)] [] (.tup [.agg [.lit (.int .i64 res.1.now),.ref 20000 1 0 res.1.times.length,.ref 20001 1 0 res.1.values.length],.lit (.bool res.2)]) [(20000,1,.row true (ab eI res.1.times)),(20001,1,.row true (ab eI res.1.values))]:=by
 refine aj (ra:=[.homeCell 384 1,.homeCell 384 2]) (md:=mdT) hT (hi:=JT) Tryz.func186 rfl rfl (by decide +kernel) (by simp) ?_
 unfold cM at h
 obtain ⟨r1001,g1,h⟩:=ae h
 simp(config:=cS)only[go_sem]
 refine ag (yT g1) ?_
 obtain ⟨r1002,g2,h⟩:=ae h
 simp(config:=cS)only[go_sem]
 refine ag (wo g2) ?_
 obtain ⟨h3,h⟩|⟨h3,h⟩:=af h
 ·obtain ⟨r1003,g4,h⟩:=ae h
  simp(config:=cS)only[go_sem,eZt h3]
  refine ag (vy g4) ?_
  cases h
  simp(config:=cS)only[go_sem]
 ·cases h
  simp(config:=cS)only[go_sem,eZf h3]
def JU:Hint where
 acts:=fun _=>[]
 draws:=fun
  | _=>⟨.nil,[],[]⟩
theorem SG (i:Nat):JU.acts i=[]:=rfl
theorem SH (i:Nat):JU.views i=none:=rfl
attribute [go_sem] SG SH Tryz.ntmps234 Tryz.results234
theorem AR {s:GShow}{v1:GState}{res:Bool}(h:jY s v1=some res):ao Tryz.prog 234 [.agg (GShow.encS s),.agg (GState.encS v1)] [] (.lit (.bool res)) []:=by
 refine aj (ra:=[]) (md:=mdT) hT (hi:=JU) Tryz.func234 rfl rfl (by decide +kernel) (by simp) ?_
 unfold jY at h
 obtain ⟨r1001,g1,h⟩:=ae h
 simp(config:=cS)only[go_sem]
 refine ag (co g1) ?_
 obtain ⟨h2,h⟩|⟨h2,h⟩:=af h
 ·obtain ⟨r1002,g3,h⟩:=ae h
  simp(config:=cS)only[go_sem,eZt h2]
  refine ag (oK g3) ?_
  obtain ⟨h4,h⟩|⟨h4,h⟩:=af h
  ·obtain ⟨h5,h⟩|⟨h5,h⟩:=af h
   ·cases h
    simp(config:=cS)only[go_sem,eZt h2,eZt h4,eqT h5]
   ·obtain ⟨r1003,g6,h⟩:=ae h
    simp(config:=cS)only[go_sem,eZt h2,eZt h4,eqF h5]
    refine ag (gi g6) ?_
    obtain ⟨r1004,g7,h⟩:=ae h
    simp(config:=cS)only[go_sem,eZt h2,eZt h4,eqF h5]
    refine ag (rj g7) ?_
    cases h
    simp(config:=cS)only[go_sem,eZt h2,eZt h4,eqF h5]
  ·cases h
   simp(config:=cS)only[go_sem,eZt h2,eZf h4]
 ·cases h
  simp(config:=cS)only[go_sem,eZf h2]
def pq (v:List Int)(v9:List Int)(v10:Int):(Int × Int)→St
 | (out,v11)=>⟨[(1,.sl (ab eI v)),(5,.lit (.int .i64 out)),(9,.sl (ab eI v9)),(10,.lit (.int .i64 v10)),(11,.lit (.int .i64 v11))],[],2⟩
attribute [go_sem] pq
def JV:Hint where
 acts:=fun _=>[]
 draws:=fun
  | _=>⟨.nil,[],[]⟩
theorem SI (i:Nat):JV.acts i=[]:=rfl
theorem SJ (i:Nat):JV.views i=none:=rfl
attribute [go_sem] SI SJ Tryz.ntmps231 Tryz.results231
theorem ib {l:List Int}{v:List Int}{res:Int}(h:bY l v=some res):ao Tryz.prog 231 [.sl (ab eI l),.sl (ab eI v)] [] (.lit (.int .i64 res)) []:=by
 refine aj (ra:=[]) (md:=mdT) hT (hi:=JV) Tryz.func231 rfl rfl (by decide +kernel) (by simp) ?_
 unfold bY at h
 obtain ⟨q1004,l1,h⟩:=ae h
 simp(config:=cS)only[go_sem]
 refine an (m1:=.mk) (m2:=.mk) [.nf [1,5,9,10,11] []] (pq v l ((l.length:Nat):Int)) l1 ?_ ?_
 ·simp(config:=cS)only[go_sem]
 ·intro nb2 sb2 bb2 b2 gb2
  obtain ⟨out_1,v11_1⟩:=sb2
  unfold gW at b2
  try dsimp only at b2
  obtain ⟨h3,b2⟩|⟨h3,b2⟩:=af b2
  ·obtain ⟨x1001,g4,b2⟩:=ae b2
   obtain ⟨h5,h6,h7⟩:=ai g4
   obtain ⟨r1002,g8,b2⟩:=ae b2
   simp(config:=cS)only[go_sem,eqT h3,h5,h6,h7]
   refine ag (nn g8) ?_
   obtain ⟨x1003,g9,b2⟩:=ae b2
   obtain ⟨h10,h11,h12⟩:=ai g9
   obtain ⟨h13,b2⟩|⟨h13,b2⟩:=af b2
   ·cases b2
    simp(config:=cS)only[go_sem,h10,h11,h12,eqT h13]
    refine ap gb2 ?_
    simp(config:=cS)only[go_sem]
   ·cases b2
    simp(config:=cS)only[go_sem,h10,h11,h12,eqF h13]
    refine ap gb2 ?_
    simp(config:=cS)only[go_sem]
  ·cases b2
   have e14:=(ak gb2).symm
   subst e14
   try dsimp only at h
   cases h
   simp(config:=cS)only[go_sem,eqF h3]
def nK (v10:List GNode)(v11:Int)(s_1:List GTie)(s_2:Int)(v3_0:Int)(v3_1:List Int)(v3_2:List Int):(Int × (List Int))→St
 | (v12,out)=>⟨[(2,.ptr 128 1 0 0),(3,.ptr 192 1 0 0),(5,.ref 512 1 0 out.length),(10,.sl (ab GNode.encS v10)),(11,.lit (.int .i64 v11)),(12,.lit (.int .i64 v12))],[(128,1,.var [.sl (ab GNode.encS v10),.sl (ab GTie.enc s_1),.lit (.int .i64 s_2)]),(192,1,.var [.lit (.int .i64 v3_0),.sl (ab eI v3_1),.sl (ab eI v3_2)]),(512,1,.row true (ab eI out))],2⟩
attribute [go_sem] nK
def JW:Hint where
 acts:=fun _=>[]
 draws:=fun
  | _=>⟨.nil,[],[]⟩
theorem SK (i:Nat):JW.acts i=[]:=rfl
theorem SL (i:Nat):JW.views i=none:=rfl
attribute [go_sem] SK SL Tryz.ntmps235 Tryz.results235
theorem se {s:GShow}{v1:GState}{res:List Int}(h:fC s v1=some res):ao Tryz.prog 235 [.agg (GShow.encS s),.agg (GState.encS v1)] [] (.ref 20000 1 0 res.length) [(20000,1,.row true (ab eI res))]:=by
 refine aj (ra:=[.home 4]) (md:=mdT) hT (hi:=JW) Tryz.func235 rfl rfl (by decide +kernel) (by simp) ?_
 unfold fC at h
 obtain ⟨q1005,l1,h⟩:=ae h
 simp(config:=cS)only[go_sem]
 refine an (m1:=.mk) (m2:=.mk) [.nf [2,3,5,10,11,12] [128,192,512]] (nK s.nodes ((s.nodes.length:Nat):Int) s.ties s.horizon v1.now v1.times v1.values) l1 ?_ ?_
 ·simp(config:=cS)only[go_sem]
 ·intro nb2 sb2 bb2 b2 gb2
  obtain ⟨v12_1,out_1⟩:=sb2
  unfold fe at b2
  try dsimp only at b2
  obtain ⟨h3,b2⟩|⟨h3,b2⟩:=af b2
  ·obtain ⟨x1001,g4,b2⟩:=ae b2
   obtain ⟨h5,h6,h7⟩:=ai g4
   obtain ⟨h8,b2⟩|⟨h8,b2⟩:=af b2
   ·obtain ⟨r1002,g9,b2⟩:=ae b2
    simp(config:=cS)only[go_sem,eqT h3,h5,h6,h7,eqT h8]
    refine ag (uu g9) ?_
    obtain ⟨h10,b2⟩|⟨h10,b2⟩:=af b2
    ·obtain ⟨x1003,g11,b2⟩:=ae b2
     obtain ⟨h12,h13,h14⟩:=ai g11
     obtain ⟨h15,b2⟩|⟨h15,b2⟩:=af b2
     ·obtain ⟨r1004,g16,b2⟩:=ae b2
      simp(config:=cS)only[go_sem,eqT h10,h12,h13,h14,eqT h15]
      refine ag (ib g16) ?_
      obtain ⟨h17,b2⟩|⟨h17,b2⟩:=af b2
      ·obtain ⟨h18,b2⟩:=ah b2
       obtain ⟨h19,b2⟩:=ah b2
       cases b2
       simp(config:=cS)only[go_sem,eqT h17,eqT h18,eqT h19]
       refine ap gb2 ?_
       simp(config:=cS)only[go_sem]
      ·cases b2
       simp(config:=cS)only[go_sem,eqF h17]
       refine ap gb2 ?_
       simp(config:=cS)only[go_sem]
     ·cases b2
      simp(config:=cS)only[go_sem,eqT h10,h12,h13,h14,eqF h15]
      refine ap gb2 ?_
      simp(config:=cS)only[go_sem]
    ·cases b2
     simp(config:=cS)only[go_sem,eqF h10]
     refine ap gb2 ?_
     simp(config:=cS)only[go_sem]
   ·cases b2
    simp(config:=cS)only[go_sem,eqT h3,h5,h6,h7,eqF h8]
    refine ap gb2 ?_
    simp(config:=cS)only[go_sem]
  ·cases b2
   have e20:=(ak gb2).symm
   subst e20
   try dsimp only at h
   cases h
   simp(config:=cS)only[go_sem,eqF h3]
def mO (l:List Int):(Int × (List (List Int)))→St
 | (n,out)=>⟨[(5,.ref 896 1 0 l.length),(6,.ref 960 1 0 out.length),(7,.lit (.int .i64 n))],[(896,1,.row true (ab eI l)),(960,1,.row true (ab (eLO eI) out))],2⟩
attribute [go_sem] mO
def JX:Hint where
 acts:=fun _=>[]
 draws:=fun
  | _=>⟨.nil,[],[]⟩
theorem SM (i:Nat):JX.acts i=[]:=rfl
theorem SN (i:Nat):JX.views i=none:=rfl
attribute [go_sem] SM SN Tryz.ntmps190 Tryz.results190
theorem rK {s:GShow}{v1:GState}{res:List (List Int)}(h:eA s v1=some res):ao Tryz.prog 190 [.agg (GShow.encS s),.agg (GState.encS v1)] [] (.ref 20000 1 0 res.length) [(20000,1,.row true (ab (eLO eI) res))]:=by
 refine aj (ra:=[.home 4]) (md:=mdT) hT (hi:=JX) Tryz.func190 rfl rfl (by decide +kernel) (by simp) ?_
 unfold eA at h
 obtain ⟨r1001,g1,h⟩:=ae h
 simp(config:=cS)only[go_sem]
 refine ag (AR g1) ?_
 obtain ⟨h2,h⟩|⟨h2,h⟩:=af h
 ·obtain ⟨r1002,g3,h⟩:=ae h
  simp(config:=cS)only[go_sem,eZt h2]
  refine ag (se g3) ?_
  obtain ⟨h4,h⟩:=ah h
  obtain ⟨q1004,l5,h⟩:=ae h
  simp(config:=cS)only[go_sem,eqF h4]
  refine an (m1:=.mk) (m2:=.mk) [.nf [5,6,7] [896,960]] (mO r1002) l5 ?_ ?_
  ·simp(config:=cS)only[go_sem]
  ·intro nb6 sb6 bb6 b6 gb6
   obtain ⟨n_1,out_1⟩:=sb6
   unfold ez at b6
   try dsimp only at b6
   obtain ⟨h7,b6⟩|⟨h7,b6⟩:=af b6
   ·obtain ⟨r1003,g8,b6⟩:=ae b6
    simp(config:=cS)only[go_sem,eqT h7]
    refine ag (nr g8) ?_
    obtain ⟨h9,b6⟩:=ah b6
    obtain ⟨h10,b6⟩:=ah b6
    cases b6
    simp(config:=cS)only[go_sem,eqT h9,eqT h10]
    refine ap gb6 ?_
    simp(config:=cS)only[go_sem]
   ·cases b6
    have e11:=(ak gb6).symm
    subst e11
    try dsimp only at h
    cases h
    simp(config:=cS)only[go_sem,eqF h7]
 ·cases h
  simp(config:=cS)only[go_sem,eZf h2]
def nY (nodes:List Int)(v16:Int)(s_0:List GNode)(s_1:List GTie)(s_2:Int)(v4_0:Int)(v4_1:List Int)(v4_2:List Int)(out_0:Int)(h897:List Int):(Int × (List Int))→St
 | (v17,h896)=>⟨[(2,.sl (ab eI nodes)),(3,.ptr 192 1 0 0),(4,.ptr 256 1 0 0),(6,.ptr 384 1 0 0),(8,.ptr 512 1 0 0),(15,.sl (ab eI nodes)),(16,.lit (.int .i64 v16)),(17,.lit (.int .i64 v17))],[(192,1,.var [.sl (ab GNode.encS s_0),.sl (ab GTie.enc s_1),.lit (.int .i64 s_2)]),(256,1,.var [.lit (.int .i64 v4_0),.sl (ab eI v4_1),.sl (ab eI v4_2)]),(384,1,.var [.lit (.int .i64 0),.lit (.slice none 0 0),.lit (.slice none 0 0)]),(512,1,.var [.lit (.int .i64 out_0),.ref 896 1 0 h896.length,.ref 897 1 0 h897.length]),(896,1,.row true (ab eI h896)),(897,1,.row true (ab eI h897))],2⟩
attribute [go_sem] nY
def nZ (nodes:List Int)(s_0:List GNode)(s_1:List GTie)(s_2:Int)(out_0:Int)(h896:List Int)(h897:List Int):(Int × (List Int))→St
 | (p,props)=>⟨[(2,.sl (ab eI nodes)),(3,.ptr 192 1 0 0),(6,.ptr 384 1 0 0),(8,.ptr 512 1 0 0),(11,.ref 1792 1 0 props.length),(12,.lit (.int .i64 p))],[(192,1,.var [.sl (ab GNode.encS s_0),.sl (ab GTie.enc s_1),.lit (.int .i64 s_2)]),(384,1,.var [.lit (.int .i64 0),.lit (.slice none 0 0),.lit (.slice none 0 0)]),(512,1,.var [.lit (.int .i64 out_0),.ref 896 1 0 h896.length,.ref 897 1 0 h897.length]),(896,1,.row true (ab eI h896)),(897,1,.row true (ab eI h897)),(1792,1,.row true (ab eI props))],2⟩
attribute [go_sem] nZ
def JY:Hint where
 acts:=fun _=>[]
 draws:=fun
  | _=>⟨.nil,[],[]⟩
theorem SO (i:Nat):JY.acts i=[]:=rfl
theorem SP (i:Nat):JY.views i=none:=rfl
attribute [go_sem] SO SP Tryz.ntmps192 Tryz.results192
theorem oS {s:GShow}{v1:GState}{nodes:List Int}{res:GState × (List Int)}(h:dX s v1 nodes=some res):ao Tryz.prog 192 [.agg (GShow.encS s),.agg (GState.encS v1),.sl (ab eI nodes)] [] (.tup [.agg [.lit (.int .i64 res.1.now),.ref 20000 1 0 res.1.times.length,.ref 20001 1 0 res.1.values.length],.ref 20002 1 0 res.2.length]) [(20000,1,.row true (ab eI res.1.times)),(20001,1,.row true (ab eI res.1.values)),(20002,1,.row true (ab eI res.2))]:=by
 refine aj (ra:=[.homeCell 384 1,.homeCell 384 2,.home 7]) (md:=mdT) hT (hi:=JY) Tryz.func192 rfl rfl (by decide +kernel) (by simp) ?_
 unfold dX at h
 obtain ⟨r1001,g1,h⟩:=ae h
 simp(config:=cS)only[go_sem]
 refine ag (gi g1) ?_
 obtain ⟨q1007,l2,h⟩:=ae h
 simp(config:=cS)only[go_sem]
 refine an (m1:=.mk) (m2:=.mk) [.nf [2,3,4,6,8,15,16,17] [192,256,384,512,896,897]] (nY nodes ((nodes.length:Nat):Int) s.nodes s.ties s.horizon v1.now v1.times v1.values r1001.now r1001.values) l2 ?_ ?_
 ·simp(config:=cS)only[go_sem]
 ·intro nb3 sb3 bb3 b3 gb3
  obtain ⟨v17_1,h896_1⟩:=sb3
  unfold fU at b3
  try dsimp only at b3
  obtain ⟨h4,b3⟩|⟨h4,b3⟩:=af b3
  ·obtain ⟨x1002,g5,b3⟩:=ae b3
   obtain ⟨h6,h7,h8⟩:=ai g5
   obtain ⟨x1003,g9,b3⟩:=ae b3
   obtain ⟨h10,h11,h12⟩:=ai g9
   cases b3
   simp(config:=cS)only[go_sem,eqT h4,h6,h7,h8,h10,h11,h12]
   refine ap gb3 ?_
   simp(config:=cS)only[go_sem]
  ·cases b3
   have e13:=(ak gb3).symm
   subst e13
   try dsimp only at h
   obtain ⟨q1006,l14,h⟩:=ae h
   simp(config:=cS)only[go_sem,eqF h4]
   refine an (m1:=.mk) (m2:=.mk) [.nf [2,3,6,8,11,12] [192,384,512,896,897,1792]] (nZ nodes s.nodes s.ties s.horizon r1001.now h896_1 r1001.values) l14 ?_ ?_
   ·simp(config:=cS)only[go_sem]
   ·intro nb15 sb15 bb15 b15 gb15
    obtain ⟨p_2,props_2⟩:=sb15
    unfold fV at b15
    try dsimp only at b15
    obtain ⟨h16,b15⟩|⟨h16,b15⟩:=af b15
    ·obtain ⟨r1004,g17,b15⟩:=ae b15
     simp(config:=cS)only[go_sem,eqT h16]
     refine ag (kD g17) ?_
     obtain ⟨r1005,g18,b15⟩:=ae b15
     simp(config:=cS)only[go_sem]
     refine ag (jF g18) ?_
     obtain ⟨h19,b15⟩|⟨h19,b15⟩:=af b15
     ·obtain ⟨h20,b15⟩:=ah b15
      obtain ⟨h21,b15⟩:=ah b15
      cases b15
      simp(config:=cS)only[go_sem,eZt h19,eqT h20,eqT h21]
      refine ap gb15 ?_
      simp(config:=cS)only[go_sem]
     ·cases b15
      simp(config:=cS)only[go_sem,eZf h19]
      refine ap gb15 ?_
      simp(config:=cS)only[go_sem]
    ·cases b15
     have e22:=(ak gb15).symm
     subst e22
     try dsimp only at h
     cases h
     simp(config:=cS)only[go_sem,eqF h16]
def JZ:Hint where
 acts:=fun _=>[]
 draws:=fun
  | _=>⟨.nil,[],[]⟩
theorem SQ (i:Nat):JZ.acts i=[]:=rfl
theorem SR (i:Nat):JZ.views i=none:=rfl
attribute [go_sem] SQ SR Tryz.ntmps265 Tryz.results265
theorem vb {s:GShow}{v1:GState}{nodes:List Int}{res:GState × (List Int) × Bool}(h:iO s v1 nodes=some res):ao Tryz.prog 265 [.agg (GShow.encS s),.agg (GState.encS v1),.sl (ab eI nodes)] [] (.tup [.agg [.lit (.int .i64 res.1.now),.ref 20000 1 0 res.1.times.length,.ref 20001 1 0 res.1.values.length],.ref 20002 1 0 res.2.1.length,.lit (.bool res.2.2)]) [(20000,1,.row true (ab eI res.1.times)),(20001,1,.row true (ab eI res.1.values)),(20002,1,.row true (ab eI res.2.1))]:=by
 refine aj (ra:=[.homeCell 384 1,.homeCell 384 2,.home 7]) (md:=mdT) hT (hi:=JZ) Tryz.func265 rfl rfl (by decide +kernel) (by simp) ?_
 unfold iO at h
 obtain ⟨r1001,g1,h⟩:=ae h
 simp(config:=cS)only[go_sem]
 refine ag (rK g1) ?_
 obtain ⟨r1002,g2,h⟩:=ae h
 simp(config:=cS)only[go_sem]
 refine ag (wo g2) ?_
 obtain ⟨h3,h⟩|⟨h3,h⟩:=af h
 ·obtain ⟨r1003,g4,h⟩:=ae h
  simp(config:=cS)only[go_sem,eZt h3]
  refine ag (oS g4) ?_
  cases h
  simp(config:=cS)only[go_sem]
 ·cases h
  simp(config:=cS)only[go_sem,eZf h3]
def oa (values:List Int)(v12:List Int)(v13:Int)(out_0:Int)(h704:List Int):(Int × (List Int))→St
 | (v14,h705)=>⟨[(2,.sl (ab eI values)),(6,.ptr 384 1 0 0),(7,.ptr 448 1 0 0),(12,.sl (ab eI v12)),(13,.lit (.int .i64 v13)),(14,.lit (.int .i64 v14))],[(384,1,.var [.lit (.int .i64 0),.lit (.slice none 0 0),.lit (.slice none 0 0)]),(448,1,.var [.lit (.int .i64 out_0),.ref 704 1 0 h704.length,.ref 705 1 0 h705.length]),(704,1,.row true (ab eI h704)),(705,1,.row true (ab eI h705))],2⟩
attribute [go_sem] oa
@[go_sem] def hi193_5:DT:=.i2 0 (.i2 1 (.i2 2 (.i2 3 (.i2 4 (.i2 5 (.i2 6 (.i2 7 (.i2 8 (.i2 9 .nil)))))))))
def Fd:Hint where
 acts:=fun _=>[]
 draws:=fun
  | 5=>⟨hi193_5,[[],[0],[],[2],[],[],[4,5],[4,5,6],.range 8,.range 9],.range 10⟩
  | _=>⟨.nil,[],[]⟩
theorem SS (i:Nat):Fd.acts i=[]:=rfl
theorem ST (i:Nat):Fd.views i=none:=rfl
attribute [go_sem] SS ST Tryz.ntmps193 Tryz.results193
@[go_sem] theorem ZU:(Fd.draws 5).order=hi193_5:=rfl
theorem je {v0:GState}{props:List Int}{values:List Int}{res:GState}(h:dY v0 props values=some res):ao Tryz.prog 193 [.agg (GState.encS v0),.sl (ab eI props),.sl (ab eI values)] [] (.agg [.lit (.int .i64 res.now),.ref 20000 1 0 res.times.length,.ref 20001 1 0 res.values.length]) [(20000,1,.row true (ab eI res.times)),(20001,1,.row true (ab eI res.values))]:=by
 refine aj (ra:=[.homeCell 384 1,.homeCell 384 2]) (md:=mdT) hT (hi:=Fd) Tryz.func193 rfl rfl (by decide +kernel) (by simp) ?_
 unfold dY at h
 obtain ⟨r1001,g1,h⟩:=ae h
 simp(config:=cS)only[go_sem]
 refine ag (gi g1) ?_
 obtain ⟨q1005,l2,h⟩:=ae h
 simp(config:=cS)only[go_sem]
 refine an (m1:=.mk) (m2:=.mk) [.nf [2,6,7,12,13,14] [384,448,704,705]] (oa values props ((props.length:Nat):Int) r1001.now r1001.times) l2 ?_ ?_
 ·simp(config:=cS)only[go_sem]
 ·intro nb3 sb3 bb3 b3 gb3
  obtain ⟨v14_1,h705_1⟩:=sb3
  unfold fW at b3
  try dsimp only at b3
  obtain ⟨h4,b3⟩|⟨h4,b3⟩:=af b3
  ·obtain ⟨x1002,g5,b3⟩:=ae b3
   obtain ⟨h6,h7,h8⟩:=ai g5
   obtain ⟨x1003,g9,b3⟩:=ae b3
   obtain ⟨h10,h11,h12⟩:=ai g9
   obtain ⟨x1004,g13,b3⟩:=ae b3
   obtain ⟨h14,h15,h16⟩:=ai g13
   cases b3
   simp(config:=cS)only[go_sem,eqT h4,h6,h7,h8,h10,h11,h12,h14,h15,h16]
   refine ap gb3 ?_
   simp(config:=cS)only[go_sem]
  ·cases b3
   have e17:=(ak gb3).symm
   subst e17
   try dsimp only at h
   cases h
   simp(config:=cS)only[go_sem,eqF h4]
def pt (v63:Int)(e_0:Int)(e_1:List Int)(e_2:List Int)(e_3:List Int)(z_0:Int)(h2944:List Int)(h2945:List Int)(v62:List Int):(Int × (List Int))→St
 | (v64,values)=>⟨[(5,.ptr 320 1 0 0),(6,.ptr 384 1 0 0),(10,.ptr 640 1 0 0),(11,.ref 2946 1 0 v62.length),(13,.ref 3904 1 0 values.length),(62,.ref 2946 1 0 v62.length),(63,.lit (.int .i64 v63)),(64,.lit (.int .i64 v64))],[(320,1,.var [.lit (.int .i64 e_0),.sl (ab eI e_1),.sl (ab eI e_2),.sl (ab eI e_3)]),(384,1,.var [.lit (.int .i64 0),.lit (.slice none 0 0),.lit (.slice none 0 0)]),(640,1,.var [.lit (.int .i64 z_0),.ref 2944 1 0 h2944.length,.ref 2945 1 0 h2945.length]),(2944,1,.row true (ab eI h2944)),(2945,1,.row true (ab eI h2945)),(2946,1,.row true (ab eI v62)),(3904,1,.row true (ab eI values))],2⟩
attribute [go_sem] pt
def Ka:Hint where
 acts:=fun _=>[]
 draws:=fun
  | _=>⟨.nil,[],[]⟩
theorem SU (i:Nat):Ka.acts i=[]:=rfl
theorem SV (i:Nat):Ka.views i=none:=rfl
attribute [go_sem] SU SV Tryz.ntmps238 Tryz.results238
theorem AS {s:GShow}{v1:GState}{e:GEntry}{res:GState × Bool}(h:jZ s v1 e=some res):ao Tryz.prog 238 [.agg (GShow.encS s),.agg (GState.encS v1),.agg (GEntry.encS e)] [] (.tup [.agg [.lit (.int .i64 res.1.now),.ref 20000 1 0 res.1.times.length,.ref 20001 1 0 res.1.values.length],.lit (.bool res.2)]) [(20000,1,.row true (ab eI res.1.times)),(20001,1,.row true (ab eI res.1.values))]:=by
 refine aj (ra:=[.homeCell 384 1,.homeCell 384 2]) (md:=mdT) hT (hi:=Ka) Tryz.func238 rfl rfl (by decide +kernel) (by simp) ?_
 unfold jZ at h
 obtain ⟨r1001,g1,h⟩:=ae h
 simp(config:=cS)only[go_sem]
 refine ag (qP g1) ?_
 obtain ⟨h2,h⟩|⟨h2,h⟩:=af h
 ·obtain ⟨h3,h⟩|⟨h3,h⟩:=af h
  ·obtain ⟨r1002,g4,h⟩:=ae h
   simp(config:=cS)only[go_sem,eZt h2,eqT h3]
   refine ag (np g4) ?_
   obtain ⟨h5,h⟩|⟨h5,h⟩:=af h
   ·obtain ⟨r1003,g6,h⟩:=ae h
    simp(config:=cS)only[go_sem,eZt h5]
    refine ag (vb g6) ?_
    obtain ⟨h7,h⟩|⟨h7,h⟩:=af h
    ·obtain ⟨h8,h⟩|⟨h8,h⟩:=af h
     ·obtain ⟨q1007,l9,h⟩:=ae h
      simp(config:=cS)only[go_sem,eZt h7,eqT h8]
      refine an (m1:=.mk) (m2:=.mk) [.nf [5,6,10,11,13,62,63,64] [320,384,640,2944,2945,2946,3904]] (pt ((r1003.2.1.length:Nat):Int) e.now e.ties e.nodes e.values r1003.1.now r1003.1.times r1003.1.values r1003.2.1) l9 ?_ ?_
      ·simp(config:=cS)only[go_sem]
      ·intro nb10 sb10 bb10 b10 gb10
       obtain ⟨v64_1,values_1⟩:=sb10
       unfold eC at b10
       try dsimp only at b10
       obtain ⟨h11,b10⟩|⟨h11,b10⟩:=af b10
       ·obtain ⟨x1004,g12,b10⟩:=ae b10
        obtain ⟨h13,h14,h15⟩:=ai g12
        obtain ⟨x1005,g16,b10⟩:=ae b10
        obtain ⟨h17,h18,h19⟩:=ai g16
        obtain ⟨h20,b10⟩|⟨h20,b10⟩:=af b10
        ·obtain ⟨h21,b10⟩:=ah b10
         obtain ⟨h22,b10⟩:=ah b10
         cases b10
         simp(config:=cS)only[go_sem,eqT h11,h13,h14,h15,h17,h18,h19,eqT h20,eqT h21,eqT h22]
         refine ap gb10 ?_
         simp(config:=cS)only[go_sem]
        ·obtain ⟨h23,b10⟩|⟨h23,b10⟩:=af b10
         ·obtain ⟨h24,b10⟩:=ah b10
          obtain ⟨h25,b10⟩:=ah b10
          cases b10
          simp(config:=cS)only[go_sem,eqT h11,h13,h14,h15,h17,h18,h19,eqF h20,eqT h23,eqT h24,eqT h25]
          refine ap gb10 ?_
          simp(config:=cS)only[go_sem]
         ·cases b10
          have e26:=(ak gb10).symm
          subst e26
          try dsimp only at h
          cases h
          simp(config:=cS)only[go_sem,eqT h11,h13,h14,h15,h17,h18,h19,eqF h20,eqF h23]
       ·cases b10
        have e27:=(ak gb10).symm
        subst e27
        try dsimp only at h
        obtain ⟨r1006,g28,h⟩:=ae h
        simp(config:=cS)only[go_sem,eqF h11]
        refine ag (je g28) ?_
        cases h
        simp(config:=cS)only[go_sem]
     ·cases h
      simp(config:=cS)only[go_sem,eZt h7,eqF h8]
    ·cases h
     simp(config:=cS)only[go_sem,eZf h7]
   ·cases h
    simp(config:=cS)only[go_sem,eZf h5]
  ·cases h
   simp(config:=cS)only[go_sem,eZt h2,eqF h3]
 ·cases h
  simp(config:=cS)only[go_sem,eZf h2]
def ob (v13:List GEntry)(v14:Int)(s_0:List GNode)(s_1:List GTie)(s_2:Int):(Int × Int × (List Int) × (List Int))→St
 | (v15,v6_0,h768,h769)=>⟨[(2,.ptr 128 1 0 0),(4,.ptr 256 1 0 0),(6,.ptr 384 1 0 0),(13,.sl (ab GEntry.encS v13)),(14,.lit (.int .i64 v14)),(15,.lit (.int .i64 v15))],[(128,1,.var [.sl (ab GNode.encS s_0),.sl (ab GTie.enc s_1),.lit (.int .i64 s_2)]),(256,1,.var [.lit (.int .i64 0),.lit (.slice none 0 0),.lit (.slice none 0 0)]),(384,1,.var [.lit (.int .i64 v6_0),.ref 768 1 0 h768.length,.ref 769 1 0 h769.length]),(768,1,.row true (ab eI h768)),(769,1,.row true (ab eI h769))],2⟩
attribute [go_sem] ob
@[go_sem] def hi199_10:DT:=.i1 0 (.i2 1 (.i0 2 [0] (.i2 3 (.i2 4 .nil))))
def Fe:Hint where
 acts:=fun _=>[]
 draws:=fun
  | 10=>⟨hi199_10,[[],[],[1],[0,1,2],[0,1,2,3]],.range 5⟩
  | _=>⟨.nil,[],[]⟩
theorem SW (i:Nat):Fe.acts i=[]:=rfl
theorem SX (i:Nat):Fe.views i=none:=rfl
attribute [go_sem] SW SX Tryz.ntmps199 Tryz.results199
@[go_sem] theorem ZG:(Fe.draws 10).order=hi199_10:=rfl
theorem yU {s:GShow}{log:List GEntry}{res:GState × Bool}(h:js s log=some res):ao Tryz.prog 199 [.agg (GShow.encS s),.sl (ab GEntry.encS log)] [] (.tup [.agg [.lit (.int .i64 res.1.now),.ref 20000 1 0 res.1.times.length,.ref 20001 1 0 res.1.values.length],.lit (.bool res.2)]) [(20000,1,.row true (ab eI res.1.times)),(20001,1,.row true (ab eI res.1.values))]:=by
 refine aj (ra:=[.homeCell 256 1,.homeCell 256 2]) (md:=mdT) hT (hi:=Fe) Tryz.func199 rfl rfl (by decide +kernel) (by simp) ?_
 unfold js at h
 obtain ⟨r1001,g1,h⟩:=ae h
 simp(config:=cS)only[go_sem]
 refine ag (xF g1) ?_
 obtain ⟨q1005,l2,h⟩:=ae h
 simp(config:=cS)only[go_sem]
 refine an (m1:=.mk) (m2:=.mk) [.nfp [2,4,6,13,14,15] [(128,128),(256,256),(384,384),(1472,768),(768,768),(1473,769),(769,769)] []] (ob log ((log.length:Nat):Int) s.nodes s.ties s.horizon) l2 ?_ ?_
 ·simp(config:=cS)only[go_sem]
 ·intro nb3 sb3 bb3 b3 gb3
  obtain ⟨v15_1,v6_0_1,h768_1,h769_1⟩:=sb3
  unfold fX at b3
  try dsimp only at b3
  obtain ⟨h4,b3⟩|⟨h4,b3⟩:=af b3
  ·obtain ⟨x1002,g5,b3⟩:=ae b3
   obtain ⟨h6,h7,h8⟩:=ai g5
   obtain ⟨r1003,g9,b3⟩:=ae b3
   simp(config:=cS)only[go_sem,eqT h4,h6,h7,h8]
   refine ag (AS g9) ?_
   obtain ⟨h10,b3⟩|⟨h10,b3⟩:=af b3
   ·cases b3
    simp(config:=cS)only[go_sem,eZt h10]
    refine ap gb3 ?_
    simp(config:=cS)only[go_sem]
   ·cases b3
    have e11:=(ak gb3).symm
    subst e11
    try dsimp only at h
    cases h
    simp(config:=cS)only[go_sem,eZf h10]
  ·cases b3
   have e12:=(ak gb3).symm
   subst e12
   try dsimp only at h
   obtain ⟨r1004,g13,h⟩:=ae h
   simp(config:=cS)only[go_sem,eqF h4]
   refine ag (oK g13) ?_
   cases h
   simp(config:=cS)only[go_sem]
def Kb:Hint where
 acts:=fun _=>[]
 draws:=fun
  | _=>⟨.nil,[],[]⟩
theorem SY (i:Nat):Kb.acts i=[]:=rfl
theorem SZ (i:Nat):Kb.views i=none:=rfl
attribute [go_sem] SY SZ Tryz.ntmps200 Tryz.results200
theorem xG {a:GState}{b:GState}{res:Bool}(h:iB a b=some res):ao Tryz.prog 200 [.agg (GState.encS a),.agg (GState.encS b)] [] (.lit (.bool res)) []:=by
 refine aj (ra:=[]) (md:=mdT) hT (hi:=Kb) Tryz.func200 rfl rfl (by decide +kernel) (by simp) ?_
 unfold iB at h
 obtain ⟨h1,h⟩|⟨h1,h⟩:=af h
 ·obtain ⟨r1001,g2,h⟩:=ae h
  simp(config:=cS)only[go_sem,eqT h1]
  refine ag (nq g2) ?_
  obtain ⟨h3,h⟩|⟨h3,h⟩:=af h
  ·obtain ⟨r1002,g4,h⟩:=ae h
   simp(config:=cS)only[go_sem,eqT h1,eZt h3]
   refine ag (nq g4) ?_
   cases h
   simp(config:=cS)only[go_sem,eqT h1,eZt h3]
  ·cases h
   simp(config:=cS)only[go_sem,eqT h1,eZf h3]
 ·cases h
  simp(config:=cS)only[go_sem,eqF h1]
def Kc:Hint where
 acts:=fun _=>[]
 draws:=fun
  | _=>⟨.nil,[],[]⟩
theorem Ta (i:Nat):Kc.acts i=[]:=rfl
theorem Tb (i:Nat):Kc.views i=none:=rfl
attribute [go_sem] Ta Tb Tryz.ntmps122 Tryz.results122
theorem El {d:GDesk}{res:Bool}(h:mc d=some res):ao Tryz.prog 122 [.agg (GDesk.encS d)] [] (.lit (.bool res)) []:=by
 refine aj (ra:=[]) (md:=mdT) hT (hi:=Kc) Tryz.func122 rfl rfl (by decide +kernel) (by simp) ?_
 unfold mc at h
 obtain ⟨r1001,g1,h⟩:=ae h
 simp(config:=cS)only[go_sem]
 refine ag (rj g1) ?_
 obtain ⟨h2,h⟩|⟨h2,h⟩:=af h
 ·obtain ⟨h3,h⟩|⟨h3,h⟩:=af h
  ·obtain ⟨r1002,g4,h⟩:=ae h
   simp(config:=cS)only[go_sem,eZt h2,eqT h3]
   refine ag (yU g4) ?_
   obtain ⟨h5,h⟩|⟨h5,h⟩:=af h
   ·obtain ⟨r1003,g6,h⟩:=ae h
    simp(config:=cS)only[go_sem,eZt h2,eqT h3,eZt h5]
    refine ag (xG g6) ?_
    cases h
    simp(config:=cS)only[go_sem,eZt h2,eqT h3,eZt h5]
   ·cases h
    simp(config:=cS)only[go_sem,eZt h2,eqT h3,eZf h5]
  ·cases h
   simp(config:=cS)only[go_sem,eZt h2,eqF h3]
 ·cases h
  simp(config:=cS)only[go_sem,eZf h2]
@[go_sem] def hi230_10:DT:=.i2 0 (.i2 1 (.i2 2 (.i2 3 (.i2 4 (.i2 5 (.i2 6 (.i2 7 (.i2 8 (.i2 9 (.i2 10 (.i2 11 (.i2 12 (.i2 13 (.i2 14 (.i2 15 (.i2 16 (.i2 17 (.i2 18 (.i2 19 (.i2 20 .nil))))))))))))))))))))
@[go_sem] def hi230_8:DT:=.i2 0 (.i2 1 (.i2 2 (.i2 3 (.i2 4 (.i2 5 (.i2 6 (.i2 7 (.i2 8 (.i2 9 (.i2 10 (.i2 11 (.i2 12 (.i2 13 (.i2 14 (.i2 15 (.i2 16 (.i2 17 (.i2 18 (.i2 19 (.i2 20 .nil))))))))))))))))))))
def AT:Hint where
 acts:=fun _=>[]
 draws:=fun
  | 8=>⟨hi230_8,[[],[0],[],[2],[0,1,2,3],.range 5,.range 6,[],[7],.range 9,.range 10,.range 11,.range 12,.range 13,.range 12,.range 15,.range 12,[0,1,2,3,4,5,6,7,8,9,10,11,16],.range 18,.range 19,.range 20],.range 21⟩
  | 10=>⟨hi230_10,[[],[0],[],[2],[0,1,2,3],.range 5,.range 6,[],[7],.range 9,.range 10,.range 11,.range 12,.range 12,[0,1,2,3,4,5,6,7,8,9,10,11,13],.range 15,.range 12,[0,1,2,3,4,5,6,7,8,9,10,11,16],.range 18,.range 19,.range 20],.range 21⟩
  | _=>⟨.nil,[],[]⟩
theorem Tc (i:Nat):AT.acts i=[]:=rfl
theorem Td (i:Nat):AT.views i=none:=rfl
attribute [go_sem] Tc Td Tryz.ntmps230 Tryz.results230
@[go_sem] theorem ZV:(AT.draws 8).order=hi230_8:=rfl
@[go_sem] theorem ZH:(AT.draws 10).order=hi230_10:=rfl
theorem CA {s:GShow}{v1:GState}{t:GTie}{res:Bool}(h:lf s v1 t=some res):ao Tryz.prog 230 [.agg (GShow.encS s),.agg (GState.encS v1),.agg (GTie.enc t)] [] (.lit (.bool res)) []:=by
 refine aj (ra:=[]) (md:=mdT) hT (hi:=AT) Tryz.func230 rfl rfl (by decide +kernel) (by simp) ?_
 unfold lf at h
 obtain ⟨x1001,g1,h⟩:=ae h
 obtain ⟨h2,h3,h4⟩:=ai g1
 obtain ⟨x1002,g5,h⟩:=ae h
 obtain ⟨h6,h7,h8⟩:=ai g5
 obtain ⟨h9,h⟩|⟨h9,h⟩:=af h
 ·obtain ⟨h10,h⟩|⟨h10,h⟩:=af h
  ·cases h
   simp(config:=cS)only[go_sem,h2,h3,h4,h6,h7,h8,eqT h9,eZt h10]
  ·obtain ⟨h11,h⟩|⟨h11,h⟩:=af h
   ·cases h
    simp(config:=cS)only[go_sem,h2,h3,h4,h6,h7,h8,eqT h9,eZf h10,eqT h11]
   ·obtain ⟨x1003,g12,h⟩:=ae h
    obtain ⟨h13,h14,h15⟩:=ai g12
    obtain ⟨r1004,g16,h⟩:=ae h
    simp(config:=cS)only[go_sem,h2,h3,h4,h6,h7,h8,eqT h9,eZf h10,eqF h11,h13,h14,h15]
    refine ag (ib g16) ?_
    obtain ⟨h17,h⟩|⟨h17,h⟩:=af h
    ·cases h
     simp(config:=cS)only[go_sem,eqT h17]
    ·cases h
     simp(config:=cS)only[go_sem,eqF h17]
 ·obtain ⟨h18,h⟩|⟨h18,h⟩:=af h
  ·obtain ⟨h19,h⟩|⟨h19,h⟩:=af h
   ·cases h
    simp(config:=cS)only[go_sem,h2,h3,h4,h6,h7,h8,eqF h9,eqT h18,eZt h19]
   ·obtain ⟨x1005,g20,h⟩:=ae h
    obtain ⟨h21,h22,h23⟩:=ai g20
    obtain ⟨r1006,g24,h⟩:=ae h
    simp(config:=cS)only[go_sem,h2,h3,h4,h6,h7,h8,eqF h9,eqT h18,eZf h19,h21,h22,h23]
    refine ag (ib g24) ?_
    obtain ⟨h25,h⟩|⟨h25,h⟩:=af h
    ·cases h
     simp(config:=cS)only[go_sem,eqT h25]
    ·cases h
     simp(config:=cS)only[go_sem,eqF h25]
  ·obtain ⟨r1007,g26,h⟩:=ae h
   simp(config:=cS)only[go_sem,h2,h3,h4,h6,h7,h8,eqF h9,eqF h18]
   refine ag (co g26) ?_
   cases h
   simp(config:=cS)only[go_sem]
def oc (v10:List GTie)(v11:Int)(s_0:List GNode)(s_2:Int)(v3_0:Int)(v3_1:List Int)(v3_2:List Int)(v12:Int):St:=⟨[(2,.ptr 128 1 0 0),(3,.ptr 192 1 0 0),(10,.sl (ab GTie.enc v10)),(11,.lit (.int .i64 v11)),(12,.lit (.int .i64 v12))],[(128,1,.var [.sl (ab GNode.encS s_0),.sl (ab GTie.enc v10),.lit (.int .i64 s_2)]),(192,1,.var [.lit (.int .i64 v3_0),.sl (ab eI v3_1),.sl (ab eI v3_2)])],2⟩
attribute [go_sem] oc
def oe (v22:List GNode)(v23:Int)(s_1:List GTie)(s_2:Int)(v3_0:Int)(v3_1:List Int)(v3_2:List Int)(v24:Int):St:=⟨[(2,.ptr 128 1 0 0),(3,.ptr 192 1 0 0),(22,.sl (ab GNode.encS v22)),(23,.lit (.int .i64 v23)),(24,.lit (.int .i64 v24))],[(128,1,.var [.sl (ab GNode.encS v22),.sl (ab GTie.enc s_1),.lit (.int .i64 s_2)]),(192,1,.var [.lit (.int .i64 v3_0),.sl (ab eI v3_1),.sl (ab eI v3_2)])],2⟩
attribute [go_sem] oe
def Kd:Hint where
 acts:=fun _=>[]
 draws:=fun
  | _=>⟨.nil,[],[]⟩
theorem Te (i:Nat):Kd.acts i=[]:=rfl
theorem Tf (i:Nat):Kd.views i=none:=rfl
attribute [go_sem] Te Tf Tryz.ntmps178 Tryz.results178
theorem sS {s:GShow}{v1:GState}{res:Bool}(h:gu s v1=some res):ao Tryz.prog 178 [.agg (GShow.encS s),.agg (GState.encS v1)] [] (.lit (.bool res)) []:=by
 refine aj (ra:=[]) (md:=mdT) hT (hi:=Kd) Tryz.func178 rfl rfl (by decide +kernel) (by simp) ?_
 unfold gu at h
 obtain ⟨q1007,l1,h⟩:=ae h
 simp(config:=cS)only[go_sem]
 refine an (m1:=.mk) (m2:=.mk) [.nf [2,3,10,11,12] [128,192]] (oc s.ties ((s.ties.length:Nat):Int) s.nodes s.horizon v1.now v1.times v1.values) l1 ?_ ?_
 ·simp(config:=cS)only[go_sem]
 ·intro nb2 sb2 bb2 b2 gb2
  obtain ⟨v12_1,eb2⟩:∃ v,v=sb2:=⟨_,rfl⟩;subst eb2
  unfold dQ at b2
  try dsimp only at b2
  obtain ⟨h3,b2⟩|⟨h3,b2⟩:=af b2
  ·obtain ⟨x1001,g4,b2⟩:=ae b2
   obtain ⟨h5,h6,h7⟩:=ai g4
   obtain ⟨r1002,g8,b2⟩:=ae b2
   simp(config:=cS)only[go_sem,eqT h3,h5,h6,h7]
   refine ag (CA g8) ?_
   obtain ⟨h9,b2⟩|⟨h9,b2⟩:=af b2
   ·cases b2
    have e10:=(ak gb2).symm
    subst e10
    try dsimp only at h
    cases h
    simp(config:=cS)only[go_sem,eZt h9]
   ·cases b2
    simp(config:=cS)only[go_sem,eZf h9]
    refine ap gb2 ?_
    simp(config:=cS)only[go_sem]
  ·cases b2
   have e11:=(ak gb2).symm
   subst e11
   try dsimp only at h
   obtain ⟨q1006,l12,h⟩:=ae h
   simp(config:=cS)only[go_sem,eqF h3]
   refine an (m1:=.mk) (m2:=.mk) [.nf [2,3,22,23,24] [128,192]] (oe s.nodes ((s.nodes.length:Nat):Int) s.ties s.horizon v1.now v1.times v1.values) l12 ?_ ?_
   ·simp(config:=cS)only[go_sem]
   ·intro nb13 sb13 bb13 b13 gb13
    obtain ⟨v24_2,eb13⟩:∃ v,v=sb13:=⟨_,rfl⟩;subst eb13
    unfold bO at b13
    try dsimp only at b13
    obtain ⟨h14,b13⟩|⟨h14,b13⟩:=af b13
    ·obtain ⟨x1003,g15,b13⟩:=ae b13
     obtain ⟨h16,h17,h18⟩:=ai g15
     obtain ⟨h19,b13⟩|⟨h19,b13⟩:=af b13
     ·obtain ⟨x1004,g20,b13⟩:=ae b13
      obtain ⟨h21,h22,h23⟩:=ai g20
      obtain ⟨h24,b13⟩|⟨h24,b13⟩:=af b13
      ·obtain ⟨r1005,g25,b13⟩:=ae b13
       simp(config:=cS)only[go_sem,eqT h14,h16,h17,h18,eqT h19,h21,h22,h23,eqT h24]
       refine ag (ib g25) ?_
       obtain ⟨h26,b13⟩|⟨h26,b13⟩:=af b13
       ·cases b13
        have e27:=(ak gb13).symm
        subst e27
        try dsimp only at h
        cases h
        simp(config:=cS)only[go_sem,eqT h26]
       ·cases b13
        simp(config:=cS)only[go_sem,eqF h26]
        refine ap gb13 ?_
        simp(config:=cS)only[go_sem]
      ·cases b13
       simp(config:=cS)only[go_sem,eqT h14,h16,h17,h18,eqT h19,h21,h22,h23,eqF h24]
       refine ap gb13 ?_
       simp(config:=cS)only[go_sem]
     ·cases b13
      simp(config:=cS)only[go_sem,eqT h14,h16,h17,h18,eqF h19]
      refine ap gb13 ?_
      simp(config:=cS)only[go_sem]
    ·cases b13
     have e28:=(ak gb13).symm
     subst e28
     try dsimp only at h
     cases h
     simp(config:=cS)only[go_sem,eqF h14]
def qh (v8:List GNode)(v9:Int)(v3_0:Int)(v3_1:List Int)(v3_2:List Int)(v10:Int):St:=⟨[(3,.ptr 192 1 0 0),(8,.sl (ab GNode.encS v8)),(9,.lit (.int .i64 v9)),(10,.lit (.int .i64 v10))],[(192,1,.var [.lit (.int .i64 v3_0),.sl (ab eI v3_1),.sl (ab eI v3_2)])],2⟩
attribute [go_sem] qh
def Ke:Hint where
 acts:=fun _=>[]
 draws:=fun
  | _=>⟨.nil,[],[]⟩
theorem Tg (i:Nat):Ke.acts i=[]:=rfl
theorem Th (i:Nat):Ke.views i=none:=rfl
attribute [go_sem] Tg Th Tryz.ntmps179 Tryz.results179
theorem uv {s:GShow}{v1:GState}{res:Bool}(h:jc s v1=some res):ao Tryz.prog 179 [.agg (GShow.encS s),.agg (GState.encS v1)] [] (.lit (.bool res)) []:=by
 refine aj (ra:=[]) (md:=mdT) hT (hi:=Ke) Tryz.func179 rfl rfl (by decide +kernel) (by simp) ?_
 unfold jc at h
 obtain ⟨q1004,l1,h⟩:=ae h
 simp(config:=cS)only[go_sem]
 refine an (m1:=.mk) (m2:=.mk) [.nf [3,8,9,10] [192]] (qh s.nodes ((s.nodes.length:Nat):Int) v1.now v1.times v1.values) l1 ?_ ?_
 ·simp(config:=cS)only[go_sem]
 ·intro nb2 sb2 bb2 b2 gb2
  obtain ⟨v10_1,eb2⟩:∃ v,v=sb2:=⟨_,rfl⟩;subst eb2
  unfold fD at b2
  try dsimp only at b2
  obtain ⟨h3,b2⟩|⟨h3,b2⟩:=af b2
  ·obtain ⟨x1001,g4,b2⟩:=ae b2
   obtain ⟨h5,h6,h7⟩:=ai g4
   obtain ⟨x1002,g8,b2⟩:=ae b2
   obtain ⟨h9,h10,h11⟩:=ai g8
   obtain ⟨h12,b2⟩|⟨h12,b2⟩:=af b2
   ·obtain ⟨r1003,g13,b2⟩:=ae b2
    simp(config:=cS)only[go_sem,eqT h3,h5,h6,h7,h9,h10,h11,eqT h12]
    refine ag (ib g13) ?_
    obtain ⟨h14,b2⟩|⟨h14,b2⟩:=af b2
    ·cases b2
     have e15:=(ak gb2).symm
     subst e15
     try dsimp only at h
     cases h
     simp(config:=cS)only[go_sem,eqT h14]
    ·cases b2
     simp(config:=cS)only[go_sem,eqF h14]
     refine ap gb2 ?_
     simp(config:=cS)only[go_sem]
   ·cases b2
    simp(config:=cS)only[go_sem,eqT h3,h5,h6,h7,h9,h10,h11,eqF h12]
    refine ap gb2 ?_
    simp(config:=cS)only[go_sem]
  ·cases b2
   have e16:=(ak gb2).symm
   subst e16
   try dsimp only at h
   cases h
   simp(config:=cS)only[go_sem,eqF h3]
def pu (ties:List Int)(v21:List Int)(v22:Int)(d_0:List GNode)(d_1:List GTie)(d_2:Int)(d_3:Int)(d_4:List Int)(d_5:List Int)(d_6:Bool)(d_7:List GEntry)(v23:Int):St:=⟨[(1,.sl (ab eI ties)),(3,.ptr 192 1 0 0),(6,.ptr 384 1 0 0),(21,.sl (ab eI v21)),(22,.lit (.int .i64 v22)),(23,.lit (.int .i64 v23))],[(192,1,.var [.sl (ab GNode.encS d_0),.sl (ab GTie.enc d_1),.lit (.int .i64 d_2),.lit (.int .i64 d_3),.sl (ab eI d_4),.sl (ab eI d_5),.lit (.bool d_6),.sl (ab GEntry.encS d_7)]),(384,1,.var [.lit (.int .i64 0),.lit (.slice none 0 0),.lit (.slice none 0 0)])],2⟩
attribute [go_sem] pu
def Kf:Hint where
 acts:=fun _=>[]
 draws:=fun
  | _=>⟨.nil,[],[]⟩
theorem Ti (i:Nat):Kf.acts i=[]:=rfl
theorem Tj (i:Nat):Kf.views i=none:=rfl
attribute [go_sem] Ti Tj Tryz.ntmps108 Tryz.results108
theorem AU {d:GDesk}{ties:List Int}{values:List Int}{res:GState × Int}(h:ka d ties values=some res):ao Tryz.prog 108 [.agg (GDesk.encS d),.sl (ab eI ties),.sl (ab eI values)] [] (.tup [.agg [.lit (.int .i64 res.1.now),.ref 20000 1 0 res.1.times.length,.ref 20001 1 0 res.1.values.length],.lit (.int .i64 res.2)]) [(20000,1,.row true (ab eI res.1.times)),(20001,1,.row true (ab eI res.1.values))]:=by
 refine aj (ra:=[.homeCell 384 1,.homeCell 384 2]) (md:=mdT) hT (hi:=Kf) Tryz.func108 rfl rfl (by decide +kernel) (by simp) ?_
 unfold ka at h
 obtain ⟨r1001,g1,h⟩:=ae h
 simp(config:=cS)only[go_sem]
 refine ag (El g1) ?_
 obtain ⟨h2,h⟩|⟨h2,h⟩:=af h
 ·obtain ⟨h3,h⟩|⟨h3,h⟩:=af h
  ·obtain ⟨q1006,l4,h⟩:=ae h
   simp(config:=cS)only[go_sem,eZt h2,eqT h3]
   refine an (m1:=.mk) (m2:=.mk) [.nf [1,3,6,21,22,23] [192,384]] (pu ties values ((values.length:Nat):Int) d.show_.nodes d.show_.ties d.show_.horizon d.state.now d.state.times d.state.values d.lazy d.log) l4 ?_ ?_
   ·simp(config:=cS)only[go_sem,eZt h2,eqT h3]
   ·intro nb5 sb5 bb5 b5 gb5
    obtain ⟨v23_1,eb5⟩:∃ v,v=sb5:=⟨_,rfl⟩;subst eb5
    unfold eD at b5
    try dsimp only at b5
    obtain ⟨h6,b5⟩|⟨h6,b5⟩:=af b5
    ·obtain ⟨x1002,g7,b5⟩:=ae b5
     obtain ⟨h8,h9,h10⟩:=ai g7
     obtain ⟨h11,b5⟩|⟨h11,b5⟩:=af b5
     ·cases b5
      simp(config:=cS)only[go_sem,eZt h2,eqT h3,eqT h6,h8,h9,h10,eqT h11]
      refine ap gb5 ?_
      simp(config:=cS)only[go_sem,eZt h2,eqT h3,eqT h6,h8,h9,h10,eqT h11]
     ·obtain ⟨h12,b5⟩|⟨h12,b5⟩:=af b5
      ·cases b5
       simp(config:=cS)only[go_sem,eZt h2,eqT h3,eqT h6,h8,h9,h10,eqF h11,eqT h12]
       refine ap gb5 ?_
       simp(config:=cS)only[go_sem,eZt h2,eqT h3,eqT h6,h8,h9,h10,eqF h11,eqT h12]
      ·cases b5
       have e13:=(ak gb5).symm
       subst e13
       try dsimp only at h
       cases h
       simp(config:=cS)only[go_sem,eZt h2,eqT h3,eqT h6,h8,h9,h10,eqF h11,eqF h12]
    ·cases b5
     have e14:=(ak gb5).symm
     subst e14
     try dsimp only at h
     obtain ⟨r1003,g15,h⟩:=ae h
     simp(config:=cS)only[go_sem,eZt h2,eqT h3,eqF h6]
     refine ag (sS g15) ?_
     obtain ⟨h16,h⟩|⟨h16,h⟩:=af h
     ·cases h
      simp(config:=cS)only[go_sem,eZt h2,eqT h3,eqF h6,eZt h16]
     ·obtain ⟨r1004,g17,h⟩:=ae h
      simp(config:=cS)only[go_sem,eZt h2,eqT h3,eqF h6,eZf h16]
      refine ag (uv g17) ?_
      obtain ⟨h18,h⟩|⟨h18,h⟩:=af h
      ·cases h
       simp(config:=cS)only[go_sem,eZt h2,eqT h3,eqF h6,eZf h16,eZt h18]
      ·obtain ⟨h19,h⟩|⟨h19,h⟩:=af h
       ·cases h
        simp(config:=cS)only[go_sem,eZt h2,eqT h3,eqF h6,eZf h16,eZf h18,eqT h19]
       ·obtain ⟨r1005,g20,h⟩:=ae h
        simp(config:=cS)only[go_sem,eZt h2,eqT h3,eqF h6,eZf h16,eZf h18,eqF h19]
        refine ag (qP g20) ?_
        obtain ⟨h21,h⟩|⟨h21,h⟩:=af h
        ·cases h
         simp(config:=cS)only[go_sem,eZt h2,eqT h3,eqF h6,eZf h16,eZf h18,eqF h19,eZt h21]
        ·cases h
         simp(config:=cS)only[go_sem,eZt h2,eqT h3,eqF h6,eZf h16,eZf h18,eqF h19,eZf h21]
  ·cases h
   simp(config:=cS)only[go_sem,eZt h2,eqF h3]
 ·cases h
  simp(config:=cS)only[go_sem,eZf h2]
def og (v17:List GNode)(v18:Int)(s_1:List GTie)(s_2:Int)(v3_0:Int)(v3_1:List Int)(v3_2:List Int):(Int × (List Int) × (List Int) × (List Bool))→St
 | (v19,low,high,sure)=>⟨[(2,.ptr 128 1 0 0),(3,.ptr 192 1 0 0),(7,.ref 832 1 0 low.length),(8,.ref 896 1 0 high.length),(9,.ref 960 1 0 sure.length),(17,.sl (ab GNode.encS v17)),(18,.lit (.int .i64 v18)),(19,.lit (.int .i64 v19))],[(128,1,.var [.sl (ab GNode.encS v17),.sl (ab GTie.enc s_1),.lit (.int .i64 s_2)]),(192,1,.var [.lit (.int .i64 v3_0),.sl (ab eI v3_1),.sl (ab eI v3_2)]),(832,1,.row true (ab eI low)),(896,1,.row true (ab eI high)),(960,1,.row true (ab eB sure))],2⟩
attribute [go_sem] og
def Kg:Hint where
 acts:=fun _=>[]
 draws:=fun
  | _=>⟨.nil,[],[]⟩
theorem Tk (i:Nat):Kg.acts i=[]:=rfl
theorem Tl (i:Nat):Kg.views i=none:=rfl
attribute [go_sem] Tk Tl Tryz.ntmps274 Tryz.results274
theorem yV {s:GShow}{v1:GState}{res:(List Int) × (List Int) × (List Bool)}(h:jt s v1=some res):ao Tryz.prog 274 [.agg (GShow.encS s),.agg (GState.encS v1)] [] (.tup [.ref 20000 1 0 res.1.length,.ref 20001 1 0 res.2.1.length,.ref 20002 1 0 res.2.2.length]) [(20000,1,.row true (ab eI res.1)),(20001,1,.row true (ab eI res.2.1)),(20002,1,.row true (ab eB res.2.2))]:=by
 refine aj (ra:=[.home 4,.home 5,.home 6]) (md:=mdT) hT (hi:=Kg) Tryz.func274 rfl rfl (by decide +kernel) (by simp) ?_
 unfold jt at h
 obtain ⟨q1004,l1,h⟩:=ae h
 simp(config:=cS)only[go_sem]
 refine an (m1:=.mk) (m2:=.mk) [.nf [2,3,7,8,9,17,18,19] [128,192,832,896,960]] (og s.nodes ((s.nodes.length:Nat):Int) s.ties s.horizon v1.now v1.times v1.values) l1 ?_ ?_
 ·simp(config:=cS)only[go_sem]
 ·intro nb2 sb2 bb2 b2 gb2
  obtain ⟨v19_1,low_1,high_1,sure_1⟩:=sb2
  unfold fY at b2
  try dsimp only at b2
  obtain ⟨h3,b2⟩|⟨h3,b2⟩:=af b2
  ·obtain ⟨x1001,g4,b2⟩:=ae b2
   obtain ⟨h5,h6,h7⟩:=ai g4
   obtain ⟨x1002,g8,b2⟩:=ae b2
   obtain ⟨h9,h10,h11⟩:=ai g8
   obtain ⟨r1003,g12,b2⟩:=ae b2
   simp(config:=cS)only[go_sem,eqT h3,h5,h6,h7,h9,h10,h11]
   refine ag (ib g12) ?_
   obtain ⟨h13,b2⟩:=ah b2
   obtain ⟨h14,b2⟩:=ah b2
   obtain ⟨h15,b2⟩|⟨h15,b2⟩:=af b2
   ·obtain ⟨h16,b2⟩:=ah b2
    obtain ⟨h17,b2⟩:=ah b2
    obtain ⟨h18,b2⟩:=ah b2
    obtain ⟨h19,b2⟩:=ah b2
    cases b2
    simp(config:=cS)only[go_sem,eqT h13,eqT h14,eqT h15,eqT h16,eqT h17,eqT h18,eqT h19]
    refine ap gb2 ?_
    simp(config:=cS)only[go_sem]
   ·obtain ⟨h20,b2⟩:=ah b2
    obtain ⟨h21,b2⟩:=ah b2
    obtain ⟨h22,b2⟩:=ah b2
    obtain ⟨h23,b2⟩:=ah b2
    cases b2
    simp(config:=cS)only[go_sem,eqT h13,eqT h14,eqF h15,eqT h20,eqT h21,eqT h22,eqT h23]
    refine ap gb2 ?_
    simp(config:=cS)only[go_sem]
  ·cases b2
   have e24:=(ak gb2).symm
   subst e24
   try dsimp only at h
   cases h
   simp(config:=cS)only[go_sem,eqF h3]
def mP (round:Int)(v27:List GTie)(v28:Int)(s_0:List GNode)(s_2:Int)(sure:List Bool):(Int × (List Int) × (List Int))→St
 | (v29,low,high)=>⟨[(2,.ptr 128 1 0 0),(5,.ref 960 1 0 low.length),(6,.ref 961 1 0 high.length),(7,.ref 962 1 0 sure.length),(8,.lit (.int .i64 round)),(27,.sl (ab GTie.enc v27)),(28,.lit (.int .i64 v28)),(29,.lit (.int .i64 v29))],[(128,1,.var [.sl (ab GNode.encS s_0),.sl (ab GTie.enc v27),.lit (.int .i64 s_2)]),(960,1,.row true (ab eI low)),(961,1,.row true (ab eI high)),(962,1,.row true (ab eB sure))],2⟩
attribute [go_sem] mP
def mQ (s_0:List GNode)(s_1:List GTie)(s_2:Int)(sure:List Bool):(Int × (List Int) × (List Int))→St
 | (round,low,high)=>⟨[(2,.ptr 128 1 0 0),(5,.ref 960 1 0 low.length),(6,.ref 961 1 0 high.length),(7,.ref 962 1 0 sure.length),(8,.lit (.int .i64 round))],[(128,1,.var [.sl (ab GNode.encS s_0),.sl (ab GTie.enc s_1),.lit (.int .i64 s_2)]),(960,1,.row true (ab eI low)),(961,1,.row true (ab eI high)),(962,1,.row true (ab eB sure))],2⟩
attribute [go_sem] mQ
def mR (v121:Int)(low:List Int)(high:List Int)(sure:List Bool)(v122:Int):St:=⟨[(5,.ref 960 1 0 low.length),(6,.ref 961 1 0 high.length),(7,.ref 962 1 0 sure.length),(121,.lit (.int .i64 v121)),(122,.lit (.int .i64 v122))],[(960,1,.row true (ab eI low)),(961,1,.row true (ab eI high)),(962,1,.row true (ab eB sure))],2⟩
attribute [go_sem] mR
@[go_sem] def hi262_17:DT:=.i2 0 (.i2 1 (.i2 2 (.i2 3 (.i2 4 (.i2 5 (.i2 6 (.i2 7 (.i2 8 (.i2 9 (.i2 10 (.i2 11 (.i2 12 (.i2 13 (.i2 14 .nil))))))))))))))
@[go_sem] def hi262_12:DT:=.i2 0 (.i2 1 (.i2 2 (.i2 3 (.i2 4 (.i2 5 (.i2 6 (.i2 7 (.i2 8 (.i2 9 (.i2 10 (.i2 11 (.i2 12 (.i2 13 (.i2 14 (.i2 15 (.i2 16 (.i2 17 (.i2 18 .nil))))))))))))))))))
@[go_sem] def hi262_11:DT:=.i2 0 (.i2 1 (.i2 2 (.i2 3 (.i2 4 (.i2 5 (.i2 6 (.i2 7 (.i2 8 (.i2 9 (.i2 10 (.i2 11 (.i2 12 (.i2 13 (.i2 14 (.i2 15 (.i2 16 (.i2 17 (.i2 18 .nil))))))))))))))))))
@[go_sem] def hi262_10:DT:=.i2 0 (.i2 1 (.i2 2 (.i2 3 (.i2 4 (.i2 5 (.i2 6 (.i2 7 (.i2 8 (.i2 9 (.i2 10 (.i2 11 (.i2 12 (.i2 13 (.i2 14 (.i2 15 (.i2 16 (.i2 17 (.i2 18 .nil))))))))))))))))))
@[go_sem] def hi262_9:DT:=.i2 0 (.i2 1 (.i2 2 (.i2 3 (.i2 4 (.i2 5 (.i2 6 (.i2 7 (.i2 8 (.i2 9 (.i2 10 (.i2 11 (.i2 12 (.i2 13 (.i2 14 (.i2 15 (.i2 16 (.i2 17 (.i2 18 .nil))))))))))))))))))
def tI:Hint where
 acts:=fun _=>[]
 draws:=fun
  | 9=>⟨hi262_9,[[],[],[1],[],[],[4],[3,4,5],[3,4,5,6],[],[],[9],[8,9,10],[8,9,10,11],[],[13],[8,9,10,11,12,13,14],[3,4,5,6,7,8,9,10,11,12,13,14,15],.range 17,.range 18],.range 19⟩
  | 10=>⟨hi262_10,[[],[],[1],[],[],[4],[3,4,5],[3,4,5,6],[],[],[9],[8,9,10],[8,9,10,11],[],[13],[8,9,10,11,12,13,14],[3,4,5,6,7,8,9,10,11,12,13,14,15],.range 17,.range 18],.range 19⟩
  | 11=>⟨hi262_11,[[],[],[1],[],[],[4],[3,4,5],[3,4,5,6],[],[],[9],[8,9,10],[8,9,10,11],[],[13],[8,9,10,11,12,13,14],[3,4,5,6,7,8,9,10,11,12,13,14,15],.range 17,.range 18],.range 19⟩
  | 12=>⟨hi262_12,[[],[],[1],[],[],[4],[3,4,5],[3,4,5,6],[],[],[9],[8,9,10],[8,9,10,11],[],[13],[8,9,10,11,12,13,14],[3,4,5,6,7,8,9,10,11,12,13,14,15],.range 17,.range 18],.range 19⟩
  | 17=>⟨hi262_17,[[],[],[0,1],[0,1,2],[0,1,2,3],.range 5,.range 5,.range 7,.range 8,.range 5,.range 5,[0,1,2,3,4,9,10],[0,1,2,3,4,9,10,11],.range 13,.range 14],.range 15⟩
  | _=>⟨.nil,[],[]⟩
theorem Tm (i:Nat):tI.acts i=[]:=rfl
theorem Tn (i:Nat):tI.views i=none:=rfl
attribute [go_sem] Tm Tn Tryz.ntmps262 Tryz.results262
@[go_sem] theorem ZW:(tI.draws 9).order=hi262_9:=rfl
@[go_sem] theorem ZI:(tI.draws 10).order=hi262_10:=rfl
@[go_sem] theorem ZJ:(tI.draws 11).order=hi262_11:=rfl
@[go_sem] theorem ZK:(tI.draws 12).order=hi262_12:=rfl
@[go_sem] theorem ZL:(tI.draws 17).order=hi262_17:=rfl
theorem wq {s:GShow}{v1:GState}{res:Bool}(h:gX s v1=some res):ao Tryz.prog 262 [.agg (GShow.encS s),.agg (GState.encS v1)] [] (.lit (.bool res)) []:=by
 refine aj (ra:=[]) (md:=mdT) hT (hi:=tI) Tryz.func262 rfl rfl (by decide +kernel) (by simp) ?_
 unfold gX at h
 obtain ⟨r1001,g1,h⟩:=ae h
 simp(config:=cS)only[go_sem]
 refine ag (yV g1) ?_
 obtain ⟨q1018,l2,h⟩:=ae h
 simp(config:=cS)only[go_sem]
 refine an (m1:=.mk) (m2:=.mk) [.nf [2,5,6,7,8] [128,960,961,962]] (mQ s.nodes s.ties s.horizon r1001.2.2) l2 ?_ ?_
 ·simp(config:=cS)only[go_sem]
 ·intro nb3 sb3 bb3 b3 gb3
  obtain ⟨round_1,low_1,high_1⟩:=sb3
  unfold eG at b3
  try dsimp only at b3
  obtain ⟨h4,b3⟩|⟨h4,b3⟩:=af b3
  ·obtain ⟨q1013,l5,b3⟩:=ae b3
   simp(config:=cS)only[go_sem,eqT h4]
   refine an (m1:=.mk) (m2:=.mk) [.nf [2,5,6,7,8,27,28,29] [128,960,961,962]] (mP round_1 s.ties ((s.ties.length:Nat):Int) s.nodes s.horizon r1001.2.2) l5 ?_ ?_
   ·simp(config:=cS)only[go_sem]
   ·intro nb6 sb6 bb6 b6 gb6
    obtain ⟨v29_2,low_2,high_2⟩:=sb6
    unfold eF at b6
    try dsimp only at b6
    obtain ⟨h7,b6⟩|⟨h7,b6⟩:=af b6
    ·obtain ⟨x1002,g8,b6⟩:=ae b6
     obtain ⟨h9,h10,h11⟩:=ai g8
     obtain ⟨x1003,g12,b6⟩:=ae b6
     obtain ⟨h13,h14,h15⟩:=ai g12
     obtain ⟨h16,b6⟩|⟨h16,b6⟩:=af b6
     ·obtain ⟨x1004,g17,b6⟩:=ae b6
      obtain ⟨h18,h19,h20⟩:=ai g17
      obtain ⟨h21,b6⟩|⟨h21,b6⟩:=af b6
      ·obtain ⟨x1005,g22,b6⟩:=ae b6
       obtain ⟨h23,h24,h25⟩:=ai g22
       obtain ⟨x1006,g26,b6⟩:=ae b6
       obtain ⟨h27,h28,h29⟩:=ai g26
       obtain ⟨x1007,g30,b6⟩:=ae b6
       obtain ⟨h31,h32,h33⟩:=ai g30
       obtain ⟨x1008,g34,b6⟩:=ae b6
       obtain ⟨h35,h36,h37⟩:=ai g34
       obtain ⟨x1009,g38,b6⟩:=ae b6
       obtain ⟨h39,h40,h41⟩:=ai g38
       obtain ⟨x1010,g42,b6⟩:=ae b6
       obtain ⟨h43,h44,h45⟩:=ai g42
       obtain ⟨x1011,g46,b6⟩:=ae b6
       obtain ⟨h47,h48,h49⟩:=ai g46
       obtain ⟨x1012,g50,b6⟩:=ae b6
       obtain ⟨h51,h52,h53⟩:=ai g50
       cases b6
       simp(config:=cS)only[go_sem,eqT h7,h9,h10,h11,h13,h14,h15,eZt h16,h18,h19,h20,eZt h21,h23,h24,h25,h27,h28,h29,h31,h32,h33,h35,h36,h37,h39,h40,h41,h43,h44,h45,h47,h48,h49,h51,h52,h53]
       refine ap gb6 ?_
       simp(config:=cS)only[go_sem]
      ·cases b6
       simp(config:=cS)only[go_sem,eqT h7,h9,h10,h11,h13,h14,h15,eZt h16,h18,h19,h20,eZf h21]
       refine ap gb6 ?_
       simp(config:=cS)only[go_sem]
     ·cases b6
      simp(config:=cS)only[go_sem,eqT h7,h9,h10,h11,h13,h14,h15,eZf h16]
      refine ap gb6 ?_
      simp(config:=cS)only[go_sem]
    ·cases b6
     have e54:=(ak gb6).symm
     subst e54
     try dsimp only at b3
     cases b3
     simp(config:=cS)only[go_sem,eqF h7]
     refine ap gb3 ?_
     simp(config:=cS)only[go_sem]
  ·cases b3
   have e55:=(ak gb3).symm
   subst e55
   try dsimp only at h
   obtain ⟨q1017,l56,h⟩:=ae h
   simp(config:=cS)only[go_sem,eqF h4]
   refine an (m1:=.mk) (m2:=.mk) [.nf [5,6,7,121,122] [960,961,962]] (mR ((low_1.length:Nat):Int) low_1 high_1 r1001.2.2) l56 ?_ ?_
   ·simp(config:=cS)only[go_sem]
   ·intro nb57 sb57 bb57 b57 gb57
    obtain ⟨v122_3,eb57⟩:∃ v,v=sb57:=⟨_,rfl⟩;subst eb57
    unfold eH at b57
    try dsimp only at b57
    obtain ⟨h58,b57⟩|⟨h58,b57⟩:=af b57
    ·obtain ⟨x1014,g59,b57⟩:=ae b57
     obtain ⟨h60,h61,h62⟩:=ai g59
     obtain ⟨h63,b57⟩|⟨h63,b57⟩:=af b57
     ·obtain ⟨x1015,g64,b57⟩:=ae b57
      obtain ⟨h65,h66,h67⟩:=ai g64
      obtain ⟨x1016,g68,b57⟩:=ae b57
      obtain ⟨h69,h70,h71⟩:=ai g68
      obtain ⟨h72,b57⟩|⟨h72,b57⟩:=af b57
      ·cases b57
       have e73:=(ak gb57).symm
       subst e73
       try dsimp only at h
       cases h
       simp(config:=cS)only[go_sem,eqT h58,h60,h61,h62,eZt h63,h65,h66,h67,h69,h70,h71,eqT h72]
      ·cases b57
       simp(config:=cS)only[go_sem,eqT h58,h60,h61,h62,eZt h63,h65,h66,h67,h69,h70,h71,eqF h72]
       refine ap gb57 ?_
       simp(config:=cS)only[go_sem]
     ·cases b57
      simp(config:=cS)only[go_sem,eqT h58,h60,h61,h62,eZf h63]
      refine ap gb57 ?_
      simp(config:=cS)only[go_sem]
    ·cases b57
     have e74:=(ak gb57).symm
     subst e74
     try dsimp only at h
     cases h
     simp(config:=cS)only[go_sem,eqF h58]
def lz (props:List Int)(v10:Int)(v11:Int):St:=⟨[(0,.sl (ab eI props)),(9,.sl (ab eI props)),(10,.lit (.int .i64 v10)),(11,.lit (.int .i64 v11))],[],2⟩
attribute [go_sem] lz
def lA (props:List Int)(n:Int)(v44:Int)(out:List (List Int)):(Int × (List Int))→St
 | (v45,l)=>⟨[(0,.sl (ab eI props)),(5,.ref 2112 1 0 out.length),(6,.lit (.int .i64 n)),(7,.ref 2688 1 0 l.length),(44,.lit (.int .i64 v44)),(45,.lit (.int .i64 v45))],[(2112,1,.row true (ab (eLO eI) out)),(2688,1,.row true (ab eI l))],2⟩
attribute [go_sem] lA
def lB (props:List Int):(Int × (List (List Int)))→St
 | (n,out)=>⟨[(0,.sl (ab eI props)),(5,.ref 2112 1 0 out.length),(6,.lit (.int .i64 n))],[(2112,1,.row true (ab (eLO eI) out))],2⟩
attribute [go_sem] lB
def Kh:Hint where
 acts:=fun _=>[]
 draws:=fun
  | _=>⟨.nil,[],[]⟩
theorem To (i:Nat):Kh.acts i=[]:=rfl
theorem Tp (i:Nat):Kh.views i=none:=rfl
attribute [go_sem] To Tp Tryz.ntmps236 Tryz.results236
theorem uw {props:List Int}{res:List (List Int)}(h:eJ props=some res):ao Tryz.prog 236 [.sl (ab eI props)] [] (.ref 20000 1 0 res.length) [(20000,1,.row true (ab (eLO eI) res))]:=by
 refine aj (ra:=[.home 2]) (md:=mdT) hT (hi:=Kh) Tryz.func236 rfl rfl (by decide +kernel) (by simp) ?_
 unfold eJ at h
 obtain ⟨q1006,l1,h⟩:=ae h
 simp(config:=cS)only[go_sem]
 refine an (m1:=.mk) (m2:=.mk) [.nf [0,9,10,11] []] (lz props ((props.length:Nat):Int)) l1 ?_ ?_
 ·simp(config:=cS)only[go_sem]
 ·intro nb2 sb2 bb2 b2 gb2
  obtain ⟨v11_1,eb2⟩:∃ v,v=sb2:=⟨_,rfl⟩;subst eb2
  unfold db at b2
  try dsimp only at b2
  obtain ⟨h3,b2⟩|⟨h3,b2⟩:=af b2
  ·obtain ⟨x1001,g4,b2⟩:=ae b2
   obtain ⟨h5,h6,h7⟩:=ai g4
   obtain ⟨r1002,g8,b2⟩:=ae b2
   simp(config:=cS)only[go_sem,eqT h3,h5,h6,h7]
   refine ag (co g8) ?_
   obtain ⟨h9,b2⟩|⟨h9,b2⟩:=af b2
   ·obtain ⟨h10,b2⟩|⟨h10,b2⟩:=af b2
    ·obtain ⟨x1003,g11,b2⟩:=ae b2
     obtain ⟨h12,h13,h14⟩:=ai g11
     obtain ⟨h15,b2⟩|⟨h15,b2⟩:=af b2
     ·cases b2
      have e16:=(ak gb2).symm
      subst e16
      try dsimp only at h
      cases h
      simp(config:=cS)only[go_sem,eZt h9,eqT h10,h12,h13,h14,eqT h15]
     ·cases b2
      simp(config:=cS)only[go_sem,eZt h9,eqT h10,h12,h13,h14,eqF h15]
      refine ap gb2 ?_
      simp(config:=cS)only[go_sem]
    ·cases b2
     simp(config:=cS)only[go_sem,eZt h9,eqF h10]
     refine ap gb2 ?_
     simp(config:=cS)only[go_sem]
   ·cases b2
    have e17:=(ak gb2).symm
    subst e17
    try dsimp only at h
    cases h
    simp(config:=cS)only[go_sem,eZf h9]
  ·cases b2
   have e18:=(ak gb2).symm
   subst e18
   try dsimp only at h
   obtain ⟨q1005,l19,h⟩:=ae h
   simp(config:=cS)only[go_sem,eqF h3]
   refine an (m1:=.mk) (m2:=.mk) [.nf [0,5,6] [2112]] (lB props) l19 ?_ ?_
   ·simp(config:=cS)only[go_sem]
   ·intro nb20 sb20 bb20 b20 gb20
    obtain ⟨n_2,out_2⟩:=sb20
    unfold dd at b20
    try dsimp only at b20
    obtain ⟨h21,b20⟩:=ah b20
    obtain ⟨h22,b20⟩|⟨h22,b20⟩:=af b20
    ·obtain ⟨q1004,l23,b20⟩:=ae b20
     simp(config:=cS)only[go_sem,eqF h21,eqT h22]
     refine an (m1:=.mk) (m2:=.mk) [.nf [0,5,6,7,44,45] [2112,2688]] (lA props n_2 ((props.length:Nat):Int) out_2) l23 ?_ ?_
     ·simp(config:=cS)only[go_sem]
     ·intro nb24 sb24 bb24 b24 gb24
      obtain ⟨v45_3,l_3⟩:=sb24
      unfold dc at b24
      try dsimp only at b24
      obtain ⟨h25,b24⟩|⟨h25,b24⟩:=af b24
      ·obtain ⟨h26,b24⟩:=ah b24
       obtain ⟨h27,b24⟩:=ah b24
       obtain ⟨h28,b24⟩:=ah b24
       cases b24
       simp(config:=cS)only[go_sem,eqT h25,eqF h26,eqT h27,eqT h28]
       refine ap gb24 ?_
       simp(config:=cS)only[go_sem]
      ·cases b24
       have e29:=(ak gb24).symm
       subst e29
       try dsimp only at b20
       obtain ⟨h30,b20⟩:=ah b20
       obtain ⟨h31,b20⟩:=ah b20
       cases b20
       simp(config:=cS)only[go_sem,eqF h25,eqT h30,eqT h31]
       refine ap gb20 ?_
       simp(config:=cS)only[go_sem]
    ·cases b20
     have e32:=(ak gb20).symm
     subst e32
     try dsimp only at h
     cases h
     simp(config:=cS)only[go_sem,eqF h21,eqF h22]
def qi (v20:Int)(s_0:List GNode)(s_1:List GTie)(s_2:Int)(y_0:Int)(h960:List Int)(h961:List Int)(props:List Int)(v19:List (List Int))(v21:Int):St:=⟨[(3,.ptr 192 1 0 0),(7,.ptr 448 1 0 0),(8,.ref 962 1 0 props.length),(19,.ref 1216 1 0 v19.length),(20,.lit (.int .i64 v20)),(21,.lit (.int .i64 v21))],[(192,1,.var [.sl (ab GNode.encS s_0),.sl (ab GTie.enc s_1),.lit (.int .i64 s_2)]),(448,1,.var [.lit (.int .i64 y_0),.ref 960 1 0 h960.length,.ref 961 1 0 h961.length]),(960,1,.row true (ab eI h960)),(961,1,.row true (ab eI h961)),(962,1,.row true (ab eI props)),(1216,1,.tree (ab (eLS eI) v19))],2⟩
attribute [go_sem] qi
@[go_sem] def hi191_5:DT:=.i1 0 (.i2 1 (.i2 2 (.i2 3 (.i0 4 [0] (.i2 5 (.i2 6 .nil))))))
def Ff:Hint where
 acts:=fun _=>[]
 draws:=fun
  | 5=>⟨hi191_5,[[],[],[],[],[1,2,3],.range 5,.range 6],.range 7⟩
  | _=>⟨.nil,[],[]⟩
@[go_sem] theorem aaS (i:Nat):Ff.acts i=[]:=rfl
theorem Tq (i:Nat):Ff.views i=none:=rfl
attribute [go_sem] Tq Tryz.ntmps191 Tryz.results191
@[go_sem] theorem ZX:(Ff.draws 5).order=hi191_5:=rfl
theorem sT {rec:GShow→GState→Option Bool}(hrec:∀ {s:GShow} {v1:GState} {res:Bool},rec s v1=some res→ao Tryz.prog 237 [.agg (GShow.encS s),.agg (GState.encS v1)] [] (.lit (.bool res)) []){s:GShow}{v1:GState}{nodes:List Int}{res:Bool}(h:gv rec s v1 nodes=some res):ao Tryz.prog 191 [.agg (GShow.encS s),.agg (GState.encS v1),.sl (ab eI nodes)] [] (.lit (.bool res)) []:=by
 refine aj (ra:=[]) (md:=mdT) hT (hi:=Ff) Tryz.func191 rfl rfl (by decide +kernel) (by simp) ?_
 unfold gv at h
 obtain ⟨r1001,g1,h⟩:=ae h
 simp(config:=cS)only[go_sem]
 refine ag (oS g1) ?_
 obtain ⟨r1002,g2,h⟩:=ae h
 simp(config:=cS)only[go_sem]
 refine ag (uw g2) ?_
 obtain ⟨q1006,l3,h⟩:=ae h
 simp(config:=cS)only[go_sem]
 refine an (m1:=.mk) (m2:=.mk) [.freeze [1216],.nf [3,7,8,19,20,21] [192,448,960,961,962,1216]] (qi ((r1002.length:Nat):Int) s.nodes s.ties s.horizon r1001.1.now r1001.1.times r1001.1.values r1001.2 r1002) l3 ?_ ?_
 ·simp(config:=cS)only[go_sem]
 ·intro nb4 sb4 bb4 b4 gb4
  obtain ⟨v21_1,eb4⟩:∃ v,v=sb4:=⟨_,rfl⟩;subst eb4
  unfold iC at b4
  try dsimp only at b4
  obtain ⟨h5,b4⟩|⟨h5,b4⟩:=af b4
  ·obtain ⟨x1003,g6,b4⟩:=ae b4
   obtain ⟨h7,h8,h9⟩:=ai g6
   obtain ⟨r1004,g10,b4⟩:=ae b4
   simp(config:=cS)only[go_sem,eqT h5,h7,h8,h9]
   refine ag (je g10) ?_
   obtain ⟨r1005,g11,b4⟩:=ae b4
   simp(config:=cS)only[go_sem]
   refine ag (hrec g11) ?_
   obtain ⟨h12,b4⟩|⟨h12,b4⟩:=af b4
   ·cases b4
    simp(config:=cS)only[go_sem,eZt h12]
    refine ap gb4 ?_
    simp(config:=cS)only[go_sem]
   ·cases b4
    have e13:=(ak gb4).symm
    subst e13
    try dsimp only at h
    cases h
    simp(config:=cS)only[go_sem,eZf h12]
  ·cases b4
   have e14:=(ak gb4).symm
   subst e14
   try dsimp only at h
   cases h
   simp(config:=cS)only[go_sem,eqF h5]
def qQ (s_0:List GNode)(s_1:List GTie)(s_2:Int)(v3_0:Int)(v3_1:List Int)(v3_2:List Int)(l:List Int)(n:Int):St:=⟨[(2,.ptr 128 1 0 0),(3,.ptr 192 1 0 0),(5,.ref 576 1 0 l.length),(6,.lit (.int .i64 n))],[(128,1,.var [.sl (ab GNode.encS s_0),.sl (ab GTie.enc s_1),.lit (.int .i64 s_2)]),(192,1,.var [.lit (.int .i64 v3_0),.sl (ab eI v3_1),.sl (ab eI v3_2)]),(576,1,.row true (ab eI l))],2⟩
attribute [go_sem] qQ
@[go_sem] def hi263_5:DT:=.i1 0 (.i1 1 (.i2 2 (.i2 3 (.i0 4 [0,1] (.i2 5 .nil)))))
def Fg:Hint where
 acts:=fun _=>[]
 draws:=fun
  | 5=>⟨hi263_5,[[],[],[],[],[2,3],.range 5],.range 6⟩
  | _=>⟨.nil,[],[]⟩
theorem Tr (i:Nat):Fg.acts i=[]:=rfl
theorem Ts (i:Nat):Fg.views i=none:=rfl
attribute [go_sem] Tr Ts Tryz.ntmps263 Tryz.results263
@[go_sem] theorem ZY:(Fg.draws 5).order=hi263_5:=rfl
theorem AW {rec:GShow→GState→Option Bool}(hrec:∀ {s:GShow} {v1:GState} {res:Bool},rec s v1=some res→ao Tryz.prog 237 [.agg (GShow.encS s),.agg (GState.encS v1)] [] (.lit (.bool res)) []){s:GShow}{v1:GState}{res:Bool}(h:kb rec s v1=some res):ao Tryz.prog 263 [.agg (GShow.encS s),.agg (GState.encS v1)] [] (.lit (.bool res)) []:=by
 refine aj (ra:=[]) (md:=mdT) hT (hi:=Fg) Tryz.func263 rfl rfl (by decide +kernel) (by simp) ?_
 unfold kb at h
 obtain ⟨r1001,g1,h⟩:=ae h
 simp(config:=cS)only[go_sem]
 refine ag (se g1) ?_
 obtain ⟨h2,h⟩:=ah h
 obtain ⟨q1004,l3,h⟩:=ae h
 simp(config:=cS)only[go_sem,eqF h2]
 refine an (m1:=.mk) (m2:=.mk) [.nf [2,3,5,6] [128,192,576]] (qQ s.nodes s.ties s.horizon v1.now v1.times v1.values r1001) l3 ?_ ?_
 ·simp(config:=cS)only[go_sem]
 ·intro nb4 sb4 bb4 b4 gb4
  obtain ⟨n_1,eb4⟩:∃ v,v=sb4:=⟨_,rfl⟩;subst eb4
  unfold gw at b4
  try dsimp only at b4
  obtain ⟨h5,b4⟩|⟨h5,b4⟩:=af b4
  ·obtain ⟨r1002,g6,b4⟩:=ae b4
   simp(config:=cS)only[go_sem,eqT h5]
   refine ag (nr g6) ?_
   obtain ⟨r1003,g7,b4⟩:=ae b4
   simp(config:=cS)only[go_sem]
   refine ag (sT @hrec g7) ?_
   obtain ⟨h8,b4⟩|⟨h8,b4⟩:=af b4
   ·cases b4
    have e9:=(ak gb4).symm
    subst e9
    try dsimp only at h
    cases h
    simp(config:=cS)only[go_sem,eZt h8]
   ·cases b4
    simp(config:=cS)only[go_sem,eZf h8]
    refine ap gb4 ?_
    simp(config:=cS)only[go_sem]
  ·cases b4
   have e10:=(ak gb4).symm
   subst e10
   try dsimp only at h
   cases h
   simp(config:=cS)only[go_sem,eqF h5]
end Go.Proofs.YtghfphjfkdbpjaaGreatZ
