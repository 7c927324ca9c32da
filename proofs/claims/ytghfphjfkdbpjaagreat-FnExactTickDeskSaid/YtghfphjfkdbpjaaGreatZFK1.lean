/- Functions. -/
import Derived.Test.YtghfphjfkdbpjaaGreatZFK0
set_option linter.all false
set_option maxRecDepth 100000
set_option maxHeartbeats 400000
namespace Go.Proofs.YtghfphjfkdbpjaaGreatZ
open Go
def qR (s_0:List GNode)(s_1:List GTie)(s_2:Int)(v3_0:Int)(v3_1:List Int)(v3_2:List Int)(must:List Int)(may:List Int)(n:Int):St:=⟨[(2,.ptr 128 1 0 0),(3,.ptr 192 1 0 0),(5,.ref 1280 1 0 must.length),(6,.ref 1281 1 0 may.length),(7,.lit (.int .i64 n))],[(128,1,.var [.sl (ab GNode.encS s_0),.sl (ab GTie.enc s_1),.lit (.int .i64 s_2)]),(192,1,.var [.lit (.int .i64 v3_0),.sl (ab eI v3_1),.sl (ab eI v3_2)]),(1280,1,.row true (ab eI must)),(1281,1,.row true (ab eI may))],2⟩
attribute [go_sem] qR
@[go_sem] def hi237_11:DT:=.i1 0 (.i1 1 (.i1 2 (.i2 3 (.i2 4 (.i2 5 (.i0 6 [0,1,2] (.i0 7 [0,1,2] (.i0 8 [0] (.i2 9 (.i2 10 .nil))))))))))
def Fh:Hint where
 acts:=fun _=>[]
 draws:=fun
  | 11=>⟨hi237_11,[[],[],[],[],[],[],[4,5],[3,4,5,6],[1,2,3,4,5,6,7],.range 9,.range 10],.range 11⟩
  | _=>⟨.nil,[],[]⟩
theorem Tt (i:Nat):Fh.acts i=[]:=rfl
theorem Tu (i:Nat):Fh.views i=none:=rfl
attribute [go_sem] Tt Tu Tryz.ntmps237 Tryz.results237
@[go_sem] theorem ZM:(Fh.draws 11).order=hi237_11:=rfl
theorem AX {rec:GShow→GState→Option Bool}(hrec:∀ {s:GShow} {v1:GState} {res:Bool},rec s v1=some res→ao Tryz.prog 237 [.agg (GShow.encS s),.agg (GState.encS v1)] [] (.lit (.bool res)) []){s:GShow}{v1:GState}{res:Bool}(h:kc rec s v1=some res):ao Tryz.prog 237 [.agg (GShow.encS s),.agg (GState.encS v1)] [] (.lit (.bool res)) []:=by
 refine aj (ra:=[]) (md:=mdT) hT (hi:=Fh) Tryz.func237 rfl rfl (by decide +kernel) (by simp) ?_
 unfold kc at h
 obtain ⟨r1001,g1,h⟩:=ae h
 simp(config:=cS)only[go_sem]
 refine ag (sS g1) ?_
 obtain ⟨h2,h⟩|⟨h2,h⟩:=af h
 ·cases h
  simp(config:=cS)only[go_sem,eZt h2]
 ·obtain ⟨r1002,g3,h⟩:=ae h
  simp(config:=cS)only[go_sem,eZf h2]
  refine ag (uv g3) ?_
  obtain ⟨h4,h⟩|⟨h4,h⟩:=af h
  ·cases h
   simp(config:=cS)only[go_sem,eZt h4]
  ·obtain ⟨r1003,g5,h⟩:=ae h
   simp(config:=cS)only[go_sem,eZf h4]
   refine ag (wq g5) ?_
   obtain ⟨h6,h⟩|⟨h6,h⟩:=af h
   ·cases h
    simp(config:=cS)only[go_sem,eZt h6]
   ·obtain ⟨r1004,g7,h⟩:=ae h
    simp(config:=cS)only[go_sem,eZf h6]
    refine ag (sd g7) ?_
    obtain ⟨q1009,l8,h⟩:=ae h
    simp(config:=cS)only[go_sem]
    refine an (m1:=.mk) (m2:=.mk) [.nf [2,3,5,6,7] [128,192,1280,1281]] (qR s.nodes s.ties s.horizon v1.now v1.times v1.values r1004.1 r1004.2) l8 ?_ ?_
    ·simp(config:=cS)only[go_sem]
    ·intro nb9 sb9 bb9 b9 gb9
     obtain ⟨n_1,eb9⟩:∃ v,v=sb9:=⟨_,rfl⟩;subst eb9
     unfold gx at b9
     try dsimp only at b9
     obtain ⟨h10,b9⟩:=ah b9
     obtain ⟨h11,b9⟩|⟨h11,b9⟩:=af b9
     ·obtain ⟨r1005,g12,b9⟩:=ae b9
      simp(config:=cS)only[go_sem,eqF h10,eqT h11]
      refine ag (nr g12) ?_
      obtain ⟨r1006,g13,b9⟩:=ae b9
      simp(config:=cS)only[go_sem]
      refine ag (tH g13) ?_
      obtain ⟨r1007,g14,b9⟩:=ae b9
      simp(config:=cS)only[go_sem]
      refine ag (vy g14) ?_
      obtain ⟨r1008,g15,b9⟩:=ae b9
      simp(config:=cS)only[go_sem]
      refine ag (AW @hrec g15) ?_
      obtain ⟨h16,b9⟩|⟨h16,b9⟩:=af b9
      ·cases b9
       simp(config:=cS)only[go_sem,eZt h16]
       refine ap gb9 ?_
       simp(config:=cS)only[go_sem]
      ·cases b9
       have e17:=(ak gb9).symm
       subst e17
       try dsimp only at h
       cases h
       simp(config:=cS)only[go_sem,eZf h16]
     ·cases b9
      have e18:=(ak gb9).symm
      subst e18
      try dsimp only at h
      cases h
      simp(config:=cS)only[go_sem,eqF h10,eqF h11]
theorem wu (n:Nat):∀ {s:GShow} {v1:GState} {res:Bool},kd n s v1=some res→ao Tryz.prog 237 [.agg (GShow.encS s),.agg (GState.encS v1)] [] (.lit (.bool res)) []:=by
 induction n with
 | zero=>intro _ _ _ h;cases h
 | succ n ih=>intro _ _ _ h;exact AX (@ih) h
theorem Em {s:GShow}{v1:GState}{res:Bool}(h:m_spec_l15Win s v1=some res):ao Tryz.prog 237 [.agg (GShow.encS s),.agg (GState.encS v1)] [] (.lit (.bool res)) []:=wu 40 h
theorem ux {s:GShow}{v1:GState}{nodes:List Int}{res:Bool}(h:nz s v1 nodes=some res):ao Tryz.prog 191 [.agg (GShow.encS s),.agg (GState.encS v1),.sl (ab eI nodes)] [] (.lit (.bool res)) []:=sT (@Em) h
def oh (without:Int)(v16:Int)(d_0:List GNode)(d_1:List GTie)(d_2:Int)(d_3:Int)(d_4:List Int)(d_5:List Int)(d_6:Bool)(d_7:List GEntry)(y_0:Int)(y_1:List Int)(y_2:List Int)(l:List (List Int))(v17:Int):St:=⟨[(2,.lit (.int .i64 without)),(3,.ptr 192 1 0 0),(4,.ptr 256 1 0 0),(8,.ref 896 1 0 l.length),(16,.lit (.int .i64 v16)),(17,.lit (.int .i64 v17))],[(192,1,.var [.sl (ab GNode.encS d_0),.sl (ab GTie.enc d_1),.lit (.int .i64 d_2),.lit (.int .i64 d_3),.sl (ab eI d_4),.sl (ab eI d_5),.lit (.bool d_6),.sl (ab GEntry.encS d_7)]),(256,1,.var [.lit (.int .i64 y_0),.sl (ab eI y_1),.sl (ab eI y_2)]),(896,1,.tree (ab (eLS eI) l))],2⟩
attribute [go_sem] oh
def Ki:Hint where
 acts:=fun _=>[]
 draws:=fun
  | _=>⟨.nil,[],[]⟩
@[go_sem] theorem aaT (i:Nat):Ki.acts i=[]:=rfl
theorem Tv (i:Nat):Ki.views i=none:=rfl
attribute [go_sem] Tv Tryz.ntmps121 Tryz.results121
theorem yW {d:GDesk}{y:GState}{without:Int}{res:(List Int) × Bool}(h:ju d y without=some res):ao Tryz.prog 121 [.agg (GDesk.encS d),.agg (GState.encS y),.lit (.int .i64 without)] [] (.tup [.ref 20000 1 0 res.1.length,.lit (.bool res.2)]) [(20000,1,.row true (ab eI res.1))]:=by
 refine aj (ra:=[.home 6]) (md:=mdT) hT (hi:=Ki) Tryz.func121 rfl rfl (by decide +kernel) (by simp) ?_
 unfold ju at h
 obtain ⟨r1001,g1,h⟩:=ae h
 simp(config:=cS)only[go_sem]
 refine ag (rK g1) ?_
 obtain ⟨q1008,l2,h⟩:=ae h
 simp(config:=cS)only[go_sem]
 refine an (m1:=.mk) (m2:=.mk) [.freeze [896],.nf [2,3,4,8,16,17] [192,256,896]] (oh without ((r1001.length:Nat):Int) d.show_.nodes d.show_.ties d.show_.horizon d.state.now d.state.times d.state.values d.lazy d.log y.now y.times y.values r1001) l2 ?_ ?_
 ·simp(config:=cS)only[go_sem]
 ·intro nb3 sb3 bb3 b3 gb3
  obtain ⟨v17_1,eb3⟩:∃ v,v=sb3:=⟨_,rfl⟩;subst eb3
  unfold dR at b3
  try dsimp only at b3
  obtain ⟨h4,b3⟩|⟨h4,b3⟩:=af b3
  ·obtain ⟨x1002,g5,b3⟩:=ae b3
   obtain ⟨h6,h7,h8⟩:=ai g5
   obtain ⟨h9,b3⟩|⟨h9,b3⟩:=af b3
   ·obtain ⟨x1003,g10,b3⟩:=ae b3
    obtain ⟨h11,h12,h13⟩:=ai g10
    obtain ⟨r1004,g14,b3⟩:=ae b3
    simp(config:=cS)only[go_sem,eqT h4,h6,h7,h8,eZt h9,h11,h12,h13]
    refine ag (jF g14) ?_
    obtain ⟨h15,b3⟩|⟨h15,b3⟩:=af b3
    ·cases b3
     simp(config:=cS)only[go_sem,eqT h4,h6,h7,h8,eZt h9,h11,h12,h13,eZt h15]
     refine ap gb3 ?_
     simp(config:=cS)only[go_sem,eqT h4,h6,h7,h8,eZt h9,h11,h12,h13,eZt h15]
    ·obtain ⟨r1005,g16,b3⟩:=ae b3
     simp(config:=cS)only[go_sem,eqT h4,h6,h7,h8,eZt h9,h11,h12,h13,eZf h15]
     refine ag (ux g16) ?_
     obtain ⟨h17,b3⟩|⟨h17,b3⟩:=af b3
     ·obtain ⟨h18,b3⟩:=ah b3
      obtain ⟨h19,b3⟩:=ah b3
      cases b3
      have e20:=(ak gb3).symm
      subst e20
      try dsimp only at h
      cases h
      simp(config:=cS)only[go_sem,eqT h4,h6,h7,h8,eZt h9,h11,h12,h13,eZf h15,eZt h17,eqT h18,eqT h19]
     ·cases b3
      simp(config:=cS)only[go_sem,eqT h4,h6,h7,h8,eZt h9,h11,h12,h13,eZf h15,eZf h17]
      refine ap gb3 ?_
      simp(config:=cS)only[go_sem,eqT h4,h6,h7,h8,eZt h9,h11,h12,h13,eZf h15,eZf h17]
   ·obtain ⟨r1006,g21,b3⟩:=ae b3
    simp(config:=cS)only[go_sem,eqT h4,h6,h7,h8,eZf h9]
    refine ag (jF g21) ?_
    obtain ⟨h22,b3⟩|⟨h22,b3⟩:=af b3
    ·cases b3
     simp(config:=cS)only[go_sem,eqT h4,h6,h7,h8,eZf h9,eZt h22]
     refine ap gb3 ?_
     simp(config:=cS)only[go_sem,eqT h4,h6,h7,h8,eZf h9,eZt h22]
    ·obtain ⟨r1007,g23,b3⟩:=ae b3
     simp(config:=cS)only[go_sem,eqT h4,h6,h7,h8,eZf h9,eZf h22]
     refine ag (ux g23) ?_
     obtain ⟨h24,b3⟩|⟨h24,b3⟩:=af b3
     ·obtain ⟨h25,b3⟩:=ah b3
      obtain ⟨h26,b3⟩:=ah b3
      cases b3
      have e27:=(ak gb3).symm
      subst e27
      try dsimp only at h
      cases h
      simp(config:=cS)only[go_sem,eqT h4,h6,h7,h8,eZf h9,eZf h22,eZt h24,eqT h25,eqT h26]
     ·cases b3
      simp(config:=cS)only[go_sem,eqT h4,h6,h7,h8,eZf h9,eZf h22,eZf h24]
      refine ap gb3 ?_
      simp(config:=cS)only[go_sem,eqT h4,h6,h7,h8,eZf h9,eZf h22,eZf h24]
  ·cases b3
   have e28:=(ak gb3).symm
   subst e28
   try dsimp only at h
   cases h
   simp(config:=cS)only[go_sem,eqF h4]
def iM (v14:List GNode)(v15:Int)(out_2:Int)(h384:List GTie):(Int × (List GNode))→St
 | (v16,h100012288)=>⟨[(2,.ptr 128 1 0 0),(3,.ptr 192 1 0 0),(14,.sl (ab GNode.encS v14)),(15,.lit (.int .i64 v15)),(16,.lit (.int .i64 v16))],[(128,1,.var [.lit (.slice none 0 0),.lit (.slice none 0 0),.lit (.int .i64 0)]),(192,1,.var [.ref 100012288 1 0 h100012288.length,.ref 384 1 0 h384.length,.lit (.int .i64 out_2)]),(100012288,1,.row true (ab GNode.encO h100012288)),(384,1,.row true (ab GTie.enc h384))],2⟩
attribute [go_sem] iM
@[go_sem] def hi175_5:DT:=.i1 0 (.i1 1 (.i1 2 (.i1 3 (.i1 5 (.i1 6 (.i1 8 (.i1 9 (.i0 4 [0,1,2,3,5,6,8,9] (.i0 7 [0,1,2,3,8,9] (.i2 10 (.i0 11 [0,1] (.i2 12 (.i2 13 (.i2 14 .nil))))))))))))))
@[go_sem] def hi175_1:DT:=.i1 1 (.i1 2 (.i1 4 (.i1 5 (.fork (.i0 0 [1,2,4,5] (.fork (.i0 3 [4,5] (.i2 6 (.i0 7 [1,2,4,5] (.i2 8 .nil)))) (.i0 7 [1,2,4,5] (.i0 3 [4,5] (.i2 6 (.i2 8 .nil)))))) (.i0 7 [1,2,4,5] (.i0 0 [1,2,4,5] (.i0 3 [4,5] (.i2 6 (.i2 8 .nil)))))))))
def AY:Hint where
 acts:=fun _=>[]
 draws:=fun
  | 1=>⟨hi175_1,[[],[],[1],[0,1,2],[],[4],.range 6,[],.range 8],.range 9⟩
  | 5=>⟨hi175_5,[[],[0],[],[2],[],[],[5],[4,5,6],[],[8],[2,3,4,5,6,7,8,9],[2,3,4,5,6,7,8,9,10],.range 12,.range 13,.range 14],.range 15⟩
  | _=>⟨.nil,[],[]⟩
theorem Tw (i:Nat):AY.acts i=[]:=rfl
theorem Tx (i:Nat):AY.views i=none:=rfl
attribute [go_sem] Tw Tx Tryz.ntmps175 Tryz.results175
@[go_sem] theorem ZZ:(AY.draws 1).order=hi175_1:=rfl
@[go_sem] theorem aaa:(AY.draws 5).order=hi175_5:=rfl
theorem uy {s:GShow}{res:GShow}(h:lb s=some res):ao Tryz.prog 175 [.agg (GShow.encS s)] [] (.agg [.ref 20000 1 0 res.nodes.length,.ref 20001 1 0 res.ties.length,.lit (.int .i64 res.horizon)]) [(20000,1,.row true (ab GNode.encO res.nodes)),(20001,1,.row true (ab GTie.enc res.ties))]:=by
 refine aj (ra:=[.homeCell 128 0,.homeCell 128 1]) (md:=mdT) hT (hi:=AY) Tryz.func175 rfl rfl (by decide +kernel) (by simp) ?_
 unfold lb at h
 try simp(config:=cS)only[go_sem]
 refine bn ?_ ?_
 ·try simp(config:=cS)only[go_sem]
  refine bn ?_ ?_
  ·obtain ⟨h1,h⟩:=ah h
   obtain ⟨h2,h⟩:=ah h
   obtain ⟨q1002,l3,h⟩:=ae h
   simp(config:=cS)only[go_sem,eqT h1,eqT h2]
   refine an (m1:=.mk) (m2:=.mk) [.homeCell 192 0,.nf [2,3,14,15,16] [128,192,100012288,384]] (iM s.nodes ((s.nodes.length:Nat):Int) s.horizon s.ties) l3 ?_ ?_
   ·simp(config:=cS)only[go_sem]
   ·intro nb4 sb4 bb4 b4 gb4
    obtain ⟨v16_1,h100012288_1⟩:=sb4
    unfold dD at b4
    try dsimp only at b4
    obtain ⟨h5,b4⟩|⟨h5,b4⟩:=af b4
    ·obtain ⟨x1001,g6,b4⟩:=ae b4
     obtain ⟨h7,h8,h9⟩:=ai g6
     obtain ⟨h10,b4⟩:=ah b4
     obtain ⟨h11,b4⟩:=ah b4
     obtain ⟨h12,b4⟩:=ah b4
     obtain ⟨h13,b4⟩:=ah b4
     cases b4
     simp(config:=cS)only[go_sem,eqT h5,h7,h8,h9,eqT h10,eqT h11,eqT h12,eqT h13]
     refine ap gb4 ?_
     simp(config:=cS)only[go_sem]
    ·cases b4
     have e14:=(ak gb4).symm
     subst e14
     try dsimp only at h
     cases h
     simp(config:=cS)only[go_sem,eqF h5]
  ·obtain ⟨h15,h⟩:=ah h
   obtain ⟨h16,h⟩:=ah h
   obtain ⟨q1004,l17,h⟩:=ae h
   simp(config:=cS)only[go_sem,eqT h15,eqT h16]
   refine an (m1:=.mk) (m2:=.mk) [.homeCell 192 0,.nf [2,3,14,15,16] [128,192,100012288,384]] (iM s.nodes ((s.nodes.length:Nat):Int) s.horizon s.ties) l17 ?_ ?_
   ·simp(config:=cS)only[go_sem]
   ·intro nb18 sb18 bb18 b18 gb18
    obtain ⟨v16_2,h100012288_2⟩:=sb18
    unfold dD at b18
    try dsimp only at b18
    obtain ⟨h19,b18⟩|⟨h19,b18⟩:=af b18
    ·obtain ⟨x1003,g20,b18⟩:=ae b18
     obtain ⟨h21,h22,h23⟩:=ai g20
     obtain ⟨h24,b18⟩:=ah b18
     obtain ⟨h25,b18⟩:=ah b18
     obtain ⟨h26,b18⟩:=ah b18
     obtain ⟨h27,b18⟩:=ah b18
     cases b18
     simp(config:=cS)only[go_sem,eqT h19,h21,h22,h23,eqT h24,eqT h25,eqT h26,eqT h27]
     refine ap gb18 ?_
     simp(config:=cS)only[go_sem]
    ·cases b18
     have e28:=(ak gb18).symm
     subst e28
     try dsimp only at h
     cases h
     simp(config:=cS)only[go_sem,eqF h19]
 ·obtain ⟨h29,h⟩:=ah h
  obtain ⟨h30,h⟩:=ah h
  obtain ⟨q1006,l31,h⟩:=ae h
  simp(config:=cS)only[go_sem,eqT h29,eqT h30]
  refine an (m1:=.mk) (m2:=.mk) [.homeCell 192 0,.nf [2,3,14,15,16] [128,192,100012288,384]] (iM s.nodes ((s.nodes.length:Nat):Int) s.horizon s.ties) l31 ?_ ?_
  ·simp(config:=cS)only[go_sem]
  ·intro nb32 sb32 bb32 b32 gb32
   obtain ⟨v16_3,h100012288_3⟩:=sb32
   unfold dD at b32
   try dsimp only at b32
   obtain ⟨h33,b32⟩|⟨h33,b32⟩:=af b32
   ·obtain ⟨x1005,g34,b32⟩:=ae b32
    obtain ⟨h35,h36,h37⟩:=ai g34
    obtain ⟨h38,b32⟩:=ah b32
    obtain ⟨h39,b32⟩:=ah b32
    obtain ⟨h40,b32⟩:=ah b32
    obtain ⟨h41,b32⟩:=ah b32
    cases b32
    simp(config:=cS)only[go_sem,eqT h33,h35,h36,h37,eqT h38,eqT h39,eqT h40,eqT h41]
    refine ap gb32 ?_
    simp(config:=cS)only[go_sem]
   ·cases b32
    have e42:=(ak gb32).symm
    subst e42
    try dsimp only at h
    cases h
    simp(config:=cS)only[go_sem,eqF h33]
@[go_sem] def hi188_1:DT:=.i1 0 (.i1 1 (.i1 3 (.i1 4 (.i1 7 (.i1 8 (.i1 11 (.i1 12 (.fork (.i0 2 [0,1,3,4,7,8,11,12] (.fork (.i0 5 [0,1,7,8,11,12] (.fork (.i0 6 [0,1,3,4,7,8,11,12] (.fork (.i0 9 [0,1,11,12] (.i0 10 [0,1,3,4,7,8,11,12] (.i0 13 [0,1] (.i2 14 (.i2 15 .nil))))) (.i0 10 [0,1,3,4,7,8,11,12] (.i0 9 [0,1,11,12] (.i0 13 [0,1] (.i2 14 (.i2 15 .nil))))))) (.i0 10 [0,1,3,4,7,8,11,12] (.i0 6 [0,1,3,4,7,8,11,12] (.i0 9 [0,1,11,12] (.i0 13 [0,1] (.i2 14 (.i2 15 .nil)))))))) (.fork (.i0 6 [0,1,3,4,7,8,11,12] (.fork (.i0 5 [0,1,7,8,11,12] (.fork (.i0 9 [0,1,11,12] (.i0 10 [0,1,3,4,7,8,11,12] (.i0 13 [0,1] (.i2 14 (.i2 15 .nil))))) (.i0 10 [0,1,3,4,7,8,11,12] (.i0 9 [0,1,11,12] (.i0 13 [0,1] (.i2 14 (.i2 15 .nil))))))) (.i0 10 [0,1,3,4,7,8,11,12] (.i0 5 [0,1,7,8,11,12] (.i0 9 [0,1,11,12] (.i0 13 [0,1] (.i2 14 (.i2 15 .nil)))))))) (.i0 10 [0,1,3,4,7,8,11,12] (.fork (.i0 5 [0,1,7,8,11,12] (.i0 6 [0,1,3,4,7,8,11,12] (.i0 9 [0,1,11,12] (.i0 13 [0,1] (.i2 14 (.i2 15 .nil)))))) (.i0 6 [0,1,3,4,7,8,11,12] (.i0 5 [0,1,7,8,11,12] (.i0 9 [0,1,11,12] (.i0 13 [0,1] (.i2 14 (.i2 15 .nil))))))))))) (.fork (.i0 6 [0,1,3,4,7,8,11,12] (.fork (.i0 2 [0,1,3,4,7,8,11,12] (.fork (.i0 5 [0,1,7,8,11,12] (.fork (.i0 9 [0,1,11,12] (.i0 10 [0,1,3,4,7,8,11,12] (.i0 13 [0,1] (.i2 14 (.i2 15 .nil))))) (.i0 10 [0,1,3,4,7,8,11,12] (.i0 9 [0,1,11,12] (.i0 13 [0,1] (.i2 14 (.i2 15 .nil))))))) (.i0 10 [0,1,3,4,7,8,11,12] (.i0 5 [0,1,7,8,11,12] (.i0 9 [0,1,11,12] (.i0 13 [0,1] (.i2 14 (.i2 15 .nil)))))))) (.i0 10 [0,1,3,4,7,8,11,12] (.i0 2 [0,1,3,4,7,8,11,12] (.i0 5 [0,1,7,8,11,12] (.i0 9 [0,1,11,12] (.i0 13 [0,1] (.i2 14 (.i2 15 .nil))))))))) (.i0 10 [0,1,3,4,7,8,11,12] (.fork (.i0 2 [0,1,3,4,7,8,11,12] (.fork (.i0 5 [0,1,7,8,11,12] (.i0 6 [0,1,3,4,7,8,11,12] (.i0 9 [0,1,11,12] (.i0 13 [0,1] (.i2 14 (.i2 15 .nil)))))) (.i0 6 [0,1,3,4,7,8,11,12] (.i0 5 [0,1,7,8,11,12] (.i0 9 [0,1,11,12] (.i0 13 [0,1] (.i2 14 (.i2 15 .nil)))))))) (.i0 6 [0,1,3,4,7,8,11,12] (.i0 2 [0,1,3,4,7,8,11,12] (.i0 5 [0,1,7,8,11,12] (.i0 9 [0,1,11,12] (.i0 13 [0,1] (.i2 14 (.i2 15 .nil))))))))))))))))))
def Fi:Hint where
 acts:=fun _=>[]
 draws:=fun
  | 1=>⟨hi188_1,[[],[0],[],[],[3],[2,3,4],[],[],[7],[2,3,4,5,6,7,8],[],[],[11],[2,3,4,5,6,7,8,9,10,11,12],.range 14,.range 15],.range 16⟩
  | _=>⟨.nil,[],[]⟩
theorem Tz (i:Nat):Fi.acts i=[]:=rfl
theorem TA (i:Nat):Fi.views i=none:=rfl
attribute [go_sem] Tz TA Tryz.ntmps188 Tryz.results188
@[go_sem] theorem aab:(Fi.draws 1).order=hi188_1:=rfl
theorem qj {e:GEntry}{res:GEntry}(h:mF e=some res):ao Tryz.prog 188 [.agg (GEntry.encS e)] [] (.agg [.lit (.int .i64 res.now),.ref 20000 1 0 res.ties.length,.ref 20001 1 0 res.nodes.length,.ref 20002 1 0 res.values.length]) [(20000,1,.row true (ab eI res.ties)),(20001,1,.row true (ab eI res.nodes)),(20002,1,.row true (ab eI res.values))]:=by
 refine aj (ra:=[.homeCell 128 1,.homeCell 128 2,.homeCell 128 3]) (md:=mdT) hT (hi:=Fi) Tryz.func188 rfl rfl (by decide +kernel) (by simp) ?_
 unfold mF at h
 try simp(config:=cS)only[go_sem]
 refine bn ?_ ?_
 ·try simp(config:=cS)only[go_sem]
  refine bn ?_ ?_
  ·obtain ⟨h1,h⟩:=ah h
   obtain ⟨h2,h⟩:=ah h
   try simp(config:=cS)only[go_sem,eqT h1,eqT h2]
   refine bn ?_ ?_
   ·try simp(config:=cS)only[go_sem]
    refine bn ?_ ?_
    ·obtain ⟨h3,h⟩:=ah h
     obtain ⟨h4,h⟩:=ah h
     obtain ⟨h5,h⟩:=ah h
     obtain ⟨h6,h⟩:=ah h
     cases h
     simp(config:=cS)only[go_sem,eqT h3,eqT h4,eqT h5,eqT h6]
    ·obtain ⟨h7,h⟩:=ah h
     obtain ⟨h8,h⟩:=ah h
     obtain ⟨h9,h⟩:=ah h
     obtain ⟨h10,h⟩:=ah h
     cases h
     simp(config:=cS)only[go_sem,eqT h7,eqT h8,eqT h9,eqT h10]
   ·obtain ⟨h11,h⟩:=ah h
    obtain ⟨h12,h⟩:=ah h
    obtain ⟨h13,h⟩:=ah h
    obtain ⟨h14,h⟩:=ah h
    cases h
    simp(config:=cS)only[go_sem,eqT h11,eqT h12,eqT h13,eqT h14]
  ·try simp(config:=cS)only[go_sem]
   refine bn ?_ ?_
   ·try simp(config:=cS)only[go_sem]
    refine bn ?_ ?_
    ·obtain ⟨h15,h⟩:=ah h
     obtain ⟨h16,h⟩:=ah h
     try simp(config:=cS)only[go_sem,eqT h15,eqT h16]
     refine bn ?_ ?_
     ·obtain ⟨h17,h⟩:=ah h
      obtain ⟨h18,h⟩:=ah h
      obtain ⟨h19,h⟩:=ah h
      obtain ⟨h20,h⟩:=ah h
      cases h
      simp(config:=cS)only[go_sem,eqT h17,eqT h18,eqT h19,eqT h20]
     ·obtain ⟨h21,h⟩:=ah h
      obtain ⟨h22,h⟩:=ah h
      obtain ⟨h23,h⟩:=ah h
      obtain ⟨h24,h⟩:=ah h
      cases h
      simp(config:=cS)only[go_sem,eqT h21,eqT h22,eqT h23,eqT h24]
    ·obtain ⟨h25,h⟩:=ah h
     obtain ⟨h26,h⟩:=ah h
     obtain ⟨h27,h⟩:=ah h
     obtain ⟨h28,h⟩:=ah h
     obtain ⟨h29,h⟩:=ah h
     obtain ⟨h30,h⟩:=ah h
     cases h
     simp(config:=cS)only[go_sem,eqT h25,eqT h26,eqT h27,eqT h28,eqT h29,eqT h30]
   ·try simp(config:=cS)only[go_sem]
    refine bn ?_ ?_
    ·obtain ⟨h31,h⟩:=ah h
     obtain ⟨h32,h⟩:=ah h
     obtain ⟨h33,h⟩:=ah h
     obtain ⟨h34,h⟩:=ah h
     obtain ⟨h35,h⟩:=ah h
     obtain ⟨h36,h⟩:=ah h
     cases h
     simp(config:=cS)only[go_sem,eqT h31,eqT h32,eqT h33,eqT h34,eqT h35,eqT h36]
    ·obtain ⟨h37,h⟩:=ah h
     obtain ⟨h38,h⟩:=ah h
     obtain ⟨h39,h⟩:=ah h
     obtain ⟨h40,h⟩:=ah h
     obtain ⟨h41,h⟩:=ah h
     obtain ⟨h42,h⟩:=ah h
     cases h
     simp(config:=cS)only[go_sem,eqT h37,eqT h38,eqT h39,eqT h40,eqT h41,eqT h42]
 ·try simp(config:=cS)only[go_sem]
  refine bn ?_ ?_
  ·try simp(config:=cS)only[go_sem]
   refine bn ?_ ?_
   ·try simp(config:=cS)only[go_sem]
    refine bn ?_ ?_
    ·obtain ⟨h43,h⟩:=ah h
     obtain ⟨h44,h⟩:=ah h
     try simp(config:=cS)only[go_sem,eqT h43,eqT h44]
     refine bn ?_ ?_
     ·obtain ⟨h45,h⟩:=ah h
      obtain ⟨h46,h⟩:=ah h
      obtain ⟨h47,h⟩:=ah h
      obtain ⟨h48,h⟩:=ah h
      cases h
      simp(config:=cS)only[go_sem,eqT h45,eqT h46,eqT h47,eqT h48]
     ·obtain ⟨h49,h⟩:=ah h
      obtain ⟨h50,h⟩:=ah h
      obtain ⟨h51,h⟩:=ah h
      obtain ⟨h52,h⟩:=ah h
      cases h
      simp(config:=cS)only[go_sem,eqT h49,eqT h50,eqT h51,eqT h52]
    ·obtain ⟨h53,h⟩:=ah h
     obtain ⟨h54,h⟩:=ah h
     obtain ⟨h55,h⟩:=ah h
     obtain ⟨h56,h⟩:=ah h
     obtain ⟨h57,h⟩:=ah h
     obtain ⟨h58,h⟩:=ah h
     cases h
     simp(config:=cS)only[go_sem,eqT h53,eqT h54,eqT h55,eqT h56,eqT h57,eqT h58]
   ·obtain ⟨h59,h⟩:=ah h
    obtain ⟨h60,h⟩:=ah h
    obtain ⟨h61,h⟩:=ah h
    obtain ⟨h62,h⟩:=ah h
    obtain ⟨h63,h⟩:=ah h
    obtain ⟨h64,h⟩:=ah h
    cases h
    simp(config:=cS)only[go_sem,eqT h59,eqT h60,eqT h61,eqT h62,eqT h63,eqT h64]
  ·try simp(config:=cS)only[go_sem]
   refine bn ?_ ?_
   ·try simp(config:=cS)only[go_sem]
    refine bn ?_ ?_
    ·obtain ⟨h65,h⟩:=ah h
     obtain ⟨h66,h⟩:=ah h
     obtain ⟨h67,h⟩:=ah h
     obtain ⟨h68,h⟩:=ah h
     obtain ⟨h69,h⟩:=ah h
     obtain ⟨h70,h⟩:=ah h
     cases h
     simp(config:=cS)only[go_sem,eqT h65,eqT h66,eqT h67,eqT h68,eqT h69,eqT h70]
    ·obtain ⟨h71,h⟩:=ah h
     obtain ⟨h72,h⟩:=ah h
     obtain ⟨h73,h⟩:=ah h
     obtain ⟨h74,h⟩:=ah h
     obtain ⟨h75,h⟩:=ah h
     obtain ⟨h76,h⟩:=ah h
     cases h
     simp(config:=cS)only[go_sem,eqT h71,eqT h72,eqT h73,eqT h74,eqT h75,eqT h76]
   ·obtain ⟨h77,h⟩:=ah h
    obtain ⟨h78,h⟩:=ah h
    obtain ⟨h79,h⟩:=ah h
    obtain ⟨h80,h⟩:=ah h
    obtain ⟨h81,h⟩:=ah h
    obtain ⟨h82,h⟩:=ah h
    cases h
    simp(config:=cS)only[go_sem,eqT h77,eqT h78,eqT h79,eqT h80,eqT h81,eqT h82]
def iN (v16:List GEntry)(v17:Int)(out_2:Int)(out_3:Int)(out_6:Bool)(h512:List GNode)(h513:List GTie)(h704:List Int)(h705:List Int):(Int × (List GEntry))→St
 | (v18,h100012295)=>⟨[(2,.ptr 128 1 0 0),(3,.ptr 192 1 0 0),(16,.sl (ab GEntry.encS v16)),(17,.lit (.int .i64 v17)),(18,.lit (.int .i64 v18))],[(128,1,.var [.lit (.slice none 0 0),.lit (.slice none 0 0),.lit (.int .i64 0),.lit (.int .i64 0),.lit (.slice none 0 0),.lit (.slice none 0 0),.lit (.bool false),.lit (.slice none 0 0)]),(192,1,.var [.ref 512 1 0 h512.length,.ref 513 1 0 h513.length,.lit (.int .i64 out_2),.lit (.int .i64 out_3),.ref 704 1 0 h704.length,.ref 705 1 0 h705.length,.lit (.bool out_6),.ref 100012295 1 0 h100012295.length]),(512,1,.row true (ab GNode.encO h512)),(513,1,.row true (ab GTie.enc h513)),(704,1,.row true (ab eI h704)),(705,1,.row true (ab eI h705)),(100012295,1,.row true (ab GEntry.encO h100012295))],2⟩
attribute [go_sem] iN
@[go_sem] def hi109_5:DT:=.i1 0 (.i1 1 (.i2 2 (.i0 3 [0,1] (.i0 4 [0,1] (.i2 5 (.i2 6 (.i2 7 .nil)))))))
@[go_sem] def hi109_1:DT:=.i1 0 (.i1 1 (.i1 3 (.i1 4 (.i1 6 (.i1 7 (.fork (.i0 2 [3,4,6,7] (.fork (.i0 5 [6,7] (.i2 8 (.i0 9 [0,1,3,4,6,7] (.i2 10 .nil)))) (.i0 9 [0,1,3,4,6,7] (.i0 5 [6,7] (.i2 8 (.i2 10 .nil)))))) (.i0 9 [0,1,3,4,6,7] (.i0 2 [3,4,6,7] (.i0 5 [6,7] (.i2 8 (.i2 10 .nil)))))))))))
def AZ:Hint where
 acts:=fun _=>[]
 draws:=fun
  | 1=>⟨hi109_1,[[],[0],[0,1],[],[3],.range 5,[],[6],.range 8,[],.range 10],.range 11⟩
  | 5=>⟨hi109_5,[[],[0],[],[2],[2,3],.range 5,.range 6,.range 7],.range 8⟩
  | _=>⟨.nil,[],[]⟩
theorem TB (i:Nat):AZ.acts i=[]:=rfl
theorem TC (i:Nat):AZ.views i=none:=rfl
attribute [go_sem] TB TC Tryz.ntmps109 Tryz.results109
@[go_sem] theorem aac:(AZ.draws 1).order=hi109_1:=rfl
@[go_sem] theorem aad:(AZ.draws 5).order=hi109_5:=rfl
theorem rl {d:GDesk}{res:GDesk}(h:gy d=some res):ao Tryz.prog 109 [.agg (GDesk.encS d)] [] (.agg [.ref 20000 1 0 res.show_.nodes.length,.ref 20001 1 0 res.show_.ties.length,.lit (.int .i64 res.show_.horizon),.lit (.int .i64 res.state.now),.ref 20002 1 0 res.state.times.length,.ref 20003 1 0 res.state.values.length,.lit (.bool res.lazy),.ref 20004 1 0 res.log.length]) [(20000,1,.row true (ab GNode.encO res.show_.nodes)),(20001,1,.row true (ab GTie.enc res.show_.ties)),(20002,1,.row true (ab eI res.state.times)),(20003,1,.row true (ab eI res.state.values)),(20004,1,.row true (ab GEntry.encO res.log))]:=by
 refine aj (ra:=[.homeCell 128 0,.homeCell 128 1,.homeCell 128 4,.homeCell 128 5,.homeCell 128 7]) (md:=mdT) hT (hi:=AZ) Tryz.func109 rfl rfl (by decide +kernel) (by simp) ?_
 unfold gy at h
 try simp(config:=cS)only[go_sem]
 refine bn ?_ ?_
 ·obtain ⟨r1001,g1,h⟩:=ae h
  simp(config:=cS)only[go_sem]
  refine ag (uy g1) ?_
  try simp(config:=cS)only[go_sem]
  refine bn ?_ ?_
  ·obtain ⟨r1002,g2,h⟩:=ae h
   simp(config:=cS)only[go_sem]
   refine ag (gi g2) ?_
   obtain ⟨q1005,l3,h⟩:=ae h
   simp(config:=cS)only[go_sem]
   refine an (m1:=.mk) (m2:=.mk) [.homeCell 192 7,.nf [2,3,16,17,18] [128,192,512,513,704,705,100012295]] (iN d.log ((d.log.length:Nat):Int) r1001.horizon r1002.now d.lazy r1001.nodes r1001.ties r1002.times r1002.values) l3 ?_ ?_
   ·simp(config:=cS)only[go_sem]
   ·intro nb4 sb4 bb4 b4 gb4
    obtain ⟨v18_1,h100012295_1⟩:=sb4
    unfold dE at b4
    try dsimp only at b4
    obtain ⟨h5,b4⟩|⟨h5,b4⟩:=af b4
    ·obtain ⟨x1003,g6,b4⟩:=ae b4
     obtain ⟨h7,h8,h9⟩:=ai g6
     obtain ⟨r1004,g10,b4⟩:=ae b4
     simp(config:=cS)only[go_sem,eqT h5,h7,h8,h9]
     refine ag (qj g10) ?_
     obtain ⟨h11,b4⟩:=ah b4
     obtain ⟨h12,b4⟩:=ah b4
     cases b4
     simp(config:=cS)only[go_sem,eqT h11,eqT h12]
     refine ap gb4 ?_
     simp(config:=cS)only[go_sem]
    ·cases b4
     have e13:=(ak gb4).symm
     subst e13
     try dsimp only at h
     cases h
     simp(config:=cS)only[go_sem,eqF h5]
  ·obtain ⟨r1006,g14,h⟩:=ae h
   simp(config:=cS)only[go_sem]
   refine ag (gi g14) ?_
   obtain ⟨q1009,l15,h⟩:=ae h
   simp(config:=cS)only[go_sem]
   refine an (m1:=.mk) (m2:=.mk) [.homeCell 192 7,.nf [2,3,16,17,18] [128,192,512,513,704,705,100012295]] (iN d.log ((d.log.length:Nat):Int) r1001.horizon r1006.now d.lazy r1001.nodes r1001.ties r1006.times r1006.values) l15 ?_ ?_
   ·simp(config:=cS)only[go_sem]
   ·intro nb16 sb16 bb16 b16 gb16
    obtain ⟨v18_2,h100012295_2⟩:=sb16
    unfold dE at b16
    try dsimp only at b16
    obtain ⟨h17,b16⟩|⟨h17,b16⟩:=af b16
    ·obtain ⟨x1007,g18,b16⟩:=ae b16
     obtain ⟨h19,h20,h21⟩:=ai g18
     obtain ⟨r1008,g22,b16⟩:=ae b16
     simp(config:=cS)only[go_sem,eqT h17,h19,h20,h21]
     refine ag (qj g22) ?_
     obtain ⟨h23,b16⟩:=ah b16
     obtain ⟨h24,b16⟩:=ah b16
     cases b16
     simp(config:=cS)only[go_sem,eqT h23,eqT h24]
     refine ap gb16 ?_
     simp(config:=cS)only[go_sem]
    ·cases b16
     have e25:=(ak gb16).symm
     subst e25
     try dsimp only at h
     cases h
     simp(config:=cS)only[go_sem,eqF h17]
 ·obtain ⟨r1010,g26,h⟩:=ae h
  simp(config:=cS)only[go_sem]
  refine ag (uy g26) ?_
  obtain ⟨r1011,g27,h⟩:=ae h
  simp(config:=cS)only[go_sem]
  refine ag (gi g27) ?_
  obtain ⟨q1014,l28,h⟩:=ae h
  simp(config:=cS)only[go_sem]
  refine an (m1:=.mk) (m2:=.mk) [.homeCell 192 7,.nf [2,3,16,17,18] [128,192,512,513,704,705,100012295]] (iN d.log ((d.log.length:Nat):Int) r1010.horizon r1011.now d.lazy r1010.nodes r1010.ties r1011.times r1011.values) l28 ?_ ?_
  ·simp(config:=cS)only[go_sem]
  ·intro nb29 sb29 bb29 b29 gb29
   obtain ⟨v18_3,h100012295_3⟩:=sb29
   unfold dE at b29
   try dsimp only at b29
   obtain ⟨h30,b29⟩|⟨h30,b29⟩:=af b29
   ·obtain ⟨x1012,g31,b29⟩:=ae b29
    obtain ⟨h32,h33,h34⟩:=ai g31
    obtain ⟨r1013,g35,b29⟩:=ae b29
    simp(config:=cS)only[go_sem,eqT h30,h32,h33,h34]
    refine ag (qj g35) ?_
    obtain ⟨h36,b29⟩:=ah b29
    obtain ⟨h37,b29⟩:=ah b29
    cases b29
    simp(config:=cS)only[go_sem,eqT h36,eqT h37]
    refine ap gb29 ?_
    simp(config:=cS)only[go_sem]
   ·cases b29
    have e38:=(ak gb29).symm
    subst e38
    try dsimp only at h
    cases h
    simp(config:=cS)only[go_sem,eqF h30]
def ol (ties:List Int)(nodes:List Int)(values:List Int)(v31:Int)(y_0:Int)(y_1:List Int)(y_2:List Int)(out_2:Int)(out_3:Int)(out_6:Bool)(z_0:Int)(h1216:List GNode)(h1217:List GTie)(h1218:List Int)(h1219:List Int)(h1220:List GEntry)(h1600:List Int)(h1601:List Int)(v30:List Int):(Int × (List Int) × (List Int))→St
 | (v32,v,l)=>⟨[(1,.sl (ab eI ties)),(3,.sl (ab eI nodes)),(4,.sl (ab eI values)),(7,.ptr 448 1 0 0),(10,.ptr 640 1 0 0),(11,.ptr 704 1 0 0),(12,.ptr 768 1 0 0),(13,.ref 1602 1 0 v30.length),(14,.ref 1792 1 0 v.length),(15,.ref 1856 1 0 l.length),(30,.ref 1602 1 0 v30.length),(31,.lit (.int .i64 v31)),(32,.lit (.int .i64 v32))],[(448,1,.var [.lit (.int .i64 y_0),.sl (ab eI y_1),.sl (ab eI y_2)]),(640,1,.var [.lit (.slice none 0 0),.lit (.slice none 0 0),.lit (.int .i64 0),.lit (.int .i64 0),.lit (.slice none 0 0),.lit (.slice none 0 0),.lit (.bool false),.lit (.slice none 0 0)]),(704,1,.var [.ref 1216 1 0 h1216.length,.ref 1217 1 0 h1217.length,.lit (.int .i64 out_2),.lit (.int .i64 out_3),.ref 1218 1 0 h1218.length,.ref 1219 1 0 h1219.length,.lit (.bool out_6),.ref 1220 1 0 h1220.length]),(1216,1,.row true (ab GNode.encO h1216)),(1217,1,.row true (ab GTie.enc h1217)),(1218,1,.row true (ab eI h1218)),(1219,1,.row true (ab eI h1219)),(1220,1,.row true (ab GEntry.encO h1220)),(768,1,.var [.lit (.int .i64 z_0),.ref 1600 1 0 h1600.length,.ref 1601 1 0 h1601.length]),(1600,1,.row true (ab eI h1600)),(1601,1,.row true (ab eI h1601)),(1602,1,.row true (ab eI v30)),(1792,1,.row true (ab eI v)),(1856,1,.row true (ab eI l))],2⟩
attribute [go_sem] ol
@[go_sem] def hi111_11:DT:=.i1 0 (.i1 1 (.i1 2 (.i1 3 (.i2 5 (.i2 8 (.i2 10 (.fork (.i0 4 [0,1,2,3] (.fork (.i0 6 [0,1,2,3] (.i0 7 [0,1,2,3] (.i0 9 [0,1,2,3] (.i2 11 (.i0 12 [0,1] (.i2 13 (.i2 14 (.i2 15 .nil)))))))) (.i0 7 [0,1,2,3] (.i0 6 [0,1,2,3] (.i0 9 [0,1,2,3] (.i2 11 (.i0 12 [0,1] (.i2 13 (.i2 14 (.i2 15 .nil)))))))))) (.i0 7 [0,1,2,3] (.i0 4 [0,1,2,3] (.i0 6 [0,1,2,3] (.i0 9 [0,1,2,3] (.i2 11 (.i0 12 [0,1] (.i2 13 (.i2 14 (.i2 15 .nil))))))))))))))))
def Fk:Hint where
 acts:=fun _=>[]
 draws:=fun
  | 11=>⟨hi111_11,[[],[0],[],[2],[],[],[4,5],[],[],[4,5,6,7,8],[],[2,3,4,5,6,7,8,9,10],[2,3,4,5,6,7,8,9,10,11],.range 13,.range 14,.range 15],.range 16⟩
  | _=>⟨.nil,[],[]⟩
theorem TD (i:Nat):Fk.acts i=[]:=rfl
theorem TE (i:Nat):Fk.views i=none:=rfl
attribute [go_sem] TD TE Tryz.ntmps111 Tryz.results111
@[go_sem] theorem ZN:(Fk.draws 11).order=hi111_11:=rfl
theorem yX {d:GDesk}{ties:List Int}{y:GState}{nodes:List Int}{values:List Int}{res:GDesk}(h:jv d ties y nodes values=some res):ao Tryz.prog 111 [.agg (GDesk.encS d),.sl (ab eI ties),.agg (GState.encS y),.sl (ab eI nodes),.sl (ab eI values)] [] (.agg [.ref 20000 1 0 res.show_.nodes.length,.ref 20001 1 0 res.show_.ties.length,.lit (.int .i64 res.show_.horizon),.lit (.int .i64 res.state.now),.ref 20002 1 0 res.state.times.length,.ref 20003 1 0 res.state.values.length,.lit (.bool res.lazy),.ref 20004 1 0 res.log.length]) [(20000,1,.row true (ab GNode.encO res.show_.nodes)),(20001,1,.row true (ab GTie.enc res.show_.ties)),(20002,1,.row true (ab eI res.state.times)),(20003,1,.row true (ab eI res.state.values)),(20004,1,.row true (ab GEntry.encO res.log))]:=by
 refine aj (ra:=[.homeCell 640 0,.homeCell 640 1,.homeCell 640 4,.homeCell 640 5,.homeCell 640 7]) (md:=mdT) hT (hi:=Fk) Tryz.func111 rfl rfl (by decide +kernel) (by simp) ?_
 unfold jv at h
 obtain ⟨r1001,g1,h⟩:=ae h
 simp(config:=cS)only[go_sem]
 refine ag (rl g1) ?_
 obtain ⟨r1002,g2,h⟩:=ae h
 simp(config:=cS)only[go_sem]
 refine ag (oS g2) ?_
 obtain ⟨q1008,l3,h⟩:=ae h
 simp(config:=cS)only[go_sem]
 refine an (m1:=.mk) (m2:=.mk) [.nf [1,3,4,7,10,11,12,13,14,15,30,31,32] [448,640,704,1216,1217,1218,1219,1220,768,1600,1601,1602,1792,1856]] (ol ties nodes values ((r1002.2.length:Nat):Int) y.now y.times y.values r1001.show_.horizon r1001.state.now r1001.lazy r1002.1.now r1001.show_.nodes r1001.show_.ties r1001.state.times r1001.state.values r1001.log r1002.1.times r1002.1.values r1002.2) l3 ?_ ?_
 ·simp(config:=cS)only[go_sem]
 ·intro nb4 sb4 bb4 b4 gb4
  obtain ⟨v32_1,v_1,l_1⟩:=sb4
  unfold fZ at b4
  try dsimp only at b4
  obtain ⟨h5,b4⟩|⟨h5,b4⟩:=af b4
  ·obtain ⟨x1003,g6,b4⟩:=ae b4
   obtain ⟨h7,h8,h9⟩:=ai g6
   obtain ⟨x1004,g10,b4⟩:=ae b4
   obtain ⟨h11,h12,h13⟩:=ai g10
   obtain ⟨h14,b4⟩:=ah b4
   obtain ⟨h15,b4⟩:=ah b4
   obtain ⟨h16,b4⟩:=ah b4
   obtain ⟨h17,b4⟩:=ah b4
   cases b4
   simp(config:=cS)only[go_sem,eqT h5,h7,h8,h9,h11,h12,h13,eqT h14,eqT h15,eqT h16,eqT h17]
   refine ap gb4 ?_
   simp(config:=cS)only[go_sem]
  ·cases b4
   have e18:=(ak gb4).symm
   subst e18
   try dsimp only at h
   try simp(config:=cS)only[go_sem,eqF h5]
   refine bn ?_ ?_
   ·try simp(config:=cS)only[go_sem]
    refine bn ?_ ?_
    ·obtain ⟨h19,h⟩:=ah h
     obtain ⟨h20,h⟩:=ah h
     obtain ⟨h21,h⟩:=ah h
     obtain ⟨h22,h⟩:=ah h
     obtain ⟨h23,h⟩:=ah h
     obtain ⟨h24,h⟩:=ah h
     obtain ⟨r1005,g25,h⟩:=ae h
     simp(config:=cS)only[go_sem,eqT h19,eqT h20,eqT h21,eqT h22,eqT h23,eqT h24]
     refine ag (je g25) ?_
     cases h
     simp(config:=cS)only[go_sem]
    ·obtain ⟨h26,h⟩:=ah h
     obtain ⟨h27,h⟩:=ah h
     obtain ⟨h28,h⟩:=ah h
     obtain ⟨h29,h⟩:=ah h
     obtain ⟨h30,h⟩:=ah h
     obtain ⟨h31,h⟩:=ah h
     obtain ⟨r1006,g32,h⟩:=ae h
     simp(config:=cS)only[go_sem,eqT h26,eqT h27,eqT h28,eqT h29,eqT h30,eqT h31]
     refine ag (je g32) ?_
     cases h
     simp(config:=cS)only[go_sem]
   ·obtain ⟨h33,h⟩:=ah h
    obtain ⟨h34,h⟩:=ah h
    obtain ⟨h35,h⟩:=ah h
    obtain ⟨h36,h⟩:=ah h
    obtain ⟨h37,h⟩:=ah h
    obtain ⟨h38,h⟩:=ah h
    obtain ⟨r1007,g39,h⟩:=ae h
    simp(config:=cS)only[go_sem,eqT h33,eqT h34,eqT h35,eqT h36,eqT h37,eqT h38]
    refine ag (je g39) ?_
    cases h
    simp(config:=cS)only[go_sem]
def hi52:Hint where
 acts:=fun _=>[]
 draws:=fun
  | _=>⟨.nil,[],[]⟩
theorem Yi (i:Nat):hi52.acts i=[]:=rfl
theorem Yj (i:Nat):hi52.views i=none:=rfl
attribute [go_sem] Yi Yj Tryz.ntmps52 Tryz.results52
theorem Ba {d:GDesk}{ties:List Int}{values:List Int}{res:GDesk × (List Int) × Int}(h:ke d ties values=some res):ao Tryz.prog 52 [.agg (GDesk.encS d),.sl (ab eI ties),.sl (ab eI values)] [] (.tup [.agg [.ref 20000 1 0 res.1.show_.nodes.length,.ref 20001 1 0 res.1.show_.ties.length,.lit (.int .i64 res.1.show_.horizon),.lit (.int .i64 res.1.state.now),.ref 20002 1 0 res.1.state.times.length,.ref 20003 1 0 res.1.state.values.length,.lit (.bool res.1.lazy),.ref 20004 1 0 res.1.log.length],.ref 20005 1 0 res.2.1.length,.lit (.int .i64 res.2.2)]) [(20000,1,.row true (ab GNode.encO res.1.show_.nodes)),(20001,1,.row true (ab GTie.enc res.1.show_.ties)),(20002,1,.row true (ab eI res.1.state.times)),(20003,1,.row true (ab eI res.1.state.values)),(20004,1,.row true (ab GEntry.encO res.1.log)),(20005,1,.row true (ab eI res.2.1))]:=by
 refine aj (ra:=[.homeCell 384 0,.homeCell 384 1,.homeCell 384 4,.homeCell 384 5,.homeCell 384 7,.home 7]) (md:=mdT) hT (hi:=hi52) Tryz.func52 rfl rfl (by decide +kernel) (by simp) ?_
 unfold ke at h
 obtain ⟨r1001,g1,h⟩:=ae h
 simp(config:=cS)only[go_sem]
 refine ag (AU g1) ?_
 obtain ⟨h2,h⟩|⟨h2,h⟩:=af h
 ·obtain ⟨r1002,g3,h⟩:=ae h
  simp(config:=cS)only[go_sem,eqT h2]
  refine ag (yW g3) ?_
  obtain ⟨h4,h⟩|⟨h4,h⟩:=af h
  ·obtain ⟨r1003,g5,h⟩:=ae h
   simp(config:=cS)only[go_sem,eZt h4]
   refine ag (yX g5) ?_
   cases h
   simp(config:=cS)only[go_sem]
  ·obtain ⟨r1004,g6,h⟩:=ae h
   simp(config:=cS)only[go_sem,eZf h4]
   refine ag (rl g6) ?_
   cases h
   simp(config:=cS)only[go_sem]
 ·obtain ⟨r1005,g7,h⟩:=ae h
  simp(config:=cS)only[go_sem,eqF h2]
  refine ag (rl g7) ?_
  cases h
  simp(config:=cS)only[go_sem]
def Kj:Hint where
 acts:=fun _=>[]
 draws:=fun
  | _=>⟨.nil,[],[]⟩
theorem TF (i:Nat):Kj.acts i=[]:=rfl
theorem TG (i:Nat):Kj.views i=none:=rfl
attribute [go_sem] TF TG Tryz.ntmps132 Tryz.results132
theorem rL {v0:List GTie}{res:List GTie}(h:gP v0=some res):ao Tryz.prog 132 [.sl (ab GTie.enc v0)] [] (.ref 20000 1 0 res.length) [(20000,1,.row true (ab GTie.enc res))]:=by
 refine aj (ra:=[.home 2]) (md:=mdT) hT (hi:=Kj) Tryz.func132 rfl rfl (by decide +kernel) (by simp) ?_
 unfold gP at h
 obtain ⟨h1,h3,h2⟩|⟨h1,h3⟩:=DA h
 ·cases h3
  simp(config:=cS)only[go_sem,h1]
 ·obtain ⟨h4,h3⟩:=ah h3
  obtain ⟨h5,h3⟩:=ah h3
  cases h3
  simp(config:=cS)only[go_sem,Ar h1,eqT h4,eqT h5]
def Kk:Hint where
 acts:=fun _=>[]
 draws:=fun
  | _=>⟨.nil,[],[]⟩
theorem TH (i:Nat):Kk.acts i=[]:=rfl
theorem TJ (i:Nat):Kk.views i=none:=rfl
attribute [go_sem] TH TJ Tryz.ntmps101 Tryz.results101
theorem aY {v0:List Int}{res:List Int}(h:aZ v0=some res):ao Tryz.prog 101 [.sl (ab eI v0)] [] (.ref 20000 1 0 res.length) [(20000,1,.row true (ab eI res))]:=by
 refine aj (ra:=[.home 2]) (md:=mdT) hT (hi:=Kk) Tryz.func101 rfl rfl (by decide +kernel) (by simp) ?_
 unfold aZ at h
 obtain ⟨h1,h3,h2⟩|⟨h1,h3⟩:=DA h
 ·cases h3
  simp(config:=cS)only[go_sem,h1]
 ·obtain ⟨h4,h3⟩:=ah h3
  obtain ⟨h5,h3⟩:=ah h3
  cases h3
  simp(config:=cS)only[go_sem,Ar h1,eqT h4,eqT h5]
def kO (v13:List GNode)(v14:Int)(out_2:Int)(h512:List GTie):(Int × (List GNode))→St
 | (v15,h100012288)=>⟨[(2,.ptr 128 1 0 0),(3,.ptr 192 1 0 0),(13,.sl (ab GNode.encS v13)),(14,.lit (.int .i64 v14)),(15,.lit (.int .i64 v15))],[(128,1,.var [.lit (.slice none 0 0),.lit (.slice none 0 0),.lit (.int .i64 0)]),(192,1,.var [.ref 100012288 1 0 h100012288.length,.ref 512 1 0 h512.length,.lit (.int .i64 out_2)]),(100012288,1,.row true (ab GNode.encO h100012288)),(512,1,.row true (ab GTie.enc h512))],2⟩
attribute [go_sem] kO
@[go_sem] def hi57_1:DT:=.i1 0 (.i1 1 (.i1 3 (.i1 4 (.fork (.i0 2 [3,4] (.i2 5 (.i0 6 [0,1,3,4] (.i2 7 .nil)))) (.i0 6 [0,1,3,4] (.i0 2 [3,4] (.i2 5 (.i2 7 .nil))))))))
def hi57:Hint where
 acts:=fun _=>[]
 draws:=fun
  | 1=>⟨hi57_1,[[],[0],[0,1],[],[3],.range 5,[],.range 7],.range 8⟩
  | _=>⟨.nil,[],[]⟩
theorem Yk (i:Nat):hi57.acts i=[]:=rfl
theorem Yl (i:Nat):hi57.views i=none:=rfl
attribute [go_sem] Yk Yl Tryz.ntmps57 Tryz.results57
@[go_sem] theorem aaU:(hi57.draws 1).order=hi57_1:=rfl
theorem Bb {s:GShow}{res:GShow}(h:jO s=some res):ao Tryz.prog 57 [.agg (GShow.encS s)] [] (.agg [.ref 20000 1 0 res.nodes.length,.ref 20001 1 0 res.ties.length,.lit (.int .i64 res.horizon)]) [(20000,1,.row true (ab GNode.encO res.nodes)),(20001,1,.row true (ab GTie.enc res.ties))]:=by
 refine aj (ra:=[.homeCell 128 0,.homeCell 128 1]) (md:=mdT) hT (hi:=hi57) Tryz.func57 rfl rfl (by decide +kernel) (by simp) ?_
 unfold jO at h
 try simp(config:=cS)only[go_sem]
 refine bn ?_ ?_
 ·obtain ⟨r1001,g1,h⟩:=ae h
  simp(config:=cS)only[go_sem]
  refine ag (rL g1) ?_
  obtain ⟨q1004,l2,h⟩:=ae h
  simp(config:=cS)only[go_sem]
  refine an (m1:=.mk) (m2:=.mk) [.homeCell 192 0,.nf [2,3,13,14,15] [128,192,100012288,512]] (kO s.nodes ((s.nodes.length:Nat):Int) s.horizon r1001) l2 ?_ ?_
  ·simp(config:=cS)only[go_sem]
  ·intro nb3 sb3 bb3 b3 gb3
   obtain ⟨v15_1,h100012288_1⟩:=sb3
   unfold ei at b3
   try dsimp only at b3
   obtain ⟨h4,b3⟩|⟨h4,b3⟩:=af b3
   ·obtain ⟨x1002,g5,b3⟩:=ae b3
    obtain ⟨h6,h7,h8⟩:=ai g5
    obtain ⟨r1003,g9,b3⟩:=ae b3
    simp(config:=cS)only[go_sem,eqT h4,h6,h7,h8]
    refine ag (aY g9) ?_
    obtain ⟨h10,b3⟩:=ah b3
    obtain ⟨h11,b3⟩:=ah b3
    cases b3
    simp(config:=cS)only[go_sem,eqT h10,eqT h11]
    refine ap gb3 ?_
    simp(config:=cS)only[go_sem]
   ·cases b3
    have e12:=(ak gb3).symm
    subst e12
    try dsimp only at h
    cases h
    simp(config:=cS)only[go_sem,eqF h4]
 ·obtain ⟨r1005,g13,h⟩:=ae h
  simp(config:=cS)only[go_sem]
  refine ag (rL g13) ?_
  obtain ⟨q1008,l14,h⟩:=ae h
  simp(config:=cS)only[go_sem]
  refine an (m1:=.mk) (m2:=.mk) [.homeCell 192 0,.nf [2,3,13,14,15] [128,192,100012288,512]] (kO s.nodes ((s.nodes.length:Nat):Int) s.horizon r1005) l14 ?_ ?_
  ·simp(config:=cS)only[go_sem]
  ·intro nb15 sb15 bb15 b15 gb15
   obtain ⟨v15_2,h100012288_2⟩:=sb15
   unfold ei at b15
   try dsimp only at b15
   obtain ⟨h16,b15⟩|⟨h16,b15⟩:=af b15
   ·obtain ⟨x1006,g17,b15⟩:=ae b15
    obtain ⟨h18,h19,h20⟩:=ai g17
    obtain ⟨r1007,g21,b15⟩:=ae b15
    simp(config:=cS)only[go_sem,eqT h16,h18,h19,h20]
    refine ag (aY g21) ?_
    obtain ⟨h22,b15⟩:=ah b15
    obtain ⟨h23,b15⟩:=ah b15
    cases b15
    simp(config:=cS)only[go_sem,eqT h22,eqT h23]
    refine ap gb15 ?_
    simp(config:=cS)only[go_sem]
   ·cases b15
    have e24:=(ak gb15).symm
    subst e24
    try dsimp only at h
    cases h
    simp(config:=cS)only[go_sem,eqF h16]
@[go_sem] def hi138_1:DT:=.i1 0 (.i1 1 (.i2 2 (.i2 3 (.i1 5 (.i1 6 (.i0 4 [0,1,5,6] (.i0 7 [0,1] (.i2 8 (.i2 9 .nil)))))))))
def Fl:Hint where
 acts:=fun _=>[]
 draws:=fun
  | 1=>⟨hi138_1,[[],[0],[],[2],[2,3],[],[5],[2,3,4,5,6],.range 8,.range 9],.range 10⟩
  | _=>⟨.nil,[],[]⟩
theorem TL (i:Nat):Fl.acts i=[]:=rfl
theorem TM (i:Nat):Fl.views i=none:=rfl
attribute [go_sem] TL TM Tryz.ntmps138 Tryz.results138
@[go_sem] theorem aae:(Fl.draws 1).order=hi138_1:=rfl
theorem lI {v0:GState}{res:GState}(h:cX v0=some res):ao Tryz.prog 138 [.agg (GState.encS v0)] [] (.agg [.lit (.int .i64 res.now),.ref 20000 1 0 res.times.length,.ref 20001 1 0 res.values.length]) [(20000,1,.row true (ab eI res.times)),(20001,1,.row true (ab eI res.values))]:=by
 refine aj (ra:=[.homeCell 128 1,.homeCell 128 2]) (md:=mdT) hT (hi:=Fl) Tryz.func138 rfl rfl (by decide +kernel) (by simp) ?_
 unfold cX at h
 obtain ⟨r1001,g1,h⟩:=ae h
 simp(config:=cS)only[go_sem]
 refine ag (aY g1) ?_
 obtain ⟨r1002,g2,h⟩:=ae h
 simp(config:=cS)only[go_sem]
 refine ag (aY g2) ?_
 cases h
 simp(config:=cS)only[go_sem]
def qk (v6:List GEntry)(v7:Int):(Int × (List GEntry))→St
 | (v8,out)=>⟨[(3,.ref 255 1 0 out.length),(6,.sl (ab GEntry.encS v6)),(7,.lit (.int .i64 v7)),(8,.lit (.int .i64 v8))],[(255,1,.row true (ab GEntry.encO out))],2⟩
attribute [go_sem] qk
@[go_sem] def hi139_5:DT:=.i2 0 (.i1 1 (.i1 2 (.i2 3 (.i2 4 (.i1 6 (.i1 7 (.i1 9 (.i1 10 (.i0 5 [1,2,6,7,9,10] (.i0 8 [1,2,9,10] (.i0 11 [1,2] (.i2 12 (.i2 13 (.i2 14 (.i2 15 .nil)))))))))))))))
def Fm:Hint where
 acts:=fun _=>[]
 draws:=fun
  | 5=>⟨hi139_5,[[],[],[1],[],[3],[3,4],[],[6],[3,4,5,6,7],[],[9],[3,4,5,6,7,8,9,10],[1,2,3,4,5,6,7,8,9,10,11],[1,2,3,4,5,6,7,8,9,10,11,12],.range 14,.range 15],.range 16⟩
  | _=>⟨.nil,[],[]⟩
theorem TN (i:Nat):Fm.acts i=[]:=rfl
theorem TO (i:Nat):Fm.views i=none:=rfl
attribute [go_sem] TN TO Tryz.ntmps139 Tryz.results139
@[go_sem] theorem aaf:(Fm.draws 5).order=hi139_5:=rfl
theorem CB {log:List GEntry}{res:List GEntry}(h:kV log=some res):ao Tryz.prog 139 [.sl (ab GEntry.encS log)] [] (.ref 20000 1 0 res.length) [(20000,1,.row true (ab GEntry.encO res))]:=by
 refine aj (ra:=[.home 2]) (md:=mdT) hT (hi:=Fm) Tryz.func139 rfl rfl (by decide +kernel) (by simp) ?_
 unfold kV at h
 obtain ⟨q1005,l1,h⟩:=ae h
 simp(config:=cS)only[go_sem]
 refine an (m1:=.mk) (m2:=.mk) [.home 3,.nf [3,6,7,8] [255]] (qk log ((log.length:Nat):Int)) l1 ?_ ?_
 ·simp(config:=cS)only[go_sem]
 ·intro nb2 sb2 bb2 b2 gb2
  obtain ⟨v8_1,out_1⟩:=sb2
  unfold iq at b2
  try dsimp only at b2
  obtain ⟨h3,b2⟩|⟨h3,b2⟩:=af b2
  ·obtain ⟨x1001,g4,b2⟩:=ae b2
   obtain ⟨h5,h6,h7⟩:=ai g4
   obtain ⟨r1002,g8,b2⟩:=ae b2
   simp(config:=cS)only[go_sem,eqT h3,h5,h6,h7]
   refine ag (aY g8) ?_
   obtain ⟨r1003,g9,b2⟩:=ae b2
   simp(config:=cS)only[go_sem]
   refine ag (aY g9) ?_
   obtain ⟨r1004,g10,b2⟩:=ae b2
   simp(config:=cS)only[go_sem]
   refine ag (aY g10) ?_
   obtain ⟨h11,b2⟩:=ah b2
   obtain ⟨h12,b2⟩:=ah b2
   cases b2
   simp(config:=cS)only[go_sem,eqT h11,eqT h12]
   refine ap gb2 ?_
   simp(config:=cS)only[go_sem]
  ·cases b2
   have e13:=(ak gb2).symm
   subst e13
   try dsimp only at h
   cases h
   simp(config:=cS)only[go_sem,eqF h3]
@[go_sem] def hi61_1:DT:=.i2 0 (.i2 1 (.i1 3 (.i1 4 (.i1 6 (.i1 7 (.i1 8 (.i1 9 (.i0 2 [3,4,6,7,8,9] (.i0 5 [6,7,8,9] (.i0 10 [6,7] (.i2 11 (.i2 12 .nil))))))))))))
def hi61:Hint where
 acts:=fun _=>[]
 draws:=fun
  | 1=>⟨hi61_1,[[],[0],[0,1],[],[3],.range 5,[],[6],[],[8],[0,1,2,3,4,5,8,9],.range 11,.range 12],.range 13⟩
  | _=>⟨.nil,[],[]⟩
theorem Ym (i:Nat):hi61.acts i=[]:=rfl
theorem Yn (i:Nat):hi61.views i=none:=rfl
attribute [go_sem] Ym Yn Tryz.ntmps61 Tryz.results61
@[go_sem] theorem aaV:(hi61.draws 1).order=hi61_1:=rfl
theorem Bc {d:GDesk}{res:GDesk}(h:jQ d=some res):ao Tryz.prog 61 [.agg (GDesk.encS d)] [] (.agg [.ref 20000 1 0 res.show_.nodes.length,.ref 20001 1 0 res.show_.ties.length,.lit (.int .i64 res.show_.horizon),.lit (.int .i64 res.state.now),.ref 20002 1 0 res.state.times.length,.ref 20003 1 0 res.state.values.length,.lit (.bool res.lazy),.ref 20004 1 0 res.log.length]) [(20000,1,.row true (ab GNode.encO res.show_.nodes)),(20001,1,.row true (ab GTie.enc res.show_.ties)),(20002,1,.row true (ab eI res.state.times)),(20003,1,.row true (ab eI res.state.values)),(20004,1,.row true (ab GEntry.encO res.log))]:=by
 refine aj (ra:=[.homeCell 128 0,.homeCell 128 1,.homeCell 128 4,.homeCell 128 5,.homeCell 128 7]) (md:=mdT) hT (hi:=hi61) Tryz.func61 rfl rfl (by decide +kernel) (by simp) ?_
 unfold jQ at h
 obtain ⟨r1001,g1,h⟩:=ae h
 simp(config:=cS)only[go_sem]
 refine ag (Bb g1) ?_
 obtain ⟨r1002,g2,h⟩:=ae h
 simp(config:=cS)only[go_sem]
 refine ag (lI g2) ?_
 obtain ⟨r1003,g3,h⟩:=ae h
 simp(config:=cS)only[go_sem]
 refine ag (CB g3) ?_
 cases h
 simp(config:=cS)only[go_sem]
def qS (s:ByteArray)(i:Int):St:=⟨[(0,.lit (.string s)),(3,.lit (.int .i64 i))],[],2⟩
attribute [go_sem] qS
@[go_sem] def hi239_4:DT:=.i2 0 (.i2 1 (.i2 2 (.i2 3 (.i2 4 (.i2 5 (.i2 6 (.i2 7 (.i2 8 (.i2 9 (.i2 10 (.i2 11 (.i2 12 (.i2 13 (.i2 14 (.i2 15 (.i2 16 (.i2 17 (.i2 18 (.i2 19 (.i2 20 (.i2 21 .nil)))))))))))))))))))))
def Fo:Hint where
 acts:=fun _=>[]
 draws:=fun
  | 4=>⟨hi239_4,[[],[],[0,1],[0,1,2],[0,1,2,3],.range 5,.range 5,.range 7,.range 8,.range 9,[],[],[10,11],[10,11,12],[0,1,2,3,4,10,11,12,13],[0,1,2,3,4,10,11,12,13,14],[0,1,2,3,4,10,11,12,13,14],[0,1,2,3,4,10,11,12,13,14,15,16],[0,1,2,3,4,10,11,12,13,14,15,16,17],[0,1,2,3,4,10,11,12,13,14,15,16,17,18],.range 15,.range 21],[0,1,2,3,4,5,6,7,8,9,10,11,12,13,14,16,17,18,19,20,15,21]⟩
  | _=>⟨.nil,[],[]⟩
theorem TP (i:Nat):Fo.acts i=[]:=rfl
theorem TQ (i:Nat):Fo.views i=none:=rfl
attribute [go_sem] TP TQ Tryz.ntmps239 Tryz.results239
@[go_sem] theorem aag:(Fo.draws 4).order=hi239_4:=rfl
theorem En {s:ByteArray}{res:Bool}(h:lS s=some res):ao Tryz.prog 239 [.lit (.string s)] [] (.lit (.bool res)) []:=by
 refine aj (ra:=[]) (md:=mdT) hT (hi:=Fo) Tryz.func239 rfl rfl (by decide +kernel) (by simp) ?_
 unfold lS at h
 obtain ⟨q1002,l1,h⟩:=ae h
 simp(config:=cS)only[go_sem]
 refine an (m1:=.mk) (m2:=.mk) [.nf [0,3] []] (qS s) l1 ?_ ?_
 ·simp(config:=cS)only[go_sem]
 ·intro nb2 sb2 bb2 b2 gb2
  obtain ⟨i_1,eb2⟩:∃ v,v=sb2:=⟨_,rfl⟩;subst eb2
  unfold gj at b2
  try dsimp only at b2
  obtain ⟨h3,b2⟩|⟨h3,b2⟩:=af b2
  ·obtain ⟨c1001,g4,b2⟩:=ae b2
   obtain ⟨h5,h6,h7⟩:=iS g4
   obtain ⟨h8,b2⟩|⟨h8,b2⟩:=af b2
   ·obtain ⟨h9,b2⟩|⟨h9,b2⟩:=af b2
    ·obtain ⟨h10,b2⟩|⟨h10,b2⟩:=af b2
     ·cases b2
      simp(config:=cS)only[go_sem,eqT h3,h5,h6,h7,eqT h8,eqT h9,eqT h10]
      refine ap gb2 ?_
      simp(config:=cS)only[go_sem]
     ·obtain ⟨h11,b2⟩|⟨h11,b2⟩:=af b2
      ·obtain ⟨h12,b2⟩|⟨h12,b2⟩:=af b2
       ·cases b2
        have e13:=(ak gb2).symm
        subst e13
        try dsimp only at h
        cases h
        simp(config:=cS)only[go_sem,eqT h3,h5,h6,h7,eqT h8,eqT h9,eqF h10,eqT h11,eqT h12]
       ·cases b2
        simp(config:=cS)only[go_sem,eqT h3,h5,h6,h7,eqT h8,eqT h9,eqF h10,eqT h11,eqF h12]
        refine ap gb2 ?_
        simp(config:=cS)only[go_sem]
      ·cases b2
       have e14:=(ak gb2).symm
       subst e14
       try dsimp only at h
       cases h
       simp(config:=cS)only[go_sem,eqT h3,h5,h6,h7,eqT h8,eqT h9,eqF h10,eqF h11]
    ·obtain ⟨h15,b2⟩|⟨h15,b2⟩:=af b2
     ·cases b2
      simp(config:=cS)only[go_sem,eqT h3,h5,h6,h7,eqT h8,eqF h9,eqT h15]
      refine ap gb2 ?_
      simp(config:=cS)only[go_sem]
     ·cases b2
      have e16:=(ak gb2).symm
      subst e16
      try dsimp only at h
      cases h
      simp(config:=cS)only[go_sem,eqT h3,h5,h6,h7,eqT h8,eqF h9,eqF h15]
   ·obtain ⟨h17,b2⟩|⟨h17,b2⟩:=af b2
    ·obtain ⟨h18,b2⟩|⟨h18,b2⟩:=af b2
     ·obtain ⟨h19,b2⟩|⟨h19,b2⟩:=af b2
      ·cases b2
       have e20:=(ak gb2).symm
       subst e20
       try dsimp only at h
       cases h
       simp(config:=cS)only[go_sem,eqT h3,h5,h6,h7,eqF h8,eqT h17,eqT h18,eqT h19]
      ·cases b2
       simp(config:=cS)only[go_sem,eqT h3,h5,h6,h7,eqF h8,eqT h17,eqT h18,eqF h19]
       refine ap gb2 ?_
       simp(config:=cS)only[go_sem]
     ·cases b2
      have e21:=(ak gb2).symm
      subst e21
      try dsimp only at h
      cases h
      simp(config:=cS)only[go_sem,eqT h3,h5,h6,h7,eqF h8,eqT h17,eqF h18]
    ·cases b2
     have e22:=(ak gb2).symm
     subst e22
     try dsimp only at h
     cases h
     simp(config:=cS)only[go_sem,eqT h3,h5,h6,h7,eqF h8,eqF h17]
  ·cases b2
   have e23:=(ak gb2).symm
   subst e23
   try dsimp only at h
   obtain ⟨h24,h⟩|⟨h24,h⟩:=af h
   ·cases h
    simp(config:=cS)only[go_sem,eqF h3,eqT h24]
   ·cases h
    simp(config:=cS)only[go_sem,eqF h3,eqF h24]
def Kl:Hint where
 acts:=fun _=>[]
 draws:=fun
  | _=>⟨.nil,[],[]⟩
theorem TR (i:Nat):Kl.acts i=[]:=rfl
theorem TS (i:Nat):Kl.views i=none:=rfl
attribute [go_sem] TR TS Tryz.ntmps210 Tryz.results210
theorem jG {l:Int}{res:Int}(h:di l=some res):ao Tryz.prog 210 [.lit (.int .i64 l)] [] (.lit (.int .i64 res)) []:=by
 refine aj (ra:=[]) (md:=mdT) hT (hi:=Kl) Tryz.func210 rfl rfl (by decide +kernel) (by simp) ?_
 unfold di at h
 cases h
 simp(config:=cS)only[go_sem]
def ql (l:List Int)(v6:Int)(v7:Int):St:=⟨[(0,.sl (ab eI l)),(5,.sl (ab eI l)),(6,.lit (.int .i64 v6)),(7,.lit (.int .i64 v7))],[],2⟩
attribute [go_sem] ql
def Km:Hint where
 acts:=fun _=>[]
 draws:=fun
  | _=>⟨.nil,[],[]⟩
theorem TT (i:Nat):Km.acts i=[]:=rfl
theorem TU (i:Nat):Km.views i=none:=rfl
attribute [go_sem] TT TU Tryz.ntmps218 Tryz.results218
theorem kP {l:List Int}{res:Bool}(h:dn l=some res):ao Tryz.prog 218 [.sl (ab eI l)] [] (.lit (.bool res)) []:=by
 refine aj (ra:=[]) (md:=mdT) hT (hi:=Km) Tryz.func218 rfl rfl (by decide +kernel) (by simp) ?_
 unfold dn at h
 obtain ⟨q1005,l1,h⟩:=ae h
 simp(config:=cS)only[go_sem]
 refine an (m1:=.mk) (m2:=.mk) [.nf [0,5,6,7] []] (ql l ((l.length:Nat):Int)) l1 ?_ ?_
 ·simp(config:=cS)only[go_sem]
 ·intro nb2 sb2 bb2 b2 gb2
  obtain ⟨v7_1,eb2⟩:∃ v,v=sb2:=⟨_,rfl⟩;subst eb2
  unfold fk at b2
  try dsimp only at b2
  obtain ⟨h3,b2⟩|⟨h3,b2⟩:=af b2
  ·obtain ⟨x1001,g4,b2⟩:=ae b2
   obtain ⟨h5,h6,h7⟩:=ai g4
   obtain ⟨h8,b2⟩|⟨h8,b2⟩:=af b2
   ·cases b2
    have e9:=(ak gb2).symm
    subst e9
    try dsimp only at h
    cases h
    simp(config:=cS)only[go_sem,eqT h3,h5,h6,h7,eqT h8]
   ·obtain ⟨h10,b2⟩|⟨h10,b2⟩:=af b2
    ·cases b2
     have e11:=(ak gb2).symm
     subst e11
     try dsimp only at h
     cases h
     simp(config:=cS)only[go_sem,eqT h3,h5,h6,h7,eqF h8,eqT h10]
    ·obtain ⟨h12,b2⟩|⟨h12,b2⟩:=af b2
     ·cases b2
      have e13:=(ak gb2).symm
      subst e13
      try dsimp only at h
      cases h
      simp(config:=cS)only[go_sem,eqT h3,h5,h6,h7,eqF h8,eqF h10,eqT h12]
     ·obtain ⟨h14,b2⟩|⟨h14,b2⟩:=af b2
      ·obtain ⟨x1002,g15,b2⟩:=ae b2
       obtain ⟨h16,h17,h18⟩:=ai g15
       obtain ⟨r1003,g19,b2⟩:=ae b2
       simp(config:=cS)only[go_sem,eqT h3,h5,h6,h7,eqF h8,eqF h10,eqF h12,eqT h14,h16,h17,h18]
       refine ag (jG g19) ?_
       obtain ⟨r1004,g20,b2⟩:=ae b2
       simp(config:=cS)only[go_sem]
       refine ag (jG g20) ?_
       obtain ⟨h21,b2⟩|⟨h21,b2⟩:=af b2
       ·cases b2
        have e22:=(ak gb2).symm
        subst e22
        try dsimp only at h
        cases h
        simp(config:=cS)only[go_sem,eqT h21]
       ·cases b2
        simp(config:=cS)only[go_sem,eqF h21]
        refine ap gb2 ?_
        simp(config:=cS)only[go_sem]
      ·cases b2
       simp(config:=cS)only[go_sem,eqT h3,h5,h6,h7,eqF h8,eqF h10,eqF h12,eqF h14]
       refine ap gb2 ?_
       simp(config:=cS)only[go_sem]
  ·cases b2
   have e23:=(ak gb2).symm
   subst e23
   try dsimp only at h
   cases h
   simp(config:=cS)only[go_sem,eqF h3]
def Kn:Hint where
 acts:=fun _=>[]
 draws:=fun
  | _=>⟨.nil,[],[]⟩
theorem TV (i:Nat):Kn.acts i=[]:=rfl
theorem TW (i:Nat):Kn.views i=none:=rfl
attribute [go_sem] TV TW Tryz.ntmps205 Tryz.results205
theorem Eo {n:GNode}{res:Bool}(h:lT n=some res):ao Tryz.prog 205 [.agg (GNode.encS n)] [] (.lit (.bool res)) []:=by
 refine aj (ra:=[]) (md:=mdT) hT (hi:=Kn) Tryz.func205 rfl rfl (by decide +kernel) (by simp) ?_
 unfold lT at h
 obtain ⟨r1001,g1,h⟩:=ae h
 simp(config:=cS)only[go_sem]
 refine ag (En g1) ?_
 obtain ⟨h2,h⟩|⟨h2,h⟩:=af h
 ·obtain ⟨r1002,g3,h⟩:=ae h
  simp(config:=cS)only[go_sem,eZt h2]
  refine ag (kP g3) ?_
  obtain ⟨h4,h⟩|⟨h4,h⟩:=af h
  ·obtain ⟨h5,h⟩|⟨h5,h⟩:=af h
   ·cases h
    simp(config:=cS)only[go_sem,eZt h2,eZt h4,eqT h5]
   ·cases h
    simp(config:=cS)only[go_sem,eZt h2,eZt h4,eqF h5]
  ·cases h
   simp(config:=cS)only[go_sem,eZt h2,eZf h4]
 ·cases h
  simp(config:=cS)only[go_sem,eZf h2]
def pv (v35:List GNode)(v36:Int)(v37:Int)(v48:List GNode)(v49:Int)(s_1:List GTie)(s_2:Int)(n_0:ByteArray)(n_1:List Int)(n_2:Int)(v50:Int):St:=⟨[(1,.ptr 64 1 0 0),(4,.ptr 256 1 0 0),(35,.sl (ab GNode.encS v35)),(36,.lit (.int .i64 v36)),(37,.lit (.int .i64 v37)),(48,.sl (ab GNode.encS v48)),(49,.lit (.int .i64 v49)),(50,.lit (.int .i64 v50))],[(64,1,.var [.sl (ab GNode.encS v35),.sl (ab GTie.enc s_1),.lit (.int .i64 s_2)]),(256,1,.var [.lit (.string n_0),.sl (ab eI n_1),.lit (.int .i64 n_2)])],2⟩
attribute [go_sem] pv
def pw (v35:List GNode)(v36:Int)(s_1:List GTie)(s_2:Int)(v37:Int):St:=⟨[(1,.ptr 64 1 0 0),(35,.sl (ab GNode.encS v35)),(36,.lit (.int .i64 v36)),(37,.lit (.int .i64 v37))],[(64,1,.var [.sl (ab GNode.encS v35),.sl (ab GTie.enc s_1),.lit (.int .i64 s_2)])],2⟩
attribute [go_sem] pw
def Ko:Hint where
 acts:=fun _=>[]
 draws:=fun
  | _=>⟨.nil,[],[]⟩
theorem TX (i:Nat):Ko.acts i=[]:=rfl
theorem TY (i:Nat):Ko.views i=none:=rfl
attribute [go_sem] TX TY Tryz.ntmps127 Tryz.results127
theorem Bd {s:GShow}{res:Bool}(h:jN s=some res):ao Tryz.prog 127 [.agg (GShow.encS s)] [] (.lit (.bool res)) []:=by
 refine aj (ra:=[]) (md:=mdT) hT (hi:=Ko) Tryz.func127 rfl rfl (by decide +kernel) (by simp) ?_
 unfold jN at h
 obtain ⟨h1,h⟩|⟨h1,h⟩:=af h
 ·cases h
  simp(config:=cS)only[go_sem,eqT h1]
 ·obtain ⟨h2,h⟩|⟨h2,h⟩:=af h
  ·cases h
   simp(config:=cS)only[go_sem,eqF h1,eqT h2]
  ·obtain ⟨x1001,g3,h⟩:=ae h
   obtain ⟨h5,h6⟩:=dC (k:=0) g3
   obtain ⟨h7,h⟩|⟨h7,h⟩:=af h
   ·cases h
    simp(config:=cS)only[go_sem,eqF h1,eqF h2,h5,h6,eqT h7]
   ·obtain ⟨h8,h⟩|⟨h8,h⟩:=af h
    ·obtain ⟨q1006,l9,h⟩:=ae h
     simp(config:=cS)only[go_sem,eqF h1,eqF h2,h5,h6,eqF h7,eqT h8]
     refine an (m1:=.mk) (m2:=.mk) [.nf [1,35,36,37] [64]] (pw s.nodes ((s.nodes.length:Nat):Int) s.ties s.horizon) l9 ?_ ?_
     ·simp(config:=cS)only[go_sem]
     ·intro nb10 sb10 bb10 b10 gb10
      obtain ⟨v37_1,eb10⟩:∃ v,v=sb10:=⟨_,rfl⟩;subst eb10
      unfold eh at b10
      try dsimp only at b10
      obtain ⟨h11,b10⟩|⟨h11,b10⟩:=af b10
      ·obtain ⟨x1002,g12,b10⟩:=ae b10
       obtain ⟨h13,h14,h15⟩:=ai g12
       obtain ⟨r1003,g16,b10⟩:=ae b10
       simp(config:=cS)only[go_sem,eqT h11,h13,h14,h15]
       refine ag (Eo g16) ?_
       obtain ⟨h17,b10⟩|⟨h17,b10⟩:=af b10
       ·obtain ⟨h18,b10⟩:=ah b10
        obtain ⟨h19,b10⟩:=ah b10
        obtain ⟨q1005,l20,b10⟩:=ae b10
        simp(config:=cS)only[go_sem,eZt h17,eqT h18,eqT h19]
        refine an (m1:=.mk) (m2:=.mk) [.nf [1,4,35,36,37,48,49,50] [64,256]] (pv s.nodes ((s.nodes.length:Nat):Int) v37_1 (s.nodes.take v37_1.toNat) (((s.nodes.take v37_1.toNat).length:Nat):Int) s.ties s.horizon x1002.name x1002.label x1002.watch) l20 ?_ ?_
        ·simp(config:=cS)only[go_sem]
        ·intro nb21 sb21 bb21 b21 gb21
         obtain ⟨v50_2,eb21⟩:∃ v,v=sb21:=⟨_,rfl⟩;subst eb21
         unfold eg at b21
         try dsimp only at b21
         obtain ⟨h22,b21⟩|⟨h22,b21⟩:=af b21
         ·obtain ⟨x1004,g23,b21⟩:=ae b21
          obtain ⟨h24,h25,h26⟩:=ai g23
          obtain ⟨h27,b21⟩|⟨h27,b21⟩:=af b21
          ·cases b21
           have e28:=(ak gb21).symm
           subst e28
           try dsimp only at b10
           cases b10
           have e29:=(ak gb10).symm
           subst e29
           try dsimp only at h
           cases h
           simp(config:=cS)only[go_sem,eqT h22,h24,h25,h26,eqT h27]
          ·obtain ⟨h30,b21⟩|⟨h30,b21⟩:=af b21
           ·cases b21
            simp(config:=cS)only[go_sem,eqT h22,h24,h25,h26,eqF h27,eqT h30]
            refine ap gb21 ?_
            simp(config:=cS)only[go_sem]
           ·obtain ⟨h31,b21⟩|⟨h31,b21⟩:=af b21
            ·cases b21
             have e32:=(ak gb21).symm
             subst e32
             try dsimp only at b10
             cases b10
             have e33:=(ak gb10).symm
             subst e33
             try dsimp only at h
             cases h
             simp(config:=cS)only[go_sem,eqT h22,h24,h25,h26,eqF h27,eqF h30,eqT h31]
            ·cases b21
             simp(config:=cS)only[go_sem,eqT h22,h24,h25,h26,eqF h27,eqF h30,eqF h31]
             refine ap gb21 ?_
             simp(config:=cS)only[go_sem]
         ·cases b21
          have e34:=(ak gb21).symm
          subst e34
          try dsimp only at b10
          cases b10
          simp(config:=cS)only[go_sem,eqF h22]
          refine ap gb10 ?_
          simp(config:=cS)only[go_sem]
       ·cases b10
        have e35:=(ak gb10).symm
        subst e35
        try dsimp only at h
        cases h
        simp(config:=cS)only[go_sem,eZf h17]
      ·cases b10
       have e36:=(ak gb10).symm
       subst e36
       try dsimp only at h
       cases h
       simp(config:=cS)only[go_sem,eqF h11]
    ·cases h
     simp(config:=cS)only[go_sem,eqF h1,eqF h2,h5,h6,eqF h7,eqF h8]
def Kq:Hint where
 acts:=fun _=>[]
 draws:=fun
  | _=>⟨.nil,[],[]⟩
theorem TZ (i:Nat):Kq.acts i=[]:=rfl
theorem Ua (i:Nat):Kq.views i=none:=rfl
attribute [go_sem] TZ Ua Tryz.ntmps206 Tryz.results206
theorem vz {n:Int}{node:Int}{res:Bool}(h:jH n node=some res):ao Tryz.prog 206 [.lit (.int .i64 n),.lit (.int .i64 node)] [] (.lit (.bool res)) []:=by
 refine aj (ra:=[]) (md:=mdT) hT (hi:=Kq) Tryz.func206 rfl rfl (by decide +kernel) (by simp) ?_
 unfold jH at h
 obtain ⟨h1,h⟩|⟨h1,h⟩:=af h
 ·cases h
  simp(config:=cS)only[go_sem,eqT h1]
 ·cases h
  simp(config:=cS)only[go_sem,eqF h1]
def Kr:Hint where
 acts:=fun _=>[]
 draws:=fun
  | _=>⟨.nil,[],[]⟩
theorem Ub (i:Nat):Kr.acts i=[]:=rfl
theorem Uc (i:Nat):Kr.views i=none:=rfl
attribute [go_sem] Ub Uc Tryz.ntmps207 Tryz.results207
theorem vA {n:Int}{res:Bool}(h:jI n=some res):ao Tryz.prog 207 [.lit (.int .i64 n)] [] (.lit (.bool res)) []:=by
 refine aj (ra:=[]) (md:=mdT) hT (hi:=Kr) Tryz.func207 rfl rfl (by decide +kernel) (by simp) ?_
 unfold jI at h
 obtain ⟨h1,h⟩|⟨h1,h⟩:=af h
 ·cases h
  simp(config:=cS)only[go_sem,eqT h1]
 ·cases h
  simp(config:=cS)only[go_sem,eqF h1]
def mS (v0:List Int)(v1:List Int)(v12:Int)(v13:Int):St:=⟨[(0,.sl (ab eI v0)),(1,.sl (ab eI v1)),(12,.lit (.int .i64 v12)),(13,.lit (.int .i64 v13))],[],2⟩
attribute [go_sem] mS
@[go_sem] def hi148_6:DT:=.i2 0 (.i2 1 (.i2 2 (.i2 3 (.i2 4 (.i2 5 (.i2 6 (.i2 7 (.i2 8 .nil))))))))
def Fp:Hint where
 acts:=fun _=>[]
 draws:=fun
  | 6=>⟨hi148_6,[[],[],[0,1],[0,1,2],[],[],[4,5],[4,5,6],.range 8],.range 9⟩
  | _=>⟨.nil,[],[]⟩
theorem Ud (i:Nat):Fp.acts i=[]:=rfl
theorem Ue (i:Nat):Fp.views i=none:=rfl
attribute [go_sem] Ud Ue Tryz.ntmps148 Tryz.results148
@[go_sem] theorem aah:(Fp.draws 6).order=hi148_6:=rfl
theorem gN {v0:List Int}{v1:List Int}{res:Bool}(h:bX v0 v1=some res):ao Tryz.prog 148 [.sl (ab eI v0),.sl (ab eI v1)] [] (.lit (.bool res)) []:=by
 refine aj (ra:=[]) (md:=mdT) hT (hi:=Fp) Tryz.func148 rfl rfl (by decide +kernel) (by simp) ?_
 unfold bX at h
 obtain ⟨h1,h⟩|⟨h1,h⟩:=af h
 ·obtain ⟨q1003,l2,h⟩:=ae h
  simp(config:=cS)only[go_sem,eqT h1]
  refine an (m1:=.mk) (m2:=.mk) [.nf [0,1,12,13] []] (mS v0 v1 ((v0.length:Nat):Int)) l2 ?_ ?_
  ·simp(config:=cS)only[go_sem]
  ·intro nb3 sb3 bb3 b3 gb3
   obtain ⟨v13_1,eb3⟩:∃ v,v=sb3:=⟨_,rfl⟩;subst eb3
   unfold cR at b3
   try dsimp only at b3
   obtain ⟨h4,b3⟩|⟨h4,b3⟩:=af b3
   ·obtain ⟨x1001,g5,b3⟩:=ae b3
    obtain ⟨h6,h7,h8⟩:=ai g5
    obtain ⟨x1002,g9,b3⟩:=ae b3
    obtain ⟨h10,h11,h12⟩:=ai g9
    obtain ⟨h13,b3⟩|⟨h13,b3⟩:=af b3
    ·cases b3
     simp(config:=cS)only[go_sem,eqT h4,h6,h7,h8,h10,h11,h12,eqT h13]
     refine ap gb3 ?_
     simp(config:=cS)only[go_sem]
    ·cases b3
     have e14:=(ak gb3).symm
     subst e14
     try dsimp only at h
     cases h
     simp(config:=cS)only[go_sem,eqT h4,h6,h7,h8,h10,h11,h12,eqF h13]
   ·cases b3
    have e15:=(ak gb3).symm
    subst e15
    try dsimp only at h
    cases h
    simp(config:=cS)only[go_sem,eqF h4]
 ·cases h
  simp(config:=cS)only[go_sem,eqF h1]
def kQ (v0:List GTie)(f_v1:Nat)(k_v1:List AV)(v7:Int)(v8:Int):St:=⟨[(0,.sl (ab GTie.enc v0)),(1,.fn f_v1 k_v1),(7,.lit (.int .i64 v7)),(8,.lit (.int .i64 v8))],[],2⟩
attribute [go_sem] kQ
def Ks:Hint where
 acts:=fun _=>[]
 draws:=fun
  | _=>⟨.nil,[],[]⟩
theorem Uf (i:Nat):Ks.acts i=[]:=rfl
theorem Ug (i:Nat):Ks.views i=none:=rfl
attribute [go_sem] Uf Ug Tryz.ntmps225 Tryz.results225
theorem om {v0:List GTie}{v1:GTie→Option Bool}{f_v1:Nat}{k_v1:List AV}(hp_v1:∀ y0 r,v1 y0=some r→ao Tryz.prog f_v1 ([.agg (GTie.enc y0)] ++ k_v1) [] (.lit (.bool r)) [])(hc_v1:KC k_v1)(hm_v1:∀ a,mdT f_v1 a=⟨[],false⟩)(hk_v1:spf f_v1=false){res:Int}(h:cH v0 v1=some res):ao Tryz.prog 225 [.sl (ab GTie.enc v0),.fn f_v1 k_v1] [] (.lit (.int .i64 res)) []:=by
 refine aj (ra:=[]) (md:=mdT) hT (hi:=Ks) Tryz.func225 rfl rfl (by decide +kernel) (by simp) ?_
 unfold cH at h
 obtain ⟨q1003,l1,h⟩:=ae h
 simp(config:=cS)only[go_sem,hc_v1.1,hc_v1.2,hm_v1,hk_v1]
 refine an (m1:=.mk) (m2:=.mk) [.nf [0,1,7,8] []] (kQ v0 f_v1 k_v1 ((v0.length:Nat):Int)) l1 ?_ ?_
 ·simp(config:=cS)only[go_sem,hc_v1.1,hc_v1.2,hm_v1,hk_v1]
 ·intro nb2 sb2 bb2 b2 gb2
  obtain ⟨v8_1,eb2⟩:∃ v,v=sb2:=⟨_,rfl⟩;subst eb2
  unfold cd at b2
  try dsimp only at b2
  obtain ⟨h3,b2⟩|⟨h3,b2⟩:=af b2
  ·obtain ⟨x1001,g4,b2⟩:=ae b2
   obtain ⟨h5,h6,h7⟩:=ai g4
   obtain ⟨r1002,g8,b2⟩:=ae b2
   simp(config:=cS)only[go_sem,hc_v1.1,hc_v1.2,hm_v1,hk_v1,eqT h3,h5,h6,h7]
   refine ag (hp_v1 _ _ g8) ?_
   obtain ⟨h9,b2⟩|⟨h9,b2⟩:=af b2
   ·cases b2
    have e10:=(ak gb2).symm
    subst e10
    try dsimp only at h
    cases h
    simp(config:=cS)only[go_sem,hc_v1.1,hc_v1.2,hm_v1,hk_v1,eqT h3,h5,h6,h7,eZt h9]
   ·cases b2
    simp(config:=cS)only[go_sem,hc_v1.1,hc_v1.2,hm_v1,hk_v1,eqT h3,h5,h6,h7,eZf h9]
    refine ap gb2 ?_
    simp(config:=cS)only[go_sem,hc_v1.1,hc_v1.2,hm_v1,hk_v1,eqT h3,h5,h6,h7,eZf h9]
  ·cases b2
   have e11:=(ak gb2).symm
   subst e11
   try dsimp only at h
   cases h
   simp(config:=cS)only[go_sem,hc_v1.1,hc_v1.2,hm_v1,hk_v1,eqF h3]
def Kt:Hint where
 acts:=fun _=>[]
 draws:=fun
  | _=>⟨.nil,[],[]⟩
theorem Uh (i:Nat):Kt.acts i=[]:=rfl
theorem Ui (i:Nat):Kt.views i=none:=rfl
attribute [go_sem] Uh Ui Tryz.ntmps155 Tryz.results155
theorem mB {v0:List GTie}{v1:GTie→Option Bool}{f_v1:Nat}{k_v1:List AV}(hp_v1:∀ y0 r,v1 y0=some r→ao Tryz.prog f_v1 ([.agg (GTie.enc y0)] ++ k_v1) [] (.lit (.bool r)) [])(hc_v1:KC k_v1)(hm_v1:∀ a,mdT f_v1 a=⟨[],false⟩)(hk_v1:spf f_v1=false){res:Bool}(h:bG v0 v1=some res):ao Tryz.prog 155 [.sl (ab GTie.enc v0),.fn f_v1 k_v1] [] (.lit (.bool res)) []:=by
 refine aj (ra:=[]) (md:=mdT) hT (hi:=Kt) Tryz.func155 rfl rfl (by decide +kernel) (by simp) ?_
 unfold bG at h
 obtain ⟨r1001,g1,h⟩:=ae h
 simp(config:=cS)only[go_sem,hc_v1.1,hc_v1.2,hm_v1,hk_v1]
 refine ag (om hp_v1 hc_v1 hm_v1 hk_v1 g1) ?_
 cases h
 simp(config:=cS)only[go_sem]
def Ku:Hint where
 acts:=fun _=>[]
 draws:=fun
  | _=>⟨.nil,[],[]⟩
theorem Uj (i:Nat):Ku.acts i=[]:=rfl
theorem Uk (i:Nat):Ku.views i=none:=rfl
attribute [go_sem] Uj Uk Tryz.ntmps208 Tryz.results208
theorem xH {u:GTie}{t:GTie}{res:Bool}(h:io u t=some res):ao Tryz.prog 208 [.agg (GTie.enc u),.loc [.lit (.int .i64 t.from_),.lit (.int .i64 t.to),.lit (.int .i64 t.low),.lit (.int .i64 t.high),.lit (.bool t.free)]] [] (.lit (.bool res)) []:=by
 refine aj (ra:=[]) (md:=mdT) hT (hi:=Ku) Tryz.func208 rfl rfl (by decide +kernel) (by simp) ?_
 unfold io at h
 obtain ⟨h1,h⟩|⟨h1,h⟩:=af h
 ·cases h
  simp(config:=cS)only[go_sem,eZt h1]
 ·cases h
  simp(config:=cS)only[go_sem,eZf h1]
def qm (v6:List GTie)(v7:Int)(s_0:List GNode)(s_2:Int)(v8:Int):St:=⟨[(1,.ptr 64 1 0 0),(6,.sl (ab GTie.enc v6)),(7,.lit (.int .i64 v7)),(8,.lit (.int .i64 v8))],[(64,1,.var [.sl (ab GNode.encS s_0),.sl (ab GTie.enc v6),.lit (.int .i64 s_2)])],2⟩
attribute [go_sem] qm
@[go_sem] def hi128_7:DT:=.i2 0 (.i2 1 (.i2 2 (.i2 3 (.i2 4 (.i2 5 (.i2 6 (.i2 7 (.i2 8 (.i2 9 (.i2 10 (.i2 11 (.i2 12 (.i2 13 (.i2 14 (.i2 15 (.i2 16 (.i2 17 (.i2 18 (.i2 19 (.i2 20 (.i2 21 (.i2 22 (.i2 23 (.i2 24 (.i2 25 (.i2 26 (.i2 27 (.i2 28 (.i2 29 (.i2 30 (.i2 31 (.i2 32 (.i2 33 (.i2 34 (.i2 35 .nil)))))))))))))))))))))))))))))))))))
def Fq:Hint where
 acts:=fun _=>[]
 draws:=fun
  | 7=>⟨hi128_7,[[],[0],[0,1],[0,1,2],[0,1,2,3],.range 5,.range 6,.range 7,.range 8,.range 9,.range 10,.range 9,[0,1,2,3,4,5,6,7,8,11],.range 13,.range 14,.range 15,.range 16,.range 17,.range 18,.range 19,.range 20,.range 19,[0,1,2,3,4,5,6,7,8,9,10,11,12,13,14,15,16,17,18,21],.range 23,.range 24,.range 25,.range 19,[0,1,2,3,4,5,6,7,8,9,10,11,12,13,14,15,16,17,18,26],.range 19,[0,1,2,3,4,5,6,7,8,9,10,11,12,13,14,15,16,17,18,28],[0,1,2,3,4,5,6,7,8,9,10,11,12,13,14,15,16,17,18,26,27,28,29],[0,1,2,3,4,5,6,7,8,9,10,11,12,13,14,15,16,17,18,26,27,28,29,30],[0,1,2,3,4,5,6,7,8,9,10,11,12,13,14,15,16,17,18,26,27,28,29,30,31],.range 33,.range 34,.range 35],.range 36⟩
  | _=>⟨.nil,[],[]⟩
theorem Ul (i:Nat):Fq.acts i=[]:=rfl
theorem Um (i:Nat):Fq.views i=none:=rfl
attribute [go_sem] Ul Um Tryz.ntmps128 Tryz.results128
@[go_sem] theorem aai:(Fq.draws 7).order=hi128_7:=rfl
theorem CC {s:GShow}{res:Bool}(h:kU s=some res):ao Tryz.prog 128 [.agg (GShow.encS s)] [] (.lit (.bool res)) []:=by
 refine aj (ra:=[]) (md:=mdT) hT (hi:=Fq) Tryz.func128 rfl rfl (by decide +kernel) (by simp) ?_
 unfold kU at h
 obtain ⟨q1010,l1,h⟩:=ae h
 simp(config:=cS)only[go_sem]
 refine an (m1:=.mk) (m2:=.mk) [.nf [1,6,7,8] [64]] (qm s.ties ((s.ties.length:Nat):Int) s.nodes s.horizon) l1 ?_ ?_
 ·simp(config:=cS)only[go_sem]
 ·intro nb2 sb2 bb2 b2 gb2
  obtain ⟨v8_1,eb2⟩:∃ v,v=sb2:=⟨_,rfl⟩;subst eb2
  unfold fm at b2
  try dsimp only at b2
  obtain ⟨h3,b2⟩|⟨h3,b2⟩:=af b2
  ·obtain ⟨x1001,g4,b2⟩:=ae b2
   obtain ⟨h5,h6,h7⟩:=ai g4
   obtain ⟨r1002,g8,b2⟩:=ae b2
   simp(config:=cS)only[go_sem,eqT h3,h5,h6,h7]
   refine ag (vz g8) ?_
   obtain ⟨h9,b2⟩|⟨h9,b2⟩:=af b2
   ·obtain ⟨r1003,g10,b2⟩:=ae b2
    simp(config:=cS)only[go_sem,eqT h3,h5,h6,h7,eZt h9]
    refine ag (vz g10) ?_
    obtain ⟨h11,b2⟩|⟨h11,b2⟩:=af b2
    ·obtain ⟨h12,b2⟩|⟨h12,b2⟩:=af b2
     ·cases b2
      have e13:=(ak gb2).symm
      subst e13
      try dsimp only at h
      cases h
      simp(config:=cS)only[go_sem,eqT h3,h5,h6,h7,eZt h9,eZt h11,eqT h12]
     ·obtain ⟨r1004,g14,b2⟩:=ae b2
      simp(config:=cS)only[go_sem,eqT h3,h5,h6,h7,eZt h9,eZt h11,eqF h12]
      refine ag (vA g14) ?_
      obtain ⟨h15,b2⟩|⟨h15,b2⟩:=af b2
      ·obtain ⟨r1005,g16,b2⟩:=ae b2
       simp(config:=cS)only[go_sem,eqT h3,h5,h6,h7,eZt h9,eZt h11,eqF h12,eZt h15]
       refine ag (vA g16) ?_
       obtain ⟨h17,b2⟩|⟨h17,b2⟩:=af b2
       ·obtain ⟨h18,b2⟩|⟨h18,b2⟩:=af b2
        ·cases b2
         have e19:=(ak gb2).symm
         subst e19
         try dsimp only at h
         cases h
         simp(config:=cS)only[go_sem,eqT h3,h5,h6,h7,eZt h9,eZt h11,eqF h12,eZt h15,eZt h17,eqT h18]
        ·obtain ⟨h20,b2⟩|⟨h20,b2⟩:=af b2
         ·obtain ⟨h21,b2⟩|⟨h21,b2⟩:=af b2
          ·cases b2
           have e22:=(ak gb2).symm
           subst e22
           try dsimp only at h
           cases h
           simp(config:=cS)only[go_sem,eqT h3,h5,h6,h7,eZt h9,eZt h11,eqF h12,eZt h15,eZt h17,eqF h18,eZt h20,eqT h21]
          ·obtain ⟨h23,b2⟩|⟨h23,b2⟩:=af b2
           ·cases b2
            have e24:=(ak gb2).symm
            subst e24
            try dsimp only at h
            cases h
            simp(config:=cS)only[go_sem,eqT h3,h5,h6,h7,eZt h9,eZt h11,eqF h12,eZt h15,eZt h17,eqF h18,eZt h20,eqF h21,eqT h23]
           ·obtain ⟨x1006,g25,b2⟩:=ae b2
            obtain ⟨h26,h27,h28⟩:=ai g25
            obtain ⟨h29,b2⟩|⟨h29,b2⟩:=af b2
            ·obtain ⟨x1007,g30,b2⟩:=ae b2
             obtain ⟨h31,h32,h33⟩:=ai g30
             obtain ⟨r1008,g34,b2⟩:=ae b2
             simp(config:=cS)only[go_sem,eqT h3,h5,h6,h7,eZt h9,eZt h11,eqF h12,eZt h15,eZt h17,eqF h18,eZt h20,eqF h21,eqF h23,h26,h27,h28,eqT h29,h31,h32,h33]
             refine ag (gN g34) ?_
             obtain ⟨h35,b2⟩|⟨h35,b2⟩:=af b2
             ·obtain ⟨h36,b2⟩:=ah b2
              obtain ⟨h37,b2⟩:=ah b2
              obtain ⟨r1009,g38,b2⟩:=ae b2
              simp(config:=cS)only[go_sem,eqT h3,h5,h6,h7,eZt h9,eZt h11,eqF h12,eZt h15,eZt h17,eqF h18,eZt h20,eqF h21,eqF h23,h26,h27,h28,eqT h29,h31,h32,h33,eZt h35,eqT h36,eqT h37]
              refine ag (mB (by exact fun _ _ hr=>xH hr) (by refine ⟨fun _=>?_,fun _=>?_⟩ <;> simp only [go_sem]) (fun _=>rfl) rfl g38) ?_
              obtain ⟨h39,b2⟩|⟨h39,b2⟩:=af b2
              ·cases b2
               have e40:=(ak gb2).symm
               subst e40
               try dsimp only at h
               cases h
               simp(config:=cS)only[go_sem,eqT h3,h5,h6,h7,eZt h9,eZt h11,eqF h12,eZt h15,eZt h17,eqF h18,eZt h20,eqF h21,eqF h23,h26,h27,h28,eqT h29,h31,h32,h33,eZt h35,eqT h36,eqT h37,eZt h39]
              ·cases b2
               simp(config:=cS)only[go_sem,eqT h3,h5,h6,h7,eZt h9,eZt h11,eqF h12,eZt h15,eZt h17,eqF h18,eZt h20,eqF h21,eqF h23,h26,h27,h28,eqT h29,h31,h32,h33,eZt h35,eqT h36,eqT h37,eZf h39]
               refine ap gb2 ?_
               simp(config:=cS)only[go_sem,eqT h3,h5,h6,h7,eZt h9,eZt h11,eqF h12,eZt h15,eZt h17,eqF h18,eZt h20,eqF h21,eqF h23,h26,h27,h28,eqT h29,h31,h32,h33,eZt h35,eqT h36,eqT h37,eZf h39]
             ·cases b2
              have e41:=(ak gb2).symm
              subst e41
              try dsimp only at h
              cases h
              simp(config:=cS)only[go_sem,eqT h3,h5,h6,h7,eZt h9,eZt h11,eqF h12,eZt h15,eZt h17,eqF h18,eZt h20,eqF h21,eqF h23,h26,h27,h28,eqT h29,h31,h32,h33,eZf h35]
            ·cases b2
             have e42:=(ak gb2).symm
             subst e42
             try dsimp only at h
             cases h
             simp(config:=cS)only[go_sem,eqT h3,h5,h6,h7,eZt h9,eZt h11,eqF h12,eZt h15,eZt h17,eqF h18,eZt h20,eqF h21,eqF h23,h26,h27,h28,eqF h29]
         ·cases b2
          simp(config:=cS)only[go_sem,eqT h3,h5,h6,h7,eZt h9,eZt h11,eqF h12,eZt h15,eZt h17,eqF h18,eZf h20]
          refine ap gb2 ?_
          simp(config:=cS)only[go_sem,eqT h3,h5,h6,h7,eZt h9,eZt h11,eqF h12,eZt h15,eZt h17,eqF h18,eZf h20]
       ·cases b2
        have e43:=(ak gb2).symm
        subst e43
        try dsimp only at h
        cases h
        simp(config:=cS)only[go_sem,eqT h3,h5,h6,h7,eZt h9,eZt h11,eqF h12,eZt h15,eZf h17]
      ·cases b2
       have e44:=(ak gb2).symm
       subst e44
       try dsimp only at h
       cases h
       simp(config:=cS)only[go_sem,eqT h3,h5,h6,h7,eZt h9,eZt h11,eqF h12,eZf h15]
    ·cases b2
     have e45:=(ak gb2).symm
     subst e45
     try dsimp only at h
     cases h
     simp(config:=cS)only[go_sem,eqT h3,h5,h6,h7,eZt h9,eZf h11]
   ·cases b2
    have e46:=(ak gb2).symm
    subst e46
    try dsimp only at h
    cases h
    simp(config:=cS)only[go_sem,eqT h3,h5,h6,h7,eZf h9]
  ·cases b2
   have e47:=(ak gb2).symm
   subst e47
   try dsimp only at h
   cases h
   simp(config:=cS)only[go_sem,eqF h3]
def kR (v0:List Int)(f_v1:Nat)(k_v1:List AV)(v7:Int)(v8:Int):St:=⟨[(0,.sl (ab eI v0)),(1,.fn f_v1 k_v1),(7,.lit (.int .i64 v7)),(8,.lit (.int .i64 v8))],[],2⟩
attribute [go_sem] kR
def Kv:Hint where
 acts:=fun _=>[]
 draws:=fun
  | _=>⟨.nil,[],[]⟩
theorem Un (i:Nat):Kv.acts i=[]:=rfl
theorem Uo (i:Nat):Kv.views i=none:=rfl
attribute [go_sem] Un Uo Tryz.ntmps209 Tryz.results209
theorem oo {v0:List Int}{v1:Int→Option Bool}{f_v1:Nat}{k_v1:List AV}(hp_v1:∀ y0 r,v1 y0=some r→ao Tryz.prog f_v1 ([.lit (.int .i64 y0)] ++ k_v1) [] (.lit (.bool r)) [])(hc_v1:KC k_v1)(hm_v1:∀ a,mdT f_v1 a=⟨[],false⟩)(hk_v1:spf f_v1=false){res:Int}(h:cI v0 v1=some res):ao Tryz.prog 209 [.sl (ab eI v0),.fn f_v1 k_v1] [] (.lit (.int .i64 res)) []:=by
 refine aj (ra:=[]) (md:=mdT) hT (hi:=Kv) Tryz.func209 rfl rfl (by decide +kernel) (by simp) ?_
 unfold cI at h
 obtain ⟨q1003,l1,h⟩:=ae h
 simp(config:=cS)only[go_sem,hc_v1.1,hc_v1.2,hm_v1,hk_v1]
 refine an (m1:=.mk) (m2:=.mk) [.nf [0,1,7,8] []] (kR v0 f_v1 k_v1 ((v0.length:Nat):Int)) l1 ?_ ?_
 ·simp(config:=cS)only[go_sem,hc_v1.1,hc_v1.2,hm_v1,hk_v1]
 ·intro nb2 sb2 bb2 b2 gb2
  obtain ⟨v8_1,eb2⟩:∃ v,v=sb2:=⟨_,rfl⟩;subst eb2
  unfold ce at b2
  try dsimp only at b2
  obtain ⟨h3,b2⟩|⟨h3,b2⟩:=af b2
  ·obtain ⟨x1001,g4,b2⟩:=ae b2
   obtain ⟨h5,h6,h7⟩:=ai g4
   obtain ⟨r1002,g8,b2⟩:=ae b2
   simp(config:=cS)only[go_sem,hc_v1.1,hc_v1.2,hm_v1,hk_v1,eqT h3,h5,h6,h7]
   refine ag (hp_v1 _ _ g8) ?_
   obtain ⟨h9,b2⟩|⟨h9,b2⟩:=af b2
   ·cases b2
    have e10:=(ak gb2).symm
    subst e10
    try dsimp only at h
    cases h
    simp(config:=cS)only[go_sem,hc_v1.1,hc_v1.2,hm_v1,hk_v1,eqT h3,h5,h6,h7,eZt h9]
   ·cases b2
    simp(config:=cS)only[go_sem,hc_v1.1,hc_v1.2,hm_v1,hk_v1,eqT h3,h5,h6,h7,eZf h9]
    refine ap gb2 ?_
    simp(config:=cS)only[go_sem,hc_v1.1,hc_v1.2,hm_v1,hk_v1,eqT h3,h5,h6,h7,eZf h9]
  ·cases b2
   have e11:=(ak gb2).symm
   subst e11
   try dsimp only at h
   cases h
   simp(config:=cS)only[go_sem,hc_v1.1,hc_v1.2,hm_v1,hk_v1,eqF h3]
def Kw:Hint where
 acts:=fun _=>[]
 draws:=fun
  | _=>⟨.nil,[],[]⟩
theorem Up (i:Nat):Kw.acts i=[]:=rfl
theorem Uq (i:Nat):Kw.views i=none:=rfl
attribute [go_sem] Up Uq Tryz.ntmps129 Tryz.results129
theorem eQ {v0:List Int}{v1:Int→Option Bool}{f_v1:Nat}{k_v1:List AV}(hp_v1:∀ y0 r,v1 y0=some r→ao Tryz.prog f_v1 ([.lit (.int .i64 y0)] ++ k_v1) [] (.lit (.bool r)) [])(hc_v1:KC k_v1)(hm_v1:∀ a,mdT f_v1 a=⟨[],false⟩)(hk_v1:spf f_v1=false){res:Bool}(h:bb v0 v1=some res):ao Tryz.prog 129 [.sl (ab eI v0),.fn f_v1 k_v1] [] (.lit (.bool res)) []:=by
 refine aj (ra:=[]) (md:=mdT) hT (hi:=Kw) Tryz.func129 rfl rfl (by decide +kernel) (by simp) ?_
 unfold bb at h
 obtain ⟨r1001,g1,h⟩:=ae h
 simp(config:=cS)only[go_sem,hc_v1.1,hc_v1.2,hm_v1,hk_v1]
 refine ag (oo hp_v1 hc_v1 hm_v1 hk_v1 g1) ?_
 cases h
 simp(config:=cS)only[go_sem]
def kx (v0:List GNode)(f_v1:Nat)(k_v1:List AV)(v7:Int)(v8:Int):St:=⟨[(0,.sl (ab GNode.encS v0)),(1,.fn f_v1 k_v1),(7,.lit (.int .i64 v7)),(8,.lit (.int .i64 v8))],[],2⟩
attribute [go_sem] kx
def Kx:Hint where
 acts:=fun _=>[]
 draws:=fun
  | _=>⟨.nil,[],[]⟩
theorem Ur (i:Nat):Kx.acts i=[]:=rfl
theorem Us (i:Nat):Kx.views i=none:=rfl
attribute [go_sem] Ur Us Tryz.ntmps215 Tryz.results215
theorem tn {v0:List GNode}{v1:GNode→Option Bool}{f_v1:Nat}{k_v1:List AV}(hp_v1:∀ y0 r,v1 y0=some r→ao Tryz.prog f_v1 ([.agg (GNode.encS y0)] ++ k_v1) [] (.lit (.bool r)) [])(hc_v1:KC k_v1)(hm_v1:∀ a,mdT f_v1 a=⟨[],false⟩)(hk_v1:spf f_v1=false){res:Int}(h:dz v0 v1=some res):ao Tryz.prog 215 [.sl (ab GNode.encS v0),.fn f_v1 k_v1] [] (.lit (.int .i64 res)) []:=by
 refine aj (ra:=[]) (md:=mdT) hT (hi:=Kx) Tryz.func215 rfl rfl (by decide +kernel) (by simp) ?_
 unfold dz at h
 obtain ⟨q1003,l1,h⟩:=ae h
 simp(config:=cS)only[go_sem,hc_v1.1,hc_v1.2,hm_v1,hk_v1]
 refine an (m1:=.mk) (m2:=.mk) [.nf [0,1,7,8] []] (kx v0 f_v1 k_v1 ((v0.length:Nat):Int)) l1 ?_ ?_
 ·simp(config:=cS)only[go_sem,hc_v1.1,hc_v1.2,hm_v1,hk_v1]
 ·intro nb2 sb2 bb2 b2 gb2
  obtain ⟨v8_1,eb2⟩:∃ v,v=sb2:=⟨_,rfl⟩;subst eb2
  unfold bT at b2
  try dsimp only at b2
  obtain ⟨h3,b2⟩|⟨h3,b2⟩:=af b2
  ·obtain ⟨x1001,g4,b2⟩:=ae b2
   obtain ⟨h5,h6,h7⟩:=ai g4
   obtain ⟨r1002,g8,b2⟩:=ae b2
   simp(config:=cS)only[go_sem,hc_v1.1,hc_v1.2,hm_v1,hk_v1,eqT h3,h5,h6,h7]
   refine ag (hp_v1 _ _ g8) ?_
   obtain ⟨h9,b2⟩|⟨h9,b2⟩:=af b2
   ·cases b2
    have e10:=(ak gb2).symm
    subst e10
    try dsimp only at h
    cases h
    simp(config:=cS)only[go_sem,hc_v1.1,hc_v1.2,hm_v1,hk_v1,eqT h3,h5,h6,h7,eZt h9]
   ·cases b2
    simp(config:=cS)only[go_sem,hc_v1.1,hc_v1.2,hm_v1,hk_v1,eqT h3,h5,h6,h7,eZf h9]
    refine ap gb2 ?_
    simp(config:=cS)only[go_sem,hc_v1.1,hc_v1.2,hm_v1,hk_v1,eqT h3,h5,h6,h7,eZf h9]
  ·cases b2
   have e11:=(ak gb2).symm
   subst e11
   try dsimp only at h
   cases h
   simp(config:=cS)only[go_sem,hc_v1.1,hc_v1.2,hm_v1,hk_v1,eqF h3]
def Ky:Hint where
 acts:=fun _=>[]
 draws:=fun
  | _=>⟨.nil,[],[]⟩
theorem Ut (i:Nat):Ky.acts i=[]:=rfl
theorem Uu (i:Nat):Ky.views i=none:=rfl
attribute [go_sem] Ut Uu Tryz.ntmps216 Tryz.results216
theorem xI {n:GNode}{p:Int}{res:Bool}(h:kF n p=some res):ao Tryz.prog 216 [.agg (GNode.encS n),.loc [.lit (.int .i64 p)]] [] (.lit (.bool res)) []:=by
 refine aj (ra:=[]) (md:=mdT) hT (hi:=Ky) Tryz.func216 rfl rfl (by decide +kernel) (by simp) ?_
 unfold kF at h
 obtain ⟨h1,h⟩|⟨h1,h⟩:=af h
 ·cases h
  simp(config:=cS)only[go_sem,eqT h1]
 ·cases h
  simp(config:=cS)only[go_sem,eqF h1]
def Kz:Hint where
 acts:=fun _=>[]
 draws:=fun
  | _=>⟨.nil,[],[]⟩
theorem Uv (i:Nat):Kz.acts i=[]:=rfl
theorem Uw (i:Nat):Kz.views i=none:=rfl
attribute [go_sem] Uv Uw Tryz.ntmps141 Tryz.results141
theorem uz {s:GShow}{p:Int}{res:Int}(h:iZ s p=some res):ao Tryz.prog 141 [.agg (GShow.encS s),.lit (.int .i64 p)] [] (.lit (.int .i64 res)) []:=by
 refine aj (ra:=[]) (md:=mdT) hT (hi:=Kz) Tryz.func141 rfl rfl (by decide +kernel) (by simp) ?_
 unfold iZ at h
 obtain ⟨r1001,g1,h⟩:=ae h
 simp(config:=cS)only[go_sem]
 refine ag (tn (by exact fun _ _ hr=>xI hr) (by refine ⟨fun _=>?_,fun _=>?_⟩ <;> simp only [go_sem]) (fun _=>rfl) rfl g1) ?_
 cases h
 simp(config:=cS)only[go_sem]
def mT (v0:List Int)(v1:Int)(v7:Int)(v8:Int):St:=⟨[(0,.sl (ab eI v0)),(1,.lit (.int .i64 v1)),(7,.lit (.int .i64 v7)),(8,.lit (.int .i64 v8))],[],2⟩
attribute [go_sem] mT
def KA:Hint where
 acts:=fun _=>[]
 draws:=fun
  | _=>⟨.nil,[],[]⟩
theorem Ux (i:Nat):KA.acts i=[]:=rfl
theorem Uy (i:Nat):KA.views i=none:=rfl
attribute [go_sem] Ux Uy Tryz.ntmps145 Tryz.results145
theorem wv {v0:List Int}{v1:Int}{res:Int}(h:gO v0 v1=some res):ao Tryz.prog 145 [.sl (ab eI v0),.lit (.int .i64 v1)] [] (.lit (.int .i64 res)) []:=by
 refine aj (ra:=[]) (md:=mdT) hT (hi:=KA) Tryz.func145 rfl rfl (by decide +kernel) (by simp) ?_
 unfold gO at h
 obtain ⟨q1002,l1,h⟩:=ae h
 simp(config:=cS)only[go_sem]
 refine an (m1:=.mk) (m2:=.mk) [.nf [0,1,7,8] []] (mT v0 v1 ((v0.length:Nat):Int)) l1 ?_ ?_
 ·simp(config:=cS)only[go_sem]
 ·intro nb2 sb2 bb2 b2 gb2
  obtain ⟨v8_1,eb2⟩:∃ v,v=sb2:=⟨_,rfl⟩;subst eb2
  unfold cT at b2
  try dsimp only at b2
  obtain ⟨h3,b2⟩|⟨h3,b2⟩:=af b2
  ·obtain ⟨x1001,g4,b2⟩:=ae b2
   obtain ⟨h5,h6,h7⟩:=ai g4
   obtain ⟨h8,b2⟩|⟨h8,b2⟩:=af b2
   ·cases b2
    have e9:=(ak gb2).symm
    subst e9
    try dsimp only at h
    cases h
    simp(config:=cS)only[go_sem,eqT h3,h5,h6,h7,eqT h8]
   ·cases b2
    simp(config:=cS)only[go_sem,eqT h3,h5,h6,h7,eqF h8]
    refine ap gb2 ?_
    simp(config:=cS)only[go_sem]
  ·cases b2
   have e10:=(ak gb2).symm
   subst e10
   try dsimp only at h
   cases h
   simp(config:=cS)only[go_sem,eqF h3]
def hi90:Hint where
 acts:=fun _=>[]
 draws:=fun
  | _=>⟨.nil,[],[]⟩
theorem Yo (i:Nat):hi90.acts i=[]:=rfl
theorem Yp (i:Nat):hi90.views i=none:=rfl
attribute [go_sem] Yo Yp Tryz.ntmps90 Tryz.results90
theorem kS {v0:List Int}{v1:Int}{res:Bool}(h:cp v0 v1=some res):ao Tryz.prog 90 [.sl (ab eI v0),.lit (.int .i64 v1)] [] (.lit (.bool res)) []:=by
 refine aj (ra:=[]) (md:=mdT) hT (hi:=hi90) Tryz.func90 rfl rfl (by decide +kernel) (by simp) ?_
 unfold cp at h
 obtain ⟨r1001,g1,h⟩:=ae h
 simp(config:=cS)only[go_sem]
 refine ag (wv g1) ?_
 cases h
 simp(config:=cS)only[go_sem]
def KB:Hint where
 acts:=fun _=>[]
 draws:=fun
  | _=>⟨.nil,[],[]⟩
theorem Uz (i:Nat):KB.acts i=[]:=rfl
theorem UA (i:Nat):KB.views i=none:=rfl
attribute [go_sem] Uz UA Tryz.ntmps240 Tryz.results240
theorem tZ {v0:Int}{a:List Int}{res:Bool}(h:gD v0 a=some res):ao Tryz.prog 240 [.lit (.int .i64 v0),.loc [.sl (ab eI a)]] [] (.lit (.bool res)) []:=by
 refine aj (ra:=[]) (md:=mdT) hT (hi:=KB) Tryz.func240 rfl rfl (by decide +kernel) (by simp) ?_
 unfold gD at h
 obtain ⟨r1001,g1,h⟩:=ae h
 simp(config:=cS)only[go_sem]
 refine ag (kS g1) ?_
 cases h
 simp(config:=cS)only[go_sem]
def KD:Hint where
 acts:=fun _=>[]
 draws:=fun
  | _=>⟨.nil,[],[]⟩
theorem UB (i:Nat):KD.acts i=[]:=rfl
theorem UC (i:Nat):KD.views i=none:=rfl
attribute [go_sem] UB UC Tryz.ntmps211 Tryz.results211
theorem vK {a:List Int}{b:List Int}{res:Bool}(h:fM a b=some res):ao Tryz.prog 211 [.sl (ab eI a),.sl (ab eI b)] [] (.lit (.bool res)) []:=by
 refine aj (ra:=[]) (md:=mdT) hT (hi:=KD) Tryz.func211 rfl rfl (by decide +kernel) (by simp) ?_
 unfold fM at h
 obtain ⟨r1001,g1,h⟩:=ae h
 simp(config:=cS)only[go_sem]
 refine ag (kP g1) ?_
 obtain ⟨h2,h⟩|⟨h2,h⟩:=af h
 ·obtain ⟨r1002,g3,h⟩:=ae h
  simp(config:=cS)only[go_sem,eZt h2]
  refine ag (kP g3) ?_
  obtain ⟨h4,h⟩|⟨h4,h⟩:=af h
  ·obtain ⟨r1003,g5,h⟩:=ae h
   simp(config:=cS)only[go_sem,eZt h2,eZt h4]
   refine ag (eQ (by exact fun _ _ hr=>tZ hr) (by refine ⟨fun _=>?_,fun _=>?_⟩ <;> simp only [go_sem]) (fun _=>rfl) rfl g5) ?_
   cases h
   simp(config:=cS)only[go_sem,eZt h2,eZt h4]
  ·cases h
   simp(config:=cS)only[go_sem,eZt h2,eZf h4]
 ·cases h
  simp(config:=cS)only[go_sem,eZf h2]
@[go_sem] def hi131_1:DT:=.i1 0 (.i2 1 (.i0 2 [0] (.i2 3 (.i2 4 .nil))))
def Fs:Hint where
 acts:=fun _=>[]
 draws:=fun
  | 1=>⟨hi131_1,[[],[],[1],[0,1,2],[0,1,2,3]],.range 5⟩
  | _=>⟨.nil,[],[]⟩
theorem UD (i:Nat):Fs.acts i=[]:=rfl
theorem UE (i:Nat):Fs.views i=none:=rfl
attribute [go_sem] UD UE Tryz.ntmps131 Tryz.results131
@[go_sem] theorem aaj:(Fs.draws 1).order=hi131_1:=rfl
theorem yY {s:GShow}{label:List Int}{v2:Int}{res:Bool}(h:jh s label v2=some res):ao Tryz.prog 131 [.agg (GShow.encS s),.sl (ab eI label),.lit (.int .i64 v2)] [] (.lit (.bool res)) []:=by
 refine aj (ra:=[]) (md:=mdT) hT (hi:=Fs) Tryz.func131 rfl rfl (by decide +kernel) (by simp) ?_
 unfold jh at h
 obtain ⟨r1001,g1,h⟩:=ae h
 simp(config:=cS)only[go_sem]
 refine ag (jG g1) ?_
 obtain ⟨r1002,g2,h⟩:=ae h
 simp(config:=cS)only[go_sem]
 refine ag (uz g2) ?_
 obtain ⟨h3,h⟩|⟨h3,h⟩:=af h
 ·cases h
  simp(config:=cS)only[go_sem,eqT h3]
 ·obtain ⟨x1003,g4,h⟩:=ae h
  obtain ⟨h5,h6,h7⟩:=ai g4
  obtain ⟨r1004,g8,h⟩:=ae h
  simp(config:=cS)only[go_sem,eqF h3,h5,h6,h7]
  refine ag (kS g8) ?_
  obtain ⟨h9,h⟩|⟨h9,h⟩:=af h
  ·cases h
   simp(config:=cS)only[go_sem,eqF h3,h5,h6,h7,eZt h9]
  ·obtain ⟨r1005,g10,h⟩:=ae h
   simp(config:=cS)only[go_sem,eqF h3,h5,h6,h7,eZf h9]
   refine ag (kS g10) ?_
   obtain ⟨h11,h⟩|⟨h11,h⟩:=af h
   ·cases h
    simp(config:=cS)only[go_sem,eqF h3,h5,h6,h7,eZf h9,eZt h11]
   ·obtain ⟨r1006,g12,h⟩:=ae h
    simp(config:=cS)only[go_sem,eqF h3,h5,h6,h7,eZf h9,eZf h11]
    refine ag (vK g12) ?_
    cases h
    simp(config:=cS)only[go_sem,eqF h3,h5,h6,h7,eZf h9,eZf h11]
def KE:Hint where
 acts:=fun _=>[]
 draws:=fun
  | _=>⟨.nil,[],[]⟩
theorem UF (i:Nat):KE.acts i=[]:=rfl
theorem UG (i:Nat):KE.views i=none:=rfl
attribute [go_sem] UF UG Tryz.ntmps130 Tryz.results130
theorem yZ {v0:Int}{s:GShow}{n:GNode}{res:Bool}(h:ji v0 s n=some res):ao Tryz.prog 130 [.lit (.int .i64 v0),.loc [.sl (ab GNode.encS s.nodes),.sl (ab GTie.enc s.ties),.lit (.int .i64 s.horizon)],.loc [.lit (.string n.name),.sl (ab eI n.label),.lit (.int .i64 n.watch)]] [] (.lit (.bool res)) []:=by
 refine aj (ra:=[]) (md:=mdT) hT (hi:=KE) Tryz.func130 rfl rfl (by decide +kernel) (by simp) ?_
 unfold ji at h
 obtain ⟨r1001,g1,h⟩:=ae h
 simp(config:=cS)only[go_sem]
 refine ag (yY g1) ?_
 cases h
 simp(config:=cS)only[go_sem]
def qT (v24:List GNode)(v25:Int)(s_1:List GTie)(s_2:Int)(v26:Int):St:=⟨[(1,.ptr 64 1 0 0),(24,.sl (ab GNode.encS v24)),(25,.lit (.int .i64 v25)),(26,.lit (.int .i64 v26))],[(64,1,.var [.sl (ab GNode.encS v24),.sl (ab GTie.enc s_1),.lit (.int .i64 s_2)])],2⟩
attribute [go_sem] qT
def hi56:Hint where
 acts:=fun _=>[]
 draws:=fun
  | _=>⟨.nil,[],[]⟩
theorem Yq (i:Nat):hi56.acts i=[]:=rfl
theorem Yr (i:Nat):hi56.views i=none:=rfl
attribute [go_sem] Yq Yr Tryz.ntmps56 Tryz.results56
theorem sb {s:GShow}{res:Bool}(h:im s=some res):ao Tryz.prog 56 [.agg (GShow.encS s)] [] (.lit (.bool res)) []:=by
 refine aj (ra:=[]) (md:=mdT) hT (hi:=hi56) Tryz.func56 rfl rfl (by decide +kernel) (by simp) ?_
 unfold im at h
 obtain ⟨r1001,g1,h⟩:=ae h
 simp(config:=cS)only[go_sem]
 refine ag (Bd g1) ?_
 obtain ⟨h2,h⟩|⟨h2,h⟩:=af h
 ·obtain ⟨r1002,g3,h⟩:=ae h
  simp(config:=cS)only[go_sem,eZt h2]
  refine ag (CC g3) ?_
  obtain ⟨h4,h⟩|⟨h4,h⟩:=af h
  ·obtain ⟨h5,h⟩|⟨h5,h⟩:=af h
   ·cases h
    simp(config:=cS)only[go_sem,eZt h2,eZt h4,eqT h5]
   ·obtain ⟨h6,h⟩|⟨h6,h⟩:=af h
    ·cases h
     simp(config:=cS)only[go_sem,eZt h2,eZt h4,eqF h5,eqT h6]
    ·obtain ⟨q1005,l7,h⟩:=ae h
     simp(config:=cS)only[go_sem,eZt h2,eZt h4,eqF h5,eqF h6]
     refine an (m1:=.mk) (m2:=.mk) [.nf [1,24,25,26] [64]] (qT s.nodes ((s.nodes.length:Nat):Int) s.ties s.horizon) l7 ?_ ?_
     ·simp(config:=cS)only[go_sem,eZt h2,eZt h4,eqF h5,eqF h6]
     ·intro nb8 sb8 bb8 b8 gb8
      obtain ⟨v26_1,eb8⟩:∃ v,v=sb8:=⟨_,rfl⟩;subst eb8
      unfold gk at b8
      try dsimp only at b8
      obtain ⟨h9,b8⟩|⟨h9,b8⟩:=af b8
      ·obtain ⟨x1003,g10,b8⟩:=ae b8
       obtain ⟨h11,h12,h13⟩:=ai g10
       obtain ⟨r1004,g14,b8⟩:=ae b8
       simp(config:=cS)only[go_sem,eZt h2,eZt h4,eqF h5,eqF h6,eqT h9,h11,h12,h13]
       refine ag (eQ (by exact fun _ _ hr=>yZ hr) (by refine ⟨fun _=>?_,fun _=>?_⟩ <;> simp only [go_sem]) (fun _=>rfl) rfl g14) ?_
       obtain ⟨h15,b8⟩|⟨h15,b8⟩:=af b8
       ·cases b8
        have e16:=(ak gb8).symm
        subst e16
        try dsimp only at h
        cases h
        simp(config:=cS)only[go_sem,eZt h2,eZt h4,eqF h5,eqF h6,eqT h9,h11,h12,h13,eZt h15]
       ·cases b8
        simp(config:=cS)only[go_sem,eZt h2,eZt h4,eqF h5,eqF h6,eqT h9,h11,h12,h13,eZf h15]
        refine ap gb8 ?_
        simp(config:=cS)only[go_sem,eZt h2,eZt h4,eqF h5,eqF h6,eqT h9,h11,h12,h13,eZf h15]
      ·cases b8
       have e17:=(ak gb8).symm
       subst e17
       try dsimp only at h
       cases h
       simp(config:=cS)only[go_sem,eZt h2,eZt h4,eqF h5,eqF h6,eqF h9]
  ·cases h
   simp(config:=cS)only[go_sem,eZt h2,eZf h4]
 ·cases h
  simp(config:=cS)only[go_sem,eZf h2]
def KF:Hint where
 acts:=fun _=>[]
 draws:=fun
  | _=>⟨.nil,[],[]⟩
theorem UH (i:Nat):KF.acts i=[]:=rfl
theorem UI (i:Nat):KF.views i=none:=rfl
attribute [go_sem] UH UI Tryz.ntmps248 Tryz.results248
theorem ww {n:Int}{res:Bool}(h:jR n=some res):ao Tryz.prog 248 [.lit (.int .i64 n)] [] (.lit (.bool res)) []:=by
 refine aj (ra:=[]) (md:=mdT) hT (hi:=KF) Tryz.func248 rfl rfl (by decide +kernel) (by simp) ?_
 unfold jR at h
 obtain ⟨h1,h⟩|⟨h1,h⟩:=af h
 ·cases h
  simp(config:=cS)only[go_sem,eqT h1]
 ·cases h
  simp(config:=cS)only[go_sem,eqF h1]
def KG:Hint where
 acts:=fun _=>[]
 draws:=fun
  | _=>⟨.nil,[],[]⟩
theorem UJ (i:Nat):KG.acts i=[]:=rfl
theorem UK (i:Nat):KG.views i=none:=rfl
attribute [go_sem] UJ UK Tryz.ntmps217 Tryz.results217
theorem tJ {v:List Int}{res:Bool}(h:ic v=some res):ao Tryz.prog 217 [.sl (ab eI v)] [] (.lit (.bool res)) []:=by
 refine aj (ra:=[]) (md:=mdT) hT (hi:=KG) Tryz.func217 rfl rfl (by decide +kernel) (by simp) ?_
 unfold ic at h
 obtain ⟨h1,h⟩|⟨h1,h⟩:=af h
 ·obtain ⟨r1001,g2,h⟩:=ae h
  simp(config:=cS)only[go_sem,eqT h1]
  refine ag (eQ (by exact fun _ _ hr=>ww hr) (by refine ⟨fun _=>?_,fun _=>?_⟩ <;> simp only [go_sem]) (fun _=>rfl) rfl g2) ?_
  cases h
  simp(config:=cS)only[go_sem]
 ·cases h
  simp(config:=cS)only[go_sem,eqF h1]
def qn (v37:List Int)(v38:Int)(s_0:List GNode)(s_1:List GTie)(s_2:Int)(v3_0:Int)(v3_2:List Int)(v39:Int):St:=⟨[(2,.ptr 128 1 0 0),(3,.ptr 192 1 0 0),(37,.sl (ab eI v37)),(38,.lit (.int .i64 v38)),(39,.lit (.int .i64 v39))],[(128,1,.var [.sl (ab GNode.encS s_0),.sl (ab GTie.enc s_1),.lit (.int .i64 s_2)]),(192,1,.var [.lit (.int .i64 v3_0),.sl (ab eI v37),.sl (ab eI v3_2)])],2⟩
attribute [go_sem] qn
def qo (v67:List Int)(v68:Int)(s_0:List GNode)(s_1:List GTie)(s_2:Int)(v3_0:Int)(v3_1:List Int)(v69:Int):St:=⟨[(2,.ptr 128 1 0 0),(3,.ptr 192 1 0 0),(67,.sl (ab eI v67)),(68,.lit (.int .i64 v68)),(69,.lit (.int .i64 v69))],[(128,1,.var [.sl (ab GNode.encS s_0),.sl (ab GTie.enc s_1),.lit (.int .i64 s_2)]),(192,1,.var [.lit (.int .i64 v3_0),.sl (ab eI v3_1),.sl (ab eI v67)])],2⟩
attribute [go_sem] qo
def KH:Hint where
 acts:=fun _=>[]
 draws:=fun
  | _=>⟨.nil,[],[]⟩
theorem UL (i:Nat):KH.acts i=[]:=rfl
theorem UM (i:Nat):KH.views i=none:=rfl
attribute [go_sem] UL UM Tryz.ntmps146 Tryz.results146
theorem CD {s:GShow}{v1:GState}{res:Bool}(h:kW s v1=some res):ao Tryz.prog 146 [.agg (GShow.encS s),.agg (GState.encS v1)] [] (.lit (.bool res)) []:=by
 refine aj (ra:=[]) (md:=mdT) hT (hi:=KH) Tryz.func146 rfl rfl (by decide +kernel) (by simp) ?_
 unfold kW at h
 obtain ⟨h1,h⟩|⟨h1,h⟩:=af h
 ·cases h
  simp(config:=cS)only[go_sem,eqT h1]
 ·obtain ⟨h2,h⟩|⟨h2,h⟩:=af h
  ·cases h
   simp(config:=cS)only[go_sem,eqF h1,eqT h2]
  ·obtain ⟨h3,h⟩|⟨h3,h⟩:=af h
   ·obtain ⟨r1001,g4,h⟩:=ae h
    simp(config:=cS)only[go_sem,eqF h1,eqF h2,eqT h3]
    refine ag (tJ g4) ?_
    obtain ⟨h5,h⟩|⟨h5,h⟩:=af h
    ·obtain ⟨q1007,l6,h⟩:=ae h
     simp(config:=cS)only[go_sem,eZt h5]
     refine an (m1:=.mk) (m2:=.mk) [.nf [2,3,37,38,39] [128,192]] (qn v1.times ((v1.times.length:Nat):Int) s.nodes s.ties s.horizon v1.now v1.values) l6 ?_ ?_
     ·simp(config:=cS)only[go_sem]
     ·intro nb7 sb7 bb7 b7 gb7
      obtain ⟨v39_1,eb7⟩:∃ v,v=sb7:=⟨_,rfl⟩;subst eb7
      unfold fv at b7
      try dsimp only at b7
      obtain ⟨h8,b7⟩|⟨h8,b7⟩:=af b7
      ·obtain ⟨x1002,g9,b7⟩:=ae b7
       obtain ⟨h10,h11,h12⟩:=ai g9
       obtain ⟨h13,b7⟩|⟨h13,b7⟩:=af b7
       ·obtain ⟨h14,b7⟩|⟨h14,b7⟩:=af b7
        ·obtain ⟨h15,b7⟩|⟨h15,b7⟩:=af b7
         ·obtain ⟨h16,b7⟩|⟨h16,b7⟩:=af b7
          ·cases b7
           have e17:=(ak gb7).symm
           subst e17
           try dsimp only at h
           cases h
           simp(config:=cS)only[go_sem,eqT h8,h10,h11,h12,eqT h13,eqT h14,eqT h15,eqT h16]
          ·obtain ⟨h18,b7⟩|⟨h18,b7⟩:=af b7
           ·cases b7
            have e19:=(ak gb7).symm
            subst e19
            try dsimp only at h
            cases h
            simp(config:=cS)only[go_sem,eqT h8,h10,h11,h12,eqT h13,eqT h14,eqT h15,eqF h16,eqT h18]
           ·cases b7
            simp(config:=cS)only[go_sem,eqT h8,h10,h11,h12,eqT h13,eqT h14,eqT h15,eqF h16,eqF h18]
            refine ap gb7 ?_
            simp(config:=cS)only[go_sem]
         ·cases b7
          simp(config:=cS)only[go_sem,eqT h8,h10,h11,h12,eqT h13,eqT h14,eqF h15]
          refine ap gb7 ?_
          simp(config:=cS)only[go_sem]
        ·cases b7
         have e20:=(ak gb7).symm
         subst e20
         try dsimp only at h
         cases h
         simp(config:=cS)only[go_sem,eqT h8,h10,h11,h12,eqT h13,eqF h14]
       ·obtain ⟨h21,b7⟩|⟨h21,b7⟩:=af b7
        ·obtain ⟨h22,b7⟩|⟨h22,b7⟩:=af b7
         ·cases b7
          have e23:=(ak gb7).symm
          subst e23
          try dsimp only at h
          cases h
          simp(config:=cS)only[go_sem,eqT h8,h10,h11,h12,eqF h13,eqT h21,eqT h22]
         ·obtain ⟨h24,b7⟩|⟨h24,b7⟩:=af b7
          ·cases b7
           have e25:=(ak gb7).symm
           subst e25
           try dsimp only at h
           cases h
           simp(config:=cS)only[go_sem,eqT h8,h10,h11,h12,eqF h13,eqT h21,eqF h22,eqT h24]
          ·cases b7
           simp(config:=cS)only[go_sem,eqT h8,h10,h11,h12,eqF h13,eqT h21,eqF h22,eqF h24]
           refine ap gb7 ?_
           simp(config:=cS)only[go_sem]
        ·cases b7
         simp(config:=cS)only[go_sem,eqT h8,h10,h11,h12,eqF h13,eqF h21]
         refine ap gb7 ?_
         simp(config:=cS)only[go_sem]
      ·cases b7
       have e26:=(ak gb7).symm
       subst e26
       try dsimp only at h
       obtain ⟨q1006,l27,h⟩:=ae h
       simp(config:=cS)only[go_sem,eqF h8]
       refine an (m1:=.mk) (m2:=.mk) [.nf [2,3,67,68,69] [128,192]] (qo v1.values ((v1.values.length:Nat):Int) s.nodes s.ties s.horizon v1.now v1.times) l27 ?_ ?_
       ·simp(config:=cS)only[go_sem]
       ·intro nb28 sb28 bb28 b28 gb28
        obtain ⟨v69_2,eb28⟩:∃ v,v=sb28:=⟨_,rfl⟩;subst eb28
        unfold fw at b28
        try dsimp only at b28
        obtain ⟨h29,b28⟩|⟨h29,b28⟩:=af b28
        ·obtain ⟨x1003,g30,b28⟩:=ae b28
         obtain ⟨h31,h32,h33⟩:=ai g30
         obtain ⟨r1004,g34,b28⟩:=ae b28
         simp(config:=cS)only[go_sem,eqT h29,h31,h32,h33]
         refine ag (uz g34) ?_
         obtain ⟨h35,b28⟩|⟨h35,b28⟩:=af b28
         ·obtain ⟨x1005,g36,b28⟩:=ae b28
          obtain ⟨h37,h38,h39⟩:=ai g36
          obtain ⟨h40,b28⟩|⟨h40,b28⟩:=af b28
          ·cases b28
           simp(config:=cS)only[go_sem,eqT h35,h37,h38,h39,eqT h40]
           refine ap gb28 ?_
           simp(config:=cS)only[go_sem]
          ·cases b28
           have e41:=(ak gb28).symm
           subst e41
           try dsimp only at h
           cases h
           simp(config:=cS)only[go_sem,eqT h35,h37,h38,h39,eqF h40]
         ·obtain ⟨h42,b28⟩|⟨h42,b28⟩:=af b28
          ·cases b28
           simp(config:=cS)only[go_sem,eqF h35,eqT h42]
           refine ap gb28 ?_
           simp(config:=cS)only[go_sem]
          ·cases b28
           have e43:=(ak gb28).symm
           subst e43
           try dsimp only at h
           cases h
           simp(config:=cS)only[go_sem,eqF h35,eqF h42]
        ·cases b28
         have e44:=(ak gb28).symm
         subst e44
         try dsimp only at h
         cases h
         simp(config:=cS)only[go_sem,eqF h29]
    ·cases h
     simp(config:=cS)only[go_sem,eZf h5]
   ·cases h
    simp(config:=cS)only[go_sem,eqF h1,eqF h2,eqF h3]
def hi64:Hint where
 acts:=fun _=>[]
 draws:=fun
  | _=>⟨.nil,[],[]⟩
theorem Ys (i:Nat):hi64.acts i=[]:=rfl
theorem Yt (i:Nat):hi64.views i=none:=rfl
attribute [go_sem] Ys Yt Tryz.ntmps64 Tryz.results64
theorem CE {s:GShow}{v1:GState}{res:Bool}(h:kX s v1=some res):ao Tryz.prog 64 [.agg (GShow.encS s),.agg (GState.encS v1)] [] (.lit (.bool res)) []:=by
 refine aj (ra:=[]) (md:=mdT) hT (hi:=hi64) Tryz.func64 rfl rfl (by decide +kernel) (by simp) ?_
 unfold kX at h
 obtain ⟨r1001,g1,h⟩:=ae h
 simp(config:=cS)only[go_sem]
 refine ag (sb g1) ?_
 obtain ⟨h2,h⟩|⟨h2,h⟩:=af h
 ·obtain ⟨r1002,g3,h⟩:=ae h
  simp(config:=cS)only[go_sem,eZt h2]
  refine ag (CD g3) ?_
  cases h
  simp(config:=cS)only[go_sem,eZt h2]
 ·cases h
  simp(config:=cS)only[go_sem,eZf h2]
def KI:Hint where
 acts:=fun _=>[]
 draws:=fun
  | _=>⟨.nil,[],[]⟩
theorem UN (i:Nat):KI.acts i=[]:=rfl
theorem UO (i:Nat):KI.views i=none:=rfl
attribute [go_sem] UN UO Tryz.ntmps242 Tryz.results242
theorem Gh {v0:Int}{y:Int}{res:Int × Int}(h:sX v0 y=some res):ao Tryz.prog 242 [.lit (.int .u64 v0),.lit (.int .u64 y)] [] (.tup [.lit (.int .u64 res.1),.lit (.int .u64 res.2)]) []:=by
 refine aj (ra:=[]) (md:=mdT) hT (hi:=KI) Tryz.func242 rfl rfl (by decide +kernel) (by simp) ?_
 unfold sX at h
 cases h
 simp(config:=cS)only[go_sem]
def KJ:Hint where
 acts:=fun _=>[]
 draws:=fun
  | _=>⟨.nil,[],[]⟩
theorem UP (i:Nat):KJ.acts i=[]:=rfl
theorem UQ (i:Nat):KJ.views i=none:=rfl
attribute [go_sem] UP UQ Tryz.ntmps212 Tryz.results212
theorem KK {v0:Int}{y:Int}{res:Int × Int}(h:gE v0 y=some res):ao Tryz.prog 212 [.lit (.int .u64 v0),.lit (.int .u64 y)] [] (.tup [.lit (.int .u64 res.1),.lit (.int .u64 res.2)]) []:=by
 refine aj (ra:=[]) (md:=mdT) hT (hi:=KJ) Tryz.func212 rfl rfl (by decide +kernel) (by simp) ?_
 unfold gE at h
 obtain ⟨r1001,g1,h⟩:=ae h
 simp(config:=cS)only[go_sem]
 refine ag (Gh g1) ?_
 cases h
 simp(config:=cS)only[go_sem]
def mC  : (Int × (List Int))→St
 | (v8,v7)=>⟨[(7,.ref 1920 1 0 v7.length),(8,.lit (.int .i64 v8))],[(1920,1,.row true (ab eI v7))],2⟩
attribute [go_sem] mC
@[go_sem] def hi133_9:DT:=.i2 0 (.i2 1 (.i2 2 (.i2 3 (.i2 4 (.i2 5 (.i2 6 (.i2 7 (.i2 8 (.i2 9 .nil)))))))))
def Ft:Hint where
 acts:=fun _=>[]
 draws:=fun
  | 9=>⟨hi133_9,[[],[],[],[1,2],[],[],[4,5],[1,2,3,4,5,6],.range 8,.range 9],.range 10⟩
  | _=>⟨.nil,[],[]⟩
theorem UR (i:Nat):Ft.acts i=[]:=rfl
theorem US (i:Nat):Ft.views i=none:=rfl
attribute [go_sem] UR US Tryz.ntmps133 Tryz.results133
@[go_sem] theorem aak:(Ft.draws 9).order=hi133_9:=rfl
theorem bj {v0:List Int}{v1:Int}{res:List Int}(h:aK v0 v1=some res):ao Tryz.prog 133 [.sl (ab eI v0),.lit (.int .i64 v1)] [] (.ref 20000 1 0 res.length) [(20000,1,.row true (ab eI res))]:=by
 refine aj (ra:=[.home 4]) (md:=mdT) hT (hi:=Ft) Tryz.func133 rfl rfl (by decide +kernel) (by simp) ?_
 unfold aK at h
 obtain ⟨h1,h⟩|⟨h1,h⟩:=af h
 ·cases h
 ·obtain ⟨r1001,g2,h⟩:=ae h
  simp(config:=cS)only[go_sem,eqF h1]
  refine ag (KK g2) ?_
  obtain ⟨h3,h⟩|⟨h3,h⟩:=af h
  ·cases h
  ·obtain ⟨h4,h⟩|⟨h4,h⟩:=af h
   ·cases h
   ·obtain ⟨h5,h⟩:=ah h
    obtain ⟨h6,h⟩:=ah h
    obtain ⟨h7,h⟩:=ah h
    obtain ⟨q1002,l8,h⟩:=ae h
    simp(config:=cS)only[go_sem,eqF h3,eqF h4,eqT h5,eqT h6,eqT h7]
    refine an (m1:=.mk) (m2:=.mk) [.nf [7,8] [1920]] (mC) l8 ?_ ?_
    ·simp(config:=cS)only[go_sem]
    ·intro nb9 sb9 bb9 b9 gb9
     obtain ⟨v8_1,v7_1⟩:=sb9
     unfold aw at b9
     try dsimp only at b9
     obtain ⟨h10,b9⟩|⟨h10,b9⟩:=af b9
     ·obtain ⟨h11,b9⟩:=ah b9
      obtain ⟨h12,b9⟩:=ah b9
      obtain ⟨h13,b9⟩:=ah b9
      cases b9
      simp(config:=cS)only[go_sem,eqT h10,eqT h11,eqT h12,eqT h13]
      refine ap gb9 ?_
      simp(config:=cS)only[go_sem]
     ·cases b9
      have e14:=(ak gb9).symm
      subst e14
      try dsimp only at h
      cases h
      simp(config:=cS)only[go_sem,eqF h10]
@[go_sem] def hi58_3:DT:=.i1 1 (.i1 2 (.i1 3 (.fork (.i0 0 [1,2,3] (.fork (.i2 4 (.fork (.i0 5 [1,2,3] (.i2 6 (.i0 7 [1,2,3] (.i2 8 .nil)))) (.i0 7 [1,2,3] (.i0 5 [1,2,3] (.i2 6 (.i2 8 .nil)))))) (.fork (.i0 5 [1,2,3] (.fork (.i2 4 (.i2 6 (.i0 7 [1,2,3] (.i2 8 .nil)))) (.i0 7 [1,2,3] (.i2 4 (.i2 6 (.i2 8 .nil)))))) (.i0 7 [1,2,3] (.fork (.i2 4 (.i0 5 [1,2,3] (.i2 6 (.i2 8 .nil)))) (.i0 5 [1,2,3] (.i2 4 (.i2 6 (.i2 8 .nil))))))))) (.fork (.i0 5 [1,2,3] (.fork (.i0 0 [1,2,3] (.fork (.i2 4 (.i2 6 (.i0 7 [1,2,3] (.i2 8 .nil)))) (.i0 7 [1,2,3] (.i2 4 (.i2 6 (.i2 8 .nil)))))) (.i0 7 [1,2,3] (.i0 0 [1,2,3] (.i2 4 (.i2 6 (.i2 8 .nil))))))) (.i0 7 [1,2,3] (.fork (.i0 0 [1,2,3] (.fork (.i2 4 (.i0 5 [1,2,3] (.i2 6 (.i2 8 .nil)))) (.i0 5 [1,2,3] (.i2 4 (.i2 6 (.i2 8 .nil)))))) (.i0 5 [1,2,3] (.i0 0 [1,2,3] (.i2 4 (.i2 6 (.i2 8 .nil)))))))))))
def hi58:Hint where
 acts:=fun _=>[]
 draws:=fun
  | 3=>⟨hi58_3,[[],[],[1],[1,2],[0,1,2,3],[],.range 6,[],.range 8],.range 9⟩
  | _=>⟨.nil,[],[]⟩
theorem Yu (i:Nat):hi58.acts i=[]:=rfl
theorem Yv (i:Nat):hi58.views i=none:=rfl
attribute [go_sem] Yu Yv Tryz.ntmps58 Tryz.results58
@[go_sem] theorem aaW:(hi58.draws 3).order=hi58_3:=rfl
theorem xJ {s:GShow}{res:GState}(h:ip s=some res):ao Tryz.prog 58 [.agg (GShow.encS s)] [] (.agg [.lit (.int .i64 res.now),.ref 20000 1 0 res.times.length,.ref 20001 1 0 res.values.length]) [(20000,1,.row true (ab eI res.times)),(20001,1,.row true (ab eI res.values))]:=by
 refine aj (ra:=[.homeCell 128 1,.homeCell 128 2]) (md:=mdT) hT (hi:=hi58) Tryz.func58 rfl rfl (by decide +kernel) (by simp) ?_
 unfold ip at h
 obtain ⟨r1001,g1,h⟩:=ae h
 simp(config:=cS)only[go_sem]
 refine ag (sb g1) ?_
 obtain ⟨h2,h⟩|⟨h2,h⟩:=af h
 ·try simp(config:=cS)only[go_sem,eZt h2]
  refine bn ?_ ?_
  ·try simp(config:=cS)only[go_sem]
   refine bn ?_ ?_
   ·obtain ⟨r1002,g3,h⟩:=ae h
    simp(config:=cS)only[go_sem]
    refine ag (bj g3) ?_
    try simp(config:=cS)only[go_sem]
    refine bn ?_ ?_
    ·obtain ⟨x1003,g4,h⟩:=ae h
     obtain ⟨h6,h7⟩:=dC (k:=0) g4
     cases h
     simp(config:=cS)only[go_sem,h6,h7]
    ·obtain ⟨x1004,g8,h⟩:=ae h
     obtain ⟨h10,h11⟩:=dC (k:=0) g8
     cases h
     simp(config:=cS)only[go_sem,h10,h11]
   ·try simp(config:=cS)only[go_sem]
    refine bn ?_ ?_
    ·try simp(config:=cS)only[go_sem]
     refine bn ?_ ?_
     ·obtain ⟨r1005,g12,h⟩:=ae h
      simp(config:=cS)only[go_sem]
      refine ag (bj g12) ?_
      obtain ⟨x1006,g13,h⟩:=ae h
      obtain ⟨h15,h16⟩:=dC (k:=0) g13
      cases h
      simp(config:=cS)only[go_sem,h15,h16]
     ·obtain ⟨r1007,g17,h⟩:=ae h
      simp(config:=cS)only[go_sem]
      refine ag (bj g17) ?_
      obtain ⟨x1008,g18,h⟩:=ae h
      obtain ⟨h20,h21⟩:=dC (k:=0) g18
      cases h
      simp(config:=cS)only[go_sem,h20,h21]
    ·try simp(config:=cS)only[go_sem]
     refine bn ?_ ?_
     ·obtain ⟨r1009,g22,h⟩:=ae h
      simp(config:=cS)only[go_sem]
      refine ag (bj g22) ?_
      obtain ⟨x1010,g23,h⟩:=ae h
      obtain ⟨h25,h26⟩:=dC (k:=0) g23
      cases h
      simp(config:=cS)only[go_sem,h25,h26]
     ·obtain ⟨r1011,g27,h⟩:=ae h
      simp(config:=cS)only[go_sem]
      refine ag (bj g27) ?_
      obtain ⟨x1012,g28,h⟩:=ae h
      obtain ⟨h30,h31⟩:=dC (k:=0) g28
      cases h
      simp(config:=cS)only[go_sem,h30,h31]
  ·try simp(config:=cS)only[go_sem]
   refine bn ?_ ?_
   ·try simp(config:=cS)only[go_sem]
    refine bn ?_ ?_
    ·try simp(config:=cS)only[go_sem]
     refine bn ?_ ?_
     ·obtain ⟨r1013,g32,h⟩:=ae h
      simp(config:=cS)only[go_sem]
      refine ag (bj g32) ?_
      obtain ⟨x1014,g33,h⟩:=ae h
      obtain ⟨h35,h36⟩:=dC (k:=0) g33
      cases h
      simp(config:=cS)only[go_sem,h35,h36]
     ·obtain ⟨r1015,g37,h⟩:=ae h
      simp(config:=cS)only[go_sem]
      refine ag (bj g37) ?_
      obtain ⟨x1016,g38,h⟩:=ae h
      obtain ⟨h40,h41⟩:=dC (k:=0) g38
      cases h
      simp(config:=cS)only[go_sem,h40,h41]
    ·obtain ⟨r1017,g42,h⟩:=ae h
     simp(config:=cS)only[go_sem]
     refine ag (bj g42) ?_
     obtain ⟨x1018,g43,h⟩:=ae h
     obtain ⟨h45,h46⟩:=dC (k:=0) g43
     cases h
     simp(config:=cS)only[go_sem,h45,h46]
   ·try simp(config:=cS)only[go_sem]
    refine bn ?_ ?_
    ·try simp(config:=cS)only[go_sem]
     refine bn ?_ ?_
     ·obtain ⟨r1019,g47,h⟩:=ae h
      simp(config:=cS)only[go_sem]
      refine ag (bj g47) ?_
      obtain ⟨x1020,g48,h⟩:=ae h
      obtain ⟨h50,h51⟩:=dC (k:=0) g48
      cases h
      simp(config:=cS)only[go_sem,h50,h51]
     ·obtain ⟨r1021,g52,h⟩:=ae h
      simp(config:=cS)only[go_sem]
      refine ag (bj g52) ?_
      obtain ⟨x1022,g53,h⟩:=ae h
      obtain ⟨h55,h56⟩:=dC (k:=0) g53
      cases h
      simp(config:=cS)only[go_sem,h55,h56]
    ·obtain ⟨r1023,g57,h⟩:=ae h
     simp(config:=cS)only[go_sem]
     refine ag (bj g57) ?_
     obtain ⟨x1024,g58,h⟩:=ae h
     obtain ⟨h60,h61⟩:=dC (k:=0) g58
     cases h
     simp(config:=cS)only[go_sem,h60,h61]
 ·cases h
  simp(config:=cS)only[go_sem,eZf h2]
def qU (v9:List GTie)(v10:Int)(v3_0:Int)(v3_1:List Int)(v3_2:List Int):(Int × (List Int))→St
 | (v11,out)=>⟨[(3,.ptr 192 1 0 0),(5,.ref 383 1 0 out.length),(9,.sl (ab GTie.enc v9)),(10,.lit (.int .i64 v10)),(11,.lit (.int .i64 v11))],[(192,1,.var [.lit (.int .i64 v3_0),.sl (ab eI v3_1),.sl (ab eI v3_2)]),(383,1,.row true (ab eI out))],2⟩
attribute [go_sem] qU
def KL:Hint where
 acts:=fun _=>[]
 draws:=fun
  | _=>⟨.nil,[],[]⟩
theorem UT (i:Nat):KL.acts i=[]:=rfl
theorem UU (i:Nat):KL.views i=none:=rfl
attribute [go_sem] UT UU Tryz.ntmps143 Tryz.results143
theorem Ep {s:GShow}{v1:GState}{res:List Int}(h:lX s v1=some res):ao Tryz.prog 143 [.agg (GShow.encS s),.agg (GState.encS v1)] [] (.ref 20000 1 0 res.length) [(20000,1,.row true (ab eI res))]:=by
 refine aj (ra:=[.home 4]) (md:=mdT) hT (hi:=KL) Tryz.func143 rfl rfl (by decide +kernel) (by simp) ?_
 unfold lX at h
 obtain ⟨q1004,l1,h⟩:=ae h
 simp(config:=cS)only[go_sem]
 refine an (m1:=.mk) (m2:=.mk) [.home 5,.nf [3,5,9,10,11] [192,383]] (qU s.ties ((s.ties.length:Nat):Int) v1.now v1.times v1.values) l1 ?_ ?_
 ·simp(config:=cS)only[go_sem]
 ·intro nb2 sb2 bb2 b2 gb2
  obtain ⟨v11_1,out_1⟩:=sb2
  unfold jk at b2
  try dsimp only at b2
  obtain ⟨h3,b2⟩|⟨h3,b2⟩:=af b2
  ·obtain ⟨x1001,g4,b2⟩:=ae b2
   obtain ⟨h5,h6,h7⟩:=ai g4
   obtain ⟨h8,b2⟩|⟨h8,b2⟩:=af b2
   ·obtain ⟨x1002,g9,b2⟩:=ae b2
    obtain ⟨h10,h11,h12⟩:=ai g9
    obtain ⟨h13,b2⟩|⟨h13,b2⟩:=af b2
    ·cases b2
     simp(config:=cS)only[go_sem,eqT h3,h5,h6,h7,eZt h8,h10,h11,h12,eqT h13]
     refine ap gb2 ?_
     simp(config:=cS)only[go_sem]
    ·obtain ⟨x1003,g14,b2⟩:=ae b2
     obtain ⟨h15,h16,h17⟩:=ai g14
     obtain ⟨h18,b2⟩|⟨h18,b2⟩:=af b2
     ·obtain ⟨h19,b2⟩:=ah b2
      obtain ⟨h20,b2⟩:=ah b2
      cases b2
      simp(config:=cS)only[go_sem,eqT h3,h5,h6,h7,eZt h8,h10,h11,h12,eqF h13,h15,h16,h17,eqT h18,eqT h19,eqT h20]
      refine ap gb2 ?_
      simp(config:=cS)only[go_sem]
     ·cases b2
      simp(config:=cS)only[go_sem,eqT h3,h5,h6,h7,eZt h8,h10,h11,h12,eqF h13,h15,h16,h17,eqF h18]
      refine ap gb2 ?_
      simp(config:=cS)only[go_sem]
   ·cases b2
    simp(config:=cS)only[go_sem,eqT h3,h5,h6,h7,eZf h8]
    refine ap gb2 ?_
    simp(config:=cS)only[go_sem]
  ·cases b2
   have e21:=(ak gb2).symm
   subst e21
   try dsimp only at h
   cases h
   simp(config:=cS)only[go_sem,eqF h3]
def qp (set:Int)(v8:List Int)(v9:Int):(Int × (List Int))→St
 | (v10,out)=>⟨[(1,.lit (.int .i64 set)),(5,.ref 383 1 0 out.length),(8,.sl (ab eI v8)),(9,.lit (.int .i64 v9)),(10,.lit (.int .i64 v10))],[(383,1,.row true (ab eI out))],2⟩
attribute [go_sem] qp
def KM:Hint where
 acts:=fun _=>[]
 draws:=fun
  | _=>⟨.nil,[],[]⟩
theorem UV (i:Nat):KM.acts i=[]:=rfl
theorem UW (i:Nat):KM.views i=none:=rfl
attribute [go_sem] UV UW Tryz.ntmps153 Tryz.results153
theorem uA {list:List Int}{set:Int}{res:List Int}(h:jb list set=some res):ao Tryz.prog 153 [.sl (ab eI list),.lit (.int .i64 set)] [] (.ref 20000 1 0 res.length) [(20000,1,.row true (ab eI res))]:=by
 refine aj (ra:=[.home 4]) (md:=mdT) hT (hi:=KM) Tryz.func153 rfl rfl (by decide +kernel) (by simp) ?_
 unfold jb at h
 obtain ⟨q1002,l1,h⟩:=ae h
 simp(config:=cS)only[go_sem]
 refine an (m1:=.mk) (m2:=.mk) [.home 5,.nf [1,5,8,9,10] [383]] (qp set list ((list.length:Nat):Int)) l1 ?_ ?_
 ·simp(config:=cS)only[go_sem]
 ·intro nb2 sb2 bb2 b2 gb2
  obtain ⟨v10_1,out_1⟩:=sb2
  unfold ir at b2
  try dsimp only at b2
  obtain ⟨h3,b2⟩|⟨h3,b2⟩:=af b2
  ·obtain ⟨x1001,g4,b2⟩:=ae b2
   obtain ⟨h5,h6,h7⟩:=ai g4
   obtain ⟨h8,b2⟩:=ah b2
   obtain ⟨h9,b2⟩|⟨h9,b2⟩:=af b2
   ·obtain ⟨h10,b2⟩:=ah b2
    obtain ⟨h11,b2⟩:=ah b2
    cases b2
    simp(config:=cS)only[go_sem,eqT h3,h5,h6,h7,eqF h8,eqT h9,eqT h10,eqT h11]
    refine ap gb2 ?_
    simp(config:=cS)only[go_sem]
   ·cases b2
    simp(config:=cS)only[go_sem,eqT h3,h5,h6,h7,eqF h8,eqF h9]
    refine ap gb2 ?_
    simp(config:=cS)only[go_sem]
  ·cases b2
   have e12:=(ak gb2).symm
   subst e12
   try dsimp only at h
   cases h
   simp(config:=cS)only[go_sem,eqF h3]
def KN:Hint where
 acts:=fun _=>[]
 draws:=fun
  | _=>⟨.nil,[],[]⟩
theorem UX (i:Nat):KN.acts i=[]:=rfl
theorem UY (i:Nat):KN.views i=none:=rfl
attribute [go_sem] UX UY Tryz.ntmps222 Tryz.results222
theorem xK {v1:Int}{res:List Int × Nat}(h:iu v1=some res):ao Tryz.prog 222 [.lit (.slice none 0 0),.lit (.int .i64 v1)] [] (.ref 20000 1 0 res.2) [(20000,1,.row true (ab eI res.1))]:=by
 refine aj (ra:=[.home 4]) (md:=mdT) hT (hi:=KN) Tryz.func222 rfl rfl (by decide +kernel) (by simp) ?_
 unfold iu at h
 obtain ⟨h1,h⟩|⟨h1,h⟩:=af h
 ·cases h
 ·obtain ⟨h2,h⟩|⟨h2,h⟩:=af h
  ·obtain ⟨h3,h⟩:=ah h
   obtain ⟨h4,h⟩:=ah h
   obtain ⟨h5,h⟩:=ah h
   cases h
   simp(config:=cS)only[go_sem,eqF h1,eqT h2,eqT h3,eqT h4,eqT h5]
  ·cases h
   simp(config:=cS)only[go_sem,eqF h1,eqF h2]
def mD (v0:List (List Int))(v10:Int):(Int × Int)→St
 | (v3,v11)=>⟨[(0,.sl (ab (eLS eI) v0)),(3,.lit (.int .i64 v3)),(9,.sl (ab (eLS eI) v0)),(10,.lit (.int .i64 v10)),(11,.lit (.int .i64 v11))],[],2⟩
attribute [go_sem] mD
def mE (v25:List (List Int))(v26:Int):(Nat × Int × (List Int))→St
 | (v6_n,v27,v6)=>⟨[(6,.ref 1536 1 0 v6_n),(25,.sl (ab (eLS eI) v25)),(26,.lit (.int .i64 v26)),(27,.lit (.int .i64 v27))],[(1536,1,.row true (ab eI v6))],2⟩
attribute [go_sem] mE
def KO:Hint where
 acts:=fun _=>[]
 draws:=fun
  | _=>⟨.nil,[],[]⟩
theorem UZ (i:Nat):KO.acts i=[]:=rfl
theorem Va (i:Nat):KO.views i=none:=rfl
attribute [go_sem] UZ Va Tryz.ntmps152 Tryz.results152
theorem vL {v0:List (List Int)}{res:List Int}(h:fN v0=some res):ao Tryz.prog 152 [.sl (ab (eLS eI) v0)] [] (.ref 20000 1 0 res.length) [(20000,1,.row true (ab eI res))]:=by
 refine aj (ra:=[.home 2,.trimT 2]) (md:=mdT) hT (hi:=KO) Tryz.func152 rfl rfl (by decide +kernel) (by simp) ?_
 unfold fN at h
 obtain ⟨q1005,l1,h⟩:=ae h
 simp(config:=cS)only[go_sem]
 refine an (m1:=.mk) (m2:=.mk) [.nf [0,3,9,10,11] []] (mD v0 ((v0.length:Nat):Int)) l1 ?_ ?_
 ·simp(config:=cS)only[go_sem]
 ·intro nb2 sb2 bb2 b2 gb2
  obtain ⟨v3_1,v11_1⟩:=sb2
  unfold dS at b2
  try dsimp only at b2
  obtain ⟨h3,b2⟩|⟨h3,b2⟩:=af b2
  ·obtain ⟨x1001,g4,b2⟩:=ae b2
   obtain ⟨h5,h6,h7⟩:=ai g4
   obtain ⟨h8,b2⟩|⟨h8,b2⟩:=af b2
   ·cases b2
   ·cases b2
    simp(config:=cS)only[go_sem,eqT h3,h5,h6,h7,eqF h8]
    refine ap gb2 ?_
    simp(config:=cS)only[go_sem]
  ·cases b2
   have e9:=(ak gb2).symm
   subst e9
   try dsimp only at h
   obtain ⟨r1002,g10,h⟩:=ae h
   simp(config:=cS)only[go_sem,eqF h3]
   refine ag (xK g10) ?_
   obtain ⟨q1004,l11,h⟩:=ae h
   simp(config:=cS)only[go_sem]
   refine an (m1:=.mk) (m2:=.mk) [.nf [6,25,26,27] [1536]] (mE v0 ((v0.length:Nat):Int)) l11 ?_ ?_
   ·simp(config:=cS)only[go_sem]
   ·intro nb12 sb12 bb12 b12 gb12
    obtain ⟨v6_n_2,v27_2,v6_2⟩:=sb12
    unfold dT at b12
    try dsimp only at b12
    obtain ⟨h13,b12⟩|⟨h13,b12⟩:=af b12
    ·obtain ⟨x1003,g14,b12⟩:=ae b12
     obtain ⟨h15,h16,h17⟩:=ai g14
     obtain ⟨h18,b12⟩|⟨h18,b12⟩:=af b12
     ·obtain ⟨h19,b12⟩:=ah b12
      obtain ⟨h20,b12⟩:=ah b12
      cases b12
      simp(config:=cS)only[go_sem,eqT h13,h15,h16,h17,eqT h18,eqT h19,eqT h20]
      refine ap gb12 ?_
      simp(config:=cS)only[go_sem]
     ·obtain ⟨h21,b12⟩:=ah b12
      obtain ⟨h22,b12⟩|⟨h22,b12⟩:=af b12
      ·cases b12
       simp(config:=cS)only[go_sem,eqT h13,h15,h16,h17,eqF h18,eqT h21,eqT h22]
       refine ap gb12 ?_
       simp(config:=cS)only[go_sem]
      ·obtain ⟨h23,b12⟩:=ah b12
       obtain ⟨h24,b12⟩:=ah b12
       cases b12
       simp(config:=cS)only[go_sem,eqT h13,h15,h16,h17,eqF h18,eqT h21,eqF h22,eqT h23,eqT h24]
       refine ap gb12 ?_
       simp(config:=cS)only[go_sem]
    ·cases b12
     have e25:=(ak gb12).symm
     subst e25
     try dsimp only at h
     obtain ⟨h26,h⟩:=ah h
     obtain ⟨h27,h⟩:=ah h
     cases h
     simp(config:=cS)only[go_sem,eqF h13,eqT h26,eqT h27]
def KQ:Hint where
 acts:=fun _=>[]
 draws:=fun
  | _=>⟨.nil,[],[]⟩
theorem Vb (i:Nat):KQ.acts i=[]:=rfl
theorem Vc (i:Nat):KQ.views i=none:=rfl
attribute [go_sem] Vb Vc Tryz.ntmps259 Tryz.results259
theorem Gi {v0:Int}{res:Int}(h:sY v0=some res):ao Tryz.prog 259 [.lit (.int .u64 v0)] [] (.lit (.int .i64 res)) []:=by
 refine aj (ra:=[]) (md:=mdT) hT (hi:=KQ) Tryz.func259 rfl rfl (by decide +kernel) (by simp) ?_
 unfold sY at h
 obtain ⟨h1,h⟩|⟨h1,h⟩:=af h
 ·obtain ⟨h2,h⟩|⟨h2,h⟩:=af h
  ·obtain ⟨h3,h⟩|⟨h3,h⟩:=af h
   ·obtain ⟨c1001,g4,h⟩:=ae h
    obtain ⟨h5,h6,h7⟩:=iS g4
    cases h
    simp(config:=cS)only[go_sem,eqT h1,eqT h2,eqT h3,h5,h6,h7]
   ·obtain ⟨c1002,g8,h⟩:=ae h
    obtain ⟨h9,h10,h11⟩:=iS g8
    cases h
    simp(config:=cS)only[go_sem,eqT h1,eqT h2,eqF h3,h9,h10,h11]
  ·obtain ⟨h12,h⟩|⟨h12,h⟩:=af h
   ·obtain ⟨c1003,g13,h⟩:=ae h
    obtain ⟨h14,h15,h16⟩:=iS g13
    cases h
    simp(config:=cS)only[go_sem,eqT h1,eqF h2,eqT h12,h14,h15,h16]
   ·obtain ⟨c1004,g17,h⟩:=ae h
    obtain ⟨h18,h19,h20⟩:=iS g17
    cases h
    simp(config:=cS)only[go_sem,eqT h1,eqF h2,eqF h12,h18,h19,h20]
 ·obtain ⟨h21,h⟩|⟨h21,h⟩:=af h
  ·obtain ⟨h22,h⟩|⟨h22,h⟩:=af h
   ·obtain ⟨c1005,g23,h⟩:=ae h
    obtain ⟨h24,h25,h26⟩:=iS g23
    cases h
    simp(config:=cS)only[go_sem,eqF h1,eqT h21,eqT h22,h24,h25,h26]
   ·obtain ⟨c1006,g27,h⟩:=ae h
    obtain ⟨h28,h29,h30⟩:=iS g27
    cases h
    simp(config:=cS)only[go_sem,eqF h1,eqT h21,eqF h22,h28,h29,h30]
  ·obtain ⟨h31,h⟩|⟨h31,h⟩:=af h
   ·obtain ⟨c1007,g32,h⟩:=ae h
    obtain ⟨h33,h34,h35⟩:=iS g32
    cases h
    simp(config:=cS)only[go_sem,eqF h1,eqF h21,eqT h31,h33,h34,h35]
   ·obtain ⟨c1008,g36,h⟩:=ae h
    obtain ⟨h37,h38,h39⟩:=iS g36
    cases h
    simp(config:=cS)only[go_sem,eqF h1,eqF h21,eqF h31,h37,h38,h39]
def KR:Hint where
 acts:=fun _=>[]
 draws:=fun
  | _=>⟨.nil,[],[]⟩
theorem Vd (i:Nat):KR.acts i=[]:=rfl
theorem Ve (i:Nat):KR.views i=none:=rfl
attribute [go_sem] Vd Ve Tryz.ntmps224 Tryz.results224
theorem KS {v0:Int}{res:Int}(h:sw v0=some res):ao Tryz.prog 224 [.lit (.int .u64 v0)] [] (.lit (.int .i64 res)) []:=by
 refine aj (ra:=[]) (md:=mdT) hT (hi:=KR) Tryz.func224 rfl rfl (by decide +kernel) (by simp) ?_
 unfold sw at h
 obtain ⟨r1001,g1,h⟩:=ae h
 simp(config:=cS)only[go_sem]
 refine ag (Gi g1) ?_
 cases h
 simp(config:=cS)only[go_sem]
def KT:Hint where
 acts:=fun _=>[]
 draws:=fun
  | _=>⟨.nil,[],[]⟩
theorem Vf (i:Nat):KT.acts i=[]:=rfl
theorem Vg (i:Nat):KT.views i=none:=rfl
attribute [go_sem] Vf Vg Tryz.ntmps272 Tryz.results272
theorem tK {v0:Int}{res:Bool}(h:jS v0=some res):ao Tryz.prog 272 [.lit (.int .i64 v0)] [] (.lit (.bool res)) []:=by
 refine aj (ra:=[]) (md:=mdT) hT (hi:=KT) Tryz.func272 rfl rfl (by decide +kernel) (by simp) ?_
 unfold jS at h
 cases h
 simp(config:=cS)only[go_sem]
def KU:Hint where
 acts:=fun _=>[]
 draws:=fun
  | _=>⟨.nil,[],[]⟩
theorem Vh (i:Nat):KU.acts i=[]:=rfl
theorem Vi (i:Nat):KU.views i=none:=rfl
attribute [go_sem] Vh Vi Tryz.ntmps255 Tryz.results255
theorem CF {v0:Int}{v1:Int}{res:Bool}(h:kY v0 v1=some res):ao Tryz.prog 255 [.lit (.int .i64 v0),.lit (.int .i64 v1)] [] (.lit (.bool res)) []:=by
 refine aj (ra:=[]) (md:=mdT) hT (hi:=KU) Tryz.func255 rfl rfl (by decide +kernel) (by simp) ?_
 unfold kY at h
 obtain ⟨r1001,g1,h⟩:=ae h
 simp(config:=cS)only[go_sem]
 refine ag (tK g1) ?_
 obtain ⟨h2,h⟩|⟨h2,h⟩:=af h
 ·obtain ⟨r1002,g3,h⟩:=ae h
  simp(config:=cS)only[go_sem,eZt h2]
  refine ag (tK g3) ?_
  obtain ⟨h4,h⟩|⟨h4,h⟩:=af h
  ·cases h
   simp(config:=cS)only[go_sem,eZt h2,eZt h4]
  ·cases h
   simp(config:=cS)only[go_sem,eZt h2,eZf h4]
 ·cases h
  simp(config:=cS)only[go_sem,eZf h2]
def fG (zb0:Bool)(v1:Int)(v2:Int)(v6:Int):(Int × (List Int))→St
 | (v7,v0)=>⟨[(0,.ref 10000 0 0 v0.length),(1,.lit (.int .i64 v1)),(2,.lit (.int .i64 v2)),(6,.lit (.int .i64 v6)),(7,.lit (.int .i64 v7))],[(10000,0,.row zb0 (ab eI v0))],2⟩
attribute [go_sem] fG
def fH (zb0:Bool)(v1:Int)(v2:Int):(Int × (List Int))→St
 | (v6,v0)=>⟨[(0,.ref 10000 0 0 v0.length),(1,.lit (.int .i64 v1)),(2,.lit (.int .i64 v2)),(6,.lit (.int .i64 v6))],[(10000,0,.row zb0 (ab eI v0))],2⟩
attribute [go_sem] fH
@[go_sem] def hi249_6:DT:=.i2 0 (.i2 1 (.i2 2 (.i2 3 (.i2 4 (.i2 5 (.i2 6 (.i2 7 (.i2 8 (.i2 9 (.i2 10 (.i2 11 (.i2 12 (.i2 13 (.i2 14 (.i2 15 (.i2 16 (.i2 17 .nil)))))))))))))))))
@[go_sem] def hi249_4:DT:=.i2 0 (.i2 1 (.i2 2 (.i2 3 (.i2 4 (.i2 5 (.i2 6 (.i2 7 (.i2 8 (.i2 9 (.i2 10 (.i2 11 (.i2 12 (.i2 13 (.i2 14 .nil))))))))))))))
def Be:Hint where
 acts:=fun _=>[]
 draws:=fun
  | 4=>⟨hi249_4,[[],[],[0,1],[0,1,2],[0,1,2,3],[0,1,2,3],.range 6,.range 7,[0,1,2,3],[0,1,2,3],[0,1,2,3,9],[0,1,2,3,8,9,10],[0,1,2,3,8,9,10,11],.range 13,.range 14],.range 15⟩
  | 6=>⟨hi249_6,[[],[],[],[],[3],[],[],[6],[5,6,7],[5,6,7,8],[],[],[10,11],[10,11,12],[0,1,5,6,7,8,9,10,11,12,13],[0,1,5,6,7,8,9,10,11,12,13,14],.range 16,.range 17],[0,1,13,14,15,2,3,4,5,6,7,8,9,10,11,12,16,17]⟩
  | _=>⟨.nil,[],[]⟩
theorem Vj (i:Nat):Be.acts i=[]:=rfl
theorem Vk (i:Nat):Be.views i=none:=rfl
attribute [go_sem] Vj Vk Tryz.ntmps249 Tryz.results249
@[go_sem] theorem aal:(Be.draws 4).order=hi249_4:=rfl
@[go_sem] theorem aam:(Be.draws 6).order=hi249_6:=rfl
theorem oq {v0:List Int}{v1:Int}{v2:Int}{zb0:Bool}{res:List Int}(h:bJ v0 v1 v2=some res):ao Tryz.prog 249 [.ref 10000 0 0 v0.length,.lit (.int .i64 v1),.lit (.int .i64 v2)] [(10000,0,.row zb0 (ab eI v0))] (.tup []) [(10000,0,.row zb0 (ab eI res))]:=by
 refine aj (ra:=[]) (md:=mdT) hT (hi:=Be) Tryz.func249 rfl rfl (by decide +kernel) (by simp) ?_
 unfold bJ at h
 obtain ⟨q1006,l1,h⟩:=ae h
 simp(config:=cS)only[go_sem]
 refine an (m1:=.mk) (m2:=.mk) [.nf [0,1,2,6] [10000]] (fH zb0 v1 v2) l1 ?_ ?_
 ·simp(config:=cS)only[go_sem]
 ·intro nb2 sb2 bb2 b2 gb2
  obtain ⟨v6_1,v0_1⟩:=sb2
  unfold ba at b2
  try dsimp only at b2
  obtain ⟨h3,b2⟩|⟨h3,b2⟩:=af b2
  ·obtain ⟨q1005,l4,b2⟩:=ae b2
   simp(config:=cS)only[go_sem,eqT h3]
   refine an (m1:=.mk) (m2:=.mk) [.nf [0,1,2,6,7] [10000]] (fG zb0 v1 v2 v6_1) l4 ?_ ?_
   ·simp(config:=cS)only[go_sem,eqT h3]
   ·intro nb5 sb5 bb5 b5 gb5
    obtain ⟨v7_2,v0_2⟩:=sb5
    unfold aO at b5
    try dsimp only at b5
    obtain ⟨h6,b5⟩|⟨h6,b5⟩:=af b5
    ·obtain ⟨x1001,g7,b5⟩:=ae b5
     obtain ⟨h8,h9,h10⟩:=ai g7
     obtain ⟨x1002,g11,b5⟩:=ae b5
     obtain ⟨h12,h13,h14⟩:=ai g11
     obtain ⟨r1003,g15,b5⟩:=ae b5
     simp(config:=cS)only[go_sem,eqT h3,eqT h6,h8,h9,h10,h12,h13,h14]
     refine ag (CF g15) ?_
     obtain ⟨h16,b5⟩|⟨h16,b5⟩:=af b5
     ·obtain ⟨x1004,g17,b5⟩:=ae b5
      obtain ⟨h18,h19,h20⟩:=ai g17
      cases b5
      simp(config:=cS)only[go_sem,eqT h3,eqT h6,h8,h9,h10,h12,h13,h14,eZt h16,h18,h19,h20]
      refine ap gb5 ?_
      simp(config:=cS)only[go_sem,eqT h3,eqT h6,h8,h9,h10,h12,h13,h14,eZt h16,h18,h19,h20]
     ·cases b5
      have e21:=(ak gb5).symm
      subst e21
      try dsimp only at b2
      cases b2
      simp(config:=cS)only[go_sem,eqT h3,eqT h6,h8,h9,h10,h12,h13,h14,eZf h16]
      refine ap gb2 ?_
      simp(config:=cS)only[go_sem,eqT h3,eqT h6,h8,h9,h10,h12,h13,h14,eZf h16]
    ·cases b5
     have e22:=(ak gb5).symm
     subst e22
     try dsimp only at b2
     cases b2
     simp(config:=cS)only[go_sem,eqT h3,eqF h6]
     refine ap gb2 ?_
     simp(config:=cS)only[go_sem,eqT h3,eqF h6]
  ·cases b2
   have e23:=(ak gb2).symm
   subst e23
   try dsimp only at h
   cases h
   simp(config:=cS)only[go_sem,eqF h3]
def iW (zb0:Bool)(v1:Int)(v2:Int)(v3:Int)(v0:List Int)(_:Unit):St:=⟨[(0,.ref 10000 0 0 v0.length),(1,.lit (.int .i64 v1)),(2,.lit (.int .i64 v2)),(3,.lit (.int .i64 v3)),(8,.lit (.bool true)),(9,.lit (.bool true))],[(10000,0,.row zb0 (ab eI v0))],2⟩
attribute [go_sem] iW
@[go_sem] def hi223_17:DT:=.i2 0 (.i2 1 (.i2 2 (.i2 3 (.i2 4 (.i2 5 (.i2 6 (.i2 7 (.i2 8 (.i2 9 (.i2 10 (.i2 11 (.i2 12 (.i2 13 (.i2 14 .nil))))))))))))))
def Fu:Hint where
 acts:=fun _=>[]
 draws:=fun
  | 17=>⟨hi223_17,[[],[0],[0,1],[0,1,2],[0,1,2],[0,1,2,4],.range 6,.range 7,[0,1,2],[0,1,2],[0,1,2,8,9],[0,1,2,8,9,10],.range 12,.range 13,.range 14],.range 15⟩
  | _=>⟨.nil,[],[]⟩
theorem Vl (i:Nat):Fu.acts i=[]:=rfl
theorem Vm (i:Nat):Fu.views i=none:=rfl
attribute [go_sem] Vl Vm Tryz.ntmps223 Tryz.results223
@[go_sem] theorem ZO:(Fu.draws 17).order=hi223_17:=rfl
theorem rM {v0:List Int}{v1:Int}{v2:Int}{v3:Int}{zb0:Bool}{res:List Int}(h:cz v0 v1 v2 v3=some res):ao Tryz.prog 223 [.ref 10000 0 0 v0.length,.lit (.int .i64 v1),.lit (.int .i64 v2),.lit (.int .i64 v3)] [(10000,0,.row zb0 (ab eI v0))] (.tup []) [(10000,0,.row zb0 (ab eI res))]:=by
 refine aj (ra:=[]) (md:=mdT) hT (hi:=Fu) Tryz.func223 rfl rfl (by decide +kernel) (by simp) ?_
 unfold cz at h
 obtain ⟨q1002,l1,h⟩:=ae h
 simp(config:=cS)only[go_sem]
 refine an (m1:=.mk) (m2:=.mk) [.nf [0,1,2,3,8,9] [10000]] (iW zb0 v1 v2 v3 v0) l1 ?_ ?_
 ·simp(config:=cS)only[go_sem]
 ·intro nb2 sb2 bb2 b2 gb2
  unfold eX at b2
  try dsimp only at b2
  obtain ⟨h3,b2⟩|⟨h3,b2⟩:=af b2
  ·obtain ⟨r1001,g4,b2⟩:=ae b2
   simp(config:=cS)only[go_sem,eqT h3]
   refine ag (oq g4) ?_
   cases b2
   have e5:=(ak gb2).symm
   subst e5
   try dsimp only at h
   cases h
   simp(config:=cS)only[go_sem]
  ·cases b2
def KV:Hint where
 acts:=fun _=>[]
 draws:=fun
  | _=>⟨.nil,[],[]⟩
theorem Vn (i:Nat):KV.acts i=[]:=rfl
theorem Vo (i:Nat):KV.views i=none:=rfl
attribute [go_sem] Vn Vo Tryz.ntmps154 Tryz.results154
theorem sf {v0:List Int}{zb0:Bool}{res:List Int}(h:ck v0=some res):ao Tryz.prog 154 [.ref 10000 0 0 v0.length] [(10000,0,.row zb0 (ab eI v0))] (.tup []) [(10000,0,.row zb0 (ab eI res))]:=by
 refine aj (ra:=[]) (md:=mdT) hT (hi:=KV) Tryz.func154 rfl rfl (by decide +kernel) (by simp) ?_
 unfold ck at h
 obtain ⟨r1001,g1,h⟩:=ae h
 simp(config:=cS)only[go_sem]
 refine ag (KS g1) ?_
 obtain ⟨r1002,g2,h⟩:=ae h
 simp(config:=cS)only[go_sem]
 refine ag (rM g2) ?_
 cases h
 simp(config:=cS)only[go_sem]
def qq (v21:Int)(s_0:List GNode)(s_1:List GTie)(s_2:Int)(v3_0:Int)(v3_1:List Int)(v3_2:List Int)(v20:List Int):(Int × (List Int) × (List Int))→St
 | (v22,must,may)=>⟨[(2,.ptr 128 1 0 0),(3,.ptr 192 1 0 0),(5,.ref 383 1 0 must.length),(6,.ref 447 1 0 may.length),(20,.ref 1280 1 0 v20.length),(21,.lit (.int .i64 v21)),(22,.lit (.int .i64 v22))],[(128,1,.var [.sl (ab GNode.encS s_0),.sl (ab GTie.enc s_1),.lit (.int .i64 s_2)]),(192,1,.var [.lit (.int .i64 v3_0),.sl (ab eI v3_1),.sl (ab eI v3_2)]),(383,1,.row true (ab eI must)),(447,1,.row true (ab eI may)),(1280,1,.row true (ab eI v20))],2⟩
attribute [go_sem] qq
def qr (must:List Int)(may:List Int):(Int × (List (List Int)))→St
 | (set,out)=>⟨[(5,.ref 383 1 0 must.length),(6,.ref 447 1 0 may.length),(10,.ref 703 1 0 out.length),(11,.lit (.int .i64 set))],[(383,1,.tree (ab eI must)),(447,1,.row true (ab eI may)),(703,1,.row true (ab (eLO eI) out))],2⟩
attribute [go_sem] qr
@[go_sem] def hi68_7:DT:=.i2 0 (.i2 1 (.i2 2 (.i2 3 (.i2 4 (.i2 5 (.i2 6 (.i2 7 (.i2 8 (.i2 9 (.i2 10 (.i2 11 (.i2 12 (.i2 13 .nil)))))))))))))
def hi68:Hint where
 acts:=fun _=>[]
 draws:=fun
  | 7=>⟨hi68_7,[[],[0],[],[2],[],[4],[],[4,5,6],[4,5,6,7],[4,5,6,7,8],[2,3,4,5,6,7,8,9],[2,3,4,5,6,7,8,9,10],.range 12,.range 13],.range 14⟩
  | _=>⟨.nil,[],[]⟩
theorem Yw (i:Nat):hi68.acts i=[]:=rfl
theorem Yx (i:Nat):hi68.views i=none:=rfl
attribute [go_sem] Yw Yx Tryz.ntmps68 Tryz.results68
@[go_sem] theorem aaX:(hi68.draws 7).order=hi68_7:=rfl
theorem nu {s:GShow}{v1:GState}{res:List (List Int)}(h:gp s v1=some res):ao Tryz.prog 68 [.agg (GShow.encS s),.agg (GState.encS v1)] [] (.ref 20000 1 0 res.length) [(20000,1,.row true (ab (eLO eI) res))]:=by
 refine aj (ra:=[.home 4]) (md:=mdT) hT (hi:=hi68) Tryz.func68 rfl rfl (by decide +kernel) (by simp) ?_
 unfold gp at h
 obtain ⟨h1,h⟩|⟨h1,h⟩:=af h
 ·cases h
  simp(config:=cS)only[go_sem,eqT h1]
 ·obtain ⟨r1001,g2,h⟩:=ae h
  simp(config:=cS)only[go_sem,eqF h1]
  refine ag (Ep g2) ?_
  obtain ⟨q1009,l3,h⟩:=ae h
  simp(config:=cS)only[go_sem]
  refine an (m1:=.mk) (m2:=.mk) [.home 5,.home 6,.nf [2,3,5,6,20,21,22] [128,192,383,447,1280]] (qq ((r1001.length:Nat):Int) s.nodes s.ties s.horizon v1.now v1.times v1.values r1001) l3 ?_ ?_
  ·simp(config:=cS)only[go_sem]
  ·intro nb4 sb4 bb4 b4 gb4
   obtain ⟨v22_1,must_1,may_1⟩:=sb4
   unfold iv at b4
   try dsimp only at b4
   obtain ⟨h5,b4⟩|⟨h5,b4⟩:=af b4
   ·obtain ⟨x1002,g6,b4⟩:=ae b4
    obtain ⟨h7,h8,h9⟩:=ai g6
    obtain ⟨x1003,g10,b4⟩:=ae b4
    obtain ⟨h11,h12,h13⟩:=ai g10
    obtain ⟨x1004,g14,b4⟩:=ae b4
    obtain ⟨h15,h16,h17⟩:=ai g14
    obtain ⟨h18,b4⟩|⟨h18,b4⟩:=af b4
    ·obtain ⟨h19,b4⟩:=ah b4
     obtain ⟨h20,b4⟩:=ah b4
     cases b4
     simp(config:=cS)only[go_sem,eqT h5,h7,h8,h9,h11,h12,h13,h15,h16,h17,eqT h18,eqT h19,eqT h20]
     refine ap gb4 ?_
     simp(config:=cS)only[go_sem]
    ·obtain ⟨h21,b4⟩|⟨h21,b4⟩:=af b4
     ·obtain ⟨h22,b4⟩:=ah b4
      obtain ⟨h23,b4⟩:=ah b4
      cases b4
      simp(config:=cS)only[go_sem,eqT h5,h7,h8,h9,h11,h12,h13,h15,h16,h17,eqF h18,eqT h21,eqT h22,eqT h23]
      refine ap gb4 ?_
      simp(config:=cS)only[go_sem]
     ·cases b4
      simp(config:=cS)only[go_sem,eqT h5,h7,h8,h9,h11,h12,h13,h15,h16,h17,eqF h18,eqF h21]
      refine ap gb4 ?_
      simp(config:=cS)only[go_sem]
   ·cases b4
    have e24:=(ak gb4).symm
    subst e24
    try dsimp only at h
    obtain ⟨q1008,l25,h⟩:=ae h
    simp(config:=cS)only[go_sem,eqF h5]
    refine an (m1:=.mk) (m2:=.mk) [.home 10,.freeze [383],.nf [5,6,10,11] [383,447,703]] (qr must_1 may_1) l25 ?_ ?_
    ·simp(config:=cS)only[go_sem]
    ·intro nb26 sb26 bb26 b26 gb26
     obtain ⟨set_2,out_2⟩:=sb26
     unfold iw at b26
     try dsimp only at b26
     obtain ⟨h27,b26⟩:=ah b26
     obtain ⟨h28,b26⟩|⟨h28,b26⟩:=af b26
     ·obtain ⟨r1005,g29,b26⟩:=ae b26
      simp(config:=cS)only[go_sem,eqF h27,eqT h28]
      refine ag (uA g29) ?_
      obtain ⟨r1006,g30,b26⟩:=ae b26
      simp(config:=cS)only[go_sem]
      refine ag (vL g30) ?_
      obtain ⟨r1007,g31,b26⟩:=ae b26
      simp(config:=cS)only[go_sem]
      refine ag (sf g31) ?_
      obtain ⟨h32,b26⟩:=ah b26
      obtain ⟨h33,b26⟩:=ah b26
      obtain ⟨h34,b26⟩:=ah b26
      cases b26
      simp(config:=cS)only[go_sem,h32.symm,eqT h33,eqT h34]
      refine ap gb26 ?_
      simp(config:=cS)only[go_sem]
     ·cases b26
      have e35:=(ak gb26).symm
      subst e35
      try dsimp only at h
      cases h
      simp(config:=cS)only[go_sem,eqF h27,eqF h28]
def ky (v0:List (List Int))(f_v1:Nat)(k_v1:List AV)(v7:Int)(v8:Int):St:=⟨[(0,.sl (ab (eLS eI) v0)),(1,.fn f_v1 k_v1),(7,.lit (.int .i64 v7)),(8,.lit (.int .i64 v8))],[],2⟩
attribute [go_sem] ky
def KW:Hint where
 acts:=fun _=>[]
 draws:=fun
  | _=>⟨.nil,[],[]⟩
theorem Vp (i:Nat):KW.acts i=[]:=rfl
theorem Vq (i:Nat):KW.views i=none:=rfl
attribute [go_sem] Vp Vq Tryz.ntmps172 Tryz.results172
theorem tp {v0:List (List Int)}{v1:(List Int)→Option Bool}{f_v1:Nat}{k_v1:List AV}(hp_v1:∀ y0 r,v1 y0=some r→ao Tryz.prog f_v1 ([.sl (ab eI y0)] ++ k_v1) [] (.lit (.bool r)) [])(hc_v1:KC k_v1)(hm_v1:∀ a,mdT f_v1 a=⟨[],false⟩)(hk_v1:spf f_v1=false){res:Int}(h:dA v0 v1=some res):ao Tryz.prog 172 [.sl (ab (eLS eI) v0),.fn f_v1 k_v1] [] (.lit (.int .i64 res)) []:=by
 refine aj (ra:=[]) (md:=mdT) hT (hi:=KW) Tryz.func172 rfl rfl (by decide +kernel) (by simp) ?_
 unfold dA at h
 obtain ⟨q1003,l1,h⟩:=ae h
 simp(config:=cS)only[go_sem,hc_v1.1,hc_v1.2,hm_v1,hk_v1]
 refine an (m1:=.mk) (m2:=.mk) [.nf [0,1,7,8] []] (ky v0 f_v1 k_v1 ((v0.length:Nat):Int)) l1 ?_ ?_
 ·simp(config:=cS)only[go_sem,hc_v1.1,hc_v1.2,hm_v1,hk_v1]
 ·intro nb2 sb2 bb2 b2 gb2
  obtain ⟨v8_1,eb2⟩:∃ v,v=sb2:=⟨_,rfl⟩;subst eb2
  unfold bU at b2
  try dsimp only at b2
  obtain ⟨h3,b2⟩|⟨h3,b2⟩:=af b2
  ·obtain ⟨x1001,g4,b2⟩:=ae b2
   obtain ⟨h5,h6,h7⟩:=ai g4
   obtain ⟨r1002,g8,b2⟩:=ae b2
   simp(config:=cS)only[go_sem,hc_v1.1,hc_v1.2,hm_v1,hk_v1,eqT h3,h5,h6,h7]
   refine ag (hp_v1 _ _ g8) ?_
   obtain ⟨h9,b2⟩|⟨h9,b2⟩:=af b2
   ·cases b2
    have e10:=(ak gb2).symm
    subst e10
    try dsimp only at h
    cases h
    simp(config:=cS)only[go_sem,hc_v1.1,hc_v1.2,hm_v1,hk_v1,eqT h3,h5,h6,h7,eZt h9]
   ·cases b2
    simp(config:=cS)only[go_sem,hc_v1.1,hc_v1.2,hm_v1,hk_v1,eqT h3,h5,h6,h7,eZf h9]
    refine ap gb2 ?_
    simp(config:=cS)only[go_sem,hc_v1.1,hc_v1.2,hm_v1,hk_v1,eqT h3,h5,h6,h7,eZf h9]
  ·cases b2
   have e11:=(ak gb2).symm
   subst e11
   try dsimp only at h
   cases h
   simp(config:=cS)only[go_sem,hc_v1.1,hc_v1.2,hm_v1,hk_v1,eqF h3]
def KX:Hint where
 acts:=fun _=>[]
 draws:=fun
  | _=>⟨.nil,[],[]⟩
theorem Vr (i:Nat):KX.acts i=[]:=rfl
theorem Vs (i:Nat):KX.views i=none:=rfl
attribute [go_sem] Vr Vs Tryz.ntmps163 Tryz.results163
theorem sc {v0:List (List Int)}{v1:(List Int)→Option Bool}{f_v1:Nat}{k_v1:List AV}(hp_v1:∀ y0 r,v1 y0=some r→ao Tryz.prog f_v1 ([.sl (ab eI y0)] ++ k_v1) [] (.lit (.bool r)) [])(hc_v1:KC k_v1)(hm_v1:∀ a,mdT f_v1 a=⟨[],false⟩)(hk_v1:spf f_v1=false){res:Bool}(h:dV v0 v1=some res):ao Tryz.prog 163 [.sl (ab (eLS eI) v0),.fn f_v1 k_v1] [] (.lit (.bool res)) []:=by
 refine aj (ra:=[]) (md:=mdT) hT (hi:=KX) Tryz.func163 rfl rfl (by decide +kernel) (by simp) ?_
 unfold dV at h
 obtain ⟨r1001,g1,h⟩:=ae h
 simp(config:=cS)only[go_sem,hc_v1.1,hc_v1.2,hm_v1,hk_v1]
 refine ag (tp hp_v1 hc_v1 hm_v1 hk_v1 g1) ?_
 cases h
 simp(config:=cS)only[go_sem,hc_v1.1,hc_v1.2,hm_v1,hk_v1]
def KY:Hint where
 acts:=fun _=>[]
 draws:=fun
  | _=>⟨.nil,[],[]⟩
theorem Vt (i:Nat):KY.acts i=[]:=rfl
theorem Vu (i:Nat):KY.views i=none:=rfl
attribute [go_sem] Vt Vu Tryz.ntmps164 Tryz.results164
theorem Er {y:List Int}{v1:List Int}{res:Bool}(h:oO y v1=some res):ao Tryz.prog 164 [.sl (ab eI y),.loc [.sl (ab eI v1)]] [] (.lit (.bool res)) []:=by
 refine aj (ra:=[]) (md:=mdT) hT (hi:=KY) Tryz.func164 rfl rfl (by decide +kernel) (by simp) ?_
 unfold oO at h
 obtain ⟨r1001,g1,h⟩:=ae h
 simp(config:=cS)only[go_sem]
 refine ag (gN g1) ?_
 cases h
 simp(config:=cS)only[go_sem]
def hi73:Hint where
 acts:=fun _=>[]
 draws:=fun
  | _=>⟨.nil,[],[]⟩
theorem Yy (i:Nat):hi73.acts i=[]:=rfl
theorem Yz (i:Nat):hi73.views i=none:=rfl
attribute [go_sem] Yy Yz Tryz.ntmps73 Tryz.results73
theorem sv {list:List (List Int)}{v1:List Int}{res:Bool}(h:lK list v1=some res):ao Tryz.prog 73 [.sl (ab (eLS eI) list),.sl (ab eI v1)] [] (.lit (.bool res)) []:=by
 refine aj (ra:=[]) (md:=mdT) hT (hi:=hi73) Tryz.func73 rfl rfl (by decide +kernel) (by simp) ?_
 unfold lK at h
 obtain ⟨r1001,g1,h⟩:=ae h
 simp(config:=cS)only[go_sem]
 refine ag (sc (by exact fun _ _ hr=>Er hr) (by refine ⟨fun _=>?_,fun _=>?_⟩ <;> simp only [go_sem]) (fun _=>rfl) rfl g1) ?_
 cases h
 simp(config:=cS)only[go_sem]
def rN (v12:List Int)(v13:Int)(s_0:List GNode)(s_1:List GTie)(s_2:Int)(v4_0:Int)(v4_1:List Int)(v4_2:List Int)(out_0:Int)(h705:List Int):(Int × (List Int))→St
 | (v14,h704)=>⟨[(3,.ptr 192 1 0 0),(4,.ptr 256 1 0 0),(6,.ptr 384 1 0 0),(7,.ptr 448 1 0 0),(12,.sl (ab eI v12)),(13,.lit (.int .i64 v13)),(14,.lit (.int .i64 v14))],[(192,1,.var [.sl (ab GNode.encS s_0),.sl (ab GTie.enc s_1),.lit (.int .i64 s_2)]),(256,1,.var [.lit (.int .i64 v4_0),.sl (ab eI v4_1),.sl (ab eI v4_2)]),(384,1,.var [.lit (.int .i64 0),.lit (.slice none 0 0),.lit (.slice none 0 0)]),(448,1,.var [.lit (.int .i64 out_0),.ref 704 1 0 h704.length,.ref 705 1 0 h705.length]),(704,1,.row true (ab eI h704)),(705,1,.row true (ab eI h705))],2⟩
attribute [go_sem] rN
@[go_sem] def hi78_5:DT:=.i2 0 (.i2 1 (.i2 2 (.i2 3 (.i2 4 (.i2 5 (.i2 6 (.i2 7 (.i2 8 (.i2 9 (.i2 10 (.i2 11 .nil)))))))))))
def hi78:Hint where
 acts:=fun _=>[]
 draws:=fun
  | 5=>⟨hi78_5,[[],[0],[],[2],[],[2,3,4],[2,3,4,5],[2,3,4,5,6],[],[8],.range 10,.range 11],.range 12⟩
  | _=>⟨.nil,[],[]⟩
theorem YA (i:Nat):hi78.acts i=[]:=rfl
theorem YB (i:Nat):hi78.views i=none:=rfl
attribute [go_sem] YA YB Tryz.ntmps78 Tryz.results78
@[go_sem] theorem aaY:(hi78.draws 5).order=hi78_5:=rfl
theorem qt {s:GShow}{v1:GState}{ties:List Int}{res:GState}(h:jl s v1 ties=some res):ao Tryz.prog 78 [.agg (GShow.encS s),.agg (GState.encS v1),.sl (ab eI ties)] [] (.agg [.lit (.int .i64 res.now),.ref 20000 1 0 res.times.length,.ref 20001 1 0 res.values.length]) [(20000,1,.row true (ab eI res.times)),(20001,1,.row true (ab eI res.values))]:=by
 refine aj (ra:=[.homeCell 384 1,.homeCell 384 2]) (md:=mdT) hT (hi:=hi78) Tryz.func78 rfl rfl (by decide +kernel) (by simp) ?_
 unfold jl at h
 obtain ⟨r1001,g1,h⟩:=ae h
 simp(config:=cS)only[go_sem]
 refine ag (lI g1) ?_
 obtain ⟨q1005,l2,h⟩:=ae h
 simp(config:=cS)only[go_sem]
 refine an (m1:=.mk) (m2:=.mk) [.nf [3,4,6,7,12,13,14] [192,256,384,448,704,705]] (rN ties ((ties.length:Nat):Int) s.nodes s.ties s.horizon v1.now v1.times v1.values r1001.now r1001.values) l2 ?_ ?_
 ·simp(config:=cS)only[go_sem]
 ·intro nb3 sb3 bb3 b3 gb3
  obtain ⟨v14_1,h704_1⟩:=sb3
  unfold jT at b3
  try dsimp only at b3
  obtain ⟨h4,b3⟩|⟨h4,b3⟩:=af b3
  ·obtain ⟨x1002,g5,b3⟩:=ae b3
   obtain ⟨h6,h7,h8⟩:=ai g5
   obtain ⟨x1003,g9,b3⟩:=ae b3
   obtain ⟨h10,h11,h12⟩:=ai g9
   obtain ⟨x1004,g13,b3⟩:=ae b3
   obtain ⟨h14,h15,h16⟩:=ai g13
   cases b3
   simp(config:=cS)only[go_sem,eqT h4,h6,h7,h8,h10,h11,h12,h14,h15,h16]
   refine ap gb3 ?_
   simp(config:=cS)only[go_sem]
  ·cases b3
   have e17:=(ak gb3).symm
   subst e17
   try dsimp only at h
   cases h
   simp(config:=cS)only[go_sem,eqF h4]
def KZ:Hint where
 acts:=fun _=>[]
 draws:=fun
  | _=>⟨.nil,[],[]⟩
theorem Vv (i:Nat):KZ.acts i=[]:=rfl
theorem Vw (i:Nat):KZ.views i=none:=rfl
attribute [go_sem] Vv Vw Tryz.ntmps273 Tryz.results273
theorem xL {t:GTie}{node:Int}{res:Bool}(h:kG t node=some res):ao Tryz.prog 273 [.agg (GTie.enc t),.loc [.lit (.int .i64 node)]] [] (.lit (.bool res)) []:=by
 refine aj (ra:=[]) (md:=mdT) hT (hi:=KZ) Tryz.func273 rfl rfl (by decide +kernel) (by simp) ?_
 unfold kG at h
 obtain ⟨h1,h⟩|⟨h1,h⟩:=af h
 ·cases h
  simp(config:=cS)only[go_sem,eZt h1]
 ·cases h
  simp(config:=cS)only[go_sem,eZf h1]
def La:Hint where
 acts:=fun _=>[]
 draws:=fun
  | _=>⟨.nil,[],[]⟩
theorem Vx (i:Nat):La.acts i=[]:=rfl
theorem Vy (i:Nat):La.views i=none:=rfl
attribute [go_sem] Vx Vy Tryz.ntmps261 Tryz.results261
theorem CG {s:GShow}{node:Int}{res:Int}(h:kZ s node=some res):ao Tryz.prog 261 [.agg (GShow.encS s),.lit (.int .i64 node)] [] (.lit (.int .i64 res)) []:=by
 refine aj (ra:=[]) (md:=mdT) hT (hi:=La) Tryz.func261 rfl rfl (by decide +kernel) (by simp) ?_
 unfold kZ at h
 obtain ⟨r1001,g1,h⟩:=ae h
 simp(config:=cS)only[go_sem]
 refine ag (om (by exact fun _ _ hr=>xL hr) (by refine ⟨fun _=>?_,fun _=>?_⟩ <;> simp only [go_sem]) (fun _=>rfl) rfl g1) ?_
 cases h
 simp(config:=cS)only[go_sem]
def qV (s_0:List GNode)(s_1:List GTie)(s_2:Int):(Int × (List Int))→St
 | (i,out)=>⟨[(1,.ptr 64 1 0 0),(3,.ref 255 1 0 out.length),(4,.lit (.int .i64 i))],[(64,1,.var [.sl (ab GNode.encS s_0),.sl (ab GTie.enc s_1),.lit (.int .i64 s_2)]),(255,1,.row true (ab eI out))],2⟩
attribute [go_sem] qV
def Lb:Hint where
 acts:=fun _=>[]
 draws:=fun
  | _=>⟨.nil,[],[]⟩
theorem Vz (i:Nat):Lb.acts i=[]:=rfl
theorem VA (i:Nat):Lb.views i=none:=rfl
attribute [go_sem] Vz VA Tryz.ntmps227 Tryz.results227
theorem Es {s:GShow}{res:List Int}(h:lY s=some res):ao Tryz.prog 227 [.agg (GShow.encS s)] [] (.ref 20000 1 0 res.length) [(20000,1,.row true (ab eI res))]:=by
 refine aj (ra:=[.home 2]) (md:=mdT) hT (hi:=Lb) Tryz.func227 rfl rfl (by decide +kernel) (by simp) ?_
 unfold lY at h
 obtain ⟨q1002,l1,h⟩:=ae h
 simp(config:=cS)only[go_sem]
 refine an (m1:=.mk) (m2:=.mk) [.home 3,.nf [1,3,4] [64,255]] (qV s.nodes s.ties s.horizon) l1 ?_ ?_
 ·simp(config:=cS)only[go_sem]
 ·intro nb2 sb2 bb2 b2 gb2
  obtain ⟨i_1,out_1⟩:=sb2
  unfold jm at b2
  try dsimp only at b2
  obtain ⟨h3,b2⟩|⟨h3,b2⟩:=af b2
  ·obtain ⟨r1001,g4,b2⟩:=ae b2
   simp(config:=cS)only[go_sem,eqT h3]
   refine ag (CG g4) ?_
   obtain ⟨h5,b2⟩|⟨h5,b2⟩:=af b2
   ·obtain ⟨h6,b2⟩:=ah b2
    obtain ⟨h7,b2⟩:=ah b2
    cases b2
    simp(config:=cS)only[go_sem,eqT h5,eqT h6,eqT h7]
    refine ap gb2 ?_
    simp(config:=cS)only[go_sem]
   ·cases b2
    simp(config:=cS)only[go_sem,eqF h5]
    refine ap gb2 ?_
    simp(config:=cS)only[go_sem]
  ·cases b2
   have e8:=(ak gb2).symm
   subst e8
   try dsimp only at h
   cases h
   simp(config:=cS)only[go_sem,eqF h3]
def kz (zb0:Bool)(f_v1:Nat)(k_v1:List AV):(Int × Int × (List Int))→St
 | (v5,v6,v0)=>⟨[(0,.ref 10000 0 0 v0.length),(1,.fn f_v1 k_v1),(5,.lit (.int .i64 v5)),(6,.lit (.int .i64 v6))],[(10000,0,.row zb0 (ab eI v0))],2⟩
attribute [go_sem] kz
def Lc:Hint where
 acts:=fun _=>[]
 draws:=fun
  | _=>⟨.nil,[],[]⟩
theorem VB (i:Nat):Lc.acts i=[]:=rfl
theorem VC (i:Nat):Lc.views i=none:=rfl
attribute [go_sem] VB VC Tryz.ntmps142 Tryz.results142
theorem tq {v0:List Int}{v1:Int→Option Bool}{zb0:Bool}{f_v1:Nat}{k_v1:List AV}(hp_v1:∀ y0 r,v1 y0=some r→ao Tryz.prog f_v1 ([.lit (.int .i64 y0)] ++ k_v1) [] (.lit (.bool r)) [])(hc_v1:KC k_v1)(hm_v1:∀ a,mdT f_v1 a=⟨[],false⟩)(hk_v1:spf f_v1=false){res:List Int}(h:dB v0 v1=some res):ao Tryz.prog 142 [.ref 10000 0 0 v0.length,.fn f_v1 k_v1] [(10000,0,.row zb0 (ab eI v0))] (.ref 10000 0 0 res.length) [(10000,0,.row false (ab eI res))]:=by
 refine aj (ra:=[.home 4,.trim 4]) (md:=mdT) hT (hi:=Lc) Tryz.func142 rfl rfl (by decide +kernel) (by simp) ?_
 unfold dB at h
 obtain ⟨r1001,g1,h⟩:=ae h
 simp(config:=cS)only[go_sem,hc_v1.1,hc_v1.2,hm_v1,hk_v1]
 refine ag (oo hp_v1 hc_v1 hm_v1 hk_v1 g1) ?_
 obtain ⟨h2,h⟩|⟨h2,h⟩:=af h
 ·cases h
  simp(config:=cS)only[go_sem,hc_v1.1,hc_v1.2,hm_v1,hk_v1,eqT h2]
 ·obtain ⟨q1005,l3,h⟩:=ae h
  simp(config:=cS)only[go_sem,hc_v1.1,hc_v1.2,hm_v1,hk_v1,eqF h2]
  refine an (m1:=.mk) (m2:=.mk) [.nf [0,1,5,6] [10000]] (kz zb0 f_v1 k_v1) l3 ?_ ?_
  ·simp(config:=cS)only[go_sem,hc_v1.1,hc_v1.2,hm_v1,hk_v1,eqF h2]
  ·intro nb4 sb4 bb4 b4 gb4
   obtain ⟨v5_1,v6_1,v0_1⟩:=sb4
   unfold cF at b4
   try dsimp only at b4
   obtain ⟨h5,b4⟩|⟨h5,b4⟩:=af b4
   ·obtain ⟨x1002,g6,b4⟩:=ae b4
    obtain ⟨h7,h8,h9⟩:=ai g6
    obtain ⟨r1003,g10,b4⟩:=ae b4
    simp(config:=cS)only[go_sem,hc_v1.1,hc_v1.2,hm_v1,hk_v1,eqF h2,eqT h5,h7,h8,h9]
    refine ag (hp_v1 _ _ g10) ?_
    obtain ⟨h11,b4⟩|⟨h11,b4⟩:=af b4
    ·cases b4
     simp(config:=cS)only[go_sem,hc_v1.1,hc_v1.2,hm_v1,hk_v1,eqF h2,eqT h5,h7,h8,h9,eZt h11]
     refine ap gb4 ?_
     simp(config:=cS)only[go_sem,hc_v1.1,hc_v1.2,hm_v1,hk_v1,eqF h2,eqT h5,h7,h8,h9,eZt h11]
    ·obtain ⟨x1004,g12,b4⟩:=ae b4
     obtain ⟨h13,h14,h15⟩:=ai g12
     cases b4
     simp(config:=cS)only[go_sem,hc_v1.1,hc_v1.2,hm_v1,hk_v1,eqF h2,eqT h5,h7,h8,h9,eZf h11,h13,h14,h15]
     refine ap gb4 ?_
     simp(config:=cS)only[go_sem,hc_v1.1,hc_v1.2,hm_v1,hk_v1,eqF h2,eqT h5,h7,h8,h9,eZf h11,h13,h14,h15]
   ·cases b4
    have e16:=(ak gb4).symm
    subst e16
    try dsimp only at h
    obtain ⟨h17,h⟩:=ah h
    obtain ⟨h18,h⟩:=ah h
    obtain ⟨h19,h⟩:=ah h
    cases h
    simp(config:=cS)only[go_sem,hc_v1.1,hc_v1.2,hm_v1,hk_v1,eqF h2,eqF h5,eqT h17,eqT h18,eqT h19]
def Ld:Hint where
 acts:=fun _=>[]
 draws:=fun
  | _=>⟨.nil,[],[]⟩
theorem VD (i:Nat):Ld.acts i=[]:=rfl
theorem VE (i:Nat):Ld.views i=none:=rfl
attribute [go_sem] VD VE Tryz.ntmps260 Tryz.results260
theorem Gj {l:Int}{v:List Int}{res:Int}(h:mU l v=some res):ao Tryz.prog 260 [.lit (.int .i64 l),.sl (ab eI v)] [] (.lit (.int .i64 res)) []:=by
 refine aj (ra:=[]) (md:=mdT) hT (hi:=Ld) Tryz.func260 rfl rfl (by decide +kernel) (by simp) ?_
 unfold mU at h
 obtain ⟨r1001,g1,h⟩:=ae h
 simp(config:=cS)only[go_sem]
 refine ag (jG g1) ?_
 obtain ⟨x1002,g2,h⟩:=ae h
 obtain ⟨h3,h4,h5⟩:=ai g2
 obtain ⟨h6,h⟩|⟨h6,h⟩:=af h
 ·cases h
  simp(config:=cS)only[go_sem,h3,h4,h5,eqT h6]
 ·cases h
  simp(config:=cS)only[go_sem,h3,h4,h5,eqF h6]
def nL (v:List Int)(v16:List Int)(v17:Int):(Int × Int)→St
 | (out,v18)=>⟨[(1,.sl (ab eI v)),(5,.lit (.int .i64 out)),(16,.sl (ab eI v16)),(17,.lit (.int .i64 v17)),(18,.lit (.int .i64 v18))],[],2⟩
attribute [go_sem] nL
def Le:Hint where
 acts:=fun _=>[]
 draws:=fun
  | _=>⟨.nil,[],[]⟩
theorem VG (i:Nat):Le.acts i=[]:=rfl
theorem VH (i:Nat):Le.views i=none:=rfl
attribute [go_sem] VG VH Tryz.ntmps226 Tryz.results226
theorem xM {l:List Int}{v:List Int}{res:Int}(h:fx l v=some res):ao Tryz.prog 226 [.sl (ab eI l),.sl (ab eI v)] [] (.lit (.int .i64 res)) []:=by
 refine aj (ra:=[]) (md:=mdT) hT (hi:=Le) Tryz.func226 rfl rfl (by decide +kernel) (by simp) ?_
 unfold fx at h
 obtain ⟨r1001,g1,h⟩:=ae h
 simp(config:=cS)only[go_sem]
 refine ag (kP g1) ?_
 obtain ⟨h2,h⟩|⟨h2,h⟩:=af h
 ·obtain ⟨r1002,g3,h⟩:=ae h
  simp(config:=cS)only[go_sem,eZt h2]
  refine ag (tJ g3) ?_
  obtain ⟨h4,h⟩|⟨h4,h⟩:=af h
  ·obtain ⟨q1005,l5,h⟩:=ae h
   simp(config:=cS)only[go_sem,eZt h2,eZt h4]
   refine an (m1:=.mk) (m2:=.mk) [.nf [1,5,16,17,18] []] (nL v l ((l.length:Nat):Int)) l5 ?_ ?_
   ·simp(config:=cS)only[go_sem,eZt h2,eZt h4]
   ·intro nb6 sb6 bb6 b6 gb6
    obtain ⟨out_1,v18_1⟩:=sb6
    unfold eY at b6
    try dsimp only at b6
    obtain ⟨h7,b6⟩|⟨h7,b6⟩:=af b6
    ·obtain ⟨x1003,g8,b6⟩:=ae b6
     obtain ⟨h9,h10,h11⟩:=ai g8
     obtain ⟨r1004,g12,b6⟩:=ae b6
     simp(config:=cS)only[go_sem,eZt h2,eZt h4,eqT h7,h9,h10,h11]
     refine ag (Gj g12) ?_
     cases b6
     simp(config:=cS)only[go_sem,eZt h2,eZt h4,eqT h7,h9,h10,h11]
     refine ap gb6 ?_
     simp(config:=cS)only[go_sem,eZt h2,eZt h4,eqT h7,h9,h10,h11]
    ·cases b6
     have e13:=(ak gb6).symm
     subst e13
     try dsimp only at h
     cases h
     simp(config:=cS)only[go_sem,eZt h2,eZt h4,eqF h7]
  ·cases h
   simp(config:=cS)only[go_sem,eZt h2,eZf h4]
 ·cases h
  simp(config:=cS)only[go_sem,eZf h2]
@[go_sem] def hi158_1:DT:=.i2 0 (.i2 1 (.i2 2 (.i2 3 (.i2 4 (.i2 5 (.i2 6 (.i2 7 (.i2 8 (.i2 9 .nil)))))))))
def Fv:Hint where
 acts:=fun _=>[]
 draws:=fun
  | 1=>⟨hi158_1,[[],[0],[],[0,1,2],[0,1,2,3],.range 5,[],[6],.range 8,.range 9],.range 10⟩
  | _=>⟨.nil,[],[]⟩
theorem VI (i:Nat):Fv.acts i=[]:=rfl
theorem VJ (i:Nat):Fv.views i=none:=rfl
attribute [go_sem] VI VJ Tryz.ntmps158 Tryz.results158
@[go_sem] theorem aan:(Fv.draws 1).order=hi158_1:=rfl
theorem lJ {s:GShow}{v1:GState}{node:Int}{res:Int}(h:cD s v1 node=some res):ao Tryz.prog 158 [.agg (GShow.encS s),.agg (GState.encS v1),.lit (.int .i64 node)] [] (.lit (.int .i64 res)) []:=by
 refine aj (ra:=[]) (md:=mdT) hT (hi:=Fv) Tryz.func158 rfl rfl (by decide +kernel) (by simp) ?_
 unfold cD at h
 obtain ⟨x1001,g1,h⟩:=ae h
 obtain ⟨h2,h3,h4⟩:=ai g1
 obtain ⟨r1002,g5,h⟩:=ae h
 simp(config:=cS)only[go_sem,h2,h3,h4]
 refine ag (xM g5) ?_
 cases h
 simp(config:=cS)only[go_sem]
def Lf:Hint where
 acts:=fun _=>[]
 draws:=fun
  | _=>⟨.nil,[],[]⟩
theorem VK (i:Nat):Lf.acts i=[]:=rfl
theorem VL (i:Nat):Lf.views i=none:=rfl
attribute [go_sem] VK VL Tryz.ntmps228 Tryz.results228
theorem xN {i:Int}{v1:GState}{s:GShow}{res:Bool}(h:kH i v1 s=some res):ao Tryz.prog 228 [.lit (.int .i64 i),.loc [.lit (.int .i64 v1.now),.sl (ab eI v1.times),.sl (ab eI v1.values)],.loc [.sl (ab GNode.encS s.nodes),.sl (ab GTie.enc s.ties),.lit (.int .i64 s.horizon)]] [] (.lit (.bool res)) []:=by
 refine aj (ra:=[]) (md:=mdT) hT (hi:=Lf) Tryz.func228 rfl rfl (by decide +kernel) (by simp) ?_
 unfold kH at h
 obtain ⟨x1001,g1,h⟩:=ae h
 obtain ⟨h2,h3,h4⟩:=ai g1
 obtain ⟨h5,h⟩|⟨h5,h⟩:=af h
 ·obtain ⟨r1002,g6,h⟩:=ae h
  simp(config:=cS)only[go_sem,h2,h3,h4,eqT h5]
  refine ag (lJ g6) ?_
  cases h
  simp(config:=cS)only[go_sem]
 ·cases h
  simp(config:=cS)only[go_sem,h2,h3,h4,eqF h5]
def Lg:Hint where
 acts:=fun _=>[]
 draws:=fun
  | _=>⟨.nil,[],[]⟩
theorem VM (i:Nat):Lg.acts i=[]:=rfl
theorem VN (i:Nat):Lg.views i=none:=rfl
attribute [go_sem] VM VN Tryz.ntmps165 Tryz.results165
theorem CH {s:GShow}{v1:GState}{res:List Int}(h:la s v1=some res):ao Tryz.prog 165 [.agg (GShow.encS s),.agg (GState.encS v1)] [] (.ref 20000 1 0 res.length) [(20000,1,.row false (ab eI res))]:=by
 refine aj (ra:=[.home 4,.trim 4]) (md:=mdT) hT (hi:=Lg) Tryz.func165 rfl rfl (by decide +kernel) (by simp) ?_
 unfold la at h
 obtain ⟨r1001,g1,h⟩:=ae h
 simp(config:=cS)only[go_sem]
 refine ag (Es g1) ?_
 obtain ⟨r1002,g2,h⟩:=ae h
 simp(config:=cS)only[go_sem]
 refine ag (tq (by exact fun _ _ hr=>xN hr) (by refine ⟨fun _=>?_,fun _=>?_⟩ <;> simp only [go_sem]) (fun _=>rfl) rfl g2) ?_
 cases h
 simp(config:=cS)only[go_sem]
def ot (nodes:List Int):(Int × (List (List Int)))→St
 | (set,out)=>⟨[(5,.ref 640 1 0 nodes.length),(6,.ref 447 1 0 out.length),(7,.lit (.int .i64 set))],[(640,1,.row false (ab eI nodes)),(447,1,.row true (ab (eLO eI) out))],2⟩
attribute [go_sem] ot
def hi74:Hint where
 acts:=fun _=>[]
 draws:=fun
  | _=>⟨.nil,[],[]⟩
theorem YC (i:Nat):hi74.acts i=[]:=rfl
theorem YD (i:Nat):hi74.views i=none:=rfl
attribute [go_sem] YC YD Tryz.ntmps74 Tryz.results74
theorem oT {s:GShow}{v1:GState}{res:List (List Int)}(h:dW s v1=some res):ao Tryz.prog 74 [.agg (GShow.encS s),.agg (GState.encS v1)] [] (.ref 20000 1 0 res.length) [(20000,1,.row true (ab (eLO eI) res))]:=by
 refine aj (ra:=[.home 4]) (md:=mdT) hT (hi:=hi74) Tryz.func74 rfl rfl (by decide +kernel) (by simp) ?_
 unfold dW at h
 obtain ⟨r1001,g1,h⟩:=ae h
 simp(config:=cS)only[go_sem]
 refine ag (CH g1) ?_
 obtain ⟨h2,h⟩:=ah h
 obtain ⟨q1003,l3,h⟩:=ae h
 simp(config:=cS)only[go_sem,eqF h2]
 refine an (m1:=.mk) (m2:=.mk) [.home 6,.nf [5,6,7] [640,447]] (ot r1001) l3 ?_ ?_
 ·simp(config:=cS)only[go_sem]
 ·intro nb4 sb4 bb4 b4 gb4
  obtain ⟨set_1,out_1⟩:=sb4
  unfold fO at b4
  try dsimp only at b4
  obtain ⟨h5,b4⟩|⟨h5,b4⟩:=af b4
  ·obtain ⟨r1002,g6,b4⟩:=ae b4
   simp(config:=cS)only[go_sem,eqT h5]
   refine ag (uA g6) ?_
   obtain ⟨h7,b4⟩:=ah b4
   obtain ⟨h8,b4⟩:=ah b4
   cases b4
   simp(config:=cS)only[go_sem,eqT h7,eqT h8]
   refine ap gb4 ?_
   simp(config:=cS)only[go_sem]
  ·cases b4
   have e9:=(ak gb4).symm
   subst e9
   try dsimp only at h
   cases h
   simp(config:=cS)only[go_sem,eqF h5]
end Go.Proofs.YtghfphjfkdbpjaaGreatZ
