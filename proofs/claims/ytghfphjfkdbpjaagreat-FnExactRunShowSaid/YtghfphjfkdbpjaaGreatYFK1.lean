/- Functions. -/
import Derived.Test.YtghfphjfkdbpjaaGreatYFK0
set_option linter.all false
set_option maxRecDepth 100000
set_option maxHeartbeats 400000
namespace Go.Proofs.YtghfphjfkdbpjaaGreatY
open Go
def re (s_0:List GNode)(s_1:List GTie)(s_2 v3_0:Int)(v3_1 v3_2 must may:List Int)(n:Int):St:=⟨[(2,.ptr 128 1 0 0),(3,.ptr 192 1 0 0),(5,.ref 1280 1 0 must.length),(6,.ref 1281 1 0 may.length),(7,.lit (.int .i64 n))],[(128,1,.var [.sl (ab GNode.encS s_0),.sl (ab GTie.enc s_1),.lit (.int .i64 s_2)]),(192,1,.var [.lit (.int .i64 v3_0),.sl (ab eI v3_1),.sl (ab eI v3_2)]),(1280,1,.row true (ab eI must)),(1281,1,.row true (ab eI may))],2⟩
attribute [go_sem] re
@[go_sem] def hi237_11:DT:=.i1 0 (.i1 1 (.i1 2 (.i2 3 (.i2 4 (.i2 5 (.i0 6 [0,1,2] (.i0 7 [0,1,2] (.i0 8 [0] (.i2 9 (.i2 10 .nil))))))))))
def FD:Hint where
 acts:=fun _=>[]
 draws:=fun
  | 11=>⟨hi237_11,[[],[],[],[],[],[],[4,5],[3,4,5,6],[1,2,3,4,5,6,7],.range 9,.range 10],.range 11⟩
  | _=>⟨.nil,[],[]⟩
theorem Qd (i:Nat):FD.acts i=[]:=rfl
theorem Qe (i:Nat):FD.views i=none:=rfl
attribute [go_sem] Qd Qe Tryz.ntmps237 Tryz.results237
@[go_sem] theorem Tb:(FD.draws 11).order=hi237_11:=rfl
theorem BG {rec:GShow→GState→Option Bool}(hrec:∀ {s:GShow} {v1:GState} {res:Bool},rec s v1=some res→ap Tryz.prog 237 [.agg (GShow.encS s),.agg (GState.encS v1)] [] (.lit (.bool res)) []){s:GShow}{v1:GState}{res:Bool}(h:km rec s v1=some res):ap Tryz.prog 237 [.agg (GShow.encS s),.agg (GState.encS v1)] [] (.lit (.bool res)) []:=by
 refine aj (ra:=[]) (md:=mdT) hT (hi:=FD) Tryz.func237 rfl rfl (by decide +kernel) (by simp) ?_
 unfold km at h
 obtain ⟨r1001,g1,h⟩:=ae h
 simp(config:=cS)only[go_sem]
 refine ag (oX g1) ?_
 obtain ⟨h2,h⟩|⟨h2,h⟩:=af h
 ·cases h
  simp(config:=cS)only[go_sem,eZt h2]
 ·obtain ⟨r1002,g3,h⟩:=ae h
  simp(config:=cS)only[go_sem,eZf h2]
  refine ag (rx g3) ?_
  obtain ⟨h4,h⟩|⟨h4,h⟩:=af h
  ·cases h
   simp(config:=cS)only[go_sem,eZt h4]
  ·obtain ⟨r1003,g5,h⟩:=ae h
   simp(config:=cS)only[go_sem,eZf h4]
   refine ag (xg g5) ?_
   obtain ⟨h6,h⟩|⟨h6,h⟩:=af h
   ·cases h
    simp(config:=cS)only[go_sem,eZt h6]
   ·obtain ⟨r1004,g7,h⟩:=ae h
    simp(config:=cS)only[go_sem,eZf h6]
    refine ag (sB g7) ?_
    obtain ⟨q1009,l8,h⟩:=ae h
    simp(config:=cS)only[go_sem]
    refine an (m1:=.mk) (m2:=.mk) [.nf [2,3,5,6,7] [128,192,1280,1281]] (re s.nodes s.ties s.horizon v1.now v1.times v1.values r1004.1 r1004.2) l8 ?_ ?_
    ·simp(config:=cS)only[go_sem]
    ·intro nb9 n_1 bb9 b9 gb9
     unfold gG at b9
     try dsimp only at b9
     obtain ⟨h10,b9⟩:=ah b9
     obtain ⟨h11,b9⟩|⟨h11,b9⟩:=af b9
     ·obtain ⟨r1005,g12,b9⟩:=ae b9
      simp(config:=cS)only[go_sem,eqF h10,eqT h11]
      refine ag (nz g12) ?_
      obtain ⟨r1006,g13,b9⟩:=ae b9
      simp(config:=cS)only[go_sem]
      refine ag (uf g13) ?_
      obtain ⟨r1007,g14,b9⟩:=ae b9
      simp(config:=cS)only[go_sem]
      refine ag (wd g14) ?_
      obtain ⟨r1008,g15,b9⟩:=ae b9
      simp(config:=cS)only[go_sem]
      refine ag (BF @hrec g15) ?_
      obtain ⟨h16,b9⟩|⟨h16,b9⟩:=af b9
      ·cases b9
       simp(config:=cS)only[go_sem,eZt h16]
       refine ao gb9 ?_
       simp(config:=cS)only[go_sem]
      ·cases b9
       obtain rfl:=(ak gb9).symm
       try dsimp only at h
       cases h
       simp(config:=cS)only[go_sem,eZf h16]
     ·cases b9
      obtain rfl:=(ak gb9).symm
      try dsimp only at h
      cases h
      simp(config:=cS)only[go_sem,eqF h10,eqF h11]
theorem xh (n:Nat):∀ {s:GShow} {v1:GState} {res:Bool},ko n s v1=some res→ap Tryz.prog 237 [.agg (GShow.encS s),.agg (GState.encS v1)] [] (.lit (.bool res)) []:=by
 induction n with
 | zero=>intro _ _ _ h;cases h
 | succ n ih=>intro _ _ _ h;exact BG (@ih) h
theorem EJ {s:GShow}{v1:GState}{res:Bool}(h:m_spec_l15Win s v1=some res):ap Tryz.prog 237 [.agg (GShow.encS s),.agg (GState.encS v1)] [] (.lit (.bool res)) []:=xh 40 h
theorem vb {s:GShow}{v1:GState}{nodes:List Int}{res:Bool}(h:nI s v1 nodes=some res):ap Tryz.prog 191 [.agg (GShow.encS s),.agg (GState.encS v1),.sl (ab eI nodes)] [] (.lit (.bool res)) []:=tu (@EJ) h
def ou (without v16:Int)(d_0:List GNode)(d_1:List GTie)(d_2 d_3:Int)(d_4 d_5:List Int)(d_6:Bool)(d_7:List GEntry)(y_0:Int)(y_1 y_2:List Int)(l:List (List Int))(v17:Int):St:=⟨[(2,.lit (.int .i64 without)),(3,.ptr 192 1 0 0),(4,.ptr 256 1 0 0),(8,.ref 896 1 0 l.length),(16,.lit (.int .i64 v16)),(17,.lit (.int .i64 v17))],[(192,1,.var [.sl (ab GNode.encS d_0),.sl (ab GTie.enc d_1),.lit (.int .i64 d_2),.lit (.int .i64 d_3),.sl (ab eI d_4),.sl (ab eI d_5),.lit (.bool d_6),.sl (ab GEntry.encS d_7)]),(256,1,.var [.lit (.int .i64 y_0),.sl (ab eI y_1),.sl (ab eI y_2)]),(896,1,.tree (ab (eLS eI) l))],2⟩
attribute [go_sem] ou
attribute [go_sem] Tryz.ntmps121 Tryz.results121
theorem zN {d:GDesk}{y:GState}{without:Int}{res:(List Int) × Bool}(h:jx d y without=some res):ap Tryz.prog 121 [.agg (GDesk.encS d),.agg (GState.encS y),.lit (.int .i64 without)] [] (.tup [.ref 20000 1 0 res.1.length,.lit (.bool res.2)]) [(20000,1,.row true (ab eI res.1))]:=by
 refine aj (ra:=[.home 6]) (md:=mdT) hT (hi:=hi00) Tryz.func121 rfl rfl (by decide +kernel) (by simp) ?_
 unfold jx at h
 obtain ⟨r1001,g1,h⟩:=ae h
 simp(config:=cS)only[go_sem]
 refine ag (sb g1) ?_
 obtain ⟨q1008,l2,h⟩:=ae h
 simp(config:=cS)only[go_sem]
 refine an (m1:=.mk) (m2:=.mk) [.freeze [896],.nf [2,3,4,8,16,17] [192,256,896]] (ou without ((r1001.length:Nat):Int) d.show_.nodes d.show_.ties d.show_.horizon d.state.now d.state.times d.state.values d.lazy d.log y.now y.times y.values r1001) l2 ?_ ?_
 ·simp(config:=cS)only[go_sem]
 ·intro nb3 v17_1 bb3 b3 gb3
  unfold dN at b3
  try dsimp only at b3
  obtain ⟨h4,b3⟩|⟨h4,b3⟩:=af b3
  ·obtain ⟨x1002,g5,b3⟩:=ae b3
   obtain ⟨h6,h7,h8⟩:=ai g5
   obtain ⟨h9,b3⟩|⟨h9,b3⟩:=af b3
   ·obtain ⟨x1003,g10,b3⟩:=ae b3
    obtain ⟨h11,h12,h13⟩:=ai g10
    obtain ⟨r1004,g14,b3⟩:=ae b3
    simp(config:=cS)only[go_sem,eqT h4,h6,h7,h8,eZt h9,h11,h12,h13]
    refine ag (jL g14) ?_
    obtain ⟨h15,b3⟩|⟨h15,b3⟩:=af b3
    ·cases b3
     simp(config:=cS)only[go_sem,eqT h4,h6,h7,h8,eZt h9,h11,h12,h13,eZt h15]
     refine ao gb3 ?_
     simp(config:=cS)only[go_sem,eqT h4,h6,h7,h8,eZt h9,h11,h12,h13,eZt h15]
    ·obtain ⟨r1005,g16,b3⟩:=ae b3
     simp(config:=cS)only[go_sem,eqT h4,h6,h7,h8,eZt h9,h11,h12,h13,eZf h15]
     refine ag (vb g16) ?_
     obtain ⟨h17,b3⟩|⟨h17,b3⟩:=af b3
     ·obtain ⟨h18,b3⟩:=ah b3
      obtain ⟨h19,b3⟩:=ah b3
      cases b3
      obtain rfl:=(ak gb3).symm
      try dsimp only at h
      cases h
      simp(config:=cS)only[go_sem,eqT h4,h6,h7,h8,eZt h9,h11,h12,h13,eZf h15,eZt h17,eqT h18,eqT h19]
     ·cases b3
      simp(config:=cS)only[go_sem,eqT h4,h6,h7,h8,eZt h9,h11,h12,h13,eZf h15,eZf h17]
      refine ao gb3 ?_
      simp(config:=cS)only[go_sem,eqT h4,h6,h7,h8,eZt h9,h11,h12,h13,eZf h15,eZf h17]
   ·obtain ⟨r1006,g21,b3⟩:=ae b3
    simp(config:=cS)only[go_sem,eqT h4,h6,h7,h8,eZf h9]
    refine ag (jL g21) ?_
    obtain ⟨h22,b3⟩|⟨h22,b3⟩:=af b3
    ·cases b3
     simp(config:=cS)only[go_sem,eqT h4,h6,h7,h8,eZf h9,eZt h22]
     refine ao gb3 ?_
     simp(config:=cS)only[go_sem,eqT h4,h6,h7,h8,eZf h9,eZt h22]
    ·obtain ⟨r1007,g23,b3⟩:=ae b3
     simp(config:=cS)only[go_sem,eqT h4,h6,h7,h8,eZf h9,eZf h22]
     refine ag (vb g23) ?_
     obtain ⟨h24,b3⟩|⟨h24,b3⟩:=af b3
     ·obtain ⟨h25,b3⟩:=ah b3
      obtain ⟨h26,b3⟩:=ah b3
      cases b3
      obtain rfl:=(ak gb3).symm
      try dsimp only at h
      cases h
      simp(config:=cS)only[go_sem,eqT h4,h6,h7,h8,eZf h9,eZf h22,eZt h24,eqT h25,eqT h26]
     ·cases b3
      simp(config:=cS)only[go_sem,eqT h4,h6,h7,h8,eZf h9,eZf h22,eZf h24]
      refine ao gb3 ?_
      simp(config:=cS)only[go_sem,eqT h4,h6,h7,h8,eZf h9,eZf h22,eZf h24]
  ·cases b3
   obtain rfl:=(ak gb3).symm
   try dsimp only at h
   cases h
   simp(config:=cS)only[go_sem,eqF h4]
def iP (v14:List GNode)(v15 out_2:Int)(h384:List GTie):(Int × (List GNode))→St
 | (v16,h100012288)=>⟨[(2,.ptr 128 1 0 0),(3,.ptr 192 1 0 0),(14,.sl (ab GNode.encS v14)),(15,.lit (.int .i64 v15)),(16,.lit (.int .i64 v16))],[(128,1,.var [.lit (.slice none 0 0),.lit (.slice none 0 0),.lit (.int .i64 0)]),(192,1,.var [.ref 100012288 1 0 h100012288.length,.ref 384 1 0 h384.length,.lit (.int .i64 out_2)]),(100012288,1,.row true (ab GNode.encO h100012288)),(384,1,.row true (ab GTie.enc h384))],2⟩
attribute [go_sem] iP
@[go_sem] def hi175_5:DT:=.i1 0 (.i1 1 (.i1 2 (.i1 3 (.i1 5 (.i1 6 (.i1 8 (.i1 9 (.i0 4 [0,1,2,3,5,6,8,9] (.i0 7 [0,1,2,3,8,9] (.i2 10 (.i0 11 [0,1] (.i2 12 (.i2 13 (.i2 14 .nil))))))))))))))
@[go_sem] def hi175_1:DT:=.i1 1 (.i1 2 (.i1 4 (.i1 5 (.fork (.i0 0 [1,2,4,5] (.fork (.i0 3 [4,5] (.i2 6 (.i0 7 [1,2,4,5] (.i2 8 .nil)))) (.i0 7 [1,2,4,5] (.i0 3 [4,5] (.i2 6 (.i2 8 .nil)))))) (.i0 7 [1,2,4,5] (.i0 0 [1,2,4,5] (.i0 3 [4,5] (.i2 6 (.i2 8 .nil)))))))))
def BH:Hint where
 acts:=fun _=>[]
 draws:=fun
  | 1=>⟨hi175_1,[[],[],[1],[0,1,2],[],[4],.range 6,[],.range 8],.range 9⟩
  | 5=>⟨hi175_5,[[],[0],[],[2],[],[],[5],[4,5,6],[],[8],[2,3,4,5,6,7,8,9],[2,3,4,5,6,7,8,9,10],.range 12,.range 13,.range 14],.range 15⟩
  | _=>⟨.nil,[],[]⟩
theorem Qf (i:Nat):BH.acts i=[]:=rfl
theorem Qg (i:Nat):BH.views i=none:=rfl
attribute [go_sem] Qf Qg Tryz.ntmps175 Tryz.results175
@[go_sem] theorem Tq:(BH.draws 1).order=hi175_1:=rfl
@[go_sem] theorem Tr:(BH.draws 5).order=hi175_5:=rfl
theorem ry {s res:GShow}(h:je s=some res):ap Tryz.prog 175 [.agg (GShow.encS s)] [] (.agg [.ref 20000 1 0 res.nodes.length,.ref 20001 1 0 res.ties.length,.lit (.int .i64 res.horizon)]) [(20000,1,.row true (ab GNode.encO res.nodes)),(20001,1,.row true (ab GTie.enc res.ties))]:=by
 refine aj (ra:=[.homeCell 128 0,.homeCell 128 1]) (md:=mdT) hT (hi:=BH) Tryz.func175 rfl rfl (by decide +kernel) (by simp) ?_
 unfold je at h
 try simp(config:=cS)only[go_sem]
 refine bg ?_ ?_
 ·try simp(config:=cS)only[go_sem]
  refine bg ?_ ?_
  ·obtain ⟨h1,h⟩:=ah h
   obtain ⟨h2,h⟩:=ah h
   obtain ⟨q1002,l3,h⟩:=ae h
   simp(config:=cS)only[go_sem,eqT h1,eqT h2]
   refine an (m1:=.mk) (m2:=.mk) [.homeCell 192 0,.nf [2,3,14,15,16] [128,192,100012288,384]] (iP s.nodes ((s.nodes.length:Nat):Int) s.horizon s.ties) l3 ?_ ?_
   ·simp(config:=cS)only[go_sem]
   ·intro nb4 sb4 bb4 b4 gb4
    obtain ⟨v16_1,h100012288_1⟩:=sb4
    unfold dz at b4
    try dsimp only at b4
    obtain ⟨h5,b4⟩|⟨h5,b4⟩:=af b4
    ·obtain ⟨x1001,g6,b4⟩:=ae b4
     obtain ⟨h7,h8,h9⟩:=ai g6
     obtain ⟨h10,b4⟩:=ah b4
     obtain ⟨h11,b4⟩:=ah b4
     obtain ⟨h12,b4⟩:=ah b4
     obtain ⟨h13,b4⟩:=ah b4
     cases b4
     simp(config:=cS)only[go_sem,eqT h5,h7,h8,h9,eqT h10,eqT h11,eqT h12,eqT h13]
     refine ao gb4 ?_
     simp(config:=cS)only[go_sem]
    ·cases b4
     obtain rfl:=(ak gb4).symm
     try dsimp only at h
     cases h
     simp(config:=cS)only[go_sem,eqF h5]
  ·obtain ⟨h15,h⟩:=ah h
   obtain ⟨h16,h⟩:=ah h
   obtain ⟨q1004,l17,h⟩:=ae h
   simp(config:=cS)only[go_sem,eqT h15,eqT h16]
   refine an (m1:=.mk) (m2:=.mk) [.homeCell 192 0,.nf [2,3,14,15,16] [128,192,100012288,384]] (iP s.nodes ((s.nodes.length:Nat):Int) s.horizon s.ties) l17 ?_ ?_
   ·simp(config:=cS)only[go_sem]
   ·intro nb18 sb18 bb18 b18 gb18
    obtain ⟨v16_2,h100012288_2⟩:=sb18
    unfold dz at b18
    try dsimp only at b18
    obtain ⟨h19,b18⟩|⟨h19,b18⟩:=af b18
    ·obtain ⟨x1003,g20,b18⟩:=ae b18
     obtain ⟨h21,h22,h23⟩:=ai g20
     obtain ⟨h24,b18⟩:=ah b18
     obtain ⟨h25,b18⟩:=ah b18
     obtain ⟨h26,b18⟩:=ah b18
     obtain ⟨h27,b18⟩:=ah b18
     cases b18
     simp(config:=cS)only[go_sem,eqT h19,h21,h22,h23,eqT h24,eqT h25,eqT h26,eqT h27]
     refine ao gb18 ?_
     simp(config:=cS)only[go_sem]
    ·cases b18
     obtain rfl:=(ak gb18).symm
     try dsimp only at h
     cases h
     simp(config:=cS)only[go_sem,eqF h19]
 ·obtain ⟨h29,h⟩:=ah h
  obtain ⟨h30,h⟩:=ah h
  obtain ⟨q1006,l31,h⟩:=ae h
  simp(config:=cS)only[go_sem,eqT h29,eqT h30]
  refine an (m1:=.mk) (m2:=.mk) [.homeCell 192 0,.nf [2,3,14,15,16] [128,192,100012288,384]] (iP s.nodes ((s.nodes.length:Nat):Int) s.horizon s.ties) l31 ?_ ?_
  ·simp(config:=cS)only[go_sem]
  ·intro nb32 sb32 bb32 b32 gb32
   obtain ⟨v16_3,h100012288_3⟩:=sb32
   unfold dz at b32
   try dsimp only at b32
   obtain ⟨h33,b32⟩|⟨h33,b32⟩:=af b32
   ·obtain ⟨x1005,g34,b32⟩:=ae b32
    obtain ⟨h35,h36,h37⟩:=ai g34
    obtain ⟨h38,b32⟩:=ah b32
    obtain ⟨h39,b32⟩:=ah b32
    obtain ⟨h40,b32⟩:=ah b32
    obtain ⟨h41,b32⟩:=ah b32
    cases b32
    simp(config:=cS)only[go_sem,eqT h33,h35,h36,h37,eqT h38,eqT h39,eqT h40,eqT h41]
    refine ao gb32 ?_
    simp(config:=cS)only[go_sem]
   ·cases b32
    obtain rfl:=(ak gb32).symm
    try dsimp only at h
    cases h
    simp(config:=cS)only[go_sem,eqF h33]
@[go_sem] def hi188_1:DT:=.i1 0 (.i1 1 (.i1 3 (.i1 4 (.i1 7 (.i1 8 (.i1 11 (.i1 12 (.fork (.i0 2 [0,1,3,4,7,8,11,12] (.fork (.i0 5 [0,1,7,8,11,12] (.fork (.i0 6 [0,1,3,4,7,8,11,12] (.fork (.i0 9 [0,1,11,12] (.i0 10 [0,1,3,4,7,8,11,12] (.i0 13 [0,1] (.i2 14 (.i2 15 .nil))))) (.i0 10 [0,1,3,4,7,8,11,12] (.i0 9 [0,1,11,12] (.i0 13 [0,1] (.i2 14 (.i2 15 .nil))))))) (.i0 10 [0,1,3,4,7,8,11,12] (.i0 6 [0,1,3,4,7,8,11,12] (.i0 9 [0,1,11,12] (.i0 13 [0,1] (.i2 14 (.i2 15 .nil)))))))) (.fork (.i0 6 [0,1,3,4,7,8,11,12] (.fork (.i0 5 [0,1,7,8,11,12] (.fork (.i0 9 [0,1,11,12] (.i0 10 [0,1,3,4,7,8,11,12] (.i0 13 [0,1] (.i2 14 (.i2 15 .nil))))) (.i0 10 [0,1,3,4,7,8,11,12] (.i0 9 [0,1,11,12] (.i0 13 [0,1] (.i2 14 (.i2 15 .nil))))))) (.i0 10 [0,1,3,4,7,8,11,12] (.i0 5 [0,1,7,8,11,12] (.i0 9 [0,1,11,12] (.i0 13 [0,1] (.i2 14 (.i2 15 .nil)))))))) (.i0 10 [0,1,3,4,7,8,11,12] (.fork (.i0 5 [0,1,7,8,11,12] (.i0 6 [0,1,3,4,7,8,11,12] (.i0 9 [0,1,11,12] (.i0 13 [0,1] (.i2 14 (.i2 15 .nil)))))) (.i0 6 [0,1,3,4,7,8,11,12] (.i0 5 [0,1,7,8,11,12] (.i0 9 [0,1,11,12] (.i0 13 [0,1] (.i2 14 (.i2 15 .nil))))))))))) (.fork (.i0 6 [0,1,3,4,7,8,11,12] (.fork (.i0 2 [0,1,3,4,7,8,11,12] (.fork (.i0 5 [0,1,7,8,11,12] (.fork (.i0 9 [0,1,11,12] (.i0 10 [0,1,3,4,7,8,11,12] (.i0 13 [0,1] (.i2 14 (.i2 15 .nil))))) (.i0 10 [0,1,3,4,7,8,11,12] (.i0 9 [0,1,11,12] (.i0 13 [0,1] (.i2 14 (.i2 15 .nil))))))) (.i0 10 [0,1,3,4,7,8,11,12] (.i0 5 [0,1,7,8,11,12] (.i0 9 [0,1,11,12] (.i0 13 [0,1] (.i2 14 (.i2 15 .nil)))))))) (.i0 10 [0,1,3,4,7,8,11,12] (.i0 2 [0,1,3,4,7,8,11,12] (.i0 5 [0,1,7,8,11,12] (.i0 9 [0,1,11,12] (.i0 13 [0,1] (.i2 14 (.i2 15 .nil))))))))) (.i0 10 [0,1,3,4,7,8,11,12] (.fork (.i0 2 [0,1,3,4,7,8,11,12] (.fork (.i0 5 [0,1,7,8,11,12] (.i0 6 [0,1,3,4,7,8,11,12] (.i0 9 [0,1,11,12] (.i0 13 [0,1] (.i2 14 (.i2 15 .nil)))))) (.i0 6 [0,1,3,4,7,8,11,12] (.i0 5 [0,1,7,8,11,12] (.i0 9 [0,1,11,12] (.i0 13 [0,1] (.i2 14 (.i2 15 .nil)))))))) (.i0 6 [0,1,3,4,7,8,11,12] (.i0 2 [0,1,3,4,7,8,11,12] (.i0 5 [0,1,7,8,11,12] (.i0 9 [0,1,11,12] (.i0 13 [0,1] (.i2 14 (.i2 15 .nil))))))))))))))))))
def FE:Hint where
 acts:=fun _=>[]
 draws:=fun
  | 1=>⟨hi188_1,[[],[0],[],[],[3],[2,3,4],[],[],[7],[2,3,4,5,6,7,8],[],[],[11],[2,3,4,5,6,7,8,9,10,11,12],.range 14,.range 15],.range 16⟩
  | _=>⟨.nil,[],[]⟩
theorem Qh (i:Nat):FE.acts i=[]:=rfl
theorem Qi (i:Nat):FE.views i=none:=rfl
attribute [go_sem] Qh Qi Tryz.ntmps188 Tryz.results188
@[go_sem] theorem Ts:(FE.draws 1).order=hi188_1:=rfl
theorem qr {e res:GEntry}(h:mN e=some res):ap Tryz.prog 188 [.agg (GEntry.encS e)] [] (.agg [.lit (.int .i64 res.now),.ref 20000 1 0 res.ties.length,.ref 20001 1 0 res.nodes.length,.ref 20002 1 0 res.values.length]) [(20000,1,.row true (ab eI res.ties)),(20001,1,.row true (ab eI res.nodes)),(20002,1,.row true (ab eI res.values))]:=by
 refine aj (ra:=[.homeCell 128 1,.homeCell 128 2,.homeCell 128 3]) (md:=mdT) hT (hi:=FE) Tryz.func188 rfl rfl (by decide +kernel) (by simp) ?_
 unfold mN at h
 try simp(config:=cS)only[go_sem]
 refine bg ?_ ?_
 ·try simp(config:=cS)only[go_sem]
  refine bg ?_ ?_
  ·obtain ⟨h1,h⟩:=ah h
   obtain ⟨h2,h⟩:=ah h
   try simp(config:=cS)only[go_sem,eqT h1,eqT h2]
   refine bg ?_ ?_
   ·try simp(config:=cS)only[go_sem]
    refine bg ?_ ?_
    ·obtain ⟨h3,h⟩:=ah h
     obtain ⟨h4,h⟩:=ah h
     obtain ⟨h5,h⟩:=ah h
     obtain ⟨h6,h⟩:=ah h
     cases h
     simp(config:=cS)only[go_sem,eqT h3,eqT h4,eqT h5,eqT h6]
    ·obtain ⟨h7,h⟩:=ah h
     obtain ⟨h8,h⟩:=ah h
     obtain ⟨h9,h⟩:=ah h
     obtain ⟨h10,h⟩:=ah h
     cases h
     simp(config:=cS)only[go_sem,eqT h7,eqT h8,eqT h9,eqT h10]
   ·obtain ⟨h11,h⟩:=ah h
    obtain ⟨h12,h⟩:=ah h
    obtain ⟨h13,h⟩:=ah h
    obtain ⟨h14,h⟩:=ah h
    cases h
    simp(config:=cS)only[go_sem,eqT h11,eqT h12,eqT h13,eqT h14]
  ·try simp(config:=cS)only[go_sem]
   refine bg ?_ ?_
   ·try simp(config:=cS)only[go_sem]
    refine bg ?_ ?_
    ·obtain ⟨h15,h⟩:=ah h
     obtain ⟨h16,h⟩:=ah h
     try simp(config:=cS)only[go_sem,eqT h15,eqT h16]
     refine bg ?_ ?_
     ·obtain ⟨h17,h⟩:=ah h
      obtain ⟨h18,h⟩:=ah h
      obtain ⟨h19,h⟩:=ah h
      obtain ⟨h20,h⟩:=ah h
      cases h
      simp(config:=cS)only[go_sem,eqT h17,eqT h18,eqT h19,eqT h20]
     ·obtain ⟨h21,h⟩:=ah h
      obtain ⟨h22,h⟩:=ah h
      obtain ⟨h23,h⟩:=ah h
      obtain ⟨h24,h⟩:=ah h
      cases h
      simp(config:=cS)only[go_sem,eqT h21,eqT h22,eqT h23,eqT h24]
    ·obtain ⟨h25,h⟩:=ah h
     obtain ⟨h26,h⟩:=ah h
     obtain ⟨h27,h⟩:=ah h
     obtain ⟨h28,h⟩:=ah h
     obtain ⟨h29,h⟩:=ah h
     obtain ⟨h30,h⟩:=ah h
     cases h
     simp(config:=cS)only[go_sem,eqT h25,eqT h26,eqT h27,eqT h28,eqT h29,eqT h30]
   ·try simp(config:=cS)only[go_sem]
    refine bg ?_ ?_
    ·obtain ⟨h31,h⟩:=ah h
     obtain ⟨h32,h⟩:=ah h
     obtain ⟨h33,h⟩:=ah h
     obtain ⟨h34,h⟩:=ah h
     obtain ⟨h35,h⟩:=ah h
     obtain ⟨h36,h⟩:=ah h
     cases h
     simp(config:=cS)only[go_sem,eqT h31,eqT h32,eqT h33,eqT h34,eqT h35,eqT h36]
    ·obtain ⟨h37,h⟩:=ah h
     obtain ⟨h38,h⟩:=ah h
     obtain ⟨h39,h⟩:=ah h
     obtain ⟨h40,h⟩:=ah h
     obtain ⟨h41,h⟩:=ah h
     obtain ⟨h42,h⟩:=ah h
     cases h
     simp(config:=cS)only[go_sem,eqT h37,eqT h38,eqT h39,eqT h40,eqT h41,eqT h42]
 ·try simp(config:=cS)only[go_sem]
  refine bg ?_ ?_
  ·try simp(config:=cS)only[go_sem]
   refine bg ?_ ?_
   ·try simp(config:=cS)only[go_sem]
    refine bg ?_ ?_
    ·obtain ⟨h43,h⟩:=ah h
     obtain ⟨h44,h⟩:=ah h
     try simp(config:=cS)only[go_sem,eqT h43,eqT h44]
     refine bg ?_ ?_
     ·obtain ⟨h45,h⟩:=ah h
      obtain ⟨h46,h⟩:=ah h
      obtain ⟨h47,h⟩:=ah h
      obtain ⟨h48,h⟩:=ah h
      cases h
      simp(config:=cS)only[go_sem,eqT h45,eqT h46,eqT h47,eqT h48]
     ·obtain ⟨h49,h⟩:=ah h
      obtain ⟨h50,h⟩:=ah h
      obtain ⟨h51,h⟩:=ah h
      obtain ⟨h52,h⟩:=ah h
      cases h
      simp(config:=cS)only[go_sem,eqT h49,eqT h50,eqT h51,eqT h52]
    ·obtain ⟨h53,h⟩:=ah h
     obtain ⟨h54,h⟩:=ah h
     obtain ⟨h55,h⟩:=ah h
     obtain ⟨h56,h⟩:=ah h
     obtain ⟨h57,h⟩:=ah h
     obtain ⟨h58,h⟩:=ah h
     cases h
     simp(config:=cS)only[go_sem,eqT h53,eqT h54,eqT h55,eqT h56,eqT h57,eqT h58]
   ·obtain ⟨h59,h⟩:=ah h
    obtain ⟨h60,h⟩:=ah h
    obtain ⟨h61,h⟩:=ah h
    obtain ⟨h62,h⟩:=ah h
    obtain ⟨h63,h⟩:=ah h
    obtain ⟨h64,h⟩:=ah h
    cases h
    simp(config:=cS)only[go_sem,eqT h59,eqT h60,eqT h61,eqT h62,eqT h63,eqT h64]
  ·try simp(config:=cS)only[go_sem]
   refine bg ?_ ?_
   ·try simp(config:=cS)only[go_sem]
    refine bg ?_ ?_
    ·obtain ⟨h65,h⟩:=ah h
     obtain ⟨h66,h⟩:=ah h
     obtain ⟨h67,h⟩:=ah h
     obtain ⟨h68,h⟩:=ah h
     obtain ⟨h69,h⟩:=ah h
     obtain ⟨h70,h⟩:=ah h
     cases h
     simp(config:=cS)only[go_sem,eqT h65,eqT h66,eqT h67,eqT h68,eqT h69,eqT h70]
    ·obtain ⟨h71,h⟩:=ah h
     obtain ⟨h72,h⟩:=ah h
     obtain ⟨h73,h⟩:=ah h
     obtain ⟨h74,h⟩:=ah h
     obtain ⟨h75,h⟩:=ah h
     obtain ⟨h76,h⟩:=ah h
     cases h
     simp(config:=cS)only[go_sem,eqT h71,eqT h72,eqT h73,eqT h74,eqT h75,eqT h76]
   ·obtain ⟨h77,h⟩:=ah h
    obtain ⟨h78,h⟩:=ah h
    obtain ⟨h79,h⟩:=ah h
    obtain ⟨h80,h⟩:=ah h
    obtain ⟨h81,h⟩:=ah h
    obtain ⟨h82,h⟩:=ah h
    cases h
    simp(config:=cS)only[go_sem,eqT h77,eqT h78,eqT h79,eqT h80,eqT h81,eqT h82]
def iQ (v16:List GEntry)(v17 out_2 out_3:Int)(out_6:Bool)(h512:List GNode)(h513:List GTie)(h704 h705:List Int):(Int × (List GEntry))→St
 | (v18,h100012295)=>⟨[(2,.ptr 128 1 0 0),(3,.ptr 192 1 0 0),(16,.sl (ab GEntry.encS v16)),(17,.lit (.int .i64 v17)),(18,.lit (.int .i64 v18))],[(128,1,.var [.lit (.slice none 0 0),.lit (.slice none 0 0),.lit (.int .i64 0),.lit (.int .i64 0),.lit (.slice none 0 0),.lit (.slice none 0 0),.lit (.bool false),.lit (.slice none 0 0)]),(192,1,.var [.ref 512 1 0 h512.length,.ref 513 1 0 h513.length,.lit (.int .i64 out_2),.lit (.int .i64 out_3),.ref 704 1 0 h704.length,.ref 705 1 0 h705.length,.lit (.bool out_6),.ref 100012295 1 0 h100012295.length]),(512,1,.row true (ab GNode.encO h512)),(513,1,.row true (ab GTie.enc h513)),(704,1,.row true (ab eI h704)),(705,1,.row true (ab eI h705)),(100012295,1,.row true (ab GEntry.encO h100012295))],2⟩
attribute [go_sem] iQ
@[go_sem] def hi109_5:DT:=.i1 0 (.i1 1 (.i2 2 (.i0 3 [0,1] (.i0 4 [0,1] (.i2 5 (.i2 6 (.i2 7 .nil)))))))
@[go_sem] def hi109_1:DT:=.i1 0 (.i1 1 (.i1 3 (.i1 4 (.i1 6 (.i1 7 (.fork (.i0 2 [3,4,6,7] (.fork (.i0 5 [6,7] (.i2 8 (.i0 9 [0,1,3,4,6,7] (.i2 10 .nil)))) (.i0 9 [0,1,3,4,6,7] (.i0 5 [6,7] (.i2 8 (.i2 10 .nil)))))) (.i0 9 [0,1,3,4,6,7] (.i0 2 [3,4,6,7] (.i0 5 [6,7] (.i2 8 (.i2 10 .nil)))))))))))
def BI:Hint where
 acts:=fun _=>[]
 draws:=fun
  | 1=>⟨hi109_1,[[],[0],[0,1],[],[3],.range 5,[],[6],.range 8,[],.range 10],.range 11⟩
  | 5=>⟨hi109_5,[[],[0],[],[2],[2,3],.range 5,.range 6,.range 7],.range 8⟩
  | _=>⟨.nil,[],[]⟩
theorem Qj (i:Nat):BI.acts i=[]:=rfl
theorem Qk (i:Nat):BI.views i=none:=rfl
attribute [go_sem] Qj Qk Tryz.ntmps109 Tryz.results109
@[go_sem] theorem Tt:(BI.draws 1).order=hi109_1:=rfl
@[go_sem] theorem Tu:(BI.draws 5).order=hi109_5:=rfl
theorem nD {d res:GDesk}(h:eO d=some res):ap Tryz.prog 109 [.agg (GDesk.encS d)] [] (.agg [.ref 20000 1 0 res.show_.nodes.length,.ref 20001 1 0 res.show_.ties.length,.lit (.int .i64 res.show_.horizon),.lit (.int .i64 res.state.now),.ref 20002 1 0 res.state.times.length,.ref 20003 1 0 res.state.values.length,.lit (.bool res.lazy),.ref 20004 1 0 res.log.length]) [(20000,1,.row true (ab GNode.encO res.show_.nodes)),(20001,1,.row true (ab GTie.enc res.show_.ties)),(20002,1,.row true (ab eI res.state.times)),(20003,1,.row true (ab eI res.state.values)),(20004,1,.row true (ab GEntry.encO res.log))]:=by
 refine aj (ra:=[.homeCell 128 0,.homeCell 128 1,.homeCell 128 4,.homeCell 128 5,.homeCell 128 7]) (md:=mdT) hT (hi:=BI) Tryz.func109 rfl rfl (by decide +kernel) (by simp) ?_
 unfold eO at h
 try simp(config:=cS)only[go_sem]
 refine bg ?_ ?_
 ·obtain ⟨r1001,g1,h⟩:=ae h
  simp(config:=cS)only[go_sem]
  refine ag (ry g1) ?_
  try simp(config:=cS)only[go_sem]
  refine bg ?_ ?_
  ·obtain ⟨r1002,g2,h⟩:=ae h
   simp(config:=cS)only[go_sem]
   refine ag (gr g2) ?_
   obtain ⟨q1005,l3,h⟩:=ae h
   simp(config:=cS)only[go_sem]
   refine an (m1:=.mk) (m2:=.mk) [.homeCell 192 7,.nf [2,3,16,17,18] [128,192,512,513,704,705,100012295]] (iQ d.log ((d.log.length:Nat):Int) r1001.horizon r1002.now d.lazy r1001.nodes r1001.ties r1002.times r1002.values) l3 ?_ ?_
   ·simp(config:=cS)only[go_sem]
   ·intro nb4 sb4 bb4 b4 gb4
    obtain ⟨v18_1,h100012295_1⟩:=sb4
    unfold dA at b4
    try dsimp only at b4
    obtain ⟨h5,b4⟩|⟨h5,b4⟩:=af b4
    ·obtain ⟨x1003,g6,b4⟩:=ae b4
     obtain ⟨h7,h8,h9⟩:=ai g6
     obtain ⟨r1004,g10,b4⟩:=ae b4
     simp(config:=cS)only[go_sem,eqT h5,h7,h8,h9]
     refine ag (qr g10) ?_
     obtain ⟨h11,b4⟩:=ah b4
     obtain ⟨h12,b4⟩:=ah b4
     cases b4
     simp(config:=cS)only[go_sem,eqT h11,eqT h12]
     refine ao gb4 ?_
     simp(config:=cS)only[go_sem]
    ·cases b4
     obtain rfl:=(ak gb4).symm
     try dsimp only at h
     cases h
     simp(config:=cS)only[go_sem,eqF h5]
  ·obtain ⟨r1006,g14,h⟩:=ae h
   simp(config:=cS)only[go_sem]
   refine ag (gr g14) ?_
   obtain ⟨q1009,l15,h⟩:=ae h
   simp(config:=cS)only[go_sem]
   refine an (m1:=.mk) (m2:=.mk) [.homeCell 192 7,.nf [2,3,16,17,18] [128,192,512,513,704,705,100012295]] (iQ d.log ((d.log.length:Nat):Int) r1001.horizon r1006.now d.lazy r1001.nodes r1001.ties r1006.times r1006.values) l15 ?_ ?_
   ·simp(config:=cS)only[go_sem]
   ·intro nb16 sb16 bb16 b16 gb16
    obtain ⟨v18_2,h100012295_2⟩:=sb16
    unfold dA at b16
    try dsimp only at b16
    obtain ⟨h17,b16⟩|⟨h17,b16⟩:=af b16
    ·obtain ⟨x1007,g18,b16⟩:=ae b16
     obtain ⟨h19,h20,h21⟩:=ai g18
     obtain ⟨r1008,g22,b16⟩:=ae b16
     simp(config:=cS)only[go_sem,eqT h17,h19,h20,h21]
     refine ag (qr g22) ?_
     obtain ⟨h23,b16⟩:=ah b16
     obtain ⟨h24,b16⟩:=ah b16
     cases b16
     simp(config:=cS)only[go_sem,eqT h23,eqT h24]
     refine ao gb16 ?_
     simp(config:=cS)only[go_sem]
    ·cases b16
     obtain rfl:=(ak gb16).symm
     try dsimp only at h
     cases h
     simp(config:=cS)only[go_sem,eqF h17]
 ·obtain ⟨r1010,g26,h⟩:=ae h
  simp(config:=cS)only[go_sem]
  refine ag (ry g26) ?_
  obtain ⟨r1011,g27,h⟩:=ae h
  simp(config:=cS)only[go_sem]
  refine ag (gr g27) ?_
  obtain ⟨q1014,l28,h⟩:=ae h
  simp(config:=cS)only[go_sem]
  refine an (m1:=.mk) (m2:=.mk) [.homeCell 192 7,.nf [2,3,16,17,18] [128,192,512,513,704,705,100012295]] (iQ d.log ((d.log.length:Nat):Int) r1010.horizon r1011.now d.lazy r1010.nodes r1010.ties r1011.times r1011.values) l28 ?_ ?_
  ·simp(config:=cS)only[go_sem]
  ·intro nb29 sb29 bb29 b29 gb29
   obtain ⟨v18_3,h100012295_3⟩:=sb29
   unfold dA at b29
   try dsimp only at b29
   obtain ⟨h30,b29⟩|⟨h30,b29⟩:=af b29
   ·obtain ⟨x1012,g31,b29⟩:=ae b29
    obtain ⟨h32,h33,h34⟩:=ai g31
    obtain ⟨r1013,g35,b29⟩:=ae b29
    simp(config:=cS)only[go_sem,eqT h30,h32,h33,h34]
    refine ag (qr g35) ?_
    obtain ⟨h36,b29⟩:=ah b29
    obtain ⟨h37,b29⟩:=ah b29
    cases b29
    simp(config:=cS)only[go_sem,eqT h36,eqT h37]
    refine ao gb29 ?_
    simp(config:=cS)only[go_sem]
   ·cases b29
    obtain rfl:=(ak gb29).symm
    try dsimp only at h
    cases h
    simp(config:=cS)only[go_sem,eqF h30]
def ov (ties nodes values:List Int)(v31 y_0:Int)(y_1 y_2:List Int)(out_2 out_3:Int)(out_6:Bool)(z_0:Int)(h1216:List GNode)(h1217:List GTie)(h1218 h1219:List Int)(h1220:List GEntry)(h1600 h1601 v30:List Int):(Int × (List Int) × (List Int))→St
 | (v32,v,l)=>⟨[(1,.sl (ab eI ties)),(3,.sl (ab eI nodes)),(4,.sl (ab eI values)),(7,.ptr 448 1 0 0),(10,.ptr 640 1 0 0),(11,.ptr 704 1 0 0),(12,.ptr 768 1 0 0),(13,.ref 1602 1 0 v30.length),(14,.ref 1792 1 0 v.length),(15,.ref 1856 1 0 l.length),(30,.ref 1602 1 0 v30.length),(31,.lit (.int .i64 v31)),(32,.lit (.int .i64 v32))],[(448,1,.var [.lit (.int .i64 y_0),.sl (ab eI y_1),.sl (ab eI y_2)]),(640,1,.var [.lit (.slice none 0 0),.lit (.slice none 0 0),.lit (.int .i64 0),.lit (.int .i64 0),.lit (.slice none 0 0),.lit (.slice none 0 0),.lit (.bool false),.lit (.slice none 0 0)]),(704,1,.var [.ref 1216 1 0 h1216.length,.ref 1217 1 0 h1217.length,.lit (.int .i64 out_2),.lit (.int .i64 out_3),.ref 1218 1 0 h1218.length,.ref 1219 1 0 h1219.length,.lit (.bool out_6),.ref 1220 1 0 h1220.length]),(1216,1,.row true (ab GNode.encO h1216)),(1217,1,.row true (ab GTie.enc h1217)),(1218,1,.row true (ab eI h1218)),(1219,1,.row true (ab eI h1219)),(1220,1,.row true (ab GEntry.encO h1220)),(768,1,.var [.lit (.int .i64 z_0),.ref 1600 1 0 h1600.length,.ref 1601 1 0 h1601.length]),(1600,1,.row true (ab eI h1600)),(1601,1,.row true (ab eI h1601)),(1602,1,.row true (ab eI v30)),(1792,1,.row true (ab eI v)),(1856,1,.row true (ab eI l))],2⟩
attribute [go_sem] ov
@[go_sem] def hi111_11:DT:=.i1 0 (.i1 1 (.i1 2 (.i1 3 (.i2 5 (.i2 8 (.i2 10 (.fork (.i0 4 [0,1,2,3] (.fork (.i0 6 [0,1,2,3] (.i0 7 [0,1,2,3] (.i0 9 [0,1,2,3] (.i2 11 (.i0 12 [0,1] (.i2 13 (.i2 14 (.i2 15 .nil)))))))) (.i0 7 [0,1,2,3] (.i0 6 [0,1,2,3] (.i0 9 [0,1,2,3] (.i2 11 (.i0 12 [0,1] (.i2 13 (.i2 14 (.i2 15 .nil)))))))))) (.i0 7 [0,1,2,3] (.i0 4 [0,1,2,3] (.i0 6 [0,1,2,3] (.i0 9 [0,1,2,3] (.i2 11 (.i0 12 [0,1] (.i2 13 (.i2 14 (.i2 15 .nil))))))))))))))))
def FF:Hint where
 acts:=fun _=>[]
 draws:=fun
  | 11=>⟨hi111_11,[[],[0],[],[2],[],[],[4,5],[],[],[4,5,6,7,8],[],[2,3,4,5,6,7,8,9,10],[2,3,4,5,6,7,8,9,10,11],.range 13,.range 14,.range 15],.range 16⟩
  | _=>⟨.nil,[],[]⟩
theorem Ql (i:Nat):FF.acts i=[]:=rfl
theorem Qm (i:Nat):FF.views i=none:=rfl
attribute [go_sem] Ql Qm Tryz.ntmps111 Tryz.results111
@[go_sem] theorem Tc:(FF.draws 11).order=hi111_11:=rfl
theorem zO {d:GDesk}{ties:List Int}{y:GState}{nodes values:List Int}{res:GDesk}(h:jy d ties y nodes values=some res):ap Tryz.prog 111 [.agg (GDesk.encS d),.sl (ab eI ties),.agg (GState.encS y),.sl (ab eI nodes),.sl (ab eI values)] [] (.agg [.ref 20000 1 0 res.show_.nodes.length,.ref 20001 1 0 res.show_.ties.length,.lit (.int .i64 res.show_.horizon),.lit (.int .i64 res.state.now),.ref 20002 1 0 res.state.times.length,.ref 20003 1 0 res.state.values.length,.lit (.bool res.lazy),.ref 20004 1 0 res.log.length]) [(20000,1,.row true (ab GNode.encO res.show_.nodes)),(20001,1,.row true (ab GTie.enc res.show_.ties)),(20002,1,.row true (ab eI res.state.times)),(20003,1,.row true (ab eI res.state.values)),(20004,1,.row true (ab GEntry.encO res.log))]:=by
 refine aj (ra:=[.homeCell 640 0,.homeCell 640 1,.homeCell 640 4,.homeCell 640 5,.homeCell 640 7]) (md:=mdT) hT (hi:=FF) Tryz.func111 rfl rfl (by decide +kernel) (by simp) ?_
 unfold jy at h
 obtain ⟨r1001,g1,h⟩:=ae h
 simp(config:=cS)only[go_sem]
 refine ag (nD g1) ?_
 obtain ⟨r1002,g2,h⟩:=ae h
 simp(config:=cS)only[go_sem]
 refine ag (oW g2) ?_
 obtain ⟨q1008,l3,h⟩:=ae h
 simp(config:=cS)only[go_sem]
 refine an (m1:=.mk) (m2:=.mk) [.nf [1,3,4,7,10,11,12,13,14,15,30,31,32] [448,640,704,1216,1217,1218,1219,1220,768,1600,1601,1602,1792,1856]] (ov ties nodes values ((r1002.2.length:Nat):Int) y.now y.times y.values r1001.show_.horizon r1001.state.now r1001.lazy r1002.1.now r1001.show_.nodes r1001.show_.ties r1001.state.times r1001.state.values r1001.log r1002.1.times r1002.1.values r1002.2) l3 ?_ ?_
 ·simp(config:=cS)only[go_sem]
 ·intro nb4 sb4 bb4 b4 gb4
  obtain ⟨v32_1,v_1,l_1⟩:=sb4
  unfold gi at b4
  try dsimp only at b4
  obtain ⟨h5,b4⟩|⟨h5,b4⟩:=af b4
  ·obtain ⟨x1003,g6,b4⟩:=ae b4
   obtain ⟨h7,h8,h9⟩:=ai g6
   obtain ⟨x1004,g10,b4⟩:=ae b4
   obtain ⟨h11,h12,h13⟩:=ai g10
   obtain ⟨h14,b4⟩:=ah b4
   obtain ⟨h15,b4⟩:=ah b4
   obtain ⟨h16,b4⟩:=ah b4
   obtain ⟨h17,b4⟩:=ah b4
   cases b4
   simp(config:=cS)only[go_sem,eqT h5,h7,h8,h9,h11,h12,h13,eqT h14,eqT h15,eqT h16,eqT h17]
   refine ao gb4 ?_
   simp(config:=cS)only[go_sem]
  ·cases b4
   obtain rfl:=(ak gb4).symm
   try dsimp only at h
   try simp(config:=cS)only[go_sem,eqF h5]
   refine bg ?_ ?_
   ·try simp(config:=cS)only[go_sem]
    refine bg ?_ ?_
    ·obtain ⟨h19,h⟩:=ah h
     obtain ⟨h20,h⟩:=ah h
     obtain ⟨h21,h⟩:=ah h
     obtain ⟨h22,h⟩:=ah h
     obtain ⟨h23,h⟩:=ah h
     obtain ⟨h24,h⟩:=ah h
     obtain ⟨r1005,g25,h⟩:=ae h
     simp(config:=cS)only[go_sem,eqT h19,eqT h20,eqT h21,eqT h22,eqT h23,eqT h24]
     refine ag (ji g25) ?_
     cases h
     simp(config:=cS)only[go_sem]
    ·obtain ⟨h26,h⟩:=ah h
     obtain ⟨h27,h⟩:=ah h
     obtain ⟨h28,h⟩:=ah h
     obtain ⟨h29,h⟩:=ah h
     obtain ⟨h30,h⟩:=ah h
     obtain ⟨h31,h⟩:=ah h
     obtain ⟨r1006,g32,h⟩:=ae h
     simp(config:=cS)only[go_sem,eqT h26,eqT h27,eqT h28,eqT h29,eqT h30,eqT h31]
     refine ag (ji g32) ?_
     cases h
     simp(config:=cS)only[go_sem]
   ·obtain ⟨h33,h⟩:=ah h
    obtain ⟨h34,h⟩:=ah h
    obtain ⟨h35,h⟩:=ah h
    obtain ⟨h36,h⟩:=ah h
    obtain ⟨h37,h⟩:=ah h
    obtain ⟨h38,h⟩:=ah h
    obtain ⟨r1007,g39,h⟩:=ae h
    simp(config:=cS)only[go_sem,eqT h33,eqT h34,eqT h35,eqT h36,eqT h37,eqT h38]
    refine ag (ji g39) ?_
    cases h
    simp(config:=cS)only[go_sem]
attribute [go_sem] Tryz.ntmps52 Tryz.results52
theorem qt {d:GDesk}{ties values:List Int}{res:GDesk × (List Int) × Int}(h:kq d ties values=some res):ap Tryz.prog 52 [.agg (GDesk.encS d),.sl (ab eI ties),.sl (ab eI values)] [] (.tup [.agg [.ref 20000 1 0 res.1.show_.nodes.length,.ref 20001 1 0 res.1.show_.ties.length,.lit (.int .i64 res.1.show_.horizon),.lit (.int .i64 res.1.state.now),.ref 20002 1 0 res.1.state.times.length,.ref 20003 1 0 res.1.state.values.length,.lit (.bool res.1.lazy),.ref 20004 1 0 res.1.log.length],.ref 20005 1 0 res.2.1.length,.lit (.int .i64 res.2.2)]) [(20000,1,.row true (ab GNode.encO res.1.show_.nodes)),(20001,1,.row true (ab GTie.enc res.1.show_.ties)),(20002,1,.row true (ab eI res.1.state.times)),(20003,1,.row true (ab eI res.1.state.values)),(20004,1,.row true (ab GEntry.encO res.1.log)),(20005,1,.row true (ab eI res.2.1))]:=by
 refine aj (ra:=[.homeCell 384 0,.homeCell 384 1,.homeCell 384 4,.homeCell 384 5,.homeCell 384 7,.home 7]) (md:=mdT) hT (hi:=hi00) Tryz.func52 rfl rfl (by decide +kernel) (by simp) ?_
 unfold kq at h
 obtain ⟨r1001,g1,h⟩:=ae h
 simp(config:=cS)only[go_sem]
 refine ag (BE g1) ?_
 obtain ⟨h2,h⟩|⟨h2,h⟩:=af h
 ·obtain ⟨r1002,g3,h⟩:=ae h
  simp(config:=cS)only[go_sem,eqT h2]
  refine ag (zN g3) ?_
  obtain ⟨h4,h⟩|⟨h4,h⟩:=af h
  ·obtain ⟨r1003,g5,h⟩:=ae h
   simp(config:=cS)only[go_sem,eZt h4]
   refine ag (zO g5) ?_
   cases h
   simp(config:=cS)only[go_sem]
  ·obtain ⟨r1004,g6,h⟩:=ae h
   simp(config:=cS)only[go_sem,eZf h4]
   refine ag (nD g6) ?_
   cases h
   simp(config:=cS)only[go_sem]
 ·obtain ⟨r1005,g7,h⟩:=ae h
  simp(config:=cS)only[go_sem,eqF h2]
  refine ag (nD g7) ?_
  cases h
  simp(config:=cS)only[go_sem]
attribute [go_sem] Tryz.ntmps132 Tryz.results132
theorem sc {v0 res:List GTie}(h:gU v0=some res):ap Tryz.prog 132 [.sl (ab GTie.enc v0)] [] (.ref 20000 1 0 res.length) [(20000,1,.row true (ab GTie.enc res))]:=by
 refine aj (ra:=[.home 2]) (md:=mdT) hT (hi:=hi00) Tryz.func132 rfl rfl (by decide +kernel) (by simp) ?_
 unfold gU at h
 obtain ⟨h1,h3,h2⟩|⟨h1,h3⟩:=DZ h
 ·cases h3
  simp(config:=cS)only[go_sem,h1]
 ·obtain ⟨h4,h3⟩:=ah h3
  obtain ⟨h5,h3⟩:=ah h3
  cases h3
  simp(config:=cS)only[go_sem,Be h1,eqT h4,eqT h5]
attribute [go_sem] Tryz.ntmps101 Tryz.results101
theorem aX {v0 res:List Int}(h:aY v0=some res):ap Tryz.prog 101 [.sl (ab eI v0)] [] (.ref 20000 1 0 res.length) [(20000,1,.row true (ab eI res))]:=by
 refine aj (ra:=[.home 2]) (md:=mdT) hT (hi:=hi00) Tryz.func101 rfl rfl (by decide +kernel) (by simp) ?_
 unfold aY at h
 obtain ⟨h1,h3,h2⟩|⟨h1,h3⟩:=DZ h
 ·cases h3
  simp(config:=cS)only[go_sem,h1]
 ·obtain ⟨h4,h3⟩:=ah h3
  obtain ⟨h5,h3⟩:=ah h3
  cases h3
  simp(config:=cS)only[go_sem,Be h1,eqT h4,eqT h5]
def kY (v13:List GNode)(v14 out_2:Int)(h512:List GTie):(Int × (List GNode))→St
 | (v15,h100012288)=>⟨[(2,.ptr 128 1 0 0),(3,.ptr 192 1 0 0),(13,.sl (ab GNode.encS v13)),(14,.lit (.int .i64 v14)),(15,.lit (.int .i64 v15))],[(128,1,.var [.lit (.slice none 0 0),.lit (.slice none 0 0),.lit (.int .i64 0)]),(192,1,.var [.ref 100012288 1 0 h100012288.length,.ref 512 1 0 h512.length,.lit (.int .i64 out_2)]),(100012288,1,.row true (ab GNode.encO h100012288)),(512,1,.row true (ab GTie.enc h512))],2⟩
attribute [go_sem] kY
@[go_sem] def hi57_1:DT:=.i1 0 (.i1 1 (.i1 3 (.i1 4 (.fork (.i0 2 [3,4] (.i2 5 (.i0 6 [0,1,3,4] (.i2 7 .nil)))) (.i0 6 [0,1,3,4] (.i0 2 [3,4] (.i2 5 (.i2 7 .nil))))))))
def hi57:Hint where
 acts:=fun _=>[]
 draws:=fun
  | 1=>⟨hi57_1,[[],[0],[0,1],[],[3],.range 5,[],.range 7],.range 8⟩
  | _=>⟨.nil,[],[]⟩
theorem So (i:Nat):hi57.acts i=[]:=rfl
theorem Sp (i:Nat):hi57.views i=none:=rfl
attribute [go_sem] So Sp Tryz.ntmps57 Tryz.results57
@[go_sem] theorem Uw:(hi57.draws 1).order=hi57_1:=rfl
theorem uh {s res:GShow}(h:ii s=some res):ap Tryz.prog 57 [.agg (GShow.encS s)] [] (.agg [.ref 20000 1 0 res.nodes.length,.ref 20001 1 0 res.ties.length,.lit (.int .i64 res.horizon)]) [(20000,1,.row true (ab GNode.encO res.nodes)),(20001,1,.row true (ab GTie.enc res.ties))]:=by
 refine aj (ra:=[.homeCell 128 0,.homeCell 128 1]) (md:=mdT) hT (hi:=hi57) Tryz.func57 rfl rfl (by decide +kernel) (by simp) ?_
 unfold ii at h
 try simp(config:=cS)only[go_sem]
 refine bg ?_ ?_
 ·obtain ⟨r1001,g1,h⟩:=ae h
  simp(config:=cS)only[go_sem]
  refine ag (sc g1) ?_
  obtain ⟨q1004,l2,h⟩:=ae h
  simp(config:=cS)only[go_sem]
  refine an (m1:=.mk) (m2:=.mk) [.homeCell 192 0,.nf [2,3,13,14,15] [128,192,100012288,512]] (kY s.nodes ((s.nodes.length:Nat):Int) s.horizon r1001) l2 ?_ ?_
  ·simp(config:=cS)only[go_sem]
  ·intro nb3 sb3 bb3 b3 gb3
   obtain ⟨v15_1,h100012288_1⟩:=sb3
   unfold ej at b3
   try dsimp only at b3
   obtain ⟨h4,b3⟩|⟨h4,b3⟩:=af b3
   ·obtain ⟨x1002,g5,b3⟩:=ae b3
    obtain ⟨h6,h7,h8⟩:=ai g5
    obtain ⟨r1003,g9,b3⟩:=ae b3
    simp(config:=cS)only[go_sem,eqT h4,h6,h7,h8]
    refine ag (aX g9) ?_
    obtain ⟨h10,b3⟩:=ah b3
    obtain ⟨h11,b3⟩:=ah b3
    cases b3
    simp(config:=cS)only[go_sem,eqT h10,eqT h11]
    refine ao gb3 ?_
    simp(config:=cS)only[go_sem]
   ·cases b3
    obtain rfl:=(ak gb3).symm
    try dsimp only at h
    cases h
    simp(config:=cS)only[go_sem,eqF h4]
 ·obtain ⟨r1005,g13,h⟩:=ae h
  simp(config:=cS)only[go_sem]
  refine ag (sc g13) ?_
  obtain ⟨q1008,l14,h⟩:=ae h
  simp(config:=cS)only[go_sem]
  refine an (m1:=.mk) (m2:=.mk) [.homeCell 192 0,.nf [2,3,13,14,15] [128,192,100012288,512]] (kY s.nodes ((s.nodes.length:Nat):Int) s.horizon r1005) l14 ?_ ?_
  ·simp(config:=cS)only[go_sem]
  ·intro nb15 sb15 bb15 b15 gb15
   obtain ⟨v15_2,h100012288_2⟩:=sb15
   unfold ej at b15
   try dsimp only at b15
   obtain ⟨h16,b15⟩|⟨h16,b15⟩:=af b15
   ·obtain ⟨x1006,g17,b15⟩:=ae b15
    obtain ⟨h18,h19,h20⟩:=ai g17
    obtain ⟨r1007,g21,b15⟩:=ae b15
    simp(config:=cS)only[go_sem,eqT h16,h18,h19,h20]
    refine ag (aX g21) ?_
    obtain ⟨h22,b15⟩:=ah b15
    obtain ⟨h23,b15⟩:=ah b15
    cases b15
    simp(config:=cS)only[go_sem,eqT h22,eqT h23]
    refine ao gb15 ?_
    simp(config:=cS)only[go_sem]
   ·cases b15
    obtain rfl:=(ak gb15).symm
    try dsimp only at h
    cases h
    simp(config:=cS)only[go_sem,eqF h16]
@[go_sem] def hi138_1:DT:=.i1 0 (.i1 1 (.i2 2 (.i2 3 (.i1 5 (.i1 6 (.i0 4 [0,1,5,6] (.i0 7 [0,1] (.i2 8 (.i2 9 .nil)))))))))
def FG:Hint where
 acts:=fun _=>[]
 draws:=fun
  | 1=>⟨hi138_1,[[],[0],[],[2],[2,3],[],[5],[2,3,4,5,6],.range 8,.range 9],.range 10⟩
  | _=>⟨.nil,[],[]⟩
theorem Qn (i:Nat):FG.acts i=[]:=rfl
theorem Qo (i:Nat):FG.views i=none:=rfl
attribute [go_sem] Qn Qo Tryz.ntmps138 Tryz.results138
@[go_sem] theorem Tv:(FG.draws 1).order=hi138_1:=rfl
theorem lQ {v0 res:GState}(h:cV v0=some res):ap Tryz.prog 138 [.agg (GState.encS v0)] [] (.agg [.lit (.int .i64 res.now),.ref 20000 1 0 res.times.length,.ref 20001 1 0 res.values.length]) [(20000,1,.row true (ab eI res.times)),(20001,1,.row true (ab eI res.values))]:=by
 refine aj (ra:=[.homeCell 128 1,.homeCell 128 2]) (md:=mdT) hT (hi:=FG) Tryz.func138 rfl rfl (by decide +kernel) (by simp) ?_
 unfold cV at h
 obtain ⟨r1001,g1,h⟩:=ae h
 simp(config:=cS)only[go_sem]
 refine ag (aX g1) ?_
 obtain ⟨r1002,g2,h⟩:=ae h
 simp(config:=cS)only[go_sem]
 refine ag (aX g2) ?_
 cases h
 simp(config:=cS)only[go_sem]
def qu (v6:List GEntry)(v7:Int):(Int × (List GEntry))→St
 | (v8,out)=>⟨[(3,.ref 255 1 0 out.length),(6,.sl (ab GEntry.encS v6)),(7,.lit (.int .i64 v7)),(8,.lit (.int .i64 v8))],[(255,1,.row true (ab GEntry.encO out))],2⟩
attribute [go_sem] qu
@[go_sem] def hi139_5:DT:=.i2 0 (.i1 1 (.i1 2 (.i2 3 (.i2 4 (.i1 6 (.i1 7 (.i1 9 (.i1 10 (.i0 5 [1,2,6,7,9,10] (.i0 8 [1,2,9,10] (.i0 11 [1,2] (.i2 12 (.i2 13 (.i2 14 (.i2 15 .nil)))))))))))))))
def FH:Hint where
 acts:=fun _=>[]
 draws:=fun
  | 5=>⟨hi139_5,[[],[],[1],[],[3],[3,4],[],[6],[3,4,5,6,7],[],[9],[3,4,5,6,7,8,9,10],[1,2,3,4,5,6,7,8,9,10,11],[1,2,3,4,5,6,7,8,9,10,11,12],.range 14,.range 15],.range 16⟩
  | _=>⟨.nil,[],[]⟩
theorem Qp (i:Nat):FH.acts i=[]:=rfl
theorem Qq (i:Nat):FH.views i=none:=rfl
attribute [go_sem] Qp Qq Tryz.ntmps139 Tryz.results139
@[go_sem] theorem Tw:(FH.draws 5).order=hi139_5:=rfl
theorem Dd {log res:List GEntry}(h:lk log=some res):ap Tryz.prog 139 [.sl (ab GEntry.encS log)] [] (.ref 20000 1 0 res.length) [(20000,1,.row true (ab GEntry.encO res))]:=by
 refine aj (ra:=[.home 2]) (md:=mdT) hT (hi:=FH) Tryz.func139 rfl rfl (by decide +kernel) (by simp) ?_
 unfold lk at h
 obtain ⟨q1005,l1,h⟩:=ae h
 simp(config:=cS)only[go_sem]
 refine an (m1:=.mk) (m2:=.mk) [.home 3,.nf [3,6,7,8] [255]] (qu log ((log.length:Nat):Int)) l1 ?_ ?_
 ·simp(config:=cS)only[go_sem]
 ·intro nb2 sb2 bb2 b2 gb2
  obtain ⟨v8_1,out_1⟩:=sb2
  unfold iy at b2
  try dsimp only at b2
  obtain ⟨h3,b2⟩|⟨h3,b2⟩:=af b2
  ·obtain ⟨x1001,g4,b2⟩:=ae b2
   obtain ⟨h5,h6,h7⟩:=ai g4
   obtain ⟨r1002,g8,b2⟩:=ae b2
   simp(config:=cS)only[go_sem,eqT h3,h5,h6,h7]
   refine ag (aX g8) ?_
   obtain ⟨r1003,g9,b2⟩:=ae b2
   simp(config:=cS)only[go_sem]
   refine ag (aX g9) ?_
   obtain ⟨r1004,g10,b2⟩:=ae b2
   simp(config:=cS)only[go_sem]
   refine ag (aX g10) ?_
   obtain ⟨h11,b2⟩:=ah b2
   obtain ⟨h12,b2⟩:=ah b2
   cases b2
   simp(config:=cS)only[go_sem,eqT h11,eqT h12]
   refine ao gb2 ?_
   simp(config:=cS)only[go_sem]
  ·cases b2
   obtain rfl:=(ak gb2).symm
   try dsimp only at h
   cases h
   simp(config:=cS)only[go_sem,eqF h3]
@[go_sem] def hi61_1:DT:=.i2 0 (.i2 1 (.i1 3 (.i1 4 (.i1 6 (.i1 7 (.i1 8 (.i1 9 (.i0 2 [3,4,6,7,8,9] (.i0 5 [6,7,8,9] (.i0 10 [6,7] (.i2 11 (.i2 12 .nil))))))))))))
def hi61:Hint where
 acts:=fun _=>[]
 draws:=fun
  | 1=>⟨hi61_1,[[],[0],[0,1],[],[3],.range 5,[],[6],[],[8],[0,1,2,3,4,5,8,9],.range 11,.range 12],.range 13⟩
  | _=>⟨.nil,[],[]⟩
theorem Sq (i:Nat):hi61.acts i=[]:=rfl
theorem Sr (i:Nat):hi61.views i=none:=rfl
attribute [go_sem] Sq Sr Tryz.ntmps61 Tryz.results61
@[go_sem] theorem Ux:(hi61.draws 1).order=hi61_1:=rfl
theorem ui {d res:GDesk}(h:ij d=some res):ap Tryz.prog 61 [.agg (GDesk.encS d)] [] (.agg [.ref 20000 1 0 res.show_.nodes.length,.ref 20001 1 0 res.show_.ties.length,.lit (.int .i64 res.show_.horizon),.lit (.int .i64 res.state.now),.ref 20002 1 0 res.state.times.length,.ref 20003 1 0 res.state.values.length,.lit (.bool res.lazy),.ref 20004 1 0 res.log.length]) [(20000,1,.row true (ab GNode.encO res.show_.nodes)),(20001,1,.row true (ab GTie.enc res.show_.ties)),(20002,1,.row true (ab eI res.state.times)),(20003,1,.row true (ab eI res.state.values)),(20004,1,.row true (ab GEntry.encO res.log))]:=by
 refine aj (ra:=[.homeCell 128 0,.homeCell 128 1,.homeCell 128 4,.homeCell 128 5,.homeCell 128 7]) (md:=mdT) hT (hi:=hi61) Tryz.func61 rfl rfl (by decide +kernel) (by simp) ?_
 unfold ij at h
 obtain ⟨r1001,g1,h⟩:=ae h
 simp(config:=cS)only[go_sem]
 refine ag (uh g1) ?_
 obtain ⟨r1002,g2,h⟩:=ae h
 simp(config:=cS)only[go_sem]
 refine ag (lQ g2) ?_
 obtain ⟨r1003,g3,h⟩:=ae h
 simp(config:=cS)only[go_sem]
 refine ag (Dd g3) ?_
 cases h
 simp(config:=cS)only[go_sem]
def rf (s:ByteArray)(i:Int):St:=⟨[(0,.lit (.string s)),(3,.lit (.int .i64 i))],[],2⟩
attribute [go_sem] rf
@[go_sem] def hi239_4:DT:=.i2 0 (.i2 1 (.i2 2 (.i2 3 (.i2 4 (.i2 5 (.i2 6 (.i2 7 (.i2 8 (.i2 9 (.i2 10 (.i2 11 (.i2 12 (.i2 13 (.i2 14 (.i2 15 (.i2 16 (.i2 17 (.i2 18 (.i2 19 (.i2 20 (.i2 21 .nil)))))))))))))))))))))
def FI:Hint where
 acts:=fun _=>[]
 draws:=fun
  | 4=>⟨hi239_4,[[],[],[0,1],[0,1,2],[0,1,2,3],.range 5,.range 5,.range 7,.range 8,.range 9,[],[],[10,11],[10,11,12],[0,1,2,3,4,10,11,12,13],[0,1,2,3,4,10,11,12,13,14],[0,1,2,3,4,10,11,12,13,14],[0,1,2,3,4,10,11,12,13,14,15,16],[0,1,2,3,4,10,11,12,13,14,15,16,17],[0,1,2,3,4,10,11,12,13,14,15,16,17,18],.range 15,.range 21],[0,1,2,3,4,5,6,7,8,9,10,11,12,13,14,16,17,18,19,20,15,21]⟩
  | _=>⟨.nil,[],[]⟩
theorem Qr (i:Nat):FI.acts i=[]:=rfl
theorem Qs (i:Nat):FI.views i=none:=rfl
attribute [go_sem] Qr Qs Tryz.ntmps239 Tryz.results239
@[go_sem] theorem Tx:(FI.draws 4).order=hi239_4:=rfl
theorem EK {s:ByteArray}{res:Bool}(h:lZ s=some res):ap Tryz.prog 239 [.lit (.string s)] [] (.lit (.bool res)) []:=by
 refine aj (ra:=[]) (md:=mdT) hT (hi:=FI) Tryz.func239 rfl rfl (by decide +kernel) (by simp) ?_
 unfold lZ at h
 obtain ⟨q1002,l1,h⟩:=ae h
 simp(config:=cS)only[go_sem]
 refine an (m1:=.mk) (m2:=.mk) [.nf [0,3] []] (rf s) l1 ?_ ?_
 ·simp(config:=cS)only[go_sem]
 ·intro nb2 i_1 bb2 b2 gb2
  unfold gu at b2
  try dsimp only at b2
  obtain ⟨h3,b2⟩|⟨h3,b2⟩:=af b2
  ·obtain ⟨c1001,g4,b2⟩:=ae b2
   obtain ⟨h5,h6,h7⟩:=iU g4
   obtain ⟨h8,b2⟩|⟨h8,b2⟩:=af b2
   ·obtain ⟨h9,b2⟩|⟨h9,b2⟩:=af b2
    ·obtain ⟨h10,b2⟩|⟨h10,b2⟩:=af b2
     ·cases b2
      simp(config:=cS)only[go_sem,eqT h3,h5,h6,h7,eqT h8,eqT h9,eqT h10]
      refine ao gb2 ?_
      simp(config:=cS)only[go_sem]
     ·obtain ⟨h11,b2⟩|⟨h11,b2⟩:=af b2
      ·obtain ⟨h12,b2⟩|⟨h12,b2⟩:=af b2
       ·cases b2
        obtain rfl:=(ak gb2).symm
        try dsimp only at h
        cases h
        simp(config:=cS)only[go_sem,eqT h3,h5,h6,h7,eqT h8,eqT h9,eqF h10,eqT h11,eqT h12]
       ·cases b2
        simp(config:=cS)only[go_sem,eqT h3,h5,h6,h7,eqT h8,eqT h9,eqF h10,eqT h11,eqF h12]
        refine ao gb2 ?_
        simp(config:=cS)only[go_sem]
      ·cases b2
       obtain rfl:=(ak gb2).symm
       try dsimp only at h
       cases h
       simp(config:=cS)only[go_sem,eqT h3,h5,h6,h7,eqT h8,eqT h9,eqF h10,eqF h11]
    ·obtain ⟨h15,b2⟩|⟨h15,b2⟩:=af b2
     ·cases b2
      simp(config:=cS)only[go_sem,eqT h3,h5,h6,h7,eqT h8,eqF h9,eqT h15]
      refine ao gb2 ?_
      simp(config:=cS)only[go_sem]
     ·cases b2
      obtain rfl:=(ak gb2).symm
      try dsimp only at h
      cases h
      simp(config:=cS)only[go_sem,eqT h3,h5,h6,h7,eqT h8,eqF h9,eqF h15]
   ·obtain ⟨h17,b2⟩|⟨h17,b2⟩:=af b2
    ·obtain ⟨h18,b2⟩|⟨h18,b2⟩:=af b2
     ·obtain ⟨h19,b2⟩|⟨h19,b2⟩:=af b2
      ·cases b2
       obtain rfl:=(ak gb2).symm
       try dsimp only at h
       cases h
       simp(config:=cS)only[go_sem,eqT h3,h5,h6,h7,eqF h8,eqT h17,eqT h18,eqT h19]
      ·cases b2
       simp(config:=cS)only[go_sem,eqT h3,h5,h6,h7,eqF h8,eqT h17,eqT h18,eqF h19]
       refine ao gb2 ?_
       simp(config:=cS)only[go_sem]
     ·cases b2
      obtain rfl:=(ak gb2).symm
      try dsimp only at h
      cases h
      simp(config:=cS)only[go_sem,eqT h3,h5,h6,h7,eqF h8,eqT h17,eqF h18]
    ·cases b2
     obtain rfl:=(ak gb2).symm
     try dsimp only at h
     cases h
     simp(config:=cS)only[go_sem,eqT h3,h5,h6,h7,eqF h8,eqF h17]
  ·cases b2
   obtain rfl:=(ak gb2).symm
   try dsimp only at h
   obtain ⟨h24,h⟩|⟨h24,h⟩:=af h
   ·cases h
    simp(config:=cS)only[go_sem,eqF h3,eqT h24]
   ·cases h
    simp(config:=cS)only[go_sem,eqF h3,eqF h24]
attribute [go_sem] Tryz.ntmps210 Tryz.results210
theorem jN {l res:Int}(h:dh l=some res):ap Tryz.prog 210 [.lit (.int .i64 l)] [] (.lit (.int .i64 res)) []:=by
 refine aj (ra:=[]) (md:=mdT) hT (hi:=hi00) Tryz.func210 rfl rfl (by decide +kernel) (by simp) ?_
 unfold dh at h
 cases h
 simp(config:=cS)only[go_sem]
def qv (l:List Int)(v6 v7:Int):St:=⟨[(0,.sl (ab eI l)),(5,.sl (ab eI l)),(6,.lit (.int .i64 v6)),(7,.lit (.int .i64 v7))],[],2⟩
attribute [go_sem] qv
attribute [go_sem] Tryz.ntmps218 Tryz.results218
theorem kZ {l:List Int}{res:Bool}(h:dl l=some res):ap Tryz.prog 218 [.sl (ab eI l)] [] (.lit (.bool res)) []:=by
 refine aj (ra:=[]) (md:=mdT) hT (hi:=hi00) Tryz.func218 rfl rfl (by decide +kernel) (by simp) ?_
 unfold dl at h
 obtain ⟨q1005,l1,h⟩:=ae h
 simp(config:=cS)only[go_sem]
 refine an (m1:=.mk) (m2:=.mk) [.nf [0,5,6,7] []] (qv l ((l.length:Nat):Int)) l1 ?_ ?_
 ·simp(config:=cS)only[go_sem]
 ·intro nb2 v7_1 bb2 b2 gb2
  unfold fu at b2
  try dsimp only at b2
  obtain ⟨h3,b2⟩|⟨h3,b2⟩:=af b2
  ·obtain ⟨x1001,g4,b2⟩:=ae b2
   obtain ⟨h5,h6,h7⟩:=ai g4
   obtain ⟨h8,b2⟩|⟨h8,b2⟩:=af b2
   ·cases b2
    obtain rfl:=(ak gb2).symm
    try dsimp only at h
    cases h
    simp(config:=cS)only[go_sem,eqT h3,h5,h6,h7,eqT h8]
   ·obtain ⟨h10,b2⟩|⟨h10,b2⟩:=af b2
    ·cases b2
     obtain rfl:=(ak gb2).symm
     try dsimp only at h
     cases h
     simp(config:=cS)only[go_sem,eqT h3,h5,h6,h7,eqF h8,eqT h10]
    ·obtain ⟨h12,b2⟩|⟨h12,b2⟩:=af b2
     ·cases b2
      obtain rfl:=(ak gb2).symm
      try dsimp only at h
      cases h
      simp(config:=cS)only[go_sem,eqT h3,h5,h6,h7,eqF h8,eqF h10,eqT h12]
     ·obtain ⟨h14,b2⟩|⟨h14,b2⟩:=af b2
      ·obtain ⟨x1002,g15,b2⟩:=ae b2
       obtain ⟨h16,h17,h18⟩:=ai g15
       obtain ⟨r1003,g19,b2⟩:=ae b2
       simp(config:=cS)only[go_sem,eqT h3,h5,h6,h7,eqF h8,eqF h10,eqF h12,eqT h14,h16,h17,h18]
       refine ag (jN g19) ?_
       obtain ⟨r1004,g20,b2⟩:=ae b2
       simp(config:=cS)only[go_sem]
       refine ag (jN g20) ?_
       obtain ⟨h21,b2⟩|⟨h21,b2⟩:=af b2
       ·cases b2
        obtain rfl:=(ak gb2).symm
        try dsimp only at h
        cases h
        simp(config:=cS)only[go_sem,eqT h21]
       ·cases b2
        simp(config:=cS)only[go_sem,eqF h21]
        refine ao gb2 ?_
        simp(config:=cS)only[go_sem]
      ·cases b2
       simp(config:=cS)only[go_sem,eqT h3,h5,h6,h7,eqF h8,eqF h10,eqF h12,eqF h14]
       refine ao gb2 ?_
       simp(config:=cS)only[go_sem]
  ·cases b2
   obtain rfl:=(ak gb2).symm
   try dsimp only at h
   cases h
   simp(config:=cS)only[go_sem,eqF h3]
attribute [go_sem] Tryz.ntmps205 Tryz.results205
theorem EL {n:GNode}{res:Bool}(h:ma n=some res):ap Tryz.prog 205 [.agg (GNode.encS n)] [] (.lit (.bool res)) []:=by
 refine aj (ra:=[]) (md:=mdT) hT (hi:=hi00) Tryz.func205 rfl rfl (by decide +kernel) (by simp) ?_
 unfold ma at h
 obtain ⟨r1001,g1,h⟩:=ae h
 simp(config:=cS)only[go_sem]
 refine ag (EK g1) ?_
 obtain ⟨h2,h⟩|⟨h2,h⟩:=af h
 ·obtain ⟨r1002,g3,h⟩:=ae h
  simp(config:=cS)only[go_sem,eZt h2]
  refine ag (kZ g3) ?_
  obtain ⟨h4,h⟩|⟨h4,h⟩:=af h
  ·obtain ⟨h5,h⟩|⟨h5,h⟩:=af h
   ·cases h
    simp(config:=cS)only[go_sem,eZt h2,eZt h4,eqT h5]
   ·cases h
    simp(config:=cS)only[go_sem,eZt h2,eZt h4,eqF h5]
  ·cases h
   simp(config:=cS)only[go_sem,eZt h2,eZf h4]
 ·cases h
  simp(config:=cS)only[go_sem,eZf h2]
def pD (v35:List GNode)(v36 v37:Int)(v48:List GNode)(v49:Int)(s_1:List GTie)(s_2:Int)(n_0:ByteArray)(n_1:List Int)(n_2 v50:Int):St:=⟨[(1,.ptr 64 1 0 0),(4,.ptr 256 1 0 0),(35,.sl (ab GNode.encS v35)),(36,.lit (.int .i64 v36)),(37,.lit (.int .i64 v37)),(48,.sl (ab GNode.encS v48)),(49,.lit (.int .i64 v49)),(50,.lit (.int .i64 v50))],[(64,1,.var [.sl (ab GNode.encS v35),.sl (ab GTie.enc s_1),.lit (.int .i64 s_2)]),(256,1,.var [.lit (.string n_0),.sl (ab eI n_1),.lit (.int .i64 n_2)])],2⟩
attribute [go_sem] pD
def pE (v35:List GNode)(v36:Int)(s_1:List GTie)(s_2 v37:Int):St:=⟨[(1,.ptr 64 1 0 0),(35,.sl (ab GNode.encS v35)),(36,.lit (.int .i64 v36)),(37,.lit (.int .i64 v37))],[(64,1,.var [.sl (ab GNode.encS v35),.sl (ab GTie.enc s_1),.lit (.int .i64 s_2)])],2⟩
attribute [go_sem] pE
attribute [go_sem] Tryz.ntmps127 Tryz.results127
theorem BJ {s:GShow}{res:Bool}(h:jY s=some res):ap Tryz.prog 127 [.agg (GShow.encS s)] [] (.lit (.bool res)) []:=by
 refine aj (ra:=[]) (md:=mdT) hT (hi:=hi00) Tryz.func127 rfl rfl (by decide +kernel) (by simp) ?_
 unfold jY at h
 obtain ⟨h1,h⟩|⟨h1,h⟩:=af h
 ·cases h
  simp(config:=cS)only[go_sem,eqT h1]
 ·obtain ⟨h2,h⟩|⟨h2,h⟩:=af h
  ·cases h
   simp(config:=cS)only[go_sem,eqF h1,eqT h2]
  ·obtain ⟨x1001,g3,h⟩:=ae h
   obtain ⟨h5,h6⟩:=dy (k:=0) g3
   obtain ⟨h7,h⟩|⟨h7,h⟩:=af h
   ·cases h
    simp(config:=cS)only[go_sem,eqF h1,eqF h2,h5,h6,eqT h7]
   ·obtain ⟨h8,h⟩|⟨h8,h⟩:=af h
    ·obtain ⟨q1006,l9,h⟩:=ae h
     simp(config:=cS)only[go_sem,eqF h1,eqF h2,h5,h6,eqF h7,eqT h8]
     refine an (m1:=.mk) (m2:=.mk) [.nf [1,35,36,37] [64]] (pE s.nodes ((s.nodes.length:Nat):Int) s.ties s.horizon) l9 ?_ ?_
     ·simp(config:=cS)only[go_sem]
     ·intro nb10 v37_1 bb10 b10 gb10
      unfold eg at b10
      try dsimp only at b10
      obtain ⟨h11,b10⟩|⟨h11,b10⟩:=af b10
      ·obtain ⟨x1002,g12,b10⟩:=ae b10
       obtain ⟨h13,h14,h15⟩:=ai g12
       obtain ⟨r1003,g16,b10⟩:=ae b10
       simp(config:=cS)only[go_sem,eqT h11,h13,h14,h15]
       refine ag (EL g16) ?_
       obtain ⟨h17,b10⟩|⟨h17,b10⟩:=af b10
       ·obtain ⟨h18,b10⟩:=ah b10
        obtain ⟨h19,b10⟩:=ah b10
        obtain ⟨q1005,l20,b10⟩:=ae b10
        simp(config:=cS)only[go_sem,eZt h17,eqT h18,eqT h19]
        refine an (m1:=.mk) (m2:=.mk) [.nf [1,4,35,36,37,48,49,50] [64,256]] (pD s.nodes ((s.nodes.length:Nat):Int) v37_1 (s.nodes.take v37_1.toNat) (((s.nodes.take v37_1.toNat).length:Nat):Int) s.ties s.horizon x1002.name x1002.label x1002.watch) l20 ?_ ?_
        ·simp(config:=cS)only[go_sem]
        ·intro nb21 v50_2 bb21 b21 gb21
         unfold ea at b21
         try dsimp only at b21
         obtain ⟨h22,b21⟩|⟨h22,b21⟩:=af b21
         ·obtain ⟨x1004,g23,b21⟩:=ae b21
          obtain ⟨h24,h25,h26⟩:=ai g23
          obtain ⟨h27,b21⟩|⟨h27,b21⟩:=af b21
          ·cases b21
           obtain rfl:=(ak gb21).symm
           try dsimp only at b10
           cases b10
           obtain rfl:=(ak gb10).symm
           try dsimp only at h
           cases h
           simp(config:=cS)only[go_sem,eqT h22,h24,h25,h26,eqT h27]
          ·obtain ⟨h30,b21⟩|⟨h30,b21⟩:=af b21
           ·cases b21
            simp(config:=cS)only[go_sem,eqT h22,h24,h25,h26,eqF h27,eqT h30]
            refine ao gb21 ?_
            simp(config:=cS)only[go_sem]
           ·obtain ⟨h31,b21⟩|⟨h31,b21⟩:=af b21
            ·cases b21
             obtain rfl:=(ak gb21).symm
             try dsimp only at b10
             cases b10
             obtain rfl:=(ak gb10).symm
             try dsimp only at h
             cases h
             simp(config:=cS)only[go_sem,eqT h22,h24,h25,h26,eqF h27,eqF h30,eqT h31]
            ·cases b21
             simp(config:=cS)only[go_sem,eqT h22,h24,h25,h26,eqF h27,eqF h30,eqF h31]
             refine ao gb21 ?_
             simp(config:=cS)only[go_sem]
         ·cases b21
          obtain rfl:=(ak gb21).symm
          try dsimp only at b10
          cases b10
          simp(config:=cS)only[go_sem,eqF h22]
          refine ao gb10 ?_
          simp(config:=cS)only[go_sem]
       ·cases b10
        obtain rfl:=(ak gb10).symm
        try dsimp only at h
        cases h
        simp(config:=cS)only[go_sem,eZf h17]
      ·cases b10
       obtain rfl:=(ak gb10).symm
       try dsimp only at h
       cases h
       simp(config:=cS)only[go_sem,eqF h11]
    ·cases h
     simp(config:=cS)only[go_sem,eqF h1,eqF h2,h5,h6,eqF h7,eqF h8]
attribute [go_sem] Tryz.ntmps206 Tryz.results206
theorem wg {n node:Int}{res:Bool}(h:jP n node=some res):ap Tryz.prog 206 [.lit (.int .i64 n),.lit (.int .i64 node)] [] (.lit (.bool res)) []:=by
 refine aj (ra:=[]) (md:=mdT) hT (hi:=hi00) Tryz.func206 rfl rfl (by decide +kernel) (by simp) ?_
 unfold jP at h
 obtain ⟨h1,h⟩|⟨h1,h⟩:=af h
 ·cases h
  simp(config:=cS)only[go_sem,eqT h1]
 ·cases h
  simp(config:=cS)only[go_sem,eqF h1]
attribute [go_sem] Tryz.ntmps207 Tryz.results207
theorem wh {n:Int}{res:Bool}(h:jQ n=some res):ap Tryz.prog 207 [.lit (.int .i64 n)] [] (.lit (.bool res)) []:=by
 refine aj (ra:=[]) (md:=mdT) hT (hi:=hi00) Tryz.func207 rfl rfl (by decide +kernel) (by simp) ?_
 unfold jQ at h
 obtain ⟨h1,h⟩|⟨h1,h⟩:=af h
 ·cases h
  simp(config:=cS)only[go_sem,eqT h1]
 ·cases h
  simp(config:=cS)only[go_sem,eqF h1]
def mZ (v0 v1:List Int)(v12 v13:Int):St:=⟨[(0,.sl (ab eI v0)),(1,.sl (ab eI v1)),(12,.lit (.int .i64 v12)),(13,.lit (.int .i64 v13))],[],2⟩
attribute [go_sem] mZ
@[go_sem] def hi148_6:DT:=.i2 0 (.i2 1 (.i2 2 (.i2 3 (.i2 4 (.i2 5 (.i2 6 (.i2 7 (.i2 8 .nil))))))))
def FJ:Hint where
 acts:=fun _=>[]
 draws:=fun
  | 6=>⟨hi148_6,[[],[],[0,1],[0,1,2],[],[],[4,5],[4,5,6],.range 8],.range 9⟩
  | _=>⟨.nil,[],[]⟩
theorem Qt (i:Nat):FJ.acts i=[]:=rfl
theorem Qu (i:Nat):FJ.views i=none:=rfl
attribute [go_sem] Qt Qu Tryz.ntmps148 Tryz.results148
@[go_sem] theorem Tz:(FJ.draws 6).order=hi148_6:=rfl
theorem gT {v0 v1:List Int}{res:Bool}(h:bV v0 v1=some res):ap Tryz.prog 148 [.sl (ab eI v0),.sl (ab eI v1)] [] (.lit (.bool res)) []:=by
 refine aj (ra:=[]) (md:=mdT) hT (hi:=FJ) Tryz.func148 rfl rfl (by decide +kernel) (by simp) ?_
 unfold bV at h
 obtain ⟨h1,h⟩|⟨h1,h⟩:=af h
 ·obtain ⟨q1003,l2,h⟩:=ae h
  simp(config:=cS)only[go_sem,eqT h1]
  refine an (m1:=.mk) (m2:=.mk) [.nf [0,1,12,13] []] (mZ v0 v1 ((v0.length:Nat):Int)) l2 ?_ ?_
  ·simp(config:=cS)only[go_sem]
  ·intro nb3 v13_1 bb3 b3 gb3
   unfold cN at b3
   try dsimp only at b3
   obtain ⟨h4,b3⟩|⟨h4,b3⟩:=af b3
   ·obtain ⟨x1001,g5,b3⟩:=ae b3
    obtain ⟨h6,h7,h8⟩:=ai g5
    obtain ⟨x1002,g9,b3⟩:=ae b3
    obtain ⟨h10,h11,h12⟩:=ai g9
    obtain ⟨h13,b3⟩|⟨h13,b3⟩:=af b3
    ·cases b3
     simp(config:=cS)only[go_sem,eqT h4,h6,h7,h8,h10,h11,h12,eqT h13]
     refine ao gb3 ?_
     simp(config:=cS)only[go_sem]
    ·cases b3
     obtain rfl:=(ak gb3).symm
     try dsimp only at h
     cases h
     simp(config:=cS)only[go_sem,eqT h4,h6,h7,h8,h10,h11,h12,eqF h13]
   ·cases b3
    obtain rfl:=(ak gb3).symm
    try dsimp only at h
    cases h
    simp(config:=cS)only[go_sem,eqF h4]
 ·cases h
  simp(config:=cS)only[go_sem,eqF h1]
def la (v0:List GTie)(f_v1:Nat)(k_v1:List AV)(v7 v8:Int):St:=⟨[(0,.sl (ab GTie.enc v0)),(1,.fn f_v1 k_v1),(7,.lit (.int .i64 v7)),(8,.lit (.int .i64 v8))],[],2⟩
attribute [go_sem] la
attribute [go_sem] Tryz.ntmps225 Tryz.results225
theorem ow {v0:List GTie}{v1:GTie→Option Bool}{f_v1:Nat}{k_v1:List AV}(hp_v1:∀ y0 r,v1 y0=some r→ap Tryz.prog f_v1 ([.agg (GTie.enc y0)] ++ k_v1) [] (.lit (.bool r)) [])(hc_v1:KC k_v1)(hm_v1:∀ a,mdT f_v1 a=⟨[],false⟩)(hk_v1:spf f_v1=false){res:Int}(h:cF v0 v1=some res):ap Tryz.prog 225 [.sl (ab GTie.enc v0),.fn f_v1 k_v1] [] (.lit (.int .i64 res)) []:=by
 refine aj (ra:=[]) (md:=mdT) hT (hi:=hi00) Tryz.func225 rfl rfl (by decide +kernel) (by simp) ?_
 unfold cF at h
 obtain ⟨q1003,l1,h⟩:=ae h
 simp(config:=cS)only[go_sem,hc_v1.1,hc_v1.2,hm_v1,hk_v1]
 refine an (m1:=.mk) (m2:=.mk) [.nf [0,1,7,8] []] (la v0 f_v1 k_v1 ((v0.length:Nat):Int)) l1 ?_ ?_
 ·simp(config:=cS)only[go_sem,hc_v1.1,hc_v1.2,hm_v1,hk_v1]
 ·intro nb2 v8_1 bb2 b2 gb2
  unfold bZ at b2
  try dsimp only at b2
  obtain ⟨h3,b2⟩|⟨h3,b2⟩:=af b2
  ·obtain ⟨x1001,g4,b2⟩:=ae b2
   obtain ⟨h5,h6,h7⟩:=ai g4
   obtain ⟨r1002,g8,b2⟩:=ae b2
   simp(config:=cS)only[go_sem,hc_v1.1,hc_v1.2,hm_v1,hk_v1,eqT h3,h5,h6,h7]
   refine ag (hp_v1 _ _ g8) ?_
   obtain ⟨h9,b2⟩|⟨h9,b2⟩:=af b2
   ·cases b2
    obtain rfl:=(ak gb2).symm
    try dsimp only at h
    cases h
    simp(config:=cS)only[go_sem,hc_v1.1,hc_v1.2,hm_v1,hk_v1,eqT h3,h5,h6,h7,eZt h9]
   ·cases b2
    simp(config:=cS)only[go_sem,hc_v1.1,hc_v1.2,hm_v1,hk_v1,eqT h3,h5,h6,h7,eZf h9]
    refine ao gb2 ?_
    simp(config:=cS)only[go_sem,hc_v1.1,hc_v1.2,hm_v1,hk_v1,eqT h3,h5,h6,h7,eZf h9]
  ·cases b2
   obtain rfl:=(ak gb2).symm
   try dsimp only at h
   cases h
   simp(config:=cS)only[go_sem,hc_v1.1,hc_v1.2,hm_v1,hk_v1,eqF h3]
attribute [go_sem] Tryz.ntmps155 Tryz.results155
theorem mH {v0:List GTie}{v1:GTie→Option Bool}{f_v1:Nat}{k_v1:List AV}(hp_v1:∀ y0 r,v1 y0=some r→ap Tryz.prog f_v1 ([.agg (GTie.enc y0)] ++ k_v1) [] (.lit (.bool r)) [])(hc_v1:KC k_v1)(hm_v1:∀ a,mdT f_v1 a=⟨[],false⟩)(hk_v1:spf f_v1=false){res:Bool}(h:bI v0 v1=some res):ap Tryz.prog 155 [.sl (ab GTie.enc v0),.fn f_v1 k_v1] [] (.lit (.bool res)) []:=by
 refine aj (ra:=[]) (md:=mdT) hT (hi:=hi00) Tryz.func155 rfl rfl (by decide +kernel) (by simp) ?_
 unfold bI at h
 obtain ⟨r1001,g1,h⟩:=ae h
 simp(config:=cS)only[go_sem,hc_v1.1,hc_v1.2,hm_v1,hk_v1]
 refine ag (ow hp_v1 hc_v1 hm_v1 hk_v1 g1) ?_
 cases h
 simp(config:=cS)only[go_sem]
attribute [go_sem] Tryz.ntmps208 Tryz.results208
theorem yu {u t:GTie}{res:Bool}(h:iw u t=some res):ap Tryz.prog 208 [.agg (GTie.enc u),.loc [.lit (.int .i64 t.from_),.lit (.int .i64 t.to),.lit (.int .i64 t.low),.lit (.int .i64 t.high),.lit (.bool t.free)]] [] (.lit (.bool res)) []:=by
 refine aj (ra:=[]) (md:=mdT) hT (hi:=hi00) Tryz.func208 rfl rfl (by decide +kernel) (by simp) ?_
 unfold iw at h
 obtain ⟨h1,h⟩|⟨h1,h⟩:=af h
 ·cases h
  simp(config:=cS)only[go_sem,eZt h1]
 ·cases h
  simp(config:=cS)only[go_sem,eZf h1]
def qw (v6:List GTie)(v7:Int)(s_0:List GNode)(s_2 v8:Int):St:=⟨[(1,.ptr 64 1 0 0),(6,.sl (ab GTie.enc v6)),(7,.lit (.int .i64 v7)),(8,.lit (.int .i64 v8))],[(64,1,.var [.sl (ab GNode.encS s_0),.sl (ab GTie.enc v6),.lit (.int .i64 s_2)])],2⟩
attribute [go_sem] qw
@[go_sem] def hi128_7:DT:=.i2 0 (.i2 1 (.i2 2 (.i2 3 (.i2 4 (.i2 5 (.i2 6 (.i2 7 (.i2 8 (.i2 9 (.i2 10 (.i2 11 (.i2 12 (.i2 13 (.i2 14 (.i2 15 (.i2 16 (.i2 17 (.i2 18 (.i2 19 (.i2 20 (.i2 21 (.i2 22 (.i2 23 (.i2 24 (.i2 25 (.i2 26 (.i2 27 (.i2 28 (.i2 29 (.i2 30 (.i2 31 (.i2 32 (.i2 33 (.i2 34 (.i2 35 .nil)))))))))))))))))))))))))))))))))))
def FK:Hint where
 acts:=fun _=>[]
 draws:=fun
  | 7=>⟨hi128_7,[[],[0],[0,1],[0,1,2],[0,1,2,3],.range 5,.range 6,.range 7,.range 8,.range 9,.range 10,.range 9,[0,1,2,3,4,5,6,7,8,11],.range 13,.range 14,.range 15,.range 16,.range 17,.range 18,.range 19,.range 20,.range 19,[0,1,2,3,4,5,6,7,8,9,10,11,12,13,14,15,16,17,18,21],.range 23,.range 24,.range 25,.range 19,[0,1,2,3,4,5,6,7,8,9,10,11,12,13,14,15,16,17,18,26],.range 19,[0,1,2,3,4,5,6,7,8,9,10,11,12,13,14,15,16,17,18,28],[0,1,2,3,4,5,6,7,8,9,10,11,12,13,14,15,16,17,18,26,27,28,29],[0,1,2,3,4,5,6,7,8,9,10,11,12,13,14,15,16,17,18,26,27,28,29,30],[0,1,2,3,4,5,6,7,8,9,10,11,12,13,14,15,16,17,18,26,27,28,29,30,31],.range 33,.range 34,.range 35],.range 36⟩
  | _=>⟨.nil,[],[]⟩
theorem Qv (i:Nat):FK.acts i=[]:=rfl
theorem Qw (i:Nat):FK.views i=none:=rfl
attribute [go_sem] Qv Qw Tryz.ntmps128 Tryz.results128
@[go_sem] theorem TA:(FK.draws 7).order=hi128_7:=rfl
theorem De {s:GShow}{res:Bool}(h:li s=some res):ap Tryz.prog 128 [.agg (GShow.encS s)] [] (.lit (.bool res)) []:=by
 refine aj (ra:=[]) (md:=mdT) hT (hi:=FK) Tryz.func128 rfl rfl (by decide +kernel) (by simp) ?_
 unfold li at h
 obtain ⟨q1010,l1,h⟩:=ae h
 simp(config:=cS)only[go_sem]
 refine an (m1:=.mk) (m2:=.mk) [.nf [1,6,7,8] [64]] (qw s.ties ((s.ties.length:Nat):Int) s.nodes s.horizon) l1 ?_ ?_
 ·simp(config:=cS)only[go_sem]
 ·intro nb2 v8_1 bb2 b2 gb2
  unfold fv at b2
  try dsimp only at b2
  obtain ⟨h3,b2⟩|⟨h3,b2⟩:=af b2
  ·obtain ⟨x1001,g4,b2⟩:=ae b2
   obtain ⟨h5,h6,h7⟩:=ai g4
   obtain ⟨r1002,g8,b2⟩:=ae b2
   simp(config:=cS)only[go_sem,eqT h3,h5,h6,h7]
   refine ag (wg g8) ?_
   obtain ⟨h9,b2⟩|⟨h9,b2⟩:=af b2
   ·obtain ⟨r1003,g10,b2⟩:=ae b2
    simp(config:=cS)only[go_sem,eqT h3,h5,h6,h7,eZt h9]
    refine ag (wg g10) ?_
    obtain ⟨h11,b2⟩|⟨h11,b2⟩:=af b2
    ·obtain ⟨h12,b2⟩|⟨h12,b2⟩:=af b2
     ·cases b2
      obtain rfl:=(ak gb2).symm
      try dsimp only at h
      cases h
      simp(config:=cS)only[go_sem,eqT h3,h5,h6,h7,eZt h9,eZt h11,eqT h12]
     ·obtain ⟨r1004,g14,b2⟩:=ae b2
      simp(config:=cS)only[go_sem,eqT h3,h5,h6,h7,eZt h9,eZt h11,eqF h12]
      refine ag (wh g14) ?_
      obtain ⟨h15,b2⟩|⟨h15,b2⟩:=af b2
      ·obtain ⟨r1005,g16,b2⟩:=ae b2
       simp(config:=cS)only[go_sem,eqT h3,h5,h6,h7,eZt h9,eZt h11,eqF h12,eZt h15]
       refine ag (wh g16) ?_
       obtain ⟨h17,b2⟩|⟨h17,b2⟩:=af b2
       ·obtain ⟨h18,b2⟩|⟨h18,b2⟩:=af b2
        ·cases b2
         obtain rfl:=(ak gb2).symm
         try dsimp only at h
         cases h
         simp(config:=cS)only[go_sem,eqT h3,h5,h6,h7,eZt h9,eZt h11,eqF h12,eZt h15,eZt h17,eqT h18]
        ·obtain ⟨h20,b2⟩|⟨h20,b2⟩:=af b2
         ·obtain ⟨h21,b2⟩|⟨h21,b2⟩:=af b2
          ·cases b2
           obtain rfl:=(ak gb2).symm
           try dsimp only at h
           cases h
           simp(config:=cS)only[go_sem,eqT h3,h5,h6,h7,eZt h9,eZt h11,eqF h12,eZt h15,eZt h17,eqF h18,eZt h20,eqT h21]
          ·obtain ⟨h23,b2⟩|⟨h23,b2⟩:=af b2
           ·cases b2
            obtain rfl:=(ak gb2).symm
            try dsimp only at h
            cases h
            simp(config:=cS)only[go_sem,eqT h3,h5,h6,h7,eZt h9,eZt h11,eqF h12,eZt h15,eZt h17,eqF h18,eZt h20,eqF h21,eqT h23]
           ·obtain ⟨x1006,g25,b2⟩:=ae b2
            obtain ⟨h26,h27,h28⟩:=ai g25
            obtain ⟨h29,b2⟩|⟨h29,b2⟩:=af b2
            ·obtain ⟨x1007,g30,b2⟩:=ae b2
             obtain ⟨h31,h32,h33⟩:=ai g30
             obtain ⟨r1008,g34,b2⟩:=ae b2
             simp(config:=cS)only[go_sem,eqT h3,h5,h6,h7,eZt h9,eZt h11,eqF h12,eZt h15,eZt h17,eqF h18,eZt h20,eqF h21,eqF h23,h26,h27,h28,eqT h29,h31,h32,h33]
             refine ag (gT g34) ?_
             obtain ⟨h35,b2⟩|⟨h35,b2⟩:=af b2
             ·obtain ⟨h36,b2⟩:=ah b2
              obtain ⟨h37,b2⟩:=ah b2
              obtain ⟨r1009,g38,b2⟩:=ae b2
              simp(config:=cS)only[go_sem,eqT h3,h5,h6,h7,eZt h9,eZt h11,eqF h12,eZt h15,eZt h17,eqF h18,eZt h20,eqF h21,eqF h23,h26,h27,h28,eqT h29,h31,h32,h33,eZt h35,eqT h36,eqT h37]
              refine ag (mH (by exact fun _ _ hr=>yu hr) (by refine ⟨fun _=>?_,fun _=>?_⟩ <;> simp only [go_sem]) (fun _=>rfl) rfl g38) ?_
              obtain ⟨h39,b2⟩|⟨h39,b2⟩:=af b2
              ·cases b2
               obtain rfl:=(ak gb2).symm
               try dsimp only at h
               cases h
               simp(config:=cS)only[go_sem,eqT h3,h5,h6,h7,eZt h9,eZt h11,eqF h12,eZt h15,eZt h17,eqF h18,eZt h20,eqF h21,eqF h23,h26,h27,h28,eqT h29,h31,h32,h33,eZt h35,eqT h36,eqT h37,eZt h39]
              ·cases b2
               simp(config:=cS)only[go_sem,eqT h3,h5,h6,h7,eZt h9,eZt h11,eqF h12,eZt h15,eZt h17,eqF h18,eZt h20,eqF h21,eqF h23,h26,h27,h28,eqT h29,h31,h32,h33,eZt h35,eqT h36,eqT h37,eZf h39]
               refine ao gb2 ?_
               simp(config:=cS)only[go_sem,eqT h3,h5,h6,h7,eZt h9,eZt h11,eqF h12,eZt h15,eZt h17,eqF h18,eZt h20,eqF h21,eqF h23,h26,h27,h28,eqT h29,h31,h32,h33,eZt h35,eqT h36,eqT h37,eZf h39]
             ·cases b2
              obtain rfl:=(ak gb2).symm
              try dsimp only at h
              cases h
              simp(config:=cS)only[go_sem,eqT h3,h5,h6,h7,eZt h9,eZt h11,eqF h12,eZt h15,eZt h17,eqF h18,eZt h20,eqF h21,eqF h23,h26,h27,h28,eqT h29,h31,h32,h33,eZf h35]
            ·cases b2
             obtain rfl:=(ak gb2).symm
             try dsimp only at h
             cases h
             simp(config:=cS)only[go_sem,eqT h3,h5,h6,h7,eZt h9,eZt h11,eqF h12,eZt h15,eZt h17,eqF h18,eZt h20,eqF h21,eqF h23,h26,h27,h28,eqF h29]
         ·cases b2
          simp(config:=cS)only[go_sem,eqT h3,h5,h6,h7,eZt h9,eZt h11,eqF h12,eZt h15,eZt h17,eqF h18,eZf h20]
          refine ao gb2 ?_
          simp(config:=cS)only[go_sem,eqT h3,h5,h6,h7,eZt h9,eZt h11,eqF h12,eZt h15,eZt h17,eqF h18,eZf h20]
       ·cases b2
        obtain rfl:=(ak gb2).symm
        try dsimp only at h
        cases h
        simp(config:=cS)only[go_sem,eqT h3,h5,h6,h7,eZt h9,eZt h11,eqF h12,eZt h15,eZf h17]
      ·cases b2
       obtain rfl:=(ak gb2).symm
       try dsimp only at h
       cases h
       simp(config:=cS)only[go_sem,eqT h3,h5,h6,h7,eZt h9,eZt h11,eqF h12,eZf h15]
    ·cases b2
     obtain rfl:=(ak gb2).symm
     try dsimp only at h
     cases h
     simp(config:=cS)only[go_sem,eqT h3,h5,h6,h7,eZt h9,eZf h11]
   ·cases b2
    obtain rfl:=(ak gb2).symm
    try dsimp only at h
    cases h
    simp(config:=cS)only[go_sem,eqT h3,h5,h6,h7,eZf h9]
  ·cases b2
   obtain rfl:=(ak gb2).symm
   try dsimp only at h
   cases h
   simp(config:=cS)only[go_sem,eqF h3]
def lb (v0:List Int)(f_v1:Nat)(k_v1:List AV)(v7 v8:Int):St:=⟨[(0,.sl (ab eI v0)),(1,.fn f_v1 k_v1),(7,.lit (.int .i64 v7)),(8,.lit (.int .i64 v8))],[],2⟩
attribute [go_sem] lb
attribute [go_sem] Tryz.ntmps209 Tryz.results209
theorem oz {v0:List Int}{v1:Int→Option Bool}{f_v1:Nat}{k_v1:List AV}(hp_v1:∀ y0 r,v1 y0=some r→ap Tryz.prog f_v1 ([.lit (.int .i64 y0)] ++ k_v1) [] (.lit (.bool r)) [])(hc_v1:KC k_v1)(hm_v1:∀ a,mdT f_v1 a=⟨[],false⟩)(hk_v1:spf f_v1=false){res:Int}(h:cG v0 v1=some res):ap Tryz.prog 209 [.sl (ab eI v0),.fn f_v1 k_v1] [] (.lit (.int .i64 res)) []:=by
 refine aj (ra:=[]) (md:=mdT) hT (hi:=hi00) Tryz.func209 rfl rfl (by decide +kernel) (by simp) ?_
 unfold cG at h
 obtain ⟨q1003,l1,h⟩:=ae h
 simp(config:=cS)only[go_sem,hc_v1.1,hc_v1.2,hm_v1,hk_v1]
 refine an (m1:=.mk) (m2:=.mk) [.nf [0,1,7,8] []] (lb v0 f_v1 k_v1 ((v0.length:Nat):Int)) l1 ?_ ?_
 ·simp(config:=cS)only[go_sem,hc_v1.1,hc_v1.2,hm_v1,hk_v1]
 ·intro nb2 v8_1 bb2 b2 gb2
  unfold ca at b2
  try dsimp only at b2
  obtain ⟨h3,b2⟩|⟨h3,b2⟩:=af b2
  ·obtain ⟨x1001,g4,b2⟩:=ae b2
   obtain ⟨h5,h6,h7⟩:=ai g4
   obtain ⟨r1002,g8,b2⟩:=ae b2
   simp(config:=cS)only[go_sem,hc_v1.1,hc_v1.2,hm_v1,hk_v1,eqT h3,h5,h6,h7]
   refine ag (hp_v1 _ _ g8) ?_
   obtain ⟨h9,b2⟩|⟨h9,b2⟩:=af b2
   ·cases b2
    obtain rfl:=(ak gb2).symm
    try dsimp only at h
    cases h
    simp(config:=cS)only[go_sem,hc_v1.1,hc_v1.2,hm_v1,hk_v1,eqT h3,h5,h6,h7,eZt h9]
   ·cases b2
    simp(config:=cS)only[go_sem,hc_v1.1,hc_v1.2,hm_v1,hk_v1,eqT h3,h5,h6,h7,eZf h9]
    refine ao gb2 ?_
    simp(config:=cS)only[go_sem,hc_v1.1,hc_v1.2,hm_v1,hk_v1,eqT h3,h5,h6,h7,eZf h9]
  ·cases b2
   obtain rfl:=(ak gb2).symm
   try dsimp only at h
   cases h
   simp(config:=cS)only[go_sem,hc_v1.1,hc_v1.2,hm_v1,hk_v1,eqF h3]
attribute [go_sem] Tryz.ntmps129 Tryz.results129
theorem eV {v0:List Int}{v1:Int→Option Bool}{f_v1:Nat}{k_v1:List AV}(hp_v1:∀ y0 r,v1 y0=some r→ap Tryz.prog f_v1 ([.lit (.int .i64 y0)] ++ k_v1) [] (.lit (.bool r)) [])(hc_v1:KC k_v1)(hm_v1:∀ a,mdT f_v1 a=⟨[],false⟩)(hk_v1:spf f_v1=false){res:Bool}(h:bf v0 v1=some res):ap Tryz.prog 129 [.sl (ab eI v0),.fn f_v1 k_v1] [] (.lit (.bool res)) []:=by
 refine aj (ra:=[]) (md:=mdT) hT (hi:=hi00) Tryz.func129 rfl rfl (by decide +kernel) (by simp) ?_
 unfold bf at h
 obtain ⟨r1001,g1,h⟩:=ae h
 simp(config:=cS)only[go_sem,hc_v1.1,hc_v1.2,hm_v1,hk_v1]
 refine ag (oz hp_v1 hc_v1 hm_v1 hk_v1 g1) ?_
 cases h
 simp(config:=cS)only[go_sem]
def kI (v0:List GNode)(f_v1:Nat)(k_v1:List AV)(v7 v8:Int):St:=⟨[(0,.sl (ab GNode.encS v0)),(1,.fn f_v1 k_v1),(7,.lit (.int .i64 v7)),(8,.lit (.int .i64 v8))],[],2⟩
attribute [go_sem] kI
attribute [go_sem] Tryz.ntmps215 Tryz.results215
theorem tP {v0:List GNode}{v1:GNode→Option Bool}{f_v1:Nat}{k_v1:List AV}(hp_v1:∀ y0 r,v1 y0=some r→ap Tryz.prog f_v1 ([.agg (GNode.encS y0)] ++ k_v1) [] (.lit (.bool r)) [])(hc_v1:KC k_v1)(hm_v1:∀ a,mdT f_v1 a=⟨[],false⟩)(hk_v1:spf f_v1=false){res:Int}(h:dw v0 v1=some res):ap Tryz.prog 215 [.sl (ab GNode.encS v0),.fn f_v1 k_v1] [] (.lit (.int .i64 res)) []:=by
 refine aj (ra:=[]) (md:=mdT) hT (hi:=hi00) Tryz.func215 rfl rfl (by decide +kernel) (by simp) ?_
 unfold dw at h
 obtain ⟨q1003,l1,h⟩:=ae h
 simp(config:=cS)only[go_sem,hc_v1.1,hc_v1.2,hm_v1,hk_v1]
 refine an (m1:=.mk) (m2:=.mk) [.nf [0,1,7,8] []] (kI v0 f_v1 k_v1 ((v0.length:Nat):Int)) l1 ?_ ?_
 ·simp(config:=cS)only[go_sem,hc_v1.1,hc_v1.2,hm_v1,hk_v1]
 ·intro nb2 v8_1 bb2 b2 gb2
  unfold bR at b2
  try dsimp only at b2
  obtain ⟨h3,b2⟩|⟨h3,b2⟩:=af b2
  ·obtain ⟨x1001,g4,b2⟩:=ae b2
   obtain ⟨h5,h6,h7⟩:=ai g4
   obtain ⟨r1002,g8,b2⟩:=ae b2
   simp(config:=cS)only[go_sem,hc_v1.1,hc_v1.2,hm_v1,hk_v1,eqT h3,h5,h6,h7]
   refine ag (hp_v1 _ _ g8) ?_
   obtain ⟨h9,b2⟩|⟨h9,b2⟩:=af b2
   ·cases b2
    obtain rfl:=(ak gb2).symm
    try dsimp only at h
    cases h
    simp(config:=cS)only[go_sem,hc_v1.1,hc_v1.2,hm_v1,hk_v1,eqT h3,h5,h6,h7,eZt h9]
   ·cases b2
    simp(config:=cS)only[go_sem,hc_v1.1,hc_v1.2,hm_v1,hk_v1,eqT h3,h5,h6,h7,eZf h9]
    refine ao gb2 ?_
    simp(config:=cS)only[go_sem,hc_v1.1,hc_v1.2,hm_v1,hk_v1,eqT h3,h5,h6,h7,eZf h9]
  ·cases b2
   obtain rfl:=(ak gb2).symm
   try dsimp only at h
   cases h
   simp(config:=cS)only[go_sem,hc_v1.1,hc_v1.2,hm_v1,hk_v1,eqF h3]
attribute [go_sem] Tryz.ntmps216 Tryz.results216
theorem yw {n:GNode}{p:Int}{res:Bool}(h:kO n p=some res):ap Tryz.prog 216 [.agg (GNode.encS n),.loc [.lit (.int .i64 p)]] [] (.lit (.bool res)) []:=by
 refine aj (ra:=[]) (md:=mdT) hT (hi:=hi00) Tryz.func216 rfl rfl (by decide +kernel) (by simp) ?_
 unfold kO at h
 obtain ⟨h1,h⟩|⟨h1,h⟩:=af h
 ·cases h
  simp(config:=cS)only[go_sem,eqT h1]
 ·cases h
  simp(config:=cS)only[go_sem,eqF h1]
attribute [go_sem] Tryz.ntmps141 Tryz.results141
theorem nE {s:GShow}{p res:Int}(h:eh s p=some res):ap Tryz.prog 141 [.agg (GShow.encS s),.lit (.int .i64 p)] [] (.lit (.int .i64 res)) []:=by
 refine aj (ra:=[]) (md:=mdT) hT (hi:=hi00) Tryz.func141 rfl rfl (by decide +kernel) (by simp) ?_
 unfold eh at h
 obtain ⟨r1001,g1,h⟩:=ae h
 simp(config:=cS)only[go_sem]
 refine ag (tP (by exact fun _ _ hr=>yw hr) (by refine ⟨fun _=>?_,fun _=>?_⟩ <;> simp only [go_sem]) (fun _=>rfl) rfl g1) ?_
 cases h
 simp(config:=cS)only[go_sem]
def na (v0:List Int)(v1 v7 v8:Int):St:=⟨[(0,.sl (ab eI v0)),(1,.lit (.int .i64 v1)),(7,.lit (.int .i64 v7)),(8,.lit (.int .i64 v8))],[],2⟩
attribute [go_sem] na
attribute [go_sem] Tryz.ntmps145 Tryz.results145
theorem sd {v0:List Int}{v1 res:Int}(h:ei v0 v1=some res):ap Tryz.prog 145 [.sl (ab eI v0),.lit (.int .i64 v1)] [] (.lit (.int .i64 res)) []:=by
 refine aj (ra:=[]) (md:=mdT) hT (hi:=hi00) Tryz.func145 rfl rfl (by decide +kernel) (by simp) ?_
 unfold ei at h
 obtain ⟨q1002,l1,h⟩:=ae h
 simp(config:=cS)only[go_sem]
 refine an (m1:=.mk) (m2:=.mk) [.nf [0,1,7,8] []] (na v0 v1 ((v0.length:Nat):Int)) l1 ?_ ?_
 ·simp(config:=cS)only[go_sem]
 ·intro nb2 v8_1 bb2 b2 gb2
  unfold cO at b2
  try dsimp only at b2
  obtain ⟨h3,b2⟩|⟨h3,b2⟩:=af b2
  ·obtain ⟨x1001,g4,b2⟩:=ae b2
   obtain ⟨h5,h6,h7⟩:=ai g4
   obtain ⟨h8,b2⟩|⟨h8,b2⟩:=af b2
   ·cases b2
    obtain rfl:=(ak gb2).symm
    try dsimp only at h
    cases h
    simp(config:=cS)only[go_sem,eqT h3,h5,h6,h7,eqT h8]
   ·cases b2
    simp(config:=cS)only[go_sem,eqT h3,h5,h6,h7,eqF h8]
    refine ao gb2 ?_
    simp(config:=cS)only[go_sem]
  ·cases b2
   obtain rfl:=(ak gb2).symm
   try dsimp only at h
   cases h
   simp(config:=cS)only[go_sem,eqF h3]
attribute [go_sem] Tryz.ntmps90 Tryz.results90
theorem lc {v0:List Int}{v1:Int}{res:Bool}(h:cj v0 v1=some res):ap Tryz.prog 90 [.sl (ab eI v0),.lit (.int .i64 v1)] [] (.lit (.bool res)) []:=by
 refine aj (ra:=[]) (md:=mdT) hT (hi:=hi00) Tryz.func90 rfl rfl (by decide +kernel) (by simp) ?_
 unfold cj at h
 obtain ⟨r1001,g1,h⟩:=ae h
 simp(config:=cS)only[go_sem]
 refine ag (sd g1) ?_
 cases h
 simp(config:=cS)only[go_sem]
attribute [go_sem] Tryz.ntmps240 Tryz.results240
theorem uD {v0:Int}{a:List Int}{res:Bool}(h:gL v0 a=some res):ap Tryz.prog 240 [.lit (.int .i64 v0),.loc [.sl (ab eI a)]] [] (.lit (.bool res)) []:=by
 refine aj (ra:=[]) (md:=mdT) hT (hi:=hi00) Tryz.func240 rfl rfl (by decide +kernel) (by simp) ?_
 unfold gL at h
 obtain ⟨r1001,g1,h⟩:=ae h
 simp(config:=cS)only[go_sem]
 refine ag (lc g1) ?_
 cases h
 simp(config:=cS)only[go_sem]
attribute [go_sem] Tryz.ntmps211 Tryz.results211
theorem wB {a b:List Int}{res:Bool}(h:fS a b=some res):ap Tryz.prog 211 [.sl (ab eI a),.sl (ab eI b)] [] (.lit (.bool res)) []:=by
 refine aj (ra:=[]) (md:=mdT) hT (hi:=hi00) Tryz.func211 rfl rfl (by decide +kernel) (by simp) ?_
 unfold fS at h
 obtain ⟨r1001,g1,h⟩:=ae h
 simp(config:=cS)only[go_sem]
 refine ag (kZ g1) ?_
 obtain ⟨h2,h⟩|⟨h2,h⟩:=af h
 ·obtain ⟨r1002,g3,h⟩:=ae h
  simp(config:=cS)only[go_sem,eZt h2]
  refine ag (kZ g3) ?_
  obtain ⟨h4,h⟩|⟨h4,h⟩:=af h
  ·obtain ⟨r1003,g5,h⟩:=ae h
   simp(config:=cS)only[go_sem,eZt h2,eZt h4]
   refine ag (eV (by exact fun _ _ hr=>uD hr) (by refine ⟨fun _=>?_,fun _=>?_⟩ <;> simp only [go_sem]) (fun _=>rfl) rfl g5) ?_
   cases h
   simp(config:=cS)only[go_sem,eZt h2,eZt h4]
  ·cases h
   simp(config:=cS)only[go_sem,eZt h2,eZf h4]
 ·cases h
  simp(config:=cS)only[go_sem,eZf h2]
@[go_sem] def hi131_1:DT:=.i1 0 (.i2 1 (.i0 2 [0] (.i2 3 (.i2 4 .nil))))
def FL:Hint where
 acts:=fun _=>[]
 draws:=fun
  | 1=>⟨hi131_1,[[],[],[1],[0,1,2],[0,1,2,3]],.range 5⟩
  | _=>⟨.nil,[],[]⟩
theorem Qy (i:Nat):FL.acts i=[]:=rfl
theorem Qz (i:Nat):FL.views i=none:=rfl
attribute [go_sem] Qy Qz Tryz.ntmps131 Tryz.results131
@[go_sem] theorem TB:(FL.draws 1).order=hi131_1:=rfl
theorem zP {s:GShow}{label:List Int}{v2:Int}{res:Bool}(h:jk s label v2=some res):ap Tryz.prog 131 [.agg (GShow.encS s),.sl (ab eI label),.lit (.int .i64 v2)] [] (.lit (.bool res)) []:=by
 refine aj (ra:=[]) (md:=mdT) hT (hi:=FL) Tryz.func131 rfl rfl (by decide +kernel) (by simp) ?_
 unfold jk at h
 obtain ⟨r1001,g1,h⟩:=ae h
 simp(config:=cS)only[go_sem]
 refine ag (jN g1) ?_
 obtain ⟨r1002,g2,h⟩:=ae h
 simp(config:=cS)only[go_sem]
 refine ag (nE g2) ?_
 obtain ⟨h3,h⟩|⟨h3,h⟩:=af h
 ·cases h
  simp(config:=cS)only[go_sem,eqT h3]
 ·obtain ⟨x1003,g4,h⟩:=ae h
  obtain ⟨h5,h6,h7⟩:=ai g4
  obtain ⟨r1004,g8,h⟩:=ae h
  simp(config:=cS)only[go_sem,eqF h3,h5,h6,h7]
  refine ag (lc g8) ?_
  obtain ⟨h9,h⟩|⟨h9,h⟩:=af h
  ·cases h
   simp(config:=cS)only[go_sem,eqF h3,h5,h6,h7,eZt h9]
  ·obtain ⟨r1005,g10,h⟩:=ae h
   simp(config:=cS)only[go_sem,eqF h3,h5,h6,h7,eZf h9]
   refine ag (lc g10) ?_
   obtain ⟨h11,h⟩|⟨h11,h⟩:=af h
   ·cases h
    simp(config:=cS)only[go_sem,eqF h3,h5,h6,h7,eZf h9,eZt h11]
   ·obtain ⟨r1006,g12,h⟩:=ae h
    simp(config:=cS)only[go_sem,eqF h3,h5,h6,h7,eZf h9,eZf h11]
    refine ag (wB g12) ?_
    cases h
    simp(config:=cS)only[go_sem,eqF h3,h5,h6,h7,eZf h9,eZf h11]
attribute [go_sem] Tryz.ntmps130 Tryz.results130
theorem zQ {v0:Int}{s:GShow}{n:GNode}{res:Bool}(h:jl v0 s n=some res):ap Tryz.prog 130 [.lit (.int .i64 v0),.loc [.sl (ab GNode.encS s.nodes),.sl (ab GTie.enc s.ties),.lit (.int .i64 s.horizon)],.loc [.lit (.string n.name),.sl (ab eI n.label),.lit (.int .i64 n.watch)]] [] (.lit (.bool res)) []:=by
 refine aj (ra:=[]) (md:=mdT) hT (hi:=hi00) Tryz.func130 rfl rfl (by decide +kernel) (by simp) ?_
 unfold jl at h
 obtain ⟨r1001,g1,h⟩:=ae h
 simp(config:=cS)only[go_sem]
 refine ag (zP g1) ?_
 cases h
 simp(config:=cS)only[go_sem]
def rg (v24:List GNode)(v25:Int)(s_1:List GTie)(s_2 v26:Int):St:=⟨[(1,.ptr 64 1 0 0),(24,.sl (ab GNode.encS v24)),(25,.lit (.int .i64 v25)),(26,.lit (.int .i64 v26))],[(64,1,.var [.sl (ab GNode.encS v24),.sl (ab GTie.enc s_1),.lit (.int .i64 s_2)])],2⟩
attribute [go_sem] rg
attribute [go_sem] Tryz.ntmps56 Tryz.results56
theorem oQ {s:GShow}{res:Bool}(h:fP s=some res):ap Tryz.prog 56 [.agg (GShow.encS s)] [] (.lit (.bool res)) []:=by
 refine aj (ra:=[]) (md:=mdT) hT (hi:=hi00) Tryz.func56 rfl rfl (by decide +kernel) (by simp) ?_
 unfold fP at h
 obtain ⟨r1001,g1,h⟩:=ae h
 simp(config:=cS)only[go_sem]
 refine ag (BJ g1) ?_
 obtain ⟨h2,h⟩|⟨h2,h⟩:=af h
 ·obtain ⟨r1002,g3,h⟩:=ae h
  simp(config:=cS)only[go_sem,eZt h2]
  refine ag (De g3) ?_
  obtain ⟨h4,h⟩|⟨h4,h⟩:=af h
  ·obtain ⟨h5,h⟩|⟨h5,h⟩:=af h
   ·cases h
    simp(config:=cS)only[go_sem,eZt h2,eZt h4,eqT h5]
   ·obtain ⟨h6,h⟩|⟨h6,h⟩:=af h
    ·cases h
     simp(config:=cS)only[go_sem,eZt h2,eZt h4,eqF h5,eqT h6]
    ·obtain ⟨q1005,l7,h⟩:=ae h
     simp(config:=cS)only[go_sem,eZt h2,eZt h4,eqF h5,eqF h6]
     refine an (m1:=.mk) (m2:=.mk) [.nf [1,24,25,26] [64]] (rg s.nodes ((s.nodes.length:Nat):Int) s.ties s.horizon) l7 ?_ ?_
     ·simp(config:=cS)only[go_sem,eZt h2,eZt h4,eqF h5,eqF h6]
     ·intro nb8 v26_1 bb8 b8 gb8
      unfold gv at b8
      try dsimp only at b8
      obtain ⟨h9,b8⟩|⟨h9,b8⟩:=af b8
      ·obtain ⟨x1003,g10,b8⟩:=ae b8
       obtain ⟨h11,h12,h13⟩:=ai g10
       obtain ⟨r1004,g14,b8⟩:=ae b8
       simp(config:=cS)only[go_sem,eZt h2,eZt h4,eqF h5,eqF h6,eqT h9,h11,h12,h13]
       refine ag (eV (by exact fun _ _ hr=>zQ hr) (by refine ⟨fun _=>?_,fun _=>?_⟩ <;> simp only [go_sem]) (fun _=>rfl) rfl g14) ?_
       obtain ⟨h15,b8⟩|⟨h15,b8⟩:=af b8
       ·cases b8
        obtain rfl:=(ak gb8).symm
        try dsimp only at h
        cases h
        simp(config:=cS)only[go_sem,eZt h2,eZt h4,eqF h5,eqF h6,eqT h9,h11,h12,h13,eZt h15]
       ·cases b8
        simp(config:=cS)only[go_sem,eZt h2,eZt h4,eqF h5,eqF h6,eqT h9,h11,h12,h13,eZf h15]
        refine ao gb8 ?_
        simp(config:=cS)only[go_sem,eZt h2,eZt h4,eqF h5,eqF h6,eqT h9,h11,h12,h13,eZf h15]
      ·cases b8
       obtain rfl:=(ak gb8).symm
       try dsimp only at h
       cases h
       simp(config:=cS)only[go_sem,eZt h2,eZt h4,eqF h5,eqF h6,eqF h9]
  ·cases h
   simp(config:=cS)only[go_sem,eZt h2,eZf h4]
 ·cases h
  simp(config:=cS)only[go_sem,eZf h2]
attribute [go_sem] Tryz.ntmps248 Tryz.results248
theorem xi {n:Int}{res:Bool}(h:ka n=some res):ap Tryz.prog 248 [.lit (.int .i64 n)] [] (.lit (.bool res)) []:=by
 refine aj (ra:=[]) (md:=mdT) hT (hi:=hi00) Tryz.func248 rfl rfl (by decide +kernel) (by simp) ?_
 unfold ka at h
 obtain ⟨h1,h⟩|⟨h1,h⟩:=af h
 ·cases h
  simp(config:=cS)only[go_sem,eqT h1]
 ·cases h
  simp(config:=cS)only[go_sem,eqF h1]
attribute [go_sem] Tryz.ntmps217 Tryz.results217
theorem uj {v:List Int}{res:Bool}(h:ik v=some res):ap Tryz.prog 217 [.sl (ab eI v)] [] (.lit (.bool res)) []:=by
 refine aj (ra:=[]) (md:=mdT) hT (hi:=hi00) Tryz.func217 rfl rfl (by decide +kernel) (by simp) ?_
 unfold ik at h
 obtain ⟨h1,h⟩|⟨h1,h⟩:=af h
 ·obtain ⟨r1001,g2,h⟩:=ae h
  simp(config:=cS)only[go_sem,eqT h1]
  refine ag (eV (by exact fun _ _ hr=>xi hr) (by refine ⟨fun _=>?_,fun _=>?_⟩ <;> simp only [go_sem]) (fun _=>rfl) rfl g2) ?_
  cases h
  simp(config:=cS)only[go_sem]
 ·cases h
  simp(config:=cS)only[go_sem,eqF h1]
def qx (v37:List Int)(v38:Int)(s_0:List GNode)(s_1:List GTie)(s_2 v3_0:Int)(v3_2:List Int)(v39:Int):St:=⟨[(2,.ptr 128 1 0 0),(3,.ptr 192 1 0 0),(37,.sl (ab eI v37)),(38,.lit (.int .i64 v38)),(39,.lit (.int .i64 v39))],[(128,1,.var [.sl (ab GNode.encS s_0),.sl (ab GTie.enc s_1),.lit (.int .i64 s_2)]),(192,1,.var [.lit (.int .i64 v3_0),.sl (ab eI v37),.sl (ab eI v3_2)])],2⟩
attribute [go_sem] qx
def qy (v67:List Int)(v68:Int)(s_0:List GNode)(s_1:List GTie)(s_2 v3_0:Int)(v3_1:List Int)(v69:Int):St:=⟨[(2,.ptr 128 1 0 0),(3,.ptr 192 1 0 0),(67,.sl (ab eI v67)),(68,.lit (.int .i64 v68)),(69,.lit (.int .i64 v69))],[(128,1,.var [.sl (ab GNode.encS s_0),.sl (ab GTie.enc s_1),.lit (.int .i64 s_2)]),(192,1,.var [.lit (.int .i64 v3_0),.sl (ab eI v3_1),.sl (ab eI v67)])],2⟩
attribute [go_sem] qy
attribute [go_sem] Tryz.ntmps146 Tryz.results146
theorem Df {s:GShow}{v1:GState}{res:Bool}(h:ll s v1=some res):ap Tryz.prog 146 [.agg (GShow.encS s),.agg (GState.encS v1)] [] (.lit (.bool res)) []:=by
 refine aj (ra:=[]) (md:=mdT) hT (hi:=hi00) Tryz.func146 rfl rfl (by decide +kernel) (by simp) ?_
 unfold ll at h
 obtain ⟨h1,h⟩|⟨h1,h⟩:=af h
 ·cases h
  simp(config:=cS)only[go_sem,eqT h1]
 ·obtain ⟨h2,h⟩|⟨h2,h⟩:=af h
  ·cases h
   simp(config:=cS)only[go_sem,eqF h1,eqT h2]
  ·obtain ⟨h3,h⟩|⟨h3,h⟩:=af h
   ·obtain ⟨r1001,g4,h⟩:=ae h
    simp(config:=cS)only[go_sem,eqF h1,eqF h2,eqT h3]
    refine ag (uj g4) ?_
    obtain ⟨h5,h⟩|⟨h5,h⟩:=af h
    ·obtain ⟨q1007,l6,h⟩:=ae h
     simp(config:=cS)only[go_sem,eZt h5]
     refine an (m1:=.mk) (m2:=.mk) [.nf [2,3,37,38,39] [128,192]] (qx v1.times ((v1.times.length:Nat):Int) s.nodes s.ties s.horizon v1.now v1.values) l6 ?_ ?_
     ·simp(config:=cS)only[go_sem]
     ·intro nb7 v39_1 bb7 b7 gb7
      unfold fB at b7
      try dsimp only at b7
      obtain ⟨h8,b7⟩|⟨h8,b7⟩:=af b7
      ·obtain ⟨x1002,g9,b7⟩:=ae b7
       obtain ⟨h10,h11,h12⟩:=ai g9
       obtain ⟨h13,b7⟩|⟨h13,b7⟩:=af b7
       ·obtain ⟨h14,b7⟩|⟨h14,b7⟩:=af b7
        ·obtain ⟨h15,b7⟩|⟨h15,b7⟩:=af b7
         ·obtain ⟨h16,b7⟩|⟨h16,b7⟩:=af b7
          ·cases b7
           obtain rfl:=(ak gb7).symm
           try dsimp only at h
           cases h
           simp(config:=cS)only[go_sem,eqT h8,h10,h11,h12,eqT h13,eqT h14,eqT h15,eqT h16]
          ·obtain ⟨h18,b7⟩|⟨h18,b7⟩:=af b7
           ·cases b7
            obtain rfl:=(ak gb7).symm
            try dsimp only at h
            cases h
            simp(config:=cS)only[go_sem,eqT h8,h10,h11,h12,eqT h13,eqT h14,eqT h15,eqF h16,eqT h18]
           ·cases b7
            simp(config:=cS)only[go_sem,eqT h8,h10,h11,h12,eqT h13,eqT h14,eqT h15,eqF h16,eqF h18]
            refine ao gb7 ?_
            simp(config:=cS)only[go_sem]
         ·cases b7
          simp(config:=cS)only[go_sem,eqT h8,h10,h11,h12,eqT h13,eqT h14,eqF h15]
          refine ao gb7 ?_
          simp(config:=cS)only[go_sem]
        ·cases b7
         obtain rfl:=(ak gb7).symm
         try dsimp only at h
         cases h
         simp(config:=cS)only[go_sem,eqT h8,h10,h11,h12,eqT h13,eqF h14]
       ·obtain ⟨h21,b7⟩|⟨h21,b7⟩:=af b7
        ·obtain ⟨h22,b7⟩|⟨h22,b7⟩:=af b7
         ·cases b7
          obtain rfl:=(ak gb7).symm
          try dsimp only at h
          cases h
          simp(config:=cS)only[go_sem,eqT h8,h10,h11,h12,eqF h13,eqT h21,eqT h22]
         ·obtain ⟨h24,b7⟩|⟨h24,b7⟩:=af b7
          ·cases b7
           obtain rfl:=(ak gb7).symm
           try dsimp only at h
           cases h
           simp(config:=cS)only[go_sem,eqT h8,h10,h11,h12,eqF h13,eqT h21,eqF h22,eqT h24]
          ·cases b7
           simp(config:=cS)only[go_sem,eqT h8,h10,h11,h12,eqF h13,eqT h21,eqF h22,eqF h24]
           refine ao gb7 ?_
           simp(config:=cS)only[go_sem]
        ·cases b7
         simp(config:=cS)only[go_sem,eqT h8,h10,h11,h12,eqF h13,eqF h21]
         refine ao gb7 ?_
         simp(config:=cS)only[go_sem]
      ·cases b7
       obtain rfl:=(ak gb7).symm
       try dsimp only at h
       obtain ⟨q1006,l27,h⟩:=ae h
       simp(config:=cS)only[go_sem,eqF h8]
       refine an (m1:=.mk) (m2:=.mk) [.nf [2,3,67,68,69] [128,192]] (qy v1.values ((v1.values.length:Nat):Int) s.nodes s.ties s.horizon v1.now v1.times) l27 ?_ ?_
       ·simp(config:=cS)only[go_sem]
       ·intro nb28 v69_2 bb28 b28 gb28
        unfold fC at b28
        try dsimp only at b28
        obtain ⟨h29,b28⟩|⟨h29,b28⟩:=af b28
        ·obtain ⟨x1003,g30,b28⟩:=ae b28
         obtain ⟨h31,h32,h33⟩:=ai g30
         obtain ⟨r1004,g34,b28⟩:=ae b28
         simp(config:=cS)only[go_sem,eqT h29,h31,h32,h33]
         refine ag (nE g34) ?_
         obtain ⟨h35,b28⟩|⟨h35,b28⟩:=af b28
         ·obtain ⟨x1005,g36,b28⟩:=ae b28
          obtain ⟨h37,h38,h39⟩:=ai g36
          obtain ⟨h40,b28⟩|⟨h40,b28⟩:=af b28
          ·cases b28
           simp(config:=cS)only[go_sem,eqT h35,h37,h38,h39,eqT h40]
           refine ao gb28 ?_
           simp(config:=cS)only[go_sem]
          ·cases b28
           obtain rfl:=(ak gb28).symm
           try dsimp only at h
           cases h
           simp(config:=cS)only[go_sem,eqT h35,h37,h38,h39,eqF h40]
         ·obtain ⟨h42,b28⟩|⟨h42,b28⟩:=af b28
          ·cases b28
           simp(config:=cS)only[go_sem,eqF h35,eqT h42]
           refine ao gb28 ?_
           simp(config:=cS)only[go_sem]
          ·cases b28
           obtain rfl:=(ak gb28).symm
           try dsimp only at h
           cases h
           simp(config:=cS)only[go_sem,eqF h35,eqF h42]
        ·cases b28
         obtain rfl:=(ak gb28).symm
         try dsimp only at h
         cases h
         simp(config:=cS)only[go_sem,eqF h29]
    ·cases h
     simp(config:=cS)only[go_sem,eZf h5]
   ·cases h
    simp(config:=cS)only[go_sem,eqF h1,eqF h2,eqF h3]
attribute [go_sem] Tryz.ntmps64 Tryz.results64
theorem rz {s:GShow}{v1:GState}{res:Bool}(h:gz s v1=some res):ap Tryz.prog 64 [.agg (GShow.encS s),.agg (GState.encS v1)] [] (.lit (.bool res)) []:=by
 refine aj (ra:=[]) (md:=mdT) hT (hi:=hi00) Tryz.func64 rfl rfl (by decide +kernel) (by simp) ?_
 unfold gz at h
 obtain ⟨r1001,g1,h⟩:=ae h
 simp(config:=cS)only[go_sem]
 refine ag (oQ g1) ?_
 obtain ⟨h2,h⟩|⟨h2,h⟩:=af h
 ·obtain ⟨r1002,g3,h⟩:=ae h
  simp(config:=cS)only[go_sem,eZt h2]
  refine ag (Df g3) ?_
  cases h
  simp(config:=cS)only[go_sem,eZt h2]
 ·cases h
  simp(config:=cS)only[go_sem,eZf h2]
attribute [go_sem] Tryz.ntmps242 Tryz.results242
theorem GA {v0 y:Int}{res:Int × Int}(h:tz v0 y=some res):ap Tryz.prog 242 [.lit (.int .u64 v0),.lit (.int .u64 y)] [] (.tup [.lit (.int .u64 res.1),.lit (.int .u64 res.2)]) []:=by
 refine aj (ra:=[]) (md:=mdT) hT (hi:=hi00) Tryz.func242 rfl rfl (by decide +kernel) (by simp) ?_
 unfold tz at h
 cases h
 simp(config:=cS)only[go_sem]
attribute [go_sem] Tryz.ntmps212 Tryz.results212
theorem JP {v0 y:Int}{res:Int × Int}(h:gM v0 y=some res):ap Tryz.prog 212 [.lit (.int .u64 v0),.lit (.int .u64 y)] [] (.tup [.lit (.int .u64 res.1),.lit (.int .u64 res.2)]) []:=by
 refine aj (ra:=[]) (md:=mdT) hT (hi:=hi00) Tryz.func212 rfl rfl (by decide +kernel) (by simp) ?_
 unfold gM at h
 obtain ⟨r1001,g1,h⟩:=ae h
 simp(config:=cS)only[go_sem]
 refine ag (GA g1) ?_
 cases h
 simp(config:=cS)only[go_sem]
def mI  : (Int × (List Int))→St
 | (v8,v7)=>⟨[(7,.ref 1920 1 0 v7.length),(8,.lit (.int .i64 v8))],[(1920,1,.row true (ab eI v7))],2⟩
attribute [go_sem] mI
@[go_sem] def hi133_9:DT:=.i2 0 (.i2 1 (.i2 2 (.i2 3 (.i2 4 (.i2 5 (.i2 6 (.i2 7 (.i2 8 (.i2 9 .nil)))))))))
def FM:Hint where
 acts:=fun _=>[]
 draws:=fun
  | 9=>⟨hi133_9,[[],[],[],[1,2],[],[],[4,5],[1,2,3,4,5,6],.range 8,.range 9],.range 10⟩
  | _=>⟨.nil,[],[]⟩
theorem QA (i:Nat):FM.acts i=[]:=rfl
theorem QB (i:Nat):FM.views i=none:=rfl
attribute [go_sem] QA QB Tryz.ntmps133 Tryz.results133
@[go_sem] theorem TC:(FM.draws 9).order=hi133_9:=rfl
theorem bn {v0:List Int}{v1:Int}{res:List Int}(h:aI v0 v1=some res):ap Tryz.prog 133 [.sl (ab eI v0),.lit (.int .i64 v1)] [] (.ref 20000 1 0 res.length) [(20000,1,.row true (ab eI res))]:=by
 refine aj (ra:=[.home 4]) (md:=mdT) hT (hi:=FM) Tryz.func133 rfl rfl (by decide +kernel) (by simp) ?_
 unfold aI at h
 obtain ⟨h1,h⟩|⟨h1,h⟩:=af h
 ·cases h
 ·obtain ⟨r1001,g2,h⟩:=ae h
  simp(config:=cS)only[go_sem,eqF h1]
  refine ag (JP g2) ?_
  obtain ⟨h3,h⟩|⟨h3,h⟩:=af h
  ·cases h
  ·obtain ⟨h4,h⟩|⟨h4,h⟩:=af h
   ·cases h
   ·obtain ⟨h5,h⟩:=ah h
    obtain ⟨h6,h⟩:=ah h
    obtain ⟨h7,h⟩:=ah h
    obtain ⟨q1002,l8,h⟩:=ae h
    simp(config:=cS)only[go_sem,eqF h3,eqF h4,eqT h5,eqT h6,eqT h7]
    refine an (m1:=.mk) (m2:=.mk) [.nf [7,8] [1920]] (mI) l8 ?_ ?_
    ·simp(config:=cS)only[go_sem]
    ·intro nb9 sb9 bb9 b9 gb9
     obtain ⟨v8_1,v7_1⟩:=sb9
     unfold au at b9
     try dsimp only at b9
     obtain ⟨h10,b9⟩|⟨h10,b9⟩:=af b9
     ·obtain ⟨h11,b9⟩:=ah b9
      obtain ⟨h12,b9⟩:=ah b9
      obtain ⟨h13,b9⟩:=ah b9
      cases b9
      simp(config:=cS)only[go_sem,eqT h10,eqT h11,eqT h12,eqT h13]
      refine ao gb9 ?_
      simp(config:=cS)only[go_sem]
     ·cases b9
      obtain rfl:=(ak gb9).symm
      try dsimp only at h
      cases h
      simp(config:=cS)only[go_sem,eqF h10]
@[go_sem] def hi58_3:DT:=.i1 1 (.i1 2 (.i1 3 (.fork (.i0 0 [1,2,3] (.fork (.i2 4 (.fork (.i0 5 [1,2,3] (.i2 6 (.i0 7 [1,2,3] (.i2 8 .nil)))) (.i0 7 [1,2,3] (.i0 5 [1,2,3] (.i2 6 (.i2 8 .nil)))))) (.fork (.i0 5 [1,2,3] (.fork (.i2 4 (.i2 6 (.i0 7 [1,2,3] (.i2 8 .nil)))) (.i0 7 [1,2,3] (.i2 4 (.i2 6 (.i2 8 .nil)))))) (.i0 7 [1,2,3] (.fork (.i2 4 (.i0 5 [1,2,3] (.i2 6 (.i2 8 .nil)))) (.i0 5 [1,2,3] (.i2 4 (.i2 6 (.i2 8 .nil))))))))) (.fork (.i0 5 [1,2,3] (.fork (.i0 0 [1,2,3] (.fork (.i2 4 (.i2 6 (.i0 7 [1,2,3] (.i2 8 .nil)))) (.i0 7 [1,2,3] (.i2 4 (.i2 6 (.i2 8 .nil)))))) (.i0 7 [1,2,3] (.i0 0 [1,2,3] (.i2 4 (.i2 6 (.i2 8 .nil))))))) (.i0 7 [1,2,3] (.fork (.i0 0 [1,2,3] (.fork (.i2 4 (.i0 5 [1,2,3] (.i2 6 (.i2 8 .nil)))) (.i0 5 [1,2,3] (.i2 4 (.i2 6 (.i2 8 .nil)))))) (.i0 5 [1,2,3] (.i0 0 [1,2,3] (.i2 4 (.i2 6 (.i2 8 .nil)))))))))))
def hi58:Hint where
 acts:=fun _=>[]
 draws:=fun
  | 3=>⟨hi58_3,[[],[],[1],[1,2],[0,1,2,3],[],.range 6,[],.range 8],.range 9⟩
  | _=>⟨.nil,[],[]⟩
theorem Ss (i:Nat):hi58.acts i=[]:=rfl
theorem Su (i:Nat):hi58.views i=none:=rfl
attribute [go_sem] Ss Su Tryz.ntmps58 Tryz.results58
@[go_sem] theorem Uy:(hi58.draws 3).order=hi58_3:=rfl
theorem sD {s:GShow}{res:GState}(h:fw s=some res):ap Tryz.prog 58 [.agg (GShow.encS s)] [] (.agg [.lit (.int .i64 res.now),.ref 20000 1 0 res.times.length,.ref 20001 1 0 res.values.length]) [(20000,1,.row true (ab eI res.times)),(20001,1,.row true (ab eI res.values))]:=by
 refine aj (ra:=[.homeCell 128 1,.homeCell 128 2]) (md:=mdT) hT (hi:=hi58) Tryz.func58 rfl rfl (by decide +kernel) (by simp) ?_
 unfold fw at h
 obtain ⟨r1001,g1,h⟩:=ae h
 simp(config:=cS)only[go_sem]
 refine ag (oQ g1) ?_
 obtain ⟨h2,h⟩|⟨h2,h⟩:=af h
 ·try simp(config:=cS)only[go_sem,eZt h2]
  refine bg ?_ ?_
  ·try simp(config:=cS)only[go_sem]
   refine bg ?_ ?_
   ·obtain ⟨r1002,g3,h⟩:=ae h
    simp(config:=cS)only[go_sem]
    refine ag (bn g3) ?_
    try simp(config:=cS)only[go_sem]
    refine bg ?_ ?_
    ·obtain ⟨x1003,g4,h⟩:=ae h
     obtain ⟨h6,h7⟩:=dy (k:=0) g4
     cases h
     simp(config:=cS)only[go_sem,h6,h7]
    ·obtain ⟨x1004,g8,h⟩:=ae h
     obtain ⟨h10,h11⟩:=dy (k:=0) g8
     cases h
     simp(config:=cS)only[go_sem,h10,h11]
   ·try simp(config:=cS)only[go_sem]
    refine bg ?_ ?_
    ·try simp(config:=cS)only[go_sem]
     refine bg ?_ ?_
     ·obtain ⟨r1005,g12,h⟩:=ae h
      simp(config:=cS)only[go_sem]
      refine ag (bn g12) ?_
      obtain ⟨x1006,g13,h⟩:=ae h
      obtain ⟨h15,h16⟩:=dy (k:=0) g13
      cases h
      simp(config:=cS)only[go_sem,h15,h16]
     ·obtain ⟨r1007,g17,h⟩:=ae h
      simp(config:=cS)only[go_sem]
      refine ag (bn g17) ?_
      obtain ⟨x1008,g18,h⟩:=ae h
      obtain ⟨h20,h21⟩:=dy (k:=0) g18
      cases h
      simp(config:=cS)only[go_sem,h20,h21]
    ·try simp(config:=cS)only[go_sem]
     refine bg ?_ ?_
     ·obtain ⟨r1009,g22,h⟩:=ae h
      simp(config:=cS)only[go_sem]
      refine ag (bn g22) ?_
      obtain ⟨x1010,g23,h⟩:=ae h
      obtain ⟨h25,h26⟩:=dy (k:=0) g23
      cases h
      simp(config:=cS)only[go_sem,h25,h26]
     ·obtain ⟨r1011,g27,h⟩:=ae h
      simp(config:=cS)only[go_sem]
      refine ag (bn g27) ?_
      obtain ⟨x1012,g28,h⟩:=ae h
      obtain ⟨h30,h31⟩:=dy (k:=0) g28
      cases h
      simp(config:=cS)only[go_sem,h30,h31]
  ·try simp(config:=cS)only[go_sem]
   refine bg ?_ ?_
   ·try simp(config:=cS)only[go_sem]
    refine bg ?_ ?_
    ·try simp(config:=cS)only[go_sem]
     refine bg ?_ ?_
     ·obtain ⟨r1013,g32,h⟩:=ae h
      simp(config:=cS)only[go_sem]
      refine ag (bn g32) ?_
      obtain ⟨x1014,g33,h⟩:=ae h
      obtain ⟨h35,h36⟩:=dy (k:=0) g33
      cases h
      simp(config:=cS)only[go_sem,h35,h36]
     ·obtain ⟨r1015,g37,h⟩:=ae h
      simp(config:=cS)only[go_sem]
      refine ag (bn g37) ?_
      obtain ⟨x1016,g38,h⟩:=ae h
      obtain ⟨h40,h41⟩:=dy (k:=0) g38
      cases h
      simp(config:=cS)only[go_sem,h40,h41]
    ·obtain ⟨r1017,g42,h⟩:=ae h
     simp(config:=cS)only[go_sem]
     refine ag (bn g42) ?_
     obtain ⟨x1018,g43,h⟩:=ae h
     obtain ⟨h45,h46⟩:=dy (k:=0) g43
     cases h
     simp(config:=cS)only[go_sem,h45,h46]
   ·try simp(config:=cS)only[go_sem]
    refine bg ?_ ?_
    ·try simp(config:=cS)only[go_sem]
     refine bg ?_ ?_
     ·obtain ⟨r1019,g47,h⟩:=ae h
      simp(config:=cS)only[go_sem]
      refine ag (bn g47) ?_
      obtain ⟨x1020,g48,h⟩:=ae h
      obtain ⟨h50,h51⟩:=dy (k:=0) g48
      cases h
      simp(config:=cS)only[go_sem,h50,h51]
     ·obtain ⟨r1021,g52,h⟩:=ae h
      simp(config:=cS)only[go_sem]
      refine ag (bn g52) ?_
      obtain ⟨x1022,g53,h⟩:=ae h
      obtain ⟨h55,h56⟩:=dy (k:=0) g53
      cases h
      simp(config:=cS)only[go_sem,h55,h56]
    ·obtain ⟨r1023,g57,h⟩:=ae h
     simp(config:=cS)only[go_sem]
     refine ag (bn g57) ?_
     obtain ⟨x1024,g58,h⟩:=ae h
     obtain ⟨h60,h61⟩:=dy (k:=0) g58
     cases h
     simp(config:=cS)only[go_sem,h60,h61]
 ·cases h
  simp(config:=cS)only[go_sem,eZf h2]
def rh (v9:List GTie)(v10 v3_0:Int)(v3_1 v3_2:List Int):(Int × (List Int))→St
 | (v11,out)=>⟨[(3,.ptr 192 1 0 0),(5,.ref 383 1 0 out.length),(9,.sl (ab GTie.enc v9)),(10,.lit (.int .i64 v10)),(11,.lit (.int .i64 v11))],[(192,1,.var [.lit (.int .i64 v3_0),.sl (ab eI v3_1),.sl (ab eI v3_2)]),(383,1,.row true (ab eI out))],2⟩
attribute [go_sem] rh
attribute [go_sem] Tryz.ntmps143 Tryz.results143
theorem wi {s:GShow}{v1:GState}{res:List Int}(h:jR s v1=some res):ap Tryz.prog 143 [.agg (GShow.encS s),.agg (GState.encS v1)] [] (.ref 20000 1 0 res.length) [(20000,1,.row true (ab eI res))]:=by
 refine aj (ra:=[.home 4]) (md:=mdT) hT (hi:=hi00) Tryz.func143 rfl rfl (by decide +kernel) (by simp) ?_
 unfold jR at h
 obtain ⟨q1004,l1,h⟩:=ae h
 simp(config:=cS)only[go_sem]
 refine an (m1:=.mk) (m2:=.mk) [.home 5,.nf [3,5,9,10,11] [192,383]] (rh s.ties ((s.ties.length:Nat):Int) v1.now v1.times v1.values) l1 ?_ ?_
 ·simp(config:=cS)only[go_sem]
 ·intro nb2 sb2 bb2 b2 gb2
  obtain ⟨v11_1,out_1⟩:=sb2
  unfold jn at b2
  try dsimp only at b2
  obtain ⟨h3,b2⟩|⟨h3,b2⟩:=af b2
  ·obtain ⟨x1001,g4,b2⟩:=ae b2
   obtain ⟨h5,h6,h7⟩:=ai g4
   obtain ⟨h8,b2⟩|⟨h8,b2⟩:=af b2
   ·obtain ⟨x1002,g9,b2⟩:=ae b2
    obtain ⟨h10,h11,h12⟩:=ai g9
    obtain ⟨h13,b2⟩|⟨h13,b2⟩:=af b2
    ·cases b2
     simp(config:=cS)only[go_sem,eqT h3,h5,h6,h7,eZt h8,h10,h11,h12,eqT h13]
     refine ao gb2 ?_
     simp(config:=cS)only[go_sem]
    ·obtain ⟨x1003,g14,b2⟩:=ae b2
     obtain ⟨h15,h16,h17⟩:=ai g14
     obtain ⟨h18,b2⟩|⟨h18,b2⟩:=af b2
     ·obtain ⟨h19,b2⟩:=ah b2
      obtain ⟨h20,b2⟩:=ah b2
      cases b2
      simp(config:=cS)only[go_sem,eqT h3,h5,h6,h7,eZt h8,h10,h11,h12,eqF h13,h15,h16,h17,eqT h18,eqT h19,eqT h20]
      refine ao gb2 ?_
      simp(config:=cS)only[go_sem]
     ·cases b2
      simp(config:=cS)only[go_sem,eqT h3,h5,h6,h7,eZt h8,h10,h11,h12,eqF h13,h15,h16,h17,eqF h18]
      refine ao gb2 ?_
      simp(config:=cS)only[go_sem]
   ·cases b2
    simp(config:=cS)only[go_sem,eqT h3,h5,h6,h7,eZf h8]
    refine ao gb2 ?_
    simp(config:=cS)only[go_sem]
  ·cases b2
   obtain rfl:=(ak gb2).symm
   try dsimp only at h
   cases h
   simp(config:=cS)only[go_sem,eqF h3]
def qz (set:Int)(v8:List Int)(v9:Int):(Int × (List Int))→St
 | (v10,out)=>⟨[(1,.lit (.int .i64 set)),(5,.ref 383 1 0 out.length),(8,.sl (ab eI v8)),(9,.lit (.int .i64 v9)),(10,.lit (.int .i64 v10))],[(383,1,.row true (ab eI out))],2⟩
attribute [go_sem] qz
attribute [go_sem] Tryz.ntmps153 Tryz.results153
theorem vc {list:List Int}{set:Int}{res:List Int}(h:jd list set=some res):ap Tryz.prog 153 [.sl (ab eI list),.lit (.int .i64 set)] [] (.ref 20000 1 0 res.length) [(20000,1,.row true (ab eI res))]:=by
 refine aj (ra:=[.home 4]) (md:=mdT) hT (hi:=hi00) Tryz.func153 rfl rfl (by decide +kernel) (by simp) ?_
 unfold jd at h
 obtain ⟨q1002,l1,h⟩:=ae h
 simp(config:=cS)only[go_sem]
 refine an (m1:=.mk) (m2:=.mk) [.home 5,.nf [1,5,8,9,10] [383]] (qz set list ((list.length:Nat):Int)) l1 ?_ ?_
 ·simp(config:=cS)only[go_sem]
 ·intro nb2 sb2 bb2 b2 gb2
  obtain ⟨v10_1,out_1⟩:=sb2
  unfold iz at b2
  try dsimp only at b2
  obtain ⟨h3,b2⟩|⟨h3,b2⟩:=af b2
  ·obtain ⟨x1001,g4,b2⟩:=ae b2
   obtain ⟨h5,h6,h7⟩:=ai g4
   obtain ⟨h8,b2⟩:=ah b2
   obtain ⟨h9,b2⟩|⟨h9,b2⟩:=af b2
   ·obtain ⟨h10,b2⟩:=ah b2
    obtain ⟨h11,b2⟩:=ah b2
    cases b2
    simp(config:=cS)only[go_sem,eqT h3,h5,h6,h7,eqF h8,eqT h9,eqT h10,eqT h11]
    refine ao gb2 ?_
    simp(config:=cS)only[go_sem]
   ·cases b2
    simp(config:=cS)only[go_sem,eqT h3,h5,h6,h7,eqF h8,eqF h9]
    refine ao gb2 ?_
    simp(config:=cS)only[go_sem]
  ·cases b2
   obtain rfl:=(ak gb2).symm
   try dsimp only at h
   cases h
   simp(config:=cS)only[go_sem,eqF h3]
attribute [go_sem] Tryz.ntmps222 Tryz.results222
theorem yx {v1:Int}{res:List Int × Nat}(h:iA v1=some res):ap Tryz.prog 222 [.lit (.slice none 0 0),.lit (.int .i64 v1)] [] (.ref 20000 1 0 res.2) [(20000,1,.row true (ab eI res.1))]:=by
 refine aj (ra:=[.home 4]) (md:=mdT) hT (hi:=hi00) Tryz.func222 rfl rfl (by decide +kernel) (by simp) ?_
 unfold iA at h
 obtain ⟨h1,h⟩|⟨h1,h⟩:=af h
 ·cases h
 ·obtain ⟨h2,h⟩|⟨h2,h⟩:=af h
  ·obtain ⟨h3,h⟩:=ah h
   obtain ⟨h4,h⟩:=ah h
   obtain ⟨h5,h⟩:=ah h
   cases h
   simp(config:=cS)only[go_sem,eqF h1,eqT h2,eqT h3,eqT h4,eqT h5]
  ·cases h
   simp(config:=cS)only[go_sem,eqF h1,eqF h2]
def mJ (v0:List (List Int))(v10:Int):(Int × Int)→St
 | (v3,v11)=>⟨[(0,.sl (ab (eLS eI) v0)),(3,.lit (.int .i64 v3)),(9,.sl (ab (eLS eI) v0)),(10,.lit (.int .i64 v10)),(11,.lit (.int .i64 v11))],[],2⟩
attribute [go_sem] mJ
def mK (v25:List (List Int))(v26:Int):(Nat × Int × (List Int))→St
 | (v6_n,v27,v6)=>⟨[(6,.ref 1536 1 0 v6_n),(25,.sl (ab (eLS eI) v25)),(26,.lit (.int .i64 v26)),(27,.lit (.int .i64 v27))],[(1536,1,.row true (ab eI v6))],2⟩
attribute [go_sem] mK
attribute [go_sem] Tryz.ntmps152 Tryz.results152
theorem wC {v0:List (List Int)}{res:List Int}(h:fT v0=some res):ap Tryz.prog 152 [.sl (ab (eLS eI) v0)] [] (.ref 20000 1 0 res.length) [(20000,1,.row true (ab eI res))]:=by
 refine aj (ra:=[.home 2,.trimT 2]) (md:=mdT) hT (hi:=hi00) Tryz.func152 rfl rfl (by decide +kernel) (by simp) ?_
 unfold fT at h
 obtain ⟨q1005,l1,h⟩:=ae h
 simp(config:=cS)only[go_sem]
 refine an (m1:=.mk) (m2:=.mk) [.nf [0,3,9,10,11] []] (mJ v0 ((v0.length:Nat):Int)) l1 ?_ ?_
 ·simp(config:=cS)only[go_sem]
 ·intro nb2 sb2 bb2 b2 gb2
  obtain ⟨v3_1,v11_1⟩:=sb2
  unfold dQ at b2
  try dsimp only at b2
  obtain ⟨h3,b2⟩|⟨h3,b2⟩:=af b2
  ·obtain ⟨x1001,g4,b2⟩:=ae b2
   obtain ⟨h5,h6,h7⟩:=ai g4
   obtain ⟨h8,b2⟩|⟨h8,b2⟩:=af b2
   ·cases b2
   ·cases b2
    simp(config:=cS)only[go_sem,eqT h3,h5,h6,h7,eqF h8]
    refine ao gb2 ?_
    simp(config:=cS)only[go_sem]
  ·cases b2
   obtain rfl:=(ak gb2).symm
   try dsimp only at h
   obtain ⟨r1002,g10,h⟩:=ae h
   simp(config:=cS)only[go_sem,eqF h3]
   refine ag (yx g10) ?_
   obtain ⟨q1004,l11,h⟩:=ae h
   simp(config:=cS)only[go_sem]
   refine an (m1:=.mk) (m2:=.mk) [.nf [6,25,26,27] [1536]] (mK v0 ((v0.length:Nat):Int)) l11 ?_ ?_
   ·simp(config:=cS)only[go_sem]
   ·intro nb12 sb12 bb12 b12 gb12
    obtain ⟨v6_n_2,v27_2,v6_2⟩:=sb12
    unfold dR at b12
    try dsimp only at b12
    obtain ⟨h13,b12⟩|⟨h13,b12⟩:=af b12
    ·obtain ⟨x1003,g14,b12⟩:=ae b12
     obtain ⟨h15,h16,h17⟩:=ai g14
     obtain ⟨h18,b12⟩|⟨h18,b12⟩:=af b12
     ·obtain ⟨h19,b12⟩:=ah b12
      obtain ⟨h20,b12⟩:=ah b12
      cases b12
      simp(config:=cS)only[go_sem,eqT h13,h15,h16,h17,eqT h18,eqT h19,eqT h20]
      refine ao gb12 ?_
      simp(config:=cS)only[go_sem]
     ·obtain ⟨h21,b12⟩:=ah b12
      obtain ⟨h22,b12⟩|⟨h22,b12⟩:=af b12
      ·cases b12
       simp(config:=cS)only[go_sem,eqT h13,h15,h16,h17,eqF h18,eqT h21,eqT h22]
       refine ao gb12 ?_
       simp(config:=cS)only[go_sem]
      ·obtain ⟨h23,b12⟩:=ah b12
       obtain ⟨h24,b12⟩:=ah b12
       cases b12
       simp(config:=cS)only[go_sem,eqT h13,h15,h16,h17,eqF h18,eqT h21,eqF h22,eqT h23,eqT h24]
       refine ao gb12 ?_
       simp(config:=cS)only[go_sem]
    ·cases b12
     obtain rfl:=(ak gb12).symm
     try dsimp only at h
     obtain ⟨h26,h⟩:=ah h
     obtain ⟨h27,h⟩:=ah h
     cases h
     simp(config:=cS)only[go_sem,eqF h13,eqT h26,eqT h27]
attribute [go_sem] Tryz.ntmps259 Tryz.results259
theorem GB {v0 res:Int}(h:tA v0=some res):ap Tryz.prog 259 [.lit (.int .u64 v0)] [] (.lit (.int .i64 res)) []:=by
 refine aj (ra:=[]) (md:=mdT) hT (hi:=hi00) Tryz.func259 rfl rfl (by decide +kernel) (by simp) ?_
 unfold tA at h
 obtain ⟨h1,h⟩|⟨h1,h⟩:=af h
 ·obtain ⟨h2,h⟩|⟨h2,h⟩:=af h
  ·obtain ⟨h3,h⟩|⟨h3,h⟩:=af h
   ·obtain ⟨c1001,g4,h⟩:=ae h
    obtain ⟨h5,h6,h7⟩:=iU g4
    cases h
    simp(config:=cS)only[go_sem,eqT h1,eqT h2,eqT h3,h5,h6,h7]
   ·obtain ⟨c1002,g8,h⟩:=ae h
    obtain ⟨h9,h10,h11⟩:=iU g8
    cases h
    simp(config:=cS)only[go_sem,eqT h1,eqT h2,eqF h3,h9,h10,h11]
  ·obtain ⟨h12,h⟩|⟨h12,h⟩:=af h
   ·obtain ⟨c1003,g13,h⟩:=ae h
    obtain ⟨h14,h15,h16⟩:=iU g13
    cases h
    simp(config:=cS)only[go_sem,eqT h1,eqF h2,eqT h12,h14,h15,h16]
   ·obtain ⟨c1004,g17,h⟩:=ae h
    obtain ⟨h18,h19,h20⟩:=iU g17
    cases h
    simp(config:=cS)only[go_sem,eqT h1,eqF h2,eqF h12,h18,h19,h20]
 ·obtain ⟨h21,h⟩|⟨h21,h⟩:=af h
  ·obtain ⟨h22,h⟩|⟨h22,h⟩:=af h
   ·obtain ⟨c1005,g23,h⟩:=ae h
    obtain ⟨h24,h25,h26⟩:=iU g23
    cases h
    simp(config:=cS)only[go_sem,eqF h1,eqT h21,eqT h22,h24,h25,h26]
   ·obtain ⟨c1006,g27,h⟩:=ae h
    obtain ⟨h28,h29,h30⟩:=iU g27
    cases h
    simp(config:=cS)only[go_sem,eqF h1,eqT h21,eqF h22,h28,h29,h30]
  ·obtain ⟨h31,h⟩|⟨h31,h⟩:=af h
   ·obtain ⟨c1007,g32,h⟩:=ae h
    obtain ⟨h33,h34,h35⟩:=iU g32
    cases h
    simp(config:=cS)only[go_sem,eqF h1,eqF h21,eqT h31,h33,h34,h35]
   ·obtain ⟨c1008,g36,h⟩:=ae h
    obtain ⟨h37,h38,h39⟩:=iU g36
    cases h
    simp(config:=cS)only[go_sem,eqF h1,eqF h21,eqF h31,h37,h38,h39]
attribute [go_sem] Tryz.ntmps224 Tryz.results224
theorem JQ {v0 res:Int}(h:sQ v0=some res):ap Tryz.prog 224 [.lit (.int .u64 v0)] [] (.lit (.int .i64 res)) []:=by
 refine aj (ra:=[]) (md:=mdT) hT (hi:=hi00) Tryz.func224 rfl rfl (by decide +kernel) (by simp) ?_
 unfold sQ at h
 obtain ⟨r1001,g1,h⟩:=ae h
 simp(config:=cS)only[go_sem]
 refine ag (GB g1) ?_
 cases h
 simp(config:=cS)only[go_sem]
attribute [go_sem] Tryz.ntmps272 Tryz.results272
theorem uk {v0:Int}{res:Bool}(h:kb v0=some res):ap Tryz.prog 272 [.lit (.int .i64 v0)] [] (.lit (.bool res)) []:=by
 refine aj (ra:=[]) (md:=mdT) hT (hi:=hi00) Tryz.func272 rfl rfl (by decide +kernel) (by simp) ?_
 unfold kb at h
 cases h
 simp(config:=cS)only[go_sem]
attribute [go_sem] Tryz.ntmps255 Tryz.results255
theorem Dg {v0 v1:Int}{res:Bool}(h:lm v0 v1=some res):ap Tryz.prog 255 [.lit (.int .i64 v0),.lit (.int .i64 v1)] [] (.lit (.bool res)) []:=by
 refine aj (ra:=[]) (md:=mdT) hT (hi:=hi00) Tryz.func255 rfl rfl (by decide +kernel) (by simp) ?_
 unfold lm at h
 obtain ⟨r1001,g1,h⟩:=ae h
 simp(config:=cS)only[go_sem]
 refine ag (uk g1) ?_
 obtain ⟨h2,h⟩|⟨h2,h⟩:=af h
 ·obtain ⟨r1002,g3,h⟩:=ae h
  simp(config:=cS)only[go_sem,eZt h2]
  refine ag (uk g3) ?_
  obtain ⟨h4,h⟩|⟨h4,h⟩:=af h
  ·cases h
   simp(config:=cS)only[go_sem,eZt h2,eZt h4]
  ·cases h
   simp(config:=cS)only[go_sem,eZt h2,eZf h4]
 ·cases h
  simp(config:=cS)only[go_sem,eZf h2]
def fN (zb0:Bool)(v1 v2 v6:Int):(Int × (List Int))→St
 | (v7,v0)=>⟨[(0,.ref 10000 0 0 v0.length),(1,.lit (.int .i64 v1)),(2,.lit (.int .i64 v2)),(6,.lit (.int .i64 v6)),(7,.lit (.int .i64 v7))],[(10000,0,.row zb0 (ab eI v0))],2⟩
attribute [go_sem] fN
def fO (zb0:Bool)(v1 v2:Int):(Int × (List Int))→St
 | (v6,v0)=>⟨[(0,.ref 10000 0 0 v0.length),(1,.lit (.int .i64 v1)),(2,.lit (.int .i64 v2)),(6,.lit (.int .i64 v6))],[(10000,0,.row zb0 (ab eI v0))],2⟩
attribute [go_sem] fO
@[go_sem] def hi249_6:DT:=.i2 0 (.i2 1 (.i2 2 (.i2 3 (.i2 4 (.i2 5 (.i2 6 (.i2 7 (.i2 8 (.i2 9 (.i2 10 (.i2 11 (.i2 12 (.i2 13 (.i2 14 (.i2 15 (.i2 16 (.i2 17 .nil)))))))))))))))))
@[go_sem] def hi249_4:DT:=.i2 0 (.i2 1 (.i2 2 (.i2 3 (.i2 4 (.i2 5 (.i2 6 (.i2 7 (.i2 8 (.i2 9 (.i2 10 (.i2 11 (.i2 12 (.i2 13 (.i2 14 .nil))))))))))))))
def BK:Hint where
 acts:=fun _=>[]
 draws:=fun
  | 4=>⟨hi249_4,[[],[],[0,1],[0,1,2],[0,1,2,3],[0,1,2,3],.range 6,.range 7,[0,1,2,3],[0,1,2,3],[0,1,2,3,9],[0,1,2,3,8,9,10],[0,1,2,3,8,9,10,11],.range 13,.range 14],.range 15⟩
  | 6=>⟨hi249_6,[[],[],[],[],[3],[],[],[6],[5,6,7],[5,6,7,8],[],[],[10,11],[10,11,12],[0,1,5,6,7,8,9,10,11,12,13],[0,1,5,6,7,8,9,10,11,12,13,14],.range 16,.range 17],[0,1,13,14,15,2,3,4,5,6,7,8,9,10,11,12,16,17]⟩
  | _=>⟨.nil,[],[]⟩
theorem QC (i:Nat):BK.acts i=[]:=rfl
theorem QD (i:Nat):BK.views i=none:=rfl
attribute [go_sem] QC QD Tryz.ntmps249 Tryz.results249
@[go_sem] theorem TD:(BK.draws 4).order=hi249_4:=rfl
@[go_sem] theorem TE:(BK.draws 6).order=hi249_6:=rfl
theorem oA {v0:List Int}{v1 v2:Int}{zb0:Bool}{res:List Int}(h:bL v0 v1 v2=some res):ap Tryz.prog 249 [.ref 10000 0 0 v0.length,.lit (.int .i64 v1),.lit (.int .i64 v2)] [(10000,0,.row zb0 (ab eI v0))] (.tup []) [(10000,0,.row zb0 (ab eI res))]:=by
 refine aj (ra:=[]) (md:=mdT) hT (hi:=BK) Tryz.func249 rfl rfl (by decide +kernel) (by simp) ?_
 unfold bL at h
 obtain ⟨q1006,l1,h⟩:=ae h
 simp(config:=cS)only[go_sem]
 refine an (m1:=.mk) (m2:=.mk) [.nf [0,1,2,6] [10000]] (fO zb0 v1 v2) l1 ?_ ?_
 ·simp(config:=cS)only[go_sem]
 ·intro nb2 sb2 bb2 b2 gb2
  obtain ⟨v6_1,v0_1⟩:=sb2
  unfold bd at b2
  try dsimp only at b2
  obtain ⟨h3,b2⟩|⟨h3,b2⟩:=af b2
  ·obtain ⟨q1005,l4,b2⟩:=ae b2
   simp(config:=cS)only[go_sem,eqT h3]
   refine an (m1:=.mk) (m2:=.mk) [.nf [0,1,2,6,7] [10000]] (fN zb0 v1 v2 v6_1) l4 ?_ ?_
   ·simp(config:=cS)only[go_sem,eqT h3]
   ·intro nb5 sb5 bb5 b5 gb5
    obtain ⟨v7_2,v0_2⟩:=sb5
    unfold aN at b5
    try dsimp only at b5
    obtain ⟨h6,b5⟩|⟨h6,b5⟩:=af b5
    ·obtain ⟨x1001,g7,b5⟩:=ae b5
     obtain ⟨h8,h9,h10⟩:=ai g7
     obtain ⟨x1002,g11,b5⟩:=ae b5
     obtain ⟨h12,h13,h14⟩:=ai g11
     obtain ⟨r1003,g15,b5⟩:=ae b5
     simp(config:=cS)only[go_sem,eqT h3,eqT h6,h8,h9,h10,h12,h13,h14]
     refine ag (Dg g15) ?_
     obtain ⟨h16,b5⟩|⟨h16,b5⟩:=af b5
     ·obtain ⟨x1004,g17,b5⟩:=ae b5
      obtain ⟨h18,h19,h20⟩:=ai g17
      cases b5
      simp(config:=cS)only[go_sem,eqT h3,eqT h6,h8,h9,h10,h12,h13,h14,eZt h16,h18,h19,h20]
      refine ao gb5 ?_
      simp(config:=cS)only[go_sem,eqT h3,eqT h6,h8,h9,h10,h12,h13,h14,eZt h16,h18,h19,h20]
     ·cases b5
      obtain rfl:=(ak gb5).symm
      try dsimp only at b2
      cases b2
      simp(config:=cS)only[go_sem,eqT h3,eqT h6,h8,h9,h10,h12,h13,h14,eZf h16]
      refine ao gb2 ?_
      simp(config:=cS)only[go_sem,eqT h3,eqT h6,h8,h9,h10,h12,h13,h14,eZf h16]
    ·cases b5
     obtain rfl:=(ak gb5).symm
     try dsimp only at b2
     cases b2
     simp(config:=cS)only[go_sem,eqT h3,eqF h6]
     refine ao gb2 ?_
     simp(config:=cS)only[go_sem,eqT h3,eqF h6]
  ·cases b2
   obtain rfl:=(ak gb2).symm
   try dsimp only at h
   cases h
   simp(config:=cS)only[go_sem,eqF h3]
def iY (zb0:Bool)(v1 v2 v3:Int)(v0:List Int)(_:Unit):St:=⟨[(0,.ref 10000 0 0 v0.length),(1,.lit (.int .i64 v1)),(2,.lit (.int .i64 v2)),(3,.lit (.int .i64 v3)),(8,.lit (.bool true)),(9,.lit (.bool true))],[(10000,0,.row zb0 (ab eI v0))],2⟩
attribute [go_sem] iY
@[go_sem] def hi223_17:DT:=.i2 0 (.i2 1 (.i2 2 (.i2 3 (.i2 4 (.i2 5 (.i2 6 (.i2 7 (.i2 8 (.i2 9 (.i2 10 (.i2 11 (.i2 12 (.i2 13 (.i2 14 .nil))))))))))))))
def FN:Hint where
 acts:=fun _=>[]
 draws:=fun
  | 17=>⟨hi223_17,[[],[0],[0,1],[0,1,2],[0,1,2],[0,1,2,4],.range 6,.range 7,[0,1,2],[0,1,2],[0,1,2,8,9],[0,1,2,8,9,10],.range 12,.range 13,.range 14],.range 15⟩
  | _=>⟨.nil,[],[]⟩
theorem QE (i:Nat):FN.acts i=[]:=rfl
theorem QF (i:Nat):FN.views i=none:=rfl
attribute [go_sem] QE QF Tryz.ntmps223 Tryz.results223
@[go_sem] theorem Td:(FN.draws 17).order=hi223_17:=rfl
theorem se {v0:List Int}{v1 v2 v3:Int}{zb0:Bool}{res:List Int}(h:cu v0 v1 v2 v3=some res):ap Tryz.prog 223 [.ref 10000 0 0 v0.length,.lit (.int .i64 v1),.lit (.int .i64 v2),.lit (.int .i64 v3)] [(10000,0,.row zb0 (ab eI v0))] (.tup []) [(10000,0,.row zb0 (ab eI res))]:=by
 refine aj (ra:=[]) (md:=mdT) hT (hi:=FN) Tryz.func223 rfl rfl (by decide +kernel) (by simp) ?_
 unfold cu at h
 obtain ⟨q1002,l1,h⟩:=ae h
 simp(config:=cS)only[go_sem]
 refine an (m1:=.mk) (m2:=.mk) [.nf [0,1,2,3,8,9] [10000]] (iY zb0 v1 v2 v3 v0) l1 ?_ ?_
 ·simp(config:=cS)only[go_sem]
 ·intro nb2 sb2 bb2 b2 gb2
  unfold eZ at b2
  try dsimp only at b2
  obtain ⟨h3,b2⟩|⟨h3,b2⟩:=af b2
  ·obtain ⟨r1001,g4,b2⟩:=ae b2
   simp(config:=cS)only[go_sem,eqT h3]
   refine ag (oA g4) ?_
   cases b2
   obtain rfl:=(ak gb2).symm
   try dsimp only at h
   cases h
   simp(config:=cS)only[go_sem]
  ·cases b2
attribute [go_sem] Tryz.ntmps154 Tryz.results154
theorem sE {v0:List Int}{zb0:Bool}{res:List Int}(h:ce v0=some res):ap Tryz.prog 154 [.ref 10000 0 0 v0.length] [(10000,0,.row zb0 (ab eI v0))] (.tup []) [(10000,0,.row zb0 (ab eI res))]:=by
 refine aj (ra:=[]) (md:=mdT) hT (hi:=hi00) Tryz.func154 rfl rfl (by decide +kernel) (by simp) ?_
 unfold ce at h
 obtain ⟨r1001,g1,h⟩:=ae h
 simp(config:=cS)only[go_sem]
 refine ag (JQ g1) ?_
 obtain ⟨r1002,g2,h⟩:=ae h
 simp(config:=cS)only[go_sem]
 refine ag (se g2) ?_
 cases h
 simp(config:=cS)only[go_sem]
def qA (v21:Int)(s_0:List GNode)(s_1:List GTie)(s_2 v3_0:Int)(v3_1 v3_2 v20:List Int):(Int × (List Int) × (List Int))→St
 | (v22,must,may)=>⟨[(2,.ptr 128 1 0 0),(3,.ptr 192 1 0 0),(5,.ref 383 1 0 must.length),(6,.ref 447 1 0 may.length),(20,.ref 1280 1 0 v20.length),(21,.lit (.int .i64 v21)),(22,.lit (.int .i64 v22))],[(128,1,.var [.sl (ab GNode.encS s_0),.sl (ab GTie.enc s_1),.lit (.int .i64 s_2)]),(192,1,.var [.lit (.int .i64 v3_0),.sl (ab eI v3_1),.sl (ab eI v3_2)]),(383,1,.row true (ab eI must)),(447,1,.row true (ab eI may)),(1280,1,.row true (ab eI v20))],2⟩
attribute [go_sem] qA
def qB (must may:List Int):(Int × (List (List Int)))→St
 | (set,out)=>⟨[(5,.ref 383 1 0 must.length),(6,.ref 447 1 0 may.length),(10,.ref 703 1 0 out.length),(11,.lit (.int .i64 set))],[(383,1,.tree (ab eI must)),(447,1,.row true (ab eI may)),(703,1,.row true (ab (eLO eI) out))],2⟩
attribute [go_sem] qB
@[go_sem] def hi68_7:DT:=.i2 0 (.i2 1 (.i2 2 (.i2 3 (.i2 4 (.i2 5 (.i2 6 (.i2 7 (.i2 8 (.i2 9 (.i2 10 (.i2 11 (.i2 12 (.i2 13 .nil)))))))))))))
def hi68:Hint where
 acts:=fun _=>[]
 draws:=fun
  | 7=>⟨hi68_7,[[],[0],[],[2],[],[4],[],[4,5,6],[4,5,6,7],[4,5,6,7,8],[2,3,4,5,6,7,8,9],[2,3,4,5,6,7,8,9,10],.range 12,.range 13],.range 14⟩
  | _=>⟨.nil,[],[]⟩
theorem Sv (i:Nat):hi68.acts i=[]:=rfl
theorem Sw (i:Nat):hi68.views i=none:=rfl
attribute [go_sem] Sv Sw Tryz.ntmps68 Tryz.results68
@[go_sem] theorem Uz:(hi68.draws 7).order=hi68_7:=rfl
theorem nF {s:GShow}{v1:GState}{res:List (List Int)}(h:gA s v1=some res):ap Tryz.prog 68 [.agg (GShow.encS s),.agg (GState.encS v1)] [] (.ref 20000 1 0 res.length) [(20000,1,.row true (ab (eLO eI) res))]:=by
 refine aj (ra:=[.home 4]) (md:=mdT) hT (hi:=hi68) Tryz.func68 rfl rfl (by decide +kernel) (by simp) ?_
 unfold gA at h
 obtain ⟨h1,h⟩|⟨h1,h⟩:=af h
 ·cases h
  simp(config:=cS)only[go_sem,eqT h1]
 ·obtain ⟨r1001,g2,h⟩:=ae h
  simp(config:=cS)only[go_sem,eqF h1]
  refine ag (wi g2) ?_
  obtain ⟨q1009,l3,h⟩:=ae h
  simp(config:=cS)only[go_sem]
  refine an (m1:=.mk) (m2:=.mk) [.home 5,.home 6,.nf [2,3,5,6,20,21,22] [128,192,383,447,1280]] (qA ((r1001.length:Nat):Int) s.nodes s.ties s.horizon v1.now v1.times v1.values r1001) l3 ?_ ?_
  ·simp(config:=cS)only[go_sem]
  ·intro nb4 sb4 bb4 b4 gb4
   obtain ⟨v22_1,must_1,may_1⟩:=sb4
   unfold iB at b4
   try dsimp only at b4
   obtain ⟨h5,b4⟩|⟨h5,b4⟩:=af b4
   ·obtain ⟨x1002,g6,b4⟩:=ae b4
    obtain ⟨h7,h8,h9⟩:=ai g6
    obtain ⟨x1003,g10,b4⟩:=ae b4
    obtain ⟨h11,h12,h13⟩:=ai g10
    obtain ⟨x1004,g14,b4⟩:=ae b4
    obtain ⟨h15,h16,h17⟩:=ai g14
    obtain ⟨h18,b4⟩|⟨h18,b4⟩:=af b4
    ·obtain ⟨h19,b4⟩:=ah b4
     obtain ⟨h20,b4⟩:=ah b4
     cases b4
     simp(config:=cS)only[go_sem,eqT h5,h7,h8,h9,h11,h12,h13,h15,h16,h17,eqT h18,eqT h19,eqT h20]
     refine ao gb4 ?_
     simp(config:=cS)only[go_sem]
    ·obtain ⟨h21,b4⟩|⟨h21,b4⟩:=af b4
     ·obtain ⟨h22,b4⟩:=ah b4
      obtain ⟨h23,b4⟩:=ah b4
      cases b4
      simp(config:=cS)only[go_sem,eqT h5,h7,h8,h9,h11,h12,h13,h15,h16,h17,eqF h18,eqT h21,eqT h22,eqT h23]
      refine ao gb4 ?_
      simp(config:=cS)only[go_sem]
     ·cases b4
      simp(config:=cS)only[go_sem,eqT h5,h7,h8,h9,h11,h12,h13,h15,h16,h17,eqF h18,eqF h21]
      refine ao gb4 ?_
      simp(config:=cS)only[go_sem]
   ·cases b4
    obtain rfl:=(ak gb4).symm
    try dsimp only at h
    obtain ⟨q1008,l25,h⟩:=ae h
    simp(config:=cS)only[go_sem,eqF h5]
    refine an (m1:=.mk) (m2:=.mk) [.home 10,.freeze [383],.nf [5,6,10,11] [383,447,703]] (qB must_1 may_1) l25 ?_ ?_
    ·simp(config:=cS)only[go_sem]
    ·intro nb26 sb26 bb26 b26 gb26
     obtain ⟨set_2,out_2⟩:=sb26
     unfold iC at b26
     try dsimp only at b26
     obtain ⟨h27,b26⟩:=ah b26
     obtain ⟨h28,b26⟩|⟨h28,b26⟩:=af b26
     ·obtain ⟨r1005,g29,b26⟩:=ae b26
      simp(config:=cS)only[go_sem,eqF h27,eqT h28]
      refine ag (vc g29) ?_
      obtain ⟨r1006,g30,b26⟩:=ae b26
      simp(config:=cS)only[go_sem]
      refine ag (wC g30) ?_
      obtain ⟨r1007,g31,b26⟩:=ae b26
      simp(config:=cS)only[go_sem]
      refine ag (sE g31) ?_
      obtain ⟨h32,b26⟩:=ah b26
      obtain ⟨h33,b26⟩:=ah b26
      obtain ⟨h34,b26⟩:=ah b26
      cases b26
      simp(config:=cS)only[go_sem,h32.symm,eqT h33,eqT h34]
      refine ao gb26 ?_
      simp(config:=cS)only[go_sem]
     ·cases b26
      obtain rfl:=(ak gb26).symm
      try dsimp only at h
      cases h
      simp(config:=cS)only[go_sem,eqF h27,eqF h28]
def kJ (v0:List (List Int))(f_v1:Nat)(k_v1:List AV)(v7 v8:Int):St:=⟨[(0,.sl (ab (eLS eI) v0)),(1,.fn f_v1 k_v1),(7,.lit (.int .i64 v7)),(8,.lit (.int .i64 v8))],[],2⟩
attribute [go_sem] kJ
attribute [go_sem] Tryz.ntmps172 Tryz.results172
theorem tQ {v0:List (List Int)}{v1:(List Int)→Option Bool}{f_v1:Nat}{k_v1:List AV}(hp_v1:∀ y0 r,v1 y0=some r→ap Tryz.prog f_v1 ([.sl (ab eI y0)] ++ k_v1) [] (.lit (.bool r)) [])(hc_v1:KC k_v1)(hm_v1:∀ a,mdT f_v1 a=⟨[],false⟩)(hk_v1:spf f_v1=false){res:Int}(h:dx v0 v1=some res):ap Tryz.prog 172 [.sl (ab (eLS eI) v0),.fn f_v1 k_v1] [] (.lit (.int .i64 res)) []:=by
 refine aj (ra:=[]) (md:=mdT) hT (hi:=hi00) Tryz.func172 rfl rfl (by decide +kernel) (by simp) ?_
 unfold dx at h
 obtain ⟨q1003,l1,h⟩:=ae h
 simp(config:=cS)only[go_sem,hc_v1.1,hc_v1.2,hm_v1,hk_v1]
 refine an (m1:=.mk) (m2:=.mk) [.nf [0,1,7,8] []] (kJ v0 f_v1 k_v1 ((v0.length:Nat):Int)) l1 ?_ ?_
 ·simp(config:=cS)only[go_sem,hc_v1.1,hc_v1.2,hm_v1,hk_v1]
 ·intro nb2 v8_1 bb2 b2 gb2
  unfold bS at b2
  try dsimp only at b2
  obtain ⟨h3,b2⟩|⟨h3,b2⟩:=af b2
  ·obtain ⟨x1001,g4,b2⟩:=ae b2
   obtain ⟨h5,h6,h7⟩:=ai g4
   obtain ⟨r1002,g8,b2⟩:=ae b2
   simp(config:=cS)only[go_sem,hc_v1.1,hc_v1.2,hm_v1,hk_v1,eqT h3,h5,h6,h7]
   refine ag (hp_v1 _ _ g8) ?_
   obtain ⟨h9,b2⟩|⟨h9,b2⟩:=af b2
   ·cases b2
    obtain rfl:=(ak gb2).symm
    try dsimp only at h
    cases h
    simp(config:=cS)only[go_sem,hc_v1.1,hc_v1.2,hm_v1,hk_v1,eqT h3,h5,h6,h7,eZt h9]
   ·cases b2
    simp(config:=cS)only[go_sem,hc_v1.1,hc_v1.2,hm_v1,hk_v1,eqT h3,h5,h6,h7,eZf h9]
    refine ao gb2 ?_
    simp(config:=cS)only[go_sem,hc_v1.1,hc_v1.2,hm_v1,hk_v1,eqT h3,h5,h6,h7,eZf h9]
  ·cases b2
   obtain rfl:=(ak gb2).symm
   try dsimp only at h
   cases h
   simp(config:=cS)only[go_sem,hc_v1.1,hc_v1.2,hm_v1,hk_v1,eqF h3]
attribute [go_sem] Tryz.ntmps163 Tryz.results163
theorem sy {v0:List (List Int)}{v1:(List Int)→Option Bool}{f_v1:Nat}{k_v1:List AV}(hp_v1:∀ y0 r,v1 y0=some r→ap Tryz.prog f_v1 ([.sl (ab eI y0)] ++ k_v1) [] (.lit (.bool r)) [])(hc_v1:KC k_v1)(hm_v1:∀ a,mdT f_v1 a=⟨[],false⟩)(hk_v1:spf f_v1=false){res:Bool}(h:dT v0 v1=some res):ap Tryz.prog 163 [.sl (ab (eLS eI) v0),.fn f_v1 k_v1] [] (.lit (.bool res)) []:=by
 refine aj (ra:=[]) (md:=mdT) hT (hi:=hi00) Tryz.func163 rfl rfl (by decide +kernel) (by simp) ?_
 unfold dT at h
 obtain ⟨r1001,g1,h⟩:=ae h
 simp(config:=cS)only[go_sem,hc_v1.1,hc_v1.2,hm_v1,hk_v1]
 refine ag (tQ hp_v1 hc_v1 hm_v1 hk_v1 g1) ?_
 cases h
 simp(config:=cS)only[go_sem,hc_v1.1,hc_v1.2,hm_v1,hk_v1]
attribute [go_sem] Tryz.ntmps164 Tryz.results164
theorem EM {y v1:List Int}{res:Bool}(h:oS y v1=some res):ap Tryz.prog 164 [.sl (ab eI y),.loc [.sl (ab eI v1)]] [] (.lit (.bool res)) []:=by
 refine aj (ra:=[]) (md:=mdT) hT (hi:=hi00) Tryz.func164 rfl rfl (by decide +kernel) (by simp) ?_
 unfold oS at h
 obtain ⟨r1001,g1,h⟩:=ae h
 simp(config:=cS)only[go_sem]
 refine ag (gT g1) ?_
 cases h
 simp(config:=cS)only[go_sem]
attribute [go_sem] Tryz.ntmps73 Tryz.results73
theorem sP {list:List (List Int)}{v1:List Int}{res:Bool}(h:lS list v1=some res):ap Tryz.prog 73 [.sl (ab (eLS eI) list),.sl (ab eI v1)] [] (.lit (.bool res)) []:=by
 refine aj (ra:=[]) (md:=mdT) hT (hi:=hi00) Tryz.func73 rfl rfl (by decide +kernel) (by simp) ?_
 unfold lS at h
 obtain ⟨r1001,g1,h⟩:=ae h
 simp(config:=cS)only[go_sem]
 refine ag (sy (by exact fun _ _ hr=>EM hr) (by refine ⟨fun _=>?_,fun _=>?_⟩ <;> simp only [go_sem]) (fun _=>rfl) rfl g1) ?_
 cases h
 simp(config:=cS)only[go_sem]
def sf (v12:List Int)(v13:Int)(s_0:List GNode)(s_1:List GTie)(s_2 v4_0:Int)(v4_1 v4_2:List Int)(out_0:Int)(h705:List Int):(Int × (List Int))→St
 | (v14,h704)=>⟨[(3,.ptr 192 1 0 0),(4,.ptr 256 1 0 0),(6,.ptr 384 1 0 0),(7,.ptr 448 1 0 0),(12,.sl (ab eI v12)),(13,.lit (.int .i64 v13)),(14,.lit (.int .i64 v14))],[(192,1,.var [.sl (ab GNode.encS s_0),.sl (ab GTie.enc s_1),.lit (.int .i64 s_2)]),(256,1,.var [.lit (.int .i64 v4_0),.sl (ab eI v4_1),.sl (ab eI v4_2)]),(384,1,.var [.lit (.int .i64 0),.lit (.slice none 0 0),.lit (.slice none 0 0)]),(448,1,.var [.lit (.int .i64 out_0),.ref 704 1 0 h704.length,.ref 705 1 0 h705.length]),(704,1,.row true (ab eI h704)),(705,1,.row true (ab eI h705))],2⟩
attribute [go_sem] sf
@[go_sem] def hi78_5:DT:=.i2 0 (.i2 1 (.i2 2 (.i2 3 (.i2 4 (.i2 5 (.i2 6 (.i2 7 (.i2 8 (.i2 9 (.i2 10 (.i2 11 .nil)))))))))))
def hi78:Hint where
 acts:=fun _=>[]
 draws:=fun
  | 5=>⟨hi78_5,[[],[0],[],[2],[],[2,3,4],[2,3,4,5],[2,3,4,5,6],[],[8],.range 10,.range 11],.range 12⟩
  | _=>⟨.nil,[],[]⟩
theorem Sx (i:Nat):hi78.acts i=[]:=rfl
theorem Sy (i:Nat):hi78.views i=none:=rfl
attribute [go_sem] Sx Sy Tryz.ntmps78 Tryz.results78
@[go_sem] theorem UA:(hi78.draws 5).order=hi78_5:=rfl
theorem qC {s:GShow}{v1:GState}{ties:List Int}{res:GState}(h:jo s v1 ties=some res):ap Tryz.prog 78 [.agg (GShow.encS s),.agg (GState.encS v1),.sl (ab eI ties)] [] (.agg [.lit (.int .i64 res.now),.ref 20000 1 0 res.times.length,.ref 20001 1 0 res.values.length]) [(20000,1,.row true (ab eI res.times)),(20001,1,.row true (ab eI res.values))]:=by
 refine aj (ra:=[.homeCell 384 1,.homeCell 384 2]) (md:=mdT) hT (hi:=hi78) Tryz.func78 rfl rfl (by decide +kernel) (by simp) ?_
 unfold jo at h
 obtain ⟨r1001,g1,h⟩:=ae h
 simp(config:=cS)only[go_sem]
 refine ag (lQ g1) ?_
 obtain ⟨q1005,l2,h⟩:=ae h
 simp(config:=cS)only[go_sem]
 refine an (m1:=.mk) (m2:=.mk) [.nf [3,4,6,7,12,13,14] [192,256,384,448,704,705]] (sf ties ((ties.length:Nat):Int) s.nodes s.ties s.horizon v1.now v1.times v1.values r1001.now r1001.values) l2 ?_ ?_
 ·simp(config:=cS)only[go_sem]
 ·intro nb3 sb3 bb3 b3 gb3
  obtain ⟨v14_1,h704_1⟩:=sb3
  unfold kc at b3
  try dsimp only at b3
  obtain ⟨h4,b3⟩|⟨h4,b3⟩:=af b3
  ·obtain ⟨x1002,g5,b3⟩:=ae b3
   obtain ⟨h6,h7,h8⟩:=ai g5
   obtain ⟨x1003,g9,b3⟩:=ae b3
   obtain ⟨h10,h11,h12⟩:=ai g9
   obtain ⟨x1004,g13,b3⟩:=ae b3
   obtain ⟨h14,h15,h16⟩:=ai g13
   cases b3
   simp(config:=cS)only[go_sem,eqT h4,h6,h7,h8,h10,h11,h12,h14,h15,h16]
   refine ao gb3 ?_
   simp(config:=cS)only[go_sem]
  ·cases b3
   obtain rfl:=(ak gb3).symm
   try dsimp only at h
   cases h
   simp(config:=cS)only[go_sem,eqF h4]
attribute [go_sem] Tryz.ntmps273 Tryz.results273
theorem yy {t:GTie}{node:Int}{res:Bool}(h:kP t node=some res):ap Tryz.prog 273 [.agg (GTie.enc t),.loc [.lit (.int .i64 node)]] [] (.lit (.bool res)) []:=by
 refine aj (ra:=[]) (md:=mdT) hT (hi:=hi00) Tryz.func273 rfl rfl (by decide +kernel) (by simp) ?_
 unfold kP at h
 obtain ⟨h1,h⟩|⟨h1,h⟩:=af h
 ·cases h
  simp(config:=cS)only[go_sem,eZt h1]
 ·cases h
  simp(config:=cS)only[go_sem,eZf h1]
attribute [go_sem] Tryz.ntmps261 Tryz.results261
theorem Dh {s:GShow}{node res:Int}(h:ln s node=some res):ap Tryz.prog 261 [.agg (GShow.encS s),.lit (.int .i64 node)] [] (.lit (.int .i64 res)) []:=by
 refine aj (ra:=[]) (md:=mdT) hT (hi:=hi00) Tryz.func261 rfl rfl (by decide +kernel) (by simp) ?_
 unfold ln at h
 obtain ⟨r1001,g1,h⟩:=ae h
 simp(config:=cS)only[go_sem]
 refine ag (ow (by exact fun _ _ hr=>yy hr) (by refine ⟨fun _=>?_,fun _=>?_⟩ <;> simp only [go_sem]) (fun _=>rfl) rfl g1) ?_
 cases h
 simp(config:=cS)only[go_sem]
def ri (s_0:List GNode)(s_1:List GTie)(s_2:Int):(Int × (List Int))→St
 | (i,out)=>⟨[(1,.ptr 64 1 0 0),(3,.ref 255 1 0 out.length),(4,.lit (.int .i64 i))],[(64,1,.var [.sl (ab GNode.encS s_0),.sl (ab GTie.enc s_1),.lit (.int .i64 s_2)]),(255,1,.row true (ab eI out))],2⟩
attribute [go_sem] ri
attribute [go_sem] Tryz.ntmps227 Tryz.results227
theorem EN {s:GShow}{res:List Int}(h:mf s=some res):ap Tryz.prog 227 [.agg (GShow.encS s)] [] (.ref 20000 1 0 res.length) [(20000,1,.row true (ab eI res))]:=by
 refine aj (ra:=[.home 2]) (md:=mdT) hT (hi:=hi00) Tryz.func227 rfl rfl (by decide +kernel) (by simp) ?_
 unfold mf at h
 obtain ⟨q1002,l1,h⟩:=ae h
 simp(config:=cS)only[go_sem]
 refine an (m1:=.mk) (m2:=.mk) [.home 3,.nf [1,3,4] [64,255]] (ri s.nodes s.ties s.horizon) l1 ?_ ?_
 ·simp(config:=cS)only[go_sem]
 ·intro nb2 sb2 bb2 b2 gb2
  obtain ⟨i_1,out_1⟩:=sb2
  unfold jp at b2
  try dsimp only at b2
  obtain ⟨h3,b2⟩|⟨h3,b2⟩:=af b2
  ·obtain ⟨r1001,g4,b2⟩:=ae b2
   simp(config:=cS)only[go_sem,eqT h3]
   refine ag (Dh g4) ?_
   obtain ⟨h5,b2⟩|⟨h5,b2⟩:=af b2
   ·obtain ⟨h6,b2⟩:=ah b2
    obtain ⟨h7,b2⟩:=ah b2
    cases b2
    simp(config:=cS)only[go_sem,eqT h5,eqT h6,eqT h7]
    refine ao gb2 ?_
    simp(config:=cS)only[go_sem]
   ·cases b2
    simp(config:=cS)only[go_sem,eqF h5]
    refine ao gb2 ?_
    simp(config:=cS)only[go_sem]
  ·cases b2
   obtain rfl:=(ak gb2).symm
   try dsimp only at h
   cases h
   simp(config:=cS)only[go_sem,eqF h3]
def kK (zb0:Bool)(f_v1:Nat)(k_v1:List AV):(Int × Int × (List Int))→St
 | (v5,v6,v0)=>⟨[(0,.ref 10000 0 0 v0.length),(1,.fn f_v1 k_v1),(5,.lit (.int .i64 v5)),(6,.lit (.int .i64 v6))],[(10000,0,.row zb0 (ab eI v0))],2⟩
attribute [go_sem] kK
attribute [go_sem] Tryz.ntmps142 Tryz.results142
theorem nQ {v0:List Int}{v1:Int→Option Bool}{zb0:Bool}{f_v1:Nat}{k_v1:List AV}(hp_v1:∀ y0 r,v1 y0=some r→ap Tryz.prog f_v1 ([.lit (.int .i64 y0)] ++ k_v1) [] (.lit (.bool r)) [])(hc_v1:KC k_v1)(hm_v1:∀ a,mdT f_v1 a=⟨[],false⟩)(hk_v1:spf f_v1=false){res:List Int}(h:cw v0 v1=some res):ap Tryz.prog 142 [.ref 10000 0 0 v0.length,.fn f_v1 k_v1] [(10000,0,.row zb0 (ab eI v0))] (.ref 10000 0 0 res.length) [(10000,0,.row false (ab eI res))]:=by
 refine aj (ra:=[.home 4,.trim 4]) (md:=mdT) hT (hi:=hi00) Tryz.func142 rfl rfl (by decide +kernel) (by simp) ?_
 unfold cw at h
 obtain ⟨r1001,g1,h⟩:=ae h
 simp(config:=cS)only[go_sem,hc_v1.1,hc_v1.2,hm_v1,hk_v1]
 refine ag (oz hp_v1 hc_v1 hm_v1 hk_v1 g1) ?_
 obtain ⟨h2,h⟩|⟨h2,h⟩:=af h
 ·cases h
  simp(config:=cS)only[go_sem,hc_v1.1,hc_v1.2,hm_v1,hk_v1,eqT h2]
 ·obtain ⟨q1005,l3,h⟩:=ae h
  simp(config:=cS)only[go_sem,hc_v1.1,hc_v1.2,hm_v1,hk_v1,eqF h2]
  refine an (m1:=.mk) (m2:=.mk) [.nf [0,1,5,6] [10000]] (kK zb0 f_v1 k_v1) l3 ?_ ?_
  ·simp(config:=cS)only[go_sem,hc_v1.1,hc_v1.2,hm_v1,hk_v1,eqF h2]
  ·intro nb4 sb4 bb4 b4 gb4
   obtain ⟨v5_1,v6_1,v0_1⟩:=sb4
   unfold cB at b4
   try dsimp only at b4
   obtain ⟨h5,b4⟩|⟨h5,b4⟩:=af b4
   ·obtain ⟨x1002,g6,b4⟩:=ae b4
    obtain ⟨h7,h8,h9⟩:=ai g6
    obtain ⟨r1003,g10,b4⟩:=ae b4
    simp(config:=cS)only[go_sem,hc_v1.1,hc_v1.2,hm_v1,hk_v1,eqF h2,eqT h5,h7,h8,h9]
    refine ag (hp_v1 _ _ g10) ?_
    obtain ⟨h11,b4⟩|⟨h11,b4⟩:=af b4
    ·cases b4
     simp(config:=cS)only[go_sem,hc_v1.1,hc_v1.2,hm_v1,hk_v1,eqF h2,eqT h5,h7,h8,h9,eZt h11]
     refine ao gb4 ?_
     simp(config:=cS)only[go_sem,hc_v1.1,hc_v1.2,hm_v1,hk_v1,eqF h2,eqT h5,h7,h8,h9,eZt h11]
    ·obtain ⟨x1004,g12,b4⟩:=ae b4
     obtain ⟨h13,h14,h15⟩:=ai g12
     cases b4
     simp(config:=cS)only[go_sem,hc_v1.1,hc_v1.2,hm_v1,hk_v1,eqF h2,eqT h5,h7,h8,h9,eZf h11,h13,h14,h15]
     refine ao gb4 ?_
     simp(config:=cS)only[go_sem,hc_v1.1,hc_v1.2,hm_v1,hk_v1,eqF h2,eqT h5,h7,h8,h9,eZf h11,h13,h14,h15]
   ·cases b4
    obtain rfl:=(ak gb4).symm
    try dsimp only at h
    obtain ⟨h17,h⟩:=ah h
    obtain ⟨h18,h⟩:=ah h
    obtain ⟨h19,h⟩:=ah h
    cases h
    simp(config:=cS)only[go_sem,hc_v1.1,hc_v1.2,hm_v1,hk_v1,eqF h2,eqF h5,eqT h17,eqT h18,eqT h19]
attribute [go_sem] Tryz.ntmps260 Tryz.results260
theorem GC {l:Int}{v:List Int}{res:Int}(h:nb l v=some res):ap Tryz.prog 260 [.lit (.int .i64 l),.sl (ab eI v)] [] (.lit (.int .i64 res)) []:=by
 refine aj (ra:=[]) (md:=mdT) hT (hi:=hi00) Tryz.func260 rfl rfl (by decide +kernel) (by simp) ?_
 unfold nb at h
 obtain ⟨r1001,g1,h⟩:=ae h
 simp(config:=cS)only[go_sem]
 refine ag (jN g1) ?_
 obtain ⟨x1002,g2,h⟩:=ae h
 obtain ⟨h3,h4,h5⟩:=ai g2
 obtain ⟨h6,h⟩|⟨h6,h⟩:=af h
 ·cases h
  simp(config:=cS)only[go_sem,h3,h4,h5,eqT h6]
 ·cases h
  simp(config:=cS)only[go_sem,h3,h4,h5,eqF h6]
def nR (v v16:List Int)(v17:Int):(Int × Int)→St
 | (out,v18)=>⟨[(1,.sl (ab eI v)),(5,.lit (.int .i64 out)),(16,.sl (ab eI v16)),(17,.lit (.int .i64 v17)),(18,.lit (.int .i64 v18))],[],2⟩
attribute [go_sem] nR
attribute [go_sem] Tryz.ntmps226 Tryz.results226
theorem yz {l v:List Int}{res:Int}(h:fD l v=some res):ap Tryz.prog 226 [.sl (ab eI l),.sl (ab eI v)] [] (.lit (.int .i64 res)) []:=by
 refine aj (ra:=[]) (md:=mdT) hT (hi:=hi00) Tryz.func226 rfl rfl (by decide +kernel) (by simp) ?_
 unfold fD at h
 obtain ⟨r1001,g1,h⟩:=ae h
 simp(config:=cS)only[go_sem]
 refine ag (kZ g1) ?_
 obtain ⟨h2,h⟩|⟨h2,h⟩:=af h
 ·obtain ⟨r1002,g3,h⟩:=ae h
  simp(config:=cS)only[go_sem,eZt h2]
  refine ag (uj g3) ?_
  obtain ⟨h4,h⟩|⟨h4,h⟩:=af h
  ·obtain ⟨q1005,l5,h⟩:=ae h
   simp(config:=cS)only[go_sem,eZt h2,eZt h4]
   refine an (m1:=.mk) (m2:=.mk) [.nf [1,5,16,17,18] []] (nR v l ((l.length:Nat):Int)) l5 ?_ ?_
   ·simp(config:=cS)only[go_sem,eZt h2,eZt h4]
   ·intro nb6 sb6 bb6 b6 gb6
    obtain ⟨out_1,v18_1⟩:=sb6
    unfold fa at b6
    try dsimp only at b6
    obtain ⟨h7,b6⟩|⟨h7,b6⟩:=af b6
    ·obtain ⟨x1003,g8,b6⟩:=ae b6
     obtain ⟨h9,h10,h11⟩:=ai g8
     obtain ⟨r1004,g12,b6⟩:=ae b6
     simp(config:=cS)only[go_sem,eZt h2,eZt h4,eqT h7,h9,h10,h11]
     refine ag (GC g12) ?_
     cases b6
     simp(config:=cS)only[go_sem,eZt h2,eZt h4,eqT h7,h9,h10,h11]
     refine ao gb6 ?_
     simp(config:=cS)only[go_sem,eZt h2,eZt h4,eqT h7,h9,h10,h11]
    ·cases b6
     obtain rfl:=(ak gb6).symm
     try dsimp only at h
     cases h
     simp(config:=cS)only[go_sem,eZt h2,eZt h4,eqF h7]
  ·cases h
   simp(config:=cS)only[go_sem,eZt h2,eZf h4]
 ·cases h
  simp(config:=cS)only[go_sem,eZf h2]
@[go_sem] def hi158_1:DT:=.i2 0 (.i2 1 (.i2 2 (.i2 3 (.i2 4 (.i2 5 (.i2 6 (.i2 7 (.i2 8 (.i2 9 .nil)))))))))
def FO:Hint where
 acts:=fun _=>[]
 draws:=fun
  | 1=>⟨hi158_1,[[],[0],[],[0,1,2],[0,1,2,3],.range 5,[],[6],.range 8,.range 9],.range 10⟩
  | _=>⟨.nil,[],[]⟩
theorem QG (i:Nat):FO.acts i=[]:=rfl
theorem QH (i:Nat):FO.views i=none:=rfl
attribute [go_sem] QG QH Tryz.ntmps158 Tryz.results158
@[go_sem] theorem TF:(FO.draws 1).order=hi158_1:=rfl
theorem lR {s:GShow}{v1:GState}{node res:Int}(h:cz s v1 node=some res):ap Tryz.prog 158 [.agg (GShow.encS s),.agg (GState.encS v1),.lit (.int .i64 node)] [] (.lit (.int .i64 res)) []:=by
 refine aj (ra:=[]) (md:=mdT) hT (hi:=FO) Tryz.func158 rfl rfl (by decide +kernel) (by simp) ?_
 unfold cz at h
 obtain ⟨x1001,g1,h⟩:=ae h
 obtain ⟨h2,h3,h4⟩:=ai g1
 obtain ⟨r1002,g5,h⟩:=ae h
 simp(config:=cS)only[go_sem,h2,h3,h4]
 refine ag (yz g5) ?_
 cases h
 simp(config:=cS)only[go_sem]
attribute [go_sem] Tryz.ntmps228 Tryz.results228
theorem yA {i:Int}{v1:GState}{s:GShow}{res:Bool}(h:kQ i v1 s=some res):ap Tryz.prog 228 [.lit (.int .i64 i),.loc [.lit (.int .i64 v1.now),.sl (ab eI v1.times),.sl (ab eI v1.values)],.loc [.sl (ab GNode.encS s.nodes),.sl (ab GTie.enc s.ties),.lit (.int .i64 s.horizon)]] [] (.lit (.bool res)) []:=by
 refine aj (ra:=[]) (md:=mdT) hT (hi:=hi00) Tryz.func228 rfl rfl (by decide +kernel) (by simp) ?_
 unfold kQ at h
 obtain ⟨x1001,g1,h⟩:=ae h
 obtain ⟨h2,h3,h4⟩:=ai g1
 obtain ⟨h5,h⟩|⟨h5,h⟩:=af h
 ·obtain ⟨r1002,g6,h⟩:=ae h
  simp(config:=cS)only[go_sem,h2,h3,h4,eqT h5]
  refine ag (lR g6) ?_
  cases h
  simp(config:=cS)only[go_sem]
 ·cases h
  simp(config:=cS)only[go_sem,h2,h3,h4,eqF h5]
attribute [go_sem] Tryz.ntmps165 Tryz.results165
theorem Di {s:GShow}{v1:GState}{res:List Int}(h:lp s v1=some res):ap Tryz.prog 165 [.agg (GShow.encS s),.agg (GState.encS v1)] [] (.ref 20000 1 0 res.length) [(20000,1,.row false (ab eI res))]:=by
 refine aj (ra:=[.home 4,.trim 4]) (md:=mdT) hT (hi:=hi00) Tryz.func165 rfl rfl (by decide +kernel) (by simp) ?_
 unfold lp at h
 obtain ⟨r1001,g1,h⟩:=ae h
 simp(config:=cS)only[go_sem]
 refine ag (EN g1) ?_
 obtain ⟨r1002,g2,h⟩:=ae h
 simp(config:=cS)only[go_sem]
 refine ag (nQ (by exact fun _ _ hr=>yA hr) (by refine ⟨fun _=>?_,fun _=>?_⟩ <;> simp only [go_sem]) (fun _=>rfl) rfl g2) ?_
 cases h
 simp(config:=cS)only[go_sem]
def oB (nodes:List Int):(Int × (List (List Int)))→St
 | (set,out)=>⟨[(5,.ref 640 1 0 nodes.length),(6,.ref 447 1 0 out.length),(7,.lit (.int .i64 set))],[(640,1,.row false (ab eI nodes)),(447,1,.row true (ab (eLO eI) out))],2⟩
attribute [go_sem] oB
attribute [go_sem] Tryz.ntmps74 Tryz.results74
theorem oY {s:GShow}{v1:GState}{res:List (List Int)}(h:dV s v1=some res):ap Tryz.prog 74 [.agg (GShow.encS s),.agg (GState.encS v1)] [] (.ref 20000 1 0 res.length) [(20000,1,.row true (ab (eLO eI) res))]:=by
 refine aj (ra:=[.home 4]) (md:=mdT) hT (hi:=hi00) Tryz.func74 rfl rfl (by decide +kernel) (by simp) ?_
 unfold dV at h
 obtain ⟨r1001,g1,h⟩:=ae h
 simp(config:=cS)only[go_sem]
 refine ag (Di g1) ?_
 obtain ⟨h2,h⟩:=ah h
 obtain ⟨q1003,l3,h⟩:=ae h
 simp(config:=cS)only[go_sem,eqF h2]
 refine an (m1:=.mk) (m2:=.mk) [.home 6,.nf [5,6,7] [640,447]] (oB r1001) l3 ?_ ?_
 ·simp(config:=cS)only[go_sem]
 ·intro nb4 sb4 bb4 b4 gb4
  obtain ⟨set_1,out_1⟩:=sb4
  unfold fU at b4
  try dsimp only at b4
  obtain ⟨h5,b4⟩|⟨h5,b4⟩:=af b4
  ·obtain ⟨r1002,g6,b4⟩:=ae b4
   simp(config:=cS)only[go_sem,eqT h5]
   refine ag (vc g6) ?_
   obtain ⟨h7,b4⟩:=ah b4
   obtain ⟨h8,b4⟩:=ah b4
   cases b4
   simp(config:=cS)only[go_sem,eqT h7,eqT h8]
   refine ao gb4 ?_
   simp(config:=cS)only[go_sem]
  ·cases b4
   obtain rfl:=(ak gb4).symm
   try dsimp only at h
   cases h
   simp(config:=cS)only[go_sem,eqF h5]
end Go.Proofs.YtghfphjfkdbpjaaGreatY
