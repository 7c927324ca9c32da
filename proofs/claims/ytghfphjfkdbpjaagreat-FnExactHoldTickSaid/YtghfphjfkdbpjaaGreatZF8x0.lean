/- Functions. -/
import Derived.Test.YtghfphjfkdbpjaaGreatZFK2
set_option linter.all false
set_option maxRecDepth 100000
set_option maxHeartbeats 400000
namespace Go.Proofs.YtghfphjfkdbpjaaGreatZ
open Go
attribute [go_sem] Tryz.ntmps51 Tryz.results51
theorem Bl {d:GDesk}{ties:List Int}{node:Int}{values:List Int}{res:GDesk × (List Int) × Int}(h:kF d ties node values=some res):ao Tryz.prog 51 [.agg (GDesk.encS d),.sl (ab eI ties),.lit (.int .i64 node),.sl (ab eI values)] [] (.tup [.agg [.ref 20000 1 0 res.1.show_.nodes.length,.ref 20001 1 0 res.1.show_.ties.length,.lit (.int .i64 res.1.show_.horizon),.lit (.int .i64 res.1.state.now),.ref 20002 1 0 res.1.state.times.length,.ref 20003 1 0 res.1.state.values.length,.lit (.bool res.1.lazy),.ref 20004 1 0 res.1.log.length],.ref 20005 1 0 res.2.1.length,.lit (.int .i64 res.2.2)]) [(20000,1,.row true (ab GNode.encO res.1.show_.nodes)),(20001,1,.row true (ab GTie.enc res.1.show_.ties)),(20002,1,.row true (ab eI res.1.state.times)),(20003,1,.row true (ab eI res.1.state.values)),(20004,1,.row true (ab GEntry.encO res.1.log)),(20005,1,.row true (ab eI res.2.1))]:=by
 refine aj (ra:=[.homeCell 512 0,.homeCell 512 1,.homeCell 512 4,.homeCell 512 5,.homeCell 512 7,.home 9]) (md:=mdT) hT (hi:=hi00) Tryz.func51 rfl rfl (by decide +kernel) (by simp) ?_
 unfold kF at h
 obtain ⟨r1001,g1,h⟩:=ae h
 simp(config:=cS)only[go_sem]
 refine ag (Bu g1) ?_
 obtain ⟨h2,h⟩|⟨h2,h⟩:=af h
 ·obtain ⟨r1002,g3,h⟩:=ae h
  simp(config:=cS)only[go_sem,eqT h2]
  refine ag (zA g3) ?_
  obtain ⟨h4,h⟩|⟨h4,h⟩:=af h
  ·obtain ⟨r1003,g5,h⟩:=ae h
   simp(config:=cS)only[go_sem,eZt h4]
   refine ag (zB g5) ?_
   cases h
   simp(config:=cS)only[go_sem]
  ·obtain ⟨r1004,g6,h⟩:=ae h
   simp(config:=cS)only[go_sem,eZf h4]
   refine ag (rH g6) ?_
   cases h
   simp(config:=cS)only[go_sem]
 ·obtain ⟨r1005,g7,h⟩:=ae h
  simp(config:=cS)only[go_sem,eqF h2]
  refine ag (rH g7) ?_
  cases h
  simp(config:=cS)only[go_sem]
def kf (zb0:Bool)(f_v1:Nat)(k_v1:List AV):(Int × Int × (List (List Int)))→St
 | (v5,v6,v0)=>⟨[(0,.ref 10000 0 0 v0.length),(1,.fn f_v1 k_v1),(5,.lit (.int .i64 v5)),(6,.lit (.int .i64 v6))],[(10000,0,.row zb0 (ab (eLS eI) v0))],2⟩
attribute [go_sem] kf
attribute [go_sem] Tryz.ntmps87 Tryz.results87
theorem tv {v0:List (List Int)}{v1:(List Int)→Option Bool}{zb0:Bool}{f_v1:Nat}{k_v1:List AV}(hp_v1:∀ y0 r,v1 y0=some r→ao Tryz.prog f_v1 ([.sl (ab eI y0)] ++ k_v1) [] (.lit (.bool r)) [])(hc_v1:KC k_v1)(hm_v1:∀ a,mdT f_v1 a=⟨[],false⟩)(hk_v1:spf f_v1=false){res:List (List Int)}(h:dt v0 v1=some res):ao Tryz.prog 87 [.ref 10000 0 0 v0.length,.fn f_v1 k_v1] [(10000,0,.row zb0 (ab (eLS eI) v0))] (.ref 10000 0 0 res.length) [(10000,0,.row false (ab (eLS eI) res))]:=by
 refine aj (ra:=[.home 4,.trim 4]) (md:=mdT) hT (hi:=hi00) Tryz.func87 rfl rfl (by decide +kernel) (by simp) ?_
 unfold dt at h
 obtain ⟨r1001,g1,h⟩:=ae h
 simp(config:=cS)only[go_sem,hc_v1.1,hc_v1.2,hm_v1,hk_v1]
 refine ag (oa hp_v1 hc_v1 hm_v1 hk_v1 g1) ?_
 obtain ⟨h2,h⟩|⟨h2,h⟩:=af h
 ·cases h
  simp(config:=cS)only[go_sem,hc_v1.1,hc_v1.2,hm_v1,hk_v1,eqT h2]
 ·obtain ⟨q1005,l3,h⟩:=ae h
  simp(config:=cS)only[go_sem,hc_v1.1,hc_v1.2,hm_v1,hk_v1,eqF h2]
  refine an (m1:=.mk) (m2:=.mk) [.nf [0,1,5,6] [10000]] (kf zb0 f_v1 k_v1) l3 ?_ ?_
  ·simp(config:=cS)only[go_sem,hc_v1.1,hc_v1.2,hm_v1,hk_v1,eqF h2]
  ·intro nb4 sb4 bb4 b4 gb4
   obtain ⟨v5_1,v6_1,v0_1⟩:=sb4
   unfold cG at b4
   try dsimp only at b4
   obtain ⟨h5,b4⟩|⟨h5,b4⟩:=af b4
   ·obtain ⟨x1002,g6,b4⟩:=ae b4
    obtain ⟨h7,h8,h9⟩:=ai g6
    obtain ⟨r1003,g10,b4⟩:=ae b4
    simp(config:=cS)only[go_sem,hc_v1.1,hc_v1.2,hm_v1,hk_v1,eqF h2,eqT h5,h7,h8,h9]
    refine ag (hp_v1 _ _ g10) ?_
    obtain ⟨h11,b4⟩|⟨h11,b4⟩:=af b4
    ·cases b4
     simp(config:=cS)only[go_sem,hc_v1.1,hc_v1.2,hm_v1,hk_v1,eqF h2,eqT h5,h7,h8,h9,eZt h11]
     refine ap gb4 ?_
     simp(config:=cS)only[go_sem,hc_v1.1,hc_v1.2,hm_v1,hk_v1,eqF h2,eqT h5,h7,h8,h9,eZt h11]
    ·obtain ⟨x1004,g12,b4⟩:=ae b4
     obtain ⟨h13,h14,h15⟩:=ai g12
     cases b4
     simp(config:=cS)only[go_sem,hc_v1.1,hc_v1.2,hm_v1,hk_v1,eqF h2,eqT h5,h7,h8,h9,eZf h11,h13,h14,h15]
     refine ap gb4 ?_
     simp(config:=cS)only[go_sem,hc_v1.1,hc_v1.2,hm_v1,hk_v1,eqF h2,eqT h5,h7,h8,h9,eZf h11,h13,h14,h15]
   ·cases b4
    obtain rfl:=(ak gb4).symm
    try dsimp only at h
    obtain ⟨h17,h⟩:=ah h
    obtain ⟨h18,h⟩:=ah h
    obtain ⟨h19,h⟩:=ah h
    cases h
    simp(config:=cS)only[go_sem,hc_v1.1,hc_v1.2,hm_v1,hk_v1,eqF h2,eqF h5,eqT h17,eqT h18,eqT h19]
attribute [go_sem] Tryz.ntmps89 Tryz.results89
theorem uP {nodes:List Int}{node:Int}{res:Bool}(h:iB nodes node=some res):ao Tryz.prog 89 [.sl (ab eI nodes),.loc [.lit (.int .i64 node)]] [] (.lit (.bool res)) []:=by
 refine aj (ra:=[]) (md:=mdT) hT (hi:=hi00) Tryz.func89 rfl rfl (by decide +kernel) (by simp) ?_
 unfold iB at h
 obtain ⟨r1001,g1,h⟩:=ae h
 simp(config:=cS)only[go_sem]
 refine ag (iu g1) ?_
 cases h
 simp(config:=cS)only[go_sem]
@[go_sem] def hi85_1:DT:=.i2 0 (.i2 1 (.i2 3 (.i1 5 (.i1 6 (.i0 2 [5,6] (.i0 4 [5,6] (.i2 7 (.i2 8 (.i2 9 (.i2 10 (.i2 11 .nil)))))))))))
def hi85:Hint where
 acts:=fun _=>[]
 draws:=fun
  | 1=>⟨hi85_1,[[],[],[0,1],[],[0,1,2,3],[],[5],.range 7,.range 8,.range 8,.range 10,.range 11],.range 12⟩
  | _=>⟨.nil,[],[]⟩
theorem RW (i:Nat):hi85.acts i=[]:=rfl
theorem RX (i:Nat):hi85.views i=none:=rfl
attribute [go_sem] RW RX Tryz.ntmps85 Tryz.results85
@[go_sem] theorem TW:(hi85.draws 1).order=hi85_1:=rfl
theorem si {g_s:GShow}{g_known:List (ByteArray × Bool)}{v1:GState}{node:Int}{d:GDesk}{res:(List Int) × Bool × (List (ByteArray × Bool))}(h:ig g_s g_known v1 node d=some res):ao Tryz.prog 85 [.ptr 10000 0 0 0,.agg (GState.encS v1),.loc [.lit (.int .i64 node)],.loc [.sl (ab GNode.encS d.show_.nodes),.sl (ab GTie.enc d.show_.ties),.lit (.int .i64 d.show_.horizon),.lit (.int .i64 d.state.now),.sl (ab eI d.state.times),.sl (ab eI d.state.values),.lit (.bool d.lazy),.sl (ab GEntry.encS d.log)]] [(10000,0,.var [.sl (ab GNode.encS g_s.nodes),.sl (ab GTie.enc g_s.ties),.lit (.int .i64 g_s.horizon),.mp 10001 0]),(10001,0,.map (eM g_known))] (.tup [.sl (ab eI res.1),.lit (.bool res.2.1)]) [(10000,0,.var [.sl (ab GNode.encS g_s.nodes),.sl (ab GTie.enc g_s.ties),.lit (.int .i64 g_s.horizon),.mp 10001 0]),(10001,0,.map (eM res.2.2))]:=by
 refine aj (ra:=[.home 6]) (md:=mdT) hT (hi:=hi85) Tryz.func85 rfl rfl (by decide +kernel) (by simp) ?_
 unfold ig at h
 obtain ⟨r1001,g1,h⟩:=ae h
 simp(config:=cS)only[go_sem]
 refine ag (zG g1) ?_
 obtain ⟨r1002,g2,h⟩:=ae h
 simp(config:=cS)only[go_sem]
 refine ag (tv (by exact fun _ _ hr=>uP hr) (by refine ⟨fun _=>?_,fun _=>?_⟩ <;> simp only [go_sem]) (fun _=>rfl) rfl g2) ?_
 obtain ⟨r1003,g3,h⟩:=ae h
 simp(config:=cS)only[go_sem]
 refine ag (GN g3) ?_
 cases h
 simp(config:=cS)only[go_sem]
def cC (ties values nodes:List Int)(v90 out_2 out_3:Int)(out_6:Bool)(v15_0:Int)(v15_1 v15_2:List Int)(next_0:Int)(h1600:List GNode)(h1601:List GTie)(h1602 h1603:List Int)(h1604:List GEntry)(h5504 h5505 v89:List Int):(Int × (List Int))→St
 | (v91,seen)=>⟨[(1,.sl (ab eI ties)),(2,.sl (ab eI values)),(10,.ptr 640 1 0 0),(13,.ptr 832 1 0 0),(15,.ptr 960 1 0 0),(17,.sl (ab eI nodes)),(19,.ptr 1216 1 0 0),(20,.ref 5506 1 0 v89.length),(21,.ref 1407 1 0 seen.length),(89,.ref 5506 1 0 v89.length),(90,.lit (.int .i64 v90)),(91,.lit (.int .i64 v91))],[(640,1,.var [.lit (.slice none 0 0),.lit (.slice none 0 0),.lit (.int .i64 0),.lit (.int .i64 0),.lit (.slice none 0 0),.lit (.slice none 0 0),.lit (.bool false),.lit (.slice none 0 0)]),(832,1,.var [.ref 1600 1 0 h1600.length,.ref 1601 1 0 h1601.length,.lit (.int .i64 out_2),.lit (.int .i64 out_3),.ref 1602 1 0 h1602.length,.ref 1603 1 0 h1603.length,.lit (.bool out_6),.ref 1604 1 0 h1604.length]),(1600,1,.row true (ab GNode.encO h1600)),(1601,1,.row true (ab GTie.enc h1601)),(1602,1,.row true (ab eI h1602)),(1603,1,.row true (ab eI h1603)),(1604,1,.row true (ab GEntry.encO h1604)),(960,1,.var [.lit (.int .i64 v15_0),.sl (ab eI v15_1),.sl (ab eI v15_2)]),(1216,1,.var [.lit (.int .i64 next_0),.ref 5504 1 0 h5504.length,.ref 5505 1 0 h5505.length]),(5504,1,.row true (ab eI h5504)),(5505,1,.row true (ab eI h5505)),(5506,1,.row true (ab eI v89)),(1407,1,.row true (ab eI seen))],2⟩
attribute [go_sem] cC
@[go_sem] def hi71_s85_22:DT:=.i1 0 (.i2 1 (.i0 2 [0] (.i2 3 (.i2 4 (.i2 5 .nil)))))
@[go_sem] def hi71_s85_21:DT:=.i1 0 (.i1 1 (.i1 2 (.i1 3 (.i2 4 (.i2 6 (.i2 8 (.i2 9 (.i0 5 [0,1,2,3] (.i0 7 [0,1,2,3] (.i0 10 [0,1,2,3] (.i2 11 (.i0 12 [0,1] (.i2 13 (.i2 14 (.i2 15 .nil)))))))))))))))
@[go_sem] def hi71_s85_10:DT:=.i2 0 (.i2 1 (.i1 3 (.i0 2 [3] (.i2 4 (.i2 5 (.i2 6 (.i2 7 (.i2 8 (.i2 9 .nil)))))))))
@[go_sem] def hi71_s85_4:DT:=.i1 0 (.i1 1 (.i1 2 (.i1 3 (.fork (.i0 4 [0,1,2,3] (.i0 5 [0,1,2,3] (.i0 6 [2,3] (.i2 7 .nil)))) (.i0 5 [0,1,2,3] (.i0 4 [0,1,2,3] (.i0 6 [2,3] (.i2 7 .nil))))))))
def pn:Hint where
 acts:=fun _=>[]
 draws:=fun
  | 4=>⟨hi71_s85_4,[[],[0],[],[2],[],[],[0,1,4,5],.range 7],[0,1,5,6,2,3,4,7]⟩
  | 10=>⟨hi71_s85_10,[[],[],[1],[],[0,1,2,3],.range 5,.range 6,.range 6,.range 7,.range 9],[0,1,2,3,4,5,6,8,7,9]⟩
  | 21=>⟨hi71_s85_21,[[],[0],[],[2],[],[4],[],[4,5,6],[],[],[4,5,6,7,8,9],[2,3,4,5,6,7,8,9,10],[2,3,4,5,6,7,8,9,10,11],.range 13,.range 14,.range 15],.range 16⟩
  | 22=>⟨hi71_s85_22,[[],[],[1],[0,1,2],[0,1,2,3],.range 5],.range 6⟩
  | _=>⟨.nil,[],[]⟩
theorem KZ (i:Nat):pn.acts i=[]:=rfl
theorem La (i:Nat):pn.views i=none:=rfl
attribute [go_sem] KZ La Tryz.ntmps71 Tryz.results71
@[go_sem] theorem RY:(pn.draws 4).order=hi71_s85_4:=rfl
@[go_sem] theorem Rx:(pn.draws 10).order=hi71_s85_10:=rfl
@[go_sem] theorem Ry:(pn.draws 21).order=hi71_s85_21:=rfl
@[go_sem] theorem Rz:(pn.draws 22).order=hi71_s85_22:=rfl
theorem nL {d:GDesk}{ties values:List Int}{refused node:Int}{d':GDesk}{res:GDesk × (List Int) × Int}(h:bA d ties values refused node d'=some res):ao Tryz.prog 71 [.agg (GDesk.encS d),.sl (ab eI ties),.sl (ab eI values),.lit (.int .i64 refused),.fn 85 [.loc [.lit (.int .i64 node)],.loc [.sl (ab GNode.encS d'.show_.nodes),.sl (ab GTie.enc d'.show_.ties),.lit (.int .i64 d'.show_.horizon),.lit (.int .i64 d'.state.now),.sl (ab eI d'.state.times),.sl (ab eI d'.state.values),.lit (.bool d'.lazy),.sl (ab GEntry.encS d'.log)]]] [] (.tup [.agg [.ref 20000 1 0 res.1.show_.nodes.length,.ref 20001 1 0 res.1.show_.ties.length,.lit (.int .i64 res.1.show_.horizon),.lit (.int .i64 res.1.state.now),.ref 20002 1 0 res.1.state.times.length,.ref 20003 1 0 res.1.state.values.length,.lit (.bool res.1.lazy),.ref 20004 1 0 res.1.log.length],.ref 20005 1 0 res.2.1.length,.lit (.int .i64 res.2.2)]) [(20000,1,.row true (ab GNode.encO res.1.show_.nodes)),(20001,1,.row true (ab GTie.enc res.1.show_.ties)),(20002,1,.row true (ab eI res.1.state.times)),(20003,1,.row true (ab eI res.1.state.values)),(20004,1,.row true (ab GEntry.encO res.1.log)),(20005,1,.row true (ab eI res.2.1))]:=by
 refine aj (ra:=[.homeCell 640 0,.homeCell 640 1,.homeCell 640 4,.homeCell 640 5,.homeCell 640 7,.home 11]) (md:=mdT) hT (hi:=pn) Tryz.func71 rfl rfl (by decide +kernel) (by simp) ?_
 unfold bA at h
 obtain ⟨r1001,g1,h⟩:=ae h
 simp(config:=cS)only[go_sem]
 refine ag (BA g1) ?_
 obtain ⟨r1002,g2,h⟩:=ae h
 simp(config:=cS)only[go_sem]
 refine ag (ES g2) ?_
 obtain ⟨h3,h⟩|⟨h3,h⟩:=af h
 ·obtain ⟨h4,h⟩|⟨h4,h⟩:=af h
  ·obtain ⟨r1003,g5,h⟩:=ae h
   simp(config:=cS)only[go_sem,eZt h3,eqT h4]
   refine ag (fi (by exact fun _ _ hr=>wk hr) (by refine ⟨fun _=>?_,fun _=>?_⟩ <;> simp only [go_sem]) (fun _=>rfl) rfl g5) ?_
   obtain ⟨h6,h⟩|⟨h6,h⟩:=af h
   ·cases h
    simp(config:=cS)only[go_sem,eZt h3,eqT h4,eZt h6]
   ·try simp(config:=cS)only[go_sem,eZt h3,eqT h4,eZf h6]
    refine br ?_ ?_
    ·obtain ⟨r1004,g7,h⟩:=ae h
     simp(config:=cS)only[go_sem,eZt h3,eqT h4,eZf h6]
     refine ag (qO g7) ?_
     obtain ⟨h8,h⟩|⟨h8,h⟩:=af h
     ·cases h
      simp(config:=cS)only[go_sem,eZt h3,eqT h4,eZf h6,eZt h8]
     ·obtain ⟨r1005,g9,h⟩:=ae h
      simp(config:=cS)only[go_sem,eZt h3,eqT h4,eZf h6,eZf h8]
      refine ag (nR g9) ?_
      obtain ⟨h10,h⟩|⟨h10,h⟩:=af h
      ·cases h
       simp(config:=cS)only[go_sem,eZt h3,eqT h4,eZf h6,eZf h8,eZt h10]
      ·obtain ⟨h11,h⟩|⟨h11,h⟩:=af h
       ·cases h
        simp(config:=cS)only[go_sem,eZt h3,eqT h4,eZf h6,eZf h8,eZf h10,eqT h11]
       ·obtain ⟨r1006,g12,h⟩:=ae h
        simp(config:=cS)only[go_sem,eZt h3,eqT h4,eZf h6,eZf h8,eZf h10,eqF h11]
        refine ag (nQ g12) ?_
        obtain ⟨r1007,g13,h⟩:=ae h
        simp(config:=cS)only[go_sem,eZt h3,eqT h4,eZf h6,eZf h8,eZf h10,eqF h11]
        refine ag (sR g13) ?_
        obtain ⟨h14,h⟩|⟨h14,h⟩:=af h
        ·obtain ⟨r1008,g15,h⟩:=ae h
         simp(config:=cS)only[go_sem,eZt h3,eqT h4,eZf h6,eZf h8,eZf h10,eqF h11,eZt h14]
         refine ag (qL g15) ?_
         obtain ⟨r1009,g16,h⟩:=ae h
         simp(config:=cS)only[go_sem,eZt h3,eqT h4,eZf h6,eZf h8,eZf h10,eqF h11,eZt h14]
         refine ag (uX g16) ?_
         obtain ⟨r1010,g17,h⟩:=ae h
         simp(config:=cS)only[go_sem,eZt h3,eqT h4,eZf h6,eZf h8,eZf h10,eqF h11,eZt h14]
         refine ag (si g17) ?_
         obtain ⟨h18,h⟩|⟨h18,h⟩:=af h
         ·obtain ⟨r1011,g19,h⟩:=ae h
          simp(config:=cS)only[go_sem,eZt h3,eqT h4,eZf h6,eZf h8,eZf h10,eqF h11,eZt h14,eZt h18]
          refine ag (lq g19) ?_
          obtain ⟨q1019,l20,h⟩:=ae h
          simp(config:=cS)only[go_sem,eZt h3,eqT h4,eZf h6,eZf h8,eZf h10,eqF h11,eZt h14,eZt h18]
          refine an (m1:=.mk) (m2:=.mk) [.home 21,.nf [1,2,10,13,15,17,19,20,21,89,90,91] [640,832,1600,1601,1602,1603,1604,960,1216,5504,5505,5506,1407]] (cC ties values r1010.1 ((r1011.2.length:Nat):Int) r1001.show_.horizon r1001.state.now r1001.lazy d.state.now d.state.times d.state.values r1011.1.now r1001.show_.nodes r1001.show_.ties r1001.state.times r1001.state.values r1001.log r1011.1.times r1011.1.values r1011.2) l20 ?_ ?_
          ·simp(config:=cS)only[go_sem,eZt h3,eqT h4,eZf h6,eZf h8,eZf h10,eqF h11,eZt h14,eZt h18]
          ·intro nb21 sb21 bb21 b21 gb21
           obtain ⟨v91_1,seen_1⟩:=sb21
           unfold aZ at b21
           try dsimp only at b21
           obtain ⟨h22,b21⟩|⟨h22,b21⟩:=af b21
           ·obtain ⟨x1012,g23,b21⟩:=ae b21
            obtain ⟨h24,h25,h26⟩:=ai g23
            obtain ⟨x1013,g27,b21⟩:=ae b21
            obtain ⟨h28,h29,h30⟩:=ai g27
            obtain ⟨h31,b21⟩:=ah b21
            obtain ⟨h32,b21⟩:=ah b21
            cases b21
            simp(config:=cS)only[go_sem,eZt h3,eqT h4,eZf h6,eZf h8,eZf h10,eqF h11,eZt h14,eZt h18,eqT h22,h24,h25,h26,h28,h29,h30,eqT h31,eqT h32]
            refine ap gb21 ?_
            simp(config:=cS)only[go_sem,eZt h3,eqT h4,eZf h6,eZf h8,eZf h10,eqF h11,eZt h14,eZt h18,eqT h22,h24,h25,h26,h28,h29,h30,eqT h31,eqT h32]
           ·cases b21
            obtain rfl:=(ak gb21).symm
            try dsimp only at h
            obtain ⟨r1014,g34,h⟩:=ae h
            simp(config:=cS)only[go_sem,eZt h3,eqT h4,eZf h6,eZf h8,eZf h10,eqF h11,eZt h14,eZt h18,eqF h22]
            refine ag (kg g34) ?_
            obtain ⟨r1015,g35,h⟩:=ae h
            simp(config:=cS)only[go_sem,eZt h3,eqT h4,eZf h6,eZf h8,eZf h10,eqF h11,eZt h14,eZt h18,eqF h22]
            refine ag (bf g35) ?_
            obtain ⟨r1016,g36,h⟩:=ae h
            simp(config:=cS)only[go_sem,eZt h3,eqT h4,eZf h6,eZf h8,eZf h10,eqF h11,eZt h14,eZt h18,eqF h22]
            refine ag (bf g36) ?_
            obtain ⟨r1017,g37,h⟩:=ae h
            simp(config:=cS)only[go_sem,eZt h3,eqT h4,eZf h6,eZf h8,eZf h10,eqF h11,eZt h14,eZt h18,eqF h22]
            refine ag (uh g37) ?_
            obtain ⟨h38,h⟩:=ah h
            obtain ⟨h39,h⟩:=ah h
            obtain ⟨r1018,g40,h⟩:=ae h
            simp(config:=cS)only[go_sem,eZt h3,eqT h4,eZf h6,eZf h8,eZf h10,eqF h11,eZt h14,eZt h18,eqF h22,eqT h38,eqT h39]
            refine ag (bf g40) ?_
            cases h
            simp(config:=cS)only[go_sem,eZt h3,eqT h4,eZf h6,eZf h8,eZf h10,eqF h11,eZt h14,eZt h18,eqF h22,eqT h38,eqT h39]
         ·cases h
          simp(config:=cS)only[go_sem,eZt h3,eqT h4,eZf h6,eZf h8,eZf h10,eqF h11,eZt h14,eZf h18]
        ·cases h
         simp(config:=cS)only[go_sem,eZt h3,eqT h4,eZf h6,eZf h8,eZf h10,eqF h11,eZf h14]
    ·obtain ⟨r1020,g41,h⟩:=ae h
     simp(config:=cS)only[go_sem,eZt h3,eqT h4,eZf h6]
     refine ag (qO g41) ?_
     obtain ⟨h42,h⟩|⟨h42,h⟩:=af h
     ·cases h
      simp(config:=cS)only[go_sem,eZt h3,eqT h4,eZf h6,eZt h42]
     ·obtain ⟨r1021,g43,h⟩:=ae h
      simp(config:=cS)only[go_sem,eZt h3,eqT h4,eZf h6,eZf h42]
      refine ag (nR g43) ?_
      obtain ⟨h44,h⟩|⟨h44,h⟩:=af h
      ·cases h
       simp(config:=cS)only[go_sem,eZt h3,eqT h4,eZf h6,eZf h42,eZt h44]
      ·obtain ⟨h45,h⟩|⟨h45,h⟩:=af h
       ·cases h
        simp(config:=cS)only[go_sem,eZt h3,eqT h4,eZf h6,eZf h42,eZf h44,eqT h45]
       ·obtain ⟨r1022,g46,h⟩:=ae h
        simp(config:=cS)only[go_sem,eZt h3,eqT h4,eZf h6,eZf h42,eZf h44,eqF h45]
        refine ag (nQ g46) ?_
        obtain ⟨r1023,g47,h⟩:=ae h
        simp(config:=cS)only[go_sem,eZt h3,eqT h4,eZf h6,eZf h42,eZf h44,eqF h45]
        refine ag (sR g47) ?_
        obtain ⟨h48,h⟩|⟨h48,h⟩:=af h
        ·obtain ⟨r1024,g49,h⟩:=ae h
         simp(config:=cS)only[go_sem,eZt h3,eqT h4,eZf h6,eZf h42,eZf h44,eqF h45,eZt h48]
         refine ag (qL g49) ?_
         obtain ⟨r1025,g50,h⟩:=ae h
         simp(config:=cS)only[go_sem,eZt h3,eqT h4,eZf h6,eZf h42,eZf h44,eqF h45,eZt h48]
         refine ag (uX g50) ?_
         obtain ⟨r1026,g51,h⟩:=ae h
         simp(config:=cS)only[go_sem,eZt h3,eqT h4,eZf h6,eZf h42,eZf h44,eqF h45,eZt h48]
         refine ag (si g51) ?_
         obtain ⟨h52,h⟩|⟨h52,h⟩:=af h
         ·obtain ⟨r1027,g53,h⟩:=ae h
          simp(config:=cS)only[go_sem,eZt h3,eqT h4,eZf h6,eZf h42,eZf h44,eqF h45,eZt h48,eZt h52]
          refine ag (lq g53) ?_
          obtain ⟨q1035,l54,h⟩:=ae h
          simp(config:=cS)only[go_sem,eZt h3,eqT h4,eZf h6,eZf h42,eZf h44,eqF h45,eZt h48,eZt h52]
          refine an (m1:=.mk) (m2:=.mk) [.home 21,.nf [1,2,10,13,15,17,19,20,21,89,90,91] [640,832,1600,1601,1602,1603,1604,960,1216,5504,5505,5506,1407]] (cC ties values r1026.1 ((r1027.2.length:Nat):Int) r1001.show_.horizon r1001.state.now r1001.lazy d.state.now d.state.times d.state.values r1027.1.now r1001.show_.nodes r1001.show_.ties r1001.state.times r1001.state.values r1001.log r1027.1.times r1027.1.values r1027.2) l54 ?_ ?_
          ·simp(config:=cS)only[go_sem,eZt h3,eqT h4,eZf h6,eZf h42,eZf h44,eqF h45,eZt h48,eZt h52]
          ·intro nb55 sb55 bb55 b55 gb55
           obtain ⟨v91_2,seen_2⟩:=sb55
           unfold aZ at b55
           try dsimp only at b55
           obtain ⟨h56,b55⟩|⟨h56,b55⟩:=af b55
           ·obtain ⟨x1028,g57,b55⟩:=ae b55
            obtain ⟨h58,h59,h60⟩:=ai g57
            obtain ⟨x1029,g61,b55⟩:=ae b55
            obtain ⟨h62,h63,h64⟩:=ai g61
            obtain ⟨h65,b55⟩:=ah b55
            obtain ⟨h66,b55⟩:=ah b55
            cases b55
            simp(config:=cS)only[go_sem,eZt h3,eqT h4,eZf h6,eZf h42,eZf h44,eqF h45,eZt h48,eZt h52,eqT h56,h58,h59,h60,h62,h63,h64,eqT h65,eqT h66]
            refine ap gb55 ?_
            simp(config:=cS)only[go_sem,eZt h3,eqT h4,eZf h6,eZf h42,eZf h44,eqF h45,eZt h48,eZt h52,eqT h56,h58,h59,h60,h62,h63,h64,eqT h65,eqT h66]
           ·cases b55
            obtain rfl:=(ak gb55).symm
            try dsimp only at h
            obtain ⟨r1030,g68,h⟩:=ae h
            simp(config:=cS)only[go_sem,eZt h3,eqT h4,eZf h6,eZf h42,eZf h44,eqF h45,eZt h48,eZt h52,eqF h56]
            refine ag (kg g68) ?_
            obtain ⟨r1031,g69,h⟩:=ae h
            simp(config:=cS)only[go_sem,eZt h3,eqT h4,eZf h6,eZf h42,eZf h44,eqF h45,eZt h48,eZt h52,eqF h56]
            refine ag (bf g69) ?_
            obtain ⟨r1032,g70,h⟩:=ae h
            simp(config:=cS)only[go_sem,eZt h3,eqT h4,eZf h6,eZf h42,eZf h44,eqF h45,eZt h48,eZt h52,eqF h56]
            refine ag (bf g70) ?_
            obtain ⟨r1033,g71,h⟩:=ae h
            simp(config:=cS)only[go_sem,eZt h3,eqT h4,eZf h6,eZf h42,eZf h44,eqF h45,eZt h48,eZt h52,eqF h56]
            refine ag (uh g71) ?_
            obtain ⟨h72,h⟩:=ah h
            obtain ⟨h73,h⟩:=ah h
            obtain ⟨r1034,g74,h⟩:=ae h
            simp(config:=cS)only[go_sem,eZt h3,eqT h4,eZf h6,eZf h42,eZf h44,eqF h45,eZt h48,eZt h52,eqF h56,eqT h72,eqT h73]
            refine ag (bf g74) ?_
            cases h
            simp(config:=cS)only[go_sem,eZt h3,eqT h4,eZf h6,eZf h42,eZf h44,eqF h45,eZt h48,eZt h52,eqF h56,eqT h72,eqT h73]
         ·cases h
          simp(config:=cS)only[go_sem,eZt h3,eqT h4,eZf h6,eZf h42,eZf h44,eqF h45,eZt h48,eZf h52]
        ·cases h
         simp(config:=cS)only[go_sem,eZt h3,eqT h4,eZf h6,eZf h42,eZf h44,eqF h45,eZf h48]
  ·cases h
   simp(config:=cS)only[go_sem,eZt h3,eqF h4]
 ·cases h
  simp(config:=cS)only[go_sem,eZf h3]
attribute [go_sem] Tryz.ntmps28 Tryz.results28
theorem uc {d:GDesk}{ties:List Int}{node:Int}{values:List Int}{res:GDesk × (List Int) × Int}(h:iC d ties node values=some res):ao Tryz.prog 28 [.agg (GDesk.encS d),.sl (ab eI ties),.lit (.int .i64 node),.sl (ab eI values)] [] (.tup [.agg [.ref 20000 1 0 res.1.show_.nodes.length,.ref 20001 1 0 res.1.show_.ties.length,.lit (.int .i64 res.1.show_.horizon),.lit (.int .i64 res.1.state.now),.ref 20002 1 0 res.1.state.times.length,.ref 20003 1 0 res.1.state.values.length,.lit (.bool res.1.lazy),.ref 20004 1 0 res.1.log.length],.ref 20005 1 0 res.2.1.length,.lit (.int .i64 res.2.2)]) [(20000,1,.row true (ab GNode.encO res.1.show_.nodes)),(20001,1,.row true (ab GTie.enc res.1.show_.ties)),(20002,1,.row true (ab eI res.1.state.times)),(20003,1,.row true (ab eI res.1.state.values)),(20004,1,.row true (ab GEntry.encO res.1.log)),(20005,1,.row true (ab eI res.2.1))]:=by
 refine aj (ra:=[.homeCell 512 0,.homeCell 512 1,.homeCell 512 4,.homeCell 512 5,.homeCell 512 7,.home 9]) (md:=mdT) hT (hi:=hi00) Tryz.func28 rfl rfl (by decide +kernel) (by simp) ?_
 unfold iC at h
 obtain ⟨r1001,g1,h⟩:=ae h
 simp(config:=cS)only[go_sem]
 refine ag (nL g1) ?_
 cases h
 simp(config:=cS)only[go_sem]
@[go_sem] def hi8_16:DT:=.i1 0 (.i2 1 (.i0 2 [0] (.i2 3 (.i2 4 .nil))))
def hi8:Hint where
 acts:=fun _=>[]
 draws:=fun
  | 16=>⟨hi8_16,[[],[],[1],[0,1,2],[0,1,2,3]],.range 5⟩
  | _=>⟨.nil,[],[]⟩
theorem hi8a (i:Nat):hi8.acts i=[]:=rfl
theorem hi8v (i:Nat):hi8.views i=none:=rfl
attribute [go_sem] hi8a hi8v Tryz.ntmps8 Tryz.results8
@[go_sem] theorem TX:(hi8.draws 16).order=hi8_16:=rfl
theorem ux {aD:GDesk}{aTies:List Int}{aNode:Int}{aValues:List Int}{res:Bool}(h:gO aD aTies aNode aValues=some res):ao Tryz.prog 8 [.agg (GDesk.encS aD),.sl (ab eI aTies),.lit (.int .i64 aNode),.sl (ab eI aValues)] [] (.lit (.bool res)) []:=by
 refine aj (ra:=[]) (md:=mdT) hT (hi:=hi8) Tryz.func8 rfl rfl (by decide +kernel) (by simp) ?_
 unfold gO at h
 obtain ⟨h1,h⟩|⟨h1,h⟩:=af h
 ·cases h
  simp(config:=cS)only[go_sem,eqT h1]
 ·obtain ⟨h2,h⟩|⟨h2,h⟩:=af h
  ·cases h
   simp(config:=cS)only[go_sem,eqF h1,eqT h2]
  ·obtain ⟨r1001,g3,h⟩:=ae h
   simp(config:=cS)only[go_sem,eqF h1,eqF h2]
   refine ag (EE g3) ?_
   obtain ⟨h4,h⟩|⟨h4,h⟩:=af h
   ·cases h
    simp(config:=cS)only[go_sem,eqF h1,eqF h2,eqT h4]
   ·obtain ⟨r1002,g5,h⟩:=ae h
    simp(config:=cS)only[go_sem,eqF h1,eqF h2,eqF h4]
    refine ag (oZ g5) ?_
    obtain ⟨r1003,g6,h⟩:=ae h
    simp(config:=cS)only[go_sem,eqF h1,eqF h2,eqF h4]
    refine ag (bN g6) ?_
    obtain ⟨r1004,g7,h⟩:=ae h
    simp(config:=cS)only[go_sem,eqF h1,eqF h2,eqF h4]
    refine ag (bN g7) ?_
    obtain ⟨r1005,g8,h⟩:=ae h
    simp(config:=cS)only[go_sem,eqF h1,eqF h2,eqF h4]
    refine ag (Bl g8) ?_
    obtain ⟨r1006,g9,h⟩:=ae h
    simp(config:=cS)only[go_sem,eqF h1,eqF h2,eqF h4]
    refine ag (oZ g9) ?_
    obtain ⟨r1007,g10,h⟩:=ae h
    simp(config:=cS)only[go_sem,eqF h1,eqF h2,eqF h4]
    refine ag (bN g10) ?_
    obtain ⟨r1008,g11,h⟩:=ae h
    simp(config:=cS)only[go_sem,eqF h1,eqF h2,eqF h4]
    refine ag (bN g11) ?_
    obtain ⟨r1009,g12,h⟩:=ae h
    simp(config:=cS)only[go_sem,eqF h1,eqF h2,eqF h4]
    refine ag (uc g12) ?_
    obtain ⟨r1010,g13,h⟩:=ae h
    simp(config:=cS)only[go_sem,eqF h1,eqF h2,eqF h4]
    refine ag (pf g13) ?_
    obtain ⟨h14,h⟩|⟨h14,h⟩:=af h
    ·obtain ⟨r1011,g15,h⟩:=ae h
     simp(config:=cS)only[go_sem,eqF h1,eqF h2,eqF h4,eZt h14]
     refine ag (cM g15) ?_
     obtain ⟨h16,h⟩|⟨h16,h⟩:=af h
     ·obtain ⟨h17,h⟩|⟨h17,h⟩:=af h
      ·obtain ⟨r1012,g18,h⟩:=ae h
       simp(config:=cS)only[go_sem,eqF h1,eqF h2,eqF h4,eZt h14,eZt h16,eqT h17]
       refine ag (oZ g18) ?_
       obtain ⟨r1013,g19,h⟩:=ae h
       simp(config:=cS)only[go_sem,eqF h1,eqF h2,eqF h4,eZt h14,eZt h16,eqT h17]
       refine ag (pf g19) ?_
       obtain ⟨h20,h⟩|⟨h20,h⟩:=af h
       ·obtain ⟨r1014,g21,h⟩:=ae h
        simp(config:=cS)only[go_sem,eqF h1,eqF h2,eqF h4,eZt h14,eZt h16,eqT h17,eZt h20]
        refine ag (bN g21) ?_
        obtain ⟨r1015,g22,h⟩:=ae h
        simp(config:=cS)only[go_sem,eqF h1,eqF h2,eqF h4,eZt h14,eZt h16,eqT h17,eZt h20]
        refine ag (cM g22) ?_
        obtain ⟨h23,h⟩|⟨h23,h⟩:=af h
        ·obtain ⟨r1016,g24,h⟩:=ae h
         simp(config:=cS)only[go_sem,eqF h1,eqF h2,eqF h4,eZt h14,eZt h16,eqT h17,eZt h20,eZt h23]
         refine ag (bN g24) ?_
         obtain ⟨r1017,g25,h⟩:=ae h
         simp(config:=cS)only[go_sem,eqF h1,eqF h2,eqF h4,eZt h14,eZt h16,eqT h17,eZt h20,eZt h23]
         refine ag (cM g25) ?_
         obtain ⟨h26,h⟩|⟨h26,h⟩:=af h
         ·obtain ⟨r1018,g27,h⟩:=ae h
          simp(config:=cS)only[go_sem,eqF h1,eqF h2,eqF h4,eZt h14,eZt h16,eqT h17,eZt h20,eZt h23,eZt h26]
          refine ag (uj g27) ?_
          obtain ⟨r1019,g28,h⟩:=ae h
          simp(config:=cS)only[go_sem,eqF h1,eqF h2,eqF h4,eZt h14,eZt h16,eqT h17,eZt h20,eZt h23,eZt h26]
          refine ag (cY g28) ?_
          obtain ⟨r1020,g29,h⟩:=ae h
          simp(config:=cS)only[go_sem,eqF h1,eqF h2,eqF h4,eZt h14,eZt h16,eqT h17,eZt h20,eZt h23,eZt h26]
          refine ag (cY g29) ?_
          obtain ⟨h30,h⟩|⟨h30,h⟩:=af h
          ·cases h
           simp(config:=cS)only[go_sem,eqF h1,eqF h2,eqF h4,eZt h14,eZt h16,eqT h17,eZt h20,eZt h23,eZt h26,eqT h30]
          ·obtain ⟨r1021,g31,h⟩:=ae h
           simp(config:=cS)only[go_sem,eqF h1,eqF h2,eqF h4,eZt h14,eZt h16,eqT h17,eZt h20,eZt h23,eZt h26,eqF h30]
           refine ag (pf g31) ?_
           obtain ⟨h32,h⟩|⟨h32,h⟩:=af h
           ·obtain ⟨r1022,g33,h⟩:=ae h
            simp(config:=cS)only[go_sem,eqF h1,eqF h2,eqF h4,eZt h14,eZt h16,eqT h17,eZt h20,eZt h23,eZt h26,eqF h30,eZt h32]
            refine ag (cM g33) ?_
            obtain ⟨h34,h⟩|⟨h34,h⟩:=af h
            ·obtain ⟨r1023,g35,h⟩:=ae h
             simp(config:=cS)only[go_sem,eqF h1,eqF h2,eqF h4,eZt h14,eZt h16,eqT h17,eZt h20,eZt h23,eZt h26,eqF h30,eZt h32,eZt h34]
             refine ag (uj g35) ?_
             obtain ⟨r1024,g36,h⟩:=ae h
             simp(config:=cS)only[go_sem,eqF h1,eqF h2,eqF h4,eZt h14,eZt h16,eqT h17,eZt h20,eZt h23,eZt h26,eqF h30,eZt h32,eZt h34]
             refine ag (cY g36) ?_
             obtain ⟨h37,h⟩:=ah h
             obtain ⟨h38,h⟩:=ah h
             obtain ⟨h39,h⟩:=ah h
             obtain ⟨h40,h⟩:=ah h
             obtain ⟨h41,h⟩:=ah h
             obtain ⟨r1025,g42,h⟩:=ae h
             simp(config:=cS)only[go_sem,eqF h1,eqF h2,eqF h4,eZt h14,eZt h16,eqT h17,eZt h20,eZt h23,eZt h26,eqF h30,eZt h32,eZt h34,eqT h37,eqT h38,eqT h39,eqT h40,eqT h41]
             refine ag (uk g42) ?_
             obtain ⟨h43,h⟩|⟨h43,h⟩:=af h
             ·cases h
              simp(config:=cS)only[go_sem,eqF h1,eqF h2,eqF h4,eZt h14,eZt h16,eqT h17,eZt h20,eZt h23,eZt h26,eqF h30,eZt h32,eZt h34,eqT h37,eqT h38,eqT h39,eqT h40,eqT h41,eqT h43]
             ·obtain ⟨h44,h⟩:=ah h
              obtain ⟨r1026,g45,h⟩:=ae h
              simp(config:=cS)only[go_sem,eqF h1,eqF h2,eqF h4,eZt h14,eZt h16,eqT h17,eZt h20,eZt h23,eZt h26,eqF h30,eZt h32,eZt h34,eqT h37,eqT h38,eqT h39,eqT h40,eqT h41,eqF h43,eqT h44]
              refine ag (dU g45) ?_
              obtain ⟨h46,h⟩|⟨h46,h⟩:=af h
              ·cases h
               simp(config:=cS)only[go_sem,eqF h1,eqF h2,eqF h4,eZt h14,eZt h16,eqT h17,eZt h20,eZt h23,eZt h26,eqF h30,eZt h32,eZt h34,eqT h37,eqT h38,eqT h39,eqT h40,eqT h41,eqF h43,eqT h44,eqT h46]
              ·obtain ⟨h47,h⟩|⟨h47,h⟩:=af h
               ·obtain ⟨r1027,g48,h⟩:=ae h
                simp(config:=cS)only[go_sem,eqF h1,eqF h2,eqF h4,eZt h14,eZt h16,eqT h17,eZt h20,eZt h23,eZt h26,eqF h30,eZt h32,eZt h34,eqT h37,eqT h38,eqT h39,eqT h40,eqT h41,eqF h43,eqT h44,eqF h46,eqT h47]
                refine ag (oZ g48) ?_
                obtain ⟨r1028,g49,h⟩:=ae h
                simp(config:=cS)only[go_sem,eqF h1,eqF h2,eqF h4,eZt h14,eZt h16,eqT h17,eZt h20,eZt h23,eZt h26,eqF h30,eZt h32,eZt h34,eqT h37,eqT h38,eqT h39,eqT h40,eqT h41,eqF h43,eqT h44,eqF h46,eqT h47]
                refine ag (bN g49) ?_
                obtain ⟨r1029,g50,h⟩:=ae h
                simp(config:=cS)only[go_sem,eqF h1,eqF h2,eqF h4,eZt h14,eZt h16,eqT h17,eZt h20,eZt h23,eZt h26,eqF h30,eZt h32,eZt h34,eqT h37,eqT h38,eqT h39,eqT h40,eqT h41,eqF h43,eqT h44,eqF h46,eqT h47]
                refine ag (bN g50) ?_
                obtain ⟨r1030,g51,h⟩:=ae h
                simp(config:=cS)only[go_sem,eqF h1,eqF h2,eqF h4,eZt h14,eZt h16,eqT h17,eZt h20,eZt h23,eZt h26,eqF h30,eZt h32,eZt h34,eqT h37,eqT h38,eqT h39,eqT h40,eqT h41,eqF h43,eqT h44,eqF h46,eqT h47]
                refine ag (uc g51) ?_
                obtain ⟨r1031,g52,h⟩:=ae h
                simp(config:=cS)only[go_sem,eqF h1,eqF h2,eqF h4,eZt h14,eZt h16,eqT h17,eZt h20,eZt h23,eZt h26,eqF h30,eZt h32,eZt h34,eqT h37,eqT h38,eqT h39,eqT h40,eqT h41,eqF h43,eqT h44,eqF h46,eqT h47]
                refine ag (pf g52) ?_
                obtain ⟨h53,h⟩|⟨h53,h⟩:=af h
                ·obtain ⟨r1032,g54,h⟩:=ae h
                 simp(config:=cS)only[go_sem,eqF h1,eqF h2,eqF h4,eZt h14,eZt h16,eqT h17,eZt h20,eZt h23,eZt h26,eqF h30,eZt h32,eZt h34,eqT h37,eqT h38,eqT h39,eqT h40,eqT h41,eqF h43,eqT h44,eqF h46,eqT h47,eZt h53]
                 refine ag (cM g54) ?_
                 obtain ⟨h55,h⟩|⟨h55,h⟩:=af h
                 ·obtain ⟨h56,h⟩|⟨h56,h⟩:=af h
                  ·obtain ⟨r1033,g57,h⟩:=ae h
                   simp(config:=cS)only[go_sem,eqF h1,eqF h2,eqF h4,eZt h14,eZt h16,eqT h17,eZt h20,eZt h23,eZt h26,eqF h30,eZt h32,eZt h34,eqT h37,eqT h38,eqT h39,eqT h40,eqT h41,eqF h43,eqT h44,eqF h46,eqT h47,eZt h53,eZt h55,eqT h56]
                   refine ag (uk g57) ?_
                   obtain ⟨h58,h⟩|⟨h58,h⟩:=af h
                   ·cases h
                    simp(config:=cS)only[go_sem,eqF h1,eqF h2,eqF h4,eZt h14,eZt h16,eqT h17,eZt h20,eZt h23,eZt h26,eqF h30,eZt h32,eZt h34,eqT h37,eqT h38,eqT h39,eqT h40,eqT h41,eqF h43,eqT h44,eqF h46,eqT h47,eZt h53,eZt h55,eqT h56,eqT h58]
                   ·obtain ⟨r1034,g59,h⟩:=ae h
                    simp(config:=cS)only[go_sem,eqF h1,eqF h2,eqF h4,eZt h14,eZt h16,eqT h17,eZt h20,eZt h23,eZt h26,eqF h30,eZt h32,eZt h34,eqT h37,eqT h38,eqT h39,eqT h40,eqT h41,eqF h43,eqT h44,eqF h46,eqT h47,eZt h53,eZt h55,eqT h56,eqF h58]
                    refine ag (dU g59) ?_
                    obtain ⟨h60,h⟩|⟨h60,h⟩:=af h
                    ·cases h
                     simp(config:=cS)only[go_sem,eqF h1,eqF h2,eqF h4,eZt h14,eZt h16,eqT h17,eZt h20,eZt h23,eZt h26,eqF h30,eZt h32,eZt h34,eqT h37,eqT h38,eqT h39,eqT h40,eqT h41,eqF h43,eqT h44,eqF h46,eqT h47,eZt h53,eZt h55,eqT h56,eqF h58,eqT h60]
                    ·obtain ⟨h61,h⟩|⟨h61,h⟩:=af h
                     ·cases h
                      simp(config:=cS)only[go_sem,eqF h1,eqF h2,eqF h4,eZt h14,eZt h16,eqT h17,eZt h20,eZt h23,eZt h26,eqF h30,eZt h32,eZt h34,eqT h37,eqT h38,eqT h39,eqT h40,eqT h41,eqF h43,eqT h44,eqF h46,eqT h47,eZt h53,eZt h55,eqT h56,eqF h58,eqF h60,eqT h61]
                     ·cases h
                      simp(config:=cS)only[go_sem,eqF h1,eqF h2,eqF h4,eZt h14,eZt h16,eqT h17,eZt h20,eZt h23,eZt h26,eqF h30,eZt h32,eZt h34,eqT h37,eqT h38,eqT h39,eqT h40,eqT h41,eqF h43,eqT h44,eqF h46,eqT h47,eZt h53,eZt h55,eqT h56,eqF h58,eqF h60,eqF h61]
                  ·cases h
                   simp(config:=cS)only[go_sem,eqF h1,eqF h2,eqF h4,eZt h14,eZt h16,eqT h17,eZt h20,eZt h23,eZt h26,eqF h30,eZt h32,eZt h34,eqT h37,eqT h38,eqT h39,eqT h40,eqT h41,eqF h43,eqT h44,eqF h46,eqT h47,eZt h53,eZt h55,eqF h56]
                 ·cases h
                  simp(config:=cS)only[go_sem,eqF h1,eqF h2,eqF h4,eZt h14,eZt h16,eqT h17,eZt h20,eZt h23,eZt h26,eqF h30,eZt h32,eZt h34,eqT h37,eqT h38,eqT h39,eqT h40,eqT h41,eqF h43,eqT h44,eqF h46,eqT h47,eZt h53,eZf h55]
                ·cases h
                 simp(config:=cS)only[go_sem,eqF h1,eqF h2,eqF h4,eZt h14,eZt h16,eqT h17,eZt h20,eZt h23,eZt h26,eqF h30,eZt h32,eZt h34,eqT h37,eqT h38,eqT h39,eqT h40,eqT h41,eqF h43,eqT h44,eqF h46,eqT h47,eZf h53]
               ·cases h
                simp(config:=cS)only[go_sem,eqF h1,eqF h2,eqF h4,eZt h14,eZt h16,eqT h17,eZt h20,eZt h23,eZt h26,eqF h30,eZt h32,eZt h34,eqT h37,eqT h38,eqT h39,eqT h40,eqT h41,eqF h43,eqT h44,eqF h46,eqF h47]
            ·cases h
             simp(config:=cS)only[go_sem,eqF h1,eqF h2,eqF h4,eZt h14,eZt h16,eqT h17,eZt h20,eZt h23,eZt h26,eqF h30,eZt h32,eZf h34]
           ·cases h
            simp(config:=cS)only[go_sem,eqF h1,eqF h2,eqF h4,eZt h14,eZt h16,eqT h17,eZt h20,eZt h23,eZt h26,eqF h30,eZf h32]
         ·cases h
          simp(config:=cS)only[go_sem,eqF h1,eqF h2,eqF h4,eZt h14,eZt h16,eqT h17,eZt h20,eZt h23,eZf h26]
        ·cases h
         simp(config:=cS)only[go_sem,eqF h1,eqF h2,eqF h4,eZt h14,eZt h16,eqT h17,eZt h20,eZf h23]
       ·cases h
        simp(config:=cS)only[go_sem,eqF h1,eqF h2,eqF h4,eZt h14,eZt h16,eqT h17,eZf h20]
      ·cases h
       simp(config:=cS)only[go_sem,eqF h1,eqF h2,eqF h4,eZt h14,eZt h16,eqF h17]
     ·cases h
      simp(config:=cS)only[go_sem,eqF h1,eqF h2,eqF h4,eZt h14,eZf h16]
    ·cases h
     simp(config:=cS)only[go_sem,eqF h1,eqF h2,eqF h4,eZf h14]
end Go.Proofs.YtghfphjfkdbpjaaGreatZ
