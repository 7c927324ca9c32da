/- Functions. -/
import Derived.Test.YtghfphjfkdbpjaaGreatZFK2
set_option linter.all false
set_option maxRecDepth 100000
set_option maxHeartbeats 400000
namespace Go.Proofs.QZ
open Go
attribute [go_sem] Tryz.ntmps110 Tryz.results110
theorem ZH {s:GShow}{v1:GState}{nodes:List Int}{res:Bool}(h:pY s v1 nodes=some res):ao Tryz.prog 110 [.agg (GShow.encS s),.agg (GState.encS v1),.sl (ab eI nodes)] [] (.lit (.bool res)) []:=by
 refine aj (ra:=[]) (md:=mdT) hT (hi:=hi00) Tryz.func110 rfl rfl (by decide +kernel) (by simp) ?_
 unfold pY at h
 obtain ⟨r01,g1,h⟩:=ae h
 simp(config:=cS)only[go_sem]
 refine ag (sk g1) ?_
 obtain ⟨r02,g2,h⟩:=ae h
 simp(config:=cS)only[go_sem]
 refine ag (wQ g2) ?_
 obtain ⟨h3,h⟩|⟨h3,h⟩:=af h
 ·obtain ⟨r03,g4,h⟩:=ae h
  simp(config:=cS)only[go_sem,eZt h3]
  refine ag (uT g4) ?_
  cases h
  simp(config:=cS)only[go_sem,eZt h3]
 ·cases h
  simp(config:=cS)only[go_sem,eZf h3]
attribute [go_sem] Tryz.ntmps45 Tryz.results45
theorem ZI {d:GDesk}{ties nodes values:List Int}{res:GDesk × Int}(h:ol d ties nodes values=some res):ao Tryz.prog 45 [.agg (GDesk.encS d),.sl (ab eI ties),.sl (ab eI nodes),.sl (ab eI values)] [] (.tup [.agg [.ref 20000 1 0 res.1.show_.nodes.length,.ref 20001 1 0 res.1.show_.ties.length,.lit (.int .i64 res.1.show_.horizon),.lit (.int .i64 res.1.state.now),.ref 20002 1 0 res.1.state.times.length,.ref 20003 1 0 res.1.state.values.length,.lit (.bool res.1.lazy),.ref 20004 1 0 res.1.log.length],.lit (.int .i64 res.2)]) [(20000,1,.row true (ab GNode.encO res.1.show_.nodes)),(20001,1,.row true (ab GTie.enc res.1.show_.ties)),(20002,1,.row true (ab eI res.1.state.times)),(20003,1,.row true (ab eI res.1.state.values)),(20004,1,.row true (ab GEntry.encO res.1.log))]:=by
 refine aj (ra:=[.homeCell 512 0,.homeCell 512 1,.homeCell 512 4,.homeCell 512 5,.homeCell 512 7]) (md:=mdT) hT (hi:=hi00) Tryz.func45 rfl rfl (by decide +kernel) (by simp) ?_
 unfold ol at h
 obtain ⟨r01,g1,h⟩:=ae h
 simp(config:=cS)only[go_sem]
 refine ag (Bu g1) ?_
 obtain ⟨h2,h⟩|⟨h2,h⟩:=af h
 ·obtain ⟨r02,g3,h⟩:=ae h
  simp(config:=cS)only[go_sem,eqT h2]
  refine ag (ZH g3) ?_
  obtain ⟨h4,h⟩|⟨h4,h⟩:=af h
  ·obtain ⟨r03,g5,h⟩:=ae h
   simp(config:=cS)only[go_sem,eZt h4]
   refine ag (zB g5) ?_
   cases h
   simp(config:=cS)only[go_sem]
  ·obtain ⟨r04,g6,h⟩:=ae h
   simp(config:=cS)only[go_sem,eZf h4]
   refine ag (rH g6) ?_
   cases h
   simp(config:=cS)only[go_sem]
 ·obtain ⟨r05,g7,h⟩:=ae h
  simp(config:=cS)only[go_sem,eqF h2]
  refine ag (rH g7) ?_
  cases h
  simp(config:=cS)only[go_sem]
@[go_sem] def hi72_1:DT:=.i1 0 (.i2 1 (.i2 2 (.i2 3 (.i2 4 (.i2 5 (.i1 7 (.i0 6 [0,7] (.i0 8 [0] (.i2 9 (.i2 10 (.i2 11 (.i2 12 (.i0 13 [0] (.i2 14 (.i2 15 (.i2 16 .nil))))))))))))))))
def hi72:Hint where
 acts:=fun _=>[]
 draws:=fun
  | 1=>⟨hi72_1,[[],[],[1],[1,2],[1,2,3],[],[1,2,3,4,5],[],[1,2,3,4,5,6,7],[1,2,3,4,5,6,7,8],[1,2,3,4,5,6,7,8,9],[1,2,3,4,5,6,7,8,9],[1,2,3,4,5,6,7,8,9],[1,2,3,4,5,6,7,8,9,10,11,12],[1,2,3,4,5,6,7,8,9,10,11,12,13],.range 14,.range 16],[0,1,2,3,4,5,6,7,8,9,10,11,12,13,15,14,16]⟩
  | _=>⟨.nil,[],[]⟩
theorem ZO (i:Nat):hi72.acts i=[]:=rfl
theorem ZP (i:Nat):hi72.views i=none:=rfl
attribute [go_sem] ZO ZP Tryz.ntmps72 Tryz.results72
@[go_sem] theorem ZR:(hi72.draws 1).order=hi72_1:=rfl
theorem ZE {g_s:GShow}{g_known:List (ByteArray × Bool)}{v1:GState}{nodes:List Int}{res:(List Int) × Bool × (List (ByteArray × Bool))}(h:mh g_s g_known v1 nodes=some res):ao Tryz.prog 72 [.ptr 10000 0 0 0,.agg (GState.encS v1),.loc [.sl (ab eI nodes)]] [(10000,0,.var [.sl (ab GNode.encS g_s.nodes),.sl (ab GTie.enc g_s.ties),.lit (.int .i64 g_s.horizon),.mp 10001 0]),(10001,0,.map (eM g_known))] (.tup [.sl (ab eI res.1),.lit (.bool res.2.1)]) [(10000,0,.var [.sl (ab GNode.encS g_s.nodes),.sl (ab GTie.enc g_s.ties),.lit (.int .i64 g_s.horizon),.mp 10001 0]),(10001,0,.map (eM res.2.2))]:=by
 refine aj (ra:=[.home 5]) (md:=mdT) hT (hi:=hi72) Tryz.func72 rfl rfl (by decide +kernel) (by simp) ?_
 unfold mh at h
 obtain ⟨r01,g1,h⟩:=ae h
 simp(config:=cS)only[go_sem]
 refine ag (pq g1) ?_
 obtain ⟨r02,g2,h⟩:=ae h
 simp(config:=cS)only[go_sem]
 refine ag (sR g2) ?_
 obtain ⟨h3,h⟩|⟨h3,h⟩:=af h
 ·obtain ⟨r03,g4,h⟩:=ae h
  simp(config:=cS)only[go_sem,eZt h3]
  refine ag (wY g4) ?_
  cases h
  simp(config:=cS)only[go_sem,eZt h3]
 ·cases h
  simp(config:=cS)only[go_sem,eZf h3]
def ZB (s h l:List Int)(t m n:Int)(o:Bool)(p:Int)(q r:List Int)(i:Int)(a:List GNode)(b:List GTie)(c d:List Int)(e:List GEntry)(f g j:List Int):(Int × (List Int))→St
 | (u,k)=>⟨[(1,.sl (ab eI s)),(2,.sl (ab eI h)),(10,.ptr 640 1 0 0),(13,.ptr 832 1 0 0),(15,.ptr 960 1 0 0),(17,.sl (ab eI l)),(19,.ptr 1216 1 0 0),(20,.ref 5506 1 0 j.length),(21,.ref 1407 1 0 k.length),(89,.ref 5506 1 0 j.length),(90,.lit (.int .i64 t)),(91,.lit (.int .i64 u))],[(640,1,.var [.lit (.slice none 0 0),.lit (.slice none 0 0),.lit (.int .i64 0),.lit (.int .i64 0),.lit (.slice none 0 0),.lit (.slice none 0 0),.lit (.bool false),.lit (.slice none 0 0)]),(832,1,.var [.ref 1600 1 0 a.length,.ref 1601 1 0 b.length,.lit (.int .i64 m),.lit (.int .i64 n),.ref 1602 1 0 c.length,.ref 1603 1 0 d.length,.lit (.bool o),.ref 1604 1 0 e.length]),(1600,1,.row true (ab GNode.encO a)),(1601,1,.row true (ab GTie.enc b)),(1602,1,.row true (ab eI c)),(1603,1,.row true (ab eI d)),(1604,1,.row true (ab GEntry.encO e)),(960,1,.var [.lit (.int .i64 p),.sl (ab eI q),.sl (ab eI r)]),(1216,1,.var [.lit (.int .i64 i),.ref 5504 1 0 f.length,.ref 5505 1 0 g.length]),(5504,1,.row true (ab eI f)),(5505,1,.row true (ab eI g)),(5506,1,.row true (ab eI j)),(1407,1,.row true (ab eI k))],2⟩
attribute [go_sem] ZB
@[go_sem] def hi71_s72_22:DT:=.i1 0 (.i2 1 (.i0 2 [0] (.i2 3 (.i2 4 (.i2 5 .nil)))))
@[go_sem] def hi71_s72_21:DT:=.i1 0 (.i1 1 (.i1 2 (.i1 3 (.i2 4 (.i2 6 (.i2 8 (.i2 9 (.i0 5 [0,1,2,3] (.i0 7 [0,1,2,3] (.i0 10 [0,1,2,3] (.i2 11 (.i0 12 [0,1] (.i2 13 (.i2 14 (.i2 15 .nil)))))))))))))))
@[go_sem] def hi71_s72_10:DT:=.i2 0 (.i2 1 (.i1 3 (.i0 2 [3] (.i2 4 (.i2 5 (.i2 6 (.i2 7 (.i2 8 (.i2 9 .nil)))))))))
@[go_sem] def hi71_s72_4:DT:=.i1 0 (.i1 1 (.i1 2 (.i1 3 (.fork (.i0 4 [0,1,2,3] (.i0 5 [0,1,2,3] (.i0 6 [2,3] (.i2 7 .nil)))) (.i0 5 [0,1,2,3] (.i0 4 [0,1,2,3] (.i0 6 [2,3] (.i2 7 .nil))))))))
def ZD:Hint where
 acts:=fun _=>[]
 draws:=fun
  | 4=>⟨hi71_s72_4,[[],[0],[],[2],[],[],[0,1,4,5],.range 7],[0,1,5,6,2,3,4,7]⟩
  | 10=>⟨hi71_s72_10,[[],[],[1],[],[0,1,2,3],.range 5,.range 6,.range 6,.range 7,.range 9],[0,1,2,3,4,5,6,8,7,9]⟩
  | 21=>⟨hi71_s72_21,[[],[0],[],[2],[],[4],[],[4,5,6],[],[],[4,5,6,7,8,9],[2,3,4,5,6,7,8,9,10],[2,3,4,5,6,7,8,9,10,11],.range 13,.range 14,.range 15],.range 16⟩
  | 22=>⟨hi71_s72_22,[[],[],[1],[0,1,2],[0,1,2,3],.range 5],.range 6⟩
  | _=>⟨.nil,[],[]⟩
theorem ZJ (i:Nat):ZD.acts i=[]:=rfl
theorem ZK (i:Nat):ZD.views i=none:=rfl
attribute [go_sem] ZJ ZK Tryz.ntmps71 Tryz.results71
@[go_sem] theorem ZQ:(ZD.draws 4).order=hi71_s72_4:=rfl
@[go_sem] theorem ZL:(ZD.draws 10).order=hi71_s72_10:=rfl
@[go_sem] theorem ZM:(ZD.draws 21).order=hi71_s72_21:=rfl
@[go_sem] theorem ZN:(ZD.draws 22).order=hi71_s72_22:=rfl
theorem ZC {d:GDesk}{ties values:List Int}{refused:Int}{nodes:List Int}{res:GDesk × (List Int) × Int}(h:cZ d ties values refused nodes=some res):ao Tryz.prog 71 [.agg (GDesk.encS d),.sl (ab eI ties),.sl (ab eI values),.lit (.int .i64 refused),.fn 72 [.loc [.sl (ab eI nodes)]]] [] (.tup [.agg [.ref 20000 1 0 res.1.show_.nodes.length,.ref 20001 1 0 res.1.show_.ties.length,.lit (.int .i64 res.1.show_.horizon),.lit (.int .i64 res.1.state.now),.ref 20002 1 0 res.1.state.times.length,.ref 20003 1 0 res.1.state.values.length,.lit (.bool res.1.lazy),.ref 20004 1 0 res.1.log.length],.ref 20005 1 0 res.2.1.length,.lit (.int .i64 res.2.2)]) [(20000,1,.row true (ab GNode.encO res.1.show_.nodes)),(20001,1,.row true (ab GTie.enc res.1.show_.ties)),(20002,1,.row true (ab eI res.1.state.times)),(20003,1,.row true (ab eI res.1.state.values)),(20004,1,.row true (ab GEntry.encO res.1.log)),(20005,1,.row true (ab eI res.2.1))]:=by
 refine aj (ra:=[.homeCell 640 0,.homeCell 640 1,.homeCell 640 4,.homeCell 640 5,.homeCell 640 7,.home 11]) (md:=mdT) hT (hi:=ZD) Tryz.func71 rfl rfl (by decide +kernel) (by simp) ?_
 unfold cZ at h
 obtain ⟨r01,g1,h⟩:=ae h
 simp(config:=cS)only[go_sem]
 refine ag (BA g1) ?_
 obtain ⟨r02,g2,h⟩:=ae h
 simp(config:=cS)only[go_sem]
 refine ag (ES g2) ?_
 obtain ⟨h3,h⟩|⟨h3,h⟩:=af h
 ·obtain ⟨h4,h⟩|⟨h4,h⟩:=af h
  ·obtain ⟨r03,g5,h⟩:=ae h
   simp(config:=cS)only[go_sem,eZt h3,eqT h4]
   refine ag (fi (by exact fun _ _ hr=>wk hr) (by refine ⟨fun _=>?_,fun _=>?_⟩ <;> simp only [go_sem]) (fun _=>rfl) rfl g5) ?_
   obtain ⟨h6,h⟩|⟨h6,h⟩:=af h
   ·cases h
    simp(config:=cS)only[go_sem,eZt h3,eqT h4,eZt h6]
   ·try simp(config:=cS)only[go_sem,eZt h3,eqT h4,eZf h6]
    refine br ?_ ?_
    ·obtain ⟨r04,g7,h⟩:=ae h
     simp(config:=cS)only[go_sem,eZt h3,eqT h4,eZf h6]
     refine ag (qO g7) ?_
     obtain ⟨h8,h⟩|⟨h8,h⟩:=af h
     ·cases h
      simp(config:=cS)only[go_sem,eZt h3,eqT h4,eZf h6,eZt h8]
     ·obtain ⟨r05,g9,h⟩:=ae h
      simp(config:=cS)only[go_sem,eZt h3,eqT h4,eZf h6,eZf h8]
      refine ag (nR g9) ?_
      obtain ⟨h10,h⟩|⟨h10,h⟩:=af h
      ·cases h
       simp(config:=cS)only[go_sem,eZt h3,eqT h4,eZf h6,eZf h8,eZt h10]
      ·obtain ⟨h11,h⟩|⟨h11,h⟩:=af h
       ·cases h
        simp(config:=cS)only[go_sem,eZt h3,eqT h4,eZf h6,eZf h8,eZf h10,eqT h11]
       ·obtain ⟨r06,g12,h⟩:=ae h
        simp(config:=cS)only[go_sem,eZt h3,eqT h4,eZf h6,eZf h8,eZf h10,eqF h11]
        refine ag (nQ g12) ?_
        obtain ⟨r07,g13,h⟩:=ae h
        simp(config:=cS)only[go_sem,eZt h3,eqT h4,eZf h6,eZf h8,eZf h10,eqF h11]
        refine ag (sR g13) ?_
        obtain ⟨h14,h⟩|⟨h14,h⟩:=af h
        ·obtain ⟨r08,g15,h⟩:=ae h
         simp(config:=cS)only[go_sem,eZt h3,eqT h4,eZf h6,eZf h8,eZf h10,eqF h11,eZt h14]
         refine ag (qL g15) ?_
         obtain ⟨r09,g16,h⟩:=ae h
         simp(config:=cS)only[go_sem,eZt h3,eqT h4,eZf h6,eZf h8,eZf h10,eqF h11,eZt h14]
         refine ag (uX g16) ?_
         obtain ⟨r10,g17,h⟩:=ae h
         simp(config:=cS)only[go_sem,eZt h3,eqT h4,eZf h6,eZf h8,eZf h10,eqF h11,eZt h14]
         refine ag (ZE g17) ?_
         obtain ⟨h18,h⟩|⟨h18,h⟩:=af h
         ·obtain ⟨r11,g19,h⟩:=ae h
          simp(config:=cS)only[go_sem,eZt h3,eqT h4,eZf h6,eZf h8,eZf h10,eqF h11,eZt h14,eZt h18]
          refine ag (lq g19) ?_
          obtain ⟨q19,l20,h⟩:=ae h
          simp(config:=cS)only[go_sem,eZt h3,eqT h4,eZf h6,eZf h8,eZf h10,eqF h11,eZt h14,eZt h18]
          refine an (m1:=.mk) (m2:=.mk) [.home 21,.nf [1,2,10,13,15,17,19,20,21,89,90,91] [640,832,1600,1601,1602,1603,1604,960,1216,5504,5505,5506,1407]] (ZB ties values r10.1 ((r11.2.length:Nat):Int) r01.show_.horizon r01.state.now r01.lazy d.state.now d.state.times d.state.values r11.1.now r01.show_.nodes r01.show_.ties r01.state.times r01.state.values r01.log r11.1.times r11.1.values r11.2) l20 ?_ ?_
          ·simp(config:=cS)only[go_sem,eZt h3,eqT h4,eZf h6,eZf h8,eZf h10,eqF h11,eZt h14,eZt h18]
          ·intro nb21 sb21 bb21 b21 gb21
           obtain ⟨v91_1,seen_1⟩:=sb21
           unfold bI at b21
           try dsimp only at b21
           obtain ⟨h22,b21⟩|⟨h22,b21⟩:=af b21
           ·obtain ⟨x12,g23,b21⟩:=ae b21
            obtain ⟨h24,h25,h26⟩:=ai g23
            obtain ⟨x13,g27,b21⟩:=ae b21
            obtain ⟨h28,h29,h30⟩:=ai g27
            obtain ⟨h31,b21⟩:=ah b21
            obtain ⟨h32,b21⟩:=ah b21
            cases b21
            simp(config:=cS)only[go_sem,eZt h3,eqT h4,eZf h6,eZf h8,eZf h10,eqF h11,eZt h14,eZt h18,eqT h22,h24,h25,h26,h28,h29,h30,eqT h31,eqT h32]
            refine ap gb21 ?_
            simp(config:=cS)only[go_sem,eZt h3,eqT h4,eZf h6,eZf h8,eZf h10,eqF h11,eZt h14,eZt h18,eqT h22,h24,h25,h26,h28,h29,h30,eqT h31,eqT h32]
           ·cases b21
            obtain rfl:=(ak gb21).symm
            try dsimp only at h
            obtain ⟨r14,g34,h⟩:=ae h
            simp(config:=cS)only[go_sem,eZt h3,eqT h4,eZf h6,eZf h8,eZf h10,eqF h11,eZt h14,eZt h18,eqF h22]
            refine ag (kg g34) ?_
            obtain ⟨r15,g35,h⟩:=ae h
            simp(config:=cS)only[go_sem,eZt h3,eqT h4,eZf h6,eZf h8,eZf h10,eqF h11,eZt h14,eZt h18,eqF h22]
            refine ag (bf g35) ?_
            obtain ⟨r16,g36,h⟩:=ae h
            simp(config:=cS)only[go_sem,eZt h3,eqT h4,eZf h6,eZf h8,eZf h10,eqF h11,eZt h14,eZt h18,eqF h22]
            refine ag (bf g36) ?_
            obtain ⟨r17,g37,h⟩:=ae h
            simp(config:=cS)only[go_sem,eZt h3,eqT h4,eZf h6,eZf h8,eZf h10,eqF h11,eZt h14,eZt h18,eqF h22]
            refine ag (uh g37) ?_
            obtain ⟨h38,h⟩:=ah h
            obtain ⟨h39,h⟩:=ah h
            obtain ⟨r18,g40,h⟩:=ae h
            simp(config:=cS)only[go_sem,eZt h3,eqT h4,eZf h6,eZf h8,eZf h10,eqF h11,eZt h14,eZt h18,eqF h22,eqT h38,eqT h39]
            refine ag (bf g40) ?_
            cases h
            simp(config:=cS)only[go_sem,eZt h3,eqT h4,eZf h6,eZf h8,eZf h10,eqF h11,eZt h14,eZt h18,eqF h22,eqT h38,eqT h39]
         ·cases h
          simp(config:=cS)only[go_sem,eZt h3,eqT h4,eZf h6,eZf h8,eZf h10,eqF h11,eZt h14,eZf h18]
        ·cases h
         simp(config:=cS)only[go_sem,eZt h3,eqT h4,eZf h6,eZf h8,eZf h10,eqF h11,eZf h14]
    ·obtain ⟨r20,g41,h⟩:=ae h
     simp(config:=cS)only[go_sem,eZt h3,eqT h4,eZf h6]
     refine ag (qO g41) ?_
     obtain ⟨h42,h⟩|⟨h42,h⟩:=af h
     ·cases h
      simp(config:=cS)only[go_sem,eZt h3,eqT h4,eZf h6,eZt h42]
     ·obtain ⟨r21,g43,h⟩:=ae h
      simp(config:=cS)only[go_sem,eZt h3,eqT h4,eZf h6,eZf h42]
      refine ag (nR g43) ?_
      obtain ⟨h44,h⟩|⟨h44,h⟩:=af h
      ·cases h
       simp(config:=cS)only[go_sem,eZt h3,eqT h4,eZf h6,eZf h42,eZt h44]
      ·obtain ⟨h45,h⟩|⟨h45,h⟩:=af h
       ·cases h
        simp(config:=cS)only[go_sem,eZt h3,eqT h4,eZf h6,eZf h42,eZf h44,eqT h45]
       ·obtain ⟨r22,g46,h⟩:=ae h
        simp(config:=cS)only[go_sem,eZt h3,eqT h4,eZf h6,eZf h42,eZf h44,eqF h45]
        refine ag (nQ g46) ?_
        obtain ⟨r23,g47,h⟩:=ae h
        simp(config:=cS)only[go_sem,eZt h3,eqT h4,eZf h6,eZf h42,eZf h44,eqF h45]
        refine ag (sR g47) ?_
        obtain ⟨h48,h⟩|⟨h48,h⟩:=af h
        ·obtain ⟨r24,g49,h⟩:=ae h
         simp(config:=cS)only[go_sem,eZt h3,eqT h4,eZf h6,eZf h42,eZf h44,eqF h45,eZt h48]
         refine ag (qL g49) ?_
         obtain ⟨r25,g50,h⟩:=ae h
         simp(config:=cS)only[go_sem,eZt h3,eqT h4,eZf h6,eZf h42,eZf h44,eqF h45,eZt h48]
         refine ag (uX g50) ?_
         obtain ⟨r26,g51,h⟩:=ae h
         simp(config:=cS)only[go_sem,eZt h3,eqT h4,eZf h6,eZf h42,eZf h44,eqF h45,eZt h48]
         refine ag (ZE g51) ?_
         obtain ⟨h52,h⟩|⟨h52,h⟩:=af h
         ·obtain ⟨r27,g53,h⟩:=ae h
          simp(config:=cS)only[go_sem,eZt h3,eqT h4,eZf h6,eZf h42,eZf h44,eqF h45,eZt h48,eZt h52]
          refine ag (lq g53) ?_
          obtain ⟨q35,l54,h⟩:=ae h
          simp(config:=cS)only[go_sem,eZt h3,eqT h4,eZf h6,eZf h42,eZf h44,eqF h45,eZt h48,eZt h52]
          refine an (m1:=.mk) (m2:=.mk) [.home 21,.nf [1,2,10,13,15,17,19,20,21,89,90,91] [640,832,1600,1601,1602,1603,1604,960,1216,5504,5505,5506,1407]] (ZB ties values r26.1 ((r27.2.length:Nat):Int) r01.show_.horizon r01.state.now r01.lazy d.state.now d.state.times d.state.values r27.1.now r01.show_.nodes r01.show_.ties r01.state.times r01.state.values r01.log r27.1.times r27.1.values r27.2) l54 ?_ ?_
          ·simp(config:=cS)only[go_sem,eZt h3,eqT h4,eZf h6,eZf h42,eZf h44,eqF h45,eZt h48,eZt h52]
          ·intro nb55 sb55 bb55 b55 gb55
           obtain ⟨v91_2,seen_2⟩:=sb55
           unfold bI at b55
           try dsimp only at b55
           obtain ⟨h56,b55⟩|⟨h56,b55⟩:=af b55
           ·obtain ⟨x28,g57,b55⟩:=ae b55
            obtain ⟨h58,h59,h60⟩:=ai g57
            obtain ⟨x29,g61,b55⟩:=ae b55
            obtain ⟨h62,h63,h64⟩:=ai g61
            obtain ⟨h65,b55⟩:=ah b55
            obtain ⟨h66,b55⟩:=ah b55
            cases b55
            simp(config:=cS)only[go_sem,eZt h3,eqT h4,eZf h6,eZf h42,eZf h44,eqF h45,eZt h48,eZt h52,eqT h56,h58,h59,h60,h62,h63,h64,eqT h65,eqT h66]
            refine ap gb55 ?_
            simp(config:=cS)only[go_sem,eZt h3,eqT h4,eZf h6,eZf h42,eZf h44,eqF h45,eZt h48,eZt h52,eqT h56,h58,h59,h60,h62,h63,h64,eqT h65,eqT h66]
           ·cases b55
            obtain rfl:=(ak gb55).symm
            try dsimp only at h
            obtain ⟨r30,g68,h⟩:=ae h
            simp(config:=cS)only[go_sem,eZt h3,eqT h4,eZf h6,eZf h42,eZf h44,eqF h45,eZt h48,eZt h52,eqF h56]
            refine ag (kg g68) ?_
            obtain ⟨r31,g69,h⟩:=ae h
            simp(config:=cS)only[go_sem,eZt h3,eqT h4,eZf h6,eZf h42,eZf h44,eqF h45,eZt h48,eZt h52,eqF h56]
            refine ag (bf g69) ?_
            obtain ⟨r32,g70,h⟩:=ae h
            simp(config:=cS)only[go_sem,eZt h3,eqT h4,eZf h6,eZf h42,eZf h44,eqF h45,eZt h48,eZt h52,eqF h56]
            refine ag (bf g70) ?_
            obtain ⟨r33,g71,h⟩:=ae h
            simp(config:=cS)only[go_sem,eZt h3,eqT h4,eZf h6,eZf h42,eZf h44,eqF h45,eZt h48,eZt h52,eqF h56]
            refine ag (uh g71) ?_
            obtain ⟨h72,h⟩:=ah h
            obtain ⟨h73,h⟩:=ah h
            obtain ⟨r34,g74,h⟩:=ae h
            simp(config:=cS)only[go_sem,eZt h3,eqT h4,eZf h6,eZf h42,eZf h44,eqF h45,eZt h48,eZt h52,eqF h56,eqT h72,eqT h73]
            refine ag (bf g74) ?_
            cases h
            simp(config:=cS)only[go_sem,eZt h3,eqT h4,eZf h6,eZf h42,eZf h44,eqF h45,eZt h48,eZt h52,eqF h56,eqT h72,eqT h73]
         ·cases h
          simp(config:=cS)only[go_sem,eZt h3,eqT h4,eZf h6,eZf h42,eZf h44,eqF h45,eZt h48,eZf h52]
        ·cases h
         simp(config:=cS)only[go_sem,eZt h3,eqT h4,eZf h6,eZf h42,eZf h44,eqF h45,eZf h48]
  ·cases h
   simp(config:=cS)only[go_sem,eZt h3,eqF h4]
 ·cases h
  simp(config:=cS)only[go_sem,eZf h3]
attribute [go_sem] Tryz.ntmps21 Tryz.results21
theorem ZF {d:GDesk}{ties nodes values:List Int}{res:GDesk × Int}(h:lc d ties nodes values=some res):ao Tryz.prog 21 [.agg (GDesk.encS d),.sl (ab eI ties),.sl (ab eI nodes),.sl (ab eI values)] [] (.tup [.agg [.ref 20000 1 0 res.1.show_.nodes.length,.ref 20001 1 0 res.1.show_.ties.length,.lit (.int .i64 res.1.show_.horizon),.lit (.int .i64 res.1.state.now),.ref 20002 1 0 res.1.state.times.length,.ref 20003 1 0 res.1.state.values.length,.lit (.bool res.1.lazy),.ref 20004 1 0 res.1.log.length],.lit (.int .i64 res.2)]) [(20000,1,.row true (ab GNode.encO res.1.show_.nodes)),(20001,1,.row true (ab GTie.enc res.1.show_.ties)),(20002,1,.row true (ab eI res.1.state.times)),(20003,1,.row true (ab eI res.1.state.values)),(20004,1,.row true (ab GEntry.encO res.1.log))]:=by
 refine aj (ra:=[.homeCell 512 0,.homeCell 512 1,.homeCell 512 4,.homeCell 512 5,.homeCell 512 7]) (md:=mdT) hT (hi:=hi00) Tryz.func21 rfl rfl (by decide +kernel) (by simp) ?_
 unfold lc at h
 obtain ⟨r01,g1,h⟩:=ae h
 simp(config:=cS)only[go_sem]
 refine ag (ZC g1) ?_
 cases h
 simp(config:=cS)only[go_sem]
@[go_sem] def hi7_19:DT:=.i1 0 (.i2 1 (.i0 2 [0] (.i2 3 (.i2 4 .nil))))
def hi7:Hint where
 acts:=fun _=>[]
 draws:=fun
  | 19=>⟨hi7_19,[[],[],[1],[0,1,2],[0,1,2,3]],.range 5⟩
  | _=>⟨.nil,[],[]⟩
theorem hi7a (i:Nat):hi7.acts i=[]:=rfl
theorem hi7v (i:Nat):hi7.views i=none:=rfl
attribute [go_sem] hi7a hi7v Tryz.ntmps7 Tryz.results7
@[go_sem] theorem ZS:(hi7.draws 19).order=hi7_19:=rfl
theorem ZG {aD:GDesk}{aTies aNodes aValues:List Int}{res:Bool}(h:ny aD aTies aNodes aValues=some res):ao Tryz.prog 7 [.agg (GDesk.encS aD),.sl (ab eI aTies),.sl (ab eI aNodes),.sl (ab eI aValues)] [] (.lit (.bool res)) []:=by
 refine aj (ra:=[]) (md:=mdT) hT (hi:=hi7) Tryz.func7 rfl rfl (by decide +kernel) (by simp) ?_
 unfold ny at h
 obtain ⟨h1,h⟩|⟨h1,h⟩:=af h
 ·cases h
  simp(config:=cS)only[go_sem,eqT h1]
 ·obtain ⟨h2,h⟩|⟨h2,h⟩:=af h
  ·cases h
   simp(config:=cS)only[go_sem,eqF h1,eqT h2]
  ·obtain ⟨h3,h⟩|⟨h3,h⟩:=af h
   ·cases h
    simp(config:=cS)only[go_sem,eqF h1,eqF h2,eqT h3]
   ·obtain ⟨r01,g4,h⟩:=ae h
    simp(config:=cS)only[go_sem,eqF h1,eqF h2,eqF h3]
    refine ag (EE g4) ?_
    obtain ⟨h5,h⟩|⟨h5,h⟩:=af h
    ·cases h
     simp(config:=cS)only[go_sem,eqF h1,eqF h2,eqF h3,eqT h5]
    ·obtain ⟨r02,g6,h⟩:=ae h
     simp(config:=cS)only[go_sem,eqF h1,eqF h2,eqF h3,eqF h5]
     refine ag (oZ g6) ?_
     obtain ⟨r03,g7,h⟩:=ae h
     simp(config:=cS)only[go_sem,eqF h1,eqF h2,eqF h3,eqF h5]
     refine ag (bN g7) ?_
     obtain ⟨r04,g8,h⟩:=ae h
     simp(config:=cS)only[go_sem,eqF h1,eqF h2,eqF h3,eqF h5]
     refine ag (bN g8) ?_
     obtain ⟨r05,g9,h⟩:=ae h
     simp(config:=cS)only[go_sem,eqF h1,eqF h2,eqF h3,eqF h5]
     refine ag (bN g9) ?_
     obtain ⟨r06,g10,h⟩:=ae h
     simp(config:=cS)only[go_sem,eqF h1,eqF h2,eqF h3,eqF h5]
     refine ag (ZI g10) ?_
     obtain ⟨r07,g11,h⟩:=ae h
     simp(config:=cS)only[go_sem,eqF h1,eqF h2,eqF h3,eqF h5]
     refine ag (oZ g11) ?_
     obtain ⟨r08,g12,h⟩:=ae h
     simp(config:=cS)only[go_sem,eqF h1,eqF h2,eqF h3,eqF h5]
     refine ag (bN g12) ?_
     obtain ⟨r09,g13,h⟩:=ae h
     simp(config:=cS)only[go_sem,eqF h1,eqF h2,eqF h3,eqF h5]
     refine ag (bN g13) ?_
     obtain ⟨r10,g14,h⟩:=ae h
     simp(config:=cS)only[go_sem,eqF h1,eqF h2,eqF h3,eqF h5]
     refine ag (bN g14) ?_
     obtain ⟨r11,g15,h⟩:=ae h
     simp(config:=cS)only[go_sem,eqF h1,eqF h2,eqF h3,eqF h5]
     refine ag (ZF g15) ?_
     obtain ⟨r12,g16,h⟩:=ae h
     simp(config:=cS)only[go_sem,eqF h1,eqF h2,eqF h3,eqF h5]
     refine ag (pf g16) ?_
     obtain ⟨h17,h⟩|⟨h17,h⟩:=af h
     ·obtain ⟨h18,h⟩|⟨h18,h⟩:=af h
      ·obtain ⟨r13,g19,h⟩:=ae h
       simp(config:=cS)only[go_sem,eqF h1,eqF h2,eqF h3,eqF h5,eZt h17,eqT h18]
       refine ag (oZ g19) ?_
       obtain ⟨r14,g20,h⟩:=ae h
       simp(config:=cS)only[go_sem,eqF h1,eqF h2,eqF h3,eqF h5,eZt h17,eqT h18]
       refine ag (pf g20) ?_
       obtain ⟨h21,h⟩|⟨h21,h⟩:=af h
       ·obtain ⟨r15,g22,h⟩:=ae h
        simp(config:=cS)only[go_sem,eqF h1,eqF h2,eqF h3,eqF h5,eZt h17,eqT h18,eZt h21]
        refine ag (bN g22) ?_
        obtain ⟨r16,g23,h⟩:=ae h
        simp(config:=cS)only[go_sem,eqF h1,eqF h2,eqF h3,eqF h5,eZt h17,eqT h18,eZt h21]
        refine ag (cM g23) ?_
        obtain ⟨h24,h⟩|⟨h24,h⟩:=af h
        ·obtain ⟨r17,g25,h⟩:=ae h
         simp(config:=cS)only[go_sem,eqF h1,eqF h2,eqF h3,eqF h5,eZt h17,eqT h18,eZt h21,eZt h24]
         refine ag (bN g25) ?_
         obtain ⟨r18,g26,h⟩:=ae h
         simp(config:=cS)only[go_sem,eqF h1,eqF h2,eqF h3,eqF h5,eZt h17,eqT h18,eZt h21,eZt h24]
         refine ag (cM g26) ?_
         obtain ⟨h27,h⟩|⟨h27,h⟩:=af h
         ·obtain ⟨r19,g28,h⟩:=ae h
          simp(config:=cS)only[go_sem,eqF h1,eqF h2,eqF h3,eqF h5,eZt h17,eqT h18,eZt h21,eZt h24,eZt h27]
          refine ag (bN g28) ?_
          obtain ⟨r20,g29,h⟩:=ae h
          simp(config:=cS)only[go_sem,eqF h1,eqF h2,eqF h3,eqF h5,eZt h17,eqT h18,eZt h21,eZt h24,eZt h27]
          refine ag (cM g29) ?_
          obtain ⟨h30,h⟩|⟨h30,h⟩:=af h
          ·obtain ⟨r21,g31,h⟩:=ae h
           simp(config:=cS)only[go_sem,eqF h1,eqF h2,eqF h3,eqF h5,eZt h17,eqT h18,eZt h21,eZt h24,eZt h27,eZt h30]
           refine ag (uj g31) ?_
           obtain ⟨r22,g32,h⟩:=ae h
           simp(config:=cS)only[go_sem,eqF h1,eqF h2,eqF h3,eqF h5,eZt h17,eqT h18,eZt h21,eZt h24,eZt h27,eZt h30]
           refine ag (cY g32) ?_
           obtain ⟨r23,g33,h⟩:=ae h
           simp(config:=cS)only[go_sem,eqF h1,eqF h2,eqF h3,eqF h5,eZt h17,eqT h18,eZt h21,eZt h24,eZt h27,eZt h30]
           refine ag (cY g33) ?_
           obtain ⟨r24,g34,h⟩:=ae h
           simp(config:=cS)only[go_sem,eqF h1,eqF h2,eqF h3,eqF h5,eZt h17,eqT h18,eZt h21,eZt h24,eZt h27,eZt h30]
           refine ag (cY g34) ?_
           obtain ⟨h35,h⟩|⟨h35,h⟩:=af h
           ·cases h
            simp(config:=cS)only[go_sem,eqF h1,eqF h2,eqF h3,eqF h5,eZt h17,eqT h18,eZt h21,eZt h24,eZt h27,eZt h30,eqT h35]
           ·obtain ⟨r25,g36,h⟩:=ae h
            simp(config:=cS)only[go_sem,eqF h1,eqF h2,eqF h3,eqF h5,eZt h17,eqT h18,eZt h21,eZt h24,eZt h27,eZt h30,eqF h35]
            refine ag (pf g36) ?_
            obtain ⟨h37,h⟩|⟨h37,h⟩:=af h
            ·obtain ⟨r26,g38,h⟩:=ae h
             simp(config:=cS)only[go_sem,eqF h1,eqF h2,eqF h3,eqF h5,eZt h17,eqT h18,eZt h21,eZt h24,eZt h27,eZt h30,eqF h35,eZt h37]
             refine ag (uj g38) ?_
             obtain ⟨h39,h⟩:=ah h
             obtain ⟨h40,h⟩:=ah h
             obtain ⟨h41,h⟩:=ah h
             obtain ⟨h42,h⟩:=ah h
             obtain ⟨h43,h⟩:=ah h
             obtain ⟨r27,g44,h⟩:=ae h
             simp(config:=cS)only[go_sem,eqF h1,eqF h2,eqF h3,eqF h5,eZt h17,eqT h18,eZt h21,eZt h24,eZt h27,eZt h30,eqF h35,eZt h37,eqT h39,eqT h40,eqT h41,eqT h42,eqT h43]
             refine ag (uk g44) ?_
             obtain ⟨h45,h⟩|⟨h45,h⟩:=af h
             ·cases h
              simp(config:=cS)only[go_sem,eqF h1,eqF h2,eqF h3,eqF h5,eZt h17,eqT h18,eZt h21,eZt h24,eZt h27,eZt h30,eqF h35,eZt h37,eqT h39,eqT h40,eqT h41,eqT h42,eqT h43,eqT h45]
             ·obtain ⟨h46,h⟩|⟨h46,h⟩:=af h
              ·obtain ⟨r28,g47,h⟩:=ae h
               simp(config:=cS)only[go_sem,eqF h1,eqF h2,eqF h3,eqF h5,eZt h17,eqT h18,eZt h21,eZt h24,eZt h27,eZt h30,eqF h35,eZt h37,eqT h39,eqT h40,eqT h41,eqT h42,eqT h43,eqF h45,eqT h46]
               refine ag (oZ g47) ?_
               obtain ⟨r29,g48,h⟩:=ae h
               simp(config:=cS)only[go_sem,eqF h1,eqF h2,eqF h3,eqF h5,eZt h17,eqT h18,eZt h21,eZt h24,eZt h27,eZt h30,eqF h35,eZt h37,eqT h39,eqT h40,eqT h41,eqT h42,eqT h43,eqF h45,eqT h46]
               refine ag (bN g48) ?_
               obtain ⟨r30,g49,h⟩:=ae h
               simp(config:=cS)only[go_sem,eqF h1,eqF h2,eqF h3,eqF h5,eZt h17,eqT h18,eZt h21,eZt h24,eZt h27,eZt h30,eqF h35,eZt h37,eqT h39,eqT h40,eqT h41,eqT h42,eqT h43,eqF h45,eqT h46]
               refine ag (bN g49) ?_
               obtain ⟨r31,g50,h⟩:=ae h
               simp(config:=cS)only[go_sem,eqF h1,eqF h2,eqF h3,eqF h5,eZt h17,eqT h18,eZt h21,eZt h24,eZt h27,eZt h30,eqF h35,eZt h37,eqT h39,eqT h40,eqT h41,eqT h42,eqT h43,eqF h45,eqT h46]
               refine ag (bN g50) ?_
               obtain ⟨r32,g51,h⟩:=ae h
               simp(config:=cS)only[go_sem,eqF h1,eqF h2,eqF h3,eqF h5,eZt h17,eqT h18,eZt h21,eZt h24,eZt h27,eZt h30,eqF h35,eZt h37,eqT h39,eqT h40,eqT h41,eqT h42,eqT h43,eqF h45,eqT h46]
               refine ag (ZF g51) ?_
               obtain ⟨r33,g52,h⟩:=ae h
               simp(config:=cS)only[go_sem,eqF h1,eqF h2,eqF h3,eqF h5,eZt h17,eqT h18,eZt h21,eZt h24,eZt h27,eZt h30,eqF h35,eZt h37,eqT h39,eqT h40,eqT h41,eqT h42,eqT h43,eqF h45,eqT h46]
               refine ag (pf g52) ?_
               obtain ⟨h53,h⟩|⟨h53,h⟩:=af h
               ·obtain ⟨h54,h⟩|⟨h54,h⟩:=af h
                ·obtain ⟨r34,g55,h⟩:=ae h
                 simp(config:=cS)only[go_sem,eqF h1,eqF h2,eqF h3,eqF h5,eZt h17,eqT h18,eZt h21,eZt h24,eZt h27,eZt h30,eqF h35,eZt h37,eqT h39,eqT h40,eqT h41,eqT h42,eqT h43,eqF h45,eqT h46,eZt h53,eqT h54]
                 refine ag (uk g55) ?_
                 obtain ⟨h56,h⟩|⟨h56,h⟩:=af h
                 ·cases h
                  simp(config:=cS)only[go_sem,eqF h1,eqF h2,eqF h3,eqF h5,eZt h17,eqT h18,eZt h21,eZt h24,eZt h27,eZt h30,eqF h35,eZt h37,eqT h39,eqT h40,eqT h41,eqT h42,eqT h43,eqF h45,eqT h46,eZt h53,eqT h54,eqT h56]
                 ·obtain ⟨h57,h⟩|⟨h57,h⟩:=af h
                  ·cases h
                   simp(config:=cS)only[go_sem,eqF h1,eqF h2,eqF h3,eqF h5,eZt h17,eqT h18,eZt h21,eZt h24,eZt h27,eZt h30,eqF h35,eZt h37,eqT h39,eqT h40,eqT h41,eqT h42,eqT h43,eqF h45,eqT h46,eZt h53,eqT h54,eqF h56,eqT h57]
                  ·cases h
                   simp(config:=cS)only[go_sem,eqF h1,eqF h2,eqF h3,eqF h5,eZt h17,eqT h18,eZt h21,eZt h24,eZt h27,eZt h30,eqF h35,eZt h37,eqT h39,eqT h40,eqT h41,eqT h42,eqT h43,eqF h45,eqT h46,eZt h53,eqT h54,eqF h56,eqF h57]
                ·cases h
                 simp(config:=cS)only[go_sem,eqF h1,eqF h2,eqF h3,eqF h5,eZt h17,eqT h18,eZt h21,eZt h24,eZt h27,eZt h30,eqF h35,eZt h37,eqT h39,eqT h40,eqT h41,eqT h42,eqT h43,eqF h45,eqT h46,eZt h53,eqF h54]
               ·cases h
                simp(config:=cS)only[go_sem,eqF h1,eqF h2,eqF h3,eqF h5,eZt h17,eqT h18,eZt h21,eZt h24,eZt h27,eZt h30,eqF h35,eZt h37,eqT h39,eqT h40,eqT h41,eqT h42,eqT h43,eqF h45,eqT h46,eZf h53]
              ·cases h
               simp(config:=cS)only[go_sem,eqF h1,eqF h2,eqF h3,eqF h5,eZt h17,eqT h18,eZt h21,eZt h24,eZt h27,eZt h30,eqF h35,eZt h37,eqT h39,eqT h40,eqT h41,eqT h42,eqT h43,eqF h45,eqF h46]
            ·cases h
             simp(config:=cS)only[go_sem,eqF h1,eqF h2,eqF h3,eqF h5,eZt h17,eqT h18,eZt h21,eZt h24,eZt h27,eZt h30,eqF h35,eZf h37]
          ·cases h
           simp(config:=cS)only[go_sem,eqF h1,eqF h2,eqF h3,eqF h5,eZt h17,eqT h18,eZt h21,eZt h24,eZt h27,eZf h30]
         ·cases h
          simp(config:=cS)only[go_sem,eqF h1,eqF h2,eqF h3,eqF h5,eZt h17,eqT h18,eZt h21,eZt h24,eZf h27]
        ·cases h
         simp(config:=cS)only[go_sem,eqF h1,eqF h2,eqF h3,eqF h5,eZt h17,eqT h18,eZt h21,eZf h24]
       ·cases h
        simp(config:=cS)only[go_sem,eqF h1,eqF h2,eqF h3,eqF h5,eZt h17,eqT h18,eZf h21]
      ·cases h
       simp(config:=cS)only[go_sem,eqF h1,eqF h2,eqF h3,eqF h5,eZt h17,eqF h18]
     ·cases h
      simp(config:=cS)only[go_sem,eqF h1,eqF h2,eqF h3,eqF h5,eZf h17]
end Go.Proofs.QZ
