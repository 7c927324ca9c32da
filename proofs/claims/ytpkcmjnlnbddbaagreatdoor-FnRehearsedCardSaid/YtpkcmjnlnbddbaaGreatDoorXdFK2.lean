/- Functions. -/
import Derived.Test.YtpkcmjnlnbddbaaGreatDoorXdFK1
set_option linter.all false
set_option maxRecDepth 100000
set_option maxHeartbeats 4000000
namespace Go.Proofs.Qd
open Go
def ls  : (Int × (List Int))→St
 | (b,a)=>⟨[(7,.ref 1920 1 0 a.length),(8,.lit (.int .i64 b))],[(1920,1,.row true (ab eI a))],2⟩
attribute [go_sem] ls
@[go_sem] def hi98_9:DT:=.i2 0 (.i2 1 (.i2 2 (.i2 3 (.i2 4 (.i2 5 (.i2 6 (.i2 7 (.i2 8 (.i2 9 .nil)))))))))
def hi98:Hint where
 acts:=fun _=>[]
 draws:=fun
  | 9=>⟨hi98_9,[[],[],[],[1,2],[],[],[4,5],[1,2,3,4,5,6],.range 8,.range 9],.range 10⟩
  | _=>⟨.nil,[],[]⟩
theorem Vp (i:Nat):hi98.acts i=[]:=rfl
theorem Vq (i:Nat):hi98.views i=none:=rfl
attribute [go_sem] Vp Vq Tryz.ntmps98 Tryz.results98
@[go_sem] theorem YD:(hi98.draws 9).order=hi98_9:=rfl
theorem bA {v0:List Int}{v1:Int}{res:List Int}(h:aQ v0 v1=some res):al Tryz.prog 98 [.sl (ab eI v0),.lit (.int .i64 v1)] [] (.ref 20000 1 0 res.length) [(20000,1,.row true (ab eI res))]:=by
 refine ai (ra:=[.home 4]) (md:=mdT) hT (hi:=hi98) Tryz.func98 rfl rfl (by decide +kernel) (by simp) ?_
 unfold aQ at h
 obtain ⟨h1,h⟩|⟨h1,h⟩:=af h
 ·cases h
 ·obtain ⟨r01,g2,h⟩:=ae h
  simp(config:=cS)only[go_sem,eqF h1]
  refine ag (KM g2) ?_
  obtain ⟨h3,h⟩|⟨h3,h⟩:=af h
  ·cases h
  ·obtain ⟨h4,h⟩|⟨h4,h⟩:=af h
   ·cases h
   ·obtain ⟨h5,h⟩:=am h
    obtain ⟨h6,h⟩:=am h
    obtain ⟨h7,h⟩:=am h
    obtain ⟨q02,l8,h⟩:=ae h
    simp(config:=cS)only[go_sem,eqF h3,eqF h4,eqT h5,eqT h6,eqT h7]
    refine ar (m1:=.mk) (m2:=.mk) [.nf [7,8] [1920]] (ls) l8 ?_ ?_
    ·simp(config:=cS)only[go_sem]
    ·intro nb9 sb9 bb9 b9 gb9
     obtain ⟨v8_1,v7_1⟩:=sb9
     unfold az at b9
     try dsimp only at b9
     obtain ⟨h10,b9⟩|⟨h10,b9⟩:=af b9
     ·obtain ⟨h11,b9⟩:=am b9
      obtain ⟨h12,b9⟩:=am b9
      obtain ⟨h13,b9⟩:=am b9
      cases b9
      simp(config:=cS)only[go_sem,eqT h10,eqT h11,eqT h12,eqT h13]
      refine au gb9 ?_
      simp(config:=cS)only[go_sem]
     ·cases b9
      obtain rfl:=(aj gb9).symm
      try dsimp only at h
      cases h
      simp(config:=cS)only[go_sem,eqF h10]
@[go_sem] def hi35_3:DT:=.i1 1 (.i1 2 (.i1 3 (.fork (.i0 0 [1,2,3] (.fork (.i2 4 (.fork (.i0 5 [1,2,3] (.i2 6 (.i0 7 [1,2,3] (.i2 8 .nil)))) (.i0 7 [1,2,3] (.i0 5 [1,2,3] (.i2 6 (.i2 8 .nil)))))) (.fork (.i0 5 [1,2,3] (.fork (.i2 4 (.i2 6 (.i0 7 [1,2,3] (.i2 8 .nil)))) (.i0 7 [1,2,3] (.i2 4 (.i2 6 (.i2 8 .nil)))))) (.i0 7 [1,2,3] (.fork (.i2 4 (.i0 5 [1,2,3] (.i2 6 (.i2 8 .nil)))) (.i0 5 [1,2,3] (.i2 4 (.i2 6 (.i2 8 .nil))))))))) (.fork (.i0 5 [1,2,3] (.fork (.i0 0 [1,2,3] (.fork (.i2 4 (.i2 6 (.i0 7 [1,2,3] (.i2 8 .nil)))) (.i0 7 [1,2,3] (.i2 4 (.i2 6 (.i2 8 .nil)))))) (.i0 7 [1,2,3] (.i0 0 [1,2,3] (.i2 4 (.i2 6 (.i2 8 .nil))))))) (.i0 7 [1,2,3] (.fork (.i0 0 [1,2,3] (.fork (.i2 4 (.i0 5 [1,2,3] (.i2 6 (.i2 8 .nil)))) (.i0 5 [1,2,3] (.i2 4 (.i2 6 (.i2 8 .nil)))))) (.i0 5 [1,2,3] (.i0 0 [1,2,3] (.i2 4 (.i2 6 (.i2 8 .nil)))))))))))
def hi35:Hint where
 acts:=fun _=>[]
 draws:=fun
  | 3=>⟨hi35_3,[[],[],[1],[1,2],[0,1,2,3],[],.range 6,[],.range 8],.range 9⟩
  | _=>⟨.nil,[],[]⟩
theorem Vr (i:Nat):hi35.acts i=[]:=rfl
theorem Vs (i:Nat):hi35.views i=none:=rfl
attribute [go_sem] Vr Vs Tryz.ntmps35 Tryz.results35
@[go_sem] theorem YE:(hi35.draws 3).order=hi35_3:=rfl
theorem ms {s:GShow}{res:GState}(h:dK s=some res):al Tryz.prog 35 [.agg (GShow.encS s)] [] (.agg [.lit (.int .i64 res.now),.ref 20000 1 0 res.times.length,.ref 20001 1 0 res.values.length]) [(20000,1,.row true (ab eI res.times)),(20001,1,.row true (ab eI res.values))]:=by
 refine ai (ra:=[.homeCell 128 1,.homeCell 128 2]) (md:=mdT) hT (hi:=hi35) Tryz.func35 rfl rfl (by decide +kernel) (by simp) ?_
 unfold dK at h
 obtain ⟨r01,g1,h⟩:=ae h
 simp(config:=cS)only[go_sem]
 refine ag (gR g1) ?_
 obtain ⟨h2,h⟩|⟨h2,h⟩:=af h
 ·try simp(config:=cS)only[go_sem,eZt h2]
  refine eX ?_ ?_
  ·try simp(config:=cS)only[go_sem]
   refine eX ?_ ?_
   ·obtain ⟨r02,g3,h⟩:=ae h
    simp(config:=cS)only[go_sem]
    refine ag (bA g3) ?_
    try simp(config:=cS)only[go_sem]
    refine eX ?_ ?_
    ·obtain ⟨x03,g4,h⟩:=ae h
     obtain ⟨h6,h7⟩:=dg (k:=0) g4
     cases h
     simp(config:=cS)only[go_sem,h6,h7]
    ·obtain ⟨x04,g8,h⟩:=ae h
     obtain ⟨h10,h11⟩:=dg (k:=0) g8
     cases h
     simp(config:=cS)only[go_sem,h10,h11]
   ·try simp(config:=cS)only[go_sem]
    refine eX ?_ ?_
    ·try simp(config:=cS)only[go_sem]
     refine eX ?_ ?_
     ·obtain ⟨r05,g12,h⟩:=ae h
      simp(config:=cS)only[go_sem]
      refine ag (bA g12) ?_
      obtain ⟨x06,g13,h⟩:=ae h
      obtain ⟨h15,h16⟩:=dg (k:=0) g13
      cases h
      simp(config:=cS)only[go_sem,h15,h16]
     ·obtain ⟨r07,g17,h⟩:=ae h
      simp(config:=cS)only[go_sem]
      refine ag (bA g17) ?_
      obtain ⟨x08,g18,h⟩:=ae h
      obtain ⟨h20,h21⟩:=dg (k:=0) g18
      cases h
      simp(config:=cS)only[go_sem,h20,h21]
    ·try simp(config:=cS)only[go_sem]
     refine eX ?_ ?_
     ·obtain ⟨r09,g22,h⟩:=ae h
      simp(config:=cS)only[go_sem]
      refine ag (bA g22) ?_
      obtain ⟨x10,g23,h⟩:=ae h
      obtain ⟨h25,h26⟩:=dg (k:=0) g23
      cases h
      simp(config:=cS)only[go_sem,h25,h26]
     ·obtain ⟨r11,g27,h⟩:=ae h
      simp(config:=cS)only[go_sem]
      refine ag (bA g27) ?_
      obtain ⟨x12,g28,h⟩:=ae h
      obtain ⟨h30,h31⟩:=dg (k:=0) g28
      cases h
      simp(config:=cS)only[go_sem,h30,h31]
  ·try simp(config:=cS)only[go_sem]
   refine eX ?_ ?_
   ·try simp(config:=cS)only[go_sem]
    refine eX ?_ ?_
    ·try simp(config:=cS)only[go_sem]
     refine eX ?_ ?_
     ·obtain ⟨r13,g32,h⟩:=ae h
      simp(config:=cS)only[go_sem]
      refine ag (bA g32) ?_
      obtain ⟨x14,g33,h⟩:=ae h
      obtain ⟨h35,h36⟩:=dg (k:=0) g33
      cases h
      simp(config:=cS)only[go_sem,h35,h36]
     ·obtain ⟨r15,g37,h⟩:=ae h
      simp(config:=cS)only[go_sem]
      refine ag (bA g37) ?_
      obtain ⟨x16,g38,h⟩:=ae h
      obtain ⟨h40,h41⟩:=dg (k:=0) g38
      cases h
      simp(config:=cS)only[go_sem,h40,h41]
    ·obtain ⟨r17,g42,h⟩:=ae h
     simp(config:=cS)only[go_sem]
     refine ag (bA g42) ?_
     obtain ⟨x18,g43,h⟩:=ae h
     obtain ⟨h45,h46⟩:=dg (k:=0) g43
     cases h
     simp(config:=cS)only[go_sem,h45,h46]
   ·try simp(config:=cS)only[go_sem]
    refine eX ?_ ?_
    ·try simp(config:=cS)only[go_sem]
     refine eX ?_ ?_
     ·obtain ⟨r19,g47,h⟩:=ae h
      simp(config:=cS)only[go_sem]
      refine ag (bA g47) ?_
      obtain ⟨x20,g48,h⟩:=ae h
      obtain ⟨h50,h51⟩:=dg (k:=0) g48
      cases h
      simp(config:=cS)only[go_sem,h50,h51]
     ·obtain ⟨r21,g52,h⟩:=ae h
      simp(config:=cS)only[go_sem]
      refine ag (bA g52) ?_
      obtain ⟨x22,g53,h⟩:=ae h
      obtain ⟨h55,h56⟩:=dg (k:=0) g53
      cases h
      simp(config:=cS)only[go_sem,h55,h56]
    ·obtain ⟨r23,g57,h⟩:=ae h
     simp(config:=cS)only[go_sem]
     refine ag (bA g57) ?_
     obtain ⟨x24,g58,h⟩:=ae h
     obtain ⟨h60,h61⟩:=dg (k:=0) g58
     cases h
     simp(config:=cS)only[go_sem,h60,h61]
 ·cases h
  simp(config:=cS)only[go_sem,eZf h2]
@[go_sem] def hi37_3:DT:=.i2 0 (.i1 2 (.i2 4 (.i0 1 [2] (.i2 3 (.i2 5 (.i2 6 (.i2 7 .nil)))))))
def hi37:Hint where
 acts:=fun _=>[]
 draws:=fun
  | 3=>⟨hi37_3,[[],[0],[],[0,1,2],[],.range 5,.range 6,.range 7],.range 8⟩
  | _=>⟨.nil,[],[]⟩
theorem Vt (i:Nat):hi37.acts i=[]:=rfl
theorem Vu (i:Nat):hi37.views i=none:=rfl
attribute [go_sem] Vt Vu Tryz.ntmps37 Tryz.results37
@[go_sem] theorem YF:(hi37.draws 3).order=hi37_3:=rfl
theorem Dx {s:GShow}{lazy:Bool}{res:GDesk × Bool}(h:ka s lazy=some res):al Tryz.prog 37 [.agg (GShow.encS s),.lit (.bool lazy)] [] (.tup [.agg [.ref 20000 1 0 res.1.show_.nodes.length,.ref 20001 1 0 res.1.show_.ties.length,.lit (.int .i64 res.1.show_.horizon),.lit (.int .i64 res.1.state.now),.ref 20002 1 0 res.1.state.times.length,.ref 20003 1 0 res.1.state.values.length,.lit (.bool res.1.lazy),.ref 20004 1 0 res.1.log.length],.lit (.bool res.2)]) [(20000,1,.row true (ab GNode.encO res.1.show_.nodes)),(20001,1,.row true (ab GTie.enc res.1.show_.ties)),(20002,1,.row true (ab eI res.1.state.times)),(20003,1,.row true (ab eI res.1.state.values)),(20004,1,.row true (ab aw.encO res.1.log))]:=by
 refine ai (ra:=[.homeCell 256 0,.homeCell 256 1,.homeCell 256 4,.homeCell 256 5,.homeCell 256 7]) (md:=mdT) hT (hi:=hi37) Tryz.func37 rfl rfl (by decide +kernel) (by simp) ?_
 unfold ka at h
 obtain ⟨r01,g1,h⟩:=ae h
 simp(config:=cS)only[go_sem]
 refine ag (gR g1) ?_
 obtain ⟨h2,h⟩|⟨h2,h⟩:=af h
 ·obtain ⟨r02,g3,h⟩:=ae h
  simp(config:=cS)only[go_sem,eZt h2]
  refine ag (oo g3) ?_
  obtain ⟨r03,g4,h⟩:=ae h
  simp(config:=cS)only[go_sem]
  refine ag (ms g4) ?_
  cases h
  simp(config:=cS)only[go_sem]
 ·cases h
  simp(config:=cS)only[go_sem,eZf h2]
def nz (d:Int)(e:List GNode)(f:List GTie)(g:Int)(b c a:List Int)(h:Int):St:=⟨[(2,.ptr 128 1 0 0),(3,.ptr 192 1 0 0),(24,.ref 704 1 0 a.length),(25,.lit (.int .i64 d)),(26,.lit (.int .i64 h))],[(128,1,.var [.sl (ab GNode.encS e),.sl (ab GTie.enc f),.lit (.int .i64 g)]),(192,1,.var [.sl (ab eI b),.sl (ab eI c)]),(704,1,.row true (ab eI a))],2⟩
attribute [go_sem] nz
def nD (a:List Int)(b:Int)(c:List GNode)(d:List GTie)(e f:Int):St:=⟨[(2,.ptr 128 1 0 0),(59,.sl (ab eI a)),(60,.lit (.int .i64 b)),(61,.lit (.int .i64 f))],[(128,1,.var [.sl (ab GNode.encS c),.sl (ab GTie.enc d),.lit (.int .i64 e)])],2⟩
attribute [go_sem] nD
@[go_sem] def hi85_7:DT:=.i2 0 (.i2 1 (.i2 2 (.i2 3 (.i2 4 (.i2 5 (.i2 6 (.i2 7 (.i2 8 (.i2 9 (.i2 10 (.i2 11 (.i2 12 (.i2 13 (.i2 14 (.i2 15 (.i2 16 (.i2 17 (.i2 18 (.i2 19 (.i2 20 (.i2 21 (.i2 22 (.i2 23 (.i2 24 (.i2 25 .nil)))))))))))))))))))))))))
def hi85:Hint where
 acts:=fun _=>[]
 draws:=fun
  | 7=>⟨hi85_7,[[],[0],[],[0,1,2],[0,1,2,3],[],[5],[],[5,6,7],[5,6,7,8],[5,6,7,8,9],.range 11,.range 12,.range 13,.range 14,.range 13,.range 16,.range 17,.range 13,[0,1,2,3,4,5,6,7,8,9,10,11,12,18],.range 13,[0,1,2,3,4,5,6,7,8,9,10,11,12,18,19,20],[0,1,2,3,4,5,6,7,8,9,10,11,12,18,19,20,21],[0,1,2,3,4,5,6,7,8,9,10,11,12,18,19,20,21,22],.range 24,.range 25],.range 26⟩
  | _=>⟨.nil,[],[]⟩
theorem Vv (i:Nat):hi85.acts i=[]:=rfl
theorem Vw (i:Nat):hi85.views i=none:=rfl
attribute [go_sem] Vv Vw Tryz.ntmps85 Tryz.results85
@[go_sem] theorem YG:(hi85.draws 7).order=hi85_7:=rfl
theorem sd {s:GShow}{v1:GChoice}{res:Bool}(h:gM s v1=some res):al Tryz.prog 85 [.agg (GShow.encS s),.agg [.sl (ab eI v1.lengths),.sl (ab eI v1.values)]] [] (.lit (.bool res)) []:=by
 refine ai (ra:=[]) (md:=mdT) hT (hi:=hi85) Tryz.func85 rfl rfl (by decide +kernel) (by simp) ?_
 unfold gM at h
 obtain ⟨r01,g1,h⟩:=ae h
 simp(config:=cS)only[go_sem]
 refine ag (sc g1) ?_
 obtain ⟨h2,h⟩|⟨h2,h⟩:=af h
 ·obtain ⟨h3,h⟩|⟨h3,h⟩:=af h
  ·obtain ⟨q09,l4,h⟩:=ae h
   simp(config:=cS)only[go_sem,eqT h2,eqT h3]
   refine ar (m1:=.mk) (m2:=.mk) [.nf [2,3,24,25,26] [128,192,704]] (nz ((r01.length:Nat):Int) s.nodes s.ties s.horizon v1.lengths v1.values r01) l4 ?_ ?_
   ·simp(config:=cS)only[go_sem]
   ·intro nb5 v26_1 bb5 b5 gb5
    unfold eD at b5
    try dsimp only at b5
    obtain ⟨h6,b5⟩|⟨h6,b5⟩:=af b5
    ·obtain ⟨x02,g7,b5⟩:=ae b5
     obtain ⟨h8,h9,h10⟩:=ak g7
     obtain ⟨x03,g11,b5⟩:=ae b5
     obtain ⟨h12,h13,h14⟩:=ak g11
     obtain ⟨x04,g15,b5⟩:=ae b5
     obtain ⟨h16,h17,h18⟩:=ak g15
     obtain ⟨h19,b5⟩|⟨h19,b5⟩:=af b5
     ·cases b5
      obtain rfl:=(aj gb5).symm
      try dsimp only at h
      cases h
      simp(config:=cS)only[go_sem,eqT h6,h8,h9,h10,h12,h13,h14,h16,h17,h18,eqT h19]
     ·obtain ⟨h21,b5⟩|⟨h21,b5⟩:=af b5
      ·cases b5
       obtain rfl:=(aj gb5).symm
       try dsimp only at h
       cases h
       simp(config:=cS)only[go_sem,eqT h6,h8,h9,h10,h12,h13,h14,h16,h17,h18,eqF h19,eqT h21]
      ·cases b5
       simp(config:=cS)only[go_sem,eqT h6,h8,h9,h10,h12,h13,h14,h16,h17,h18,eqF h19,eqF h21]
       refine au gb5 ?_
       simp(config:=cS)only[go_sem]
    ·cases b5
     obtain rfl:=(aj gb5).symm
     try dsimp only at h
     obtain ⟨q08,l24,h⟩:=ae h
     simp(config:=cS)only[go_sem,eqF h6]
     refine ar (m1:=.mk) (m2:=.mk) [.nf [2,59,60,61] [128]] (nD v1.values ((v1.values.length:Nat):Int) s.nodes s.ties s.horizon) l24 ?_ ?_
     ·simp(config:=cS)only[go_sem]
     ·intro nb25 v61_2 bb25 b25 gb25
      unfold eE at b25
      try dsimp only at b25
      obtain ⟨h26,b25⟩|⟨h26,b25⟩:=af b25
      ·obtain ⟨x05,g27,b25⟩:=ae b25
       obtain ⟨h28,h29,h30⟩:=ak g27
       obtain ⟨h31,b25⟩|⟨h31,b25⟩:=af b25
       ·obtain ⟨h32,b25⟩|⟨h32,b25⟩:=af b25
        ·obtain ⟨r06,g33,b25⟩:=ae b25
         simp(config:=cS)only[go_sem,eqT h26,h28,h29,h30,eqT h31,eqT h32]
         refine ag (lU g33) ?_
         obtain ⟨h34,b25⟩|⟨h34,b25⟩:=af b25
         ·cases b25
          obtain rfl:=(aj gb25).symm
          try dsimp only at h
          cases h
          simp(config:=cS)only[go_sem,eqT h34]
         ·cases b25
          simp(config:=cS)only[go_sem,eqF h34]
          refine au gb25 ?_
          simp(config:=cS)only[go_sem]
        ·cases b25
         simp(config:=cS)only[go_sem,eqT h26,h28,h29,h30,eqT h31,eqF h32]
         refine au gb25 ?_
         simp(config:=cS)only[go_sem]
       ·obtain ⟨h36,b25⟩|⟨h36,b25⟩:=af b25
        ·obtain ⟨r07,g37,b25⟩:=ae b25
         simp(config:=cS)only[go_sem,eqT h26,h28,h29,h30,eqF h31,eqT h36]
         refine ag (lU g37) ?_
         obtain ⟨h38,b25⟩|⟨h38,b25⟩:=af b25
         ·cases b25
          obtain rfl:=(aj gb25).symm
          try dsimp only at h
          cases h
          simp(config:=cS)only[go_sem,eqT h38]
         ·cases b25
          simp(config:=cS)only[go_sem,eqF h38]
          refine au gb25 ?_
          simp(config:=cS)only[go_sem]
        ·cases b25
         obtain rfl:=(aj gb25).symm
         try dsimp only at h
         cases h
         simp(config:=cS)only[go_sem,eqT h26,h28,h29,h30,eqF h31,eqF h36]
      ·cases b25
       obtain rfl:=(aj gb25).symm
       try dsimp only at h
       cases h
       simp(config:=cS)only[go_sem,eqF h26]
  ·cases h
   simp(config:=cS)only[go_sem,eqT h2,eqF h3]
 ·cases h
  simp(config:=cS)only[go_sem,eqF h2]
@[go_sem] def hi159_1:DT:=.i1 0 (.i1 1 (.i2 2 (.i2 3 (.i1 5 (.i1 6 (.i0 4 [0,1,5,6] (.i0 7 [0,1] (.i2 8 (.i2 9 .nil)))))))))
def Gw:Hint where
 acts:=fun _=>[]
 draws:=fun
  | 1=>⟨hi159_1,[[],[0],[],[2],[2,3],[],[5],[2,3,4,5,6],.range 8,.range 9],.range 10⟩
  | _=>⟨.nil,[],[]⟩
theorem SY (i:Nat):Gw.acts i=[]:=rfl
theorem SZ (i:Nat):Gw.views i=none:=rfl
attribute [go_sem] SY SZ Tryz.ntmps159 Tryz.results159
@[go_sem] theorem XI:(Gw.draws 1).order=hi159_1:=rfl
theorem kC {v0 res:GState}(h:di v0=some res):al Tryz.prog 159 [.agg (GState.encS v0)] [] (.agg [.lit (.int .i64 res.now),.ref 20000 1 0 res.times.length,.ref 20001 1 0 res.values.length]) [(20000,1,.row true (ab eI res.times)),(20001,1,.row true (ab eI res.values))]:=by
 refine ai (ra:=[.homeCell 128 1,.homeCell 128 2]) (md:=mdT) hT (hi:=Gw) Tryz.func159 rfl rfl (by decide +kernel) (by simp) ?_
 unfold di at h
 obtain ⟨r01,g1,h⟩:=ae h
 simp(config:=cS)only[go_sem]
 refine ag (bj g1) ?_
 obtain ⟨r02,g2,h⟩:=ae h
 simp(config:=cS)only[go_sem]
 refine ag (bj g2) ?_
 cases h
 simp(config:=cS)only[go_sem]
def oq (b:List aw)(c:Int):(Int × (List aw))→St
 | (d,a)=>⟨[(3,.ref 255 1 0 a.length),(6,.sl (ab aw.encS b)),(7,.lit (.int .i64 c)),(8,.lit (.int .i64 d))],[(255,1,.row true (ab aw.encO a))],2⟩
attribute [go_sem] oq
@[go_sem] def hi160_5:DT:=.i2 0 (.i1 1 (.i1 2 (.i2 3 (.i2 4 (.i1 6 (.i1 7 (.i1 9 (.i1 10 (.i0 5 [1,2,6,7,9,10] (.i0 8 [1,2,9,10] (.i0 11 [1,2] (.i2 12 (.i2 13 (.i2 14 (.i2 15 .nil)))))))))))))))
def Gx:Hint where
 acts:=fun _=>[]
 draws:=fun
  | 5=>⟨hi160_5,[[],[],[1],[],[3],[3,4],[],[6],[3,4,5,6,7],[],[9],[3,4,5,6,7,8,9,10],[1,2,3,4,5,6,7,8,9,10,11],[1,2,3,4,5,6,7,8,9,10,11,12],.range 14,.range 15],.range 16⟩
  | _=>⟨.nil,[],[]⟩
theorem Ta (i:Nat):Gx.acts i=[]:=rfl
theorem Tb (i:Nat):Gx.views i=none:=rfl
attribute [go_sem] Ta Tb Tryz.ntmps160 Tryz.results160
@[go_sem] theorem XJ:(Gx.draws 5).order=hi160_5:=rfl
theorem Dy {log res:List aw}(h:kb log=some res):al Tryz.prog 160 [.sl (ab aw.encS log)] [] (.ref 20000 1 0 res.length) [(20000,1,.row true (ab aw.encO res))]:=by
 refine ai (ra:=[.home 2]) (md:=mdT) hT (hi:=Gx) Tryz.func160 rfl rfl (by decide +kernel) (by simp) ?_
 unfold kb at h
 obtain ⟨q05,l1,h⟩:=ae h
 simp(config:=cS)only[go_sem]
 refine ar (m1:=.mk) (m2:=.mk) [.home 3,.nf [3,6,7,8] [255]] (oq log ((log.length:Nat):Int)) l1 ?_ ?_
 ·simp(config:=cS)only[go_sem]
 ·intro nb2 sb2 bb2 b2 gb2
  obtain ⟨v8_1,out_1⟩:=sb2
  unfold gV at b2
  try dsimp only at b2
  obtain ⟨h3,b2⟩|⟨h3,b2⟩:=af b2
  ·obtain ⟨x01,g4,b2⟩:=ae b2
   obtain ⟨h5,h6,h7⟩:=ak g4
   obtain ⟨r02,g8,b2⟩:=ae b2
   simp(config:=cS)only[go_sem,eqT h3,h5,h6,h7]
   refine ag (bj g8) ?_
   obtain ⟨r03,g9,b2⟩:=ae b2
   simp(config:=cS)only[go_sem]
   refine ag (bj g9) ?_
   obtain ⟨r04,g10,b2⟩:=ae b2
   simp(config:=cS)only[go_sem]
   refine ag (bj g10) ?_
   obtain ⟨h11,b2⟩:=am b2
   obtain ⟨h12,b2⟩:=am b2
   cases b2
   simp(config:=cS)only[go_sem,eqT h11,eqT h12]
   refine au gb2 ?_
   simp(config:=cS)only[go_sem]
  ·cases b2
   obtain rfl:=(aj gb2).symm
   try dsimp only at h
   cases h
   simp(config:=cS)only[go_sem,eqF h3]
@[go_sem] def hi84_1:DT:=.i2 0 (.i2 1 (.i1 3 (.i1 4 (.i1 6 (.i1 7 (.i1 8 (.i1 9 (.i0 2 [3,4,6,7,8,9] (.i0 5 [6,7,8,9] (.i0 10 [6,7] (.i2 11 (.i2 12 .nil))))))))))))
def hi84:Hint where
 acts:=fun _=>[]
 draws:=fun
  | 1=>⟨hi84_1,[[],[0],[0,1],[],[3],.range 5,[],[6],[],[8],[0,1,2,3,4,5,8,9],.range 11,.range 12],.range 13⟩
  | _=>⟨.nil,[],[]⟩
theorem Vx (i:Nat):hi84.acts i=[]:=rfl
theorem Vy (i:Nat):hi84.views i=none:=rfl
attribute [go_sem] Vx Vy Tryz.ntmps84 Tryz.results84
@[go_sem] theorem YH:(hi84.draws 1).order=hi84_1:=rfl
theorem se {d res:GDesk}(h:gO d=some res):al Tryz.prog 84 [.agg (GDesk.encS d)] [] (.agg [.ref 20000 1 0 res.show_.nodes.length,.ref 20001 1 0 res.show_.ties.length,.lit (.int .i64 res.show_.horizon),.lit (.int .i64 res.state.now),.ref 20002 1 0 res.state.times.length,.ref 20003 1 0 res.state.values.length,.lit (.bool res.lazy),.ref 20004 1 0 res.log.length]) [(20000,1,.row true (ab GNode.encO res.show_.nodes)),(20001,1,.row true (ab GTie.enc res.show_.ties)),(20002,1,.row true (ab eI res.state.times)),(20003,1,.row true (ab eI res.state.values)),(20004,1,.row true (ab aw.encO res.log))]:=by
 refine ai (ra:=[.homeCell 128 0,.homeCell 128 1,.homeCell 128 4,.homeCell 128 5,.homeCell 128 7]) (md:=mdT) hT (hi:=hi84) Tryz.func84 rfl rfl (by decide +kernel) (by simp) ?_
 unfold gO at h
 obtain ⟨r01,g1,h⟩:=ae h
 simp(config:=cS)only[go_sem]
 refine ag (oo g1) ?_
 obtain ⟨r02,g2,h⟩:=ae h
 simp(config:=cS)only[go_sem]
 refine ag (kC g2) ?_
 obtain ⟨r03,g3,h⟩:=ae h
 simp(config:=cS)only[go_sem]
 refine ag (Dy g3) ?_
 cases h
 simp(config:=cS)only[go_sem]
attribute [go_sem] Tryz.ntmps269 Tryz.results269
theorem vX {n:Int}{res:Bool}(h:ji n=some res):al Tryz.prog 269 [.lit (.int .i64 n)] [] (.lit (.bool res)) []:=by
 refine ai (ra:=[]) (md:=mdT) hT (hi:=hi00) Tryz.func269 rfl rfl (by decide +kernel) (by simp) ?_
 unfold ji at h
 obtain ⟨h1,h⟩|⟨h1,h⟩:=af h
 ·cases h
  simp(config:=cS)only[go_sem,eqT h1]
 ·cases h
  simp(config:=cS)only[go_sem,eqF h1]
attribute [go_sem] Tryz.ntmps201 Tryz.results201
theorem sf {v:List Int}{res:Bool}(h:gN v=some res):al Tryz.prog 201 [.sl (ab eI v)] [] (.lit (.bool res)) []:=by
 refine ai (ra:=[]) (md:=mdT) hT (hi:=hi00) Tryz.func201 rfl rfl (by decide +kernel) (by simp) ?_
 unfold gN at h
 obtain ⟨h1,h⟩|⟨h1,h⟩:=af h
 ·obtain ⟨r01,g2,h⟩:=ae h
  simp(config:=cS)only[go_sem,eqT h1]
  refine ag (eR (by exact fun _ _ hr=>vX hr) (by refine ⟨fun _=>?_,fun _=>?_⟩ <;> simp only [go_sem]) (fun _=>rfl) rfl g2) ?_
  cases h
  simp(config:=cS)only[go_sem]
 ·cases h
  simp(config:=cS)only[go_sem,eqF h1]
def ot (a:List Int)(d:Int)(e:List GNode)(f:List GTie)(g b:Int)(c:List Int)(h:Int):St:=⟨[(2,.ptr 128 1 0 0),(3,.ptr 192 1 0 0),(37,.sl (ab eI a)),(38,.lit (.int .i64 d)),(39,.lit (.int .i64 h))],[(128,1,.var [.sl (ab GNode.encS e),.sl (ab GTie.enc f),.lit (.int .i64 g)]),(192,1,.var [.lit (.int .i64 b),.sl (ab eI a),.sl (ab eI c)])],2⟩
attribute [go_sem] ot
def ou (a:List Int)(d:Int)(e:List GNode)(f:List GTie)(g b:Int)(c:List Int)(h:Int):St:=⟨[(2,.ptr 128 1 0 0),(3,.ptr 192 1 0 0),(67,.sl (ab eI a)),(68,.lit (.int .i64 d)),(69,.lit (.int .i64 h))],[(128,1,.var [.sl (ab GNode.encS e),.sl (ab GTie.enc f),.lit (.int .i64 g)]),(192,1,.var [.lit (.int .i64 b),.sl (ab eI c),.sl (ab eI a)])],2⟩
attribute [go_sem] ou
attribute [go_sem] Tryz.ntmps188 Tryz.results188
theorem Dz {s:GShow}{v1:GState}{res:Bool}(h:kc s v1=some res):al Tryz.prog 188 [.agg (GShow.encS s),.agg (GState.encS v1)] [] (.lit (.bool res)) []:=by
 refine ai (ra:=[]) (md:=mdT) hT (hi:=hi00) Tryz.func188 rfl rfl (by decide +kernel) (by simp) ?_
 unfold kc at h
 obtain ⟨h1,h⟩|⟨h1,h⟩:=af h
 ·cases h
  simp(config:=cS)only[go_sem,eqT h1]
 ·obtain ⟨h2,h⟩|⟨h2,h⟩:=af h
  ·cases h
   simp(config:=cS)only[go_sem,eqF h1,eqT h2]
  ·obtain ⟨h3,h⟩|⟨h3,h⟩:=af h
   ·obtain ⟨r01,g4,h⟩:=ae h
    simp(config:=cS)only[go_sem,eqF h1,eqF h2,eqT h3]
    refine ag (sf g4) ?_
    obtain ⟨h5,h⟩|⟨h5,h⟩:=af h
    ·obtain ⟨q07,l6,h⟩:=ae h
     simp(config:=cS)only[go_sem,eZt h5]
     refine ar (m1:=.mk) (m2:=.mk) [.nf [2,3,37,38,39] [128,192]] (ot v1.times ((v1.times.length:Nat):Int) s.nodes s.ties s.horizon v1.now v1.values) l6 ?_ ?_
     ·simp(config:=cS)only[go_sem]
     ·intro nb7 v39_1 bb7 b7 gb7
      unfold fy at b7
      try dsimp only at b7
      obtain ⟨h8,b7⟩|⟨h8,b7⟩:=af b7
      ·obtain ⟨x02,g9,b7⟩:=ae b7
       obtain ⟨h10,h11,h12⟩:=ak g9
       obtain ⟨h13,b7⟩|⟨h13,b7⟩:=af b7
       ·obtain ⟨h14,b7⟩|⟨h14,b7⟩:=af b7
        ·obtain ⟨h15,b7⟩|⟨h15,b7⟩:=af b7
         ·obtain ⟨h16,b7⟩|⟨h16,b7⟩:=af b7
          ·cases b7
           obtain rfl:=(aj gb7).symm
           try dsimp only at h
           cases h
           simp(config:=cS)only[go_sem,eqT h8,h10,h11,h12,eqT h13,eqT h14,eqT h15,eqT h16]
          ·obtain ⟨h18,b7⟩|⟨h18,b7⟩:=af b7
           ·cases b7
            obtain rfl:=(aj gb7).symm
            try dsimp only at h
            cases h
            simp(config:=cS)only[go_sem,eqT h8,h10,h11,h12,eqT h13,eqT h14,eqT h15,eqF h16,eqT h18]
           ·cases b7
            simp(config:=cS)only[go_sem,eqT h8,h10,h11,h12,eqT h13,eqT h14,eqT h15,eqF h16,eqF h18]
            refine au gb7 ?_
            simp(config:=cS)only[go_sem]
         ·cases b7
          simp(config:=cS)only[go_sem,eqT h8,h10,h11,h12,eqT h13,eqT h14,eqF h15]
          refine au gb7 ?_
          simp(config:=cS)only[go_sem]
        ·cases b7
         obtain rfl:=(aj gb7).symm
         try dsimp only at h
         cases h
         simp(config:=cS)only[go_sem,eqT h8,h10,h11,h12,eqT h13,eqF h14]
       ·obtain ⟨h21,b7⟩|⟨h21,b7⟩:=af b7
        ·obtain ⟨h22,b7⟩|⟨h22,b7⟩:=af b7
         ·cases b7
          obtain rfl:=(aj gb7).symm
          try dsimp only at h
          cases h
          simp(config:=cS)only[go_sem,eqT h8,h10,h11,h12,eqF h13,eqT h21,eqT h22]
         ·obtain ⟨h24,b7⟩|⟨h24,b7⟩:=af b7
          ·cases b7
           obtain rfl:=(aj gb7).symm
           try dsimp only at h
           cases h
           simp(config:=cS)only[go_sem,eqT h8,h10,h11,h12,eqF h13,eqT h21,eqF h22,eqT h24]
          ·cases b7
           simp(config:=cS)only[go_sem,eqT h8,h10,h11,h12,eqF h13,eqT h21,eqF h22,eqF h24]
           refine au gb7 ?_
           simp(config:=cS)only[go_sem]
        ·cases b7
         simp(config:=cS)only[go_sem,eqT h8,h10,h11,h12,eqF h13,eqF h21]
         refine au gb7 ?_
         simp(config:=cS)only[go_sem]
      ·cases b7
       obtain rfl:=(aj gb7).symm
       try dsimp only at h
       obtain ⟨q06,l27,h⟩:=ae h
       simp(config:=cS)only[go_sem,eqF h8]
       refine ar (m1:=.mk) (m2:=.mk) [.nf [2,3,67,68,69] [128,192]] (ou v1.values ((v1.values.length:Nat):Int) s.nodes s.ties s.horizon v1.now v1.times) l27 ?_ ?_
       ·simp(config:=cS)only[go_sem]
       ·intro nb28 v69_2 bb28 b28 gb28
        unfold fz at b28
        try dsimp only at b28
        obtain ⟨h29,b28⟩|⟨h29,b28⟩:=af b28
        ·obtain ⟨x03,g30,b28⟩:=ae b28
         obtain ⟨h31,h32,h33⟩:=ak g30
         obtain ⟨r04,g34,b28⟩:=ae b28
         simp(config:=cS)only[go_sem,eqT h29,h31,h32,h33]
         refine ag (lU g34) ?_
         obtain ⟨h35,b28⟩|⟨h35,b28⟩:=af b28
         ·obtain ⟨x05,g36,b28⟩:=ae b28
          obtain ⟨h37,h38,h39⟩:=ak g36
          obtain ⟨h40,b28⟩|⟨h40,b28⟩:=af b28
          ·cases b28
           simp(config:=cS)only[go_sem,eqT h35,h37,h38,h39,eqT h40]
           refine au gb28 ?_
           simp(config:=cS)only[go_sem]
          ·cases b28
           obtain rfl:=(aj gb28).symm
           try dsimp only at h
           cases h
           simp(config:=cS)only[go_sem,eqT h35,h37,h38,h39,eqF h40]
         ·obtain ⟨h42,b28⟩|⟨h42,b28⟩:=af b28
          ·cases b28
           simp(config:=cS)only[go_sem,eqF h35,eqT h42]
           refine au gb28 ?_
           simp(config:=cS)only[go_sem]
          ·cases b28
           obtain rfl:=(aj gb28).symm
           try dsimp only at h
           cases h
           simp(config:=cS)only[go_sem,eqF h35,eqF h42]
        ·cases b28
         obtain rfl:=(aj gb28).symm
         try dsimp only at h
         cases h
         simp(config:=cS)only[go_sem,eqF h29]
    ·cases h
     simp(config:=cS)only[go_sem,eZf h5]
   ·cases h
    simp(config:=cS)only[go_sem,eqF h1,eqF h2,eqF h3]
attribute [go_sem] Tryz.ntmps95 Tryz.results95
theorem lV {s:GShow}{v1:GState}{res:Bool}(h:eH s v1=some res):al Tryz.prog 95 [.agg (GShow.encS s),.agg (GState.encS v1)] [] (.lit (.bool res)) []:=by
 refine ai (ra:=[]) (md:=mdT) hT (hi:=hi00) Tryz.func95 rfl rfl (by decide +kernel) (by simp) ?_
 unfold eH at h
 obtain ⟨r01,g1,h⟩:=ae h
 simp(config:=cS)only[go_sem]
 refine ag (gR g1) ?_
 obtain ⟨h2,h⟩|⟨h2,h⟩:=af h
 ·obtain ⟨r02,g3,h⟩:=ae h
  simp(config:=cS)only[go_sem,eZt h2]
  refine ag (Dz g3) ?_
  cases h
  simp(config:=cS)only[go_sem,eZt h2]
 ·cases h
  simp(config:=cS)only[go_sem,eZf h2]
def pf (g:List GTie)(e b:Int)(c d:List Int):(Int × (List Int))→St
 | (f,a)=>⟨[(3,.ptr 192 1 0 0),(5,.ref 383 1 0 a.length),(9,.sl (ab GTie.enc g)),(10,.lit (.int .i64 e)),(11,.lit (.int .i64 f))],[(192,1,.var [.lit (.int .i64 b),.sl (ab eI c),.sl (ab eI d)]),(383,1,.row true (ab eI a))],2⟩
attribute [go_sem] pf
attribute [go_sem] Tryz.ntmps167 Tryz.results167
theorem uN {s:GShow}{v1:GState}{res:List Int}(h:iW s v1=some res):al Tryz.prog 167 [.agg (GShow.encS s),.agg (GState.encS v1)] [] (.ref 20000 1 0 res.length) [(20000,1,.row true (ab eI res))]:=by
 refine ai (ra:=[.home 4]) (md:=mdT) hT (hi:=hi00) Tryz.func167 rfl rfl (by decide +kernel) (by simp) ?_
 unfold iW at h
 obtain ⟨q04,l1,h⟩:=ae h
 simp(config:=cS)only[go_sem]
 refine ar (m1:=.mk) (m2:=.mk) [.home 5,.nf [3,5,9,10,11] [192,383]] (pf s.ties ((s.ties.length:Nat):Int) v1.now v1.times v1.values) l1 ?_ ?_
 ·simp(config:=cS)only[go_sem]
 ·intro nb2 sb2 bb2 b2 gb2
  obtain ⟨v11_1,out_1⟩:=sb2
  unfold iC at b2
  try dsimp only at b2
  obtain ⟨h3,b2⟩|⟨h3,b2⟩:=af b2
  ·obtain ⟨x01,g4,b2⟩:=ae b2
   obtain ⟨h5,h6,h7⟩:=ak g4
   obtain ⟨h8,b2⟩|⟨h8,b2⟩:=af b2
   ·obtain ⟨x02,g9,b2⟩:=ae b2
    obtain ⟨h10,h11,h12⟩:=ak g9
    obtain ⟨h13,b2⟩|⟨h13,b2⟩:=af b2
    ·cases b2
     simp(config:=cS)only[go_sem,eqT h3,h5,h6,h7,eZt h8,h10,h11,h12,eqT h13]
     refine au gb2 ?_
     simp(config:=cS)only[go_sem]
    ·obtain ⟨x03,g14,b2⟩:=ae b2
     obtain ⟨h15,h16,h17⟩:=ak g14
     obtain ⟨h18,b2⟩|⟨h18,b2⟩:=af b2
     ·obtain ⟨h19,b2⟩:=am b2
      obtain ⟨h20,b2⟩:=am b2
      cases b2
      simp(config:=cS)only[go_sem,eqT h3,h5,h6,h7,eZt h8,h10,h11,h12,eqF h13,h15,h16,h17,eqT h18,eqT h19,eqT h20]
      refine au gb2 ?_
      simp(config:=cS)only[go_sem]
     ·cases b2
      simp(config:=cS)only[go_sem,eqT h3,h5,h6,h7,eZt h8,h10,h11,h12,eqF h13,h15,h16,h17,eqF h18]
      refine au gb2 ?_
      simp(config:=cS)only[go_sem]
   ·cases b2
    simp(config:=cS)only[go_sem,eqT h3,h5,h6,h7,eZf h8]
    refine au gb2 ?_
    simp(config:=cS)only[go_sem]
  ·cases b2
   obtain rfl:=(aj gb2).symm
   try dsimp only at h
   cases h
   simp(config:=cS)only[go_sem,eqF h3]
def ov (b:Int)(d:List Int)(e:Int):(Int × (List Int))→St
 | (c,a)=>⟨[(1,.lit (.int .i64 b)),(5,.ref 383 1 0 a.length),(8,.sl (ab eI d)),(9,.lit (.int .i64 e)),(10,.lit (.int .i64 c))],[(383,1,.row true (ab eI a))],2⟩
attribute [go_sem] ov
attribute [go_sem] Tryz.ntmps248 Tryz.results248
theorem tv {list:List Int}{set:Int}{res:List Int}(h:ir list set=some res):al Tryz.prog 248 [.sl (ab eI list),.lit (.int .i64 set)] [] (.ref 20000 1 0 res.length) [(20000,1,.row true (ab eI res))]:=by
 refine ai (ra:=[.home 4]) (md:=mdT) hT (hi:=hi00) Tryz.func248 rfl rfl (by decide +kernel) (by simp) ?_
 unfold ir at h
 obtain ⟨q02,l1,h⟩:=ae h
 simp(config:=cS)only[go_sem]
 refine ar (m1:=.mk) (m2:=.mk) [.home 5,.nf [1,5,8,9,10] [383]] (ov set list ((list.length:Nat):Int)) l1 ?_ ?_
 ·simp(config:=cS)only[go_sem]
 ·intro nb2 sb2 bb2 b2 gb2
  obtain ⟨v10_1,out_1⟩:=sb2
  unfold gW at b2
  try dsimp only at b2
  obtain ⟨h3,b2⟩|⟨h3,b2⟩:=af b2
  ·obtain ⟨x01,g4,b2⟩:=ae b2
   obtain ⟨h5,h6,h7⟩:=ak g4
   obtain ⟨h8,b2⟩:=am b2
   obtain ⟨h9,b2⟩|⟨h9,b2⟩:=af b2
   ·obtain ⟨h10,b2⟩:=am b2
    obtain ⟨h11,b2⟩:=am b2
    cases b2
    simp(config:=cS)only[go_sem,eqT h3,h5,h6,h7,eqF h8,eqT h9,eqT h10,eqT h11]
    refine au gb2 ?_
    simp(config:=cS)only[go_sem]
   ·cases b2
    simp(config:=cS)only[go_sem,eqT h3,h5,h6,h7,eqF h8,eqF h9]
    refine au gb2 ?_
    simp(config:=cS)only[go_sem]
  ·cases b2
   obtain rfl:=(aj gb2).symm
   try dsimp only at h
   cases h
   simp(config:=cS)only[go_sem,eqF h3]
attribute [go_sem] Tryz.ntmps290 Tryz.results290
theorem xT {v1:Int}{res:List Int × Nat}(h:gX v1=some res):al Tryz.prog 290 [.lit (.slice none 0 0),.lit (.int .i64 v1)] [] (.ref 20000 1 0 res.2) [(20000,1,.row true (ab eI res.1))]:=by
 refine ai (ra:=[.home 4]) (md:=mdT) hT (hi:=hi00) Tryz.func290 rfl rfl (by decide +kernel) (by simp) ?_
 unfold gX at h
 obtain ⟨h1,h⟩|⟨h1,h⟩:=af h
 ·cases h
 ·obtain ⟨h2,h⟩|⟨h2,h⟩:=af h
  ·obtain ⟨h3,h⟩:=am h
   obtain ⟨h4,h⟩:=am h
   obtain ⟨h5,h⟩:=am h
   cases h
   simp(config:=cS)only[go_sem,eqF h1,eqT h2,eqT h3,eqT h4,eqT h5]
  ·cases h
   simp(config:=cS)only[go_sem,eqF h1,eqF h2]
def lu (a:List (List Int))(b:Int):(Int × Int)→St
 | (d,c)=>⟨[(0,.sl (ab (eLS eI) a)),(3,.lit (.int .i64 d)),(9,.sl (ab (eLS eI) a)),(10,.lit (.int .i64 b)),(11,.lit (.int .i64 c))],[],2⟩
attribute [go_sem] lu
def lv (b:List (List Int))(c:Int):(Nat × Int × (List Int))→St
 | (a,d,e)=>⟨[(6,.ref 1536 1 0 a),(25,.sl (ab (eLS eI) b)),(26,.lit (.int .i64 c)),(27,.lit (.int .i64 d))],[(1536,1,.row true (ab eI e))],2⟩
attribute [go_sem] lv
attribute [go_sem] Tryz.ntmps247 Tryz.results247
theorem vb {v0:List (List Int)}{res:List Int}(h:fK v0=some res):al Tryz.prog 247 [.sl (ab (eLS eI) v0)] [] (.ref 20000 1 0 res.length) [(20000,1,.row true (ab eI res))]:=by
 refine ai (ra:=[.home 2,.trimT 2]) (md:=mdT) hT (hi:=hi00) Tryz.func247 rfl rfl (by decide +kernel) (by simp) ?_
 unfold fK at h
 obtain ⟨q05,l1,h⟩:=ae h
 simp(config:=cS)only[go_sem]
 refine ar (m1:=.mk) (m2:=.mk) [.nf [0,3,9,10,11] []] (lu v0 ((v0.length:Nat):Int)) l1 ?_ ?_
 ·simp(config:=cS)only[go_sem]
 ·intro nb2 sb2 bb2 b2 gb2
  obtain ⟨v3_1,v11_1⟩:=sb2
  unfold dU at b2
  try dsimp only at b2
  obtain ⟨h3,b2⟩|⟨h3,b2⟩:=af b2
  ·obtain ⟨x01,g4,b2⟩:=ae b2
   obtain ⟨h5,h6,h7⟩:=ak g4
   obtain ⟨h8,b2⟩|⟨h8,b2⟩:=af b2
   ·cases b2
   ·cases b2
    simp(config:=cS)only[go_sem,eqT h3,h5,h6,h7,eqF h8]
    refine au gb2 ?_
    simp(config:=cS)only[go_sem]
  ·cases b2
   obtain rfl:=(aj gb2).symm
   try dsimp only at h
   obtain ⟨r02,g10,h⟩:=ae h
   simp(config:=cS)only[go_sem,eqF h3]
   refine ag (xT g10) ?_
   obtain ⟨q04,l11,h⟩:=ae h
   simp(config:=cS)only[go_sem]
   refine ar (m1:=.mk) (m2:=.mk) [.nf [6,25,26,27] [1536]] (lv v0 ((v0.length:Nat):Int)) l11 ?_ ?_
   ·simp(config:=cS)only[go_sem]
   ·intro nb12 sb12 bb12 b12 gb12
    obtain ⟨v6_n_2,v27_2,v6_2⟩:=sb12
    unfold dV at b12
    try dsimp only at b12
    obtain ⟨h13,b12⟩|⟨h13,b12⟩:=af b12
    ·obtain ⟨x03,g14,b12⟩:=ae b12
     obtain ⟨h15,h16,h17⟩:=ak g14
     obtain ⟨h18,b12⟩|⟨h18,b12⟩:=af b12
     ·obtain ⟨h19,b12⟩:=am b12
      obtain ⟨h20,b12⟩:=am b12
      cases b12
      simp(config:=cS)only[go_sem,eqT h13,h15,h16,h17,eqT h18,eqT h19,eqT h20]
      refine au gb12 ?_
      simp(config:=cS)only[go_sem]
     ·obtain ⟨h21,b12⟩:=am b12
      obtain ⟨h22,b12⟩|⟨h22,b12⟩:=af b12
      ·cases b12
       simp(config:=cS)only[go_sem,eqT h13,h15,h16,h17,eqF h18,eqT h21,eqT h22]
       refine au gb12 ?_
       simp(config:=cS)only[go_sem]
      ·obtain ⟨h23,b12⟩:=am b12
       obtain ⟨h24,b12⟩:=am b12
       cases b12
       simp(config:=cS)only[go_sem,eqT h13,h15,h16,h17,eqF h18,eqT h21,eqF h22,eqT h23,eqT h24]
       refine au gb12 ?_
       simp(config:=cS)only[go_sem]
    ·cases b12
     obtain rfl:=(aj gb12).symm
     try dsimp only at h
     obtain ⟨h26,h⟩:=am h
     obtain ⟨h27,h⟩:=am h
     cases h
     simp(config:=cS)only[go_sem,eqF h13,eqT h26,eqT h27]
attribute [go_sem] Tryz.ntmps318 Tryz.results318
theorem Hs {v0 res:Int}(h:ru v0=some res):al Tryz.prog 318 [.lit (.int .u64 v0)] [] (.lit (.int .i64 res)) []:=by
 refine ai (ra:=[]) (md:=mdT) hT (hi:=hi00) Tryz.func318 rfl rfl (by decide +kernel) (by simp) ?_
 unfold ru at h
 obtain ⟨h1,h⟩|⟨h1,h⟩:=af h
 ·obtain ⟨h2,h⟩|⟨h2,h⟩:=af h
  ·obtain ⟨h3,h⟩|⟨h3,h⟩:=af h
   ·obtain ⟨c1001,g4,h⟩:=ae h
    obtain ⟨h5,h6,h7⟩:=ij g4
    cases h
    simp(config:=cS)only[go_sem,eqT h1,eqT h2,eqT h3,h5,h6,h7]
   ·obtain ⟨c1002,g8,h⟩:=ae h
    obtain ⟨h9,h10,h11⟩:=ij g8
    cases h
    simp(config:=cS)only[go_sem,eqT h1,eqT h2,eqF h3,h9,h10,h11]
  ·obtain ⟨h12,h⟩|⟨h12,h⟩:=af h
   ·obtain ⟨c1003,g13,h⟩:=ae h
    obtain ⟨h14,h15,h16⟩:=ij g13
    cases h
    simp(config:=cS)only[go_sem,eqT h1,eqF h2,eqT h12,h14,h15,h16]
   ·obtain ⟨c1004,g17,h⟩:=ae h
    obtain ⟨h18,h19,h20⟩:=ij g17
    cases h
    simp(config:=cS)only[go_sem,eqT h1,eqF h2,eqF h12,h18,h19,h20]
 ·obtain ⟨h21,h⟩|⟨h21,h⟩:=af h
  ·obtain ⟨h22,h⟩|⟨h22,h⟩:=af h
   ·obtain ⟨c1005,g23,h⟩:=ae h
    obtain ⟨h24,h25,h26⟩:=ij g23
    cases h
    simp(config:=cS)only[go_sem,eqF h1,eqT h21,eqT h22,h24,h25,h26]
   ·obtain ⟨c1006,g27,h⟩:=ae h
    obtain ⟨h28,h29,h30⟩:=ij g27
    cases h
    simp(config:=cS)only[go_sem,eqF h1,eqT h21,eqF h22,h28,h29,h30]
  ·obtain ⟨h31,h⟩|⟨h31,h⟩:=af h
   ·obtain ⟨c1007,g32,h⟩:=ae h
    obtain ⟨h33,h34,h35⟩:=ij g32
    cases h
    simp(config:=cS)only[go_sem,eqF h1,eqF h21,eqT h31,h33,h34,h35]
   ·obtain ⟨c1008,g36,h⟩:=ae h
    obtain ⟨h37,h38,h39⟩:=ij g36
    cases h
    simp(config:=cS)only[go_sem,eqF h1,eqF h21,eqF h31,h37,h38,h39]
attribute [go_sem] Tryz.ntmps292 Tryz.results292
theorem KN {v0 res:Int}(h:qL v0=some res):al Tryz.prog 292 [.lit (.int .u64 v0)] [] (.lit (.int .i64 res)) []:=by
 refine ai (ra:=[]) (md:=mdT) hT (hi:=hi00) Tryz.func292 rfl rfl (by decide +kernel) (by simp) ?_
 unfold qL at h
 obtain ⟨r01,g1,h⟩:=ae h
 simp(config:=cS)only[go_sem]
 refine ag (Hs g1) ?_
 cases h
 simp(config:=cS)only[go_sem]
attribute [go_sem] Tryz.ntmps334 Tryz.results334
theorem sg {v0:Int}{res:Bool}(h:jl v0=some res):al Tryz.prog 334 [.lit (.int .i64 v0)] [] (.lit (.bool res)) []:=by
 refine ai (ra:=[]) (md:=mdT) hT (hi:=hi00) Tryz.func334 rfl rfl (by decide +kernel) (by simp) ?_
 unfold jl at h
 cases h
 simp(config:=cS)only[go_sem]
attribute [go_sem] Tryz.ntmps314 Tryz.results314
theorem DA {v0 v1:Int}{res:Bool}(h:kd v0 v1=some res):al Tryz.prog 314 [.lit (.int .i64 v0),.lit (.int .i64 v1)] [] (.lit (.bool res)) []:=by
 refine ai (ra:=[]) (md:=mdT) hT (hi:=hi00) Tryz.func314 rfl rfl (by decide +kernel) (by simp) ?_
 unfold kd at h
 obtain ⟨r01,g1,h⟩:=ae h
 simp(config:=cS)only[go_sem]
 refine ag (sg g1) ?_
 obtain ⟨h2,h⟩|⟨h2,h⟩:=af h
 ·obtain ⟨r02,g3,h⟩:=ae h
  simp(config:=cS)only[go_sem,eZt h2]
  refine ag (sg g3) ?_
  obtain ⟨h4,h⟩|⟨h4,h⟩:=af h
  ·cases h
   simp(config:=cS)only[go_sem,eZt h2,eZt h4]
  ·cases h
   simp(config:=cS)only[go_sem,eZt h2,eZf h4]
 ·cases h
  simp(config:=cS)only[go_sem,eZf h2]
def fE (a:Bool)(c d e:Int):(Int × (List Int))→St
 | (f,b)=>⟨[(0,.ref 10000 0 0 b.length),(1,.lit (.int .i64 c)),(2,.lit (.int .i64 d)),(6,.lit (.int .i64 e)),(7,.lit (.int .i64 f))],[(10000,0,.row a (ab eI b))],2⟩
attribute [go_sem] fE
def fF (a:Bool)(c d:Int):(Int × (List Int))→St
 | (e,b)=>⟨[(0,.ref 10000 0 0 b.length),(1,.lit (.int .i64 c)),(2,.lit (.int .i64 d)),(6,.lit (.int .i64 e))],[(10000,0,.row a (ab eI b))],2⟩
attribute [go_sem] fF
@[go_sem] def hi308_6:DT:=.i2 0 (.i2 1 (.i2 2 (.i2 3 (.i2 4 (.i2 5 (.i2 6 (.i2 7 (.i2 8 (.i2 9 (.i2 10 (.i2 11 (.i2 12 (.i2 13 (.i2 14 (.i2 15 (.i2 16 (.i2 17 .nil)))))))))))))))))
@[go_sem] def hi308_4:DT:=.i2 0 (.i2 1 (.i2 2 (.i2 3 (.i2 4 (.i2 5 (.i2 6 (.i2 7 (.i2 8 (.i2 9 (.i2 10 (.i2 11 (.i2 12 (.i2 13 (.i2 14 .nil))))))))))))))
def BT:Hint where
 acts:=fun _=>[]
 draws:=fun
  | 4=>⟨hi308_4,[[],[],[0,1],[0,1,2],[0,1,2,3],[0,1,2,3],.range 6,.range 7,[0,1,2,3],[0,1,2,3],[0,1,2,3,9],[0,1,2,3,8,9,10],[0,1,2,3,8,9,10,11],.range 13,.range 14],.range 15⟩
  | 6=>⟨hi308_6,[[],[],[],[],[3],[],[],[6],[5,6,7],[5,6,7,8],[],[],[10,11],[10,11,12],[0,1,5,6,7,8,9,10,11,12,13],[0,1,5,6,7,8,9,10,11,12,13,14],.range 16,.range 17],[0,1,13,14,15,2,3,4,5,6,7,8,9,10,11,12,16,17]⟩
  | _=>⟨.nil,[],[]⟩
theorem Tc (i:Nat):BT.acts i=[]:=rfl
theorem Td (i:Nat):BT.views i=none:=rfl
attribute [go_sem] Tc Td Tryz.ntmps308 Tryz.results308
@[go_sem] theorem XK:(BT.draws 4).order=hi308_4:=rfl
@[go_sem] theorem XL:(BT.draws 6).order=hi308_6:=rfl
theorem mF {v0:List Int}{v1 v2:Int}{zb0:Bool}{res:List Int}(h:bT v0 v1 v2=some res):al Tryz.prog 308 [.ref 10000 0 0 v0.length,.lit (.int .i64 v1),.lit (.int .i64 v2)] [(10000,0,.row zb0 (ab eI v0))] (.tup []) [(10000,0,.row zb0 (ab eI res))]:=by
 refine ai (ra:=[]) (md:=mdT) hT (hi:=BT) Tryz.func308 rfl rfl (by decide +kernel) (by simp) ?_
 unfold bT at h
 obtain ⟨q06,l1,h⟩:=ae h
 simp(config:=cS)only[go_sem]
 refine ar (m1:=.mk) (m2:=.mk) [.nf [0,1,2,6] [10000]] (fF zb0 v1 v2) l1 ?_ ?_
 ·simp(config:=cS)only[go_sem]
 ·intro nb2 sb2 bb2 b2 gb2
  obtain ⟨v6_1,v0_1⟩:=sb2
  unfold bl at b2
  try dsimp only at b2
  obtain ⟨h3,b2⟩|⟨h3,b2⟩:=af b2
  ·obtain ⟨q05,l4,b2⟩:=ae b2
   simp(config:=cS)only[go_sem,eqT h3]
   refine ar (m1:=.mk) (m2:=.mk) [.nf [0,1,2,6,7] [10000]] (fE zb0 v1 v2 v6_1) l4 ?_ ?_
   ·simp(config:=cS)only[go_sem,eqT h3]
   ·intro nb5 sb5 bb5 b5 gb5
    obtain ⟨v7_2,v0_2⟩:=sb5
    unfold aT at b5
    try dsimp only at b5
    obtain ⟨h6,b5⟩|⟨h6,b5⟩:=af b5
    ·obtain ⟨x01,g7,b5⟩:=ae b5
     obtain ⟨h8,h9,h10⟩:=ak g7
     obtain ⟨x02,g11,b5⟩:=ae b5
     obtain ⟨h12,h13,h14⟩:=ak g11
     obtain ⟨r03,g15,b5⟩:=ae b5
     simp(config:=cS)only[go_sem,eqT h3,eqT h6,h8,h9,h10,h12,h13,h14]
     refine ag (DA g15) ?_
     obtain ⟨h16,b5⟩|⟨h16,b5⟩:=af b5
     ·obtain ⟨x04,g17,b5⟩:=ae b5
      obtain ⟨h18,h19,h20⟩:=ak g17
      cases b5
      simp(config:=cS)only[go_sem,eqT h3,eqT h6,h8,h9,h10,h12,h13,h14,eZt h16,h18,h19,h20]
      refine au gb5 ?_
      simp(config:=cS)only[go_sem,eqT h3,eqT h6,h8,h9,h10,h12,h13,h14,eZt h16,h18,h19,h20]
     ·cases b5
      obtain rfl:=(aj gb5).symm
      try dsimp only at b2
      cases b2
      simp(config:=cS)only[go_sem,eqT h3,eqT h6,h8,h9,h10,h12,h13,h14,eZf h16]
      refine au gb2 ?_
      simp(config:=cS)only[go_sem,eqT h3,eqT h6,h8,h9,h10,h12,h13,h14,eZf h16]
    ·cases b5
     obtain rfl:=(aj gb5).symm
     try dsimp only at b2
     cases b2
     simp(config:=cS)only[go_sem,eqT h3,eqF h6]
     refine au gb2 ?_
     simp(config:=cS)only[go_sem,eqT h3,eqF h6]
  ·cases b2
   obtain rfl:=(aj gb2).symm
   try dsimp only at h
   cases h
   simp(config:=cS)only[go_sem,eqF h3]
def il (a:Bool)(c d e:Int)(b:List Int)(_:Unit):St:=⟨[(0,.ref 10000 0 0 b.length),(1,.lit (.int .i64 c)),(2,.lit (.int .i64 d)),(3,.lit (.int .i64 e)),(8,.lit (.bool true)),(9,.lit (.bool true))],[(10000,0,.row a (ab eI b))],2⟩
attribute [go_sem] il
@[go_sem] def hi291_17:DT:=.i2 0 (.i2 1 (.i2 2 (.i2 3 (.i2 4 (.i2 5 (.i2 6 (.i2 7 (.i2 8 (.i2 9 (.i2 10 (.i2 11 (.i2 12 (.i2 13 (.i2 14 .nil))))))))))))))
def Gy:Hint where
 acts:=fun _=>[]
 draws:=fun
  | 17=>⟨hi291_17,[[],[0],[0,1],[0,1,2],[0,1,2],[0,1,2,4],.range 6,.range 7,[0,1,2],[0,1,2],[0,1,2,8,9],[0,1,2,8,9,10],.range 12,.range 13,.range 14],.range 15⟩
  | _=>⟨.nil,[],[]⟩
theorem Te (i:Nat):Gy.acts i=[]:=rfl
theorem Tf (i:Nat):Gy.views i=none:=rfl
attribute [go_sem] Te Tf Tryz.ntmps291 Tryz.results291
@[go_sem] theorem Wt:(Gy.draws 17).order=hi291_17:=rfl
theorem qa {v0:List Int}{v1 v2 v3:Int}{zb0:Bool}{res:List Int}(h:cz v0 v1 v2 v3=some res):al Tryz.prog 291 [.ref 10000 0 0 v0.length,.lit (.int .i64 v1),.lit (.int .i64 v2),.lit (.int .i64 v3)] [(10000,0,.row zb0 (ab eI v0))] (.tup []) [(10000,0,.row zb0 (ab eI res))]:=by
 refine ai (ra:=[]) (md:=mdT) hT (hi:=Gy) Tryz.func291 rfl rfl (by decide +kernel) (by simp) ?_
 unfold cz at h
 obtain ⟨q02,l1,h⟩:=ae h
 simp(config:=cS)only[go_sem]
 refine ar (m1:=.mk) (m2:=.mk) [.nf [0,1,2,3,8,9] [10000]] (il zb0 v1 v2 v3 v0) l1 ?_ ?_
 ·simp(config:=cS)only[go_sem]
 ·intro nb2 sb2 bb2 b2 gb2
  unfold fb at b2
  try dsimp only at b2
  obtain ⟨h3,b2⟩|⟨h3,b2⟩:=af b2
  ·obtain ⟨r01,g4,b2⟩:=ae b2
   simp(config:=cS)only[go_sem,eqT h3]
   refine ag (mF g4) ?_
   cases b2
   obtain rfl:=(aj gb2).symm
   try dsimp only at h
   cases h
   simp(config:=cS)only[go_sem]
  ·cases b2
attribute [go_sem] Tryz.ntmps249 Tryz.results249
theorem qx {v0:List Int}{zb0:Bool}{res:List Int}(h:cp v0=some res):al Tryz.prog 249 [.ref 10000 0 0 v0.length] [(10000,0,.row zb0 (ab eI v0))] (.tup []) [(10000,0,.row zb0 (ab eI res))]:=by
 refine ai (ra:=[]) (md:=mdT) hT (hi:=hi00) Tryz.func249 rfl rfl (by decide +kernel) (by simp) ?_
 unfold cp at h
 obtain ⟨r01,g1,h⟩:=ae h
 simp(config:=cS)only[go_sem]
 refine ag (KN g1) ?_
 obtain ⟨r02,g2,h⟩:=ae h
 simp(config:=cS)only[go_sem]
 refine ag (qa g2) ?_
 cases h
 simp(config:=cS)only[go_sem]
def ow (g:Int)(h:List GNode)(i:List GTie)(j d:Int)(e f b:List Int):(Int × (List Int) × (List Int))→St
 | (k,a,c)=>⟨[(2,.ptr 128 1 0 0),(3,.ptr 192 1 0 0),(5,.ref 383 1 0 a.length),(6,.ref 447 1 0 c.length),(20,.ref 1280 1 0 b.length),(21,.lit (.int .i64 g)),(22,.lit (.int .i64 k))],[(128,1,.var [.sl (ab GNode.encS h),.sl (ab GTie.enc i),.lit (.int .i64 j)]),(192,1,.var [.lit (.int .i64 d),.sl (ab eI e),.sl (ab eI f)]),(383,1,.row true (ab eI a)),(447,1,.row true (ab eI c)),(1280,1,.row true (ab eI b))],2⟩
attribute [go_sem] ow
def oz (a b:List Int):(Int × (List (List Int)))→St
 | (d,c)=>⟨[(5,.ref 383 1 0 a.length),(6,.ref 447 1 0 b.length),(10,.ref 703 1 0 c.length),(11,.lit (.int .i64 d))],[(383,1,.tree (ab eI a)),(447,1,.row true (ab eI b)),(703,1,.row true (ab (eLO eI) c))],2⟩
attribute [go_sem] oz
@[go_sem] def hi171_7:DT:=.i2 0 (.i2 1 (.i2 2 (.i2 3 (.i2 4 (.i2 5 (.i2 6 (.i2 7 (.i2 8 (.i2 9 (.i2 10 (.i2 11 (.i2 12 (.i2 13 .nil)))))))))))))
def Gz:Hint where
 acts:=fun _=>[]
 draws:=fun
  | 7=>⟨hi171_7,[[],[0],[],[2],[],[4],[],[4,5,6],[4,5,6,7],[4,5,6,7,8],[2,3,4,5,6,7,8,9],[2,3,4,5,6,7,8,9,10],.range 12,.range 13],.range 14⟩
  | _=>⟨.nil,[],[]⟩
theorem Tg (i:Nat):Gz.acts i=[]:=rfl
theorem Th (i:Nat):Gz.views i=none:=rfl
attribute [go_sem] Tg Th Tryz.ntmps171 Tryz.results171
@[go_sem] theorem XM:(Gz.draws 7).order=hi171_7:=rfl
theorem lW {s:GShow}{v1:GState}{res:List (List Int)}(h:gg s v1=some res):al Tryz.prog 171 [.agg (GShow.encS s),.agg (GState.encS v1)] [] (.ref 20000 1 0 res.length) [(20000,1,.row true (ab (eLO eI) res))]:=by
 refine ai (ra:=[.home 4]) (md:=mdT) hT (hi:=Gz) Tryz.func171 rfl rfl (by decide +kernel) (by simp) ?_
 unfold gg at h
 obtain ⟨h1,h⟩|⟨h1,h⟩:=af h
 ·cases h
  simp(config:=cS)only[go_sem,eqT h1]
 ·obtain ⟨r01,g2,h⟩:=ae h
  simp(config:=cS)only[go_sem,eqF h1]
  refine ag (uN g2) ?_
  obtain ⟨q09,l3,h⟩:=ae h
  simp(config:=cS)only[go_sem]
  refine ar (m1:=.mk) (m2:=.mk) [.home 5,.home 6,.nf [2,3,5,6,20,21,22] [128,192,383,447,1280]] (ow ((r01.length:Nat):Int) s.nodes s.ties s.horizon v1.now v1.times v1.values r01) l3 ?_ ?_
  ·simp(config:=cS)only[go_sem]
  ·intro nb4 sb4 bb4 b4 gb4
   obtain ⟨v22_1,must_1,may_1⟩:=sb4
   unfold gY at b4
   try dsimp only at b4
   obtain ⟨h5,b4⟩|⟨h5,b4⟩:=af b4
   ·obtain ⟨x02,g6,b4⟩:=ae b4
    obtain ⟨h7,h8,h9⟩:=ak g6
    obtain ⟨x03,g10,b4⟩:=ae b4
    obtain ⟨h11,h12,h13⟩:=ak g10
    obtain ⟨x04,g14,b4⟩:=ae b4
    obtain ⟨h15,h16,h17⟩:=ak g14
    obtain ⟨h18,b4⟩|⟨h18,b4⟩:=af b4
    ·obtain ⟨h19,b4⟩:=am b4
     obtain ⟨h20,b4⟩:=am b4
     cases b4
     simp(config:=cS)only[go_sem,eqT h5,h7,h8,h9,h11,h12,h13,h15,h16,h17,eqT h18,eqT h19,eqT h20]
     refine au gb4 ?_
     simp(config:=cS)only[go_sem]
    ·obtain ⟨h21,b4⟩|⟨h21,b4⟩:=af b4
     ·obtain ⟨h22,b4⟩:=am b4
      obtain ⟨h23,b4⟩:=am b4
      cases b4
      simp(config:=cS)only[go_sem,eqT h5,h7,h8,h9,h11,h12,h13,h15,h16,h17,eqF h18,eqT h21,eqT h22,eqT h23]
      refine au gb4 ?_
      simp(config:=cS)only[go_sem]
     ·cases b4
      simp(config:=cS)only[go_sem,eqT h5,h7,h8,h9,h11,h12,h13,h15,h16,h17,eqF h18,eqF h21]
      refine au gb4 ?_
      simp(config:=cS)only[go_sem]
   ·cases b4
    obtain rfl:=(aj gb4).symm
    try dsimp only at h
    obtain ⟨q08,l25,h⟩:=ae h
    simp(config:=cS)only[go_sem,eqF h5]
    refine ar (m1:=.mk) (m2:=.mk) [.home 10,.freeze [383],.nf [5,6,10,11] [383,447,703]] (oz must_1 may_1) l25 ?_ ?_
    ·simp(config:=cS)only[go_sem]
    ·intro nb26 sb26 bb26 b26 gb26
     obtain ⟨set_2,out_2⟩:=sb26
     unfold gZ at b26
     try dsimp only at b26
     obtain ⟨h27,b26⟩:=am b26
     obtain ⟨h28,b26⟩|⟨h28,b26⟩:=af b26
     ·obtain ⟨r05,g29,b26⟩:=ae b26
      simp(config:=cS)only[go_sem,eqF h27,eqT h28]
      refine ag (tv g29) ?_
      obtain ⟨r06,g30,b26⟩:=ae b26
      simp(config:=cS)only[go_sem]
      refine ag (vb g30) ?_
      obtain ⟨r07,g31,b26⟩:=ae b26
      simp(config:=cS)only[go_sem]
      refine ag (qx g31) ?_
      obtain ⟨h32,b26⟩:=am b26
      obtain ⟨h33,b26⟩:=am b26
      obtain ⟨h34,b26⟩:=am b26
      cases b26
      simp(config:=cS)only[go_sem,h32.symm,eqT h33,eqT h34]
      refine au gb26 ?_
      simp(config:=cS)only[go_sem]
     ·cases b26
      obtain rfl:=(aj gb26).symm
      try dsimp only at h
      cases h
      simp(config:=cS)only[go_sem,eqF h27,eqF h28]
def jD (c:List (List Int))(a:Nat)(b:List AV)(d e:Int):St:=⟨[(0,.sl (ab (eLS eI) c)),(1,.fn a b),(7,.lit (.int .i64 d)),(8,.lit (.int .i64 e))],[],2⟩
attribute [go_sem] jD
attribute [go_sem] Tryz.ntmps289 Tryz.results289
theorem rQ {v0:List (List Int)}{v1:(List Int)→Option Bool}{f_v1:Nat}{k_v1:List AV}(hp_v1:∀ y0 r,v1 y0=some r→al Tryz.prog f_v1 ([.sl (ab eI y0)]++k_v1) [] (.lit (.bool r)) [])(hc_v1:KC k_v1)(hm_v1:∀ a,mdT f_v1 a=⟨[],false⟩)(hk_v1:spf f_v1=false){res:Int}(h:dE v0 v1=some res):al Tryz.prog 289 [.sl (ab (eLS eI) v0),.fn f_v1 k_v1] [] (.lit (.int .i64 res)) []:=by
 refine ai (ra:=[]) (md:=mdT) hT (hi:=hi00) Tryz.func289 rfl rfl (by decide +kernel) (by simp) ?_
 unfold dE at h
 obtain ⟨q03,l1,h⟩:=ae h
 simp(config:=cS)only[go_sem,hc_v1.1,hc_v1.2,hm_v1,hk_v1]
 refine ar (m1:=.mk) (m2:=.mk) [.nf [0,1,7,8] []] (jD v0 f_v1 k_v1 ((v0.length:Nat):Int)) l1 ?_ ?_
 ·simp(config:=cS)only[go_sem,hc_v1.1,hc_v1.2,hm_v1,hk_v1]
 ·intro nb2 v8_1 bb2 b2 gb2
  unfold bZ at b2
  try dsimp only at b2
  obtain ⟨h3,b2⟩|⟨h3,b2⟩:=af b2
  ·obtain ⟨x01,g4,b2⟩:=ae b2
   obtain ⟨h5,h6,h7⟩:=ak g4
   obtain ⟨r02,g8,b2⟩:=ae b2
   simp(config:=cS)only[go_sem,hc_v1.1,hc_v1.2,hm_v1,hk_v1,eqT h3,h5,h6,h7]
   refine ag (hp_v1 _ _ g8) ?_
   obtain ⟨h9,b2⟩|⟨h9,b2⟩:=af b2
   ·cases b2
    obtain rfl:=(aj gb2).symm
    try dsimp only at h
    cases h
    simp(config:=cS)only[go_sem,hc_v1.1,hc_v1.2,hm_v1,hk_v1,eqT h3,h5,h6,h7,eZt h9]
   ·cases b2
    simp(config:=cS)only[go_sem,hc_v1.1,hc_v1.2,hm_v1,hk_v1,eqT h3,h5,h6,h7,eZf h9]
    refine au gb2 ?_
    simp(config:=cS)only[go_sem,hc_v1.1,hc_v1.2,hm_v1,hk_v1,eqT h3,h5,h6,h7,eZf h9]
  ·cases b2
   obtain rfl:=(aj gb2).symm
   try dsimp only at h
   cases h
   simp(config:=cS)only[go_sem,hc_v1.1,hc_v1.2,hm_v1,hk_v1,eqF h3]
attribute [go_sem] Tryz.ntmps245 Tryz.results245
theorem qu {v0:List (List Int)}{v1:(List Int)→Option Bool}{f_v1:Nat}{k_v1:List AV}(hp_v1:∀ y0 r,v1 y0=some r→al Tryz.prog f_v1 ([.sl (ab eI y0)]++k_v1) [] (.lit (.bool r)) [])(hc_v1:KC k_v1)(hm_v1:∀ a,mdT f_v1 a=⟨[],false⟩)(hk_v1:spf f_v1=false){res:Bool}(h:dY v0 v1=some res):al Tryz.prog 245 [.sl (ab (eLS eI) v0),.fn f_v1 k_v1] [] (.lit (.bool res)) []:=by
 refine ai (ra:=[]) (md:=mdT) hT (hi:=hi00) Tryz.func245 rfl rfl (by decide +kernel) (by simp) ?_
 unfold dY at h
 obtain ⟨r01,g1,h⟩:=ae h
 simp(config:=cS)only[go_sem,hc_v1.1,hc_v1.2,hm_v1,hk_v1]
 refine ag (rQ hp_v1 hc_v1 hm_v1 hk_v1 g1) ?_
 cases h
 simp(config:=cS)only[go_sem,hc_v1.1,hc_v1.2,hm_v1,hk_v1]
attribute [go_sem] Tryz.ntmps246 Tryz.results246
theorem Fz {y v1:List Int}{res:Bool}(h:mR y v1=some res):al Tryz.prog 246 [.sl (ab eI y),.loc [.sl (ab eI v1)]] [] (.lit (.bool res)) []:=by
 refine ai (ra:=[]) (md:=mdT) hT (hi:=hi00) Tryz.func246 rfl rfl (by decide +kernel) (by simp) ?_
 unfold mR at h
 obtain ⟨r01,g1,h⟩:=ae h
 simp(config:=cS)only[go_sem]
 refine ag (ek g1) ?_
 cases h
 simp(config:=cS)only[go_sem]
attribute [go_sem] Tryz.ntmps170 Tryz.results170
theorem qK {list:List (List Int)}{v1:List Int}{res:Bool}(h:kG list v1=some res):al Tryz.prog 170 [.sl (ab (eLS eI) list),.sl (ab eI v1)] [] (.lit (.bool res)) []:=by
 refine ai (ra:=[]) (md:=mdT) hT (hi:=hi00) Tryz.func170 rfl rfl (by decide +kernel) (by simp) ?_
 unfold kG at h
 obtain ⟨r01,g1,h⟩:=ae h
 simp(config:=cS)only[go_sem]
 refine ag (qu (by exact fun _ _ hr=>Fz hr) (by refine ⟨fun _=>?_,fun _=>?_⟩ <;> simp only [go_sem]) (fun _=>rfl) rfl g1) ?_
 cases h
 simp(config:=cS)only[go_sem]
def qb (g:List Int)(h:Int)(i:List GNode)(j:List GTie)(k d:Int)(e f:List Int)(c:Int)(a:List Int):(Int × (List Int))→St
 | (l,b)=>⟨[(3,.ptr 192 1 0 0),(4,.ptr 256 1 0 0),(6,.ptr 384 1 0 0),(7,.ptr 448 1 0 0),(12,.sl (ab eI g)),(13,.lit (.int .i64 h)),(14,.lit (.int .i64 l))],[(192,1,.var [.sl (ab GNode.encS i),.sl (ab GTie.enc j),.lit (.int .i64 k)]),(256,1,.var [.lit (.int .i64 d),.sl (ab eI e),.sl (ab eI f)]),(384,1,.var [.lit (.int .i64 0),.lit (.slice none 0 0),.lit (.slice none 0 0)]),(448,1,.var [.lit (.int .i64 c),.ref 704 1 0 b.length,.ref 705 1 0 a.length]),(704,1,.row true (ab eI b)),(705,1,.row true (ab eI a))],2⟩
attribute [go_sem] qb
@[go_sem] def hi173_5:DT:=.i2 0 (.i2 1 (.i2 2 (.i2 3 (.i2 4 (.i2 5 (.i2 6 (.i2 7 (.i2 8 (.i2 9 (.i2 10 (.i2 11 .nil)))))))))))
def GA:Hint where
 acts:=fun _=>[]
 draws:=fun
  | 5=>⟨hi173_5,[[],[0],[],[2],[],[2,3,4],[2,3,4,5],[2,3,4,5,6],[],[8],.range 10,.range 11],.range 12⟩
  | _=>⟨.nil,[],[]⟩
theorem Ti (i:Nat):GA.acts i=[]:=rfl
theorem Tj (i:Nat):GA.views i=none:=rfl
attribute [go_sem] Ti Tj Tryz.ntmps173 Tryz.results173
@[go_sem] theorem XN:(GA.draws 5).order=hi173_5:=rfl
theorem oA {s:GShow}{v1:GState}{ties:List Int}{res:GState}(h:iD s v1 ties=some res):al Tryz.prog 173 [.agg (GShow.encS s),.agg (GState.encS v1),.sl (ab eI ties)] [] (.agg [.lit (.int .i64 res.now),.ref 20000 1 0 res.times.length,.ref 20001 1 0 res.values.length]) [(20000,1,.row true (ab eI res.times)),(20001,1,.row true (ab eI res.values))]:=by
 refine ai (ra:=[.homeCell 384 1,.homeCell 384 2]) (md:=mdT) hT (hi:=GA) Tryz.func173 rfl rfl (by decide +kernel) (by simp) ?_
 unfold iD at h
 obtain ⟨r01,g1,h⟩:=ae h
 simp(config:=cS)only[go_sem]
 refine ag (kC g1) ?_
 obtain ⟨q05,l2,h⟩:=ae h
 simp(config:=cS)only[go_sem]
 refine ar (m1:=.mk) (m2:=.mk) [.nf [3,4,6,7,12,13,14] [192,256,384,448,704,705]] (qb ties ((ties.length:Nat):Int) s.nodes s.ties s.horizon v1.now v1.times v1.values r01.now r01.values) l2 ?_ ?_
 ·simp(config:=cS)only[go_sem]
 ·intro nb3 sb3 bb3 b3 gb3
  obtain ⟨v14_1,h704_1⟩:=sb3
  unfold jm at b3
  try dsimp only at b3
  obtain ⟨h4,b3⟩|⟨h4,b3⟩:=af b3
  ·obtain ⟨x02,g5,b3⟩:=ae b3
   obtain ⟨h6,h7,h8⟩:=ak g5
   obtain ⟨x03,g9,b3⟩:=ae b3
   obtain ⟨h10,h11,h12⟩:=ak g9
   obtain ⟨x04,g13,b3⟩:=ae b3
   obtain ⟨h14,h15,h16⟩:=ak g13
   cases b3
   simp(config:=cS)only[go_sem,eqT h4,h6,h7,h8,h10,h11,h12,h14,h15,h16]
   refine au gb3 ?_
   simp(config:=cS)only[go_sem]
  ·cases b3
   obtain rfl:=(aj gb3).symm
   try dsimp only at h
   cases h
   simp(config:=cS)only[go_sem,eqF h4]
attribute [go_sem] Tryz.ntmps335 Tryz.results335
theorem xU {t:GTie}{node:Int}{res:Bool}(h:jJ t node=some res):al Tryz.prog 335 [.agg (GTie.enc t),.loc [.lit (.int .i64 node)]] [] (.lit (.bool res)) []:=by
 refine ai (ra:=[]) (md:=mdT) hT (hi:=hi00) Tryz.func335 rfl rfl (by decide +kernel) (by simp) ?_
 unfold jJ at h
 obtain ⟨h1,h⟩|⟨h1,h⟩:=af h
 ·cases h
  simp(config:=cS)only[go_sem,eZt h1]
 ·cases h
  simp(config:=cS)only[go_sem,eZf h1]
attribute [go_sem] Tryz.ntmps319 Tryz.results319
theorem DB {s:GShow}{node res:Int}(h:ke s node=some res):al Tryz.prog 319 [.agg (GShow.encS s),.lit (.int .i64 node)] [] (.lit (.int .i64 res)) []:=by
 refine ai (ra:=[]) (md:=mdT) hT (hi:=hi00) Tryz.func319 rfl rfl (by decide +kernel) (by simp) ?_
 unfold ke at h
 obtain ⟨r01,g1,h⟩:=ae h
 simp(config:=cS)only[go_sem]
 refine ag (mD (by exact fun _ _ hr=>xU hr) (by refine ⟨fun _=>?_,fun _=>?_⟩ <;> simp only [go_sem]) (fun _=>rfl) rfl g1) ?_
 cases h
 simp(config:=cS)only[go_sem]
def pg (b:List GNode)(c:List GTie)(d:Int):(Int × (List Int))→St
 | (i,a)=>⟨[(1,.ptr 64 1 0 0),(3,.ref 255 1 0 a.length),(4,.lit (.int .i64 i))],[(64,1,.var [.sl (ab GNode.encS b),.sl (ab GTie.enc c),.lit (.int .i64 d)]),(255,1,.row true (ab eI a))],2⟩
attribute [go_sem] pg
attribute [go_sem] Tryz.ntmps293 Tryz.results293
theorem FA {s:GShow}{res:List Int}(h:kV s=some res):al Tryz.prog 293 [.agg (GShow.encS s)] [] (.ref 20000 1 0 res.length) [(20000,1,.row true (ab eI res))]:=by
 refine ai (ra:=[.home 2]) (md:=mdT) hT (hi:=hi00) Tryz.func293 rfl rfl (by decide +kernel) (by simp) ?_
 unfold kV at h
 obtain ⟨q02,l1,h⟩:=ae h
 simp(config:=cS)only[go_sem]
 refine ar (m1:=.mk) (m2:=.mk) [.home 3,.nf [1,3,4] [64,255]] (pg s.nodes s.ties s.horizon) l1 ?_ ?_
 ·simp(config:=cS)only[go_sem]
 ·intro nb2 sb2 bb2 b2 gb2
  obtain ⟨i_1,out_1⟩:=sb2
  unfold iE at b2
  try dsimp only at b2
  obtain ⟨h3,b2⟩|⟨h3,b2⟩:=af b2
  ·obtain ⟨r01,g4,b2⟩:=ae b2
   simp(config:=cS)only[go_sem,eqT h3]
   refine ag (DB g4) ?_
   obtain ⟨h5,b2⟩|⟨h5,b2⟩:=af b2
   ·obtain ⟨h6,b2⟩:=am b2
    obtain ⟨h7,b2⟩:=am b2
    cases b2
    simp(config:=cS)only[go_sem,eqT h5,eqT h6,eqT h7]
    refine au gb2 ?_
    simp(config:=cS)only[go_sem]
   ·cases b2
    simp(config:=cS)only[go_sem,eqF h5]
    refine au gb2 ?_
    simp(config:=cS)only[go_sem]
  ·cases b2
   obtain rfl:=(aj gb2).symm
   try dsimp only at h
   cases h
   simp(config:=cS)only[go_sem,eqF h3]
def jE (c:Bool)(a:Nat)(b:List AV):(Int × Int × (List Int))→St
 | (e,f,d)=>⟨[(0,.ref 10000 0 0 d.length),(1,.fn a b),(5,.lit (.int .i64 e)),(6,.lit (.int .i64 f))],[(10000,0,.row c (ab eI d))],2⟩
attribute [go_sem] jE
attribute [go_sem] Tryz.ntmps166 Tryz.results166
theorem mm {v0:List Int}{v1:Int→Option Bool}{zb0:Bool}{f_v1:Nat}{k_v1:List AV}(hp_v1:∀ y0 r,v1 y0=some r→al Tryz.prog f_v1 ([.lit (.int .i64 y0)]++k_v1) [] (.lit (.bool r)) [])(hc_v1:KC k_v1)(hm_v1:∀ a,mdT f_v1 a=⟨[],false⟩)(hk_v1:spf f_v1=false){res:List Int}(h:cC v0 v1=some res):al Tryz.prog 166 [.ref 10000 0 0 v0.length,.fn f_v1 k_v1] [(10000,0,.row zb0 (ab eI v0))] (.ref 10000 0 0 res.length) [(10000,0,.row false (ab eI res))]:=by
 refine ai (ra:=[.home 4,.trim 4]) (md:=mdT) hT (hi:=hi00) Tryz.func166 rfl rfl (by decide +kernel) (by simp) ?_
 unfold cC at h
 obtain ⟨r01,g1,h⟩:=ae h
 simp(config:=cS)only[go_sem,hc_v1.1,hc_v1.2,hm_v1,hk_v1]
 refine ag (mE hp_v1 hc_v1 hm_v1 hk_v1 g1) ?_
 obtain ⟨h2,h⟩|⟨h2,h⟩:=af h
 ·cases h
  simp(config:=cS)only[go_sem,hc_v1.1,hc_v1.2,hm_v1,hk_v1,eqT h2]
 ·obtain ⟨q05,l3,h⟩:=ae h
  simp(config:=cS)only[go_sem,hc_v1.1,hc_v1.2,hm_v1,hk_v1,eqF h2]
  refine ar (m1:=.mk) (m2:=.mk) [.nf [0,1,5,6] [10000]] (jE zb0 f_v1 k_v1) l3 ?_ ?_
  ·simp(config:=cS)only[go_sem,hc_v1.1,hc_v1.2,hm_v1,hk_v1,eqF h2]
  ·intro nb4 sb4 bb4 b4 gb4
   obtain ⟨v5_1,v6_1,v0_1⟩:=sb4
   unfold cI at b4
   try dsimp only at b4
   obtain ⟨h5,b4⟩|⟨h5,b4⟩:=af b4
   ·obtain ⟨x02,g6,b4⟩:=ae b4
    obtain ⟨h7,h8,h9⟩:=ak g6
    obtain ⟨r03,g10,b4⟩:=ae b4
    simp(config:=cS)only[go_sem,hc_v1.1,hc_v1.2,hm_v1,hk_v1,eqF h2,eqT h5,h7,h8,h9]
    refine ag (hp_v1 _ _ g10) ?_
    obtain ⟨h11,b4⟩|⟨h11,b4⟩:=af b4
    ·cases b4
     simp(config:=cS)only[go_sem,hc_v1.1,hc_v1.2,hm_v1,hk_v1,eqF h2,eqT h5,h7,h8,h9,eZt h11]
     refine au gb4 ?_
     simp(config:=cS)only[go_sem,hc_v1.1,hc_v1.2,hm_v1,hk_v1,eqF h2,eqT h5,h7,h8,h9,eZt h11]
    ·obtain ⟨x04,g12,b4⟩:=ae b4
     obtain ⟨h13,h14,h15⟩:=ak g12
     cases b4
     simp(config:=cS)only[go_sem,hc_v1.1,hc_v1.2,hm_v1,hk_v1,eqF h2,eqT h5,h7,h8,h9,eZf h11,h13,h14,h15]
     refine au gb4 ?_
     simp(config:=cS)only[go_sem,hc_v1.1,hc_v1.2,hm_v1,hk_v1,eqF h2,eqT h5,h7,h8,h9,eZf h11,h13,h14,h15]
   ·cases b4
    obtain rfl:=(aj gb4).symm
    try dsimp only at h
    obtain ⟨h17,h⟩:=am h
    obtain ⟨h18,h⟩:=am h
    obtain ⟨h19,h⟩:=am h
    cases h
    simp(config:=cS)only[go_sem,hc_v1.1,hc_v1.2,hm_v1,hk_v1,eqF h2,eqF h5,eqT h17,eqT h18,eqT h19]
attribute [go_sem] Tryz.ntmps202 Tryz.results202
theorem Ht {l:Int}{v:List Int}{res:Int}(h:lG l v=some res):al Tryz.prog 202 [.lit (.int .i64 l),.sl (ab eI v)] [] (.lit (.int .i64 res)) []:=by
 refine ai (ra:=[]) (md:=mdT) hT (hi:=hi00) Tryz.func202 rfl rfl (by decide +kernel) (by simp) ?_
 unfold lG at h
 obtain ⟨r01,g1,h⟩:=ae h
 simp(config:=cS)only[go_sem]
 refine ag (iU g1) ?_
 obtain ⟨x02,g2,h⟩:=ae h
 obtain ⟨h3,h4,h5⟩:=ak g2
 obtain ⟨h6,h⟩|⟨h6,h⟩:=af h
 ·cases h
  simp(config:=cS)only[go_sem,h3,h4,h5,eqT h6]
 ·cases h
  simp(config:=cS)only[go_sem,h3,h4,h5,eqF h6]
def mn (v a:List Int)(b:Int):(Int × Int)→St
 | (c,d)=>⟨[(1,.sl (ab eI v)),(5,.lit (.int .i64 c)),(16,.sl (ab eI a)),(17,.lit (.int .i64 b)),(18,.lit (.int .i64 d))],[],2⟩
attribute [go_sem] mn
attribute [go_sem] Tryz.ntmps129 Tryz.results129
theorem xV {l v:List Int}{res:Int}(h:fw l v=some res):al Tryz.prog 129 [.sl (ab eI l),.sl (ab eI v)] [] (.lit (.int .i64 res)) []:=by
 refine ai (ra:=[]) (md:=mdT) hT (hi:=hi00) Tryz.func129 rfl rfl (by decide +kernel) (by simp) ?_
 unfold fw at h
 obtain ⟨r01,g1,h⟩:=ae h
 simp(config:=cS)only[go_sem]
 refine ag (jR g1) ?_
 obtain ⟨h2,h⟩|⟨h2,h⟩:=af h
 ·obtain ⟨r02,g3,h⟩:=ae h
  simp(config:=cS)only[go_sem,eZt h2]
  refine ag (sf g3) ?_
  obtain ⟨h4,h⟩|⟨h4,h⟩:=af h
  ·obtain ⟨q05,l5,h⟩:=ae h
   simp(config:=cS)only[go_sem,eZt h2,eZt h4]
   refine ar (m1:=.mk) (m2:=.mk) [.nf [1,5,16,17,18] []] (mn v l ((l.length:Nat):Int)) l5 ?_ ?_
   ·simp(config:=cS)only[go_sem,eZt h2,eZt h4]
   ·intro nb6 sb6 bb6 b6 gb6
    obtain ⟨out_1,v18_1⟩:=sb6
    unfold eZ at b6
    try dsimp only at b6
    obtain ⟨h7,b6⟩|⟨h7,b6⟩:=af b6
    ·obtain ⟨x03,g8,b6⟩:=ae b6
     obtain ⟨h9,h10,h11⟩:=ak g8
     obtain ⟨r04,g12,b6⟩:=ae b6
     simp(config:=cS)only[go_sem,eZt h2,eZt h4,eqT h7,h9,h10,h11]
     refine ag (Ht g12) ?_
     cases b6
     simp(config:=cS)only[go_sem,eZt h2,eZt h4,eqT h7,h9,h10,h11]
     refine au gb6 ?_
     simp(config:=cS)only[go_sem,eZt h2,eZt h4,eqT h7,h9,h10,h11]
    ·cases b6
     obtain rfl:=(aj gb6).symm
     try dsimp only at h
     cases h
     simp(config:=cS)only[go_sem,eZt h2,eZt h4,eqF h7]
  ·cases h
   simp(config:=cS)only[go_sem,eZt h2,eZf h4]
 ·cases h
  simp(config:=cS)only[go_sem,eZf h2]
@[go_sem] def hi261_1:DT:=.i2 0 (.i2 1 (.i2 2 (.i2 3 (.i2 4 (.i2 5 (.i2 6 (.i2 7 (.i2 8 (.i2 9 .nil)))))))))
def GB:Hint where
 acts:=fun _=>[]
 draws:=fun
  | 1=>⟨hi261_1,[[],[0],[],[0,1,2],[0,1,2,3],.range 5,[],[6],.range 8,.range 9],.range 10⟩
  | _=>⟨.nil,[],[]⟩
theorem Tk (i:Nat):GB.acts i=[]:=rfl
theorem Tl (i:Nat):GB.views i=none:=rfl
attribute [go_sem] Tk Tl Tryz.ntmps261 Tryz.results261
@[go_sem] theorem XO:(GB.draws 1).order=hi261_1:=rfl
theorem kD {s:GShow}{v1:GState}{node res:Int}(h:cF s v1 node=some res):al Tryz.prog 261 [.agg (GShow.encS s),.agg (GState.encS v1),.lit (.int .i64 node)] [] (.lit (.int .i64 res)) []:=by
 refine ai (ra:=[]) (md:=mdT) hT (hi:=GB) Tryz.func261 rfl rfl (by decide +kernel) (by simp) ?_
 unfold cF at h
 obtain ⟨x01,g1,h⟩:=ae h
 obtain ⟨h2,h3,h4⟩:=ak g1
 obtain ⟨r02,g5,h⟩:=ae h
 simp(config:=cS)only[go_sem,h2,h3,h4]
 refine ag (xV g5) ?_
 cases h
 simp(config:=cS)only[go_sem]
attribute [go_sem] Tryz.ntmps294 Tryz.results294
theorem xW {i:Int}{v1:GState}{s:GShow}{res:Bool}(h:jK i v1 s=some res):al Tryz.prog 294 [.lit (.int .i64 i),.loc [.lit (.int .i64 v1.now),.sl (ab eI v1.times),.sl (ab eI v1.values)],.loc [.sl (ab GNode.encS s.nodes),.sl (ab GTie.enc s.ties),.lit (.int .i64 s.horizon)]] [] (.lit (.bool res)) []:=by
 refine ai (ra:=[]) (md:=mdT) hT (hi:=hi00) Tryz.func294 rfl rfl (by decide +kernel) (by simp) ?_
 unfold jK at h
 obtain ⟨x01,g1,h⟩:=ae h
 obtain ⟨h2,h3,h4⟩:=ak g1
 obtain ⟨h5,h⟩|⟨h5,h⟩:=af h
 ·obtain ⟨r02,g6,h⟩:=ae h
  simp(config:=cS)only[go_sem,h2,h3,h4,eqT h5]
  refine ag (kD g6) ?_
  cases h
  simp(config:=cS)only[go_sem]
 ·cases h
  simp(config:=cS)only[go_sem,h2,h3,h4,eqF h5]
attribute [go_sem] Tryz.ntmps250 Tryz.results250
theorem DC {s:GShow}{v1:GState}{res:List Int}(h:kf s v1=some res):al Tryz.prog 250 [.agg (GShow.encS s),.agg (GState.encS v1)] [] (.ref 20000 1 0 res.length) [(20000,1,.row false (ab eI res))]:=by
 refine ai (ra:=[.home 4,.trim 4]) (md:=mdT) hT (hi:=hi00) Tryz.func250 rfl rfl (by decide +kernel) (by simp) ?_
 unfold kf at h
 obtain ⟨r01,g1,h⟩:=ae h
 simp(config:=cS)only[go_sem]
 refine ag (FA g1) ?_
 obtain ⟨r02,g2,h⟩:=ae h
 simp(config:=cS)only[go_sem]
 refine ag (mm (by exact fun _ _ hr=>xW hr) (by refine ⟨fun _=>?_,fun _=>?_⟩ <;> simp only [go_sem]) (fun _=>rfl) rfl g2) ?_
 cases h
 simp(config:=cS)only[go_sem]
def mG (a:List Int):(Int × (List (List Int)))→St
 | (c,b)=>⟨[(5,.ref 640 1 0 a.length),(6,.ref 447 1 0 b.length),(7,.lit (.int .i64 c))],[(640,1,.row false (ab eI a)),(447,1,.row true (ab (eLO eI) b))],2⟩
attribute [go_sem] mG
attribute [go_sem] Tryz.ntmps174 Tryz.results174
theorem mY {s:GShow}{v1:GState}{res:List (List Int)}(h:ea s v1=some res):al Tryz.prog 174 [.agg (GShow.encS s),.agg (GState.encS v1)] [] (.ref 20000 1 0 res.length) [(20000,1,.row true (ab (eLO eI) res))]:=by
 refine ai (ra:=[.home 4]) (md:=mdT) hT (hi:=hi00) Tryz.func174 rfl rfl (by decide +kernel) (by simp) ?_
 unfold ea at h
 obtain ⟨r01,g1,h⟩:=ae h
 simp(config:=cS)only[go_sem]
 refine ag (DC g1) ?_
 obtain ⟨h2,h⟩:=am h
 obtain ⟨q03,l3,h⟩:=ae h
 simp(config:=cS)only[go_sem,eqF h2]
 refine ar (m1:=.mk) (m2:=.mk) [.home 6,.nf [5,6,7] [640,447]] (mG r01) l3 ?_ ?_
 ·simp(config:=cS)only[go_sem]
 ·intro nb4 sb4 bb4 b4 gb4
  obtain ⟨set_1,out_1⟩:=sb4
  unfold fL at b4
  try dsimp only at b4
  obtain ⟨h5,b4⟩|⟨h5,b4⟩:=af b4
  ·obtain ⟨r02,g6,b4⟩:=ae b4
   simp(config:=cS)only[go_sem,eqT h5]
   refine ag (tv g6) ?_
   obtain ⟨h7,b4⟩:=am b4
   obtain ⟨h8,b4⟩:=am b4
   cases b4
   simp(config:=cS)only[go_sem,eqT h7,eqT h8]
   refine au gb4 ?_
   simp(config:=cS)only[go_sem]
  ·cases b4
   obtain rfl:=(aj gb4).symm
   try dsimp only at h
   cases h
   simp(config:=cS)only[go_sem,eqF h5]
def oB (h:List Int)(i:Int)(j:List GNode)(k:List GTie)(l e:Int)(f g:List Int)(d:Int)(b:List Int):(Int × (List Int) × (List Int))→St
 | (m,a,c)=>⟨[(3,.ptr 192 1 0 0),(4,.ptr 256 1 0 0),(6,.ptr 384 1 0 0),(8,.ptr 512 1 0 0),(9,.ref 639 1 0 a.length),(14,.sl (ab eI h)),(15,.lit (.int .i64 i)),(16,.lit (.int .i64 m))],[(192,1,.var [.sl (ab GNode.encS j),.sl (ab GTie.enc k),.lit (.int .i64 l)]),(256,1,.var [.lit (.int .i64 e),.sl (ab eI f),.sl (ab eI g)]),(384,1,.var [.lit (.int .i64 0),.lit (.slice none 0 0),.lit (.slice none 0 0)]),(512,1,.var [.lit (.int .i64 d),.ref 832 1 0 c.length,.ref 833 1 0 b.length]),(832,1,.row true (ab eI c)),(833,1,.row true (ab eI b)),(639,1,.row true (ab eI a))],2⟩
attribute [go_sem] oB
attribute [go_sem] Tryz.ntmps175 Tryz.results175
theorem jW {s:GShow}{v1:GState}{nodes:List Int}{res:GState × (List Int)}(h:gh s v1 nodes=some res):al Tryz.prog 175 [.agg (GShow.encS s),.agg (GState.encS v1),.sl (ab eI nodes)] [] (.tup [.agg [.lit (.int .i64 res.1.now),.ref 20000 1 0 res.1.times.length,.ref 20001 1 0 res.1.values.length],.ref 20002 1 0 res.2.length]) [(20000,1,.row true (ab eI res.1.times)),(20001,1,.row true (ab eI res.1.values)),(20002,1,.row true (ab eI res.2))]:=by
 refine ai (ra:=[.homeCell 384 1,.homeCell 384 2,.home 7]) (md:=mdT) hT (hi:=hi00) Tryz.func175 rfl rfl (by decide +kernel) (by simp) ?_
 unfold gh at h
 obtain ⟨r01,g1,h⟩:=ae h
 simp(config:=cS)only[go_sem]
 refine ag (kC g1) ?_
 obtain ⟨q06,l2,h⟩:=ae h
 simp(config:=cS)only[go_sem]
 refine ar (m1:=.mk) (m2:=.mk) [.home 9,.nf [3,4,6,8,9,14,15,16] [192,256,384,512,832,833,639]] (oB nodes ((nodes.length:Nat):Int) s.nodes s.ties s.horizon v1.now v1.times v1.values r01.now r01.values) l2 ?_ ?_
 ·simp(config:=cS)only[go_sem]
 ·intro nb3 sb3 bb3 b3 gb3
  obtain ⟨v16_1,props_1,h832_1⟩:=sb3
  unfold hU at b3
  try dsimp only at b3
  obtain ⟨h4,b3⟩|⟨h4,b3⟩:=af b3
  ·obtain ⟨x02,g5,b3⟩:=ae b3
   obtain ⟨h6,h7,h8⟩:=ak g5
   obtain ⟨x03,g9,b3⟩:=ae b3
   obtain ⟨h10,h11,h12⟩:=ak g9
   obtain ⟨x04,g13,b3⟩:=ae b3
   obtain ⟨h14,h15,h16⟩:=ak g13
   obtain ⟨h17,b3⟩|⟨h17,b3⟩:=af b3
   ·cases b3
    simp(config:=cS)only[go_sem,eqT h4,h6,h7,h8,h10,h11,h12,h14,h15,h16,eqT h17]
    refine au gb3 ?_
    simp(config:=cS)only[go_sem]
   ·obtain ⟨h18,b3⟩:=am b3
    obtain ⟨h19,b3⟩:=am b3
    cases b3
    simp(config:=cS)only[go_sem,eqT h4,h6,h7,h8,h10,h11,h12,h14,h15,h16,eqF h17,eqT h18,eqT h19]
    refine au gb3 ?_
    simp(config:=cS)only[go_sem]
  ·cases b3
   obtain rfl:=(aj gb3).symm
   try dsimp only at h
   obtain ⟨r05,g21,h⟩:=ae h
   simp(config:=cS)only[go_sem,eqF h4]
   refine ag (qx g21) ?_
   obtain ⟨h22,h⟩:=am h
   cases h
   simp(config:=cS)only[go_sem,h22.symm]
def nE (a e:List Int)(f d:Int)(b:List Int):(Int × (List Int))→St
 | (g,c)=>⟨[(2,.sl (ab eI a)),(6,.ptr 384 1 0 0),(7,.ptr 448 1 0 0),(12,.sl (ab eI e)),(13,.lit (.int .i64 f)),(14,.lit (.int .i64 g))],[(384,1,.var [.lit (.int .i64 0),.lit (.slice none 0 0),.lit (.slice none 0 0)]),(448,1,.var [.lit (.int .i64 d),.ref 704 1 0 b.length,.ref 705 1 0 c.length]),(704,1,.row true (ab eI b)),(705,1,.row true (ab eI c))],2⟩
attribute [go_sem] nE
@[go_sem] def hi177_5:DT:=.i2 0 (.i2 1 (.i2 2 (.i2 3 (.i2 4 (.i2 5 (.i2 6 (.i2 7 (.i2 8 (.i2 9 .nil)))))))))
def GC:Hint where
 acts:=fun _=>[]
 draws:=fun
  | 5=>⟨hi177_5,[[],[0],[],[2],[],[],[4,5],[4,5,6],.range 8,.range 9],.range 10⟩
  | _=>⟨.nil,[],[]⟩
theorem Tm (i:Nat):GC.acts i=[]:=rfl
theorem Tn (i:Nat):GC.views i=none:=rfl
attribute [go_sem] Tm Tn Tryz.ntmps177 Tryz.results177
@[go_sem] theorem XP:(GC.draws 5).order=hi177_5:=rfl
theorem jd {v0:GState}{props values:List Int}{res:GState}(h:fc v0 props values=some res):al Tryz.prog 177 [.agg (GState.encS v0),.sl (ab eI props),.sl (ab eI values)] [] (.agg [.lit (.int .i64 res.now),.ref 20000 1 0 res.times.length,.ref 20001 1 0 res.values.length]) [(20000,1,.row true (ab eI res.times)),(20001,1,.row true (ab eI res.values))]:=by
 refine ai (ra:=[.homeCell 384 1,.homeCell 384 2]) (md:=mdT) hT (hi:=GC) Tryz.func177 rfl rfl (by decide +kernel) (by simp) ?_
 unfold fc at h
 obtain ⟨r01,g1,h⟩:=ae h
 simp(config:=cS)only[go_sem]
 refine ag (kC g1) ?_
 obtain ⟨q05,l2,h⟩:=ae h
 simp(config:=cS)only[go_sem]
 refine ar (m1:=.mk) (m2:=.mk) [.nf [2,6,7,12,13,14] [384,448,704,705]] (nE values props ((props.length:Nat):Int) r01.now r01.times) l2 ?_ ?_
 ·simp(config:=cS)only[go_sem]
 ·intro nb3 sb3 bb3 b3 gb3
  obtain ⟨v14_1,h705_1⟩:=sb3
  unfold gC at b3
  try dsimp only at b3
  obtain ⟨h4,b3⟩|⟨h4,b3⟩:=af b3
  ·obtain ⟨x02,g5,b3⟩:=ae b3
   obtain ⟨h6,h7,h8⟩:=ak g5
   obtain ⟨x03,g9,b3⟩:=ae b3
   obtain ⟨h10,h11,h12⟩:=ak g9
   obtain ⟨x04,g13,b3⟩:=ae b3
   obtain ⟨h14,h15,h16⟩:=ak g13
   cases b3
   simp(config:=cS)only[go_sem,eqT h4,h6,h7,h8,h10,h11,h12,h14,h15,h16]
   refine au gb3 ?_
   simp(config:=cS)only[go_sem]
  ·cases b3
   obtain rfl:=(aj gb3).symm
   try dsimp only at h
   cases h
   simp(config:=cS)only[go_sem,eqF h4]
def qc (g:List Int)(h e:Int)(b c d:List Int):(Int × (List Int) × (List Int))→St
 | (i,f,a)=>⟨[(6,.ptr 384 1 0 0),(9,.ptr 576 1 0 0),(10,.ref 3458 1 0 d.length),(11,.ref 767 1 0 f.length),(12,.ref 831 1 0 a.length),(58,.sl (ab eI g)),(59,.lit (.int .i64 h)),(60,.lit (.int .i64 i))],[(384,1,.var [.lit (.int .i64 0),.lit (.slice none 0 0),.lit (.slice none 0 0)]),(576,1,.var [.lit (.int .i64 e),.ref 3456 1 0 b.length,.ref 3457 1 0 c.length]),(3456,1,.row true (ab eI b)),(3457,1,.row true (ab eI c)),(3458,1,.row true (ab eI d)),(767,1,.row true (ab eI f)),(831,1,.row true (ab eI a))],2⟩
attribute [go_sem] qc
@[go_sem] def hi88_4:DT:=.i2 0 (.i2 1 (.i1 3 (.i1 4 (.i0 2 [3,4] (.i2 5 (.i2 6 .nil))))))
@[go_sem] def hi88_1:DT:=.i2 0 (.i2 1 (.i2 2 (.i2 3 (.i2 4 (.i2 5 (.i2 6 (.i2 7 (.i1 9 (.i1 10 (.i0 8 [9,10] (.i2 11 (.i2 12 (.i2 13 (.i2 14 (.i2 15 (.i2 16 (.i2 17 (.i2 18 (.i2 19 .nil)))))))))))))))))))
def hi88:Hint where
 acts:=fun _=>[]
 draws:=fun
  | 1=>⟨hi88_1,[[],[0],[],[2],[0,1,2,3],.range 5,.range 6,.range 6,.range 8,.range 6,[0,1,2,3,4,5,9],.range 11,.range 12,.range 13,.range 14,.range 15,.range 16,.range 17,.range 18,.range 19],.range 20⟩
  | 4=>⟨hi88_4,[[],[],[0,1],[],[3],.range 5,.range 6],.range 7⟩
  | _=>⟨.nil,[],[]⟩
theorem Vz (i:Nat):hi88.acts i=[]:=rfl
theorem VA (i:Nat):hi88.views i=none:=rfl
attribute [go_sem] Vz VA Tryz.ntmps88 Tryz.results88
@[go_sem] theorem YI:(hi88.draws 1).order=hi88_1:=rfl
@[go_sem] theorem YJ:(hi88.draws 4).order=hi88_4:=rfl
theorem Hu {s:GShow}{v1:GState}{e:aw}{res:GState × Bool}(h:lH s v1 e=some res):al Tryz.prog 88 [.agg (GShow.encS s),.agg (GState.encS v1),.agg (aw.encS e)] [] (.tup [.agg [.lit (.int .i64 res.1.now),.ref 20000 1 0 res.1.times.length,.ref 20001 1 0 res.1.values.length],.lit (.bool res.2)]) [(20000,1,.row true (ab eI res.1.times)),(20001,1,.row true (ab eI res.1.values))]:=by
 refine ai (ra:=[.homeCell 384 1,.homeCell 384 2]) (md:=mdT) hT (hi:=hi88) Tryz.func88 rfl rfl (by decide +kernel) (by simp) ?_
 unfold lH at h
 obtain ⟨h1,h⟩|⟨h1,h⟩:=af h
 ·obtain ⟨r01,g2,h⟩:=ae h
  simp(config:=cS)only[go_sem,eqT h1]
  refine ag (lW g2) ?_
  obtain ⟨r02,g3,h⟩:=ae h
  simp(config:=cS)only[go_sem,eqT h1]
  refine ag (qK g3) ?_
  obtain ⟨h4,h⟩|⟨h4,h⟩:=af h
  ·obtain ⟨r03,g5,h⟩:=ae h
   simp(config:=cS)only[go_sem,eqT h1,eZt h4]
   refine ag (jR g5) ?_
   obtain ⟨h6,h⟩|⟨h6,h⟩:=af h
   ·obtain ⟨r04,g7,h⟩:=ae h
    simp(config:=cS)only[go_sem,eqT h1,eZt h4,eZt h6]
    refine ag (oA g7) ?_
    obtain ⟨r05,g8,h⟩:=ae h
    simp(config:=cS)only[go_sem,eqT h1,eZt h4,eZt h6]
    refine ag (mY g8) ?_
    obtain ⟨r06,g9,h⟩:=ae h
    simp(config:=cS)only[go_sem,eqT h1,eZt h4,eZt h6]
    refine ag (qK g9) ?_
    obtain ⟨h10,h⟩|⟨h10,h⟩:=af h
    ·obtain ⟨r07,g11,h⟩:=ae h
     simp(config:=cS)only[go_sem,eqT h1,eZt h4,eZt h6,eZt h10]
     refine ag (jW g11) ?_
     obtain ⟨q13,l12,h⟩:=ae h
     simp(config:=cS)only[go_sem,eqT h1,eZt h4,eZt h6,eZt h10]
     refine ar (m1:=.mk) (m2:=.mk) [.home 11,.home 12,.nf [6,9,10,11,12,58,59,60] [384,576,3456,3457,3458,767,831]] (qc e.values ((e.values.length:Nat):Int) r07.1.now r07.1.times r07.1.values r07.2) l12 ?_ ?_
     ·simp(config:=cS)only[go_sem,eqT h1,eZt h4,eZt h6,eZt h10]
     ·intro nb13 sb13 bb13 b13 gb13
      obtain ⟨v60_1,seen_1,values_1⟩:=sb13
      unfold jn at b13
      try dsimp only at b13
      obtain ⟨h14,b13⟩|⟨h14,b13⟩:=af b13
      ·obtain ⟨x08,g15,b13⟩:=ae b13
       obtain ⟨h16,h17,h18⟩:=ak g15
       obtain ⟨r09,g19,b13⟩:=ae b13
       simp(config:=cS)only[go_sem,eqT h1,eZt h4,eZt h6,eZt h10,eqT h14,h16,h17,h18]
       refine ag (iU g19) ?_
       obtain ⟨h20,b13⟩:=am b13
       obtain ⟨h21,b13⟩:=am b13
       obtain ⟨r10,g22,b13⟩:=ae b13
       simp(config:=cS)only[go_sem,eqT h1,eZt h4,eZt h6,eZt h10,eqT h14,h16,h17,h18,eqT h20,eqT h21]
       refine ag (iU g22) ?_
       obtain ⟨h23,b13⟩:=am b13
       obtain ⟨h24,b13⟩:=am b13
       obtain ⟨h25,b13⟩:=am b13
       cases b13
       simp(config:=cS)only[go_sem,eqT h1,eZt h4,eZt h6,eZt h10,eqT h14,h16,h17,h18,eqT h20,eqT h21,eqF h23,eqT h24,eqT h25]
       refine au gb13 ?_
       simp(config:=cS)only[go_sem,eqT h1,eZt h4,eZt h6,eZt h10,eqT h14,h16,h17,h18,eqT h20,eqT h21,eqF h23,eqT h24,eqT h25]
      ·cases b13
       obtain rfl:=(aj gb13).symm
       try dsimp only at h
       obtain ⟨r11,g27,h⟩:=ae h
       simp(config:=cS)only[go_sem,eqT h1,eZt h4,eZt h6,eZt h10,eqF h14]
       refine ag (ek g27) ?_
       obtain ⟨h28,h⟩|⟨h28,h⟩:=af h
       ·obtain ⟨r12,g29,h⟩:=ae h
        simp(config:=cS)only[go_sem,eqT h1,eZt h4,eZt h6,eZt h10,eqF h14,eZt h28]
        refine ag (jd g29) ?_
        cases h
        simp(config:=cS)only[go_sem,eqT h1,eZt h4,eZt h6,eZt h10,eqF h14,eZt h28]
       ·cases h
        simp(config:=cS)only[go_sem,eqT h1,eZt h4,eZt h6,eZt h10,eqF h14,eZf h28]
    ·cases h
     simp(config:=cS)only[go_sem,eqT h1,eZt h4,eZt h6,eZf h10]
   ·cases h
    simp(config:=cS)only[go_sem,eqT h1,eZt h4,eZf h6]
  ·cases h
   simp(config:=cS)only[go_sem,eqT h1,eZf h4]
 ·cases h
  simp(config:=cS)only[go_sem,eqF h1]
def mH (d:List aw)(e:Int)(f:List GNode)(g:List GTie)(h:Int):(Int × Int × (List Int) × (List Int))→St
 | (i,c,a,b)=>⟨[(2,.ptr 128 1 0 0),(4,.ptr 256 1 0 0),(6,.ptr 384 1 0 0),(17,.sl (ab aw.encS d)),(18,.lit (.int .i64 e)),(19,.lit (.int .i64 i))],[(128,1,.var [.sl (ab GNode.encS f),.sl (ab GTie.enc g),.lit (.int .i64 h)]),(256,1,.var [.lit (.int .i64 0),.lit (.slice none 0 0),.lit (.slice none 0 0)]),(384,1,.var [.lit (.int .i64 c),.ref 1024 1 0 a.length,.ref 1025 1 0 b.length]),(1024,1,.row true (ab eI a)),(1025,1,.row true (ab eI b))],2⟩
attribute [go_sem] mH
attribute [go_sem] Tryz.ntmps28 Tryz.results28
theorem zR {s:GShow}{log:List aw}{res:GState × Bool}(h:iF s log=some res):al Tryz.prog 28 [.agg (GShow.encS s),.sl (ab aw.encS log)] [] (.tup [.agg [.lit (.int .i64 res.1.now),.ref 20000 1 0 res.1.times.length,.ref 20001 1 0 res.1.values.length],.lit (.bool res.2)]) [(20000,1,.row true (ab eI res.1.times)),(20001,1,.row true (ab eI res.1.values))]:=by
 refine ai (ra:=[.homeCell 256 1,.homeCell 256 2]) (md:=mdT) hT (hi:=hi00) Tryz.func28 rfl rfl (by decide +kernel) (by simp) ?_
 unfold iF at h
 obtain ⟨r01,g1,h⟩:=ae h
 simp(config:=cS)only[go_sem]
 refine ag (gR g1) ?_
 obtain ⟨h2,h⟩|⟨h2,h⟩:=af h
 ·obtain ⟨r02,g3,h⟩:=ae h
  simp(config:=cS)only[go_sem,eZt h2]
  refine ag (ms g3) ?_
  obtain ⟨q05,l4,h⟩:=ae h
  simp(config:=cS)only[go_sem]
  refine ar (m1:=.mk) (m2:=.mk) [.nfp [2,4,6,17,18,19] [(128,128),(256,256),(384,384),(1728,1024),(1024,1024),(1729,1025),(1025,1025)] []] (mH log ((log.length:Nat):Int) s.nodes s.ties s.horizon) l4 ?_ ?_
  ·simp(config:=cS)only[go_sem]
  ·intro nb5 sb5 bb5 b5 gb5
   obtain ⟨v19_1,v6_0_1,h1024_1,h1025_1⟩:=sb5
   unfold fM at b5
   try dsimp only at b5
   obtain ⟨h6,b5⟩|⟨h6,b5⟩:=af b5
   ·obtain ⟨x03,g7,b5⟩:=ae b5
    obtain ⟨h8,h9,h10⟩:=ak g7
    obtain ⟨r04,g11,b5⟩:=ae b5
    simp(config:=cS)only[go_sem,eqT h6,h8,h9,h10]
    refine ag (Hu g11) ?_
    obtain ⟨h12,b5⟩|⟨h12,b5⟩:=af b5
    ·cases b5
     simp(config:=cS)only[go_sem,eZt h12]
     refine au gb5 ?_
     simp(config:=cS)only[go_sem]
    ·cases b5
     obtain rfl:=(aj gb5).symm
     try dsimp only at h
     cases h
     simp(config:=cS)only[go_sem,eZf h12]
   ·cases b5
    obtain rfl:=(aj gb5).symm
    try dsimp only at h
    cases h
    simp(config:=cS)only[go_sem,eqF h6]
 ·cases h
  simp(config:=cS)only[go_sem,eZf h2]
attribute [go_sem] Tryz.ntmps30 Tryz.results30
theorem xX {a b:GState}{res:Bool}(h:hY a b=some res):al Tryz.prog 30 [.agg (GState.encS a),.agg (GState.encS b)] [] (.lit (.bool res)) []:=by
 refine ai (ra:=[]) (md:=mdT) hT (hi:=hi00) Tryz.func30 rfl rfl (by decide +kernel) (by simp) ?_
 unfold hY at h
 obtain ⟨h1,h⟩|⟨h1,h⟩:=af h
 ·obtain ⟨r01,g2,h⟩:=ae h
  simp(config:=cS)only[go_sem,eqT h1]
  refine ag (ek g2) ?_
  obtain ⟨h3,h⟩|⟨h3,h⟩:=af h
  ·obtain ⟨r02,g4,h⟩:=ae h
   simp(config:=cS)only[go_sem,eqT h1,eZt h3]
   refine ag (ek g4) ?_
   cases h
   simp(config:=cS)only[go_sem,eqT h1,eZt h3]
  ·cases h
   simp(config:=cS)only[go_sem,eqT h1,eZf h3]
 ·cases h
  simp(config:=cS)only[go_sem,eqF h1]
attribute [go_sem] Tryz.ntmps75 Tryz.results75
theorem uO {d:GDesk}{res:Bool}(h:iX d=some res):al Tryz.prog 75 [.agg (GDesk.encS d)] [] (.lit (.bool res)) []:=by
 refine ai (ra:=[]) (md:=mdT) hT (hi:=hi00) Tryz.func75 rfl rfl (by decide +kernel) (by simp) ?_
 unfold iX at h
 obtain ⟨r01,g1,h⟩:=ae h
 simp(config:=cS)only[go_sem]
 refine ag (lV g1) ?_
 obtain ⟨h2,h⟩|⟨h2,h⟩:=af h
 ·obtain ⟨h3,h⟩|⟨h3,h⟩:=af h
  ·obtain ⟨r02,g4,h⟩:=ae h
   simp(config:=cS)only[go_sem,eZt h2,eqT h3]
   refine ag (zR g4) ?_
   obtain ⟨h5,h⟩|⟨h5,h⟩:=af h
   ·obtain ⟨r03,g6,h⟩:=ae h
    simp(config:=cS)only[go_sem,eZt h2,eqT h3,eZt h5]
    refine ag (xX g6) ?_
    cases h
    simp(config:=cS)only[go_sem,eZt h2,eqT h3,eZt h5]
   ·cases h
    simp(config:=cS)only[go_sem,eZt h2,eqT h3,eZf h5]
  ·cases h
   simp(config:=cS)only[go_sem,eZt h2,eqF h3]
 ·cases h
  simp(config:=cS)only[go_sem,eZf h2]
@[go_sem] def hi168_1:DT:=.i1 0 (.i1 1 (.i1 2 (.i1 3 (.i1 4 (.i1 5 (.i2 6 (.i1 7 (.i1 8 (.i1 9 (.i1 10 (.i1 11 (.i2 12 (.i1 13 (.i1 14 (.i2 15 (.i2 16 (.i0 17 [0,1,2,3,4,5,7,8,9,10,11,13,14] (.i2 18 (.i2 19 (.i2 20 (.i2 21 .nil)))))))))))))))))))))
def GD:Hint where
 acts:=fun _=>[]
 draws:=fun
  | 1=>⟨hi168_1,[[],[0],[],[2],[],[4],[],[4,5,6],[4,5,6,7],[4,5,6,7,8],[2,3,4,5,6,7,8,9],[2,3,4,5,6,7,8,9,10],.range 12,[],[13],[],[],[15,16],[13,14,15,16,17],[13,14,15,16,17,18],.range 20,.range 21],.range 22⟩
  | _=>⟨.nil,[],[]⟩
theorem To (i:Nat):GD.acts i=[]:=rfl
theorem Tp (i:Nat):GD.views i=none:=rfl
attribute [go_sem] To Tp Tryz.ntmps168 Tryz.results168
@[go_sem] theorem XQ:(GD.draws 1).order=hi168_1:=rfl
theorem vc {i:Int}{v1:GState}{s:GShow}{v3:GChoice}{free:List Int}{res:Bool}(h:iR i v1 s v3 free=some res):al Tryz.prog 168 [.lit (.int .i64 i),.loc [.lit (.int .i64 v1.now),.sl (ab eI v1.times),.sl (ab eI v1.values)],.loc [.sl (ab GNode.encS s.nodes),.sl (ab GTie.enc s.ties),.lit (.int .i64 s.horizon)],.loc [.sl (ab eI v3.lengths),.sl (ab eI v3.values)],.loc [.sl (ab eI free)]] [] (.lit (.bool res)) []:=by
 refine ai (ra:=[]) (md:=mdT) hT (hi:=GD) Tryz.func168 rfl rfl (by decide +kernel) (by simp) ?_
 unfold iR at h
 obtain ⟨x01,g1,h⟩:=ae h
 obtain ⟨h2,h3,h4⟩:=ak g1
 obtain ⟨x02,g5,h⟩:=ae h
 obtain ⟨h6,h7,h8⟩:=ak g5
 obtain ⟨r03,g9,h⟩:=ae h
 simp(config:=cS)only[go_sem,h2,h3,h4,h6,h7,h8]
 refine ag (pY g9) ?_
 obtain ⟨x04,g10,h⟩:=ae h
 obtain ⟨h11,h12,h13⟩:=ak g10
 cases h
 simp(config:=cS)only[go_sem,h2,h3,h4,h6,h7,h8,h11,h12,h13]
attribute [go_sem] Tryz.ntmps87 Tryz.results87
theorem ro {s:GShow}{v1:GState}{v2:GChoice}{res:List Int}(h:iG s v1 v2=some res):al Tryz.prog 87 [.agg (GShow.encS s),.agg (GState.encS v1),.agg [.sl (ab eI v2.lengths),.sl (ab eI v2.values)]] [] (.ref 20000 1 0 res.length) [(20000,1,.row false (ab eI res))]:=by
 refine ai (ra:=[.home 6,.trim 6]) (md:=mdT) hT (hi:=hi00) Tryz.func87 rfl rfl (by decide +kernel) (by simp) ?_
 unfold iG at h
 obtain ⟨r01,g1,h⟩:=ae h
 simp(config:=cS)only[go_sem]
 refine ag (lV g1) ?_
 obtain ⟨h2,h⟩|⟨h2,h⟩:=af h
 ·obtain ⟨r02,g3,h⟩:=ae h
  simp(config:=cS)only[go_sem,eZt h2]
  refine ag (sd g3) ?_
  obtain ⟨h4,h⟩|⟨h4,h⟩:=af h
  ·obtain ⟨r03,g5,h⟩:=ae h
   simp(config:=cS)only[go_sem,eZt h2,eZt h4]
   refine ag (sc g5) ?_
   obtain ⟨r04,g6,h⟩:=ae h
   simp(config:=cS)only[go_sem,eZt h2,eZt h4]
   refine ag (uN g6) ?_
   obtain ⟨r05,g7,h⟩:=ae h
   simp(config:=cS)only[go_sem,eZt h2,eZt h4]
   refine ag (mm (by exact fun _ _ hr=>vc hr) (by refine ⟨fun _=>?_,fun _=>?_⟩ <;> simp only [go_sem]) (fun _=>rfl) rfl g7) ?_
   cases h
   simp(config:=cS)only[go_sem,eZt h2,eZt h4]
  ·cases h
   simp(config:=cS)only[go_sem,eZt h2,eZf h4]
 ·cases h
  simp(config:=cS)only[go_sem,eZf h2]
attribute [go_sem] Tryz.ntmps240 Tryz.results240
theorem vd {v:Int}{res:Bool}(h:fN v=some res):al Tryz.prog 240 [.lit (.int .i64 v)] [] (.lit (.bool res)) []:=by
 refine ai (ra:=[]) (md:=mdT) hT (hi:=hi00) Tryz.func240 rfl rfl (by decide +kernel) (by simp) ?_
 unfold fN at h
 obtain ⟨h1,h⟩|⟨h1,h⟩:=af h
 ·cases h
  simp(config:=cS)only[go_sem,eqT h1]
 ·cases h
  simp(config:=cS)only[go_sem,eqF h1]
@[go_sem] def hi260_1:DT:=.i2 0 (.i2 1 (.i2 2 (.i2 3 (.i2 4 (.i2 5 (.i2 6 (.i2 7 (.i2 8 (.i2 9 (.i2 10 (.i2 11 (.i2 12 (.i2 13 .nil)))))))))))))
def GE:Hint where
 acts:=fun _=>[]
 draws:=fun
  | 1=>⟨hi260_1,[[],[0],[],[2],[0,1,2,3],.range 5,[],[6],[],[8],[6,7,8,9],[6,7,8,9,10],.range 6,.range 13],[0,1,2,3,4,5,7,8,9,10,11,12,6,13]⟩
  | _=>⟨.nil,[],[]⟩
theorem Tq (i:Nat):GE.acts i=[]:=rfl
theorem Tr (i:Nat):GE.views i=none:=rfl
attribute [go_sem] Tq Tr Tryz.ntmps260 Tryz.results260
@[go_sem] theorem XR:(GE.draws 1).order=hi260_1:=rfl
theorem vY {s:GShow}{v1:GState}{t:GTie}{res:Bool}(h:gD s v1 t=some res):al Tryz.prog 260 [.agg (GShow.encS s),.agg (GState.encS v1),.agg (GTie.enc t)] [] (.lit (.bool res)) []:=by
 refine ai (ra:=[]) (md:=mdT) hT (hi:=GE) Tryz.func260 rfl rfl (by decide +kernel) (by simp) ?_
 unfold gD at h
 obtain ⟨x01,g1,h⟩:=ae h
 obtain ⟨h2,h3,h4⟩:=ak g1
 obtain ⟨x02,g5,h⟩:=ae h
 obtain ⟨h6,h7,h8⟩:=ak g5
 obtain ⟨h9,h⟩|⟨h9,h⟩:=af h
 ·obtain ⟨h10,h⟩|⟨h10,h⟩:=af h
  ·cases h
   simp(config:=cS)only[go_sem,h2,h3,h4,h6,h7,h8,eqT h9,eZt h10]
  ·obtain ⟨h11,h⟩|⟨h11,h⟩:=af h
   ·cases h
    simp(config:=cS)only[go_sem,h2,h3,h4,h6,h7,h8,eqT h9,eZf h10,eqT h11]
   ·obtain ⟨r03,g12,h⟩:=ae h
    simp(config:=cS)only[go_sem,h2,h3,h4,h6,h7,h8,eqT h9,eZf h10,eqF h11]
    refine ag (kD g12) ?_
    obtain ⟨h13,h⟩|⟨h13,h⟩:=af h
    ·cases h
     simp(config:=cS)only[go_sem,eqT h13]
    ·cases h
     simp(config:=cS)only[go_sem,eqF h13]
 ·obtain ⟨h14,h⟩|⟨h14,h⟩:=af h
  ·obtain ⟨h15,h⟩|⟨h15,h⟩:=af h
   ·cases h
    simp(config:=cS)only[go_sem,h2,h3,h4,h6,h7,h8,eqF h9,eqT h14,eZt h15]
   ·obtain ⟨r04,g16,h⟩:=ae h
    simp(config:=cS)only[go_sem,h2,h3,h4,h6,h7,h8,eqF h9,eqT h14,eZf h15]
    refine ag (kD g16) ?_
    obtain ⟨h17,h⟩|⟨h17,h⟩:=af h
    ·cases h
     simp(config:=cS)only[go_sem,eqT h17]
    ·cases h
     simp(config:=cS)only[go_sem,eqF h17]
  ·obtain ⟨h18,h⟩|⟨h18,h⟩:=af h
   ·cases h
    simp(config:=cS)only[go_sem,h2,h3,h4,h6,h7,h8,eqF h9,eqF h14,eqT h18]
   ·cases h
    simp(config:=cS)only[go_sem,h2,h3,h4,h6,h7,h8,eqF h9,eqF h14,eqF h18]
attribute [go_sem] Tryz.ntmps259 Tryz.results259
theorem vZ {t:GTie}{s:GShow}{v2:GState}{res:Bool}(h:jo t s v2=some res):al Tryz.prog 259 [.agg (GTie.enc t),.loc [.sl (ab GNode.encS s.nodes),.sl (ab GTie.enc s.ties),.lit (.int .i64 s.horizon)],.loc [.lit (.int .i64 v2.now),.sl (ab eI v2.times),.sl (ab eI v2.values)]] [] (.lit (.bool res)) []:=by
 refine ai (ra:=[]) (md:=mdT) hT (hi:=hi00) Tryz.func259 rfl rfl (by decide +kernel) (by simp) ?_
 unfold jo at h
 obtain ⟨r01,g1,h⟩:=ae h
 simp(config:=cS)only[go_sem]
 refine ag (vY g1) ?_
 cases h
 simp(config:=cS)only[go_sem]
def oC (c:List Int)(h:Int)(d:List GNode)(e:List GTie)(f a:Int)(b:List Int)(g:Int):St:=⟨[(2,.ptr 128 1 0 0),(3,.ptr 192 1 0 0),(8,.sl (ab eI c)),(9,.lit (.int .i64 h)),(10,.lit (.int .i64 g))],[(128,1,.var [.sl (ab GNode.encS d),.sl (ab GTie.enc e),.lit (.int .i64 f)]),(192,1,.var [.lit (.int .i64 a),.sl (ab eI c),.sl (ab eI b)])],2⟩
attribute [go_sem] oC
attribute [go_sem] Tryz.ntmps190 Tryz.results190
theorem lX {s:GShow}{v1:GState}{res:Bool}(h:gi s v1=some res):al Tryz.prog 190 [.agg (GShow.encS s),.agg (GState.encS v1)] [] (.lit (.bool res)) []:=by
 refine ai (ra:=[]) (md:=mdT) hT (hi:=hi00) Tryz.func190 rfl rfl (by decide +kernel) (by simp) ?_
 unfold gi at h
 obtain ⟨q03,l1,h⟩:=ae h
 simp(config:=cS)only[go_sem]
 refine ar (m1:=.mk) (m2:=.mk) [.nf [2,3,8,9,10] [128,192]] (oC v1.times ((v1.times.length:Nat):Int) s.nodes s.ties s.horizon v1.now v1.values) l1 ?_ ?_
 ·simp(config:=cS)only[go_sem]
 ·intro nb2 v10_1 bb2 b2 gb2
  unfold fA at b2
  try dsimp only at b2
  obtain ⟨h3,b2⟩|⟨h3,b2⟩:=af b2
  ·obtain ⟨x01,g4,b2⟩:=ae b2
   obtain ⟨h5,h6,h7⟩:=ak g4
   obtain ⟨h8,b2⟩|⟨h8,b2⟩:=af b2
   ·obtain ⟨r02,g9,b2⟩:=ae b2
    simp(config:=cS)only[go_sem,eqT h3,h5,h6,h7,eqT h8]
    refine ag (kD g9) ?_
    obtain ⟨h10,b2⟩|⟨h10,b2⟩:=af b2
    ·cases b2
     simp(config:=cS)only[go_sem,eqT h10]
     refine au gb2 ?_
     simp(config:=cS)only[go_sem]
    ·cases b2
     obtain rfl:=(aj gb2).symm
     try dsimp only at h
     cases h
     simp(config:=cS)only[go_sem,eqF h10]
   ·cases b2
    simp(config:=cS)only[go_sem,eqT h3,h5,h6,h7,eqF h8]
    refine au gb2 ?_
    simp(config:=cS)only[go_sem]
  ·cases b2
   obtain rfl:=(aj gb2).symm
   try dsimp only at h
   cases h
   simp(config:=cS)only[go_sem,eqF h3]
attribute [go_sem] Tryz.ntmps189 Tryz.results189
theorem oD {s:GShow}{v1:GState}{res:Bool}(h:gP s v1=some res):al Tryz.prog 189 [.agg (GShow.encS s),.agg (GState.encS v1)] [] (.lit (.bool res)) []:=by
 refine ai (ra:=[]) (md:=mdT) hT (hi:=hi00) Tryz.func189 rfl rfl (by decide +kernel) (by simp) ?_
 unfold gP at h
 obtain ⟨r01,g1,h⟩:=ae h
 simp(config:=cS)only[go_sem]
 refine ag (lr (by exact fun _ _ hr=>vZ hr) (by refine ⟨fun _=>?_,fun _=>?_⟩ <;> simp only [go_sem]) (fun _=>rfl) rfl g1) ?_
 obtain ⟨h2,h⟩|⟨h2,h⟩:=af h
 ·cases h
  simp(config:=cS)only[go_sem,eZt h2]
 ·obtain ⟨h3,h⟩|⟨h3,h⟩:=af h
  ·obtain ⟨r02,g4,h⟩:=ae h
   simp(config:=cS)only[go_sem,eZf h2,eqT h3]
   refine ag (lX g4) ?_
   cases h
   simp(config:=cS)only[go_sem]
  ·cases h
   simp(config:=cS)only[go_sem,eZf h2,eqF h3]
attribute [go_sem] Tryz.ntmps96 Tryz.results96
theorem pw {s:GShow}{res:GShow × (List (ByteArray × Bool))}(h:iu s=some res):al Tryz.prog 96 [.agg (GShow.encS s)] [] (.ptr 20000 1 0 0) [(20000,1,.var [.sl (ab GNode.encS res.1.nodes),.sl (ab GTie.enc res.1.ties),.lit (.int .i64 res.1.horizon),.mp 20001 1]),(20001,1,.map (eM res.2))]:=by
 refine ai (ra:=[]) (md:=mdT) hT (hi:=hi00) Tryz.func96 rfl rfl (by decide +kernel) (by simp) ?_
 unfold iu at h
 cases h
 simp(config:=cS)only[go_sem]
def rp (a:List Int)(e c:Int)(d:List Int):(Int × (List Int))→St
 | (f,b)=>⟨[(1,.ptr 64 1 0 0),(3,.ref 704 1 0 b.length),(13,.sl (ab eI a)),(14,.lit (.int .i64 e)),(15,.lit (.int .i64 f))],[(64,1,.var [.lit (.int .i64 c),.sl (ab eI a),.sl (ab eI d)]),(704,1,.row true (ab (eK .u8) b))],2⟩
attribute [go_sem] rp
def rq (b:List Int)(c:Int):(Int × (List Int))→St
 | (d,a)=>⟨[(3,.ref 704 1 0 a.length),(27,.sl (ab eI b)),(28,.lit (.int .i64 c)),(29,.lit (.int .i64 d))],[(704,1,.row true (ab (eK .u8) a))],2⟩
attribute [go_sem] rq
attribute [go_sem] Tryz.ntmps191 Tryz.results191
theorem KO {v0:GState}{res:ByteArray}(h:oJ v0=some res):al Tryz.prog 191 [.agg (GState.encS v0)] [] (.lit (.string res)) []:=by
 refine ai (ra:=[]) (md:=mdT) hT (hi:=hi00) Tryz.func191 rfl rfl (by decide +kernel) (by simp) ?_
 unfold oJ at h
 obtain ⟨q04,l1,h⟩:=ae h
 simp(config:=cS)only[go_sem]
 refine ar (m1:=.mk) (m2:=.mk) [.nf [1,3,13,14,15] [64,704]] (rp v0.times ((v0.times.length:Nat):Int) v0.now v0.values) l1 ?_ ?_
 ·simp(config:=cS)only[go_sem]
 ·intro nb2 sb2 bb2 b2 gb2
  obtain ⟨v15_1,out_1⟩:=sb2
  unfold kW at b2
  try dsimp only at b2
  obtain ⟨h3,b2⟩|⟨h3,b2⟩:=af b2
  ·obtain ⟨x01,g4,b2⟩:=ae b2
   obtain ⟨h5,h6,h7⟩:=ak g4
   obtain ⟨h8,b2⟩:=am b2
   obtain ⟨h9,b2⟩:=am b2
   cases b2
   simp(config:=cS)only[go_sem,eqT h3,h5,h6,h7,eqT h8,eqT h9]
   refine au gb2 ?_
   simp(config:=cS)only[go_sem]
  ·cases b2
   obtain rfl:=(aj gb2).symm
   try dsimp only at h
   obtain ⟨q03,l11,h⟩:=ae h
   simp(config:=cS)only[go_sem,eqF h3]
   refine ar (m1:=.mk) (m2:=.mk) [.nf [3,27,28,29] [704]] (rq v0.values ((v0.values.length:Nat):Int)) l11 ?_ ?_
   ·simp(config:=cS)only[go_sem]
   ·intro nb12 sb12 bb12 b12 gb12
    obtain ⟨v29_2,out_2⟩:=sb12
    unfold kX at b12
    try dsimp only at b12
    obtain ⟨h13,b12⟩|⟨h13,b12⟩:=af b12
    ·obtain ⟨x02,g14,b12⟩:=ae b12
     obtain ⟨h15,h16,h17⟩:=ak g14
     obtain ⟨h18,b12⟩:=am b12
     obtain ⟨h19,b12⟩:=am b12
     cases b12
     simp(config:=cS)only[go_sem,eqT h13,h15,h16,h17,eqT h18,eqT h19]
     refine au gb12 ?_
     simp(config:=cS)only[go_sem]
    ·cases b12
     obtain rfl:=(aj gb12).symm
     try dsimp only at h
     cases h
     simp(config:=cS)only[go_sem,eqF h13]
def kx (a:List Int)(b c:Int):St:=⟨[(0,.sl (ab eI a)),(9,.sl (ab eI a)),(10,.lit (.int .i64 b)),(11,.lit (.int .i64 c))],[],2⟩
attribute [go_sem] kx
def ky (b:List Int)(n d:Int)(c:List (List Int)):(Int × (List Int))→St
 | (e,a)=>⟨[(0,.sl (ab eI b)),(5,.ref 383 1 0 c.length),(6,.lit (.int .i64 n)),(7,.ref 511 1 0 a.length),(44,.lit (.int .i64 d)),(45,.lit (.int .i64 e))],[(383,1,.row true (ab (eLO eI) c)),(511,1,.row true (ab eI a))],2⟩
attribute [go_sem] ky
def kz (a:List Int):(Int × (List (List Int)))→St
 | (n,b)=>⟨[(0,.sl (ab eI a)),(5,.ref 383 1 0 b.length),(6,.lit (.int .i64 n))],[(383,1,.row true (ab (eLO eI) b))],2⟩
attribute [go_sem] kz
attribute [go_sem] Tryz.ntmps288 Tryz.results288
theorem nF {props:List Int}{res:List (List Int)}(h:eJ props=some res):al Tryz.prog 288 [.sl (ab eI props)] [] (.ref 20000 1 0 res.length) [(20000,1,.row true (ab (eLO eI) res))]:=by
 refine ai (ra:=[.home 2]) (md:=mdT) hT (hi:=hi00) Tryz.func288 rfl rfl (by decide +kernel) (by simp) ?_
 unfold eJ at h
 obtain ⟨q05,l1,h⟩:=ae h
 simp(config:=cS)only[go_sem]
 refine ar (m1:=.mk) (m2:=.mk) [.nf [0,9,10,11] []] (kx props ((props.length:Nat):Int)) l1 ?_ ?_
 ·simp(config:=cS)only[go_sem]
 ·intro nb2 v11_1 bb2 b2 gb2
  unfold dj at b2
  try dsimp only at b2
  obtain ⟨h3,b2⟩|⟨h3,b2⟩:=af b2
  ·obtain ⟨x01,g4,b2⟩:=ae b2
   obtain ⟨h5,h6,h7⟩:=ak g4
   obtain ⟨h8,b2⟩|⟨h8,b2⟩:=af b2
   ·cases b2
    obtain rfl:=(aj gb2).symm
    try dsimp only at h
    cases h
    simp(config:=cS)only[go_sem,eqT h3,h5,h6,h7,eqT h8]
   ·obtain ⟨h10,b2⟩|⟨h10,b2⟩:=af b2
    ·cases b2
     obtain rfl:=(aj gb2).symm
     try dsimp only at h
     cases h
     simp(config:=cS)only[go_sem,eqT h3,h5,h6,h7,eqF h8,eqT h10]
    ·obtain ⟨h12,b2⟩|⟨h12,b2⟩:=af b2
     ·obtain ⟨x02,g13,b2⟩:=ae b2
      obtain ⟨h14,h15,h16⟩:=ak g13
      obtain ⟨h17,b2⟩|⟨h17,b2⟩:=af b2
      ·cases b2
       obtain rfl:=(aj gb2).symm
       try dsimp only at h
       cases h
       simp(config:=cS)only[go_sem,eqT h3,h5,h6,h7,eqF h8,eqF h10,eqT h12,h14,h15,h16,eqT h17]
      ·cases b2
       simp(config:=cS)only[go_sem,eqT h3,h5,h6,h7,eqF h8,eqF h10,eqT h12,h14,h15,h16,eqF h17]
       refine au gb2 ?_
       simp(config:=cS)only[go_sem]
     ·cases b2
      simp(config:=cS)only[go_sem,eqT h3,h5,h6,h7,eqF h8,eqF h10,eqF h12]
      refine au gb2 ?_
      simp(config:=cS)only[go_sem]
  ·cases b2
   obtain rfl:=(aj gb2).symm
   try dsimp only at h
   obtain ⟨q04,l20,h⟩:=ae h
   simp(config:=cS)only[go_sem,eqF h3]
   refine ar (m1:=.mk) (m2:=.mk) [.home 5,.nf [0,5,6] [383]] (kz props) l20 ?_ ?_
   ·simp(config:=cS)only[go_sem]
   ·intro nb21 sb21 bb21 b21 gb21
    obtain ⟨n_2,out_2⟩:=sb21
    unfold dm at b21
    try dsimp only at b21
    obtain ⟨h22,b21⟩:=am b21
    obtain ⟨h23,b21⟩|⟨h23,b21⟩:=af b21
    ·obtain ⟨q03,l24,b21⟩:=ae b21
     simp(config:=cS)only[go_sem,eqF h22,eqT h23]
     refine ar (m1:=.mk) (m2:=.mk) [.home 7,.nf [0,5,6,7,44,45] [383,511]] (ky props n_2 ((props.length:Nat):Int) out_2) l24 ?_ ?_
     ·simp(config:=cS)only[go_sem]
     ·intro nb25 sb25 bb25 b25 gb25
      obtain ⟨v45_3,values_3⟩:=sb25
      unfold dl at b25
      try dsimp only at b25
      obtain ⟨h26,b25⟩|⟨h26,b25⟩:=af b25
      ·obtain ⟨h27,b25⟩:=am b25
       obtain ⟨h28,b25⟩:=am b25
       obtain ⟨h29,b25⟩:=am b25
       cases b25
       simp(config:=cS)only[go_sem,eqT h26,eqF h27,eqT h28,eqT h29]
       refine au gb25 ?_
       simp(config:=cS)only[go_sem]
      ·cases b25
       obtain rfl:=(aj gb25).symm
       try dsimp only at b21
       obtain ⟨h31,b21⟩:=am b21
       obtain ⟨h32,b21⟩:=am b21
       cases b21
       simp(config:=cS)only[go_sem,eqF h26,eqT h31,eqT h32]
       refine au gb21 ?_
       simp(config:=cS)only[go_sem]
    ·cases b21
     obtain rfl:=(aj gb21).symm
     try dsimp only at h
     cases h
     simp(config:=cS)only[go_sem,eqF h22,eqF h23]
def iy (g d:Int)(a b c:List Int)(f:List (List Int))(h:List GNode)(i:List GTie)(j:Int):(Int × (List (ByteArray × Bool)))→St
 | (k,e)=>⟨[(0,.ptr 10000 0 0 0),(7,.ptr 448 1 0 0),(8,.ref 1154 1 0 c.length),(22,.ref 1408 1 0 f.length),(23,.lit (.int .i64 g)),(24,.lit (.int .i64 k))],[(10000,0,.var [.sl (ab GNode.encS h),.sl (ab GTie.enc i),.lit (.int .i64 j),.mp 10001 0]),(10001,0,.map (eM e)),(448,1,.var [.lit (.int .i64 d),.ref 1152 1 0 a.length,.ref 1153 1 0 b.length]),(1152,1,.row true (ab eI a)),(1153,1,.row true (ab eI b)),(1154,1,.row true (ab eI c)),(1408,1,.tree (ab (eLS eI) f))],2⟩
attribute [go_sem] iy
@[go_sem] def hi242_1:DT:=.i2 0 (.i1 1 (.i1 2 (.i1 3 (.i1 4 (.i2 5 (.fork (.i2 6 (.i2 7 (.i2 8 (.i2 9 (.i0 10 [1,2,3,4] (.i2 11 (.i2 12 .nil))))))) (.i0 10 [1,2,3,4] (.i2 6 (.i2 7 (.i2 8 (.i2 9 (.i2 11 (.i2 12 .nil)))))))))))))
def GF:Hint where
 acts:=fun _=>[]
 draws:=fun
  | 1=>⟨hi242_1,[[],[0],[0,1],[0,1,2],[],[],.range 6,.range 7,.range 8,.range 8,[],[0,1,2,3,4,5,6,7,8,10],.range 12],[0,1,2,3,4,5,6,7,8,11,9,10,12]⟩
  | _=>⟨.nil,[],[]⟩
@[go_sem] theorem YK (i:Nat):GF.acts i=[]:=rfl
theorem Ts (i:Nat):GF.views i=none:=rfl
attribute [go_sem] Ts Tryz.ntmps242 Tryz.results242
@[go_sem] theorem XS:(GF.draws 1).order=hi242_1:=rfl
theorem oE {rec:GShow→(List (ByteArray × Bool))→GState→Option (Bool × (List (ByteArray × Bool)))}(hrec:∀ {g_s:GShow} {g_known:List (ByteArray × Bool)} {v1:GState} {res:Bool × (List (ByteArray × Bool))},rec g_s g_known v1=some res→al Tryz.prog 97 [.ptr 10000 0 0 0,.agg (GState.encS v1)] [(10000,0,.var [.sl (ab GNode.encS g_s.nodes),.sl (ab GTie.enc g_s.ties),.lit (.int .i64 g_s.horizon),.mp 10001 0]),(10001,0,.map (eM g_known))] (.lit (.bool res.1)) [(10000,0,.var [.sl (ab GNode.encS g_s.nodes),.sl (ab GTie.enc g_s.ties),.lit (.int .i64 g_s.horizon),.mp 10001 0]),(10001,0,.map (eM res.2))]){g_s:GShow}{g_known:List (ByteArray × Bool)}{v1:GState}{nodes:List Int}{res:Bool × (List (ByteArray × Bool))}(h:dy rec g_s g_known v1 nodes=some res):al Tryz.prog 242 [.ptr 10000 0 0 0,.agg (GState.encS v1),.sl (ab eI nodes)] [(10000,0,.var [.sl (ab GNode.encS g_s.nodes),.sl (ab GTie.enc g_s.ties),.lit (.int .i64 g_s.horizon),.mp 10001 0]),(10001,0,.map (eM g_known))] (.lit (.bool res.1)) [(10000,0,.var [.sl (ab GNode.encS g_s.nodes),.sl (ab GTie.enc g_s.ties),.lit (.int .i64 g_s.horizon),.mp 10001 0]),(10001,0,.map (eM res.2))]:=by
 refine ai (ra:=[]) (md:=mdT) hT (hi:=GF) Tryz.func242 rfl rfl (by decide +kernel) (by simp) ?_
 unfold dy at h
 try simp(config:=cS)only[go_sem]
 refine eX ?_ ?_
 ·obtain ⟨r01,g1,h⟩:=ae h
  simp(config:=cS)only[go_sem]
  refine ag (jW g1) ?_
  obtain ⟨r02,g2,h⟩:=ae h
  simp(config:=cS)only[go_sem]
  refine ag (nF g2) ?_
  obtain ⟨q06,l3,h⟩:=ae h
  simp(config:=cS)only[go_sem]
  refine ar (m1:=.mk) (m2:=.mk) [.freeze [1408],.nf [0,7,8,22,23,24] [10000,10001,448,1152,1153,1154,1408]] (iy ((r02.length:Nat):Int) r01.1.now r01.1.times r01.1.values r01.2 r02 g_s.nodes g_s.ties g_s.horizon) l3 ?_ ?_
  ·simp(config:=cS)only[go_sem]
  ·intro nb4 sb4 bb4 b4 gb4
   obtain ⟨v24_1,h10001_1⟩:=sb4
   unfold da at b4
   try dsimp only at b4
   obtain ⟨h5,b4⟩|⟨h5,b4⟩:=af b4
   ·obtain ⟨x03,g6,b4⟩:=ae b4
    obtain ⟨h7,h8,h9⟩:=ak g6
    obtain ⟨r04,g10,b4⟩:=ae b4
    simp(config:=cS)only[go_sem,eqT h5,h7,h8,h9]
    refine ag (jd g10) ?_
    obtain ⟨r05,g11,b4⟩:=ae b4
    simp(config:=cS)only[go_sem]
    refine ag (hrec g11) ?_
    obtain ⟨h12,b4⟩|⟨h12,b4⟩:=af b4
    ·cases b4
     simp(config:=cS)only[go_sem,eZt h12]
     refine au gb4 ?_
     simp(config:=cS)only[go_sem]
    ·cases b4
     obtain rfl:=(aj gb4).symm
     try dsimp only at h
     cases h
     simp(config:=cS)only[go_sem,eZf h12]
   ·cases b4
    obtain rfl:=(aj gb4).symm
    try dsimp only at h
    cases h
    simp(config:=cS)only[go_sem,eqF h5]
 ·obtain ⟨r07,g15,h⟩:=ae h
  simp(config:=cS)only[go_sem]
  refine ag (jW g15) ?_
  obtain ⟨r08,g16,h⟩:=ae h
  simp(config:=cS)only[go_sem]
  refine ag (nF g16) ?_
  obtain ⟨q12,l17,h⟩:=ae h
  simp(config:=cS)only[go_sem]
  refine ar (m1:=.mk) (m2:=.mk) [.freeze [1408],.nf [0,7,8,22,23,24] [10000,10001,448,1152,1153,1154,1408]] (iy ((r08.length:Nat):Int) r07.1.now r07.1.times r07.1.values r07.2 r08 g_s.nodes g_s.ties g_s.horizon) l17 ?_ ?_
  ·simp(config:=cS)only[go_sem]
  ·intro nb18 sb18 bb18 b18 gb18
   obtain ⟨v24_2,h10001_2⟩:=sb18
   unfold da at b18
   try dsimp only at b18
   obtain ⟨h19,b18⟩|⟨h19,b18⟩:=af b18
   ·obtain ⟨x09,g20,b18⟩:=ae b18
    obtain ⟨h21,h22,h23⟩:=ak g20
    obtain ⟨r10,g24,b18⟩:=ae b18
    simp(config:=cS)only[go_sem,eqT h19,h21,h22,h23]
    refine ag (jd g24) ?_
    obtain ⟨r11,g25,b18⟩:=ae b18
    simp(config:=cS)only[go_sem]
    refine ag (hrec g25) ?_
    obtain ⟨h26,b18⟩|⟨h26,b18⟩:=af b18
    ·cases b18
     simp(config:=cS)only[go_sem,eZt h26]
     refine au gb18 ?_
     simp(config:=cS)only[go_sem]
    ·cases b18
     obtain rfl:=(aj gb18).symm
     try dsimp only at h
     cases h
     simp(config:=cS)only[go_sem,eZf h26]
   ·cases b18
    obtain rfl:=(aj gb18).symm
    try dsimp only at h
    cases h
    simp(config:=cS)only[go_sem,eqF h19]
def mq (f c:Int)(d e:List Int)(b:List (List Int))(g:List GNode)(h:List GTie)(i:Int):(Int × (List (ByteArray × Bool)))→St
 | (j,a)=>⟨[(0,.ptr 10000 0 0 0),(3,.ptr 192 1 0 0),(13,.ref 832 1 0 b.length),(14,.lit (.int .i64 f)),(15,.lit (.int .i64 j))],[(10000,0,.var [.sl (ab GNode.encS g),.sl (ab GTie.enc h),.lit (.int .i64 i),.mp 10001 0]),(10001,0,.map (eM a)),(192,1,.var [.lit (.int .i64 c),.sl (ab eI d),.sl (ab eI e)]),(832,1,.tree (ab (eLS eI) b))],2⟩
attribute [go_sem] mq
@[go_sem] def hi163_1:DT:=.i2 0 (.i2 1 (.i2 2 (.i2 3 (.i2 4 (.i2 7 (.i2 5 (.i2 6 .nil)))))))
def GG:Hint where
 acts:=fun _=>[]
 draws:=fun
  | 1=>⟨hi163_1,[[],[0],[0,1],[0,1,2],[],.range 5,.range 6,[]],.range 8⟩
  | _=>⟨.nil,[],[]⟩
@[go_sem] theorem YL (i:Nat):GG.acts i=[]:=rfl
theorem Tt (i:Nat):GG.views i=none:=rfl
attribute [go_sem] Tt Tryz.ntmps163 Tryz.results163
@[go_sem] theorem XT:(GG.draws 1).order=hi163_1:=rfl
theorem ph {rec:GShow→(List (ByteArray × Bool))→GState→Option (Bool × (List (ByteArray × Bool)))}(hrec:∀ {g_s:GShow} {g_known:List (ByteArray × Bool)} {v1:GState} {res:Bool × (List (ByteArray × Bool))},rec g_s g_known v1=some res→al Tryz.prog 97 [.ptr 10000 0 0 0,.agg (GState.encS v1)] [(10000,0,.var [.sl (ab GNode.encS g_s.nodes),.sl (ab GTie.enc g_s.ties),.lit (.int .i64 g_s.horizon),.mp 10001 0]),(10001,0,.map (eM g_known))] (.lit (.bool res.1)) [(10000,0,.var [.sl (ab GNode.encS g_s.nodes),.sl (ab GTie.enc g_s.ties),.lit (.int .i64 g_s.horizon),.mp 10001 0]),(10001,0,.map (eM res.2))]){g_s:GShow}{g_known:List (ByteArray × Bool)}{v1:GState}{res:(List Int) × Bool × (List (ByteArray × Bool))}(h:dR rec g_s g_known v1=some res):al Tryz.prog 163 [.ptr 10000 0 0 0,.agg (GState.encS v1)] [(10000,0,.var [.sl (ab GNode.encS g_s.nodes),.sl (ab GTie.enc g_s.ties),.lit (.int .i64 g_s.horizon),.mp 10001 0]),(10001,0,.map (eM g_known))] (.tup [.sl (ab eI res.1),.lit (.bool res.2.1)]) [(10000,0,.var [.sl (ab GNode.encS g_s.nodes),.sl (ab GTie.enc g_s.ties),.lit (.int .i64 g_s.horizon),.mp 10001 0]),(10001,0,.map (eM res.2.2))]:=by
 refine ai (ra:=[.nilSl 4]) (md:=mdT) hT (hi:=GG) Tryz.func163 rfl rfl (by decide +kernel) (by simp) ?_
 unfold dR at h
 obtain ⟨r01,g1,h⟩:=ae h
 simp(config:=cS)only[go_sem]
 refine ag (mY g1) ?_
 obtain ⟨q04,l2,h⟩:=ae h
 simp(config:=cS)only[go_sem]
 refine ar (m1:=.mk) (m2:=.mk) [.freeze [832],.nf [0,3,13,14,15] [10000,10001,192,832]] (mq ((r01.length:Nat):Int) v1.now v1.times v1.values r01 g_s.nodes g_s.ties g_s.horizon) l2 ?_ ?_
 ·simp(config:=cS)only[go_sem]
 ·intro nb3 sb3 bb3 b3 gb3
  obtain ⟨v15_1,h10001_1⟩:=sb3
  unfold fe at b3
  try dsimp only at b3
  obtain ⟨h4,b3⟩|⟨h4,b3⟩:=af b3
  ·obtain ⟨x02,g5,b3⟩:=ae b3
   obtain ⟨h6,h7,h8⟩:=ak g5
   obtain ⟨r03,g9,b3⟩:=ae b3
   simp(config:=cS)only[go_sem,eqT h4,h6,h7,h8]
   refine ag (oE @hrec g9) ?_
   obtain ⟨h10,b3⟩|⟨h10,b3⟩:=af b3
   ·cases b3
    obtain rfl:=(aj gb3).symm
    try dsimp only at h
    cases h
    simp(config:=cS)only[go_sem,eZt h10]
   ·cases b3
    simp(config:=cS)only[go_sem,eZf h10]
    refine au gb3 ?_
    simp(config:=cS)only[go_sem]
  ·cases b3
   obtain rfl:=(aj gb3).symm
   try dsimp only at h
   cases h
   simp(config:=cS)only[go_sem,eqF h4]
def mI (k:ByteArray)(f c:Int)(d e:List Int)(b:List (List Int))(g:List GNode)(h:List GTie)(i:Int):(Int × (List (ByteArray × Bool)))→St
 | (j,a)=>⟨[(0,.ptr 10000 0 0 0),(3,.ptr 192 1 0 0),(5,.lit (.string k)),(8,.lit (.bool true)),(45,.ref 2880 1 0 b.length),(46,.lit (.int .i64 f)),(47,.lit (.int .i64 j))],[(10000,0,.var [.sl (ab GNode.encS g),.sl (ab GTie.enc h),.lit (.int .i64 i),.mp 10001 0]),(10001,0,.map (eM a)),(192,1,.var [.lit (.int .i64 c),.sl (ab eI d),.sl (ab eI e)]),(2880,1,.tree (ab (eLS eI) b))],2⟩
attribute [go_sem] mI
@[go_sem] def hi97_13:DT:=.i2 0 (.i2 1 (.i2 2 (.i2 3 (.i2 4 (.i2 5 (.i2 6 (.i2 7 (.i2 8 (.i2 9 (.i2 10 (.i2 11 (.i2 12 (.i2 13 .nil)))))))))))))
@[go_sem] def hi97_10:DT:=.i2 0 (.i2 1 (.i2 2 (.i2 3 (.i2 4 (.i2 7 (.i2 5 (.i2 6 .nil)))))))
@[go_sem] def hi97_3:DT:=.i2 0 (.i2 1 (.i2 2 (.i2 3 (.i2 4 (.i2 5 (.i2 6 .nil))))))
@[go_sem] def hi97_1:DT:=.i2 0 (.i2 1 (.i2 2 (.i2 3 (.i2 4 (.i2 5 (.i2 6 .nil))))))
def hi97:Hint where
 acts:=fun _=>[]
 draws:=fun
  | 1=>⟨hi97_1,[[],[0],[0,1],[0,1,2],[],.range 5,.range 6],.range 7⟩
  | 3=>⟨hi97_3,[[],[0],[0,1],[0,1,2],[],.range 5,.range 6],.range 7⟩
  | 10=>⟨hi97_10,[[],[0],[0,1],[0,1,2],[],.range 5,.range 6,[]],.range 8⟩
  | 13=>⟨hi97_13,[[],[],[1],[1,2],[1,2,3],[],[],[1,2,3,4,5,6],.range 8,.range 9,.range 10,.range 10,.range 11,.range 13],[0,1,2,3,4,5,6,7,8,9,10,12,11,13]⟩
  | _=>⟨.nil,[],[]⟩
@[go_sem] theorem Zs (i:Nat):hi97.acts i=[]:=rfl
theorem VB (i:Nat):hi97.views i=none:=rfl
attribute [go_sem] VB Tryz.ntmps97 Tryz.results97
@[go_sem] theorem YM:(hi97.draws 1).order=hi97_1:=rfl
@[go_sem] theorem YN:(hi97.draws 3).order=hi97_3:=rfl
@[go_sem] theorem XU:(hi97.draws 10).order=hi97_10:=rfl
@[go_sem] theorem XV:(hi97.draws 13).order=hi97_13:=rfl
theorem wa {rec:GShow→(List (ByteArray × Bool))→GState→Option (Bool × (List (ByteArray × Bool)))}(hrec:∀ {g_s:GShow} {g_known:List (ByteArray × Bool)} {v1:GState} {res:Bool × (List (ByteArray × Bool))},rec g_s g_known v1=some res→al Tryz.prog 97 [.ptr 10000 0 0 0,.agg (GState.encS v1)] [(10000,0,.var [.sl (ab GNode.encS g_s.nodes),.sl (ab GTie.enc g_s.ties),.lit (.int .i64 g_s.horizon),.mp 10001 0]),(10001,0,.map (eM g_known))] (.lit (.bool res.1)) [(10000,0,.var [.sl (ab GNode.encS g_s.nodes),.sl (ab GTie.enc g_s.ties),.lit (.int .i64 g_s.horizon),.mp 10001 0]),(10001,0,.map (eM res.2))]){g_s:GShow}{g_known:List (ByteArray × Bool)}{v1:GState}{res:Bool × (List (ByteArray × Bool))}(h:gE rec g_s g_known v1=some res):al Tryz.prog 97 [.ptr 10000 0 0 0,.agg (GState.encS v1)] [(10000,0,.var [.sl (ab GNode.encS g_s.nodes),.sl (ab GTie.enc g_s.ties),.lit (.int .i64 g_s.horizon),.mp 10001 0]),(10001,0,.map (eM g_known))] (.lit (.bool res.1)) [(10000,0,.var [.sl (ab GNode.encS g_s.nodes),.sl (ab GTie.enc g_s.ties),.lit (.int .i64 g_s.horizon),.mp 10001 0]),(10001,0,.map (eM res.2))]:=by
 refine ai (ra:=[]) (md:=mdT) hT (hi:=hi97) Tryz.func97 rfl rfl (by decide +kernel) (by simp) ?_
 unfold gE at h
 obtain ⟨r01,g1,h⟩:=ae h
 simp(config:=cS)only[go_sem]
 refine ag (oD g1) ?_
 obtain ⟨h2,h⟩|⟨h2,h⟩:=af h
 ·cases h
  simp(config:=cS)only[go_sem,eZt h2]
 ·obtain ⟨r02,g3,h⟩:=ae h
  simp(config:=cS)only[go_sem,eZf h2]
  refine ag (lX g3) ?_
  obtain ⟨h4,h⟩|⟨h4,h⟩:=af h
  ·cases h
   simp(config:=cS)only[go_sem,eZt h4]
  ·obtain ⟨r03,g5,h⟩:=ae h
   simp(config:=cS)only[go_sem,eZf h4]
   refine ag (KO g5) ?_
   obtain ⟨x04,g6,h8⟩|⟨g7,h8⟩:=Kd h
   ·cases h8
    simp(config:=cS)only[go_sem,g6]
   ·obtain ⟨r05,g9,h8⟩:=ae h8
    simp(config:=cS)only[go_sem,g7]
    refine ag (lW g9) ?_
    obtain ⟨q09,l10,h8⟩:=ae h8
    simp(config:=cS)only[go_sem]
    refine ar (m1:=.mk) (m2:=.mk) [.freeze [2880],.nf [0,3,5,8,45,46,47] [10000,10001,192,2880]] (mI r03 ((r05.length:Nat):Int) v1.now v1.times v1.values r05 g_s.nodes g_s.ties g_s.horizon) l10 ?_ ?_
    ·simp(config:=cS)only[go_sem]
    ·intro nb11 sb11 bb11 b11 gb11
     obtain ⟨v47_1,h10001_1⟩:=sb11
     unfold fO at b11
     try dsimp only at b11
     obtain ⟨h12,b11⟩|⟨h12,b11⟩:=af b11
     ·obtain ⟨x06,g13,b11⟩:=ae b11
      obtain ⟨h14,h15,h16⟩:=ak g13
      obtain ⟨r07,g17,b11⟩:=ae b11
      simp(config:=cS)only[go_sem,eqT h12,h14,h15,h16]
      refine ag (oA g17) ?_
      obtain ⟨r08,g18,b11⟩:=ae b11
      simp(config:=cS)only[go_sem]
      refine ag (ph @hrec g18) ?_
      obtain ⟨h19,b11⟩|⟨h19,b11⟩:=af b11
      ·cases b11
       simp(config:=cS)only[go_sem,eZt h19]
       refine au gb11 ?_
       simp(config:=cS)only[go_sem]
      ·cases b11
       obtain rfl:=(aj gb11).symm
       try dsimp only at h8
       cases h8
       simp(config:=cS)only[go_sem,eZf h19]
     ·cases b11
      obtain rfl:=(aj gb11).symm
      try dsimp only at h8
      cases h8
      simp(config:=cS)only[go_sem,eqF h12]
theorem tw (fu:Nat):∀ {g_s:GShow} {g_known:List (ByteArray × Bool)} {v1:GState} {res:Bool × (List (ByteArray × Bool))},gQ fu g_s g_known v1=some res→al Tryz.prog 97 [.ptr 10000 0 0 0,.agg (GState.encS v1)] [(10000,0,.var [.sl (ab GNode.encS g_s.nodes),.sl (ab GTie.enc g_s.ties),.lit (.int .i64 g_s.horizon),.mp 10001 0]),(10001,0,.map (eM g_known))] (.lit (.bool res.1)) [(10000,0,.var [.sl (ab GNode.encS g_s.nodes),.sl (ab GTie.enc g_s.ties),.lit (.int .i64 g_s.horizon),.mp 10001 0]),(10001,0,.map (eM res.2))]:=by
 induction fu with
 | zero=>intro _ _ _ _ h;cases h
 | succ fu ih=>intro _ _ _ _ h;exact wa (@ih) h
theorem mZ {g_s:GShow}{g_known:List (ByteArray × Bool)}{v1:GState}{res:Bool × (List (ByteArray × Bool))}(h:m_impl_game_wins g_s g_known v1=some res):al Tryz.prog 97 [.ptr 10000 0 0 0,.agg (GState.encS v1)] [(10000,0,.var [.sl (ab GNode.encS g_s.nodes),.sl (ab GTie.enc g_s.ties),.lit (.int .i64 g_s.horizon),.mp 10001 0]),(10001,0,.map (eM g_known))] (.lit (.bool res.1)) [(10000,0,.var [.sl (ab GNode.encS g_s.nodes),.sl (ab GTie.enc g_s.ties),.lit (.int .i64 g_s.horizon),.mp 10001 0]),(10001,0,.map (eM res.2))]:=tw 40 h
theorem wb {g_s:GShow}{g_known:List (ByteArray × Bool)}{v1:GState}{nodes:List Int}{res:Bool × (List (ByteArray × Bool))}(h:lI g_s g_known v1 nodes=some res):al Tryz.prog 242 [.ptr 10000 0 0 0,.agg (GState.encS v1),.sl (ab eI nodes)] [(10000,0,.var [.sl (ab GNode.encS g_s.nodes),.sl (ab GTie.enc g_s.ties),.lit (.int .i64 g_s.horizon),.mp 10001 0]),(10001,0,.map (eM g_known))] (.lit (.bool res.1)) [(10000,0,.var [.sl (ab GNode.encS g_s.nodes),.sl (ab GTie.enc g_s.ties),.lit (.int .i64 g_s.horizon),.mp 10001 0]),(10001,0,.map (eM res.2))]:=oE (@mZ) h
theorem xY {g_s:GShow}{g_known:List (ByteArray × Bool)}{v1:GState}{res:(List Int) × Bool × (List (ByteArray × Bool))}(h:mt g_s g_known v1=some res):al Tryz.prog 163 [.ptr 10000 0 0 0,.agg (GState.encS v1)] [(10000,0,.var [.sl (ab GNode.encS g_s.nodes),.sl (ab GTie.enc g_s.ties),.lit (.int .i64 g_s.horizon),.mp 10001 0]),(10001,0,.map (eM g_known))] (.tup [.sl (ab eI res.1),.lit (.bool res.2.1)]) [(10000,0,.var [.sl (ab GNode.encS g_s.nodes),.sl (ab GTie.enc g_s.ties),.lit (.int .i64 g_s.horizon),.mp 10001 0]),(10001,0,.map (eM res.2.2))]:=ph (@mZ) h
attribute [go_sem] Tryz.ntmps244 Tryz.results244
theorem pi {nodes:List Int}{g_s:GShow}{g_known:List (ByteArray × Bool)}{v2:GState}{res:Bool × (List (ByteArray × Bool))}(h:dS nodes g_s g_known v2=some res):al Tryz.prog 244 [.sl (ab eI nodes),.ptr 10000 0 0 0,.ptr 10003 0 0 0] [(10000,0,.var [.ptr 10001 0 0 0]),(10001,0,.var [.sl (ab GNode.encS g_s.nodes),.sl (ab GTie.enc g_s.ties),.lit (.int .i64 g_s.horizon),.mp 10002 0]),(10002,0,.map (eM g_known)),(10003,0,.var [.lit (.int .i64 v2.now),.sl (ab eI v2.times),.sl (ab eI v2.values)])] (.lit (.bool res.1)) [(10000,0,.var [.ptr 10001 0 0 0]),(10001,0,.var [.sl (ab GNode.encS g_s.nodes),.sl (ab GTie.enc g_s.ties),.lit (.int .i64 g_s.horizon),.mp 10002 0]),(10002,0,.map (eM res.2)),(10003,0,.var [.lit (.int .i64 v2.now),.sl (ab eI v2.times),.sl (ab eI v2.values)])]:=by
 refine ai (ra:=[]) (md:=mdT) hT (hi:=hi00) Tryz.func244 rfl rfl (by decide +kernel) (by simp) ?_
 unfold dS at h
 obtain ⟨r01,g1,h⟩:=ae h
 simp(config:=cS)only[go_sem]
 refine ag (wb g1) ?_
 cases h
 simp(config:=cS)only[go_sem]
def cX (h:Bool)(j:Int)(i:List (List Int))(a:List GNode)(b:List GTie)(c d:Int)(e f:List Int):(Int × (List (ByteArray × Bool)))→St
 | (k,g)=>⟨[(0,.ref 10000 0 0 i.length),(1,.fn 244 [.ptr 10001 0 0 0,.ptr 10004 0 0 0]),(7,.lit (.int .i64 j)),(8,.lit (.int .i64 k))],[(10000,0,.row h (ab (eLS eI) i)),(10001,0,.var [.ptr 10002 0 0 0]),(10002,0,.var [.sl (ab GNode.encS a),.sl (ab GTie.enc b),.lit (.int .i64 c),.mp 10003 0]),(10003,0,.map (eM g)),(10004,0,.var [.lit (.int .i64 d),.sl (ab eI e),.sl (ab eI f)])],2⟩
attribute [go_sem] cX
attribute [go_sem] Tryz.ntmps289 Tryz.results289
theorem jF {v0:List (List Int)}{g_s:GShow}{g_known:List (ByteArray × Bool)}{cap1:GState}{zb0:Bool}{res:Int × (List (List Int)) × (List (ByteArray × Bool))}(h:bi v0 g_s g_known cap1=some res):al Tryz.prog 289 [.ref 10000 0 0 v0.length,.fn 244 [.ptr 10001 0 0 0,.ptr 10004 0 0 0]] [(10000,0,.row zb0 (ab (eLS eI) v0)),(10001,0,.var [.ptr 10002 0 0 0]),(10002,0,.var [.sl (ab GNode.encS g_s.nodes),.sl (ab GTie.enc g_s.ties),.lit (.int .i64 g_s.horizon),.mp 10003 0]),(10003,0,.map (eM g_known)),(10004,0,.var [.lit (.int .i64 cap1.now),.sl (ab eI cap1.times),.sl (ab eI cap1.values)])] (.lit (.int .i64 res.1)) [(10000,0,.row zb0 (ab (eLS eI) res.2.1)),(10001,0,.var [.ptr 10002 0 0 0]),(10002,0,.var [.sl (ab GNode.encS g_s.nodes),.sl (ab GTie.enc g_s.ties),.lit (.int .i64 g_s.horizon),.mp 10003 0]),(10003,0,.map (eM res.2.2)),(10004,0,.var [.lit (.int .i64 cap1.now),.sl (ab eI cap1.times),.sl (ab eI cap1.values)])]:=by
 refine ai (ra:=[]) (md:=mdT) hT (hi:=hi00) Tryz.func289 rfl rfl (by decide +kernel) (by simp) ?_
 unfold bi at h
 obtain ⟨q03,l1,h⟩:=ae h
 simp(config:=cS)only[go_sem]
 refine ar (m1:=.mk) (m2:=.mk) [.nf [0,1,7,8] [10000,10001,10002,10003,10004]] (cX zb0 ((v0.length:Nat):Int) v0 g_s.nodes g_s.ties g_s.horizon cap1.now cap1.times cap1.values) l1 ?_ ?_
 ·simp(config:=cS)only[go_sem]
 ·intro nb2 sb2 bb2 b2 gb2
  obtain ⟨v8_1,h10003_1⟩:=sb2
  unfold bc at b2
  try dsimp only at b2
  obtain ⟨h3,b2⟩|⟨h3,b2⟩:=af b2
  ·obtain ⟨x01,g4,b2⟩:=ae b2
   obtain ⟨h5,h6,h7⟩:=ak g4
   obtain ⟨r02,g8,b2⟩:=ae b2
   simp(config:=cS)only[go_sem,eqT h3,h5,h6,h7]
   refine ag (pi g8) ?_
   obtain ⟨h9,b2⟩|⟨h9,b2⟩:=af b2
   ·cases b2
    obtain rfl:=(aj gb2).symm
    try dsimp only at h
    cases h
    simp(config:=cS)only[go_sem,eZt h9]
   ·cases b2
    simp(config:=cS)only[go_sem,eZf h9]
    refine au gb2 ?_
    simp(config:=cS)only[go_sem]
  ·cases b2
   obtain rfl:=(aj gb2).symm
   try dsimp only at h
   cases h
   simp(config:=cS)only[go_sem,eqF h3]
def cV (i:Bool)(h:Nat)(a:List GNode)(b:List GTie)(c d:Int)(e f:List Int):(Int × Int × (List (List Int)) × (List (ByteArray × Bool)))→St
 | (j,k,l,g)=>⟨[(0,.ref 10000 0 0 h),(1,.fn 244 [.ptr 10001 0 0 0,.ptr 10004 0 0 0]),(5,.lit (.int .i64 j)),(6,.lit (.int .i64 k))],[(10000,0,.row i (ab (eLS eI) l)),(10001,0,.var [.ptr 10002 0 0 0]),(10002,0,.var [.sl (ab GNode.encS a),.sl (ab GTie.enc b),.lit (.int .i64 c),.mp 10003 0]),(10003,0,.map (eM g)),(10004,0,.var [.lit (.int .i64 d),.sl (ab eI e),.sl (ab eI f)])],2⟩
attribute [go_sem] cV
def cE:Hint where
 acts:=fun i=>match i with | 0=>[.frIn 10000] | _=>[]
 draws:=fun
  | _=>⟨.nil,[],[]⟩
@[go_sem] theorem Tu:cE.acts 0=[.frIn 10000]:=rfl
@[go_sem] theorem Tv:cE.acts 1=[]:=rfl
@[go_sem] theorem Tw:cE.acts 2=[]:=rfl
@[go_sem] theorem Tx:cE.acts 3=[]:=rfl
@[go_sem] theorem Tz:cE.acts 4=[]:=rfl
@[go_sem] theorem TA:cE.acts 5=[]:=rfl
@[go_sem] theorem TB:cE.acts 7=[]:=rfl
@[go_sem] theorem TC:cE.acts 8=[]:=rfl
@[go_sem] theorem TD:cE.acts 9=[]:=rfl
@[go_sem] theorem QT:cE.acts 10=[]:=rfl
@[go_sem] theorem TE:cE.acts 6=[]:=rfl
@[go_sem] theorem QU:cE.acts 11=[]:=rfl
@[go_sem] theorem QV:cE.acts 12=[]:=rfl
theorem IS (i:Nat):cE.views i=none:=rfl
attribute [go_sem] IS Tryz.ntmps243 Tryz.results243
theorem jw {v0:List (List Int)}{g_s:GShow}{g_known:List (ByteArray × Bool)}{cap1:GState}{zb0:Bool}{res:(List (List Int)) × (List (ByteArray × Bool))}(h:bh v0 g_s g_known cap1=some res):al Tryz.prog 243 [.ref 10000 0 0 v0.length,.fn 244 [.ptr 10001 0 0 0,.ptr 10004 0 0 0]] [(10000,0,.row zb0 (ab (eLO eI) v0)),(10001,0,.var [.ptr 10002 0 0 0]),(10002,0,.var [.sl (ab GNode.encS g_s.nodes),.sl (ab GTie.enc g_s.ties),.lit (.int .i64 g_s.horizon),.mp 10003 0]),(10003,0,.map (eM g_known)),(10004,0,.var [.lit (.int .i64 cap1.now),.sl (ab eI cap1.times),.sl (ab eI cap1.values)])] (.ref 10000 0 0 res.1.length) [(10000,0,.row false (ab (eLS eI) res.1)),(10001,0,.var [.ptr 10002 0 0 0]),(10002,0,.var [.sl (ab GNode.encS g_s.nodes),.sl (ab GTie.enc g_s.ties),.lit (.int .i64 g_s.horizon),.mp 10003 0]),(10003,0,.map (eM res.2)),(10004,0,.var [.lit (.int .i64 cap1.now),.sl (ab eI cap1.times),.sl (ab eI cap1.values)])]:=by
 refine ai (ra:=[.home 4,.trim 4]) (md:=mdT) hT (hi:=cE) Tryz.func243 rfl rfl (by decide +kernel) (by simp) ?_
 unfold bh at h
 obtain ⟨r01,g1,h⟩:=ae h
 simp(config:=cS)only[go_sem]
 refine ag (jF g1) ?_
 obtain ⟨h2,h⟩|⟨h2,h⟩:=af h
 ·obtain ⟨h3,h⟩:=am h
  cases h
  simp(config:=cS)only[go_sem,eqT h2,eqT h3]
 ·obtain ⟨q05,l4,h⟩:=ae h
  simp(config:=cS)only[go_sem,eqF h2]
  refine ar (m1:=.mk) (m2:=.mk) [.nf [0,1,5,6] [10000,10001,10002,10003,10004]] (cV zb0 v0.length g_s.nodes g_s.ties g_s.horizon cap1.now cap1.times cap1.values) l4 ?_ ?_
  ·simp(config:=cS)only[go_sem]
  ·intro nb5 sb5 bb5 b5 gb5
   obtain ⟨v5_1,v6_1,v0_1,h10003_1⟩:=sb5
   unfold bb at b5
   try dsimp only at b5
   obtain ⟨h6,b5⟩|⟨h6,b5⟩:=af b5
   ·obtain ⟨h7,b5⟩:=am b5
    obtain ⟨x02,g8,b5⟩:=ae b5
    obtain ⟨h9,h10,h11⟩:=ak g8
    obtain ⟨r03,g12,b5⟩:=ae b5
    simp(config:=cS)only[go_sem,eqT h6,eqT h7,h9,h10,h11]
    refine ag (pi g12) ?_
    obtain ⟨h13,b5⟩|⟨h13,b5⟩:=af b5
    ·cases b5
     simp(config:=cS)only[go_sem,eZt h13]
     refine au gb5 ?_
     simp(config:=cS)only[go_sem]
    ·obtain ⟨h14,b5⟩:=am b5
     obtain ⟨x04,g15,b5⟩:=ae b5
     obtain ⟨h16,h17,h18⟩:=ak g15
     cases b5
     simp(config:=cS)only[go_sem,eZf h13,eqT h14,h16,h17,h18]
     refine au gb5 ?_
     simp(config:=cS)only[go_sem]
   ·cases b5
    obtain rfl:=(aj gb5).symm
    try dsimp only at h
    obtain ⟨h20,h⟩:=am h
    obtain ⟨h21,h⟩:=am h
    obtain ⟨h22,h⟩:=am h
    obtain ⟨h23,h⟩:=am h
    obtain ⟨h24,h⟩:=am h
    obtain ⟨h25,h⟩:=am h
    cases h
    simp(config:=cS)only[go_sem,eqF h6,eqT h20,eqT h21,eqT h22,eqT h23,eqT h24,eqT h25]
@[go_sem] def hi165_1:DT:=.i2 0 (.i2 1 (.i2 2 (.i2 3 (.i2 4 (.i2 6 (.i2 5 (.i2 7 (.i2 8 .nil))))))))
def GH:Hint where
 acts:=fun _=>[]
 draws:=fun
  | 1=>⟨hi165_1,[[],[0],[0,1],[0,1,2],[],.range 5,[],.range 7,.range 8],.range 9⟩
  | _=>⟨.nil,[],[]⟩
theorem TF (i:Nat):GH.acts i=[]:=rfl
theorem TG (i:Nat):GH.views i=none:=rfl
attribute [go_sem] TF TG Tryz.ntmps165 Tryz.results165
@[go_sem] theorem XW:(GH.draws 1).order=hi165_1:=rfl
theorem zS {g_s:GShow}{g_known:List (ByteArray × Bool)}{v1:GState}{res:(List (List Int)) × (List (ByteArray × Bool))}(h:iH g_s g_known v1=some res):al Tryz.prog 165 [.ptr 10000 0 0 0,.agg (GState.encS v1)] [(10000,0,.var [.sl (ab GNode.encS g_s.nodes),.sl (ab GTie.enc g_s.ties),.lit (.int .i64 g_s.horizon),.mp 10001 0]),(10001,0,.map (eM g_known))] (.ref 20000 1 0 res.1.length) [(10000,0,.var [.sl (ab GNode.encS g_s.nodes),.sl (ab GTie.enc g_s.ties),.lit (.int .i64 g_s.horizon),.mp 10001 0]),(10001,0,.map (eM res.2)),(20000,1,.row false (ab (eLS eI) res.1))]:=by
 refine ai (ra:=[.home 4,.trim 4]) (md:=mdT) hT (hi:=GH) Tryz.func165 rfl rfl (by decide +kernel) (by simp) ?_
 unfold iH at h
 obtain ⟨r01,g1,h⟩:=ae h
 simp(config:=cS)only[go_sem]
 refine ag (mY g1) ?_
 obtain ⟨r02,g2,h⟩:=ae h
 simp(config:=cS)only[go_sem]
 refine ag (jw g2) ?_
 cases h
 simp(config:=cS)only[go_sem]
attribute [go_sem] Tryz.ntmps164 Tryz.results164
theorem Hv {list:List (List Int)}{lazy:Bool}{res:(List Int) × Bool}(h:lJ list lazy=some res):al Tryz.prog 164 [.sl (ab (eLS eI) list),.lit (.bool lazy)] [] (.tup [.sl (ab eI res.1),.lit (.bool res.2)]) []:=by
 refine ai (ra:=[.nilSl 4]) (md:=mdT) hT (hi:=hi00) Tryz.func164 rfl rfl (by decide +kernel) (by simp) ?_
 unfold lJ at h
 obtain ⟨h1,h⟩|⟨h1,h⟩:=af h
 ·cases h
  simp(config:=cS)only[go_sem,eqT h1]
 ·obtain ⟨h2,h⟩|⟨h2,h⟩:=af h
  ·obtain ⟨x01,g3,h⟩:=ae h
   obtain ⟨h4,h5,h6⟩:=ak g3
   cases h
   simp(config:=cS)only[go_sem,eqF h1,eZt h2,h4,h5,h6]
  ·obtain ⟨x02,g7,h⟩:=ae h
   obtain ⟨h9,h10⟩:=dg (k:=0) g7
   cases h
   simp(config:=cS)only[go_sem,eqF h1,eZf h2,h9,h10]
attribute [go_sem] Tryz.ntmps162 Tryz.results162
theorem qd {g_s:GShow}{g_known:List (ByteArray × Bool)}{v1:GState}{d:GDesk}{res:(List Int) × Bool × (List (ByteArray × Bool))}(h:gF g_s g_known v1 d=some res):al Tryz.prog 162 [.ptr 10000 0 0 0,.agg (GState.encS v1),.loc [.sl (ab GNode.encS d.show_.nodes),.sl (ab GTie.enc d.show_.ties),.lit (.int .i64 d.show_.horizon),.lit (.int .i64 d.state.now),.sl (ab eI d.state.times),.sl (ab eI d.state.values),.lit (.bool d.lazy),.sl (ab aw.encS d.log)]] [(10000,0,.var [.sl (ab GNode.encS g_s.nodes),.sl (ab GTie.enc g_s.ties),.lit (.int .i64 g_s.horizon),.mp 10001 0]),(10001,0,.map (eM g_known))] (.tup [.sl (ab eI res.1),.lit (.bool res.2.1)]) [(10000,0,.var [.sl (ab GNode.encS g_s.nodes),.sl (ab GTie.enc g_s.ties),.lit (.int .i64 g_s.horizon),.mp 10001 0]),(10001,0,.map (eM res.2.2))]:=by
 refine ai (ra:=[.home 5]) (md:=mdT) hT (hi:=hi00) Tryz.func162 rfl rfl (by decide +kernel) (by simp) ?_
 unfold gF at h
 obtain ⟨h1,h⟩|⟨h1,h⟩:=af h
 ·obtain ⟨r01,g2,h⟩:=ae h
  simp(config:=cS)only[go_sem,eZt h1]
  refine ag (zS g2) ?_
  obtain ⟨r02,g3,h⟩:=ae h
  simp(config:=cS)only[go_sem]
  refine ag (Hv g3) ?_
  cases h
  simp(config:=cS)only[go_sem]
 ·obtain ⟨r03,g4,h⟩:=ae h
  simp(config:=cS)only[go_sem,eZf h1]
  refine ag (xY g4) ?_
  cases h
  simp(config:=cS)only[go_sem]
def nG (a d:List Int)(e:Int):(Int × (List Int))→St
 | (c,b)=>⟨[(1,.sl (ab eI a)),(5,.ref 383 1 0 b.length),(8,.sl (ab eI d)),(9,.lit (.int .i64 e)),(10,.lit (.int .i64 c))],[(383,1,.row true (ab eI b))],2⟩
attribute [go_sem] nG
attribute [go_sem] Tryz.ntmps241 Tryz.results241
theorem si {props values res:List Int}(h:jp props values=some res):al Tryz.prog 241 [.sl (ab eI props),.sl (ab eI values)] [] (.ref 20000 1 0 res.length) [(20000,1,.row true (ab eI res))]:=by
 refine ai (ra:=[.home 4]) (md:=mdT) hT (hi:=hi00) Tryz.func241 rfl rfl (by decide +kernel) (by simp) ?_
 unfold jp at h
 obtain ⟨q03,l1,h⟩:=ae h
 simp(config:=cS)only[go_sem]
 refine ar (m1:=.mk) (m2:=.mk) [.home 5,.nf [1,5,8,9,10] [383]] (nG values props ((props.length:Nat):Int)) l1 ?_ ?_
 ·simp(config:=cS)only[go_sem]
 ·intro nb2 sb2 bb2 b2 gb2
  obtain ⟨v10_1,out_1⟩:=sb2
  unfold gG at b2
  try dsimp only at b2
  obtain ⟨h3,b2⟩|⟨h3,b2⟩:=af b2
  ·obtain ⟨x01,g4,b2⟩:=ae b2
   obtain ⟨h5,h6,h7⟩:=ak g4
   obtain ⟨x02,g8,b2⟩:=ae b2
   obtain ⟨h9,h10,h11⟩:=ak g8
   obtain ⟨h12,b2⟩:=am b2
   obtain ⟨h13,b2⟩:=am b2
   cases b2
   simp(config:=cS)only[go_sem,eqT h3,h5,h6,h7,h9,h10,h11,eqT h12,eqT h13]
   refine au gb2 ?_
   simp(config:=cS)only[go_sem]
  ·cases b2
   obtain rfl:=(aj gb2).symm
   try dsimp only at h
   cases h
   simp(config:=cS)only[go_sem,eqF h3]
def cv (s h l:List Int)(t m n:Int)(o:Bool)(p:Int)(q r:List Int)(i:Int)(a:List GNode)(b:List GTie)(c d:List Int)(e:List aw)(f g j:List Int):(Int × (List Int))→St
 | (u,k)=>⟨[(1,.sl (ab eI s)),(2,.sl (ab eI h)),(10,.ptr 640 1 0 0),(13,.ptr 832 1 0 0),(15,.ptr 960 1 0 0),(17,.sl (ab eI l)),(19,.ptr 1216 1 0 0),(20,.ref 5506 1 0 j.length),(21,.ref 1407 1 0 k.length),(89,.ref 5506 1 0 j.length),(90,.lit (.int .i64 t)),(91,.lit (.int .i64 u))],[(640,1,.var [.lit (.slice none 0 0),.lit (.slice none 0 0),.lit (.int .i64 0),.lit (.int .i64 0),.lit (.slice none 0 0),.lit (.slice none 0 0),.lit (.bool false),.lit (.slice none 0 0)]),(832,1,.var [.ref 1600 1 0 a.length,.ref 1601 1 0 b.length,.lit (.int .i64 m),.lit (.int .i64 n),.ref 1602 1 0 c.length,.ref 1603 1 0 d.length,.lit (.bool o),.ref 1604 1 0 e.length]),(1600,1,.row true (ab GNode.encO a)),(1601,1,.row true (ab GTie.enc b)),(1602,1,.row true (ab eI c)),(1603,1,.row true (ab eI d)),(1604,1,.row true (ab aw.encO e)),(960,1,.var [.lit (.int .i64 p),.sl (ab eI q),.sl (ab eI r)]),(1216,1,.var [.lit (.int .i64 i),.ref 5504 1 0 f.length,.ref 5505 1 0 g.length]),(5504,1,.row true (ab eI f)),(5505,1,.row true (ab eI g)),(5506,1,.row true (ab eI j)),(1407,1,.row true (ab eI k))],2⟩
attribute [go_sem] cv
@[go_sem] def hi161_s162_22:DT:=.i1 0 (.i2 1 (.i0 2 [0] (.i2 3 (.i2 4 (.i2 5 .nil)))))
@[go_sem] def hi161_s162_21:DT:=.i1 0 (.i1 1 (.i1 2 (.i1 3 (.i2 4 (.i2 6 (.i2 8 (.i2 9 (.i0 5 [0,1,2,3] (.i0 7 [0,1,2,3] (.i0 10 [0,1,2,3] (.i2 11 (.i0 12 [0,1] (.i2 13 (.i2 14 (.i2 15 .nil)))))))))))))))
@[go_sem] def hi161_s162_10:DT:=.i2 0 (.i2 1 (.i1 3 (.i0 2 [3] (.i2 4 (.i2 5 (.i2 6 (.i2 7 (.i2 8 (.i2 9 .nil)))))))))
@[go_sem] def hi161_s162_4:DT:=.i1 0 (.i1 1 (.i1 2 (.i1 3 (.fork (.i0 4 [0,1,2,3] (.i0 5 [0,1,2,3] (.i0 6 [2,3] (.i2 7 .nil)))) (.i0 5 [0,1,2,3] (.i0 4 [0,1,2,3] (.i0 6 [2,3] (.i2 7 .nil))))))))
def kE:Hint where
 acts:=fun _=>[]
 draws:=fun
  | 4=>⟨hi161_s162_4,[[],[0],[],[2],[],[],[0,1,4,5],.range 7],[0,1,5,6,2,3,4,7]⟩
  | 10=>⟨hi161_s162_10,[[],[],[1],[],[0,1,2,3],.range 5,.range 6,.range 6,.range 7,.range 9],[0,1,2,3,4,5,6,8,7,9]⟩
  | 21=>⟨hi161_s162_21,[[],[0],[],[2],[],[4],[],[4,5,6],[],[],[4,5,6,7,8,9],[2,3,4,5,6,7,8,9,10],[2,3,4,5,6,7,8,9,10,11],.range 13,.range 14,.range 15],.range 16⟩
  | 22=>⟨hi161_s162_22,[[],[],[1],[0,1,2],[0,1,2,3],.range 5],.range 6⟩
  | _=>⟨.nil,[],[]⟩
theorem IT (i:Nat):kE.acts i=[]:=rfl
theorem IU (i:Nat):kE.views i=none:=rfl
attribute [go_sem] IT IU Tryz.ntmps161 Tryz.results161
@[go_sem] theorem TH:(kE.draws 4).order=hi161_s162_4:=rfl
@[go_sem] theorem QW:(kE.draws 10).order=hi161_s162_10:=rfl
@[go_sem] theorem QX:(kE.draws 21).order=hi161_s162_21:=rfl
@[go_sem] theorem QY:(kE.draws 22).order=hi161_s162_22:=rfl
theorem lY {d:GDesk}{ties values:List Int}{refused:Int}{d':GDesk}{res:GDesk × (List Int) × Int}(h:bH d ties values refused d'=some res):al Tryz.prog 161 [.agg (GDesk.encS d),.sl (ab eI ties),.sl (ab eI values),.lit (.int .i64 refused),.fn 162 [.loc [.sl (ab GNode.encS d'.show_.nodes),.sl (ab GTie.enc d'.show_.ties),.lit (.int .i64 d'.show_.horizon),.lit (.int .i64 d'.state.now),.sl (ab eI d'.state.times),.sl (ab eI d'.state.values),.lit (.bool d'.lazy),.sl (ab aw.encS d'.log)]]] [] (.tup [.agg [.ref 20000 1 0 res.1.show_.nodes.length,.ref 20001 1 0 res.1.show_.ties.length,.lit (.int .i64 res.1.show_.horizon),.lit (.int .i64 res.1.state.now),.ref 20002 1 0 res.1.state.times.length,.ref 20003 1 0 res.1.state.values.length,.lit (.bool res.1.lazy),.ref 20004 1 0 res.1.log.length],.ref 20005 1 0 res.2.1.length,.lit (.int .i64 res.2.2)]) [(20000,1,.row true (ab GNode.encO res.1.show_.nodes)),(20001,1,.row true (ab GTie.enc res.1.show_.ties)),(20002,1,.row true (ab eI res.1.state.times)),(20003,1,.row true (ab eI res.1.state.values)),(20004,1,.row true (ab aw.encO res.1.log)),(20005,1,.row true (ab eI res.2.1))]:=by
 refine ai (ra:=[.homeCell 640 0,.homeCell 640 1,.homeCell 640 4,.homeCell 640 5,.homeCell 640 7,.home 11]) (md:=mdT) hT (hi:=kE) Tryz.func161 rfl rfl (by decide +kernel) (by simp) ?_
 unfold bH at h
 obtain ⟨r01,g1,h⟩:=ae h
 simp(config:=cS)only[go_sem]
 refine ag (se g1) ?_
 obtain ⟨r02,g2,h⟩:=ae h
 simp(config:=cS)only[go_sem]
 refine ag (uO g2) ?_
 obtain ⟨h3,h⟩|⟨h3,h⟩:=af h
 ·obtain ⟨h4,h⟩|⟨h4,h⟩:=af h
  ·obtain ⟨r03,g5,h⟩:=ae h
   simp(config:=cS)only[go_sem,eZt h3,eqT h4]
   refine ag (eR (by exact fun _ _ hr=>vd hr) (by refine ⟨fun _=>?_,fun _=>?_⟩ <;> simp only [go_sem]) (fun _=>rfl) rfl g5) ?_
   obtain ⟨h6,h⟩|⟨h6,h⟩:=af h
   ·cases h
    simp(config:=cS)only[go_sem,eZt h3,eqT h4,eZt h6]
   ·try simp(config:=cS)only[go_sem,eZt h3,eqT h4,eZf h6]
    refine eX ?_ ?_
    ·obtain ⟨r04,g7,h⟩:=ae h
     simp(config:=cS)only[go_sem,eZt h3,eqT h4,eZf h6]
     refine ag (oD g7) ?_
     obtain ⟨h8,h⟩|⟨h8,h⟩:=af h
     ·cases h
      simp(config:=cS)only[go_sem,eZt h3,eqT h4,eZf h6,eZt h8]
     ·obtain ⟨r05,g9,h⟩:=ae h
      simp(config:=cS)only[go_sem,eZt h3,eqT h4,eZf h6,eZf h8]
      refine ag (lX g9) ?_
      obtain ⟨h10,h⟩|⟨h10,h⟩:=af h
      ·cases h
       simp(config:=cS)only[go_sem,eZt h3,eqT h4,eZf h6,eZf h8,eZt h10]
      ·obtain ⟨h11,h⟩|⟨h11,h⟩:=af h
       ·cases h
        simp(config:=cS)only[go_sem,eZt h3,eqT h4,eZf h6,eZf h8,eZf h10,eqT h11]
       ·obtain ⟨r06,g12,h⟩:=ae h
        simp(config:=cS)only[go_sem,eZt h3,eqT h4,eZf h6,eZf h8,eZf h10,eqF h11]
        refine ag (lW g12) ?_
        obtain ⟨r07,g13,h⟩:=ae h
        simp(config:=cS)only[go_sem,eZt h3,eqT h4,eZf h6,eZf h8,eZf h10,eqF h11]
        refine ag (qK g13) ?_
        obtain ⟨h14,h⟩|⟨h14,h⟩:=af h
        ·obtain ⟨r08,g15,h⟩:=ae h
         simp(config:=cS)only[go_sem,eZt h3,eqT h4,eZf h6,eZf h8,eZf h10,eqF h11,eZt h14]
         refine ag (oA g15) ?_
         obtain ⟨r09,g16,h⟩:=ae h
         simp(config:=cS)only[go_sem,eZt h3,eqT h4,eZf h6,eZf h8,eZf h10,eqF h11,eZt h14]
         refine ag (pw g16) ?_
         obtain ⟨r10,g17,h⟩:=ae h
         simp(config:=cS)only[go_sem,eZt h3,eqT h4,eZf h6,eZf h8,eZf h10,eqF h11,eZt h14]
         refine ag (qd g17) ?_
         obtain ⟨h18,h⟩|⟨h18,h⟩:=af h
         ·obtain ⟨r11,g19,h⟩:=ae h
          simp(config:=cS)only[go_sem,eZt h3,eqT h4,eZf h6,eZf h8,eZf h10,eqF h11,eZt h14,eZt h18]
          refine ag (jW g19) ?_
          obtain ⟨q19,l20,h⟩:=ae h
          simp(config:=cS)only[go_sem,eZt h3,eqT h4,eZf h6,eZf h8,eZf h10,eqF h11,eZt h14,eZt h18]
          refine ar (m1:=.mk) (m2:=.mk) [.home 21,.nf [1,2,10,13,15,17,19,20,21,89,90,91] [640,832,1600,1601,1602,1603,1604,960,1216,5504,5505,5506,1407]] (cv ties values r10.1 ((r11.2.length:Nat):Int) r01.show_.horizon r01.state.now r01.lazy d.state.now d.state.times d.state.values r11.1.now r01.show_.nodes r01.show_.ties r01.state.times r01.state.values r01.log r11.1.times r11.1.values r11.2) l20 ?_ ?_
          ·simp(config:=cS)only[go_sem,eZt h3,eqT h4,eZf h6,eZf h8,eZf h10,eqF h11,eZt h14,eZt h18]
          ·intro nb21 sb21 bb21 b21 gb21
           obtain ⟨v91_1,seen_1⟩:=sb21
           unfold bg at b21
           try dsimp only at b21
           obtain ⟨h22,b21⟩|⟨h22,b21⟩:=af b21
           ·obtain ⟨x12,g23,b21⟩:=ae b21
            obtain ⟨h24,h25,h26⟩:=ak g23
            obtain ⟨x13,g27,b21⟩:=ae b21
            obtain ⟨h28,h29,h30⟩:=ak g27
            obtain ⟨h31,b21⟩:=am b21
            obtain ⟨h32,b21⟩:=am b21
            cases b21
            simp(config:=cS)only[go_sem,eZt h3,eqT h4,eZf h6,eZf h8,eZf h10,eqF h11,eZt h14,eZt h18,eqT h22,h24,h25,h26,h28,h29,h30,eqT h31,eqT h32]
            refine au gb21 ?_
            simp(config:=cS)only[go_sem,eZt h3,eqT h4,eZf h6,eZf h8,eZf h10,eqF h11,eZt h14,eZt h18,eqT h22,h24,h25,h26,h28,h29,h30,eqT h31,eqT h32]
           ·cases b21
            obtain rfl:=(aj gb21).symm
            try dsimp only at h
            obtain ⟨r14,g34,h⟩:=ae h
            simp(config:=cS)only[go_sem,eZt h3,eqT h4,eZf h6,eZf h8,eZf h10,eqF h11,eZt h14,eZt h18,eqF h22]
            refine ag (jd g34) ?_
            obtain ⟨r15,g35,h⟩:=ae h
            simp(config:=cS)only[go_sem,eZt h3,eqT h4,eZf h6,eZf h8,eZf h10,eqF h11,eZt h14,eZt h18,eqF h22]
            refine ag (bj g35) ?_
            obtain ⟨r16,g36,h⟩:=ae h
            simp(config:=cS)only[go_sem,eZt h3,eqT h4,eZf h6,eZf h8,eZf h10,eqF h11,eZt h14,eZt h18,eqF h22]
            refine ag (bj g36) ?_
            obtain ⟨r17,g37,h⟩:=ae h
            simp(config:=cS)only[go_sem,eZt h3,eqT h4,eZf h6,eZf h8,eZf h10,eqF h11,eZt h14,eZt h18,eqF h22]
            refine ag (si g37) ?_
            obtain ⟨h38,h⟩:=am h
            obtain ⟨h39,h⟩:=am h
            obtain ⟨r18,g40,h⟩:=ae h
            simp(config:=cS)only[go_sem,eZt h3,eqT h4,eZf h6,eZf h8,eZf h10,eqF h11,eZt h14,eZt h18,eqF h22,eqT h38,eqT h39]
            refine ag (bj g40) ?_
            cases h
            simp(config:=cS)only[go_sem,eZt h3,eqT h4,eZf h6,eZf h8,eZf h10,eqF h11,eZt h14,eZt h18,eqF h22,eqT h38,eqT h39]
         ·cases h
          simp(config:=cS)only[go_sem,eZt h3,eqT h4,eZf h6,eZf h8,eZf h10,eqF h11,eZt h14,eZf h18]
        ·cases h
         simp(config:=cS)only[go_sem,eZt h3,eqT h4,eZf h6,eZf h8,eZf h10,eqF h11,eZf h14]
    ·obtain ⟨r20,g41,h⟩:=ae h
     simp(config:=cS)only[go_sem,eZt h3,eqT h4,eZf h6]
     refine ag (oD g41) ?_
     obtain ⟨h42,h⟩|⟨h42,h⟩:=af h
     ·cases h
      simp(config:=cS)only[go_sem,eZt h3,eqT h4,eZf h6,eZt h42]
     ·obtain ⟨r21,g43,h⟩:=ae h
      simp(config:=cS)only[go_sem,eZt h3,eqT h4,eZf h6,eZf h42]
      refine ag (lX g43) ?_
      obtain ⟨h44,h⟩|⟨h44,h⟩:=af h
      ·cases h
       simp(config:=cS)only[go_sem,eZt h3,eqT h4,eZf h6,eZf h42,eZt h44]
      ·obtain ⟨h45,h⟩|⟨h45,h⟩:=af h
       ·cases h
        simp(config:=cS)only[go_sem,eZt h3,eqT h4,eZf h6,eZf h42,eZf h44,eqT h45]
       ·obtain ⟨r22,g46,h⟩:=ae h
        simp(config:=cS)only[go_sem,eZt h3,eqT h4,eZf h6,eZf h42,eZf h44,eqF h45]
        refine ag (lW g46) ?_
        obtain ⟨r23,g47,h⟩:=ae h
        simp(config:=cS)only[go_sem,eZt h3,eqT h4,eZf h6,eZf h42,eZf h44,eqF h45]
        refine ag (qK g47) ?_
        obtain ⟨h48,h⟩|⟨h48,h⟩:=af h
        ·obtain ⟨r24,g49,h⟩:=ae h
         simp(config:=cS)only[go_sem,eZt h3,eqT h4,eZf h6,eZf h42,eZf h44,eqF h45,eZt h48]
         refine ag (oA g49) ?_
         obtain ⟨r25,g50,h⟩:=ae h
         simp(config:=cS)only[go_sem,eZt h3,eqT h4,eZf h6,eZf h42,eZf h44,eqF h45,eZt h48]
         refine ag (pw g50) ?_
         obtain ⟨r26,g51,h⟩:=ae h
         simp(config:=cS)only[go_sem,eZt h3,eqT h4,eZf h6,eZf h42,eZf h44,eqF h45,eZt h48]
         refine ag (qd g51) ?_
         obtain ⟨h52,h⟩|⟨h52,h⟩:=af h
         ·obtain ⟨r27,g53,h⟩:=ae h
          simp(config:=cS)only[go_sem,eZt h3,eqT h4,eZf h6,eZf h42,eZf h44,eqF h45,eZt h48,eZt h52]
          refine ag (jW g53) ?_
          obtain ⟨q35,l54,h⟩:=ae h
          simp(config:=cS)only[go_sem,eZt h3,eqT h4,eZf h6,eZf h42,eZf h44,eqF h45,eZt h48,eZt h52]
          refine ar (m1:=.mk) (m2:=.mk) [.home 21,.nf [1,2,10,13,15,17,19,20,21,89,90,91] [640,832,1600,1601,1602,1603,1604,960,1216,5504,5505,5506,1407]] (cv ties values r26.1 ((r27.2.length:Nat):Int) r01.show_.horizon r01.state.now r01.lazy d.state.now d.state.times d.state.values r27.1.now r01.show_.nodes r01.show_.ties r01.state.times r01.state.values r01.log r27.1.times r27.1.values r27.2) l54 ?_ ?_
          ·simp(config:=cS)only[go_sem,eZt h3,eqT h4,eZf h6,eZf h42,eZf h44,eqF h45,eZt h48,eZt h52]
          ·intro nb55 sb55 bb55 b55 gb55
           obtain ⟨v91_2,seen_2⟩:=sb55
           unfold bg at b55
           try dsimp only at b55
           obtain ⟨h56,b55⟩|⟨h56,b55⟩:=af b55
           ·obtain ⟨x28,g57,b55⟩:=ae b55
            obtain ⟨h58,h59,h60⟩:=ak g57
            obtain ⟨x29,g61,b55⟩:=ae b55
            obtain ⟨h62,h63,h64⟩:=ak g61
            obtain ⟨h65,b55⟩:=am b55
            obtain ⟨h66,b55⟩:=am b55
            cases b55
            simp(config:=cS)only[go_sem,eZt h3,eqT h4,eZf h6,eZf h42,eZf h44,eqF h45,eZt h48,eZt h52,eqT h56,h58,h59,h60,h62,h63,h64,eqT h65,eqT h66]
            refine au gb55 ?_
            simp(config:=cS)only[go_sem,eZt h3,eqT h4,eZf h6,eZf h42,eZf h44,eqF h45,eZt h48,eZt h52,eqT h56,h58,h59,h60,h62,h63,h64,eqT h65,eqT h66]
           ·cases b55
            obtain rfl:=(aj gb55).symm
            try dsimp only at h
            obtain ⟨r30,g68,h⟩:=ae h
            simp(config:=cS)only[go_sem,eZt h3,eqT h4,eZf h6,eZf h42,eZf h44,eqF h45,eZt h48,eZt h52,eqF h56]
            refine ag (jd g68) ?_
            obtain ⟨r31,g69,h⟩:=ae h
            simp(config:=cS)only[go_sem,eZt h3,eqT h4,eZf h6,eZf h42,eZf h44,eqF h45,eZt h48,eZt h52,eqF h56]
            refine ag (bj g69) ?_
            obtain ⟨r32,g70,h⟩:=ae h
            simp(config:=cS)only[go_sem,eZt h3,eqT h4,eZf h6,eZf h42,eZf h44,eqF h45,eZt h48,eZt h52,eqF h56]
            refine ag (bj g70) ?_
            obtain ⟨r33,g71,h⟩:=ae h
            simp(config:=cS)only[go_sem,eZt h3,eqT h4,eZf h6,eZf h42,eZf h44,eqF h45,eZt h48,eZt h52,eqF h56]
            refine ag (si g71) ?_
            obtain ⟨h72,h⟩:=am h
            obtain ⟨h73,h⟩:=am h
            obtain ⟨r34,g74,h⟩:=ae h
            simp(config:=cS)only[go_sem,eZt h3,eqT h4,eZf h6,eZf h42,eZf h44,eqF h45,eZt h48,eZt h52,eqF h56,eqT h72,eqT h73]
            refine ag (bj g74) ?_
            cases h
            simp(config:=cS)only[go_sem,eZt h3,eqT h4,eZf h6,eZf h42,eZf h44,eqF h45,eZt h48,eZt h52,eqF h56,eqT h72,eqT h73]
         ·cases h
          simp(config:=cS)only[go_sem,eZt h3,eqT h4,eZf h6,eZf h42,eZf h44,eqF h45,eZt h48,eZf h52]
        ·cases h
         simp(config:=cS)only[go_sem,eZt h3,eqT h4,eZf h6,eZf h42,eZf h44,eqF h45,eZf h48]
  ·cases h
   simp(config:=cS)only[go_sem,eZt h3,eqF h4]
 ·cases h
  simp(config:=cS)only[go_sem,eZf h3]
attribute [go_sem] Tryz.ntmps86 Tryz.results86
theorem oF {d:GDesk}{ties values:List Int}{res:GDesk × (List Int) × Int}(h:jq d ties values=some res):al Tryz.prog 86 [.agg (GDesk.encS d),.sl (ab eI ties),.sl (ab eI values)] [] (.tup [.agg [.ref 20000 1 0 res.1.show_.nodes.length,.ref 20001 1 0 res.1.show_.ties.length,.lit (.int .i64 res.1.show_.horizon),.lit (.int .i64 res.1.state.now),.ref 20002 1 0 res.1.state.times.length,.ref 20003 1 0 res.1.state.values.length,.lit (.bool res.1.lazy),.ref 20004 1 0 res.1.log.length],.ref 20005 1 0 res.2.1.length,.lit (.int .i64 res.2.2)]) [(20000,1,.row true (ab GNode.encO res.1.show_.nodes)),(20001,1,.row true (ab GTie.enc res.1.show_.ties)),(20002,1,.row true (ab eI res.1.state.times)),(20003,1,.row true (ab eI res.1.state.values)),(20004,1,.row true (ab aw.encO res.1.log)),(20005,1,.row true (ab eI res.2.1))]:=by
 refine ai (ra:=[.homeCell 384 0,.homeCell 384 1,.homeCell 384 4,.homeCell 384 5,.homeCell 384 7,.home 7]) (md:=mdT) hT (hi:=hi00) Tryz.func86 rfl rfl (by decide +kernel) (by simp) ?_
 unfold jq at h
 obtain ⟨r01,g1,h⟩:=ae h
 simp(config:=cS)only[go_sem]
 refine ag (lY g1) ?_
 cases h
 simp(config:=cS)only[go_sem]
end Go.Proofs.Qd
