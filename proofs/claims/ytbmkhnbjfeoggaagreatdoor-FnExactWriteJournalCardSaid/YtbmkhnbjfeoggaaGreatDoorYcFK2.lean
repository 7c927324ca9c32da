/- Functions. -/
import Derived.Test.YtbmkhnbjfeoggaaGreatDoorYcFK1
set_option linter.all false
set_option maxRecDepth 100000
set_option maxHeartbeats 4000000
namespace Go.Proofs.Qc
open Go
def mm (a:List Int)(d:Int)(e:List GNode)(f:List GTie)(g b:Int)(c:List Int)(h:Int):St:=⟨[(2,.ptr 128 1 0 0),(3,.ptr 192 1 0 0),(37,.sl (ab eI a)),(38,.lit (.int .i64 d)),(39,.lit (.int .i64 h))],[(128,1,.var [.sl (ab GNode.encS e),.sl (ab GTie.enc f),.lit (.int .i64 g)]),(192,1,.var [.lit (.int .i64 b),.sl (ab eI a),.sl (ab eI c)])],2⟩
attribute [go_sem] mm
def mn (a:List Int)(d:Int)(e:List GNode)(f:List GTie)(g b:Int)(c:List Int)(h:Int):St:=⟨[(2,.ptr 128 1 0 0),(3,.ptr 192 1 0 0),(67,.sl (ab eI a)),(68,.lit (.int .i64 d)),(69,.lit (.int .i64 h))],[(128,1,.var [.sl (ab GNode.encS e),.sl (ab GTie.enc f),.lit (.int .i64 g)]),(192,1,.var [.lit (.int .i64 b),.sl (ab eI c),.sl (ab eI a)])],2⟩
attribute [go_sem] mn
attribute [go_sem] Tryz.ntmps240 Tryz.results240
theorem yO {s:GShow}{v1:GState}{res:Bool}(h:iO s v1=some res):am Tryz.prog 240 [.agg (GShow.encS s),.agg (GState.encS v1)] [] (.lit (.bool res)) []:=by
 refine ai (ra:=[]) (md:=mdT) hT (hi:=hi00) Tryz.func240 rfl rfl (by decide +kernel) (by simp) ?_
 unfold iO at h
 obtain ⟨h1,h⟩|⟨h1,h⟩:=af h
 ·cases h
  simp(config:=cS)only[go_sem,eqT h1]
 ·obtain ⟨h2,h⟩|⟨h2,h⟩:=af h
  ·cases h
   simp(config:=cS)only[go_sem,eqF h1,eqT h2]
  ·obtain ⟨h3,h⟩|⟨h3,h⟩:=af h
   ·obtain ⟨r01,g4,h⟩:=ae h
    simp(config:=cS)only[go_sem,eqF h1,eqF h2,eqT h3]
    refine ag (pW g4) ?_
    obtain ⟨h5,h⟩|⟨h5,h⟩:=af h
    ·obtain ⟨q07,l6,h⟩:=ae h
     simp(config:=cS)only[go_sem,eZt h5]
     refine aw (m1:=.mk) (m2:=.mk) [.nf [2,3,37,38,39] [128,192]] (mm v1.times ((v1.times.length:Nat):Int) s.nodes s.ties s.horizon v1.now v1.values) l6 ?_ ?_
     ·simp(config:=cS)only[go_sem]
     ·intro nb7 v39_1 bb7 b7 gb7
      unfold dG at b7
      try dsimp only at b7
      obtain ⟨h8,b7⟩|⟨h8,b7⟩:=af b7
      ·obtain ⟨x02,g9,b7⟩:=ae b7
       obtain ⟨h10,h11,h12⟩:=ak g9
       obtain ⟨h13,b7⟩|⟨h13,b7⟩:=af b7
       ·obtain ⟨h14,b7⟩|⟨h14,b7⟩:=af b7
        ·obtain ⟨h15,b7⟩|⟨h15,b7⟩:=af b7
         ·obtain ⟨h16,b7⟩|⟨h16,b7⟩:=af b7
          ·cases b7
           obtain rfl:=(aj gb7).symm
           try dsimp only at h
           cases h
           simp(config:=cS)only[go_sem,eqT h8,h10,h11,h12,eqT h13,eqT h14,eqT h15,eqT h16]
          ·obtain ⟨h18,b7⟩|⟨h18,b7⟩:=af b7
           ·cases b7
            obtain rfl:=(aj gb7).symm
            try dsimp only at h
            cases h
            simp(config:=cS)only[go_sem,eqT h8,h10,h11,h12,eqT h13,eqT h14,eqT h15,eqF h16,eqT h18]
           ·cases b7
            simp(config:=cS)only[go_sem,eqT h8,h10,h11,h12,eqT h13,eqT h14,eqT h15,eqF h16,eqF h18]
            refine au gb7 ?_
            simp(config:=cS)only[go_sem]
         ·cases b7
          simp(config:=cS)only[go_sem,eqT h8,h10,h11,h12,eqT h13,eqT h14,eqF h15]
          refine au gb7 ?_
          simp(config:=cS)only[go_sem]
        ·cases b7
         obtain rfl:=(aj gb7).symm
         try dsimp only at h
         cases h
         simp(config:=cS)only[go_sem,eqT h8,h10,h11,h12,eqT h13,eqF h14]
       ·obtain ⟨h21,b7⟩|⟨h21,b7⟩:=af b7
        ·obtain ⟨h22,b7⟩|⟨h22,b7⟩:=af b7
         ·cases b7
          obtain rfl:=(aj gb7).symm
          try dsimp only at h
          cases h
          simp(config:=cS)only[go_sem,eqT h8,h10,h11,h12,eqF h13,eqT h21,eqT h22]
         ·obtain ⟨h24,b7⟩|⟨h24,b7⟩:=af b7
          ·cases b7
           obtain rfl:=(aj gb7).symm
           try dsimp only at h
           cases h
           simp(config:=cS)only[go_sem,eqT h8,h10,h11,h12,eqF h13,eqT h21,eqF h22,eqT h24]
          ·cases b7
           simp(config:=cS)only[go_sem,eqT h8,h10,h11,h12,eqF h13,eqT h21,eqF h22,eqF h24]
           refine au gb7 ?_
           simp(config:=cS)only[go_sem]
        ·cases b7
         simp(config:=cS)only[go_sem,eqT h8,h10,h11,h12,eqF h13,eqF h21]
         refine au gb7 ?_
         simp(config:=cS)only[go_sem]
      ·cases b7
       obtain rfl:=(aj gb7).symm
       try dsimp only at h
       obtain ⟨q06,l27,h⟩:=ae h
       simp(config:=cS)only[go_sem,eqF h8]
       refine aw (m1:=.mk) (m2:=.mk) [.nf [2,3,67,68,69] [128,192]] (mn v1.values ((v1.values.length:Nat):Int) s.nodes s.ties s.horizon v1.now v1.times) l27 ?_ ?_
       ·simp(config:=cS)only[go_sem]
       ·intro nb28 v69_2 bb28 b28 gb28
        unfold dH at b28
        try dsimp only at b28
        obtain ⟨h29,b28⟩|⟨h29,b28⟩:=af b28
        ·obtain ⟨x03,g30,b28⟩:=ae b28
         obtain ⟨h31,h32,h33⟩:=ak g30
         obtain ⟨r04,g34,b28⟩:=ae b28
         simp(config:=cS)only[go_sem,eqT h29,h31,h32,h33]
         refine ag (qI g34) ?_
         obtain ⟨h35,b28⟩|⟨h35,b28⟩:=af b28
         ·obtain ⟨x05,g36,b28⟩:=ae b28
          obtain ⟨h37,h38,h39⟩:=ak g36
          obtain ⟨h40,b28⟩|⟨h40,b28⟩:=af b28
          ·cases b28
           simp(config:=cS)only[go_sem,eqT h35,h37,h38,h39,eqT h40]
           refine au gb28 ?_
           simp(config:=cS)only[go_sem]
          ·cases b28
           obtain rfl:=(aj gb28).symm
           try dsimp only at h
           cases h
           simp(config:=cS)only[go_sem,eqT h35,h37,h38,h39,eqF h40]
         ·obtain ⟨h42,b28⟩|⟨h42,b28⟩:=af b28
          ·cases b28
           simp(config:=cS)only[go_sem,eqF h35,eqT h42]
           refine au gb28 ?_
           simp(config:=cS)only[go_sem]
          ·cases b28
           obtain rfl:=(aj gb28).symm
           try dsimp only at h
           cases h
           simp(config:=cS)only[go_sem,eqF h35,eqF h42]
        ·cases b28
         obtain rfl:=(aj gb28).symm
         try dsimp only at h
         cases h
         simp(config:=cS)only[go_sem,eqF h29]
    ·cases h
     simp(config:=cS)only[go_sem,eZf h5]
   ·cases h
    simp(config:=cS)only[go_sem,eqF h1,eqF h2,eqF h3]
attribute [go_sem] Tryz.ntmps162 Tryz.results162
theorem yP {s:GShow}{v1:GState}{res:Bool}(h:iP s v1=some res):am Tryz.prog 162 [.agg (GShow.encS s),.agg (GState.encS v1)] [] (.lit (.bool res)) []:=by
 refine ai (ra:=[]) (md:=mdT) hT (hi:=hi00) Tryz.func162 rfl rfl (by decide +kernel) (by simp) ?_
 unfold iP at h
 obtain ⟨r01,g1,h⟩:=ae h
 simp(config:=cS)only[go_sem]
 refine ag (oB g1) ?_
 obtain ⟨h2,h⟩|⟨h2,h⟩:=af h
 ·obtain ⟨r02,g3,h⟩:=ae h
  simp(config:=cS)only[go_sem,eZt h2]
  refine ag (yO g3) ?_
  cases h
  simp(config:=cS)only[go_sem,eZt h2]
 ·cases h
  simp(config:=cS)only[go_sem,eZf h2]
attribute [go_sem] Tryz.ntmps47 Tryz.results47
theorem ud {a b:GState}{res:Bool}(h:fE a b=some res):am Tryz.prog 47 [.agg (GState.encS a),.agg (GState.encS b)] [] (.lit (.bool res)) []:=by
 refine ai (ra:=[]) (md:=mdT) hT (hi:=hi00) Tryz.func47 rfl rfl (by decide +kernel) (by simp) ?_
 unfold fE at h
 obtain ⟨h1,h⟩|⟨h1,h⟩:=af h
 ·obtain ⟨r01,g2,h⟩:=ae h
  simp(config:=cS)only[go_sem,eqT h1]
  refine ag (eL g2) ?_
  obtain ⟨h3,h⟩|⟨h3,h⟩:=af h
  ·obtain ⟨r02,g4,h⟩:=ae h
   simp(config:=cS)only[go_sem,eqT h1,eZt h3]
   refine ag (eL g4) ?_
   cases h
   simp(config:=cS)only[go_sem,eqT h1,eZt h3]
  ·cases h
   simp(config:=cS)only[go_sem,eqT h1,eZf h3]
 ·cases h
  simp(config:=cS)only[go_sem,eqF h1]
attribute [go_sem] Tryz.ntmps94 Tryz.results94
theorem rN {d:GDesk}{res:Bool}(h:dN d=some res):am Tryz.prog 94 [.agg (GDesk.encS d)] [] (.lit (.bool res)) []:=by
 refine ai (ra:=[]) (md:=mdT) hT (hi:=hi00) Tryz.func94 rfl rfl (by decide +kernel) (by simp) ?_
 unfold dN at h
 obtain ⟨r01,g1,h⟩:=ae h
 simp(config:=cS)only[go_sem]
 refine ag (yP g1) ?_
 obtain ⟨h2,h⟩|⟨h2,h⟩:=af h
 ·obtain ⟨h3,h⟩|⟨h3,h⟩:=af h
  ·obtain ⟨r02,g4,h⟩:=ae h
   simp(config:=cS)only[go_sem,eZt h2,eqT h3]
   refine ag (vH g4) ?_
   obtain ⟨h5,h⟩|⟨h5,h⟩:=af h
   ·obtain ⟨r03,g6,h⟩:=ae h
    simp(config:=cS)only[go_sem,eZt h2,eqT h3,eZt h5]
    refine ag (ud g6) ?_
    cases h
    simp(config:=cS)only[go_sem,eZt h2,eqT h3,eZt h5]
   ·cases h
    simp(config:=cS)only[go_sem,eZt h2,eqT h3,eZf h5]
  ·cases h
   simp(config:=cS)only[go_sem,eZt h2,eqF h3]
 ·cases h
  simp(config:=cS)only[go_sem,eZf h2]
attribute [go_sem] Tryz.ntmps151 Tryz.results151
theorem pt {n:Int}{res:ByteArray}(h:ey n=some res):am Tryz.prog 151 [.lit (.int .i64 n)] [] (.lit (.string res)) []:=by
 refine ai (ra:=[]) (md:=mdT) hT (hi:=hi00) Tryz.func151 rfl rfl (by decide +kernel) (by simp) ?_
 unfold ey at h
 obtain ⟨r01,g1,h⟩:=ae h
 simp(config:=cS)only[go_sem]
 refine ag (zQ g1) ?_
 cases h
 simp(config:=cS)only[go_sem]
attribute [go_sem] Tryz.ntmps164 Tryz.results164
theorem vk {l:List ByteArray}{by_ res:ByteArray}(h:jE l by_=some res):am Tryz.prog 164 [.sl (ab eS l),.lit (.string by_)] [] (.lit (.string res)) []:=by
 refine ai (ra:=[]) (md:=mdT) hT (hi:=hi00) Tryz.func164 rfl rfl (by decide +kernel) (by simp) ?_
 unfold jE at h
 obtain ⟨r01,g1,h⟩:=ae h
 simp(config:=cS)only[go_sem]
 refine ag (zR g1) ?_
 cases h
 simp(config:=cS)only[go_sem]
attribute [go_sem] Tryz.ntmps243 Tryz.results243
theorem xD {parts:List ByteArray}{by_ res:ByteArray}(h:jN parts by_=some res):am Tryz.prog 243 [.sl (ab eS parts),.lit (.string by_)] [] (.lit (.string res)) []:=by
 refine ai (ra:=[]) (md:=mdT) hT (hi:=hi00) Tryz.func243 rfl rfl (by decide +kernel) (by simp) ?_
 unfold jN at h
 obtain ⟨h1,h⟩|⟨h1,h⟩:=af h
 ·cases h
  simp(config:=cS)only[go_sem,eqT h1]
 ·obtain ⟨r01,g2,h⟩:=ae h
  simp(config:=cS)only[go_sem,eqF h1]
  refine ag (vk g2) ?_
  cases h
  simp(config:=cS)only[go_sem]
def lN (b:List Int)(c:Int):(Int × (List ByteArray))→St
 | (d,a)=>⟨[(3,.ref 255 1 0 a.length),(6,.sl (ab eI b)),(7,.lit (.int .i64 c)),(8,.lit (.int .i64 d))],[(255,1,.row true (ab eS a))],2⟩
attribute [go_sem] lN
attribute [go_sem] Tryz.ntmps165 Tryz.results165
theorem mG {list:List Int}{res:ByteArray}(h:dy list=some res):am Tryz.prog 165 [.sl (ab eI list)] [] (.lit (.string res)) []:=by
 refine ai (ra:=[]) (md:=mdT) hT (hi:=hi00) Tryz.func165 rfl rfl (by decide +kernel) (by simp) ?_
 unfold dy at h
 obtain ⟨q04,l1,h⟩:=ae h
 simp(config:=cS)only[go_sem]
 refine aw (m1:=.mk) (m2:=.mk) [.home 3,.nf [3,6,7,8] [255]] (lN list ((list.length:Nat):Int)) l1 ?_ ?_
 ·simp(config:=cS)only[go_sem]
 ·intro nb2 sb2 bb2 b2 gb2
  obtain ⟨v8_1,parts_1⟩:=sb2
  unfold gZ at b2
  try dsimp only at b2
  obtain ⟨h3,b2⟩|⟨h3,b2⟩:=af b2
  ·obtain ⟨x01,g4,b2⟩:=ae b2
   obtain ⟨h5,h6,h7⟩:=ak g4
   obtain ⟨r02,g8,b2⟩:=ae b2
   simp(config:=cS)only[go_sem,eqT h3,h5,h6,h7]
   refine ag (pt g8) ?_
   obtain ⟨h9,b2⟩:=al b2
   obtain ⟨h10,b2⟩:=al b2
   cases b2
   simp(config:=cS)only[go_sem,eqT h9,eqT h10]
   refine au gb2 ?_
   simp(config:=cS)only[go_sem]
  ·cases b2
   obtain rfl:=(aj gb2).symm
   try dsimp only at h
   obtain ⟨r03,g12,h⟩:=ae h
   simp(config:=cS)only[go_sem,eqF h3]
   refine ag (xD g12) ?_
   cases h
   simp(config:=cS)only[go_sem]
@[go_sem] def hi96_1:DT:=.i2 0 (.i2 1 (.i1 3 (.i1 4 (.i1 6 (.i1 7 (.i1 9 (.i1 10 (.i0 2 [3,4,6,7,9,10] (.i0 5 [6,7,9,10] (.i0 8 [9,10] (.i2 11 (.i2 12 (.i2 13 (.i2 14 .nil))))))))))))))
def hi96:Hint where
 acts:=fun _=>[]
 draws:=fun
  | 1=>⟨hi96_1,[[],[0],[0,1],[],[3],.range 5,[],[6],.range 8,[],[9],.range 11,.range 12,.range 13,.range 14],.range 15⟩
  | _=>⟨.nil,[],[]⟩
theorem Nq (i:Nat):hi96.acts i=[]:=rfl
theorem Nr (i:Nat):hi96.views i=none:=rfl
attribute [go_sem] Nq Nr Tryz.ntmps96 Tryz.results96
@[go_sem] theorem OQ:(hi96.draws 1).order=hi96_1:=rfl
theorem sS {e:GEntry}{res:ByteArray}(h:bM e=some res):am Tryz.prog 96 [.agg (GEntry.encS e)] [] (.lit (.string res)) []:=by
 refine ai (ra:=[]) (md:=mdT) hT (hi:=hi96) Tryz.func96 rfl rfl (by decide +kernel) (by simp) ?_
 unfold bM at h
 obtain ⟨r01,g1,h⟩:=ae h
 simp(config:=cS)only[go_sem]
 refine ag (pt g1) ?_
 obtain ⟨r02,g2,h⟩:=ae h
 simp(config:=cS)only[go_sem]
 refine ag (mG g2) ?_
 obtain ⟨r03,g3,h⟩:=ae h
 simp(config:=cS)only[go_sem]
 refine ag (mG g3) ?_
 obtain ⟨r04,g4,h⟩:=ae h
 simp(config:=cS)only[go_sem]
 refine ag (mG g4) ?_
 obtain ⟨r05,g5,h⟩:=ae h
 simp(config:=cS)only[go_sem]
 refine ag (vk g5) ?_
 cases h
 simp(config:=cS)only[go_sem]
end Go.Proofs.Qc
